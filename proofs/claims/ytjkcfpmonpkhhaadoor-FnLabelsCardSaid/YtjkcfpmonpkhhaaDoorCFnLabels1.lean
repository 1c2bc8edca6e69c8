/-
What is proved: parts of the law FnLabels: what the functions that it reaches compute, and the plain law.
Conditions: those of each theorem.
-/
import Derived.ArgAppend
import Derived.Below
import Derived.BigQuiet
import Derived.Deep.AppendLies
import Derived.Deep.CutBlock
import Derived.Deep.DeepCutAuto
import Derived.Deep.Draws
import Derived.Deep.LoopGhost
import Derived.Deep.OwnRows
import Derived.Deep.QuietTactic
import Derived.Deep.RegionHeld3
import Derived.Deep.RegionLaw
import Derived.KernelRfl
import Derived.Laws.BitsLemmas
import Derived.Laws.BytesArg
import Derived.Laws.CopyOwn
import Derived.Laws.Cover1
import Derived.Laws.IdiomCopy
import Derived.Laws.IdiomStrings
import Derived.Laws.MakeOwn
import Derived.Laws.OwnMore
import Derived.Laws.Rows
import Derived.Laws.Slices
import Derived.Lib.AppendStr
import Derived.Lib.ConvBytes
import Derived.Maps.AppendAt
import Derived.OrdersHeld
import Derived.OwnWalk
import Derived.RowKit
import Derived.RowKit3
import Derived.Shelf.Abstract
import Derived.Shelf.Strings.SlTrimAscii
import Derived.Shelf.Strings.Trim
import Derived.StillTailTactics
import Derived.Tactics
import Derived.Test.YtjkcfpmonpkhhaaDoorProg
import Derived.WalkKit
import Derived.WideLaws
import Derived.Test.YtjkcfpmonpkhhaaDoorCFnLabels0
namespace Go.Proofs
open Go.Shelf
def Tryd.lays160_ren : Go.Shelf.Ren := ⟨fun | 160 => 109 | 232 => 111 | 231 => 110 | 227 => 112 | 234 => 114 | 233 => 113 | 236 => 116 | 235 => 115 | 228 => 117 | 271 => 120 | 151 => 119 | 197 => 118 | 120 => 123 | 152 => 122 | 260 => 121 | 137 => 124 | 119 => 125 | 224 => 126 | 225 => 127 | 217 => 128 | 266 => 129 | n => n, fun | 9 => 9 | 4 => 4 | 3 => 3 | 5 => 5 | 117 => 115 | 116 => 114 | 0 => 0 | 124 => 118 | 21 => 21 | 105 => 120 | 46 => 88 | 119 => 124 | 139 => 127 | 138 => 126 | n => n, fun | 3 => 0 | 4 => 1 | n => n⟩
theorem Tryd.lays160 : Go.Proofs.Lays.n160 Tryd.prog Tryd.lays160_ren := {
 mixed := by kernel_rfl
 f119 := Tryd.func125.trans (congrArg some (by kernel_rfl))
 f120 := Tryd.func123.trans (congrArg some (by kernel_rfl))
 f137 := Tryd.func124.trans (congrArg some (by kernel_rfl))
 f151 := Tryd.func119.trans (congrArg some (by kernel_rfl))
 f152 := Tryd.func122.trans (congrArg some (by kernel_rfl))
 f160 := Tryd.func109.trans (congrArg some (by kernel_rfl))
 f197 := Tryd.func118.trans (congrArg some (by kernel_rfl))
 f217 := Tryd.func128.trans (congrArg some (by kernel_rfl))
 f224 := Tryd.func126.trans (congrArg some (by kernel_rfl))
 f225 := Tryd.func127.trans (congrArg some (by kernel_rfl))
 f227 := Tryd.func112.trans (congrArg some (by kernel_rfl))
 f228 := Tryd.func117.trans (congrArg some (by kernel_rfl))
 f231 := Tryd.func110.trans (congrArg some (by kernel_rfl))
 f232 := Tryd.func111.trans (congrArg some (by kernel_rfl))
 f233 := Tryd.func113.trans (congrArg some (by kernel_rfl))
 f234 := Tryd.func114.trans (congrArg some (by kernel_rfl))
 f235 := Tryd.func115.trans (congrArg some (by kernel_rfl))
 f236 := Tryd.func116.trans (congrArg some (by kernel_rfl))
 f260 := Tryd.func121.trans (congrArg some (by kernel_rfl))
 f266 := Tryd.func129.trans (congrArg some (by kernel_rfl))
 f271 := Tryd.func120.trans (congrArg some (by kernel_rfl))
 t0 := Tryd.underlying0
 a0 := Tryd.isAgg0
 z0 := Tryd.sizeOf0
 v0 := Tryd.zeroValue0
 t3 := Tryd.underlying3
 a3 := Tryd.isAgg3
 z3 := Tryd.sizeOf3
 v3 := Tryd.zeroValue3
 t4 := Tryd.underlying4
 a4 := Tryd.isAgg4
 z4 := Tryd.sizeOf4
 v4 := Tryd.zeroValue4
 t5 := Tryd.underlying5
 a5 := Tryd.isAgg5
 z5 := Tryd.sizeOf5
 v5 := Tryd.zeroValue5
 t9 := Tryd.underlying9
 a9 := Tryd.isAgg9
 z9 := Tryd.sizeOf9
 v9 := Tryd.zeroValue9
 t21 := Tryd.underlying21
 a21 := Tryd.isAgg21
 z21 := Tryd.sizeOf21
 v21 := Tryd.zeroValue21
 t46 := Tryd.underlying88
 a46 := Tryd.isAgg88
 z46 := Tryd.sizeOf88
 v46 := Tryd.zeroValue88
 t105 := Tryd.underlying120
 a105 := Tryd.isAgg120
 z105 := Tryd.sizeOf120
 v105 := Tryd.zeroValue120
 t116 := Tryd.underlying114
 a116 := Tryd.isAgg114
 z116 := Tryd.sizeOf114
 t117 := Tryd.underlying115
 a117 := Tryd.isAgg115
 z117 := Tryd.sizeOf115
 v117 := Tryd.zeroValue115
 t119 := Tryd.underlying124
 a119 := Tryd.isAgg124
 z119 := Tryd.sizeOf124
 t124 := Tryd.underlying118
 a124 := Tryd.isAgg118
 z124 := Tryd.sizeOf118
 v124 := Tryd.zeroValue118
 t138 := Tryd.underlying126
 a138 := Tryd.isAgg126
 z138 := Tryd.sizeOf126
 v138 := Tryd.zeroValue126
 t139 := Tryd.underlying127
 a139 := Tryd.isAgg127
 z139 := Tryd.sizeOf127
 v139 := Tryd.zeroValue127
 g3 := by kernel_rfl
 g4 := by kernel_rfl }
end Go.Proofs

namespace Go.Proofs.YtjkcfpmonpkhhaaDoor.Pr
open Go.RowKit Go.Proofs.YtjkcfpmonpkhhaaDoorW.PrintWords Go.Proofs.YtjkcfpmonpkhhaaDoorW.PrintLast Go.Proofs.YtjkcfpmonpkhhaaDoorW.PrintMore
attribute [local go_sem] max2_int min2_int max_two min_two max_three min_three max_four min_four   -- for this text's walks alone
set_option linter.unusedVariables false
set_option linter.unusedSimpArgs false
def errW : Option Int → Value
 | none => .nilIface
 | some c => .iface 0 (.int .i64 c)
theorem errW_none : errW none = .nilIface := rfl
theorem errW_some (c : Int) : errW (some c) = .iface 0 (.int .i64 c) := rfl
theorem info3 : (Tryd.prog.info? 3).map (fun i => (i.zero, i.size, i.bytes)) = some (some (.int .i64 0), 1, 8) := by kernel_rfl
theorem info9 : (Tryd.prog.info? 9).map (fun i => (i.zero, i.size, i.bytes)) = some (some (.string ⟨#[]⟩), 1, 16) := by kernel_rfl
theorem info26 : (Tryd.prog.info? 26).map (fun i => (i.zero, i.size, i.bytes)) = some (some (.agg #[(.int .i64 0), (.int .i64 0), (.int .i64 0), (.int .i64 0)]), 4, 32) := by kernel_rfl
theorem info29 : (Tryd.prog.info? 29).map (fun i => (i.zero, i.size, i.bytes)) = some (some (.agg #[(.string ⟨#[]⟩), (.int .i64 0), (.int .i64 0)]), 3, 32) := by kernel_rfl
structure S29 where
 f0 : ByteArray
 f1 : Int
 f2 : Int
def z29 : S29 := ⟨(⟨#[]⟩ : ByteArray), (0 : Int), (0 : Int)⟩
def k29 : Kd S29 := Kd.iso (Kd.pair Kd.string (Kd.pair (Kd.int .i64) (Kd.int .i64))) (fun x : S29 => (x.f0, x.f1, x.f2))
theorem k29_heap : Kd.Heap k29 := Kd.heap_iso _ (Kd.heap_pair Kd.heap_string (Kd.heap_pair (Kd.heap_int .i64) (Kd.heap_int .i64)))
theorem k29_open {w : World} {x : S29} {cs : List Value} (h : k29.K w x cs) : cs = [.string x.f0, .int .i64 x.f1, .int .i64 x.f2] := by
 obtain ⟨_, _, rfl, rfl, ⟨_, _, rfl, rfl, rfl⟩⟩ := h
 exact rfl
theorem k29_mkM (w : World) (base : Nat) (ok : Nat → Prop) (x : S29)  : k29.M w base ok x [.string x.f0, .int .i64 x.f1, .int .i64 x.f2] := ⟨[.string x.f0], [.int .i64 x.f1, .int .i64 x.f2], rfl, rfl, ⟨[.int .i64 x.f1], [.int .i64 x.f2], rfl, rfl, rfl⟩⟩
def rd_T29 (xs : List S29) (i : Int) : S29 := xs.getD i.toNat z29
theorem at_T29 {w : World} {A : Option Addr} {n : Nat} {xs : List S29} (h : Kd.C k29 w A n xs) (i : Int) (h0 : 0 ≤ i) (h1 : i < n) : ∃ ad , A = some ad ∧ w.cell? (ad.add (i.toNat * 3)) = some (.string (rd_T29 xs i).f0) ∧ w.cell? ⟨(ad.add (i.toNat * 3)).block, (ad.add (i.toNat * 3)).off + 1, none⟩ = some (.int .i64 (rd_T29 xs i).f1) ∧ w.cell? ⟨(ad.add (i.toNat * 3)).block, (ad.add (i.toNat * 3)).off + 2, none⟩ = some (.int .i64 (rd_T29 xs i).f2) := by
 obtain ⟨ad, c, e, _, hK, hc0⟩ := Kd.C_get h z29 i h0 h1
 have hc : ∀ j u, c[j]? = some u → w.cell? (ad.add (i.toNat * 3 + j)) = some u := hc0
 obtain rfl := k29_open hK
 exact ⟨ad, e, hc 0 _ rfl, by rw [← add_field _ _ 1 (by omega)]; exact hc 1 _ rfl, by rw [← add_field _ _ 2 (by omega)]; exact hc 2 _ rfl⟩
structure S26 where
 f0 : Int
 f1 : Int
 f2 : Int
 f3 : Int
def z26 : S26 := ⟨(0 : Int), (0 : Int), (0 : Int), (0 : Int)⟩
def k26 : Kd S26 := Kd.iso (Kd.pair (Kd.int .i64) (Kd.pair (Kd.int .i64) (Kd.pair (Kd.int .i64) (Kd.int .i64)))) (fun x : S26 => (x.f0, x.f1, x.f2, x.f3))
theorem k26_open {w : World} {x : S26} {cs : List Value} (h : k26.K w x cs) : cs = [.int .i64 x.f0, .int .i64 x.f1, .int .i64 x.f2, .int .i64 x.f3] := by
 obtain ⟨_, _, rfl, rfl, ⟨_, _, rfl, rfl, ⟨_, _, rfl, rfl, rfl⟩⟩⟩ := h
 exact rfl
theorem k26_mk (w : World) (x : S26)  : k26.K w x [.int .i64 x.f0, .int .i64 x.f1, .int .i64 x.f2, .int .i64 x.f3] := ⟨[.int .i64 x.f0], [.int .i64 x.f1, .int .i64 x.f2, .int .i64 x.f3], rfl, rfl, ⟨[.int .i64 x.f1], [.int .i64 x.f2, .int .i64 x.f3], rfl, rfl, ⟨[.int .i64 x.f2], [.int .i64 x.f3], rfl, rfl, rfl⟩⟩⟩
theorem k26_mkM (w : World) (base : Nat) (ok : Nat → Prop) (x : S26)  : k26.M w base ok x [.int .i64 x.f0, .int .i64 x.f1, .int .i64 x.f2, .int .i64 x.f3] := ⟨[.int .i64 x.f0], [.int .i64 x.f1, .int .i64 x.f2, .int .i64 x.f3], rfl, rfl, ⟨[.int .i64 x.f1], [.int .i64 x.f2, .int .i64 x.f3], rfl, rfl, ⟨[.int .i64 x.f2], [.int .i64 x.f3], rfl, rfl, rfl⟩⟩⟩
def rd_T26 (xs : List S26) (i : Int) : S26 := xs.getD i.toNat z26
theorem at_T26 {w : World} {A : Option Addr} {n : Nat} {xs : List S26} (h : Kd.C k26 w A n xs) (i : Int) (h0 : 0 ≤ i) (h1 : i < n) : ∃ ad , A = some ad ∧ w.cell? (ad.add (i.toNat * 4)) = some (.int .i64 (rd_T26 xs i).f0) ∧ w.cell? ⟨(ad.add (i.toNat * 4)).block, (ad.add (i.toNat * 4)).off + 1, none⟩ = some (.int .i64 (rd_T26 xs i).f1) ∧ w.cell? ⟨(ad.add (i.toNat * 4)).block, (ad.add (i.toNat * 4)).off + 2, none⟩ = some (.int .i64 (rd_T26 xs i).f2) ∧ w.cell? ⟨(ad.add (i.toNat * 4)).block, (ad.add (i.toNat * 4)).off + 3, none⟩ = some (.int .i64 (rd_T26 xs i).f3) := by
 obtain ⟨ad, c, e, _, hK, hc0⟩ := Kd.C_get h z26 i h0 h1
 have hc : ∀ j u, c[j]? = some u → w.cell? (ad.add (i.toNat * 4 + j)) = some u := hc0
 obtain rfl := k26_open hK
 exact ⟨ad, e, hc 0 _ rfl, by rw [← add_field _ _ 1 (by omega)]; exact hc 1 _ rfl, by rw [← add_field _ _ 2 (by omega)]; exact hc 2 _ rfl, by rw [← add_field _ _ 3 (by omega)]; exact hc 3 _ rfl⟩
def idxP {α : Type} (p : α → Bool) (l : List α) : Int := if l.any p then (l.findIdx p : Int) else -1
theorem idxP_hit {α : Type} (p : α → Bool) (z : α) (l : List α) (k : Nat) (hk : k < l.length) (h : p (l.getD k z) = true) (hb : ∀ j, j < k → p (l.getD j z) = false) : idxP p l = k := by
 have hf : l.findIdx p = k := by
  rw [List.findIdx_eq hk]
  refine ⟨by rw [List.getD_eq_getElem?_getD, List.getElem?_eq_getElem hk] at h; exact h, fun j hj => ?_⟩
  have := hb j hj
  rw [List.getD_eq_getElem?_getD, List.getElem?_eq_getElem (by omega)] at this
  exact this
 unfold idxP
 rw [if_pos, hf]
 rw [List.any_eq_true]
 refine ⟨l[k], List.getElem_mem hk, ?_⟩
 rw [List.getD_eq_getElem?_getD, List.getElem?_eq_getElem hk] at h
 exact h
theorem idxP_miss {α : Type} (p : α → Bool) (z : α) (l : List α) (hb : ∀ j, j < l.length → p (l.getD j z) = false) : idxP p l = -1 := by
 unfold idxP
 rw [if_neg]
 rw [List.any_eq_true]
 rintro ⟨x, hx, hp⟩
 obtain ⟨j, hj, rfl⟩ := List.mem_iff_getElem.1 hx
 have := hb j hj
 rw [List.getD_eq_getElem?_getD, List.getElem?_eq_getElem hj] at this
 rw [show (some l[j]).getD z = l[j] from rfl, hp] at this
 cases this
theorem idxP_any {α : Type} (p : α → Bool) (l : List α) : decide (0 ≤ idxP p l) = l.any p := by
 unfold idxP
 split
 ·
  rename_i h
  rw [h]
  simp
 ·
  rename_i h
  rw [Bool.eq_false_iff.mpr h]
  rfl
set_option maxHeartbeats 4000000 in
theorem idx_Label.calls (p : S29 → Bool) (g : Nat) (lb : Array Value) (eg : ∀ args w, (callFunc g args).run Tryd.prog w = .ok (.enter g args) w) (A0 : Option Addr) (c0 : Nat) (l0 : List S29) (w : World) (hr0 : Kd.C k29 w A0 l0.length l0) (hc0 : l0.length ≤ c0)
  (hp : ∀ (W : World) (x : S29), x ∈ l0 → Below w.heap.size w W → Calls Tryd.prog g (#[.agg #[.string x.f0, .int .i64 x.f1, .int .i64 x.f2]] ++ lb) W fun e w' => e = .returned (.bool (p x)) ∧ Below w.heap.size w w') :
  Calls Tryd.prog 96 #[.slice A0 l0.length c0, .func (.func g) #[] lb] w fun e w' => e = .returned (.int .i64 (idxP p l0)) ∧ Below w.heap.size w w' := by
 have hL : l0.length ≤ 9223372036854775807 := hr0.2.1
 have HP := Aside0.mk hp
 have HR := Aside0.mk hr0
 clear hp hr0
 go_enter Tryd.func96, Tryd.ntmps96
 go_wp2
 go_loopg [5, 8] l0.length (fun gg _ s8 wr => ∃ kk : Nat, kk ≤ l0.length ∧ l0.length - kk ≤ gg ∧ s8 = .int .i64 kk ∧ Aside0 (Below w.heap.size w wr) ∧ Aside0 (∀ j, j < kk → p (l0.getD j z29) = false))
 case atStart => exact ⟨0, Nat.zero_le _, by omega, rfl, ⟨Below.refl _ w⟩, ⟨fun j hj => absurd hj (Nat.not_lt_zero _)⟩⟩
 case round =>
  obtain ⟨kk, hkk, hg, rfl, BW, AA⟩ := hrel
  by_cases hlt : kk < l0.length
  ·
   have hltz : (kk : Int) < (l0.length : Int) := by omega
   have hk0 : (0 : Int) ≤ (kk : Int) := by omega
   obtain ⟨ad, e0, hx0, hx1, hx2⟩ := at_T29 HR.out (kk : Int) hk0 hltz
   replace hx0 := (BW.out.cell (World.block_lt_of_cell? w _ hx0)).trans hx0
   replace hx1 := (BW.out.cell (World.block_lt_of_cell? w _ hx1)).trans hx1
   replace hx2 := (BW.out.cell (World.block_lt_of_cell? w _ hx2)).trans hx2
   have hm : rd_T29 l0 (kk : Int) ∈ l0 := by
    show l0.getD (kk : Int).toNat _ ∈ l0
    rw [Int.toNat_natCast, List.getD_eq_getElem?_getD, List.getElem?_eq_getElem hlt]
    exact List.getElem_mem hlt
   have hcall := HP.out wr (rd_T29 l0 (kk : Int)) hm BW.out
   have hpk : Aside0 (p (rd_T29 l0 (kk : Int)) = p (l0.getD kk z29)) := ⟨rfl⟩
   clear hm
   generalize rd_T29 l0 (kk : Int) = y at hx0 hx1 hx2 hcall hpk
   subst e0
   rw [Int.toNat_natCast] at hx0 hx1 hx2
   cases hq : p y with
   | true =>
    rw [hq] at hcall
    go_wp2_with (go_at_fn g; refine hcall.mono ?_; rintro e w' ⟨rfl, hb'⟩)
    go_ret
    refine ⟨?_, hb'⟩
    rw [idxP_hit p z29 l0 kk hlt (hpk.out.symm.trans hq) AA.out]
    rfl
   | false =>
    rw [hq] at hcall
    go_wp2_with (go_at_fn g; refine hcall.mono ?_; rintro e w' ⟨rfl, hb'⟩)
    go_roundg (l0.length - (kk + 1))
    case measure => omega
    case rel =>
     refine ⟨kk + 1, by omega, by omega, by go_num, ⟨hb'⟩, ⟨fun j hj => ?_⟩⟩
     by_cases e : j = kk
     ·
      subst e
      exact hpk.out.symm.trans hq
     ·
      exact AA.out j (by omega)
  ·
   have hltz : ¬ (kk : Int) < (l0.length : Int) := by omega
   have hkl : kk = l0.length := by omega
   go_wp2
   go_ret
   refine ⟨?_, BW.out⟩
   rw [idxP_miss p z29 l0 (fun j hj => AA.out j (by omega))]
   rfl
set_option maxHeartbeats 4000000 in
theorem cont_Label.calls (p : S29 → Bool) (g : Nat) (lb : Array Value) (eg : ∀ args w, (callFunc g args).run Tryd.prog w = .ok (.enter g args) w) (A0 : Option Addr) (c0 : Nat) (l0 : List S29) (w : World) (hr0 : Kd.C k29 w A0 l0.length l0) (hc0 : l0.length ≤ c0)
  (hp : ∀ (W : World) (x : S29), x ∈ l0 → Below w.heap.size w W → Calls Tryd.prog g (#[.agg #[.string x.f0, .int .i64 x.f1, .int .i64 x.f2]] ++ lb) W fun e w' => e = .returned (.bool (p x)) ∧ Below w.heap.size w w') :
  Calls Tryd.prog 61 #[.slice A0 l0.length c0, .func (.func g) #[] lb] w fun e w' => e = .returned (.bool (l0.any p)) ∧ Below w.heap.size w w' := by
 rw [← idxP_any p l0]
 have hcon := idx_Label.calls p g lb eg A0 c0 l0 w hr0 hc0 hp
 generalize idxP p l0 = r at hcon ⊢
 have HC := Aside0.mk hcon
 clear hcon hp hr0
 go_enter Tryd.func61, Tryd.ntmps61
 go_wp2_with (go_at_call 96; refine HC.out.mono ?_; rintro e w' ⟨rfl, hb'⟩)
 go_ret
 exact ⟨rfl, hb'⟩
set_option maxHeartbeats 4000000 in
theorem idx_Box.calls (p : S26 → Bool) (g : Nat) (lb : Array Value) (eg : ∀ args w, (callFunc g args).run Tryd.prog w = .ok (.enter g args) w) (A0 : Option Addr) (c0 : Nat) (l0 : List S26) (w : World) (hr0 : Kd.C k26 w A0 l0.length l0) (hc0 : l0.length ≤ c0)
  (hp : ∀ (W : World) (x : S26), x ∈ l0 → Below w.heap.size w W → Calls Tryd.prog g (#[.agg #[.int .i64 x.f0, .int .i64 x.f1, .int .i64 x.f2, .int .i64 x.f3]] ++ lb) W fun e w' => e = .returned (.bool (p x)) ∧ Below w.heap.size w w') :
  Calls Tryd.prog 100 #[.slice A0 l0.length c0, .func (.func g) #[] lb] w fun e w' => e = .returned (.int .i64 (idxP p l0)) ∧ Below w.heap.size w w' := by
 have hL : l0.length ≤ 9223372036854775807 := hr0.2.1
 have HP := Aside0.mk hp
 have HR := Aside0.mk hr0
 clear hp hr0
 go_enter Tryd.func100, Tryd.ntmps100
 go_wp2
 go_loopg [5, 8] l0.length (fun gg _ s8 wr => ∃ kk : Nat, kk ≤ l0.length ∧ l0.length - kk ≤ gg ∧ s8 = .int .i64 kk ∧ Aside0 (Below w.heap.size w wr) ∧ Aside0 (∀ j, j < kk → p (l0.getD j z26) = false))
 case atStart => exact ⟨0, Nat.zero_le _, by omega, rfl, ⟨Below.refl _ w⟩, ⟨fun j hj => absurd hj (Nat.not_lt_zero _)⟩⟩
 case round =>
  obtain ⟨kk, hkk, hg, rfl, BW, AA⟩ := hrel
  by_cases hlt : kk < l0.length
  ·
   have hltz : (kk : Int) < (l0.length : Int) := by omega
   have hk0 : (0 : Int) ≤ (kk : Int) := by omega
   obtain ⟨ad, e0, hx0, hx1, hx2, hx3⟩ := at_T26 HR.out (kk : Int) hk0 hltz
   replace hx0 := (BW.out.cell (World.block_lt_of_cell? w _ hx0)).trans hx0
   replace hx1 := (BW.out.cell (World.block_lt_of_cell? w _ hx1)).trans hx1
   replace hx2 := (BW.out.cell (World.block_lt_of_cell? w _ hx2)).trans hx2
   replace hx3 := (BW.out.cell (World.block_lt_of_cell? w _ hx3)).trans hx3
   have hm : rd_T26 l0 (kk : Int) ∈ l0 := by
    show l0.getD (kk : Int).toNat _ ∈ l0
    rw [Int.toNat_natCast, List.getD_eq_getElem?_getD, List.getElem?_eq_getElem hlt]
    exact List.getElem_mem hlt
   have hcall := HP.out wr (rd_T26 l0 (kk : Int)) hm BW.out
   have hpk : Aside0 (p (rd_T26 l0 (kk : Int)) = p (l0.getD kk z26)) := ⟨rfl⟩
   clear hm
   generalize rd_T26 l0 (kk : Int) = y at hx0 hx1 hx2 hx3 hcall hpk
   subst e0
   rw [Int.toNat_natCast] at hx0 hx1 hx2 hx3
   cases hq : p y with
   | true =>
    rw [hq] at hcall
    go_wp2_with (go_at_fn g; refine hcall.mono ?_; rintro e w' ⟨rfl, hb'⟩)
    go_ret
    refine ⟨?_, hb'⟩
    rw [idxP_hit p z26 l0 kk hlt (hpk.out.symm.trans hq) AA.out]
    rfl
   | false =>
    rw [hq] at hcall
    go_wp2_with (go_at_fn g; refine hcall.mono ?_; rintro e w' ⟨rfl, hb'⟩)
    go_roundg (l0.length - (kk + 1))
    case measure => omega
    case rel =>
     refine ⟨kk + 1, by omega, by omega, by go_num, ⟨hb'⟩, ⟨fun j hj => ?_⟩⟩
     by_cases e : j = kk
     ·
      subst e
      exact hpk.out.symm.trans hq
     ·
      exact AA.out j (by omega)
  ·
   have hltz : ¬ (kk : Int) < (l0.length : Int) := by omega
   have hkl : kk = l0.length := by omega
   go_wp2
   go_ret
   refine ⟨?_, BW.out⟩
   rw [idxP_miss p z26 l0 (fun j hj => AA.out j (by omega))]
   rfl
set_option maxHeartbeats 4000000 in
theorem cont_Box.calls (p : S26 → Bool) (g : Nat) (lb : Array Value) (eg : ∀ args w, (callFunc g args).run Tryd.prog w = .ok (.enter g args) w) (A0 : Option Addr) (c0 : Nat) (l0 : List S26) (w : World) (hr0 : Kd.C k26 w A0 l0.length l0) (hc0 : l0.length ≤ c0)
  (hp : ∀ (W : World) (x : S26), x ∈ l0 → Below w.heap.size w W → Calls Tryd.prog g (#[.agg #[.int .i64 x.f0, .int .i64 x.f1, .int .i64 x.f2, .int .i64 x.f3]] ++ lb) W fun e w' => e = .returned (.bool (p x)) ∧ Below w.heap.size w w') :
  Calls Tryd.prog 68 #[.slice A0 l0.length c0, .func (.func g) #[] lb] w fun e w' => e = .returned (.bool (l0.any p)) ∧ Below w.heap.size w w' := by
 rw [← idxP_any p l0]
 have hcon := idx_Box.calls p g lb eg A0 c0 l0 w hr0 hc0 hp
 generalize idxP p l0 = r at hcon ⊢
 have HC := Aside0.mk hcon
 clear hcon hp hr0
 go_enter Tryd.func68, Tryd.ntmps68
 go_wp2_with (go_at_call 100; refine HC.out.mono ?_; rintro e w' ⟨rfl, hb'⟩)
 go_ret
 exact ⟨rfl, hb'⟩
set_option maxHeartbeats 4000000 in
theorem idx_Int.calls (p : Int → Bool) (g : Nat) (lb : Array Value) (eg : ∀ args w, (callFunc g args).run Tryd.prog w = .ok (.enter g args) w) (A0 : Option Addr) (c0 : Nat) (l0 : List Int) (w : World) (hr0 : Kd.C (Kd.int .i64) w A0 l0.length l0) (hc0 : l0.length ≤ c0)
  (hp : ∀ (W : World) (x : Int), x ∈ l0 → Below w.heap.size w W → Calls Tryd.prog g (#[.int .i64 x] ++ lb) W fun e w' => e = .returned (.bool (p x)) ∧ Below w.heap.size w w') :
  Calls Tryd.prog 98 #[.slice A0 l0.length c0, .func (.func g) #[] lb] w fun e w' => e = .returned (.int .i64 (idxP p l0)) ∧ Below w.heap.size w w' := by
 have hL : l0.length ≤ 9223372036854775807 := hr0.2.1
 have HP := Aside0.mk hp
 have HR := Aside0.mk hr0
 clear hp hr0
 go_enter Tryd.func98, Tryd.ntmps98
 go_wp2
 go_loopg [5, 8] l0.length (fun gg _ s8 wr => ∃ kk : Nat, kk ≤ l0.length ∧ l0.length - kk ≤ gg ∧ s8 = .int .i64 kk ∧ Aside0 (Below w.heap.size w wr) ∧ Aside0 (∀ j, j < kk → p (l0.getD j (0 : Int)) = false))
 case atStart => exact ⟨0, Nat.zero_le _, by omega, rfl, ⟨Below.refl _ w⟩, ⟨fun j hj => absurd hj (Nat.not_lt_zero _)⟩⟩
 case round =>
  obtain ⟨kk, hkk, hg, rfl, BW, AA⟩ := hrel
  by_cases hlt : kk < l0.length
  ·
   have hltz : (kk : Int) < (l0.length : Int) := by omega
   have hk0 : (0 : Int) ≤ (kk : Int) := by omega
   obtain ⟨ad, e0, hx0⟩ := Kd.at_int HR.out (kk : Int) hk0 hltz
   replace hx0 := (BW.out.cell (World.block_lt_of_cell? w _ hx0)).trans hx0
   have hm : rd l0 (kk : Int) ∈ l0 := by
    show l0.getD (kk : Int).toNat _ ∈ l0
    rw [Int.toNat_natCast, List.getD_eq_getElem?_getD, List.getElem?_eq_getElem hlt]
    exact List.getElem_mem hlt
   have hcall := HP.out wr (rd l0 (kk : Int)) hm BW.out
   have hpk : Aside0 (p (rd l0 (kk : Int)) = p (l0.getD kk (0 : Int))) := ⟨rfl⟩
   clear hm
   generalize rd l0 (kk : Int) = y at hx0 hcall hpk
   subst e0
   rw [Int.toNat_natCast] at hx0
   cases hq : p y with
   | true =>
    rw [hq] at hcall
    go_wp2_with (go_at_fn g; refine hcall.mono ?_; rintro e w' ⟨rfl, hb'⟩)
    go_ret
    refine ⟨?_, hb'⟩
    rw [idxP_hit p (0 : Int) l0 kk hlt (hpk.out.symm.trans hq) AA.out]
    rfl
   | false =>
    rw [hq] at hcall
    go_wp2_with (go_at_fn g; refine hcall.mono ?_; rintro e w' ⟨rfl, hb'⟩)
    go_roundg (l0.length - (kk + 1))
    case measure => omega
    case rel =>
     refine ⟨kk + 1, by omega, by omega, by go_num, ⟨hb'⟩, ⟨fun j hj => ?_⟩⟩
     by_cases e : j = kk
     ·
      subst e
      exact hpk.out.symm.trans hq
     ·
      exact AA.out j (by omega)
  ·
   have hltz : ¬ (kk : Int) < (l0.length : Int) := by omega
   have hkl : kk = l0.length := by omega
   go_wp2
   go_ret
   refine ⟨?_, BW.out⟩
   rw [idxP_miss p (0 : Int) l0 (fun j hj => AA.out j (by omega))]
   rfl
set_option maxHeartbeats 4000000 in
theorem cont_Int.calls (p : Int → Bool) (g : Nat) (lb : Array Value) (eg : ∀ args w, (callFunc g args).run Tryd.prog w = .ok (.enter g args) w) (A0 : Option Addr) (c0 : Nat) (l0 : List Int) (w : World) (hr0 : Kd.C (Kd.int .i64) w A0 l0.length l0) (hc0 : l0.length ≤ c0)
  (hp : ∀ (W : World) (x : Int), x ∈ l0 → Below w.heap.size w W → Calls Tryd.prog g (#[.int .i64 x] ++ lb) W fun e w' => e = .returned (.bool (p x)) ∧ Below w.heap.size w w') :
  Calls Tryd.prog 65 #[.slice A0 l0.length c0, .func (.func g) #[] lb] w fun e w' => e = .returned (.bool (l0.any p)) ∧ Below w.heap.size w w' := by
 rw [← idxP_any p l0]
 have hcon := idx_Int.calls p g lb eg A0 c0 l0 w hr0 hc0 hp
 generalize idxP p l0 = r at hcon ⊢
 have HC := Aside0.mk hcon
 clear hcon hp hr0
 go_enter Tryd.func65, Tryd.ntmps65
 go_wp2_with (go_at_call 98; refine HC.out.mono ?_; rintro e w' ⟨rfl, hb'⟩)
 go_ret
 exact ⟨rfl, hb'⟩
def impl_within.f (a0 : Int) (a1 : Int) (a2 : Int) : Option (Bool) := if a0 ≥ a1 then (some (decide (a0 ≤ a2))) else (some false)
set_option maxHeartbeats 8000000 in
set_option maxRecDepth 100000 in
theorem impl_within.calls (a0 : Int) (a1 : Int) (a2 : Int) (r : Bool) (w : World) (h : impl_within.f a0 a1 a2 = some r) :
  Calls Tryd.prog 73 #[.int .i64 a0, .int .i64 a1, .int .i64 a2] w fun e w' => e = .returned (.bool r) ∧ Drawn0 w w' := by
 have H : (if a0 ≥ a1 then (some (decide (a0 ≤ a2))) else (some false)) = some r := h
 clear h
 by_cases c4 : a0 ≥ a1
 ·
  rw [if_pos c4] at H
  have c4b0 : decide (a1 ≤ a0) = true := decide_eq_true c4
  clear c4
  obtain rfl := Option.some.inj H
  go_enter Tryd.func73, Tryd.ntmps73
  go_wp2
  go_ret
  exact ⟨by first | rfl | (simp; done) | (simp [*]; done), by repeat (first | exact Drawn0.refl _ | apply Drawn0.step)⟩
 ·
  rw [if_neg c4] at H
  have c4b0 : decide (a1 ≤ a0) = false := decide_eq_false c4
  clear c4
  obtain rfl := Option.some.inj H
  go_enter Tryd.func73, Tryd.ntmps73
  go_wp2
  go_ret
  exact ⟨by first | rfl | (simp; done) | (simp [*]; done), by repeat (first | exact Drawn0.refl _ | apply Drawn0.step)⟩
def strings_Trim.f (a0 : ByteArray) (a1 : ByteArray) : Option ByteArray := if a0.size ≤ 9223372036854775807 then (if a1.size < 1000 then (if a1.data.toList.all (fun b => decide (b.toNat < 128)) = true then some ⟨(Lib.trimS a0.data.toList a1.data.toList).toArray⟩ else none) else none) else none
theorem strings_Trim.calls (a0 : ByteArray) (a1 : ByteArray) (r : ByteArray) (w : World) (h : strings_Trim.f a0 a1 = some r) :
  Calls Tryd.prog 109 #[.string a0, .string a1] w fun e w' => e = .returned (.string r) ∧ Below w.heap.size w w' := by
 unfold strings_Trim.f at h
 by_cases h0 : a0.size ≤ 9223372036854775807
 ·
  rw [if_pos h0] at h
  by_cases h1 : a1.size < 1000
  ·
   rw [if_pos h1] at h
   by_cases h2 : a1.data.toList.all (fun b => decide (b.toNat < 128)) = true
   ·
    rw [if_pos h2] at h
    obtain rfl := Option.some.inj h
    exact Any.strings_Trim_laid Tryd.lays160 (by kernel_rfl) a0 a1 w h0 (by omega) (ascii_of_all h2)
   ·
    rw [if_neg h2] at h
    cases h
  ·
   rw [if_neg h1] at h
   cases h
 ·
  rw [if_neg h0] at h
  cases h
end Go.Proofs.YtjkcfpmonpkhhaaDoor.Pr

namespace Go.Proofs.YtjkcfpmonpkhhaaDoor.Pr
open Go.RowKit Go.Proofs.YtjkcfpmonpkhhaaDoorW.PrintWords Go.Proofs.YtjkcfpmonpkhhaaDoorW.PrintLast Go.Proofs.YtjkcfpmonpkhhaaDoorW.PrintMore
set_option linter.unusedVariables false
set_option linter.unusedSimpArgs false
section
variable {P : Program} {md : Region.Mode} {ops : Array Oper} {Q : Exit → Act → World → Prop} {S : World → Prop} {ds : List Nat} {T : Bool × List (List Nat × List Nat)}
theorem pz_ {fuel : Nat} {l : Array Bool} {a : Act} {w : World} {oi : Oper} {v : Value} {a' : Act} (HT : Aside0 (rtab md ops = T)) (i : Nat) (N : Option Tmp) (l' : Array Bool) (h : wpAnyLast P md ops Q S ds fuel l' a' w)
  (hi : ops[i]? = some oi := by exact rfl) (hN : oi.dst = N := by exact rfl) (hc : anyT T l.toList l'.toList i = true := by kernel_rfl) (hQ : ∀ c a w, Q (.panic c) (a.put oi.dst v) w → Q (.panic c) a w := by exact fun _ _ _ h => h)
  (hy : Yields P ops oi v a := by exact Or.inl ⟨by rfl, by intro w'; go_simp; with_reducible rfl⟩) (ha : a.put N v = a' := by simp only [Act.put, List.setIfInBounds_toArray, List.set_cons_zero, List.set_cons_succ, i64_w, i32_w]; rfl) :
  wpAnyLast P md ops Q S ds (fuel + 1) l a w := pure_ l' hi hN (any_of HT.out hc) hQ hy ha h
theorem ga_ {rest : List Oper} {oi : Oper} {a : Act} {w : World} {f : FuncId} {fn : Func} {ar : Array Operand} {ts : Array TypeId} (N : Option Tmp) (hf : P.funcs[f]? = some fn) (args : Array Value) (h : Calls P f args w fun e w' => ∃ v, e = .returned v ∧ wpList P ops Q rest (a.put N v) w')
  (hd : oi.dst = N := by exact rfl) (hg : oi.guard = none := by exact rfl) (hname : (fn.name == "runtime.NumGoroutine") = false := by kernel_rfl) (hb : fn.body.isSome = true := by exact rfl) (hop : oi.op = .call { callee := .value (.func f), args := ar, argTypes := ts } := by exact rfl)
  (hargs : ar.map a.eval = args := by (try simp only [List.map_toArray, List.map_cons, List.map_nil]); first | done | rfl | (simp only [List.length_drop, List.length_take]; rfl)) : wpList P ops Q (oi :: rest) a w := goesL_ N hd hg hf hname hb args hop hargs h
end
theorem lb0_ {n : Nat} {w w0 w1 : World} (HB : Below n w w0) (h : Below n w w0 → Below n w w1 := by intro HB_; repeat (first | (with_reducible first | exact HB_ | apply below_alloc | apply pw_below_drewN | apply below_drew1) | exact HB_)) : Below n w w1 := h HB
theorem lb1_ {n : Nat} {w w0 w1 : World} {A : Prop} (HB : Below n w w0) (G : A) (h : Below n w w0 → A → Below n w w1 := by intro HB_ G_; repeat (first | (with_reducible first | exact HB_ | apply below_alloc | apply pw_below_drewN | apply below_drew1 | refine below_set ?_ G_) | exact HB_)) : Below n w w1 := h HB G
theorem lb2_ {n : Nat} {w w0 w1 : World} {A B : Prop} (HB : Below n w w0) (G : A) (H : B) (h : Below n w w0 → A → B → Below n w w1 := by intro HB_ G_ H_; repeat (first | (with_reducible first | exact HB_ | apply below_alloc | apply pw_below_drewN | apply below_drew1 | refine below_set ?_ G_ | refine below_set ?_ H_) | exact HB_)) : Below n w w1 := h HB G H
theorem rr_ {α : Sort _} {a b : α} (h : a = b := by first | rfl | (simp [errW_none, errW_some] <;> rfl) | (simp [*, errW_none, errW_some] <;> rfl)) : a = b := h
theorem kr_ {α : Type} {d : Kd α} {e base : Nat} {w w1 : World} {ok : Nat → Prop} {v : Value} {xs : List α} (h : d.R e w base ok v xs) (hh : d.R e w base ok v xs → d.R e w1 base ok v xs := by intro h_; (with_reducible repeat (first | apply Kd.R_alloc | apply Kd.R_drewN | apply Kd.R_drew)); exact h_) : d.R e w1 base ok v xs := hh h
theorem kc_ {α : Type} {d : Kd α} {w w1 : World} {A : Option Addr} {n : Nat} {xs : List α} (h : d.C w A n xs) (hh : d.C w A n xs → d.C w1 A n xs := by intro h_; repeat (first | exact h_ | (with_reducible refine Kd.C_alloc ?_ _) | (with_reducible refine Kd.C_drewN ?_ _) | (with_reducible refine Kd.C_drew ?_))) : d.C w1 A n xs := hh h
theorem bk_ {w w1 : World} {g : Nat} {o : Obj} (h : w.heap[g]? = some o) (hh : w.heap[g]? = some o → w1.heap[g]? = some o := by intro h_; (with_reducible repeat (first | refine blk_drewN ?_ _ | refine blk_drew ?_ | refine blk_alloc ?_ _)); exact h_) : w1.heap[g]? = some o := hh h
theorem dt_ {p : Prop} [inst : Decidable p] (h : decide p = true := by first | (with_reducible assumption) | assumption) : p := of_decide_eq_true h
theorem bc_ {w w0 : World} {a : Addr} {v : Value} (hb : Below w.heap.size w w0) (h : w.cell? a = some v) : w0.cell? a = some v := (hb.cell (World.block_lt_of_cell? w _ h)).trans h
section
variable {P : Program} {md : Region.Mode} {ops : Array Oper} {Q : Exit → Act → World → Prop} {S : World → Prop} {ds : List Nat}
theorem na_ {fuel : Nat} {l : Array Bool} {a a' : Act} {w : World} (h : wpAnyLast P md ops Q S ds fuel l a' w) (ha : a = a' := by show Act.put _ (some _) _ = _; simp only [Act.put, List.setIfInBounds_toArray, List.set_cons_zero, List.set_cons_succ, i64_w, i32_w]; rfl) : wpAnyLast P md ops Q S ds fuel l a w := norm_ ha h
theorem nb_ {fuel : Nat} {l : Array Bool} {a a' : Act} {w : World} (h : wpAnyLast P md ops Q S ds fuel l a' w) (ha : a = a' := by simp only [putAll, Act.put, List.setIfInBounds_toArray, List.set_cons_zero, List.set_cons_succ]; rfl) : wpAnyLast P md ops Q S ds fuel l a w := norm_ ha h
end
theorem bz_ {w W : World} {g : Nat} (hg : g = W.heap.size) (h : Below w.heap.size w W) : w.heap.size ≤ g := by rw [hg]; exact h.size
theorem lb3_ {n : Nat} {w w0 w1 : World} {A B C : Prop} (HB : Below n w w0) (G : A) (H : B) (I : C) (h : Below n w w0 → A → B → C → Below n w w1 := by intro HB_ G_ H_ I_; repeat (first | (with_reducible first | exact HB_ | apply below_alloc | apply pw_below_drewN | apply below_drew1 | refine below_set ?_ G_ | refine below_set ?_ H_ | refine below_set ?_ I_) | exact HB_)) : Below n w w1 := h HB G H I
theorem kb0_ {w w0 w1 : World} {g : Nat} {row : Option Nat} (h : KeepBut w w0 g row) (hh : KeepBut w w0 g row → KeepBut w w1 g row := by intro h_; repeat (first | (with_reducible first | exact h_ | apply KeepBut.set_ | apply keep_drewN | apply keep_drew | apply keep_alloc) | exact h_)) : KeepBut w w1 g row := hh h
theorem kb1_ {w w0 w1 : World} {g : Nat} {row : Option Nat} {A : Prop} (h : KeepBut w w0 g row) (G : A) (hh : KeepBut w w0 g row → A → KeepBut w w1 g row := by intro h_ G_; repeat (first | (with_reducible first | exact h_ | apply KeepBut.set_ | apply keep_drewN | apply keep_drew | apply keep_alloc | refine keep_far ?_ G_ _) | exact h_)) : KeepBut w w1 g row := hh h G
theorem kb2_ {w w0 w1 : World} {g : Nat} {row : Option Nat} {A B : Prop} (h : KeepBut w w0 g row) (G : A) (H : B) (hh : KeepBut w w0 g row → A → B → KeepBut w w1 g row := by intro h_ G_ H_; repeat (first | (with_reducible first | exact h_ | apply KeepBut.set_ | apply keep_drewN | apply keep_drew | apply keep_alloc | refine keep_far ?_ G_ _ | refine keep_far ?_ H_ _) | exact h_)) : KeepBut w w1 g row := hh h G H
theorem kt_ {w w0 w1 : World} {S : Nat → Prop} (h : Kept w w0 S) (hh : Kept w w0 S → Kept w w1 S := by intro h_; repeat (first | (with_reducible first | exact h_ | apply Kept.alloc | apply Kept.drewN | apply Kept.drew) | exact h_)) : Kept w w1 S := hh h
theorem krm_ {α : Type} {d : Kd α} {e base : Nat} {w w1 : World} {ok ok' : Nat → Prop} {v : Value} {xs : List α} (h : d.R e w base ok v xs) (hm : ∀ k, ok k → ok' k) (hh : d.R e w base ok v xs → d.R e w1 base ok v xs := by intro h_; (with_reducible repeat (first | apply Kd.R_alloc | apply Kd.R_drewN | apply Kd.R_drew)); exact h_) : d.R e w1 base ok' v xs := Kd.R_mono (hh h) hm
theorem bb_ {w1 w2 : World} {g : Nat} {o : Obj} (h : w1.heap[g]? = some o) (hb : Below w1.heap.size w1 w2) : w2.heap[g]? = some o := blk_below h hb
theorem ry_ {α : Type} {d : Kd α} {e base : Nat} {w : World} {ok : Nat → Prop} {v : Value} {xs ys : List α} (he : ys = xs) (h : d.R e w base ok v xs) : d.R e w base ok v ys := by rw [he]; exact h
section
variable {P : Program} {ops : Array Oper} {Q : Exit → Act → World → Prop}
theorem gs_ {oi : Oper} {N : Option Tmp} {a : Act} {w : World} {K : Act → World → Prop} {f : FuncId} {fn : Func} {ar : Array Operand} {ts : Array TypeId} (hf : P.funcs[f]? = some fn) (args : Array Value) (h : Calls P f args w fun e w' => ∃ v, e = .returned v ∧ K (a.put N v) w')
  (hname : (fn.name == "runtime.NumGoroutine") = false := by kernel_rfl) (hb : fn.body.isSome = true := by exact rfl) (hw : Region.wanted oi (yielded ops a.tmps) = true := by rfl) (hN : oi.dst = N := by exact rfl) (hop : oi.op = .call { callee := .value (.func f), args := ar, argTypes := ts } := by exact rfl)
  (hargs : ar.map a.eval = args := by (try simp only [List.map_toArray, List.map_cons, List.map_nil]); first | done | rfl | (simp only [List.length_drop, List.length_take]; rfl)) : if Region.wanted oi (yielded ops a.tmps) = true then Oper.wp P oi a w K Q else K (a.put N undef) w := goes_ hf hname hb args hw hN hop hargs h
end
theorem cz3_ {w : World} {g : Nat} {t : TypeId} {a0 a1 a2 : Value} (h : w.heap[g]? = some (.cells #[a0, a1, a2] t (0, 0))) : w.cell? ⟨g, 0, none⟩ = some a0 ∧ w.cell? ⟨g, 1, none⟩ = some a1 ∧ w.cell? ⟨g, 2, none⟩ = some a2 := ⟨(blk_cell h 0).trans rfl, (blk_cell h 1).trans rfl, (blk_cell h 2).trans rfl⟩
theorem fz3_ {w : World} {g : Nat} {t : TypeId} {a0 a1 a2 : Value} (h : w.heap[g]? = some (.cells #[a0, a1, a2] t (0, 0))) : w.frozen? ⟨g, 0, none⟩ = false ∧ w.frozen? ⟨g, 1, none⟩ = false ∧ w.frozen? ⟨g, 2, none⟩ = false := ⟨blk_frozen h 0, blk_frozen h 1, blk_frozen h 2⟩
theorem cz4_ {w : World} {g : Nat} {t : TypeId} {a0 a1 a2 a3 : Value} (h : w.heap[g]? = some (.cells #[a0, a1, a2, a3] t (0, 0))) : w.cell? ⟨g, 0, none⟩ = some a0 ∧ w.cell? ⟨g, 1, none⟩ = some a1 ∧ w.cell? ⟨g, 2, none⟩ = some a2 ∧ w.cell? ⟨g, 3, none⟩ = some a3 := ⟨(blk_cell h 0).trans rfl, (blk_cell h 1).trans rfl, (blk_cell h 2).trans rfl, (blk_cell h 3).trans rfl⟩
theorem fz4_ {w : World} {g : Nat} {t : TypeId} {a0 a1 a2 a3 : Value} (h : w.heap[g]? = some (.cells #[a0, a1, a2, a3] t (0, 0))) : w.frozen? ⟨g, 0, none⟩ = false ∧ w.frozen? ⟨g, 1, none⟩ = false ∧ w.frozen? ⟨g, 2, none⟩ = false ∧ w.frozen? ⟨g, 3, none⟩ = false := ⟨blk_frozen h 0, blk_frozen h 1, blk_frozen h 2, blk_frozen h 3⟩
abbrev tT : Bool := true
abbrev fF : Bool := false
section
variable {P : Program} {md : Region.Mode} {ops : Array Oper} {Q : Exit → Act → World → Prop} {S : World → Prop} {ds : List Nat} {T : Bool × List (List Nat × List Nat)} {B : List Nat}
theorem tk_ {fuel : Nat} {l : Array Bool} {a : Act} {w : World} {oi : Oper} {v : Value} {a' : Act} (HT : Aside0 (rtab md ops = T)) (HW : Aside0 (waitsOk T.2 B = true)) (hS : S w) (i : Nat) (N : Option Tmp) (l' : Array Bool) (h : wpAnyLast P md ops Q S ds fuel l' a' w)
  (hi : ops[i]? = some oi := by exact rfl) (hN : oi.dst = N := by exact rfl) (hc : takeW T B ds l.toList l'.toList i = true := by kernel_rfl) (hQ : ∀ c a w, Q (.panic c) (a.put oi.dst v) w → Q (.panic c) a w := by exact fun _ _ _ h => h)
  (hy : YieldsIf P ops S oi v a := by exact Or.inl ⟨by rfl, by intro w' hs; (repeat (obtain ⟨s_, hs⟩ := hs)); go_simp; with_reducible rfl⟩) (ha : a.put N v = a' := by simp only [Act.put, List.setIfInBounds_toArray, List.set_cons_zero, List.set_cons_succ, i64_w, i32_w]; rfl) :
  wpAnyLast P md ops Q S ds (fuel + 1) l a w := take_ l' hi hN (take_ofW HT.out HW.out hc) hQ hy hS ha h
theorem pu_ {fuel : Nat} {l : Array Bool} {a : Act} {w : World} {oi : Oper} {a' : Act} (HT : Aside0 (rtab md ops = T)) (i : Nat) (N : Option Tmp) (l' : Array Bool) (h : wpAnyLast P md ops Q S ds fuel l' a' w)
  (hi : ops[i]? = some oi := by exact rfl) (hN : oi.dst = N := by exact rfl) (hc : anyT T l.toList l'.toList i = true := by kernel_rfl) (hQ : ∀ c a w, Q (.panic c) (a.put oi.dst undef) w → Q (.panic c) a w := by exact fun _ _ _ h => h)
  (hy : Yields P ops oi undef a := by exact Or.inr ⟨by rfl, rfl⟩) (ha : a.put N undef = a' := by simp only [Act.put, List.setIfInBounds_toArray, List.set_cons_zero, List.set_cons_succ, i64_w, i32_w]; rfl) :
  wpAnyLast P md ops Q S ds (fuel + 1) l a w := pure_ l' hi hN (any_of HT.out hc) hQ hy ha h
end
theorem nl_ {w W : World} {g g' : Nat} {o : Obj} (hg : g' = W.heap.size) (h : w.heap[g]? = some o) (hh : w.heap[g]? = some o → W.heap[g]? = some o := by intro h_; (with_reducible repeat (first | refine blk_drewN ?_ _ | refine blk_drew ?_ | refine blk_alloc ?_ _)); exact h_) : g ≠ g' := by rw [hg]; exact Nat.ne_of_lt (blk_lt (hh h))
theorem ng_ {w W : World} {g g' : Nat} {o : Obj} (hg : g' = W.heap.size) (h : w.heap[g]? = some o) (hh : w.heap[g]? = some o → W.heap[g]? = some o := by intro h_; (with_reducible repeat (first | refine blk_drewN ?_ _ | refine blk_drew ?_ | refine blk_alloc ?_ _)); exact h_) : g' ≠ g := by rw [hg]; exact Nat.ne_of_gt (blk_lt (hh h))
theorem p3_ {w : World} {g : Nat} {t : TypeId} {b0 b1 b2 : Value} (h : w.heap[g]? = some (.cells #[b0, b1, b2] t (0, 0))) (a0 a1 a2 : Value) : (((w.setCell ⟨g, 0, none⟩ a0).setCell ⟨g, 1, none⟩ a1).setCell ⟨g, 2, none⟩ a2).heap[g]? = some (.cells #[a0, a1, a2] t (0, 0)) := (blk_put (cs := #[a0, a1, b2]) (blk_put (cs := #[a0, b1, b2]) (blk_put (cs := #[b0, b1, b2]) h 0 _ rfl) 1 _ rfl) 2 _ rfl)
theorem f3_ {w : World} {g g' : Nat} {t : TypeId} {cs : Array Value} {j0 j1 j2 : Nat} (h : w.heap[g]? = some (.cells cs t (0, 0))) (hne : g ≠ g') (a0 a1 a2 : Value) : (((w.setCell ⟨g', j0, none⟩ a0).setCell ⟨g', j1, none⟩ a1).setCell ⟨g', j2, none⟩ a2).heap[g]? = some (.cells cs t (0, 0)) := (blk_far (p := ⟨g', j2, none⟩) (blk_far (p := ⟨g', j1, none⟩) (blk_far (p := ⟨g', j0, none⟩) h hne _) hne _) hne _)
theorem r3_ {α : Type} {d : Kd α} {e base : Nat} {ok : Nat → Prop} {w : World} {g : Nat} {t : TypeId} {v : Value} {xs : List α} {cs : Array Value} (h : d.R e w base ok v xs) (hb : w.heap[g]? = some (.cells cs t (0, 0))) (ht : ∀ q, q ∈ e :: d.E → q ≠ t) (a0 a1 a2 : Value) : d.R e (((w.setCell ⟨g, 0, none⟩ a0).setCell ⟨g, 1, none⟩ a1).setCell ⟨g, 2, none⟩ a2) base ok v xs := Kd.R_mono (Kd.R_far (p := ⟨g, 2, none⟩) (Kd.R_far (p := ⟨g, 1, none⟩) (Kd.R_far (p := ⟨g, 0, none⟩) (Kd.R_types h hb ht) (fun _ hk => hk.2) _) (fun _ hk => hk.2) _) (fun _ hk => hk.2) _) (fun _ hk => hk.1)
theorem p4_ {w : World} {g : Nat} {t : TypeId} {b0 b1 b2 b3 : Value} (h : w.heap[g]? = some (.cells #[b0, b1, b2, b3] t (0, 0))) (a0 a1 a2 a3 : Value) : ((((w.setCell ⟨g, 0, none⟩ a0).setCell ⟨g, 1, none⟩ a1).setCell ⟨g, 2, none⟩ a2).setCell ⟨g, 3, none⟩ a3).heap[g]? = some (.cells #[a0, a1, a2, a3] t (0, 0)) := (blk_put (cs := #[a0, a1, a2, b3]) (blk_put (cs := #[a0, a1, b2, b3]) (blk_put (cs := #[a0, b1, b2, b3]) (blk_put (cs := #[b0, b1, b2, b3]) h 0 _ rfl) 1 _ rfl) 2 _ rfl) 3 _ rfl)
theorem f4_ {w : World} {g g' : Nat} {t : TypeId} {cs : Array Value} {j0 j1 j2 j3 : Nat} (h : w.heap[g]? = some (.cells cs t (0, 0))) (hne : g ≠ g') (a0 a1 a2 a3 : Value) : ((((w.setCell ⟨g', j0, none⟩ a0).setCell ⟨g', j1, none⟩ a1).setCell ⟨g', j2, none⟩ a2).setCell ⟨g', j3, none⟩ a3).heap[g]? = some (.cells cs t (0, 0)) := (blk_far (p := ⟨g', j3, none⟩) (blk_far (p := ⟨g', j2, none⟩) (blk_far (p := ⟨g', j1, none⟩) (blk_far (p := ⟨g', j0, none⟩) h hne _) hne _) hne _) hne _)
end Go.Proofs.YtjkcfpmonpkhhaaDoor.Pr

namespace Go.Proofs.YtjkcfpmonpkhhaaDoor.Pr
open Go.RowKit Go.Proofs.YtjkcfpmonpkhhaaDoorW.PrintWords Go.Proofs.YtjkcfpmonpkhhaaDoorW.PrintLast Go.Proofs.YtjkcfpmonpkhhaaDoorW.PrintMore
attribute [local go_sem] max2_int min2_int max_two min_two max_three min_three max_four min_four   -- for this text's walks alone
set_option linter.unusedVariables false
set_option linter.unusedSimpArgs false
def impl_isWord.f (a0 : ByteArray) : Option (Bool) := if (a0.size : Int) ≥ 1 then (if (a0.size : Int) ≤ 10 then ((strings_Trim.f a0 (⟨#[97, 98, 99, 100, 101, 102, 103, 104, 105, 106, 107, 108, 109, 110, 111, 112, 113, 114, 115, 116, 117, 118, 119, 120, 121, 122]⟩ : ByteArray)).bind fun t120 => (some (t120.toList == ([] : List UInt8)))) else (some false)) else (some false)
set_option maxHeartbeats 8000000 in
set_option maxRecDepth 100000 in
theorem impl_isWord.calls (a0 : ByteArray) (r : Bool) (w : World) (h : impl_isWord.f a0 = some r) :
  Calls Tryd.prog 95 #[.string a0] w fun e w' => e = .returned (.bool r) ∧ Below w.heap.size w w' := by
 have HB := Aside0.mk (Below.refl w.heap.size w)
 have H : (if (a0.size : Int) ≥ 1 then (if (a0.size : Int) ≤ 10 then ((strings_Trim.f a0 (⟨#[97, 98, 99, 100, 101, 102, 103, 104, 105, 106, 107, 108, 109, 110, 111, 112, 113, 114, 115, 116, 117, 118, 119, 120, 121, 122]⟩ : ByteArray)).bind fun t120 => (some (t120.toList == ([] : List UInt8)))) else (some false)) else (some false)) = some r := h
 clear h
 by_cases c2 : (a0.size : Int) ≥ 1
 ·
  rw [if_pos c2] at H
  have c2b0 : decide (1 ≤ (a0.size : Int)) = true := decide_eq_true c2
  have c2b1 : decide (1 ≤ a0.size) = true := decide_eq_true (by omega)
  clear c2
  by_cases c3 : (a0.size : Int) ≤ 10
  ·
   rw [if_pos c3] at H
   have c3b0 : decide ((a0.size : Int) ≤ 10) = true := decide_eq_true c3
   have c3b1 : decide (a0.size ≤ 10) = true := decide_eq_true (by omega)
   clear c3
   replace H := Option.bind_eq_some_iff.mp H
   obtain ⟨t120, A40, H⟩ := H
   replace H : (some (t120.toList == ([] : List UInt8))) = some r := H
   have A4 := Aside0.mk A40
   clear A40
   obtain rfl := Option.some.inj H
   go_enter Tryd.func95, Tryd.ntmps95
   go_wp2_with (first | (go_at_call 109; (with_reducible refine (strings_Trim.calls a0 (⟨#[97, 98, 99, 100, 101, 102, 103, 104, 105, 106, 107, 108, 109, 110, 111, 112, 113, 114, 115, 116, 117, 118, 119, 120, 121, 122]⟩ : ByteArray) t120 _ A4.out).mono ?_); rintro e w5 ⟨rfl, hb⟩; replace HB := Aside0.mk (below_step (lb0_ HB.out) hb); (try clear hb); (try clear hb2); (try clear hk); (try clear hi)))
   go_ret
   exact ⟨rr_, lb0_ HB.out⟩
  ·
   rw [if_neg c3] at H
   have c3b0 : decide ((a0.size : Int) ≤ 10) = false := decide_eq_false c3
   have c3b1 : decide (a0.size ≤ 10) = false := decide_eq_false (by omega)
   clear c3
   obtain rfl := Option.some.inj H
   go_enter Tryd.func95, Tryd.ntmps95
   go_wp2
   go_ret
   exact ⟨rr_, lb0_ HB.out⟩
 ·
  rw [if_neg c2] at H
  have c2b0 : decide (1 ≤ (a0.size : Int)) = false := decide_eq_false c2
  have c2b1 : decide (1 ≤ a0.size) = false := decide_eq_false (by omega)
  clear c2
  obtain rfl := Option.some.inj H
  go_enter Tryd.func95, Tryd.ntmps95
  go_wp2
  go_ret
  exact ⟨rr_, lb0_ HB.out⟩
def impl_isLabel.f (a0_0 : ByteArray) (a0_1 : Int) (a0_2 : Int) : Option (Bool) := (impl_isWord.f a0_0).bind fun t122 => (if t122 = true then ((impl_within.f a0_1 0 99).bind fun t123 => (if t123 = true then ((impl_within.f a0_2 0 99).bind fun t124 => (some t124)) else (some false))) else (some false))
set_option maxHeartbeats 8000000 in
set_option maxRecDepth 100000 in
theorem impl_isLabel.calls (a0_0 : ByteArray) (a0_1 : Int) (a0_2 : Int) (r : Bool) (w : World) (h : impl_isLabel.f a0_0 a0_1 a0_2 = some r) :
  Calls Tryd.prog 57 #[.agg #[.string a0_0, .int .i64 a0_1, .int .i64 a0_2]] w fun e w' => e = .returned (.bool r) ∧ Below w.heap.size w w' := by
 have hu29 := Tryd.underlying29
 have HB := Aside0.mk (Below.refl w.heap.size w)
 have H : ((impl_isWord.f a0_0).bind fun t122 => (if t122 = true then ((impl_within.f a0_1 0 99).bind fun t123 => (if t123 = true then ((impl_within.f a0_2 0 99).bind fun t124 => (some t124)) else (some false))) else (some false))) = some r := h
 clear h
 replace H := Option.bind_eq_some_iff.mp H
 obtain ⟨t122, A20, H⟩ := H
 replace H : (if t122 = true then ((impl_within.f a0_1 0 99).bind fun t123 => (if t123 = true then ((impl_within.f a0_2 0 99).bind fun t124 => (some t124)) else (some false))) else (some false)) = some r := H
 have A2 := Aside0.mk A20
 clear A20
 by_cases c3 : t122 = true
 ·
  subst c3
  have H1 : ((impl_within.f a0_1 0 99).bind fun t123 => (if t123 = true then ((impl_within.f a0_2 0 99).bind fun t124 => (some t124)) else (some false))) = some r := by rw [if_pos rfl] at H; exact H
  clear H
  have H := H1
  clear H1
  replace H := Option.bind_eq_some_iff.mp H
  obtain ⟨t123, A40, H⟩ := H
  replace H : (if t123 = true then ((impl_within.f a0_2 0 99).bind fun t124 => (some t124)) else (some false)) = some r := H
  have A4 := Aside0.mk A40
  clear A40
  by_cases c5 : t123 = true
  ·
   subst c5
   have H1 : ((impl_within.f a0_2 0 99).bind fun t124 => (some t124)) = some r := by rw [if_pos rfl] at H; exact H
   clear H
   have H := H1
   clear H1
   replace H := Option.bind_eq_some_iff.mp H
   obtain ⟨t124, A60, H⟩ := H
   replace H : (some t124) = some r := H
   have A6 := Aside0.mk A60
   clear A60
   obtain rfl := Option.some.inj H
   go_enter Tryd.func57, Tryd.ntmps57
   go_wp2_with (first | ((with_reducible refine gate_dst (N := 1) rfl ?_); refine box_event ?hg (N := 1) ?hd (cs := #[.string a0_0, .int .i64 a0_1, .int .i64 a0_2]) (t := 29) ?hr ?_; (case hd => rfl); (case hg => rfl); (case hr => first | (go_simp; done) | (go_simp; rfl)); intro gb121 hg w7 hbox hb; have BK121 := Aside0.mk (hbox); have GW121 := Aside0.mk ((bz_ hg (lb0_ HB.out))); have GE121 := Aside0.mk ((bz_ hg (lb0_ HB.out))); replace HB := Aside0.mk (below_step (lb0_ HB.out) hb); clear hb hbox hg; obtain ⟨hcz8_0, hcz8_1, hcz8_2⟩ := cz3_ BK121.out; obtain ⟨hfz8_0, hfz8_1, hfz8_2⟩ := fz3_ BK121.out) | ((with_reducible refine gate_callee (f := 95) rfl ?_); refine ga_ (some 5) Tryd.func95 #[.string a0_0] ?_; (with_reducible refine (impl_isWord.calls a0_0 true _ A2.out).mono ?_); rintro e w9 ⟨rfl, hb⟩; refine ⟨_, rfl, ?_⟩; replace BK121 := Aside0.mk (bb_ (bk_ BK121.out) hb); replace HB := Aside0.mk (below_step (lb1_ HB.out GE121.out) hb); (try clear hb); (try clear hb2); (try clear hk); (try clear hi); obtain ⟨hcz10_0, hcz10_1, hcz10_2⟩ := cz3_ BK121.out; obtain ⟨hfz10_0, hfz10_1, hfz10_2⟩ := fz3_ BK121.out) | (go_at_call 73; (with_reducible refine (impl_within.calls a0_1 0 99 true _ A4.out).mono ?_); rintro e w' ⟨rfl, ⟨nd, rfl⟩⟩) | (go_at_call 73; (with_reducible refine (impl_within.calls a0_2 0 99 t124 _ A6.out).mono ?_); rintro e w' ⟨rfl, ⟨nd, rfl⟩⟩))
   go_ret
   exact ⟨rr_, lb1_ HB.out GE121.out⟩
  ·
   replace c5 := Bool.eq_false_iff.mpr c5
   subst c5
   have H1 : (some false) = some r := by rw [if_neg (show ¬ (false = true) by decide)] at H; exact H
   clear H
   have H := H1
   clear H1
   obtain rfl := Option.some.inj H
   go_enter Tryd.func57, Tryd.ntmps57
   go_wp2_with (first | ((with_reducible refine gate_dst (N := 1) rfl ?_); refine box_event ?hg (N := 1) ?hd (cs := #[.string a0_0, .int .i64 a0_1, .int .i64 a0_2]) (t := 29) ?hr ?_; (case hd => rfl); (case hg => rfl); (case hr => first | (go_simp; done) | (go_simp; rfl)); intro gb121 hg w11 hbox hb; have BK121 := Aside0.mk (hbox); have GW121 := Aside0.mk ((bz_ hg (lb0_ HB.out))); have GE121 := Aside0.mk ((bz_ hg (lb0_ HB.out))); replace HB := Aside0.mk (below_step (lb0_ HB.out) hb); clear hb hbox hg; obtain ⟨hcz12_0, hcz12_1, hcz12_2⟩ := cz3_ BK121.out; obtain ⟨hfz12_0, hfz12_1, hfz12_2⟩ := fz3_ BK121.out) | ((with_reducible refine gate_callee (f := 95) rfl ?_); refine ga_ (some 5) Tryd.func95 #[.string a0_0] ?_; (with_reducible refine (impl_isWord.calls a0_0 true _ A2.out).mono ?_); rintro e w13 ⟨rfl, hb⟩; refine ⟨_, rfl, ?_⟩; replace BK121 := Aside0.mk (bb_ (bk_ BK121.out) hb); replace HB := Aside0.mk (below_step (lb1_ HB.out GE121.out) hb); (try clear hb); (try clear hb2); (try clear hk); (try clear hi); obtain ⟨hcz14_0, hcz14_1, hcz14_2⟩ := cz3_ BK121.out; obtain ⟨hfz14_0, hfz14_1, hfz14_2⟩ := fz3_ BK121.out) | (go_at_call 73; (with_reducible refine (impl_within.calls a0_1 0 99 false _ A4.out).mono ?_); rintro e w' ⟨rfl, ⟨nd, rfl⟩⟩))
   go_ret
   exact ⟨rr_, lb1_ HB.out GE121.out⟩
 ·
  replace c3 := Bool.eq_false_iff.mpr c3
  subst c3
  have H1 : (some false) = some r := by rw [if_neg (show ¬ (false = true) by decide)] at H; exact H
  clear H
  have H := H1
  clear H1
  obtain rfl := Option.some.inj H
  go_enter Tryd.func57, Tryd.ntmps57
  go_wp2_with (first | ((with_reducible refine gate_dst (N := 1) rfl ?_); refine box_event ?hg (N := 1) ?hd (cs := #[.string a0_0, .int .i64 a0_1, .int .i64 a0_2]) (t := 29) ?hr ?_; (case hd => rfl); (case hg => rfl); (case hr => first | (go_simp; done) | (go_simp; rfl)); intro gb121 hg w15 hbox hb; have BK121 := Aside0.mk (hbox); have GW121 := Aside0.mk ((bz_ hg (lb0_ HB.out))); have GE121 := Aside0.mk ((bz_ hg (lb0_ HB.out))); replace HB := Aside0.mk (below_step (lb0_ HB.out) hb); clear hb hbox hg; obtain ⟨hcz16_0, hcz16_1, hcz16_2⟩ := cz3_ BK121.out; obtain ⟨hfz16_0, hfz16_1, hfz16_2⟩ := fz3_ BK121.out) | ((with_reducible refine gate_callee (f := 95) rfl ?_); refine ga_ (some 5) Tryd.func95 #[.string a0_0] ?_; (with_reducible refine (impl_isWord.calls a0_0 false _ A2.out).mono ?_); rintro e w17 ⟨rfl, hb⟩; refine ⟨_, rfl, ?_⟩; replace BK121 := Aside0.mk (bb_ (bk_ BK121.out) hb); replace HB := Aside0.mk (below_step (lb1_ HB.out GE121.out) hb); (try clear hb); (try clear hb2); (try clear hk); (try clear hi)))
  go_ret
  exact ⟨rr_, lb1_ HB.out GE121.out⟩
theorem areLabels1_ (a0 : ByteArray) (a1 a2 : Int) (r : Bool) (w : World) (h : impl_isLabel.f a0 a1 a2 = some r) :
  Calls Tryd.prog 62 (#[.agg #[.string a0, .int .i64 a1, .int .i64 a2]] ++ #[]) w fun e w' => e = .returned (.bool (!r)) ∧ Below w.heap.size w w' := by
 show Calls Tryd.prog 62 #[.agg #[.string a0, .int .i64 a1, .int .i64 a2]] w _
 go_enter Tryd.func62, Tryd.ntmps62
 go_wp2_with (go_at_call 57; refine (impl_isLabel.calls a0 a1 a2 r _ h).mono ?_; rintro e w' ⟨rfl, hb⟩)
 go_ret
 exact ⟨rfl, by first | exact hb | exact below_step (below_alloc (Below.refl _ w) _) hb⟩
def impl_AreLabels.f (l0 : List S29) : Option Bool :=
 if (l0.length : Int) ≤ 6 then (if l0.all (fun x => (impl_isLabel.f x.f0 x.f1 x.f2).isSome) = true then some (!(l0.any fun x => !((impl_isLabel.f x.f0 x.f1 x.f2).getD false))) else none) else some false
set_option maxHeartbeats 4000000 in
set_option maxRecDepth 100000 in
theorem impl_AreLabels.calls (A0 : Option Addr) (c0 : Nat) (l0 : List S29) (r : Bool) (w : World) (hr0 : Kd.C k29 w A0 l0.length l0) (hc0 : l0.length ≤ c0) (h : impl_AreLabels.f l0 = some r) :
  Calls Tryd.prog 21 #[.slice A0 l0.length c0] w fun e w' => e = .returned (.bool r) ∧ Below w.heap.size w w' := by
 unfold impl_AreLabels.f at h
 by_cases c1 : (l0.length : Int) ≤ 6
 ·
  rw [if_pos c1] at h
  by_cases c2 : l0.all (fun x => (impl_isLabel.f x.f0 x.f1 x.f2).isSome) = true
  ·
   rw [if_pos c2] at h
   have c1b : decide ((l0.length : Int) ≤ 6) = true := decide_eq_true c1
   have hcall := fun W (hW : Below w.heap.size w W) => cont_Label.calls (fun x => !((impl_isLabel.f x.f0 x.f1 x.f2).getD false)) 62 #[] (fun _ _ => rfl) A0 c0 l0 W (Kd.C_below hr0 hW) hc0 (fun W' x hx hW' => by
    obtain ⟨b, hb⟩ := Option.isSome_iff_exists.1 (List.all_eq_true.1 c2 x hx)
    rw [hb]
    refine (areLabels1_ x.f0 x.f1 x.f2 b W' hb).mono ?_
    rintro e w'' ⟨rfl, hb2⟩
    exact ⟨rfl, below_step hW' hb2⟩)
   obtain rfl := Option.some.inj h
   generalize l0.any (fun x => !((impl_isLabel.f x.f0 x.f1 x.f2).getD false)) = q at hcall ⊢
   have HC := Aside0.mk hcall
   clear hcall hr0 c2 c1 h
   go_enter Tryd.func21, Tryd.ntmps21
   go_wp2_with (go_at_call 61; refine (HC.out _ (Below.refl _ _)).mono ?_; rintro e w' ⟨rfl, hb⟩)
   go_ret
   exact ⟨rfl, hb⟩
  ·
   rw [if_neg c2] at h
   cases h
 ·
  rw [if_neg c1] at h
  obtain rfl := Option.some.inj h
  have c1b : decide ((l0.length : Int) ≤ 6) = false := decide_eq_false c1
  clear c1 hr0
  go_enter Tryd.func21, Tryd.ntmps21
  go_wp2
  go_ret
  exact ⟨rfl, Below.refl _ _⟩
def spec_l1In.f (a0 : Int) (a1 : Int) (a2 : Int) : Option (Bool) := if a0 ≥ a1 then (some (decide (a0 ≤ a2))) else (some false)
set_option maxHeartbeats 8000000 in
set_option maxRecDepth 100000 in
theorem spec_l1In.calls (a0 : Int) (a1 : Int) (a2 : Int) (r : Bool) (w : World) (h : spec_l1In.f a0 a1 a2 = some r) :
  Calls Tryd.prog 71 #[.int .i64 a0, .int .i64 a1, .int .i64 a2] w fun e w' => e = .returned (.bool r) ∧ Drawn0 w w' := by
 have H : (if a0 ≥ a1 then (some (decide (a0 ≤ a2))) else (some false)) = some r := h
 clear h
 by_cases c4 : a0 ≥ a1
 ·
  rw [if_pos c4] at H
  have c4b0 : decide (a1 ≤ a0) = true := decide_eq_true c4
  clear c4
  obtain rfl := Option.some.inj H
  go_enter Tryd.func71, Tryd.ntmps71
  go_wp2
  go_ret
  exact ⟨by first | rfl | (simp; done) | (simp [*]; done), by repeat (first | exact Drawn0.refl _ | apply Drawn0.step)⟩
 ·
  rw [if_neg c4] at H
  have c4b0 : decide (a1 ≤ a0) = false := decide_eq_false c4
  clear c4
  obtain rfl := Option.some.inj H
  go_enter Tryd.func71, Tryd.ntmps71
  go_wp2
  go_ret
  exact ⟨by first | rfl | (simp; done) | (simp [*]; done), by repeat (first | exact Drawn0.refl _ | apply Drawn0.step)⟩
def spec_l24Way.f (a0 : Int) : Option (Bool) := (spec_l1In.f a0 0 3).bind fun t107 => (some t107)
set_option maxHeartbeats 8000000 in
set_option maxRecDepth 100000 in
theorem spec_l24Way.calls (a0 : Int) (r : Bool) (w : World) (h : spec_l24Way.f a0 = some r) :
  Calls Tryd.prog 55 #[.int .i64 a0] w fun e w' => e = .returned (.bool r) ∧ Drawn0 w w' := by
 have H : ((spec_l1In.f a0 0 3).bind fun t107 => (some t107)) = some r := h
 clear h
 replace H := Option.bind_eq_some_iff.mp H
 obtain ⟨t107, A20, H⟩ := H
 replace H : (some t107) = some r := H
 have A2 := Aside0.mk A20
 clear A20
 obtain rfl := Option.some.inj H
 go_enter Tryd.func55, Tryd.ntmps55
 go_wp2_with (first | ((with_reducible refine gate_callee (f := 71) rfl ?_); refine ga_ (some 4) Tryd.func71 #[.int .i64 a0, .int .i64 0, .int .i64 3] ?_; (with_reducible refine (spec_l1In.calls a0 0 3 t107 _ A2.out).mono ?_); rintro e w' ⟨rfl, ⟨nd, rfl⟩⟩; refine ⟨_, rfl, ?_⟩))
 go_ret
 exact ⟨by first | rfl | (simp; done) | (simp [*]; done), by repeat (first | exact Drawn0.refl _ | apply Drawn0.step)⟩
def spec_l2Word.l0 : Nat → ByteArray → Int → Option (Bool)
 | 0, _, _ => none
 | k + 1, x0, x3 => if x3 < (x0.size : Int) then (if 0 ≤ x3 then (if (bt x0 x3) < 97 then (some false) else (if (bt x0 x3) > 122 then (some false) else (spec_l2Word.l0 k x0 (wrap64 (x3 + 1))))) else (none)) else ((spec_l1In.f (x0.size : Int) 1 10).bind fun t102 => (some t102))
def spec_l2Word.f (k : Nat) (a0 : ByteArray) : Option (Bool) := spec_l2Word.l0 k a0 0
set_option maxHeartbeats 8000000 in
set_option maxRecDepth 100000 in
theorem spec_l2Word.calls (k : Nat) (a0 : ByteArray) (r : Bool) (w : World) (h : spec_l2Word.f k a0 = some r) :
  Calls Tryd.prog 94 #[.string a0] w fun e w' => e = .returned (.bool r) ∧ Drawn0 w w' := by
 have H : (spec_l2Word.l0 k a0 0) = some r := h
 clear h
 have H' := Aside0.mk H
 clear H
 go_enter Tryd.func94, Tryd.ntmps94
 go_wp2
 go_loopg [3] k (fun kq v3 w' => ∃ (x3_1 : Int), v3 = .int .i64 x3_1 ∧ Aside0 (spec_l2Word.l0 kq a0 x3_1 = some r) ∧ Aside0 (kq ≤ k) ∧ Drawn0 w w')
 case atStart => exact ⟨(0), (by first | rfl | (simp; done) | (simp [*]; done)), H', ⟨Nat.le_refl _⟩, by repeat (first | exact Drawn0.refl _ | apply Drawn0.step)⟩
 case round =>
  clear H'
  obtain ⟨x3_1, rfl, HA, HK1, ⟨m1, rfl⟩⟩ := hrel
  cases gk with
  | zero => exact absurd HA.out (by simp [spec_l2Word.l0])
  | succ k1 =>
   have H := HA.out
   clear HA
   simp only [spec_l2Word.l0] at H
   by_cases c2 : x3_1 < (a0.size : Int)
   ·
    rw [if_pos c2] at H
    have c2b0 : decide (x3_1 < (a0.size : Int)) = true := decide_eq_true c2
    clear c2
    by_cases c3 : 0 ≤ x3_1
    ·
     rw [if_pos c3] at H
     have c3b0 : decide (0 ≤ x3_1) = true := decide_eq_true c3
     clear c3
     by_cases c5 : (bt a0 x3_1) < 97
     ·
      rw [if_pos c5] at H
      have c5b0 : decide ((bt a0 x3_1) < 97) = true := decide_eq_true c5
      clear c5
      obtain rfl := Option.some.inj H
      have p4 : 0 ≤ (x3_1 : Int) := dt_
      have q4 : x3_1 < (a0.size : Int) := dt_
      have hx4 := bt_at a0 x3_1
      replace p4 := eq_true p4
      replace q4 := eq_true q4
      go_wp2
      go_ret
      exact ⟨by first | rfl | (simp; done) | (simp [*]; done), by repeat (first | exact Drawn0.refl _ | apply Drawn0.step)⟩
     ·
      rw [if_neg c5] at H
      have c5b0 : decide ((bt a0 x3_1) < 97) = false := decide_eq_false c5
      clear c5
      by_cases c7 : (bt a0 x3_1) > 122
      ·
       rw [if_pos c7] at H
       have c7b0 : decide (122 < (bt a0 x3_1)) = true := decide_eq_true c7
       clear c7
       obtain rfl := Option.some.inj H
       have p4 : 0 ≤ (x3_1 : Int) := dt_
       have q4 : x3_1 < (a0.size : Int) := dt_
       have hx4 := bt_at a0 x3_1
       replace p4 := eq_true p4
       replace q4 := eq_true q4
       have p6 : 0 ≤ (x3_1 : Int) := dt_
       have q6 : x3_1 < (a0.size : Int) := dt_
       have hx6 := bt_at a0 x3_1
       replace p6 := eq_true p6
       replace q6 := eq_true q6
       go_wp2
       go_ret
       exact ⟨by first | rfl | (simp; done) | (simp [*]; done), by repeat (first | exact Drawn0.refl _ | apply Drawn0.step)⟩
      ·
       rw [if_neg c7] at H
       have c7b0 : decide (122 < (bt a0 x3_1)) = false := decide_eq_false c7
       clear c7
       have H' := Aside0.mk H
       clear H
       have p4 : 0 ≤ (x3_1 : Int) := dt_
       have q4 : x3_1 < (a0.size : Int) := dt_
       have hx4 := bt_at a0 x3_1
       replace p4 := eq_true p4
       replace q4 := eq_true q4
       have p6 : 0 ≤ (x3_1 : Int) := dt_
       have q6 : x3_1 < (a0.size : Int) := dt_
       have hx6 := bt_at a0 x3_1
       replace p6 := eq_true p6
       replace q6 := eq_true q6
       go_wp2
       go_roundg k1
       case measure => have := HK1.out; omega
       case rel => exact ⟨(wrap64 (x3_1 + 1)), (by first | rfl | (simp; done) | (simp [*]; done)), H', ⟨by have := HK1.out; omega⟩, by repeat (first | exact Drawn0.refl _ | apply Drawn0.step)⟩
    ·
     rw [if_neg c3] at H
     exact absurd H (by simp)
   ·
    rw [if_neg c2] at H
    have c2b0 : decide (x3_1 < (a0.size : Int)) = false := decide_eq_false c2
    clear c2
    replace H := Option.bind_eq_some_iff.mp H
    obtain ⟨t102, A80, H⟩ := H
    replace H : (some t102) = some r := H
    have A8 := Aside0.mk A80
    clear A80
    obtain rfl := Option.some.inj H
    go_wp2_with (first | ((with_reducible refine gate_callee (f := 71) rfl ?_); refine ga_ (some 22) Tryd.func71 #[.int .i64 (a0.size : Int), .int .i64 1, .int .i64 10] ?_; (with_reducible refine (spec_l1In.calls (a0.size : Int) 1 10 t102 _ A8.out).mono ?_); rintro e w' ⟨rfl, ⟨nd, rfl⟩⟩; refine ⟨_, rfl, ?_⟩))
    go_ret
    exact ⟨by first | rfl | (simp; done) | (simp [*]; done), by repeat (first | exact Drawn0.refl _ | apply Drawn0.step)⟩
def spec_l24One.f (k : Nat) (a0_0 : ByteArray) (a0_1 : Int) (a0_2 : Int) : Option (Bool) := (spec_l2Word.f k a0_0).bind fun t104 => (if t104 = true then ((spec_l1In.f a0_1 0 99).bind fun t105 => (if t105 = true then ((spec_l1In.f a0_2 0 99).bind fun t106 => (some t106)) else (some false))) else (some false))
set_option maxHeartbeats 8000000 in
set_option maxRecDepth 100000 in
theorem spec_l24One.calls (k : Nat) (a0_0 : ByteArray) (a0_1 : Int) (a0_2 : Int) (r : Bool) (w : World) (h : spec_l24One.f k a0_0 a0_1 a0_2 = some r) :
  Calls Tryd.prog 54 #[.agg #[.string a0_0, .int .i64 a0_1, .int .i64 a0_2]] w fun e w' => e = .returned (.bool r) ∧ Below w.heap.size w w' := by
 have hu29 := Tryd.underlying29
 have HB := Aside0.mk (Below.refl w.heap.size w)
 have H : ((spec_l2Word.f k a0_0).bind fun t104 => (if t104 = true then ((spec_l1In.f a0_1 0 99).bind fun t105 => (if t105 = true then ((spec_l1In.f a0_2 0 99).bind fun t106 => (some t106)) else (some false))) else (some false))) = some r := h
 clear h
 replace H := Option.bind_eq_some_iff.mp H
 obtain ⟨t104, A20, H⟩ := H
 replace H : (if t104 = true then ((spec_l1In.f a0_1 0 99).bind fun t105 => (if t105 = true then ((spec_l1In.f a0_2 0 99).bind fun t106 => (some t106)) else (some false))) else (some false)) = some r := H
 have A2 := Aside0.mk A20
 clear A20
 by_cases c3 : t104 = true
 ·
  subst c3
  have H1 : ((spec_l1In.f a0_1 0 99).bind fun t105 => (if t105 = true then ((spec_l1In.f a0_2 0 99).bind fun t106 => (some t106)) else (some false))) = some r := by rw [if_pos rfl] at H; exact H
  clear H
  have H := H1
  clear H1
  replace H := Option.bind_eq_some_iff.mp H
  obtain ⟨t105, A40, H⟩ := H
  replace H : (if t105 = true then ((spec_l1In.f a0_2 0 99).bind fun t106 => (some t106)) else (some false)) = some r := H
  have A4 := Aside0.mk A40
  clear A40
  by_cases c5 : t105 = true
  ·
   subst c5
   have H1 : ((spec_l1In.f a0_2 0 99).bind fun t106 => (some t106)) = some r := by rw [if_pos rfl] at H; exact H
   clear H
   have H := H1
   clear H1
   replace H := Option.bind_eq_some_iff.mp H
   obtain ⟨t106, A60, H⟩ := H
   replace H : (some t106) = some r := H
   have A6 := Aside0.mk A60
   clear A60
   obtain rfl := Option.some.inj H
   go_enter Tryd.func54, Tryd.ntmps54
   go_wp2_with (first | ((with_reducible refine gate_dst (N := 1) rfl ?_); refine box_event ?hg (N := 1) ?hd (cs := #[.string a0_0, .int .i64 a0_1, .int .i64 a0_2]) (t := 29) ?hr ?_; (case hd => rfl); (case hg => rfl); (case hr => first | (go_simp; done) | (go_simp; rfl)); intro gb103 hg w7 hbox hb; have BK103 := Aside0.mk (hbox); have GW103 := Aside0.mk ((bz_ hg (lb0_ HB.out))); have GE103 := Aside0.mk ((bz_ hg (lb0_ HB.out))); replace HB := Aside0.mk (below_step (lb0_ HB.out) hb); clear hb hbox hg; obtain ⟨hcz8_0, hcz8_1, hcz8_2⟩ := cz3_ BK103.out; obtain ⟨hfz8_0, hfz8_1, hfz8_2⟩ := fz3_ BK103.out) | ((with_reducible refine gate_callee (f := 94) rfl ?_); refine ga_ (some 5) Tryd.func94 #[.string a0_0] ?_; (with_reducible refine (spec_l2Word.calls k a0_0 true _ A2.out).mono ?_); rintro e w' ⟨rfl, ⟨nd, rfl⟩⟩; refine ⟨_, rfl, ?_⟩) | (go_at_call 71; (with_reducible refine (spec_l1In.calls a0_1 0 99 true _ A4.out).mono ?_); rintro e w' ⟨rfl, ⟨nd, rfl⟩⟩) | (go_at_call 71; (with_reducible refine (spec_l1In.calls a0_2 0 99 t106 _ A6.out).mono ?_); rintro e w' ⟨rfl, ⟨nd, rfl⟩⟩))
   go_ret
   exact ⟨rr_, lb1_ HB.out GE103.out⟩
  ·
   replace c5 := Bool.eq_false_iff.mpr c5
   subst c5
   have H1 : (some false) = some r := by rw [if_neg (show ¬ (false = true) by decide)] at H; exact H
   clear H
   have H := H1
   clear H1
   obtain rfl := Option.some.inj H
   go_enter Tryd.func54, Tryd.ntmps54
   go_wp2_with (first | ((with_reducible refine gate_dst (N := 1) rfl ?_); refine box_event ?hg (N := 1) ?hd (cs := #[.string a0_0, .int .i64 a0_1, .int .i64 a0_2]) (t := 29) ?hr ?_; (case hd => rfl); (case hg => rfl); (case hr => first | (go_simp; done) | (go_simp; rfl)); intro gb103 hg w9 hbox hb; have BK103 := Aside0.mk (hbox); have GW103 := Aside0.mk ((bz_ hg (lb0_ HB.out))); have GE103 := Aside0.mk ((bz_ hg (lb0_ HB.out))); replace HB := Aside0.mk (below_step (lb0_ HB.out) hb); clear hb hbox hg; obtain ⟨hcz10_0, hcz10_1, hcz10_2⟩ := cz3_ BK103.out; obtain ⟨hfz10_0, hfz10_1, hfz10_2⟩ := fz3_ BK103.out) | ((with_reducible refine gate_callee (f := 94) rfl ?_); refine ga_ (some 5) Tryd.func94 #[.string a0_0] ?_; (with_reducible refine (spec_l2Word.calls k a0_0 true _ A2.out).mono ?_); rintro e w' ⟨rfl, ⟨nd, rfl⟩⟩; refine ⟨_, rfl, ?_⟩) | (go_at_call 71; (with_reducible refine (spec_l1In.calls a0_1 0 99 false _ A4.out).mono ?_); rintro e w' ⟨rfl, ⟨nd, rfl⟩⟩))
   go_ret
   exact ⟨rr_, lb1_ HB.out GE103.out⟩
 ·
  replace c3 := Bool.eq_false_iff.mpr c3
  subst c3
  have H1 : (some false) = some r := by rw [if_neg (show ¬ (false = true) by decide)] at H; exact H
  clear H
  have H := H1
  clear H1
  obtain rfl := Option.some.inj H
  go_enter Tryd.func54, Tryd.ntmps54
  go_wp2_with (first | ((with_reducible refine gate_dst (N := 1) rfl ?_); refine box_event ?hg (N := 1) ?hd (cs := #[.string a0_0, .int .i64 a0_1, .int .i64 a0_2]) (t := 29) ?hr ?_; (case hd => rfl); (case hg => rfl); (case hr => first | (go_simp; done) | (go_simp; rfl)); intro gb103 hg w11 hbox hb; have BK103 := Aside0.mk (hbox); have GW103 := Aside0.mk ((bz_ hg (lb0_ HB.out))); have GE103 := Aside0.mk ((bz_ hg (lb0_ HB.out))); replace HB := Aside0.mk (below_step (lb0_ HB.out) hb); clear hb hbox hg; obtain ⟨hcz12_0, hcz12_1, hcz12_2⟩ := cz3_ BK103.out; obtain ⟨hfz12_0, hfz12_1, hfz12_2⟩ := fz3_ BK103.out) | ((with_reducible refine gate_callee (f := 94) rfl ?_); refine ga_ (some 5) Tryd.func94 #[.string a0_0] ?_; (with_reducible refine (spec_l2Word.calls k a0_0 false _ A2.out).mono ?_); rintro e w' ⟨rfl, ⟨nd, rfl⟩⟩; refine ⟨_, rfl, ?_⟩))
  go_ret
  exact ⟨rr_, lb1_ HB.out GE103.out⟩
def spec_l24Good.l0 : Nat → List (S29) → Int → Option (Bool)
 | 0, _, _ => none
 | k + 1, x0, x3 => if x3 < (x0.length : Int) then (if 0 ≤ x3 then ((spec_l24One.f k ((rd_T29 x0 x3).f0) ((rd_T29 x0 x3).f1) ((rd_T29 x0 x3).f2)).bind fun t160 => (if t160 = true then (spec_l24Good.l0 k x0 (wrap64 (x3 + 1))) else (some false))) else (none)) else (some (decide ((x0.length : Int) ≤ 6)))
def spec_l24Good.f (k : Nat) (l0 : List (S29)) : Option (Bool) := spec_l24Good.l0 k l0 0
set_option maxHeartbeats 8000000 in
set_option maxRecDepth 100000 in
theorem spec_l24Good.calls (k : Nat) (A0 : Option Addr) (c0 : Nat) (l0 : List (S29)) (r : Bool) (w : World) (hr0 : Kd.C k29 w A0 l0.length l0) (hc0 : l0.length ≤ c0) (h : spec_l24Good.f k l0 = some r) :
  Calls Tryd.prog 60 #[.slice A0 l0.length c0] w fun e w' => e = .returned (.bool r) ∧ Below w.heap.size w w' := by
 have hu29 := Tryd.underlying29
 have HR0 := Aside0.mk hr0
 have HC0 := Aside0.mk hc0
 clear hr0 hc0
 have HB := Aside0.mk (Below.refl w.heap.size w)
 have H : (spec_l24Good.l0 k l0 0) = some r := h
 clear h
 have H' := Aside0.mk H
 clear H
 go_enter Tryd.func60, Tryd.ntmps60
 go_wp2
 go_loopg [3] k (fun kq v3 w' => ∃ (x3_1 : Int), v3 = .int .i64 x3_1 ∧ Aside0 (spec_l24Good.l0 kq l0 x3_1 = some r) ∧ Aside0 (kq ≤ k) ∧ Aside0 (Below w.heap.size w w'))
 case atStart => exact ⟨(0), (by first | rfl | (simp; done) | (simp [*]; done)), H', ⟨Nat.le_refl _⟩, ⟨lb0_ HB.out⟩⟩
 case round =>
  clear H'
  obtain ⟨x3_1, rfl, HA, HK1, HB⟩ := hrel
  cases gk with
  | zero => exact absurd HA.out (by simp [spec_l24Good.l0])
  | succ k1 =>
   have H := HA.out
   clear HA
   simp only [spec_l24Good.l0] at H
   by_cases c2 : x3_1 < (l0.length : Int)
   ·
    rw [if_pos c2] at H
    have c2b0 : decide (x3_1 < (l0.length : Int)) = true := decide_eq_true c2
    clear c2
    by_cases c3 : 0 ≤ x3_1
    ·
     rw [if_pos c3] at H
     have c3b0 : decide (0 ≤ x3_1) = true := decide_eq_true c3
     clear c3
     replace H := Option.bind_eq_some_iff.mp H
     obtain ⟨t160, A40, H⟩ := H
     replace H : (if t160 = true then (spec_l24Good.l0 k1 l0 (wrap64 (x3_1 + 1))) else (some false)) = some r := H
     have A4 := Aside0.mk A40
     clear A40
     by_cases c5 : t160 = true
     ·
      subst c5
      have H1 : (spec_l24Good.l0 k1 l0 (wrap64 (x3_1 + 1))) = some r := by rw [if_pos rfl] at H; exact H
      clear H
      have H := H1
      clear H1
      have H' := Aside0.mk H
      clear H
      have p159 : 0 ≤ (x3_1 : Int) := dt_
      have q159 : x3_1 < (l0.length : Int) := dt_
      obtain ⟨ad159, e159, hx159_0, hx159_1, hx159_2⟩ := at_T29 HR0.out x3_1 p159 q159
      cases e159
      replace hx159_0 := bc_ HB.out hx159_0
      replace hx159_1 := bc_ HB.out hx159_1
      replace hx159_2 := bc_ HB.out hx159_2
      replace p159 := eq_true p159
      replace q159 := eq_true q159
      go_wp2_with (first | ((with_reducible refine gate_callee (f := 54) rfl ?_); refine ga_ (some 14) Tryd.func54 #[.agg #[.string ((rd_T29 l0 x3_1).f0), .int .i64 ((rd_T29 l0 x3_1).f1), .int .i64 ((rd_T29 l0 x3_1).f2)]] ?_; (with_reducible refine (spec_l24One.calls k1 ((rd_T29 l0 x3_1).f0) ((rd_T29 l0 x3_1).f1) ((rd_T29 l0 x3_1).f2) true _ A4.out).mono ?_); rintro e w6 ⟨rfl, hb⟩; refine ⟨_, rfl, ?_⟩; replace HB := Aside0.mk (below_step (lb0_ HB.out) hb); (try clear hb); (try clear hb2); (try clear hk); (try clear hi)))
      go_roundg k1
      case measure => have := HK1.out; omega
      case rel => exact ⟨(wrap64 (x3_1 + 1)), (by first | rfl | (simp; done) | (simp [*]; done)), H', ⟨by have := HK1.out; omega⟩, ⟨lb0_ HB.out⟩⟩
     ·
      replace c5 := Bool.eq_false_iff.mpr c5
      subst c5
      have H1 : (some false) = some r := by rw [if_neg (show ¬ (false = true) by decide)] at H; exact H
      clear H
      have H := H1
      clear H1
      obtain rfl := Option.some.inj H
      have p159 : 0 ≤ (x3_1 : Int) := dt_
      have q159 : x3_1 < (l0.length : Int) := dt_
      obtain ⟨ad159, e159, hx159_0, hx159_1, hx159_2⟩ := at_T29 HR0.out x3_1 p159 q159
      cases e159
      replace hx159_0 := bc_ HB.out hx159_0
      replace hx159_1 := bc_ HB.out hx159_1
      replace hx159_2 := bc_ HB.out hx159_2
      replace p159 := eq_true p159
      replace q159 := eq_true q159
      go_wp2_with (first | ((with_reducible refine gate_callee (f := 54) rfl ?_); refine ga_ (some 14) Tryd.func54 #[.agg #[.string ((rd_T29 l0 x3_1).f0), .int .i64 ((rd_T29 l0 x3_1).f1), .int .i64 ((rd_T29 l0 x3_1).f2)]] ?_; (with_reducible refine (spec_l24One.calls k1 ((rd_T29 l0 x3_1).f0) ((rd_T29 l0 x3_1).f1) ((rd_T29 l0 x3_1).f2) false _ A4.out).mono ?_); rintro e w7 ⟨rfl, hb⟩; refine ⟨_, rfl, ?_⟩; replace HB := Aside0.mk (below_step (lb0_ HB.out) hb); (try clear hb); (try clear hb2); (try clear hk); (try clear hi)))
      go_ret
      exact ⟨rr_, lb0_ HB.out⟩
    ·
     rw [if_neg c3] at H
     exact absurd H (by simp)
   ·
    rw [if_neg c2] at H
    have c2b0 : decide (x3_1 < (l0.length : Int)) = false := decide_eq_false c2
    clear c2
    obtain rfl := Option.some.inj H
    go_wp2
    go_ret
    exact ⟨rr_, lb0_ HB.out⟩
def spec_l24Box.f (a0_0 : ByteArray) (a0_1 : Int) (a0_2 : Int) (a1 : Int) : Option (Int × Int × Int × Int) :=
 some ((if a1 ≥ 2 then wrap64 (a0_1 - (a0_0.size : Int)) else wrap64 (a0_1 + 1)), (if Int.tmod a1 2 = 1 then wrap64 (a0_2 - 2) else wrap64 (a0_2 + 1)), (a0_0.size : Int), 2)
set_option maxHeartbeats 4000000 in
set_option maxRecDepth 100000 in
theorem spec_l24Box.calls (a0_0 : ByteArray) (a0_1 : Int) (a0_2 : Int) (a1 : Int) (r1 : Int) (r2 : Int) (r3 : Int) (r4 : Int) (w : World) (h : spec_l24Box.f a0_0 a0_1 a0_2 a1 = some (r1, r2, r3, r4)) :
  Calls Tryd.prog 56 #[.agg #[.string a0_0, .int .i64 a0_1, .int .i64 a0_2], .int .i64 a1] w fun e w' => e = .returned (.agg #[.int .i64 r1, .int .i64 r2, .int .i64 r3, .int .i64 r4]) ∧ Below w.heap.size w w' := by
 unfold spec_l24Box.f at h
 simp only [Option.some.injEq, Prod.mk.injEq] at h
 obtain ⟨h1, h2, rfl, rfl⟩ := h
 by_cases c3 : a1 ≥ 2
 ·
  rw [if_pos c3] at h1
  have b3 : decide (2 ≤ a1) = true := decide_eq_true c3
  clear c3
  by_cases c4 : Int.tmod a1 2 = 1
  ·
   rw [if_pos c4] at h2
   have b4 : (Int.tmod a1 2 == 1) = true := beq_iff_eq.mpr c4
   clear c4
   subst h1
   subst h2
   go_enter Tryd.func56, Tryd.ntmps56
   go_wp2_with fail
   exact bodyPost_ret (v := .agg #[.int .i64 (wrap64 (a0_1 - (a0_0.size : Int))), .int .i64 (wrap64 (a0_2 - 2)), .int .i64 (a0_0.size : Int), .int .i64 2]) (by simp [results, Tryd.results56, go_sem]) rfl ⟨rfl, below_alloc (below_alloc (below_alloc (Below.refl _ w) _) _) _⟩
  ·
   rw [if_neg c4] at h2
   have b4 : (Int.tmod a1 2 == 1) = false := beq_eq_false_iff_ne.mpr c4
   clear c4
   subst h1
   subst h2
   go_enter Tryd.func56, Tryd.ntmps56
   go_wp2_with fail
   exact bodyPost_ret (v := .agg #[.int .i64 (wrap64 (a0_1 - (a0_0.size : Int))), .int .i64 (wrap64 (a0_2 + 1)), .int .i64 (a0_0.size : Int), .int .i64 2]) (by simp [results, Tryd.results56, go_sem]) rfl ⟨rfl, below_alloc (below_alloc (below_alloc (Below.refl _ w) _) _) _⟩
 ·
  rw [if_neg c3] at h1
  have b3 : decide (2 ≤ a1) = false := decide_eq_false c3
  clear c3
  by_cases c4 : Int.tmod a1 2 = 1
  ·
   rw [if_pos c4] at h2
   have b4 : (Int.tmod a1 2 == 1) = true := beq_iff_eq.mpr c4
   clear c4
   subst h1
   subst h2
   go_enter Tryd.func56, Tryd.ntmps56
   go_wp2_with fail
   exact bodyPost_ret (v := .agg #[.int .i64 (wrap64 (a0_1 + 1)), .int .i64 (wrap64 (a0_2 - 2)), .int .i64 (a0_0.size : Int), .int .i64 2]) (by simp [results, Tryd.results56, go_sem]) rfl ⟨rfl, below_alloc (below_alloc (below_alloc (Below.refl _ w) _) _) _⟩
  ·
   rw [if_neg c4] at h2
   have b4 : (Int.tmod a1 2 == 1) = false := beq_eq_false_iff_ne.mpr c4
   clear c4
   subst h1
   subst h2
   go_enter Tryd.func56, Tryd.ntmps56
   go_wp2_with fail
   exact bodyPost_ret (v := .agg #[.int .i64 (wrap64 (a0_1 + 1)), .int .i64 (wrap64 (a0_2 + 1)), .int .i64 (a0_0.size : Int), .int .i64 2]) (by simp [results, Tryd.results56, go_sem]) rfl ⟨rfl, below_alloc (below_alloc (below_alloc (Below.refl _ w) _) _) _⟩
def spec_l24Meet.f (a0_0 : Int) (a0_1 : Int) (a0_2 : Int) (a0_3 : Int) (a1_0 : Int) (a1_1 : Int) (a1_2 : Int) (a1_3 : Int) : Option (Bool) := if a0_2 = 0 then (some false) else (if a0_3 = 0 then (some false) else (if a1_2 = 0 then (some false) else (if a1_3 = 0 then (some false) else (if a0_0 < (wrap64 (a1_0 + a1_2)) then (if a1_0 < (wrap64 (a0_0 + a0_2)) then (if a0_1 < (wrap64 (a1_1 + a1_3)) then (some (decide (a1_1 < (wrap64 (a0_1 + a0_3))))) else (some false)) else (some false)) else (some false)))))
set_option maxHeartbeats 8000000 in
set_option maxRecDepth 100000 in
theorem spec_l24Meet.calls (a0_0 : Int) (a0_1 : Int) (a0_2 : Int) (a0_3 : Int) (a1_0 : Int) (a1_1 : Int) (a1_2 : Int) (a1_3 : Int) (r : Bool) (w : World) (h : spec_l24Meet.f a0_0 a0_1 a0_2 a0_3 a1_0 a1_1 a1_2 a1_3 = some r) :
  Calls Tryd.prog 92 #[.agg #[.int .i64 a0_0, .int .i64 a0_1, .int .i64 a0_2, .int .i64 a0_3], .agg #[.int .i64 a1_0, .int .i64 a1_1, .int .i64 a1_2, .int .i64 a1_3]] w fun e w' => e = .returned (.bool r) ∧ Below w.heap.size w w' := by
 have hu26 := Tryd.underlying26
 have HB := Aside0.mk (Below.refl w.heap.size w)
 have H : (if a0_2 = 0 then (some false) else (if a0_3 = 0 then (some false) else (if a1_2 = 0 then (some false) else (if a1_3 = 0 then (some false) else (if a0_0 < (wrap64 (a1_0 + a1_2)) then (if a1_0 < (wrap64 (a0_0 + a0_2)) then (if a0_1 < (wrap64 (a1_1 + a1_3)) then (some (decide (a1_1 < (wrap64 (a0_1 + a0_3))))) else (some false)) else (some false)) else (some false)))))) = some r := h
 clear h
 by_cases c3 : a0_2 = 0
 ·
  rw [if_pos c3] at H
  have c3b0 : (a0_2 == 0) = true := beq_iff_eq.mpr c3
  have c3b1 : (a0_2 != 0) = false := bne_eq_false_iff_eq.mpr c3
  clear c3
  obtain rfl := Option.some.inj H
  go_enter Tryd.func92, Tryd.ntmps92
  go_wp2_with (first | ((with_reducible refine gate_dst (N := 2) rfl ?_); refine box_event ?hg (N := 2) ?hd (cs := #[.int .i64 a0_0, .int .i64 a0_1, .int .i64 a0_2, .int .i64 a0_3]) (t := 26) ?hr ?_; (case hd => rfl); (case hg => rfl); (case hr => first | (go_simp; done) | (go_simp; rfl)); intro gb188 hg w4 hbox hb; have BK188 := Aside0.mk (hbox); have GW188 := Aside0.mk ((bz_ hg (lb0_ HB.out))); have GE188 := Aside0.mk ((bz_ hg (lb0_ HB.out))); replace HB := Aside0.mk (below_step (lb0_ HB.out) hb); clear hb hbox hg) | ((with_reducible refine gate_dst (N := 3) rfl ?_); refine box_event ?hg (N := 3) ?hd (cs := #[.int .i64 a1_0, .int .i64 a1_1, .int .i64 a1_2, .int .i64 a1_3]) (t := 26) ?hr ?_; (case hd => rfl); (case hg => rfl); (case hr => first | (go_simp; done) | (go_simp; rfl)); intro gb189 hg w5 hbox hb; have BK189 := Aside0.mk (hbox); have GW189 := Aside0.mk ((bz_ hg (lb1_ HB.out GE188.out))); have GE189 := Aside0.mk ((bz_ hg (lb1_ HB.out GE188.out))); replace HB := Aside0.mk (below_step (lb1_ HB.out GE188.out) hb); have NB188_189 := Aside0.mk (nl_ hg BK188.out); have NB189_188 := Aside0.mk (ng_ hg BK188.out); replace BK188 := Aside0.mk (bb_ (bk_ BK188.out) hb); clear hb hbox hg; have hnb6 := NB188_189.out; have hnc6 := NB189_188.out; obtain ⟨hcz7_0, hcz7_1, hcz7_2, hcz7_3⟩ := cz4_ BK188.out; obtain ⟨hfz7_0, hfz7_1, hfz7_2, hfz7_3⟩ := fz4_ BK188.out))
  go_ret
  exact ⟨rr_, lb2_ HB.out GE188.out GE189.out⟩
 ·
  rw [if_neg c3] at H
  have c3b0 : (a0_2 == 0) = false := beq_eq_false_iff_ne.mpr c3
  have c3b1 : (a0_2 != 0) = true := bne_iff_ne.mpr c3
  by_cases c8 : a0_3 = 0
  ·
   rw [if_pos c8] at H
   have c8b0 : (a0_3 == 0) = true := beq_iff_eq.mpr c8
   have c8b1 : (a0_3 != 0) = false := bne_eq_false_iff_eq.mpr c8
   clear c8
   obtain rfl := Option.some.inj H
   go_enter Tryd.func92, Tryd.ntmps92
   go_wp2_with (first | ((with_reducible refine gate_dst (N := 2) rfl ?_); refine box_event ?hg (N := 2) ?hd (cs := #[.int .i64 a0_0, .int .i64 a0_1, .int .i64 a0_2, .int .i64 a0_3]) (t := 26) ?hr ?_; (case hd => rfl); (case hg => rfl); (case hr => first | (go_simp; done) | (go_simp; rfl)); intro gb188 hg w9 hbox hb; have BK188 := Aside0.mk (hbox); have GW188 := Aside0.mk ((bz_ hg (lb0_ HB.out))); have GE188 := Aside0.mk ((bz_ hg (lb0_ HB.out))); replace HB := Aside0.mk (below_step (lb0_ HB.out) hb); clear hb hbox hg) | ((with_reducible refine gate_dst (N := 3) rfl ?_); refine box_event ?hg (N := 3) ?hd (cs := #[.int .i64 a1_0, .int .i64 a1_1, .int .i64 a1_2, .int .i64 a1_3]) (t := 26) ?hr ?_; (case hd => rfl); (case hg => rfl); (case hr => first | (go_simp; done) | (go_simp; rfl)); intro gb189 hg w10 hbox hb; have BK189 := Aside0.mk (hbox); have GW189 := Aside0.mk ((bz_ hg (lb1_ HB.out GE188.out))); have GE189 := Aside0.mk ((bz_ hg (lb1_ HB.out GE188.out))); replace HB := Aside0.mk (below_step (lb1_ HB.out GE188.out) hb); have NB188_189 := Aside0.mk (nl_ hg BK188.out); have NB189_188 := Aside0.mk (ng_ hg BK188.out); replace BK188 := Aside0.mk (bb_ (bk_ BK188.out) hb); clear hb hbox hg; have hnb11 := NB188_189.out; have hnc11 := NB189_188.out; obtain ⟨hcz12_0, hcz12_1, hcz12_2, hcz12_3⟩ := cz4_ BK188.out; obtain ⟨hfz12_0, hfz12_1, hfz12_2, hfz12_3⟩ := fz4_ BK188.out))
   go_ret
   exact ⟨rr_, lb2_ HB.out GE188.out GE189.out⟩
  ·
   rw [if_neg c8] at H
   have c8b0 : (a0_3 == 0) = false := beq_eq_false_iff_ne.mpr c8
   have c8b1 : (a0_3 != 0) = true := bne_iff_ne.mpr c8
   by_cases c13 : a1_2 = 0
   ·
    rw [if_pos c13] at H
    have c13b0 : (a1_2 == 0) = true := beq_iff_eq.mpr c13
    have c13b1 : (a1_2 != 0) = false := bne_eq_false_iff_eq.mpr c13
    clear c13
    obtain rfl := Option.some.inj H
    go_enter Tryd.func92, Tryd.ntmps92
    go_wp2_with (first | ((with_reducible refine gate_dst (N := 2) rfl ?_); refine box_event ?hg (N := 2) ?hd (cs := #[.int .i64 a0_0, .int .i64 a0_1, .int .i64 a0_2, .int .i64 a0_3]) (t := 26) ?hr ?_; (case hd => rfl); (case hg => rfl); (case hr => first | (go_simp; done) | (go_simp; rfl)); intro gb188 hg w14 hbox hb; have BK188 := Aside0.mk (hbox); have GW188 := Aside0.mk ((bz_ hg (lb0_ HB.out))); have GE188 := Aside0.mk ((bz_ hg (lb0_ HB.out))); replace HB := Aside0.mk (below_step (lb0_ HB.out) hb); clear hb hbox hg) | ((with_reducible refine gate_dst (N := 3) rfl ?_); refine box_event ?hg (N := 3) ?hd (cs := #[.int .i64 a1_0, .int .i64 a1_1, .int .i64 a1_2, .int .i64 a1_3]) (t := 26) ?hr ?_; (case hd => rfl); (case hg => rfl); (case hr => first | (go_simp; done) | (go_simp; rfl)); intro gb189 hg w15 hbox hb; have BK189 := Aside0.mk (hbox); have GW189 := Aside0.mk ((bz_ hg (lb1_ HB.out GE188.out))); have GE189 := Aside0.mk ((bz_ hg (lb1_ HB.out GE188.out))); replace HB := Aside0.mk (below_step (lb1_ HB.out GE188.out) hb); have NB188_189 := Aside0.mk (nl_ hg BK188.out); have NB189_188 := Aside0.mk (ng_ hg BK188.out); replace BK188 := Aside0.mk (bb_ (bk_ BK188.out) hb); clear hb hbox hg; have hnb16 := NB188_189.out; have hnc16 := NB189_188.out; obtain ⟨hcz17_0, hcz17_1, hcz17_2, hcz17_3⟩ := cz4_ BK188.out; obtain ⟨hfz17_0, hfz17_1, hfz17_2, hfz17_3⟩ := fz4_ BK188.out; obtain ⟨hcz18_0, hcz18_1, hcz18_2, hcz18_3⟩ := cz4_ BK189.out; obtain ⟨hfz18_0, hfz18_1, hfz18_2, hfz18_3⟩ := fz4_ BK189.out))
    go_ret
    exact ⟨rr_, lb2_ HB.out GE188.out GE189.out⟩
   ·
    rw [if_neg c13] at H
    have c13b0 : (a1_2 == 0) = false := beq_eq_false_iff_ne.mpr c13
    have c13b1 : (a1_2 != 0) = true := bne_iff_ne.mpr c13
    by_cases c19 : a1_3 = 0
    ·
     rw [if_pos c19] at H
     have c19b0 : (a1_3 == 0) = true := beq_iff_eq.mpr c19
     have c19b1 : (a1_3 != 0) = false := bne_eq_false_iff_eq.mpr c19
     clear c19
     obtain rfl := Option.some.inj H
     go_enter Tryd.func92, Tryd.ntmps92
     go_wp2_with (first | ((with_reducible refine gate_dst (N := 2) rfl ?_); refine box_event ?hg (N := 2) ?hd (cs := #[.int .i64 a0_0, .int .i64 a0_1, .int .i64 a0_2, .int .i64 a0_3]) (t := 26) ?hr ?_; (case hd => rfl); (case hg => rfl); (case hr => first | (go_simp; done) | (go_simp; rfl)); intro gb188 hg w20 hbox hb; have BK188 := Aside0.mk (hbox); have GW188 := Aside0.mk ((bz_ hg (lb0_ HB.out))); have GE188 := Aside0.mk ((bz_ hg (lb0_ HB.out))); replace HB := Aside0.mk (below_step (lb0_ HB.out) hb); clear hb hbox hg) | ((with_reducible refine gate_dst (N := 3) rfl ?_); refine box_event ?hg (N := 3) ?hd (cs := #[.int .i64 a1_0, .int .i64 a1_1, .int .i64 a1_2, .int .i64 a1_3]) (t := 26) ?hr ?_; (case hd => rfl); (case hg => rfl); (case hr => first | (go_simp; done) | (go_simp; rfl)); intro gb189 hg w21 hbox hb; have BK189 := Aside0.mk (hbox); have GW189 := Aside0.mk ((bz_ hg (lb1_ HB.out GE188.out))); have GE189 := Aside0.mk ((bz_ hg (lb1_ HB.out GE188.out))); replace HB := Aside0.mk (below_step (lb1_ HB.out GE188.out) hb); have NB188_189 := Aside0.mk (nl_ hg BK188.out); have NB189_188 := Aside0.mk (ng_ hg BK188.out); replace BK188 := Aside0.mk (bb_ (bk_ BK188.out) hb); clear hb hbox hg; have hnb22 := NB188_189.out; have hnc22 := NB189_188.out; obtain ⟨hcz23_0, hcz23_1, hcz23_2, hcz23_3⟩ := cz4_ BK188.out; obtain ⟨hfz23_0, hfz23_1, hfz23_2, hfz23_3⟩ := fz4_ BK188.out; obtain ⟨hcz24_0, hcz24_1, hcz24_2, hcz24_3⟩ := cz4_ BK189.out; obtain ⟨hfz24_0, hfz24_1, hfz24_2, hfz24_3⟩ := fz4_ BK189.out))
     go_ret
     exact ⟨rr_, lb2_ HB.out GE188.out GE189.out⟩
    ·
     rw [if_neg c19] at H
     have c19b0 : (a1_3 == 0) = false := beq_eq_false_iff_ne.mpr c19
     have c19b1 : (a1_3 != 0) = true := bne_iff_ne.mpr c19
     by_cases c25 : a0_0 < (wrap64 (a1_0 + a1_2))
     ·
      rw [if_pos c25] at H
      have c25b0 : decide (a0_0 < (wrap64 (a1_0 + a1_2))) = true := decide_eq_true c25
      clear c25
      by_cases c26 : a1_0 < (wrap64 (a0_0 + a0_2))
      ·
       rw [if_pos c26] at H
       have c26b0 : decide (a1_0 < (wrap64 (a0_0 + a0_2))) = true := decide_eq_true c26
       clear c26
       by_cases c27 : a0_1 < (wrap64 (a1_1 + a1_3))
       ·
        rw [if_pos c27] at H
        have c27b0 : decide (a0_1 < (wrap64 (a1_1 + a1_3))) = true := decide_eq_true c27; clear c27; obtain rfl := Option.some.inj H
        go_enter Tryd.func92, Tryd.ntmps92
        go_wp2_with (first | ((with_reducible refine gate_dst (N := 2) rfl ?_); refine box_event ?hg (N := 2) ?hd (cs := #[.int .i64 a0_0, .int .i64 a0_1, .int .i64 a0_2, .int .i64 a0_3]) (t := 26) ?hr ?_; (case hd => rfl); (case hg => rfl); (case hr => first | (go_simp; done) | (go_simp; rfl)); intro gb188 hg w28 hbox hb; have BK188 := Aside0.mk (hbox); have GW188 := Aside0.mk ((bz_ hg (lb0_ HB.out))); have GE188 := Aside0.mk ((bz_ hg (lb0_ HB.out))); replace HB := Aside0.mk (below_step (lb0_ HB.out) hb); clear hb hbox hg) | ((with_reducible refine gate_dst (N := 3) rfl ?_); refine box_event ?hg (N := 3) ?hd (cs := #[.int .i64 a1_0, .int .i64 a1_1, .int .i64 a1_2, .int .i64 a1_3]) (t := 26) ?hr ?_; (case hd => rfl); (case hg => rfl); (case hr => first | (go_simp; done) | (go_simp; rfl)); intro gb189 hg w29 hbox hb; have BK189 := Aside0.mk (hbox); have GW189 := Aside0.mk ((bz_ hg (lb1_ HB.out GE188.out))); have GE189 := Aside0.mk ((bz_ hg (lb1_ HB.out GE188.out))); replace HB := Aside0.mk (below_step (lb1_ HB.out GE188.out) hb); have NB188_189 := Aside0.mk (nl_ hg BK188.out); have NB189_188 := Aside0.mk (ng_ hg BK188.out); replace BK188 := Aside0.mk (bb_ (bk_ BK188.out) hb); clear hb hbox hg; have hnb30 := NB188_189.out; have hnc30 := NB189_188.out; obtain ⟨hcz31_0, hcz31_1, hcz31_2, hcz31_3⟩ := cz4_ BK188.out; obtain ⟨hfz31_0, hfz31_1, hfz31_2, hfz31_3⟩ := fz4_ BK188.out; obtain ⟨hcz32_0, hcz32_1, hcz32_2, hcz32_3⟩ := cz4_ BK189.out; obtain ⟨hfz32_0, hfz32_1, hfz32_2, hfz32_3⟩ := fz4_ BK189.out))
        go_ret
        exact ⟨rr_, lb2_ HB.out GE188.out GE189.out⟩
       ·
        rw [if_neg c27] at H
        have c27b0 : decide (a0_1 < (wrap64 (a1_1 + a1_3))) = false := decide_eq_false c27; clear c27; obtain rfl := Option.some.inj H
        go_enter Tryd.func92, Tryd.ntmps92
        go_wp2_with (first | ((with_reducible refine gate_dst (N := 2) rfl ?_); refine box_event ?hg (N := 2) ?hd (cs := #[.int .i64 a0_0, .int .i64 a0_1, .int .i64 a0_2, .int .i64 a0_3]) (t := 26) ?hr ?_; (case hd => rfl); (case hg => rfl); (case hr => first | (go_simp; done) | (go_simp; rfl)); intro gb188 hg w33 hbox hb; have BK188 := Aside0.mk (hbox); have GW188 := Aside0.mk ((bz_ hg (lb0_ HB.out))); have GE188 := Aside0.mk ((bz_ hg (lb0_ HB.out))); replace HB := Aside0.mk (below_step (lb0_ HB.out) hb); clear hb hbox hg) | ((with_reducible refine gate_dst (N := 3) rfl ?_); refine box_event ?hg (N := 3) ?hd (cs := #[.int .i64 a1_0, .int .i64 a1_1, .int .i64 a1_2, .int .i64 a1_3]) (t := 26) ?hr ?_; (case hd => rfl); (case hg => rfl); (case hr => first | (go_simp; done) | (go_simp; rfl)); intro gb189 hg w34 hbox hb; have BK189 := Aside0.mk (hbox); have GW189 := Aside0.mk ((bz_ hg (lb1_ HB.out GE188.out))); have GE189 := Aside0.mk ((bz_ hg (lb1_ HB.out GE188.out))); replace HB := Aside0.mk (below_step (lb1_ HB.out GE188.out) hb); have NB188_189 := Aside0.mk (nl_ hg BK188.out); have NB189_188 := Aside0.mk (ng_ hg BK188.out); replace BK188 := Aside0.mk (bb_ (bk_ BK188.out) hb); clear hb hbox hg; have hnb35 := NB188_189.out; have hnc35 := NB189_188.out; obtain ⟨hcz36_0, hcz36_1, hcz36_2, hcz36_3⟩ := cz4_ BK188.out; obtain ⟨hfz36_0, hfz36_1, hfz36_2, hfz36_3⟩ := fz4_ BK188.out; obtain ⟨hcz37_0, hcz37_1, hcz37_2, hcz37_3⟩ := cz4_ BK189.out; obtain ⟨hfz37_0, hfz37_1, hfz37_2, hfz37_3⟩ := fz4_ BK189.out))
        go_ret
        exact ⟨rr_, lb2_ HB.out GE188.out GE189.out⟩
      ·
       rw [if_neg c26] at H
       have c26b0 : decide (a1_0 < (wrap64 (a0_0 + a0_2))) = false := decide_eq_false c26
       clear c26
       obtain rfl := Option.some.inj H
       go_enter Tryd.func92, Tryd.ntmps92
       go_wp2_with (first | ((with_reducible refine gate_dst (N := 2) rfl ?_); refine box_event ?hg (N := 2) ?hd (cs := #[.int .i64 a0_0, .int .i64 a0_1, .int .i64 a0_2, .int .i64 a0_3]) (t := 26) ?hr ?_; (case hd => rfl); (case hg => rfl); (case hr => first | (go_simp; done) | (go_simp; rfl)); intro gb188 hg w38 hbox hb; have BK188 := Aside0.mk (hbox); have GW188 := Aside0.mk ((bz_ hg (lb0_ HB.out))); have GE188 := Aside0.mk ((bz_ hg (lb0_ HB.out))); replace HB := Aside0.mk (below_step (lb0_ HB.out) hb); clear hb hbox hg) | ((with_reducible refine gate_dst (N := 3) rfl ?_); refine box_event ?hg (N := 3) ?hd (cs := #[.int .i64 a1_0, .int .i64 a1_1, .int .i64 a1_2, .int .i64 a1_3]) (t := 26) ?hr ?_; (case hd => rfl); (case hg => rfl); (case hr => first | (go_simp; done) | (go_simp; rfl)); intro gb189 hg w39 hbox hb; have BK189 := Aside0.mk (hbox); have GW189 := Aside0.mk ((bz_ hg (lb1_ HB.out GE188.out))); have GE189 := Aside0.mk ((bz_ hg (lb1_ HB.out GE188.out))); replace HB := Aside0.mk (below_step (lb1_ HB.out GE188.out) hb); have NB188_189 := Aside0.mk (nl_ hg BK188.out); have NB189_188 := Aside0.mk (ng_ hg BK188.out); replace BK188 := Aside0.mk (bb_ (bk_ BK188.out) hb); clear hb hbox hg; have hnb40 := NB188_189.out; have hnc40 := NB189_188.out; obtain ⟨hcz41_0, hcz41_1, hcz41_2, hcz41_3⟩ := cz4_ BK188.out; obtain ⟨hfz41_0, hfz41_1, hfz41_2, hfz41_3⟩ := fz4_ BK188.out; obtain ⟨hcz42_0, hcz42_1, hcz42_2, hcz42_3⟩ := cz4_ BK189.out; obtain ⟨hfz42_0, hfz42_1, hfz42_2, hfz42_3⟩ := fz4_ BK189.out))
       go_ret
       exact ⟨rr_, lb2_ HB.out GE188.out GE189.out⟩
     ·
      rw [if_neg c25] at H
      have c25b0 : decide (a0_0 < (wrap64 (a1_0 + a1_2))) = false := decide_eq_false c25
      clear c25
      obtain rfl := Option.some.inj H
      go_enter Tryd.func92, Tryd.ntmps92
      go_wp2_with (first | ((with_reducible refine gate_dst (N := 2) rfl ?_); refine box_event ?hg (N := 2) ?hd (cs := #[.int .i64 a0_0, .int .i64 a0_1, .int .i64 a0_2, .int .i64 a0_3]) (t := 26) ?hr ?_; (case hd => rfl); (case hg => rfl); (case hr => first | (go_simp; done) | (go_simp; rfl)); intro gb188 hg w43 hbox hb; have BK188 := Aside0.mk (hbox); have GW188 := Aside0.mk ((bz_ hg (lb0_ HB.out))); have GE188 := Aside0.mk ((bz_ hg (lb0_ HB.out))); replace HB := Aside0.mk (below_step (lb0_ HB.out) hb); clear hb hbox hg) | ((with_reducible refine gate_dst (N := 3) rfl ?_); refine box_event ?hg (N := 3) ?hd (cs := #[.int .i64 a1_0, .int .i64 a1_1, .int .i64 a1_2, .int .i64 a1_3]) (t := 26) ?hr ?_; (case hd => rfl); (case hg => rfl); (case hr => first | (go_simp; done) | (go_simp; rfl)); intro gb189 hg w44 hbox hb; have BK189 := Aside0.mk (hbox); have GW189 := Aside0.mk ((bz_ hg (lb1_ HB.out GE188.out))); have GE189 := Aside0.mk ((bz_ hg (lb1_ HB.out GE188.out))); replace HB := Aside0.mk (below_step (lb1_ HB.out GE188.out) hb); have NB188_189 := Aside0.mk (nl_ hg BK188.out); have NB189_188 := Aside0.mk (ng_ hg BK188.out); replace BK188 := Aside0.mk (bb_ (bk_ BK188.out) hb); clear hb hbox hg; have hnb45 := NB188_189.out; have hnc45 := NB189_188.out; obtain ⟨hcz46_0, hcz46_1, hcz46_2, hcz46_3⟩ := cz4_ BK188.out; obtain ⟨hfz46_0, hfz46_1, hfz46_2, hfz46_3⟩ := fz4_ BK188.out; obtain ⟨hcz47_0, hcz47_1, hcz47_2, hcz47_3⟩ := cz4_ BK189.out; obtain ⟨hfz47_0, hfz47_1, hfz47_2, hfz47_3⟩ := fz4_ BK189.out))
      go_ret
      exact ⟨rr_, lb2_ HB.out GE188.out GE189.out⟩
def spec_l24Free.l0 : Nat → List (S29) → Int → Int → Int → Int → Int → Option (Bool)
 | 0, _, _, _, _, _, _ => none
 | k + 1, x0, x5, x191000, x191001, x191002, x191003 => if x5 < (x0.length : Int) then (if 0 ≤ x5 then ((spec_l24Meet.f x191000 x191001 x191002 x191003 ((rd_T29 x0 x5).f1) ((rd_T29 x0 x5).f2) 1 1).bind fun t193 => (if t193 = true then (some false) else (spec_l24Free.l0 k x0 (wrap64 (x5 + 1)) x191000 x191001 x191002 x191003))) else (none)) else (if x191000 ≥ 0 then (if x191001 ≥ 0 then (if (wrap64 (x191000 + x191002)) ≤ 100 then (some (decide ((wrap64 (x191001 + x191003)) ≤ 100))) else (some false)) else (some false)) else (some false))
def spec_l24Free.f (k : Nat) (l0 : List (S29)) (a1_0 : Int) (a1_1 : Int) (a1_2 : Int) (a1_3 : Int) : Option (Bool) := spec_l24Free.l0 k l0 0 a1_0 a1_1 a1_2 a1_3
def spec_l24Free.T4 : Bool × List (List Nat × List Nat) := (true, [([], []), ([], []), ([], []), ([1, 2], [1, 2]), ([3], [3]), ([4], [4]), ([], []), ([], []), ([6, 7], [6, 7]), ([8], [8]), ([9], [9]), ([5, 10], [5, 10]), ([0, 11], [0, 11])])
def spec_l24Free.B4 : List Nat := [0, 0, 0, 6, 14, 30, 0, 0, 192, 448, 960, 2046, 4095]
theorem spec_l24Free.tab4 : rtab .any (opsOf Tryd.f97 4) = spec_l24Free.T4 := by kernel_rfl
theorem spec_l24Free.bits4 : waitsOk spec_l24Free.T4.2 spec_l24Free.B4 = true := by kernel_rfl
abbrev spec_l24Free.mk0 : Array Bool := #[fF,fF,fF,fF,fF,fF,fF,fF,fF,fF,fF,fF,fF]
abbrev spec_l24Free.mk1 : Array Bool := #[fF,tT,fF,fF,fF,fF,fF,fF,fF,fF,fF,fF,fF]
abbrev spec_l24Free.mk2 : Array Bool := #[fF,tT,tT,fF,fF,fF,fF,fF,fF,fF,fF,fF,fF]
abbrev spec_l24Free.mk3 : Array Bool := #[fF,tT,tT,tT,fF,fF,fF,fF,fF,fF,fF,fF,fF]
abbrev spec_l24Free.mk4 : Array Bool := #[fF,tT,tT,tT,tT,fF,fF,fF,fF,fF,fF,fF,fF]
abbrev spec_l24Free.mk5 : Array Bool := #[fF,tT,tT,tT,tT,fF,tT,fF,fF,fF,fF,fF,fF]
abbrev spec_l24Free.mk6 : Array Bool := #[fF,tT,tT,tT,tT,fF,tT,tT,fF,fF,fF,fF,fF]
abbrev spec_l24Free.mk7 : Array Bool := #[fF,tT,tT,tT,tT,fF,tT,tT,tT,fF,fF,fF,fF]
abbrev spec_l24Free.mk8 : Array Bool := #[fF,tT,tT,tT,tT,fF,tT,tT,tT,tT,fF,fF,fF]
abbrev spec_l24Free.mk9 : Array Bool := #[tT,tT,tT,tT,tT,fF,tT,tT,tT,tT,fF,fF,fF]
abbrev spec_l24Free.mk10 : Array Bool := #[tT,tT,tT,tT,tT,tT,tT,tT,tT,tT,fF,fF,fF]
abbrev spec_l24Free.mk11 : Array Bool := #[tT,tT,tT,tT,tT,tT,tT,tT,tT,tT,tT,fF,fF]
abbrev spec_l24Free.mk12 : Array Bool := #[tT,tT,tT,tT,tT,tT,tT,tT,tT,tT,tT,tT,fF]
abbrev spec_l24Free.mk13 : Array Bool := #[tT,tT,tT,tT,tT,tT,tT,tT,tT,tT,tT,tT,tT]
set_option maxHeartbeats 8000000 in
set_option maxRecDepth 100000 in
theorem spec_l24Free.calls (k : Nat) (A0 : Option Addr) (c0 : Nat) (l0 : List (S29)) (a1_0 : Int) (a1_1 : Int) (a1_2 : Int) (a1_3 : Int) (r : Bool) (w : World) (hr0 : Kd.C k29 w A0 l0.length l0) (hc0 : l0.length ≤ c0) (h : spec_l24Free.f k l0 a1_0 a1_1 a1_2 a1_3 = some r) :
  Calls Tryd.prog 97 #[.slice A0 l0.length c0, .agg #[.int .i64 a1_0, .int .i64 a1_1, .int .i64 a1_2, .int .i64 a1_3]] w fun e w' => e = .returned (.bool r) ∧ Below w.heap.size w w' := by
 have hu26 := Tryd.underlying26
 have HR0 := Aside0.mk hr0
 have HC0 := Aside0.mk hc0
 clear hr0 hc0
 have HB := Aside0.mk (Below.refl w.heap.size w)
 have H : (spec_l24Free.l0 k l0 0 a1_0 a1_1 a1_2 a1_3) = some r := h
 clear h
 have H' := Aside0.mk H
 clear H
 go_enter Tryd.func97, Tryd.ntmps97
 go_wp2_with (first | ((with_reducible refine gate_dst (N := 3) rfl ?_); refine box_event ?hg (N := 3) ?hd (cs := #[.int .i64 a1_0, .int .i64 a1_1, .int .i64 a1_2, .int .i64 a1_3]) (t := 26) ?hr ?_; (case hd => rfl); (case hg => rfl); (case hr => first | (go_simp; done) | (go_simp; rfl)); intro gb190 hg w3 hbox hb; have BK190 := Aside0.mk (hbox); have GW190 := Aside0.mk ((bz_ hg (lb0_ HB.out))); have GE190 := Aside0.mk ((bz_ hg (lb0_ HB.out))); replace HB := Aside0.mk (below_step (lb0_ HB.out) hb); clear hb hbox hg))
 go_loopg [5] k (fun kq v5 w' => ∃ (x5_1 : Int), v5 = .int .i64 x5_1 ∧ Aside0 (spec_l24Free.l0 kq l0 x5_1 a1_0 a1_1 a1_2 a1_3 = some r) ∧ Aside0 (kq ≤ k) ∧ Aside0 (w'.heap[gb190]? = some (.cells #[.int .i64 a1_0, .int .i64 a1_1, .int .i64 a1_2, .int .i64 a1_3] 26 (0, 0))) ∧ Aside0 (Below w.heap.size w w'))
 case atStart => exact ⟨(0), (by first | rfl | (simp; done) | (simp [*]; done)), H', ⟨Nat.le_refl _⟩, ⟨bk_ BK190.out⟩, ⟨lb1_ HB.out GE190.out⟩⟩
 case round =>
  clear H'
  try clear p2
  obtain ⟨x5_1, rfl, HA, HK1, BK190, HB⟩ := hrel
  cases gk with
  | zero => exact absurd HA.out (by simp [spec_l24Free.l0])
  | succ k1 =>
   have H := HA.out
   clear HA
   simp only [spec_l24Free.l0] at H
   by_cases c4 : x5_1 < (l0.length : Int)
   ·
    rw [if_pos c4] at H
    have c4b0 : decide (x5_1 < (l0.length : Int)) = true := decide_eq_true c4
    clear c4
    by_cases c5 : 0 ≤ x5_1
    ·
     rw [if_pos c5] at H
     have c5b0 : decide (0 ≤ x5_1) = true := decide_eq_true c5
     clear c5
     replace H := Option.bind_eq_some_iff.mp H
     obtain ⟨t193, A60, H⟩ := H
     replace H : (if t193 = true then (some false) else (spec_l24Free.l0 k1 l0 (wrap64 (x5_1 + 1)) a1_0 a1_1 a1_2 a1_3)) = some r := H
     have A6 := Aside0.mk A60
     clear A60
     by_cases c7 : t193 = true
     ·
      subst c7
      have H1 : (some false) = some r := by rw [if_pos rfl] at H; exact H
      clear H
      have H := H1
      clear H1
      obtain rfl := Option.some.inj H
      try go_wp2
      replace BK190 := Aside0.mk (blk_drew BK190.out)
      replace HB := Aside0.mk (below_drew1 HB.out)
      have p191 : 0 ≤ (x5_1 : Int) := dt_
      have q191 : x5_1 < (l0.length : Int) := dt_
      obtain ⟨ad191, e191, hx191_0, hx191_1, hx191_2⟩ := at_T29 HR0.out x5_1 p191 q191
      have hw191_2 := hx191_2
      have hw191_1 := hx191_1
      have hw191_0 := hx191_0
      cases e191
      replace hx191_0 := bc_ HB.out hx191_0
      replace hx191_1 := bc_ HB.out hx191_1
      replace hx191_2 := bc_ HB.out hx191_2
      replace p191 := eq_true p191
      replace q191 := eq_true q191
      have p192 : 0 ≤ (x5_1 : Int) := dt_
      have q192 : x5_1 < (l0.length : Int) := dt_
      obtain ⟨ad192, e192, hx192_0, hx192_1, hx192_2⟩ := at_T29 HR0.out x5_1 p192 q192
      have hw192_2 := hx192_2
      have hw192_1 := hx192_1
      have hw192_0 := hx192_0
      obtain rfl : ad191 = ad192 := (by injection e192)
      replace hx192_0 := bc_ HB.out hx192_0
      replace hx192_1 := bc_ HB.out hx192_1
      replace hx192_2 := bc_ HB.out hx192_2
      replace p192 := eq_true p192
      replace q192 := eq_true q192
      refine start_ (n := 13) (S := fun w' => w'.cell? ⟨gb190, 0, none⟩ = some (.int .i64 a1_0) ∧ w'.cell? ⟨gb190, 1, none⟩ = some (.int .i64 a1_1) ∧ w'.cell? ⟨gb190, 2, none⟩ = some (.int .i64 a1_2) ∧ w'.cell? ⟨gb190, 3, none⟩ = some (.int .i64 a1_3) ∧ w'.cell? (ad191.add ((x5_1).toNat * 3)) = some (.string ((rd_T29 l0 x5_1).f0)) ∧ w'.cell? ⟨(ad191.add ((x5_1).toNat * 3)).block, (ad191.add ((x5_1).toNat * 3)).off + 1, none⟩ = some (.int .i64 ((rd_T29 l0 x5_1).f1)) ∧ w'.cell? ⟨(ad191.add ((x5_1).toNat * 3)).block, (ad191.add ((x5_1).toNat * 3)).off + 2, none⟩ = some (.int .i64 ((rd_T29 l0 x5_1).f2)) ∧ w'.cell? (ad191.add ((x5_1).toNat * 3)) = some (.string ((rd_T29 l0 x5_1).f0)) ∧ w'.cell? ⟨(ad191.add ((x5_1).toNat * 3)).block, (ad191.add ((x5_1).toNat * 3)).off + 1, none⟩ = some (.int .i64 ((rd_T29 l0 x5_1).f1)) ∧ w'.cell? ⟨(ad191.add ((x5_1).toNat * 3)).block, (ad191.add ((x5_1).toNat * 3)).off + 2, none⟩ = some (.int .i64 ((rd_T29 l0 x5_1).f2))) (ds := []) spec_l24Free.mk0 (by kernel_rfl) rfl rfl ⟨(blk_cell BK190.out 0).trans rfl, (blk_cell BK190.out 1).trans rfl, (blk_cell BK190.out 2).trans rfl, (blk_cell BK190.out 3).trans rfl, (bc_ HB.out hw191_0), (bc_ HB.out hw191_1), (bc_ HB.out hw191_2), (bc_ HB.out hw192_0), (bc_ HB.out hw192_1), (bc_ HB.out hw192_2)⟩ (fun hHeld => ?_); refine with_tabW spec_l24Free.tab4 spec_l24Free.bits4 (fun HT_ HW_ => ?_)
      generalize wr.drew = w8 at BK190 HB hx191_0 hx191_1 hx191_2 hx192_0 hx192_1 hx192_2 hHeld ⊢
      refine pz_ HT_ 1 (some 13) spec_l24Free.mk1 ?_
      refine pz_ HT_ 2 (some 14) spec_l24Free.mk2 ?_
      refine pz_ HT_ 3 (some 15) spec_l24Free.mk3 ?_
      refine pz_ HT_ 4 (some 16) spec_l24Free.mk4 ?_
      refine pz_ HT_ 6 (some 18) spec_l24Free.mk5 ?_
      refine pz_ HT_ 7 (some 19) spec_l24Free.mk6 ?_
      refine pz_ HT_ 8 (some 20) spec_l24Free.mk7 ?_
      refine pz_ HT_ 9 (some 21) spec_l24Free.mk8 ?_
      refine tk_ HT_ HW_ hHeld 0 (some 12) spec_l24Free.mk9 ?_
      refine tk_ HT_ HW_ hHeld 5 (some 17) spec_l24Free.mk10 ?_
      refine tk_ HT_ HW_ hHeld 10 (some 22) spec_l24Free.mk11 ?_
      refine pz_ HT_ 11 (some 23) spec_l24Free.mk12 ?_
      refine one_ (i := 12) (N := some 24) spec_l24Free.mk13 rfl rfl (one_of HT_.out (by kernel_rfl)) (by decide) (fun K hK => ?_)
      refine gs_ Tryd.func92 #[.agg #[.int .i64 a1_0, .int .i64 a1_1, .int .i64 a1_2, .int .i64 a1_3], .agg #[.int .i64 ((rd_T29 l0 x5_1).f1), .int .i64 ((rd_T29 l0 x5_1).f2), .int .i64 1, .int .i64 1]] ?_
      with_reducible refine (spec_l24Meet.calls a1_0 a1_1 a1_2 a1_3 ((rd_T29 l0 x5_1).f1) ((rd_T29 l0 x5_1).f2) 1 1 true _ A6.out).mono ?_
      rintro e w9 ⟨rfl, hb⟩
      refine ⟨_, rfl, ?_⟩
      replace BK190 := Aside0.mk (bb_ (bk_ BK190.out) hb)
      replace HB := Aside0.mk (below_step (lb1_ HB.out GE190.out) hb)
      (try clear hb)
      (try clear hb2)
      (try clear hk)
      (try clear hi)
      refine hK.out _ _ ⟨(blk_cell BK190.out 0).trans rfl, (blk_cell BK190.out 1).trans rfl, (blk_cell BK190.out 2).trans rfl, (blk_cell BK190.out 3).trans rfl, ((HB.out.cell (World.block_lt_of_cell? w _ hw191_0)).trans hw191_0), ((HB.out.cell (World.block_lt_of_cell? w _ hw191_1)).trans hw191_1), ((HB.out.cell (World.block_lt_of_cell? w _ hw191_2)).trans hw191_2), ((HB.out.cell (World.block_lt_of_cell? w _ hw192_0)).trans hw192_0), ((HB.out.cell (World.block_lt_of_cell? w _ hw192_1)).trans hw192_1), ((HB.out.cell (World.block_lt_of_cell? w _ hw192_2)).trans hw192_2)⟩ (fun hHeld => ?_)
      clear hK K
      refine na_ ?_
      refine done_ (done_of HT_.out (by kernel_rfl)) ?_
      try go_wp2
      go_ret
      exact ⟨rr_, lb1_ HB.out GE190.out⟩
     ·
      replace c7 := Bool.eq_false_iff.mpr c7
      subst c7
      have H1 : (spec_l24Free.l0 k1 l0 (wrap64 (x5_1 + 1)) a1_0 a1_1 a1_2 a1_3) = some r := by rw [if_neg (show ¬ (false = true) by decide)] at H; exact H
      clear H
      have H := H1
      clear H1
      have H' := Aside0.mk H
      clear H
      try go_wp2
      replace BK190 := Aside0.mk (blk_drew BK190.out)
      replace HB := Aside0.mk (below_drew1 HB.out)
      have p191 : 0 ≤ (x5_1 : Int) := dt_
      have q191 : x5_1 < (l0.length : Int) := dt_
      obtain ⟨ad191, e191, hx191_0, hx191_1, hx191_2⟩ := at_T29 HR0.out x5_1 p191 q191
      have hw191_2 := hx191_2
      have hw191_1 := hx191_1
      have hw191_0 := hx191_0
      cases e191
      replace hx191_0 := bc_ HB.out hx191_0
      replace hx191_1 := bc_ HB.out hx191_1
      replace hx191_2 := bc_ HB.out hx191_2
      replace p191 := eq_true p191
      replace q191 := eq_true q191
      have p192 : 0 ≤ (x5_1 : Int) := dt_
      have q192 : x5_1 < (l0.length : Int) := dt_
      obtain ⟨ad192, e192, hx192_0, hx192_1, hx192_2⟩ := at_T29 HR0.out x5_1 p192 q192
      have hw192_2 := hx192_2
      have hw192_1 := hx192_1
      have hw192_0 := hx192_0
      obtain rfl : ad191 = ad192 := (by injection e192)
      replace hx192_0 := bc_ HB.out hx192_0
      replace hx192_1 := bc_ HB.out hx192_1
      replace hx192_2 := bc_ HB.out hx192_2
      replace p192 := eq_true p192
      replace q192 := eq_true q192
      refine start_ (n := 13) (S := fun w' => w'.cell? ⟨gb190, 0, none⟩ = some (.int .i64 a1_0) ∧ w'.cell? ⟨gb190, 1, none⟩ = some (.int .i64 a1_1) ∧ w'.cell? ⟨gb190, 2, none⟩ = some (.int .i64 a1_2) ∧ w'.cell? ⟨gb190, 3, none⟩ = some (.int .i64 a1_3) ∧ w'.cell? (ad191.add ((x5_1).toNat * 3)) = some (.string ((rd_T29 l0 x5_1).f0)) ∧ w'.cell? ⟨(ad191.add ((x5_1).toNat * 3)).block, (ad191.add ((x5_1).toNat * 3)).off + 1, none⟩ = some (.int .i64 ((rd_T29 l0 x5_1).f1)) ∧ w'.cell? ⟨(ad191.add ((x5_1).toNat * 3)).block, (ad191.add ((x5_1).toNat * 3)).off + 2, none⟩ = some (.int .i64 ((rd_T29 l0 x5_1).f2)) ∧ w'.cell? (ad191.add ((x5_1).toNat * 3)) = some (.string ((rd_T29 l0 x5_1).f0)) ∧ w'.cell? ⟨(ad191.add ((x5_1).toNat * 3)).block, (ad191.add ((x5_1).toNat * 3)).off + 1, none⟩ = some (.int .i64 ((rd_T29 l0 x5_1).f1)) ∧ w'.cell? ⟨(ad191.add ((x5_1).toNat * 3)).block, (ad191.add ((x5_1).toNat * 3)).off + 2, none⟩ = some (.int .i64 ((rd_T29 l0 x5_1).f2))) (ds := []) spec_l24Free.mk0 (by kernel_rfl) rfl rfl ⟨(blk_cell BK190.out 0).trans rfl, (blk_cell BK190.out 1).trans rfl, (blk_cell BK190.out 2).trans rfl, (blk_cell BK190.out 3).trans rfl, (bc_ HB.out hw191_0), (bc_ HB.out hw191_1), (bc_ HB.out hw191_2), (bc_ HB.out hw192_0), (bc_ HB.out hw192_1), (bc_ HB.out hw192_2)⟩ (fun hHeld => ?_); refine with_tabW spec_l24Free.tab4 spec_l24Free.bits4 (fun HT_ HW_ => ?_)
      generalize wr.drew = w10 at BK190 HB hx191_0 hx191_1 hx191_2 hx192_0 hx192_1 hx192_2 hHeld ⊢
      refine pz_ HT_ 1 (some 13) spec_l24Free.mk1 ?_
      refine pz_ HT_ 2 (some 14) spec_l24Free.mk2 ?_
      refine pz_ HT_ 3 (some 15) spec_l24Free.mk3 ?_
      refine pz_ HT_ 4 (some 16) spec_l24Free.mk4 ?_
      refine pz_ HT_ 6 (some 18) spec_l24Free.mk5 ?_
      refine pz_ HT_ 7 (some 19) spec_l24Free.mk6 ?_
      refine pz_ HT_ 8 (some 20) spec_l24Free.mk7 ?_
      refine pz_ HT_ 9 (some 21) spec_l24Free.mk8 ?_
      refine tk_ HT_ HW_ hHeld 0 (some 12) spec_l24Free.mk9 ?_
      refine tk_ HT_ HW_ hHeld 5 (some 17) spec_l24Free.mk10 ?_
      refine tk_ HT_ HW_ hHeld 10 (some 22) spec_l24Free.mk11 ?_
      refine pz_ HT_ 11 (some 23) spec_l24Free.mk12 ?_
      refine one_ (i := 12) (N := some 24) spec_l24Free.mk13 rfl rfl (one_of HT_.out (by kernel_rfl)) (by decide) (fun K hK => ?_)
      refine gs_ Tryd.func92 #[.agg #[.int .i64 a1_0, .int .i64 a1_1, .int .i64 a1_2, .int .i64 a1_3], .agg #[.int .i64 ((rd_T29 l0 x5_1).f1), .int .i64 ((rd_T29 l0 x5_1).f2), .int .i64 1, .int .i64 1]] ?_
      with_reducible refine (spec_l24Meet.calls a1_0 a1_1 a1_2 a1_3 ((rd_T29 l0 x5_1).f1) ((rd_T29 l0 x5_1).f2) 1 1 false _ A6.out).mono ?_
      rintro e w11 ⟨rfl, hb⟩
      refine ⟨_, rfl, ?_⟩
      replace BK190 := Aside0.mk (bb_ (bk_ BK190.out) hb)
      replace HB := Aside0.mk (below_step (lb1_ HB.out GE190.out) hb)
      (try clear hb)
      (try clear hb2)
      (try clear hk)
      (try clear hi)
      refine hK.out _ _ ⟨(blk_cell BK190.out 0).trans rfl, (blk_cell BK190.out 1).trans rfl, (blk_cell BK190.out 2).trans rfl, (blk_cell BK190.out 3).trans rfl, ((HB.out.cell (World.block_lt_of_cell? w _ hw191_0)).trans hw191_0), ((HB.out.cell (World.block_lt_of_cell? w _ hw191_1)).trans hw191_1), ((HB.out.cell (World.block_lt_of_cell? w _ hw191_2)).trans hw191_2), ((HB.out.cell (World.block_lt_of_cell? w _ hw192_0)).trans hw192_0), ((HB.out.cell (World.block_lt_of_cell? w _ hw192_1)).trans hw192_1), ((HB.out.cell (World.block_lt_of_cell? w _ hw192_2)).trans hw192_2)⟩ (fun hHeld => ?_)
      clear hK K
      refine na_ ?_
      refine done_ (done_of HT_.out (by kernel_rfl)) ?_
      try go_wp2
      go_roundg k1
      case measure => have := HK1.out; omega
      case rel => exact ⟨(wrap64 (x5_1 + 1)), (by first | rfl | (simp; done) | (simp [*]; done)), H', ⟨by have := HK1.out; omega⟩, ⟨bk_ BK190.out⟩, ⟨lb1_ HB.out GE190.out⟩⟩
    ·
     rw [if_neg c5] at H
     exact absurd H (by simp)
   ·
    rw [if_neg c4] at H
    have c4b0 : decide (x5_1 < (l0.length : Int)) = false := decide_eq_false c4
    clear c4
    by_cases c12 : a1_0 ≥ 0
    ·
     rw [if_pos c12] at H
     have c12b0 : decide (0 ≤ a1_0) = true := decide_eq_true c12
     clear c12
     by_cases c13 : a1_1 ≥ 0
     ·
      rw [if_pos c13] at H
      have c13b0 : decide (0 ≤ a1_1) = true := decide_eq_true c13
      clear c13
      by_cases c14 : (wrap64 (a1_0 + a1_2)) ≤ 100
      ·
       rw [if_pos c14] at H
       have c14b0 : decide ((wrap64 (a1_0 + a1_2)) ≤ 100) = true := decide_eq_true c14
       clear c14
       obtain rfl := Option.some.inj H
       obtain ⟨hcz15_0, hcz15_1, hcz15_2, hcz15_3⟩ := cz4_ BK190.out
       obtain ⟨hfz15_0, hfz15_1, hfz15_2, hfz15_3⟩ := fz4_ BK190.out
       go_wp2
       go_ret
       exact ⟨rr_, lb1_ HB.out GE190.out⟩
      ·
       rw [if_neg c14] at H
       have c14b0 : decide ((wrap64 (a1_0 + a1_2)) ≤ 100) = false := decide_eq_false c14
       clear c14
       obtain rfl := Option.some.inj H
       obtain ⟨hcz16_0, hcz16_1, hcz16_2, hcz16_3⟩ := cz4_ BK190.out
       obtain ⟨hfz16_0, hfz16_1, hfz16_2, hfz16_3⟩ := fz4_ BK190.out
       go_wp2
       go_ret
       exact ⟨rr_, lb1_ HB.out GE190.out⟩
     ·
      rw [if_neg c13] at H
      have c13b0 : decide (0 ≤ a1_1) = false := decide_eq_false c13
      clear c13
      obtain rfl := Option.some.inj H
      obtain ⟨hcz17_0, hcz17_1, hcz17_2, hcz17_3⟩ := cz4_ BK190.out
      obtain ⟨hfz17_0, hfz17_1, hfz17_2, hfz17_3⟩ := fz4_ BK190.out
      go_wp2
      go_ret
      exact ⟨rr_, lb1_ HB.out GE190.out⟩
    ·
     rw [if_neg c12] at H
     have c12b0 : decide (0 ≤ a1_0) = false := decide_eq_false c12
     clear c12
     obtain rfl := Option.some.inj H
     obtain ⟨hcz18_0, hcz18_1, hcz18_2, hcz18_3⟩ := cz4_ BK190.out
     obtain ⟨hfz18_0, hfz18_1, hfz18_2, hfz18_3⟩ := fz4_ BK190.out
     go_wp2
     go_ret
     exact ⟨rr_, lb1_ HB.out GE190.out⟩
def spec_l24May.l0 : Nat → List (S29) → List Int → Int → Int → Int → Int → Int → Int → Option (Bool)
 | 0, _, _, _, _, _, _, _, _ => none
 | k + 1, x0, x1, x2, x8, x201000, x201001, x201002, x201003 => if x8 < x2 then (if 0 ≤ x8 then (if x8 < (x1.length : Int) then (if (rd x1 x8) ≥ 0 then (if x8 < (x0.length : Int) then ((spec_l24Box.f ((rd_T29 x0 x8).f0) ((rd_T29 x0 x8).f1) ((rd_T29 x0 x8).f2) (rd x1 x8)).bind fun bt205 => ((spec_l24Meet.f x201000 x201001 x201002 x201003 bt205.1 bt205.2.1 bt205.2.2.1 bt205.2.2.2).bind fun t209 => (if t209 = true then (some false) else (spec_l24May.l0 k x0 x1 x2 (wrap64 (x8 + 1)) x201000 x201001 x201002 x201003)))) else (none)) else (spec_l24May.l0 k x0 x1 x2 (wrap64 (x8 + 1)) x201000 x201001 x201002 x201003)) else (none)) else (none)) else (some true)
def spec_l24May.f (k : Nat) (l0 : List (S29)) (l1 : List Int) (a2 : Int) : Option (Bool) := if 0 ≤ a2 then (if a2 < (l0.length : Int) then (if a2 < (l1.length : Int) then ((spec_l24Box.f ((rd_T29 l0 a2).f0) ((rd_T29 l0 a2).f1) ((rd_T29 l0 a2).f2) (rd l1 a2)).bind fun bt196 => ((spec_l24Free.f k l0 bt196.1 bt196.2.1 bt196.2.2.1 bt196.2.2.2).bind fun t201 => (if t201 = true then (spec_l24May.l0 k l0 l1 a2 0 bt196.1 bt196.2.1 bt196.2.2.1 bt196.2.2.2) else (some false)))) else (none)) else (none)) else (none)
def spec_l24May.T1 : Bool × List (List Nat × List Nat) := (true, [([], []), ([], []), ([0, 1], [0, 1]), ([2], [2]), ([], []), ([], []), ([4, 5], [4, 5]), ([6], [6]), ([3, 7], [3, 7]), ([], []), ([9, 8, 8, 0, 1, 2, 3, 4, 5, 6, 7, 8, 9], [8, 9])])
def spec_l24May.B1 : List Nat := [0, 0, 3, 7, 0, 0, 48, 112, 255, 0, 1023]
theorem spec_l24May.tab1 : rtab .any (opsOf Tryd.f64 1) = spec_l24May.T1 := by kernel_rfl
theorem spec_l24May.bits1 : waitsOk spec_l24May.T1.2 spec_l24May.B1 = true := by kernel_rfl
def spec_l24May.T7 : Bool × List (List Nat × List Nat) := (true, [([], []), ([], []), ([0, 1], [0, 1]), ([2], [2]), ([3], [3]), ([4], [4]), ([5], [5]), ([5], [5]), ([5], [5]), ([7, 8, 5], [5, 7, 8]), ([9, 5], [5, 9]), ([5], [5]), ([5], [5]), ([11, 12, 5], [5, 11, 12]), ([13, 5], [5, 13]), ([10, 14, 5, 5], [5, 10, 14]), ([6, 15, 15, 5], [5, 6, 15]), ([5, 16], [5, 16])])
def spec_l24May.B7 : List Nat := [0, 0, 3, 7, 15, 31, 63, 63, 63, 447, 959, 63, 63, 6207, 14399, 32703, 65535, 131071]
theorem spec_l24May.tab7 : rtab .any (opsOf Tryd.f64 7) = spec_l24May.T7 := by kernel_rfl
theorem spec_l24May.bits7 : waitsOk spec_l24May.T7.2 spec_l24May.B7 = true := by kernel_rfl
abbrev spec_l24May.mk0 : Array Bool := #[fF,fF,fF,fF,fF,fF,fF,fF,fF,fF,fF]
abbrev spec_l24May.mk1 : Array Bool := #[tT,fF,fF,fF,fF,fF,fF,fF,fF,fF,fF]
abbrev spec_l24May.mk2 : Array Bool := #[tT,tT,fF,fF,fF,fF,fF,fF,fF,fF,fF]
abbrev spec_l24May.mk3 : Array Bool := #[tT,tT,tT,fF,fF,fF,fF,fF,fF,fF,fF]
abbrev spec_l24May.mk4 : Array Bool := #[tT,tT,tT,fF,tT,fF,fF,fF,fF,fF,fF]
abbrev spec_l24May.mk5 : Array Bool := #[tT,tT,tT,fF,tT,tT,fF,fF,fF,fF,fF]
abbrev spec_l24May.mk6 : Array Bool := #[tT,tT,tT,fF,tT,tT,tT,fF,fF,fF,fF]
abbrev spec_l24May.mk7 : Array Bool := #[tT,tT,tT,tT,tT,tT,tT,fF,fF,fF,fF]
abbrev spec_l24May.mk8 : Array Bool := #[tT,tT,tT,tT,tT,tT,tT,tT,fF,fF,fF]
abbrev spec_l24May.mk9 : Array Bool := #[tT,tT,tT,tT,tT,tT,tT,tT,tT,tT,fF]
abbrev spec_l24May.mk10 : Array Bool := #[tT,tT,tT,tT,tT,tT,tT,tT,tT,fF,fF]
abbrev spec_l24May.mk11 : Array Bool := #[tT,tT,tT,tT,tT,tT,tT,tT,fF,tT,fF]
abbrev spec_l24May.mk12 : Array Bool := #[tT,tT,tT,tT,tT,tT,tT,tT,tT,tT,tT]
abbrev spec_l24May.mk13 : Array Bool := #[fF,fF,fF,fF,fF,fF,fF,fF,fF,fF,fF,fF,fF,fF,fF,fF,fF,fF]
abbrev spec_l24May.mk14 : Array Bool := #[tT,fF,fF,fF,fF,fF,fF,fF,fF,fF,fF,fF,fF,fF,fF,fF,fF,fF]
abbrev spec_l24May.mk15 : Array Bool := #[tT,tT,fF,fF,fF,fF,fF,fF,fF,fF,fF,fF,fF,fF,fF,fF,fF,fF]
abbrev spec_l24May.mk16 : Array Bool := #[tT,tT,tT,fF,fF,fF,fF,fF,fF,fF,fF,fF,fF,fF,fF,fF,fF,fF]
abbrev spec_l24May.mk17 : Array Bool := #[tT,tT,tT,tT,fF,fF,fF,fF,fF,fF,fF,fF,fF,fF,fF,fF,fF,fF]
abbrev spec_l24May.mk18 : Array Bool := #[tT,tT,tT,tT,tT,fF,fF,fF,fF,fF,fF,fF,fF,fF,fF,fF,fF,fF]
abbrev spec_l24May.mk19 : Array Bool := #[tT,tT,tT,tT,tT,tT,fF,fF,fF,fF,fF,fF,fF,fF,fF,fF,fF,fF]
abbrev spec_l24May.mk20 : Array Bool := #[tT,tT,tT,tT,tT,tT,fF,tT,fF,fF,fF,fF,fF,fF,fF,fF,fF,fF]
abbrev spec_l24May.mk21 : Array Bool := #[tT,tT,tT,tT,tT,tT,fF,tT,tT,fF,fF,fF,fF,fF,fF,fF,fF,fF]
abbrev spec_l24May.mk22 : Array Bool := #[tT,tT,tT,tT,tT,tT,fF,tT,tT,tT,fF,fF,fF,fF,fF,fF,fF,fF]
abbrev spec_l24May.mk23 : Array Bool := #[tT,tT,tT,tT,tT,tT,fF,tT,tT,tT,fF,tT,fF,fF,fF,fF,fF,fF]
abbrev spec_l24May.mk24 : Array Bool := #[tT,tT,tT,tT,tT,tT,fF,tT,tT,tT,fF,tT,tT,fF,fF,fF,fF,fF]
abbrev spec_l24May.mk25 : Array Bool := #[tT,tT,tT,tT,tT,tT,fF,tT,tT,tT,fF,tT,tT,tT,fF,fF,fF,fF]
abbrev spec_l24May.mk26 : Array Bool := #[tT,tT,tT,tT,tT,tT,tT,tT,tT,tT,fF,tT,tT,tT,fF,fF,fF,fF]
abbrev spec_l24May.mk27 : Array Bool := #[tT,tT,tT,tT,tT,tT,tT,tT,tT,tT,tT,tT,tT,tT,fF,fF,fF,fF]
abbrev spec_l24May.mk28 : Array Bool := #[tT,tT,tT,tT,tT,tT,tT,tT,tT,tT,tT,tT,tT,tT,tT,fF,fF,fF]
abbrev spec_l24May.mk29 : Array Bool := #[tT,tT,tT,tT,tT,tT,tT,tT,tT,tT,tT,tT,tT,tT,tT,tT,fF,fF]
abbrev spec_l24May.mk30 : Array Bool := #[tT,tT,tT,tT,tT,tT,tT,tT,tT,tT,tT,tT,tT,tT,tT,tT,tT,fF]
abbrev spec_l24May.mk31 : Array Bool := #[tT,tT,tT,tT,tT,tT,tT,tT,tT,tT,tT,tT,tT,tT,tT,tT,tT,tT]
abbrev spec_l24May.mk32 : Array Bool := #[tT,tT,tT,tT,tT,tT,tT,fF,fF,fF,fF,fF,fF,fF,fF,fF,fF,fF]
abbrev spec_l24May.mk33 : Array Bool := #[tT,tT,tT,tT,tT,tT,tT,tT,fF,fF,fF,fF,fF,fF,fF,fF,fF,fF]
abbrev spec_l24May.mk34 : Array Bool := #[tT,tT,tT,tT,tT,tT,tT,tT,tT,fF,fF,fF,fF,fF,fF,fF,fF,fF]
abbrev spec_l24May.mk35 : Array Bool := #[tT,tT,tT,tT,tT,tT,tT,tT,tT,tT,fF,fF,fF,fF,fF,fF,fF,fF]
abbrev spec_l24May.mk36 : Array Bool := #[tT,tT,tT,tT,tT,tT,tT,tT,tT,tT,tT,fF,fF,fF,fF,fF,fF,fF]
abbrev spec_l24May.mk37 : Array Bool := #[tT,tT,tT,tT,tT,tT,tT,tT,tT,tT,tT,tT,fF,fF,fF,fF,fF,fF]
abbrev spec_l24May.mk38 : Array Bool := #[tT,tT,tT,tT,tT,tT,tT,tT,tT,tT,tT,tT,tT,fF,fF,fF,fF,fF]
set_option maxHeartbeats 8000000 in
set_option maxRecDepth 100000 in
theorem spec_l24May.calls (k : Nat) (A0 : Option Addr) (c0 : Nat) (l0 : List (S29)) (A1 : Option Addr) (c1 : Nat) (l1 : List Int) (a2 : Int) (r : Bool) (w : World) (hr0 : Kd.C k29 w A0 l0.length l0) (hc0 : l0.length ≤ c0) (hr1 : Kd.C (Kd.int .i64) w A1 l1.length l1) (hc1 : l1.length ≤ c1) (h : spec_l24May.f k l0 l1 a2 = some r) :
  Calls Tryd.prog 64 #[.slice A0 l0.length c0, .slice A1 l1.length c1, .int .i64 a2] w fun e w' => e = .returned (.bool r) ∧ Below w.heap.size w w' := by
 have hu29 := Tryd.underlying29
 have hu26 := Tryd.underlying26
 have HR0 := Aside0.mk hr0
 have HC0 := Aside0.mk hc0
 clear hr0 hc0
 have HR1 := Aside0.mk hr1
 have HC1 := Aside0.mk hc1
 clear hr1 hc1
 have HB := Aside0.mk (Below.refl w.heap.size w)
 have H : (if 0 ≤ a2 then (if a2 < (l0.length : Int) then (if a2 < (l1.length : Int) then ((spec_l24Box.f ((rd_T29 l0 a2).f0) ((rd_T29 l0 a2).f1) ((rd_T29 l0 a2).f2) (rd l1 a2)).bind fun bt196 => ((spec_l24Free.f k l0 bt196.1 bt196.2.1 bt196.2.2.1 bt196.2.2.2).bind fun t201 => (if t201 = true then (spec_l24May.l0 k l0 l1 a2 0 bt196.1 bt196.2.1 bt196.2.2.1 bt196.2.2.2) else (some false)))) else (none)) else (none)) else (none)) = some r := h
 clear h
 by_cases c4 : 0 ≤ a2
 ·
  rw [if_pos c4] at H
  have c4b0 : decide (0 ≤ a2) = true := decide_eq_true c4
  clear c4
  by_cases c5 : a2 < (l0.length : Int)
  ·
   rw [if_pos c5] at H
   have c5b0 : decide (a2 < (l0.length : Int)) = true := decide_eq_true c5
   clear c5
   by_cases c6 : a2 < (l1.length : Int)
   ·
    rw [if_pos c6] at H
    have c6b0 : decide (a2 < (l1.length : Int)) = true := decide_eq_true c6
    clear c6
    replace H := Option.bind_eq_some_iff.mp H
    obtain ⟨⟨t196, t197, t198, t199⟩, A70, H⟩ := H
    replace H : ((spec_l24Free.f k l0 t196 t197 t198 t199).bind fun t201 => (if t201 = true then (spec_l24May.l0 k l0 l1 a2 0 t196 t197 t198 t199) else (some false))) = some r := H
    have A7 := Aside0.mk A70
    clear A70
    replace H := Option.bind_eq_some_iff.mp H
    obtain ⟨t201, A80, H⟩ := H
    replace H : (if t201 = true then (spec_l24May.l0 k l0 l1 a2 0 t196 t197 t198 t199) else (some false)) = some r := H
    have A8 := Aside0.mk A80
    clear A80
    by_cases c9 : t201 = true
    ·
     subst c9
     have H1 : (spec_l24May.l0 k l0 l1 a2 0 t196 t197 t198 t199) = some r := by rw [if_pos rfl] at H; exact H
     clear H
     have H := H1
     clear H1
     have H' := Aside0.mk H
     clear H
     go_enter Tryd.func64, Tryd.ntmps64
     try go_wp2
     replace HB := Aside0.mk (below_drew1 HB.out)
     have p194 : 0 ≤ (a2 : Int) := dt_
     have q194 : a2 < (l0.length : Int) := dt_
     obtain ⟨ad194, e194, hx194_0, hx194_1, hx194_2⟩ := at_T29 HR0.out a2 p194 q194
     have hw194_2 := hx194_2
     have hw194_1 := hx194_1
     have hw194_0 := hx194_0
     cases e194
     replace hx194_0 := bc_ HB.out hx194_0
     replace hx194_1 := bc_ HB.out hx194_1
     replace hx194_2 := bc_ HB.out hx194_2
     replace p194 := eq_true p194
     replace q194 := eq_true q194
     have p195 : 0 ≤ (a2 : Int) := dt_
     have q195 : a2 < (l1.length : Int) := dt_
     obtain ⟨ad195, e195, hx195_0⟩ := Kd.at_int HR1.out a2 p195 q195
     have hw195_0 := hx195_0
     cases e195
     replace hx195_0 := bc_ HB.out hx195_0
     replace p195 := eq_true p195
     replace q195 := eq_true q195
     refine start_ (n := 11) (S := fun w' => w'.cell? (ad194.add ((a2).toNat * 3)) = some (.string ((rd_T29 l0 a2).f0)) ∧ w'.cell? ⟨(ad194.add ((a2).toNat * 3)).block, (ad194.add ((a2).toNat * 3)).off + 1, none⟩ = some (.int .i64 ((rd_T29 l0 a2).f1)) ∧ w'.cell? ⟨(ad194.add ((a2).toNat * 3)).block, (ad194.add ((a2).toNat * 3)).off + 2, none⟩ = some (.int .i64 ((rd_T29 l0 a2).f2)) ∧ w'.cell? (ad195.add (a2).toNat) = some (.int .i64 (rd l1 a2))) (ds := []) spec_l24May.mk0 (by kernel_rfl) rfl rfl ⟨(bc_ HB.out hw194_0), (bc_ HB.out hw194_1), (bc_ HB.out hw194_2), (bc_ HB.out hw195_0)⟩ (fun hHeld => ?_); refine with_tabW spec_l24May.tab1 spec_l24May.bits1 (fun HT_ HW_ => ?_)
     generalize w.drew = w10 at HB hx194_0 hx194_1 hx194_2 hx195_0 hHeld ⊢
     refine pz_ HT_ 0 (some 9) spec_l24May.mk1 ?_
     refine pz_ HT_ 1 (some 10) spec_l24May.mk2 ?_
     refine pz_ HT_ 2 (some 11) spec_l24May.mk3 ?_
     refine pz_ HT_ 4 (some 13) spec_l24May.mk4 ?_
     refine pz_ HT_ 5 (some 14) spec_l24May.mk5 ?_
     refine pz_ HT_ 6 (some 15) spec_l24May.mk6 ?_
     refine tk_ HT_ HW_ hHeld 3 (some 12) spec_l24May.mk7 ?_
     refine tk_ HT_ HW_ hHeld 7 (some 16) spec_l24May.mk8 ?_
     refine join_ (σ := Nat) 1 spec_l24May.mk9 (fun s_ => [(17, .agg #[.int .i64 t196, .int .i64 t197, .int .i64 t198, .int .i64 t199]), (7, .pointer (some ⟨s_, 0, none⟩))]) (fun s_ w' => (w'.cell? (ad194.add ((a2).toNat * 3)) = some (.string ((rd_T29 l0 a2).f0)) ∧ w'.cell? ⟨(ad194.add ((a2).toNat * 3)).block, (ad194.add ((a2).toNat * 3)).off + 1, none⟩ = some (.int .i64 ((rd_T29 l0 a2).f1)) ∧ w'.cell? ⟨(ad194.add ((a2).toNat * 3)).block, (ad194.add ((a2).toNat * 3)).off + 2, none⟩ = some (.int .i64 ((rd_T29 l0 a2).f2)) ∧ w'.cell? (ad195.add (a2).toNat) = some (.int .i64 (rd l1 a2))) ∧ (w'.heap[s_]? = some (.cells #[.int .i64 0, .int .i64 0, .int .i64 0, .int .i64 0] 26 (0, 0))) ∧ (w.heap.size ≤ s_) ∧ (w.heap.size ≤ s_) ∧ (Below w.heap.size w w')) ?_ ?_
     rotate_left
     ·
      intro hCont
      refine two_ (i := 8) (j := 9) (Ni := some 17) (Nj := some 7) spec_l24May.mk10 spec_l24May.mk11 rfl rfl rfl rfl (two_of HT_.out (by kernel_rfl)) (by decide) (by decide) (fun K hK => ?_) (fun K hK => ?_)
      ·
       skip
       refine gs_ Tryd.func56 #[.agg #[.string ((rd_T29 l0 a2).f0), .int .i64 ((rd_T29 l0 a2).f1), .int .i64 ((rd_T29 l0 a2).f2)], .int .i64 (rd l1 a2)] ?_
       with_reducible refine (spec_l24Box.calls ((rd_T29 l0 a2).f0) ((rd_T29 l0 a2).f1) ((rd_T29 l0 a2).f2) (rd l1 a2) t196 t197 t198 t199 _ A7.out).mono ?_
       rintro e w11 ⟨rfl, hb⟩
       refine ⟨_, rfl, ?_⟩
       replace HB := Aside0.mk (below_step (lb0_ HB.out) hb)
       (try clear hb)
       (try clear hb2)
       (try clear hk)
       (try clear hi)
       refine hK.out _ _ ⟨((HB.out.cell (World.block_lt_of_cell? w _ hw194_0)).trans hw194_0), ((HB.out.cell (World.block_lt_of_cell? w _ hw194_1)).trans hw194_1), ((HB.out.cell (World.block_lt_of_cell? w _ hw194_2)).trans hw194_2), ((HB.out.cell (World.block_lt_of_cell? w _ hw195_0)).trans hw195_0)⟩ (fun hHeld => ?_)
       clear hK K
       refine na_ ?_
       refine one_ (i := 9) (N := some 7) spec_l24May.mk9 rfl rfl (one_of HT_.out (by kernel_rfl)) (by decide) (fun K hK => ?_)
       refine box_step ?hg (N := 7) ?hd (cs := #[.int .i64 0, .int .i64 0, .int .i64 0, .int .i64 0]) (t := 26) ?hr ?_; (case hd => rfl); (case hg => rfl); (case hr => first | (go_simp; done) | (go_simp; rfl))
       intro gb200 hg w12 hbox hb
       have BK200 := Aside0.mk (hbox)
       have GW200 := Aside0.mk ((bz_ hg (lb0_ HB.out)))
       have GE200 := Aside0.mk ((bz_ hg (lb0_ HB.out)))
       replace HB := Aside0.mk (below_step (lb0_ HB.out) hb)
       clear hb hbox hg
       refine hK.out _ _ ⟨((HB.out.cell (World.block_lt_of_cell? w _ hw194_0)).trans hw194_0), ((HB.out.cell (World.block_lt_of_cell? w _ hw194_1)).trans hw194_1), ((HB.out.cell (World.block_lt_of_cell? w _ hw194_2)).trans hw194_2), ((HB.out.cell (World.block_lt_of_cell? w _ hw195_0)).trans hw195_0)⟩ (fun hHeld => ?_)
       clear hK K
       refine na_ ?_
       exact norm_ (by simp only [putAll, Act.put, List.setIfInBounds_toArray, List.set_cons_zero, List.set_cons_succ]) (hCont (gb200) _ ⟨hHeld, (bk_ BK200.out), GW200.out, GE200.out, (lb1_ HB.out GE200.out)⟩)
      ·
       skip
       refine box_step ?hg (N := 7) ?hd (cs := #[.int .i64 0, .int .i64 0, .int .i64 0, .int .i64 0]) (t := 26) ?hr ?_; (case hd => rfl); (case hg => rfl); (case hr => first | (go_simp; done) | (go_simp; rfl))
       intro gb200 hg w11 hbox hb
       have BK200 := Aside0.mk (hbox)
       have GW200 := Aside0.mk ((bz_ hg (lb0_ HB.out)))
       have GE200 := Aside0.mk ((bz_ hg (lb0_ HB.out)))
       replace HB := Aside0.mk (below_step (lb0_ HB.out) hb)
       clear hb hbox hg
       refine hK.out _ _ ⟨((HB.out.cell (World.block_lt_of_cell? w _ hw194_0)).trans hw194_0), ((HB.out.cell (World.block_lt_of_cell? w _ hw194_1)).trans hw194_1), ((HB.out.cell (World.block_lt_of_cell? w _ hw194_2)).trans hw194_2), ((HB.out.cell (World.block_lt_of_cell? w _ hw195_0)).trans hw195_0)⟩ (fun hHeld => ?_)
       clear hK K
       refine na_ ?_
       refine one_ (i := 8) (N := some 17) spec_l24May.mk9 rfl rfl (one_of HT_.out (by kernel_rfl)) (by decide) (fun K hK => ?_)
       refine gs_ Tryd.func56 #[.agg #[.string ((rd_T29 l0 a2).f0), .int .i64 ((rd_T29 l0 a2).f1), .int .i64 ((rd_T29 l0 a2).f2)], .int .i64 (rd l1 a2)] ?_
       with_reducible refine (spec_l24Box.calls ((rd_T29 l0 a2).f0) ((rd_T29 l0 a2).f1) ((rd_T29 l0 a2).f2) (rd l1 a2) t196 t197 t198 t199 _ A7.out).mono ?_
       rintro e w12 ⟨rfl, hb⟩
       refine ⟨_, rfl, ?_⟩
       replace BK200 := Aside0.mk (bb_ (bk_ BK200.out) hb)
       replace HB := Aside0.mk (below_step (lb1_ HB.out GE200.out) hb)
       (try clear hb)
       (try clear hb2)
       (try clear hk)
       (try clear hi)
       refine hK.out _ _ ⟨((HB.out.cell (World.block_lt_of_cell? w _ hw194_0)).trans hw194_0), ((HB.out.cell (World.block_lt_of_cell? w _ hw194_1)).trans hw194_1), ((HB.out.cell (World.block_lt_of_cell? w _ hw194_2)).trans hw194_2), ((HB.out.cell (World.block_lt_of_cell? w _ hw195_0)).trans hw195_0)⟩ (fun hHeld => ?_)
       clear hK K
       refine na_ ?_
       exact norm_ (by simp only [putAll, Act.put, List.setIfInBounds_toArray, List.set_cons_zero, List.set_cons_succ]) (hCont (gb200) _ ⟨hHeld, (bk_ BK200.out), GW200.out, GE200.out, (lb1_ HB.out GE200.out)⟩)
     rintro gb200 w13 ⟨hS_, h0_, h1_, h2_, h3_⟩
     (try dsimp only at h0_ h1_ h2_ h3_)
     have BK200 := Aside0.mk h0_
     have GW200 := Aside0.mk h1_
     have GE200 := Aside0.mk h2_
     replace HB := Aside0.mk h3_
     clear h0_ h1_ h2_ h3_
     have hHeld : w13.cell? (ad194.add ((a2).toNat * 3)) = some (.string ((rd_T29 l0 a2).f0)) ∧ w13.cell? ⟨(ad194.add ((a2).toNat * 3)).block, (ad194.add ((a2).toNat * 3)).off + 1, none⟩ = some (.int .i64 ((rd_T29 l0 a2).f1)) ∧ w13.cell? ⟨(ad194.add ((a2).toNat * 3)).block, (ad194.add ((a2).toNat * 3)).off + 2, none⟩ = some (.int .i64 ((rd_T29 l0 a2).f2)) ∧ w13.cell? (ad195.add (a2).toNat) = some (.int .i64 (rd l1 a2)) := hS_
     refine nb_ ?_
     refine one_ (i := 10) (N := none) spec_l24May.mk12 rfl rfl (one_of HT_.out (by kernel_rfl)) (by decide) (fun K hK => ?_)
     have hs14 : w13.cell? ⟨gb200, 0, none⟩ = some (.int .i64 0) := (blk_cell BK200.out 0).trans rfl
     have hfs14 := blk_frozen BK200.out 0
     have hs15 : w13.cell? ⟨gb200, 1, none⟩ = some (.int .i64 0) := (blk_cell BK200.out 1).trans rfl
     have hfs15 := blk_frozen BK200.out 1
     have hs16 : w13.cell? ⟨gb200, 2, none⟩ = some (.int .i64 0) := (blk_cell BK200.out 2).trans rfl
     have hfs16 := blk_frozen BK200.out 2
     have hs17 : w13.cell? ⟨gb200, 3, none⟩ = some (.int .i64 0) := (blk_cell BK200.out 3).trans rfl
     have hfs17 := blk_frozen BK200.out 3
     refine skip_ (w1 := ?_) (by rfl) rfl ?_ ?_
     rotate_left
     ·
      go_simp
      rfl
     refine hK.out _ _ ⟨((cell_far (p := ⟨gb200, _, none⟩) (Nat.ne_of_lt (Nat.lt_of_lt_of_le (World.block_lt_of_cell? _ _ hw194_0) GW200.out)) _).trans (((cell_far (p := ⟨gb200, _, none⟩) (Nat.ne_of_lt (Nat.lt_of_lt_of_le (World.block_lt_of_cell? _ _ hw194_0) GW200.out)) _).trans (((cell_far (p := ⟨gb200, _, none⟩) (Nat.ne_of_lt (Nat.lt_of_lt_of_le (World.block_lt_of_cell? _ _ hw194_0) GW200.out)) _).trans (((cell_far (p := ⟨gb200, _, none⟩) (Nat.ne_of_lt (Nat.lt_of_lt_of_le (World.block_lt_of_cell? _ _ hw194_0) GW200.out)) _).trans (hHeld.1)))))))), ((cell_far (p := ⟨gb200, _, none⟩) (Nat.ne_of_lt (Nat.lt_of_lt_of_le (World.block_lt_of_cell? _ _ hw194_1) GW200.out)) _).trans (((cell_far (p := ⟨gb200, _, none⟩) (Nat.ne_of_lt (Nat.lt_of_lt_of_le (World.block_lt_of_cell? _ _ hw194_1) GW200.out)) _).trans (((cell_far (p := ⟨gb200, _, none⟩) (Nat.ne_of_lt (Nat.lt_of_lt_of_le (World.block_lt_of_cell? _ _ hw194_1) GW200.out)) _).trans (((cell_far (p := ⟨gb200, _, none⟩) (Nat.ne_of_lt (Nat.lt_of_lt_of_le (World.block_lt_of_cell? _ _ hw194_1) GW200.out)) _).trans (hHeld.2.1)))))))), ((cell_far (p := ⟨gb200, _, none⟩) (Nat.ne_of_lt (Nat.lt_of_lt_of_le (World.block_lt_of_cell? _ _ hw194_2) GW200.out)) _).trans (((cell_far (p := ⟨gb200, _, none⟩) (Nat.ne_of_lt (Nat.lt_of_lt_of_le (World.block_lt_of_cell? _ _ hw194_2) GW200.out)) _).trans (((cell_far (p := ⟨gb200, _, none⟩) (Nat.ne_of_lt (Nat.lt_of_lt_of_le (World.block_lt_of_cell? _ _ hw194_2) GW200.out)) _).trans (((cell_far (p := ⟨gb200, _, none⟩) (Nat.ne_of_lt (Nat.lt_of_lt_of_le (World.block_lt_of_cell? _ _ hw194_2) GW200.out)) _).trans (hHeld.2.2.1)))))))), ((cell_far (p := ⟨gb200, _, none⟩) (Nat.ne_of_lt (Nat.lt_of_lt_of_le (World.block_lt_of_cell? _ _ hw195_0) GW200.out)) _).trans (((cell_far (p := ⟨gb200, _, none⟩) (Nat.ne_of_lt (Nat.lt_of_lt_of_le (World.block_lt_of_cell? _ _ hw195_0) GW200.out)) _).trans (((cell_far (p := ⟨gb200, _, none⟩) (Nat.ne_of_lt (Nat.lt_of_lt_of_le (World.block_lt_of_cell? _ _ hw195_0) GW200.out)) _).trans (((cell_far (p := ⟨gb200, _, none⟩) (Nat.ne_of_lt (Nat.lt_of_lt_of_le (World.block_lt_of_cell? _ _ hw195_0) GW200.out)) _).trans (hHeld.2.2.2))))))))⟩ (fun hHeld => ?_)
     clear hK K
     refine done_ (done_of HT_.out (by kernel_rfl)) ?_
     obtain ⟨hcz18_0, hcz18_1, hcz18_2, hcz18_3⟩ := cz4_ BK200.out
     obtain ⟨hfz18_0, hfz18_1, hfz18_2, hfz18_3⟩ := fz4_ BK200.out
     try go_wp2_with (first | ((with_reducible refine gate_callee (f := 97) rfl ?_); refine ga_ (some 20) Tryd.func97 #[.slice (some ad194) l0.length c0, .agg #[.int .i64 t196, .int .i64 t197, .int .i64 t198, .int .i64 t199]] ?_; (with_reducible refine (spec_l24Free.calls k _ _ l0 t196 t197 t198 t199 true _ ?side1 ?side2 A8.out).mono ?_); (case side1 => exact Kd.C_below HR0.out (lb1_ HB.out GE200.out)); (case side2 => exact HC0.out); rintro e w19 ⟨rfl, hb⟩; refine ⟨_, rfl, ?_⟩; replace BK200 := Aside0.mk (blk_below (g := gb200) (o := .cells #[.int .i64 t196, .int .i64 t197, .int .i64 t198, .int .i64 t199] 26 (0, 0)) (by (with_reducible repeat (first | refine blk_drewN ?_ _ | refine blk_drew ?_ | refine blk_alloc ?_ _)); exact (p4_ BK200.out _ _ _ _)) hb); replace HB := Aside0.mk (below_step (lb1_ HB.out GE200.out) hb); (try clear hb); (try clear hb2); (try clear hk); (try clear hi)))
     go_loopg [8] k (fun kq v8 w' => ∃ (x8_1 : Int), v8 = .int .i64 x8_1 ∧ Aside0 (spec_l24May.l0 kq l0 l1 a2 x8_1 t196 t197 t198 t199 = some r) ∧ Aside0 (kq ≤ k) ∧ Aside0 (w'.heap[gb200]? = some (.cells #[.int .i64 t196, .int .i64 t197, .int .i64 t198, .int .i64 t199] 26 (0, 0))) ∧ Aside0 (Below w.heap.size w w'))
     case atStart => exact ⟨(0), (by first | rfl | (simp; done) | (simp [*]; done)), H', ⟨Nat.le_refl _⟩, ⟨bk_ BK200.out⟩, ⟨lb1_ HB.out GE200.out⟩⟩
     case round =>
      clear H'
      try clear c1
      try clear p1
      try clear q1
      try clear hx1
      try clear p2
      try clear c4
      try clear c4b0
      try clear c5
      try clear c5b0
      try clear c6
      try clear c6b0
      try clear c9
      try clear p19
      try clear q19
      try clear hx19
      try clear hcz18_0 hcz18_1 hcz18_2 hcz18_3
      try clear hfz18_0 hfz18_1 hfz18_2 hfz18_3
      try clear hx194_0
      try clear hx194_1
      try clear hx194_2
      try clear hx195_0
      try clear p194
      try clear p195
      try clear q194
      try clear q195
      obtain ⟨x8_1, rfl, HA, HK1, BK200, HB⟩ := hrel
      cases gk with
      | zero => exact absurd HA.out (by simp [spec_l24May.l0])
      | succ k1 =>
       have H := HA.out
       clear HA
       simp only [spec_l24May.l0] at H
       by_cases c20 : x8_1 < a2
       ·
        rw [if_pos c20] at H
        have c20b0 : decide (x8_1 < a2) = true := decide_eq_true c20; clear c20
        by_cases c21 : 0 ≤ x8_1
        ·
         rw [if_pos c21] at H
         have c21b0 : decide (0 ≤ x8_1) = true := decide_eq_true c21; clear c21
         by_cases c22 : x8_1 < (l1.length : Int)
         ·
          rw [if_pos c22] at H
          have c22b0 : decide (x8_1 < (l1.length : Int)) = true := decide_eq_true c22; clear c22
          by_cases c23 : (rd l1 x8_1) ≥ 0
          ·
           rw [if_pos c23] at H
           have c23b0 : decide (0 ≤ (rd l1 x8_1)) = true := decide_eq_true c23; clear c23
           by_cases c24 : x8_1 < (l0.length : Int)
           ·
            rw [if_pos c24] at H
            have c24b0 : decide (x8_1 < (l0.length : Int)) = true := decide_eq_true c24; clear c24; replace H := Option.bind_eq_some_iff.mp H; obtain ⟨⟨t205, t206, t207, t208⟩, A250, H⟩ := H; replace H : ((spec_l24Meet.f t196 t197 t198 t199 t205 t206 t207 t208).bind fun t209 => (if t209 = true then (some false) else (spec_l24May.l0 k1 l0 l1 a2 (wrap64 (x8_1 + 1)) t196 t197 t198 t199))) = some r := H; have A25 := Aside0.mk A250; clear A250; replace H := Option.bind_eq_some_iff.mp H; obtain ⟨t209, A260, H⟩ := H; replace H : (if t209 = true then (some false) else (spec_l24May.l0 k1 l0 l1 a2 (wrap64 (x8_1 + 1)) t196 t197 t198 t199)) = some r := H; have A26 := Aside0.mk A260; clear A260
            by_cases c27 : t209 = true
            ·
             subst c27
             have H1 : (some false) = some r := by rw [if_pos rfl] at H; exact H
             clear H; have H := H1; clear H1; obtain rfl := Option.some.inj H
             try go_wp2
             replace BK200 := Aside0.mk (blk_drew BK200.out); replace HB := Aside0.mk (below_drew1 HB.out); have p202 : 0 ≤ (x8_1 : Int) := dt_; have q202 : x8_1 < (l1.length : Int) := dt_; obtain ⟨ad202, e202, hx202_0⟩ := Kd.at_int HR1.out x8_1 p202 q202; have hw202_0 := hx202_0
             obtain rfl : ad195 = ad202 := (by injection e202)
             replace hx202_0 := bc_ HB.out hx202_0; replace p202 := eq_true p202; replace q202 := eq_true q202; have p203 : 0 ≤ (x8_1 : Int) := dt_; have q203 : x8_1 < (l0.length : Int) := dt_; obtain ⟨ad203, e203, hx203_0, hx203_1, hx203_2⟩ := at_T29 HR0.out x8_1 p203 q203; have hw203_2 := hx203_2; have hw203_1 := hx203_1; have hw203_0 := hx203_0
             obtain rfl : ad194 = ad203 := (by injection e203)
             replace hx203_0 := bc_ HB.out hx203_0; replace hx203_1 := bc_ HB.out hx203_1; replace hx203_2 := bc_ HB.out hx203_2; replace p203 := eq_true p203; replace q203 := eq_true q203; have p204 : 0 ≤ (x8_1 : Int) := dt_; have q204 : x8_1 < (l1.length : Int) := dt_; obtain ⟨ad204, e204, hx204_0⟩ := Kd.at_int HR1.out x8_1 p204 q204; have hw204_0 := hx204_0
             obtain rfl : ad195 = ad204 := (by injection e204)
             replace hx204_0 := bc_ HB.out hx204_0; replace p204 := eq_true p204; replace q204 := eq_true q204; refine start_ (n := 18) (S := fun w' => w'.cell? ⟨gb200, 0, none⟩ = some (.int .i64 t196) ∧ w'.cell? ⟨gb200, 1, none⟩ = some (.int .i64 t197) ∧ w'.cell? ⟨gb200, 2, none⟩ = some (.int .i64 t198) ∧ w'.cell? ⟨gb200, 3, none⟩ = some (.int .i64 t199) ∧ w'.cell? (ad195.add (x8_1).toNat) = some (.int .i64 (rd l1 x8_1)) ∧ w'.cell? (ad194.add ((x8_1).toNat * 3)) = some (.string ((rd_T29 l0 x8_1).f0)) ∧ w'.cell? ⟨(ad194.add ((x8_1).toNat * 3)).block, (ad194.add ((x8_1).toNat * 3)).off + 1, none⟩ = some (.int .i64 ((rd_T29 l0 x8_1).f1)) ∧ w'.cell? ⟨(ad194.add ((x8_1).toNat * 3)).block, (ad194.add ((x8_1).toNat * 3)).off + 2, none⟩ = some (.int .i64 ((rd_T29 l0 x8_1).f2)) ∧ w'.cell? (ad195.add (x8_1).toNat) = some (.int .i64 (rd l1 x8_1))) (ds := []) spec_l24May.mk13 (by kernel_rfl) rfl rfl ⟨(blk_cell BK200.out 0).trans rfl, (blk_cell BK200.out 1).trans rfl, (blk_cell BK200.out 2).trans rfl, (blk_cell BK200.out 3).trans rfl, (bc_ HB.out hw202_0), (bc_ HB.out hw203_0), (bc_ HB.out hw203_1), (bc_ HB.out hw203_2), (bc_ HB.out hw204_0)⟩ (fun hHeld => ?_); refine with_tabW spec_l24May.tab7 spec_l24May.bits7 (fun HT_ HW_ => ?_); generalize wr.drew = w28 at BK200 HB hx202_0 hx203_0 hx203_1 hx203_2 hx204_0 hHeld ⊢; refine pz_ HT_ 0 (some 27) spec_l24May.mk14 ?_; refine pz_ HT_ 1 (some 28) spec_l24May.mk15 ?_; refine pz_ HT_ 2 (some 29) spec_l24May.mk16 ?_; refine tk_ HT_ HW_ hHeld 3 (some 30) spec_l24May.mk17 ?_; refine pz_ HT_ 4 (some 31) spec_l24May.mk18 ?_; refine pz_ HT_ 5 (some 32) spec_l24May.mk19 ?_; refine pz_ HT_ 7 (some 34) spec_l24May.mk20 ?_; refine pz_ HT_ 8 (some 35) spec_l24May.mk21 ?_; refine pz_ HT_ 9 (some 36) spec_l24May.mk22 ?_; refine pz_ HT_ 11 (some 38) spec_l24May.mk23 ?_; refine pz_ HT_ 12 (some 39) spec_l24May.mk24 ?_; refine pz_ HT_ 13 (some 40) spec_l24May.mk25 ?_; refine tk_ HT_ HW_ hHeld 6 (some 33) spec_l24May.mk26 ?_; refine tk_ HT_ HW_ hHeld 10 (some 37) spec_l24May.mk27 ?_; refine tk_ HT_ HW_ hHeld 14 (some 41) spec_l24May.mk28 ?_; refine one_ (i := 15) (N := some 42) spec_l24May.mk29 rfl rfl (one_of HT_.out (by kernel_rfl)) (by decide) (fun K hK => ?_); refine gs_ Tryd.func56 #[.agg #[.string ((rd_T29 l0 x8_1).f0), .int .i64 ((rd_T29 l0 x8_1).f1), .int .i64 ((rd_T29 l0 x8_1).f2)], .int .i64 (rd l1 x8_1)] ?_; (with_reducible refine (spec_l24Box.calls ((rd_T29 l0 x8_1).f0) ((rd_T29 l0 x8_1).f1) ((rd_T29 l0 x8_1).f2) (rd l1 x8_1) t205 t206 t207 t208 _ A25.out).mono ?_); rintro e w29 ⟨rfl, hb⟩; refine ⟨_, rfl, ?_⟩; replace BK200 := Aside0.mk (bb_ (bk_ BK200.out) hb); replace HB := Aside0.mk (below_step (lb1_ HB.out GE200.out) hb); (try clear hb); (try clear hb2); (try clear hk); (try clear hi); refine hK.out _ _ ⟨(blk_cell BK200.out 0).trans rfl, (blk_cell BK200.out 1).trans rfl, (blk_cell BK200.out 2).trans rfl, (blk_cell BK200.out 3).trans rfl, ((HB.out.cell (World.block_lt_of_cell? w _ hw202_0)).trans hw202_0), ((HB.out.cell (World.block_lt_of_cell? w _ hw203_0)).trans hw203_0), ((HB.out.cell (World.block_lt_of_cell? w _ hw203_1)).trans hw203_1), ((HB.out.cell (World.block_lt_of_cell? w _ hw203_2)).trans hw203_2), ((HB.out.cell (World.block_lt_of_cell? w _ hw204_0)).trans hw204_0)⟩ (fun hHeld => ?_); clear hK K; refine na_ ?_; refine one_ (i := 16) (N := some 43) spec_l24May.mk30 rfl rfl (one_of HT_.out (by kernel_rfl)) (by decide) (fun K hK => ?_); refine gs_ Tryd.func92 #[.agg #[.int .i64 t196, .int .i64 t197, .int .i64 t198, .int .i64 t199], .agg #[.int .i64 t205, .int .i64 t206, .int .i64 t207, .int .i64 t208]] ?_; (with_reducible refine (spec_l24Meet.calls t196 t197 t198 t199 t205 t206 t207 t208 true _ A26.out).mono ?_); rintro e w30 ⟨rfl, hb⟩; refine ⟨_, rfl, ?_⟩; replace BK200 := Aside0.mk (bb_ (bk_ BK200.out) hb); replace HB := Aside0.mk (below_step (lb1_ HB.out GE200.out) hb); (try clear hb); (try clear hb2); (try clear hk); (try clear hi); refine hK.out _ _ ⟨(blk_cell BK200.out 0).trans rfl, (blk_cell BK200.out 1).trans rfl, (blk_cell BK200.out 2).trans rfl, (blk_cell BK200.out 3).trans rfl, ((HB.out.cell (World.block_lt_of_cell? w _ hw202_0)).trans hw202_0), ((HB.out.cell (World.block_lt_of_cell? w _ hw203_0)).trans hw203_0), ((HB.out.cell (World.block_lt_of_cell? w _ hw203_1)).trans hw203_1), ((HB.out.cell (World.block_lt_of_cell? w _ hw203_2)).trans hw203_2), ((HB.out.cell (World.block_lt_of_cell? w _ hw204_0)).trans hw204_0)⟩ (fun hHeld => ?_); clear hK K; refine na_ ?_; refine pz_ HT_ 17 (some 44) spec_l24May.mk31 ?_; refine done_ (done_of HT_.out (by kernel_rfl)) ?_
             try go_wp2
             go_ret
             exact ⟨rr_, lb1_ HB.out GE200.out⟩
            ·
             replace c27 := Bool.eq_false_iff.mpr c27; subst c27
             have H1 : (spec_l24May.l0 k1 l0 l1 a2 (wrap64 (x8_1 + 1)) t196 t197 t198 t199) = some r := by rw [if_neg (show ¬ (false = true) by decide)] at H; exact H
             clear H; have H := H1; clear H1; have H' := Aside0.mk H; clear H
             try go_wp2
             replace BK200 := Aside0.mk (blk_drew BK200.out); replace HB := Aside0.mk (below_drew1 HB.out); have p202 : 0 ≤ (x8_1 : Int) := dt_; have q202 : x8_1 < (l1.length : Int) := dt_; obtain ⟨ad202, e202, hx202_0⟩ := Kd.at_int HR1.out x8_1 p202 q202; have hw202_0 := hx202_0
             obtain rfl : ad195 = ad202 := (by injection e202)
             replace hx202_0 := bc_ HB.out hx202_0; replace p202 := eq_true p202; replace q202 := eq_true q202; have p203 : 0 ≤ (x8_1 : Int) := dt_; have q203 : x8_1 < (l0.length : Int) := dt_; obtain ⟨ad203, e203, hx203_0, hx203_1, hx203_2⟩ := at_T29 HR0.out x8_1 p203 q203; have hw203_2 := hx203_2; have hw203_1 := hx203_1; have hw203_0 := hx203_0
             obtain rfl : ad194 = ad203 := (by injection e203)
             replace hx203_0 := bc_ HB.out hx203_0; replace hx203_1 := bc_ HB.out hx203_1; replace hx203_2 := bc_ HB.out hx203_2; replace p203 := eq_true p203; replace q203 := eq_true q203; have p204 : 0 ≤ (x8_1 : Int) := dt_; have q204 : x8_1 < (l1.length : Int) := dt_; obtain ⟨ad204, e204, hx204_0⟩ := Kd.at_int HR1.out x8_1 p204 q204; have hw204_0 := hx204_0
             obtain rfl : ad195 = ad204 := (by injection e204)
             replace hx204_0 := bc_ HB.out hx204_0; replace p204 := eq_true p204; replace q204 := eq_true q204; refine start_ (n := 18) (S := fun w' => w'.cell? ⟨gb200, 0, none⟩ = some (.int .i64 t196) ∧ w'.cell? ⟨gb200, 1, none⟩ = some (.int .i64 t197) ∧ w'.cell? ⟨gb200, 2, none⟩ = some (.int .i64 t198) ∧ w'.cell? ⟨gb200, 3, none⟩ = some (.int .i64 t199) ∧ w'.cell? (ad195.add (x8_1).toNat) = some (.int .i64 (rd l1 x8_1)) ∧ w'.cell? (ad194.add ((x8_1).toNat * 3)) = some (.string ((rd_T29 l0 x8_1).f0)) ∧ w'.cell? ⟨(ad194.add ((x8_1).toNat * 3)).block, (ad194.add ((x8_1).toNat * 3)).off + 1, none⟩ = some (.int .i64 ((rd_T29 l0 x8_1).f1)) ∧ w'.cell? ⟨(ad194.add ((x8_1).toNat * 3)).block, (ad194.add ((x8_1).toNat * 3)).off + 2, none⟩ = some (.int .i64 ((rd_T29 l0 x8_1).f2)) ∧ w'.cell? (ad195.add (x8_1).toNat) = some (.int .i64 (rd l1 x8_1))) (ds := []) spec_l24May.mk13 (by kernel_rfl) rfl rfl ⟨(blk_cell BK200.out 0).trans rfl, (blk_cell BK200.out 1).trans rfl, (blk_cell BK200.out 2).trans rfl, (blk_cell BK200.out 3).trans rfl, (bc_ HB.out hw202_0), (bc_ HB.out hw203_0), (bc_ HB.out hw203_1), (bc_ HB.out hw203_2), (bc_ HB.out hw204_0)⟩ (fun hHeld => ?_); refine with_tabW spec_l24May.tab7 spec_l24May.bits7 (fun HT_ HW_ => ?_); generalize wr.drew = w31 at BK200 HB hx202_0 hx203_0 hx203_1 hx203_2 hx204_0 hHeld ⊢; refine pz_ HT_ 0 (some 27) spec_l24May.mk14 ?_; refine pz_ HT_ 1 (some 28) spec_l24May.mk15 ?_; refine pz_ HT_ 2 (some 29) spec_l24May.mk16 ?_; refine tk_ HT_ HW_ hHeld 3 (some 30) spec_l24May.mk17 ?_; refine pz_ HT_ 4 (some 31) spec_l24May.mk18 ?_; refine pz_ HT_ 5 (some 32) spec_l24May.mk19 ?_; refine pz_ HT_ 7 (some 34) spec_l24May.mk20 ?_; refine pz_ HT_ 8 (some 35) spec_l24May.mk21 ?_; refine pz_ HT_ 9 (some 36) spec_l24May.mk22 ?_; refine pz_ HT_ 11 (some 38) spec_l24May.mk23 ?_; refine pz_ HT_ 12 (some 39) spec_l24May.mk24 ?_; refine pz_ HT_ 13 (some 40) spec_l24May.mk25 ?_; refine tk_ HT_ HW_ hHeld 6 (some 33) spec_l24May.mk26 ?_; refine tk_ HT_ HW_ hHeld 10 (some 37) spec_l24May.mk27 ?_; refine tk_ HT_ HW_ hHeld 14 (some 41) spec_l24May.mk28 ?_; refine one_ (i := 15) (N := some 42) spec_l24May.mk29 rfl rfl (one_of HT_.out (by kernel_rfl)) (by decide) (fun K hK => ?_); refine gs_ Tryd.func56 #[.agg #[.string ((rd_T29 l0 x8_1).f0), .int .i64 ((rd_T29 l0 x8_1).f1), .int .i64 ((rd_T29 l0 x8_1).f2)], .int .i64 (rd l1 x8_1)] ?_; (with_reducible refine (spec_l24Box.calls ((rd_T29 l0 x8_1).f0) ((rd_T29 l0 x8_1).f1) ((rd_T29 l0 x8_1).f2) (rd l1 x8_1) t205 t206 t207 t208 _ A25.out).mono ?_); rintro e w32 ⟨rfl, hb⟩; refine ⟨_, rfl, ?_⟩; replace BK200 := Aside0.mk (bb_ (bk_ BK200.out) hb); replace HB := Aside0.mk (below_step (lb1_ HB.out GE200.out) hb); (try clear hb); (try clear hb2); (try clear hk); (try clear hi); refine hK.out _ _ ⟨(blk_cell BK200.out 0).trans rfl, (blk_cell BK200.out 1).trans rfl, (blk_cell BK200.out 2).trans rfl, (blk_cell BK200.out 3).trans rfl, ((HB.out.cell (World.block_lt_of_cell? w _ hw202_0)).trans hw202_0), ((HB.out.cell (World.block_lt_of_cell? w _ hw203_0)).trans hw203_0), ((HB.out.cell (World.block_lt_of_cell? w _ hw203_1)).trans hw203_1), ((HB.out.cell (World.block_lt_of_cell? w _ hw203_2)).trans hw203_2), ((HB.out.cell (World.block_lt_of_cell? w _ hw204_0)).trans hw204_0)⟩ (fun hHeld => ?_); clear hK K; refine na_ ?_; refine one_ (i := 16) (N := some 43) spec_l24May.mk30 rfl rfl (one_of HT_.out (by kernel_rfl)) (by decide) (fun K hK => ?_); refine gs_ Tryd.func92 #[.agg #[.int .i64 t196, .int .i64 t197, .int .i64 t198, .int .i64 t199], .agg #[.int .i64 t205, .int .i64 t206, .int .i64 t207, .int .i64 t208]] ?_; (with_reducible refine (spec_l24Meet.calls t196 t197 t198 t199 t205 t206 t207 t208 false _ A26.out).mono ?_); rintro e w33 ⟨rfl, hb⟩; refine ⟨_, rfl, ?_⟩; replace BK200 := Aside0.mk (bb_ (bk_ BK200.out) hb); replace HB := Aside0.mk (below_step (lb1_ HB.out GE200.out) hb); (try clear hb); (try clear hb2); (try clear hk); (try clear hi); refine hK.out _ _ ⟨(blk_cell BK200.out 0).trans rfl, (blk_cell BK200.out 1).trans rfl, (blk_cell BK200.out 2).trans rfl, (blk_cell BK200.out 3).trans rfl, ((HB.out.cell (World.block_lt_of_cell? w _ hw202_0)).trans hw202_0), ((HB.out.cell (World.block_lt_of_cell? w _ hw203_0)).trans hw203_0), ((HB.out.cell (World.block_lt_of_cell? w _ hw203_1)).trans hw203_1), ((HB.out.cell (World.block_lt_of_cell? w _ hw203_2)).trans hw203_2), ((HB.out.cell (World.block_lt_of_cell? w _ hw204_0)).trans hw204_0)⟩ (fun hHeld => ?_); clear hK K; refine na_ ?_; refine pz_ HT_ 17 (some 44) spec_l24May.mk31 ?_; refine done_ (done_of HT_.out (by kernel_rfl)) ?_
             try go_wp2
             go_roundg k1
             case measure => have := HK1.out; omega
             case rel => exact ⟨(wrap64 (x8_1 + 1)), (by first | rfl | (simp; done) | (simp [*]; done)), H', ⟨by have := HK1.out; omega⟩, ⟨bk_ BK200.out⟩, ⟨lb1_ HB.out GE200.out⟩⟩
           ·
            rw [if_neg c24] at H
            exact absurd H (by simp)
          ·
           rw [if_neg c23] at H
           have c23b0 : decide (0 ≤ (rd l1 x8_1)) = false := decide_eq_false c23; clear c23; have H' := Aside0.mk H; clear H
           try go_wp2
           replace BK200 := Aside0.mk (blk_drew BK200.out); replace HB := Aside0.mk (below_drew1 HB.out); have p202 : 0 ≤ (x8_1 : Int) := dt_; have q202 : x8_1 < (l1.length : Int) := dt_; obtain ⟨ad202, e202, hx202_0⟩ := Kd.at_int HR1.out x8_1 p202 q202; have hw202_0 := hx202_0
           obtain rfl : ad195 = ad202 := (by injection e202)
           replace hx202_0 := bc_ HB.out hx202_0; replace p202 := eq_true p202; replace q202 := eq_true q202; refine start_ (n := 18) (S := fun w' => w'.cell? (ad195.add (x8_1).toNat) = some (.int .i64 (rd l1 x8_1))) (ds := []) spec_l24May.mk13 (by kernel_rfl) rfl rfl ((bc_ HB.out hw202_0)) (fun hHeld => ?_); refine with_tabW spec_l24May.tab7 spec_l24May.bits7 (fun HT_ HW_ => ?_); generalize wr.drew = w34 at BK200 HB hx202_0 hHeld ⊢; refine pz_ HT_ 0 (some 27) spec_l24May.mk14 ?_; refine pz_ HT_ 1 (some 28) spec_l24May.mk15 ?_; refine pz_ HT_ 2 (some 29) spec_l24May.mk16 ?_; refine take_ (i := 3) (N := some 30) (v := ?_) (a' := ?_) spec_l24May.mk17 rfl rfl (take_ofW HT_.out HW_.out (by kernel_rfl)) (fun _ _ _ h => h) (Or.inl ⟨by rfl, ?_⟩) hHeld ?_ ?_; rotate_left
           ·
            intro w' s0; go_simp; (with_reducible rfl)
           rotate_left
           ·
            simp only [Act.put, List.setIfInBounds_toArray, List.set_cons_zero, List.set_cons_succ, i64_w, i32_w]; rfl
           refine pz_ HT_ 4 (some 31) spec_l24May.mk18 ?_; refine pz_ HT_ 5 (some 32) spec_l24May.mk19 ?_; refine pu_ HT_ 6 (some 33) spec_l24May.mk32 ?_; refine pu_ HT_ 7 (some 34) spec_l24May.mk33 ?_; refine pu_ HT_ 8 (some 35) spec_l24May.mk34 ?_; refine pu_ HT_ 9 (some 36) spec_l24May.mk35 ?_; refine pu_ HT_ 10 (some 37) spec_l24May.mk36 ?_; refine pu_ HT_ 11 (some 38) spec_l24May.mk37 ?_; refine pu_ HT_ 12 (some 39) spec_l24May.mk38 ?_; refine pu_ HT_ 13 (some 40) spec_l24May.mk27 ?_; refine pu_ HT_ 14 (some 41) spec_l24May.mk28 ?_; refine pu_ HT_ 15 (some 42) spec_l24May.mk29 ?_; refine pu_ HT_ 16 (some 43) spec_l24May.mk30 ?_; refine pz_ HT_ 17 (some 44) spec_l24May.mk31 ?_; refine done_ (done_of HT_.out (by kernel_rfl)) ?_
           try go_wp2
           go_roundg k1
           case measure => have := HK1.out; omega
           case rel => exact ⟨(wrap64 (x8_1 + 1)), (by first | rfl | (simp; done) | (simp [*]; done)), H', ⟨by have := HK1.out; omega⟩, ⟨bk_ BK200.out⟩, ⟨lb1_ HB.out GE200.out⟩⟩
         ·
          rw [if_neg c22] at H
          exact absurd H (by simp)
        ·
         rw [if_neg c21] at H
         exact absurd H (by simp)
       ·
        rw [if_neg c20] at H
        have c20b0 : decide (x8_1 < a2) = false := decide_eq_false c20; clear c20; obtain rfl := Option.some.inj H
        go_wp2
        go_ret
        exact ⟨rr_, lb1_ HB.out GE200.out⟩
    ·
     replace c9 := Bool.eq_false_iff.mpr c9
     subst c9
     have H1 : (some false) = some r := by rw [if_neg (show ¬ (false = true) by decide)] at H; exact H
     clear H
     have H := H1
     clear H1
     obtain rfl := Option.some.inj H
     go_enter Tryd.func64, Tryd.ntmps64
     try go_wp2
     replace HB := Aside0.mk (below_drew1 HB.out)
     have p194 : 0 ≤ (a2 : Int) := dt_
     have q194 : a2 < (l0.length : Int) := dt_
     obtain ⟨ad194, e194, hx194_0, hx194_1, hx194_2⟩ := at_T29 HR0.out a2 p194 q194
     have hw194_2 := hx194_2
     have hw194_1 := hx194_1
     have hw194_0 := hx194_0
     cases e194
     replace hx194_0 := bc_ HB.out hx194_0
     replace hx194_1 := bc_ HB.out hx194_1
     replace hx194_2 := bc_ HB.out hx194_2
     replace p194 := eq_true p194
     replace q194 := eq_true q194
     have p195 : 0 ≤ (a2 : Int) := dt_
     have q195 : a2 < (l1.length : Int) := dt_
     obtain ⟨ad195, e195, hx195_0⟩ := Kd.at_int HR1.out a2 p195 q195
     have hw195_0 := hx195_0
     cases e195
     replace hx195_0 := bc_ HB.out hx195_0
     replace p195 := eq_true p195
     replace q195 := eq_true q195
     refine start_ (n := 11) (S := fun w' => w'.cell? (ad194.add ((a2).toNat * 3)) = some (.string ((rd_T29 l0 a2).f0)) ∧ w'.cell? ⟨(ad194.add ((a2).toNat * 3)).block, (ad194.add ((a2).toNat * 3)).off + 1, none⟩ = some (.int .i64 ((rd_T29 l0 a2).f1)) ∧ w'.cell? ⟨(ad194.add ((a2).toNat * 3)).block, (ad194.add ((a2).toNat * 3)).off + 2, none⟩ = some (.int .i64 ((rd_T29 l0 a2).f2)) ∧ w'.cell? (ad195.add (a2).toNat) = some (.int .i64 (rd l1 a2))) (ds := []) spec_l24May.mk0 (by kernel_rfl) rfl rfl ⟨(bc_ HB.out hw194_0), (bc_ HB.out hw194_1), (bc_ HB.out hw194_2), (bc_ HB.out hw195_0)⟩ (fun hHeld => ?_); refine with_tabW spec_l24May.tab1 spec_l24May.bits1 (fun HT_ HW_ => ?_)
     generalize w.drew = w35 at HB hx194_0 hx194_1 hx194_2 hx195_0 hHeld ⊢
     refine pz_ HT_ 0 (some 9) spec_l24May.mk1 ?_
     refine pz_ HT_ 1 (some 10) spec_l24May.mk2 ?_
     refine pz_ HT_ 2 (some 11) spec_l24May.mk3 ?_
     refine pz_ HT_ 4 (some 13) spec_l24May.mk4 ?_
     refine pz_ HT_ 5 (some 14) spec_l24May.mk5 ?_
     refine pz_ HT_ 6 (some 15) spec_l24May.mk6 ?_
     refine tk_ HT_ HW_ hHeld 3 (some 12) spec_l24May.mk7 ?_
     refine tk_ HT_ HW_ hHeld 7 (some 16) spec_l24May.mk8 ?_
     refine join_ (σ := Nat) 1 spec_l24May.mk9 (fun s_ => [(17, .agg #[.int .i64 t196, .int .i64 t197, .int .i64 t198, .int .i64 t199]), (7, .pointer (some ⟨s_, 0, none⟩))]) (fun s_ w' => (w'.cell? (ad194.add ((a2).toNat * 3)) = some (.string ((rd_T29 l0 a2).f0)) ∧ w'.cell? ⟨(ad194.add ((a2).toNat * 3)).block, (ad194.add ((a2).toNat * 3)).off + 1, none⟩ = some (.int .i64 ((rd_T29 l0 a2).f1)) ∧ w'.cell? ⟨(ad194.add ((a2).toNat * 3)).block, (ad194.add ((a2).toNat * 3)).off + 2, none⟩ = some (.int .i64 ((rd_T29 l0 a2).f2)) ∧ w'.cell? (ad195.add (a2).toNat) = some (.int .i64 (rd l1 a2))) ∧ (w'.heap[s_]? = some (.cells #[.int .i64 0, .int .i64 0, .int .i64 0, .int .i64 0] 26 (0, 0))) ∧ (w.heap.size ≤ s_) ∧ (w.heap.size ≤ s_) ∧ (Below w.heap.size w w')) ?_ ?_
     rotate_left
     ·
      intro hCont
      refine two_ (i := 8) (j := 9) (Ni := some 17) (Nj := some 7) spec_l24May.mk10 spec_l24May.mk11 rfl rfl rfl rfl (two_of HT_.out (by kernel_rfl)) (by decide) (by decide) (fun K hK => ?_) (fun K hK => ?_)
      ·
       skip
       refine gs_ Tryd.func56 #[.agg #[.string ((rd_T29 l0 a2).f0), .int .i64 ((rd_T29 l0 a2).f1), .int .i64 ((rd_T29 l0 a2).f2)], .int .i64 (rd l1 a2)] ?_
       with_reducible refine (spec_l24Box.calls ((rd_T29 l0 a2).f0) ((rd_T29 l0 a2).f1) ((rd_T29 l0 a2).f2) (rd l1 a2) t196 t197 t198 t199 _ A7.out).mono ?_
       rintro e w36 ⟨rfl, hb⟩
       refine ⟨_, rfl, ?_⟩
       replace HB := Aside0.mk (below_step (lb0_ HB.out) hb)
       (try clear hb)
       (try clear hb2)
       (try clear hk)
       (try clear hi)
       refine hK.out _ _ ⟨((HB.out.cell (World.block_lt_of_cell? w _ hw194_0)).trans hw194_0), ((HB.out.cell (World.block_lt_of_cell? w _ hw194_1)).trans hw194_1), ((HB.out.cell (World.block_lt_of_cell? w _ hw194_2)).trans hw194_2), ((HB.out.cell (World.block_lt_of_cell? w _ hw195_0)).trans hw195_0)⟩ (fun hHeld => ?_)
       clear hK K
       refine na_ ?_
       refine one_ (i := 9) (N := some 7) spec_l24May.mk9 rfl rfl (one_of HT_.out (by kernel_rfl)) (by decide) (fun K hK => ?_)
       refine box_step ?hg (N := 7) ?hd (cs := #[.int .i64 0, .int .i64 0, .int .i64 0, .int .i64 0]) (t := 26) ?hr ?_; (case hd => rfl); (case hg => rfl); (case hr => first | (go_simp; done) | (go_simp; rfl))
       intro gb200 hg w37 hbox hb
       have BK200 := Aside0.mk (hbox)
       have GW200 := Aside0.mk ((bz_ hg (lb0_ HB.out)))
       have GE200 := Aside0.mk ((bz_ hg (lb0_ HB.out)))
       replace HB := Aside0.mk (below_step (lb0_ HB.out) hb)
       clear hb hbox hg
       refine hK.out _ _ ⟨((HB.out.cell (World.block_lt_of_cell? w _ hw194_0)).trans hw194_0), ((HB.out.cell (World.block_lt_of_cell? w _ hw194_1)).trans hw194_1), ((HB.out.cell (World.block_lt_of_cell? w _ hw194_2)).trans hw194_2), ((HB.out.cell (World.block_lt_of_cell? w _ hw195_0)).trans hw195_0)⟩ (fun hHeld => ?_)
       clear hK K
       refine na_ ?_
       exact norm_ (by simp only [putAll, Act.put, List.setIfInBounds_toArray, List.set_cons_zero, List.set_cons_succ]) (hCont (gb200) _ ⟨hHeld, (bk_ BK200.out), GW200.out, GE200.out, (lb1_ HB.out GE200.out)⟩)
      ·
       skip
       refine box_step ?hg (N := 7) ?hd (cs := #[.int .i64 0, .int .i64 0, .int .i64 0, .int .i64 0]) (t := 26) ?hr ?_; (case hd => rfl); (case hg => rfl); (case hr => first | (go_simp; done) | (go_simp; rfl))
       intro gb200 hg w36 hbox hb
       have BK200 := Aside0.mk (hbox)
       have GW200 := Aside0.mk ((bz_ hg (lb0_ HB.out)))
       have GE200 := Aside0.mk ((bz_ hg (lb0_ HB.out)))
       replace HB := Aside0.mk (below_step (lb0_ HB.out) hb)
       clear hb hbox hg
       refine hK.out _ _ ⟨((HB.out.cell (World.block_lt_of_cell? w _ hw194_0)).trans hw194_0), ((HB.out.cell (World.block_lt_of_cell? w _ hw194_1)).trans hw194_1), ((HB.out.cell (World.block_lt_of_cell? w _ hw194_2)).trans hw194_2), ((HB.out.cell (World.block_lt_of_cell? w _ hw195_0)).trans hw195_0)⟩ (fun hHeld => ?_)
       clear hK K
       refine na_ ?_
       refine one_ (i := 8) (N := some 17) spec_l24May.mk9 rfl rfl (one_of HT_.out (by kernel_rfl)) (by decide) (fun K hK => ?_)
       refine gs_ Tryd.func56 #[.agg #[.string ((rd_T29 l0 a2).f0), .int .i64 ((rd_T29 l0 a2).f1), .int .i64 ((rd_T29 l0 a2).f2)], .int .i64 (rd l1 a2)] ?_
       with_reducible refine (spec_l24Box.calls ((rd_T29 l0 a2).f0) ((rd_T29 l0 a2).f1) ((rd_T29 l0 a2).f2) (rd l1 a2) t196 t197 t198 t199 _ A7.out).mono ?_
       rintro e w37 ⟨rfl, hb⟩
       refine ⟨_, rfl, ?_⟩
       replace BK200 := Aside0.mk (bb_ (bk_ BK200.out) hb)
       replace HB := Aside0.mk (below_step (lb1_ HB.out GE200.out) hb)
       (try clear hb)
       (try clear hb2)
       (try clear hk)
       (try clear hi)
       refine hK.out _ _ ⟨((HB.out.cell (World.block_lt_of_cell? w _ hw194_0)).trans hw194_0), ((HB.out.cell (World.block_lt_of_cell? w _ hw194_1)).trans hw194_1), ((HB.out.cell (World.block_lt_of_cell? w _ hw194_2)).trans hw194_2), ((HB.out.cell (World.block_lt_of_cell? w _ hw195_0)).trans hw195_0)⟩ (fun hHeld => ?_)
       clear hK K
       refine na_ ?_
       exact norm_ (by simp only [putAll, Act.put, List.setIfInBounds_toArray, List.set_cons_zero, List.set_cons_succ]) (hCont (gb200) _ ⟨hHeld, (bk_ BK200.out), GW200.out, GE200.out, (lb1_ HB.out GE200.out)⟩)
     rintro gb200 w38 ⟨hS_, h0_, h1_, h2_, h3_⟩
     (try dsimp only at h0_ h1_ h2_ h3_)
     have BK200 := Aside0.mk h0_
     have GW200 := Aside0.mk h1_
     have GE200 := Aside0.mk h2_
     replace HB := Aside0.mk h3_
     clear h0_ h1_ h2_ h3_
     have hHeld : w38.cell? (ad194.add ((a2).toNat * 3)) = some (.string ((rd_T29 l0 a2).f0)) ∧ w38.cell? ⟨(ad194.add ((a2).toNat * 3)).block, (ad194.add ((a2).toNat * 3)).off + 1, none⟩ = some (.int .i64 ((rd_T29 l0 a2).f1)) ∧ w38.cell? ⟨(ad194.add ((a2).toNat * 3)).block, (ad194.add ((a2).toNat * 3)).off + 2, none⟩ = some (.int .i64 ((rd_T29 l0 a2).f2)) ∧ w38.cell? (ad195.add (a2).toNat) = some (.int .i64 (rd l1 a2)) := hS_
     refine nb_ ?_
     refine one_ (i := 10) (N := none) spec_l24May.mk12 rfl rfl (one_of HT_.out (by kernel_rfl)) (by decide) (fun K hK => ?_)
     have hs39 : w38.cell? ⟨gb200, 0, none⟩ = some (.int .i64 0) := (blk_cell BK200.out 0).trans rfl
     have hfs39 := blk_frozen BK200.out 0
     have hs40 : w38.cell? ⟨gb200, 1, none⟩ = some (.int .i64 0) := (blk_cell BK200.out 1).trans rfl
     have hfs40 := blk_frozen BK200.out 1
     have hs41 : w38.cell? ⟨gb200, 2, none⟩ = some (.int .i64 0) := (blk_cell BK200.out 2).trans rfl
     have hfs41 := blk_frozen BK200.out 2
     have hs42 : w38.cell? ⟨gb200, 3, none⟩ = some (.int .i64 0) := (blk_cell BK200.out 3).trans rfl
     have hfs42 := blk_frozen BK200.out 3
     refine skip_ (w1 := ?_) (by rfl) rfl ?_ ?_
     rotate_left
     ·
      go_simp
      rfl
     refine hK.out _ _ ⟨((cell_far (p := ⟨gb200, _, none⟩) (Nat.ne_of_lt (Nat.lt_of_lt_of_le (World.block_lt_of_cell? _ _ hw194_0) GW200.out)) _).trans (((cell_far (p := ⟨gb200, _, none⟩) (Nat.ne_of_lt (Nat.lt_of_lt_of_le (World.block_lt_of_cell? _ _ hw194_0) GW200.out)) _).trans (((cell_far (p := ⟨gb200, _, none⟩) (Nat.ne_of_lt (Nat.lt_of_lt_of_le (World.block_lt_of_cell? _ _ hw194_0) GW200.out)) _).trans (((cell_far (p := ⟨gb200, _, none⟩) (Nat.ne_of_lt (Nat.lt_of_lt_of_le (World.block_lt_of_cell? _ _ hw194_0) GW200.out)) _).trans (hHeld.1)))))))), ((cell_far (p := ⟨gb200, _, none⟩) (Nat.ne_of_lt (Nat.lt_of_lt_of_le (World.block_lt_of_cell? _ _ hw194_1) GW200.out)) _).trans (((cell_far (p := ⟨gb200, _, none⟩) (Nat.ne_of_lt (Nat.lt_of_lt_of_le (World.block_lt_of_cell? _ _ hw194_1) GW200.out)) _).trans (((cell_far (p := ⟨gb200, _, none⟩) (Nat.ne_of_lt (Nat.lt_of_lt_of_le (World.block_lt_of_cell? _ _ hw194_1) GW200.out)) _).trans (((cell_far (p := ⟨gb200, _, none⟩) (Nat.ne_of_lt (Nat.lt_of_lt_of_le (World.block_lt_of_cell? _ _ hw194_1) GW200.out)) _).trans (hHeld.2.1)))))))), ((cell_far (p := ⟨gb200, _, none⟩) (Nat.ne_of_lt (Nat.lt_of_lt_of_le (World.block_lt_of_cell? _ _ hw194_2) GW200.out)) _).trans (((cell_far (p := ⟨gb200, _, none⟩) (Nat.ne_of_lt (Nat.lt_of_lt_of_le (World.block_lt_of_cell? _ _ hw194_2) GW200.out)) _).trans (((cell_far (p := ⟨gb200, _, none⟩) (Nat.ne_of_lt (Nat.lt_of_lt_of_le (World.block_lt_of_cell? _ _ hw194_2) GW200.out)) _).trans (((cell_far (p := ⟨gb200, _, none⟩) (Nat.ne_of_lt (Nat.lt_of_lt_of_le (World.block_lt_of_cell? _ _ hw194_2) GW200.out)) _).trans (hHeld.2.2.1)))))))), ((cell_far (p := ⟨gb200, _, none⟩) (Nat.ne_of_lt (Nat.lt_of_lt_of_le (World.block_lt_of_cell? _ _ hw195_0) GW200.out)) _).trans (((cell_far (p := ⟨gb200, _, none⟩) (Nat.ne_of_lt (Nat.lt_of_lt_of_le (World.block_lt_of_cell? _ _ hw195_0) GW200.out)) _).trans (((cell_far (p := ⟨gb200, _, none⟩) (Nat.ne_of_lt (Nat.lt_of_lt_of_le (World.block_lt_of_cell? _ _ hw195_0) GW200.out)) _).trans (((cell_far (p := ⟨gb200, _, none⟩) (Nat.ne_of_lt (Nat.lt_of_lt_of_le (World.block_lt_of_cell? _ _ hw195_0) GW200.out)) _).trans (hHeld.2.2.2))))))))⟩ (fun hHeld => ?_)
     clear hK K
     refine done_ (done_of HT_.out (by kernel_rfl)) ?_
     obtain ⟨hcz43_0, hcz43_1, hcz43_2, hcz43_3⟩ := cz4_ BK200.out
     obtain ⟨hfz43_0, hfz43_1, hfz43_2, hfz43_3⟩ := fz4_ BK200.out
     try go_wp2_with (first | ((with_reducible refine gate_callee (f := 97) rfl ?_); refine ga_ (some 20) Tryd.func97 #[.slice (some ad194) l0.length c0, .agg #[.int .i64 t196, .int .i64 t197, .int .i64 t198, .int .i64 t199]] ?_; (with_reducible refine (spec_l24Free.calls k _ _ l0 t196 t197 t198 t199 false _ ?side1 ?side2 A8.out).mono ?_); (case side1 => exact Kd.C_below HR0.out (lb1_ HB.out GE200.out)); (case side2 => exact HC0.out); rintro e w44 ⟨rfl, hb⟩; refine ⟨_, rfl, ?_⟩; replace BK200 := Aside0.mk (blk_below (g := gb200) (o := .cells #[.int .i64 t196, .int .i64 t197, .int .i64 t198, .int .i64 t199] 26 (0, 0)) (by (with_reducible repeat (first | refine blk_drewN ?_ _ | refine blk_drew ?_ | refine blk_alloc ?_ _)); exact (p4_ BK200.out _ _ _ _)) hb); replace HB := Aside0.mk (below_step (lb1_ HB.out GE200.out) hb); (try clear hb); (try clear hb2); (try clear hk); (try clear hi)))
     go_ret
     exact ⟨rr_, lb1_ HB.out GE200.out⟩
   ·
    rw [if_neg c6] at H
    exact absurd H (by simp)
  ·
   rw [if_neg c5] at H
   exact absurd H (by simp)
 ·
  rw [if_neg c4] at H
  exact absurd H (by simp)
mutual
def spec_IsPlacing.j0 : Nat → List (S29) → List Int → Bool → Option (Bool × Bool)
 | 0, _, _, _ => none
 | k + 1, x0, x1, x17 => if x17 = true then (some (false, false)) else (spec_IsPlacing.l0 k x0 x1 0)
def spec_IsPlacing.l0 : Nat → List (S29) → List Int → Int → Option (Bool × Bool)
 | 0, _, _, _ => none
 | k + 1, x0, x1, x6 => if x6 < (x1.length : Int) then (if 0 ≤ x6 then ((spec_l24Way.f (rd x1 x6)).bind fun t212 => (if t212 = true then (spec_IsPlacing.l0 k x0 x1 (wrap64 (x6 + 1))) else (some (false, false)))) else (none)) else (spec_IsPlacing.l1 k x0 x1 0)
def spec_IsPlacing.l1 : Nat → List (S29) → List Int → Int → Option (Bool × Bool)
 | 0, _, _, _ => none
 | k + 1, x0, x1, x7 => if x7 < (x1.length : Int) then ((spec_l24May.f k x0 x1 x7).bind fun t213 => (if t213 = true then (spec_IsPlacing.l1 k x0 x1 (wrap64 (x7 + 1))) else (some (false, true)))) else (some (true, true))
end
def spec_IsPlacing.f (k : Nat) (l0 : List (S29)) (l1 : List Int) : Option (Bool × Bool) := (spec_l24Good.f k l0).bind fun t210 => (if t210 = true then (spec_IsPlacing.j0 k l0 l1 ((l1.length : Int) != (l0.length : Int))) else (spec_IsPlacing.j0 k l0 l1 true))
set_option maxHeartbeats 8000000 in
set_option maxRecDepth 100000 in
theorem spec_IsPlacing.calls (k : Nat) (A0 : Option Addr) (c0 : Nat) (l0 : List (S29)) (A1 : Option Addr) (c1 : Nat) (l1 : List Int) (r1 : Bool) (r2 : Bool) (w : World) (hr0 : Kd.C k29 w A0 l0.length l0) (hc0 : l0.length ≤ c0) (hr1 : Kd.C (Kd.int .i64) w A1 l1.length l1) (hc1 : l1.length ≤ c1) (h : spec_IsPlacing.f k l0 l1 = some (r1, r2)) :
  Calls Tryd.prog 23 #[.slice A0 l0.length c0, .slice A1 l1.length c1] w fun e w' => e = .returned (.tuple #[.bool r1, .bool r2]) ∧ Below w.heap.size w w' := by
 have HR0 := Aside0.mk hr0
 have HC0 := Aside0.mk hc0
 clear hr0 hc0
 have HR1 := Aside0.mk hr1
 have HC1 := Aside0.mk hc1
 clear hr1 hc1
 have HB := Aside0.mk (Below.refl w.heap.size w)
 have H : ((spec_l24Good.f k l0).bind fun t210 => (if t210 = true then (spec_IsPlacing.j0 k l0 l1 ((l1.length : Int) != (l0.length : Int))) else (spec_IsPlacing.j0 k l0 l1 true))) = some (r1, r2) := h
 clear h
 have HC3 := Aside0.mk H
 clear H
 go_enter Tryd.func23, Tryd.ntmps23
 go_upto_region 1 with (fail)
 go_cut [17] (fun v17 wc => ∃ (kq : Nat) (x17_2 : Bool), v17 = .bool x17_2 ∧ Aside0 (spec_IsPlacing.j0 kq l0 l1 x17_2 = some (r1, r2)) ∧ Aside0 (kq ≤ k) ∧ Aside0 (Below w.heap.size w wc))
 case first =>
  have H := HC3.out
  clear HC3
  replace H := Option.bind_eq_some_iff.mp H
  obtain ⟨t210, A40, H⟩ := H
  replace H : (if t210 = true then (spec_IsPlacing.j0 k l0 l1 ((l1.length : Int) != (l0.length : Int))) else (spec_IsPlacing.j0 k l0 l1 true)) = some (r1, r2) := H
  have A4 := Aside0.mk A40
  clear A40
  by_cases c5 : t210 = true
  ·
   subst c5
   have H1 : (spec_IsPlacing.j0 k l0 l1 ((l1.length : Int) != (l0.length : Int))) = some (r1, r2) := by rw [if_pos rfl] at H; exact H
   clear H
   have H := H1
   clear H1
   have H' := Aside0.mk H
   clear H
   go_wp2_with (first | ((with_reducible refine gate_callee (f := 60) rfl ?_); refine ga_ (some 9) Tryd.func60 #[.slice A0 l0.length c0] ?_; (with_reducible refine (spec_l24Good.calls k _ _ l0 true _ ?side1 ?side2 A4.out).mono ?_); (case side1 => exact kc_ (Kd.C_below HR0.out HB.out)); (case side2 => exact HC0.out); rintro e w6 ⟨rfl, hb⟩; refine ⟨_, rfl, ?_⟩; replace HB := Aside0.mk (below_step (lb0_ HB.out) hb); (try clear hb); (try clear hb2); (try clear hk); (try clear hi)))
   go_meet
   case rel => exact ⟨_, (((l1.length : Int) != (l0.length : Int))), (by first | rfl | (simp; done) | (simp [*]; done)), H', ⟨by first | omega | exact Nat.le_refl _⟩, ⟨lb0_ HB.out⟩⟩
  ·
   replace c5 := Bool.eq_false_iff.mpr c5
   subst c5
   have H1 : (spec_IsPlacing.j0 k l0 l1 true) = some (r1, r2) := by rw [if_neg (show ¬ (false = true) by decide)] at H; exact H
   clear H
   have H := H1
   clear H1
   have H' := Aside0.mk H
   clear H
   go_wp2_with (first | ((with_reducible refine gate_callee (f := 60) rfl ?_); refine ga_ (some 9) Tryd.func60 #[.slice A0 l0.length c0] ?_; (with_reducible refine (spec_l24Good.calls k _ _ l0 false _ ?side1 ?side2 A4.out).mono ?_); (case side1 => exact kc_ (Kd.C_below HR0.out HB.out)); (case side2 => exact HC0.out); rintro e w7 ⟨rfl, hb⟩; refine ⟨_, rfl, ?_⟩; replace HB := Aside0.mk (below_step (lb0_ HB.out) hb); (try clear hb); (try clear hb2); (try clear hk); (try clear hi)))
   go_meet
   case rel => exact ⟨_, (true), (by first | rfl | (simp; done) | (simp [*]; done)), H', ⟨by first | omega | exact Nat.le_refl _⟩, ⟨lb0_ HB.out⟩⟩
 case rest =>
  clear HC3
  try clear c1
  try clear c2
  try clear p2
  try clear c5
  try clear c6
  obtain ⟨kq, x17_2, rfl, HA, HJ2, HB⟩ := hcut
  cases kq with
  | zero => exact absurd HA.out (by simp [spec_IsPlacing.j0])
  | succ kj2 =>
   have H := HA.out
   clear HA
   simp only [spec_IsPlacing.j0] at H
   by_cases c8 : x17_2 = true
   ·
    subst c8
    have H1 : (some (false, false)) = some (r1, r2) := by rw [if_pos rfl] at H; exact H
    clear H
    have H := H1
    clear H1
    simp only [Option.some.injEq, Prod.mk.injEq] at H
    obtain ⟨rfl, rfl⟩ := H
    go_wp2
    go_ret2
    exact ⟨rr_, lb0_ HB.out⟩
   ·
    replace c8 := Bool.eq_false_iff.mpr c8
    subst c8
    have H1 : (spec_IsPlacing.l0 kj2 l0 l1 0) = some (r1, r2) := by rw [if_neg (show ¬ (false = true) by decide)] at H; exact H
    clear H
    have H := H1
    clear H1
    have H' := Aside0.mk H
    clear H
    go_wp2
    go_loopg [6] kj2 (fun kq v6 w' => ∃ (x6_2 : Int), v6 = .int .i64 x6_2 ∧ Aside0 (spec_IsPlacing.l0 kq l0 l1 x6_2 = some (r1, r2)) ∧ Aside0 (kq ≤ kj2) ∧ Aside0 (Below w.heap.size w w'))
    case atStart => exact ⟨(0), (by first | rfl | (simp; done) | (simp [*]; done)), H', ⟨Nat.le_refl _⟩, ⟨lb0_ HB.out⟩⟩
    case round =>
     clear H'
     try clear c1
     try clear c2
     try clear p2
     try clear c5
     try clear c6
     try clear c8
     try clear p2
     obtain ⟨x6_2, rfl, HA, HK2, HB⟩ := hrel
     cases gk with
     | zero => exact absurd HA.out (by simp [spec_IsPlacing.l0])
     | succ k2 =>
      have H := HA.out
      clear HA
      simp only [spec_IsPlacing.l0] at H
      by_cases c9 : x6_2 < (l1.length : Int)
      ·
       rw [if_pos c9] at H
       have c9b0 : decide (x6_2 < (l1.length : Int)) = true := decide_eq_true c9
       clear c9
       by_cases c10 : 0 ≤ x6_2
       ·
        rw [if_pos c10] at H
        have c10b0 : decide (0 ≤ x6_2) = true := decide_eq_true c10; clear c10; replace H := Option.bind_eq_some_iff.mp H; obtain ⟨t212, A110, H⟩ := H; replace H : (if t212 = true then (spec_IsPlacing.l0 k2 l0 l1 (wrap64 (x6_2 + 1))) else (some (false, false))) = some (r1, r2) := H; have A11 := Aside0.mk A110; clear A110
        by_cases c12 : t212 = true
        ·
         subst c12
         have H1 : (spec_IsPlacing.l0 k2 l0 l1 (wrap64 (x6_2 + 1))) = some (r1, r2) := by rw [if_pos rfl] at H; exact H
         clear H; have H := H1; clear H1; have H' := Aside0.mk H; clear H; have p211 : 0 ≤ (x6_2 : Int) := dt_; have q211 : x6_2 < (l1.length : Int) := dt_; obtain ⟨ad211, e211, hx211_0⟩ := Kd.at_int HR1.out x6_2 p211 q211
         cases e211
         replace hx211_0 := bc_ HB.out hx211_0; replace p211 := eq_true p211; replace q211 := eq_true q211
         go_wp2_with (first | ((with_reducible refine gate_callee (f := 55) rfl ?_); refine ga_ (some 28) Tryd.func55 #[.int .i64 (rd l1 x6_2)] ?_; (with_reducible refine (spec_l24Way.calls (rd l1 x6_2) true _ A11.out).mono ?_); rintro e w' ⟨rfl, ⟨nd, rfl⟩⟩; refine ⟨_, rfl, ?_⟩))
         go_roundg k2
         case measure => have := HJ2.out; have := HK2.out; omega
         case rel => exact ⟨(wrap64 (x6_2 + 1)), (by first | rfl | (simp; done) | (simp [*]; done)), H', ⟨by have := HJ2.out; have := HK2.out; omega⟩, ⟨lb0_ HB.out⟩⟩
        ·
         replace c12 := Bool.eq_false_iff.mpr c12; subst c12
         have H1 : (some (false, false)) = some (r1, r2) := by rw [if_neg (show ¬ (false = true) by decide)] at H; exact H
         clear H; have H := H1; clear H1; simp only [Option.some.injEq, Prod.mk.injEq] at H; obtain ⟨rfl, rfl⟩ := H; have p211 : 0 ≤ (x6_2 : Int) := dt_; have q211 : x6_2 < (l1.length : Int) := dt_; obtain ⟨ad211, e211, hx211_0⟩ := Kd.at_int HR1.out x6_2 p211 q211
         cases e211
         replace hx211_0 := bc_ HB.out hx211_0; replace p211 := eq_true p211; replace q211 := eq_true q211
         go_wp2_with (first | ((with_reducible refine gate_callee (f := 55) rfl ?_); refine ga_ (some 28) Tryd.func55 #[.int .i64 (rd l1 x6_2)] ?_; (with_reducible refine (spec_l24Way.calls (rd l1 x6_2) false _ A11.out).mono ?_); rintro e w' ⟨rfl, ⟨nd, rfl⟩⟩; refine ⟨_, rfl, ?_⟩))
         go_ret2
         exact ⟨rr_, lb0_ HB.out⟩
       ·
        rw [if_neg c10] at H
        exact absurd H (by simp)
      ·
       rw [if_neg c9] at H
       have c9b0 : decide (x6_2 < (l1.length : Int)) = false := decide_eq_false c9
       clear c9
       have H' := Aside0.mk H
       clear H
       go_wp2
       go_loopg [7] k2 (fun kq v7 w' => ∃ (x7_3 : Int), v7 = .int .i64 x7_3 ∧ Aside0 (spec_IsPlacing.l1 kq l0 l1 x7_3 = some (r1, r2)) ∧ Aside0 (kq ≤ k2) ∧ Aside0 (Below w.heap.size w w'))
       case atStart => exact ⟨(0), (by first | rfl | (simp; done) | (simp [*]; done)), H', ⟨Nat.le_refl _⟩, ⟨lb0_ HB.out⟩⟩
       case round =>
        clear H'
        try clear c1
        try clear c2
        try clear p2
        try clear q2
        try clear hx2
        try clear c5
        try clear c6
        try clear p6
        try clear c8
        try clear c9
        try clear c9b0
        try clear c10
        try clear c10b0
        try clear c12
        try clear hx211_0
        try clear p2
        try clear p211
        try clear q211
        obtain ⟨x7_3, rfl, HA, HK3, HB⟩ := hrel
        cases gk with
        | zero => exact absurd HA.out (by simp [spec_IsPlacing.l1])
        | succ k3 =>
         have H := HA.out; clear HA; simp only [spec_IsPlacing.l1] at H
         by_cases c13 : x7_3 < (l1.length : Int)
         ·
          rw [if_pos c13] at H
          have c13b0 : decide (x7_3 < (l1.length : Int)) = true := decide_eq_true c13; clear c13; replace H := Option.bind_eq_some_iff.mp H; obtain ⟨t213, A140, H⟩ := H; replace H : (if t213 = true then (spec_IsPlacing.l1 k3 l0 l1 (wrap64 (x7_3 + 1))) else (some (false, true))) = some (r1, r2) := H; have A14 := Aside0.mk A140; clear A140
          by_cases c15 : t213 = true
          ·
           subst c15
           have H1 : (spec_IsPlacing.l1 k3 l0 l1 (wrap64 (x7_3 + 1))) = some (r1, r2) := by rw [if_pos rfl] at H; exact H
           clear H; have H := H1; clear H1; have H' := Aside0.mk H; clear H
           go_wp2_with (first | ((with_reducible refine gate_callee (f := 64) rfl ?_); refine ga_ (some 39) Tryd.func64 #[.slice A0 l0.length c0, .slice A1 l1.length c1, .int .i64 x7_3] ?_; (with_reducible refine (spec_l24May.calls k3 _ _ l0 _ _ l1 x7_3 true _ ?side1 ?side2 ?side3 ?side4 A14.out).mono ?_); (case side1 => exact kc_ (Kd.C_below HR0.out HB.out)); (case side2 => exact HC0.out); (case side3 => exact kc_ (Kd.C_below HR1.out HB.out)); (case side4 => exact HC1.out); rintro e w16 ⟨rfl, hb⟩; refine ⟨_, rfl, ?_⟩; replace HB := Aside0.mk (below_step (lb0_ HB.out) hb); (try clear hb); (try clear hb2); (try clear hk); (try clear hi)))
           go_roundg k3
           case measure => have := HJ2.out; have := HK2.out; have := HK3.out; omega
           case rel => exact ⟨(wrap64 (x7_3 + 1)), (by first | rfl | (simp; done) | (simp [*]; done)), H', ⟨by have := HJ2.out; have := HK2.out; have := HK3.out; omega⟩, ⟨lb0_ HB.out⟩⟩
          ·
           replace c15 := Bool.eq_false_iff.mpr c15; subst c15
           have H1 : (some (false, true)) = some (r1, r2) := by rw [if_neg (show ¬ (false = true) by decide)] at H; exact H
           clear H; have H := H1; clear H1; simp only [Option.some.injEq, Prod.mk.injEq] at H; obtain ⟨rfl, rfl⟩ := H
           go_wp2_with (first | ((with_reducible refine gate_callee (f := 64) rfl ?_); refine ga_ (some 39) Tryd.func64 #[.slice A0 l0.length c0, .slice A1 l1.length c1, .int .i64 x7_3] ?_; (with_reducible refine (spec_l24May.calls k3 _ _ l0 _ _ l1 x7_3 false _ ?side1 ?side2 ?side3 ?side4 A14.out).mono ?_); (case side1 => exact kc_ (Kd.C_below HR0.out HB.out)); (case side2 => exact HC0.out); (case side3 => exact kc_ (Kd.C_below HR1.out HB.out)); (case side4 => exact HC1.out); rintro e w17 ⟨rfl, hb⟩; refine ⟨_, rfl, ?_⟩; replace HB := Aside0.mk (below_step (lb0_ HB.out) hb); (try clear hb); (try clear hb2); (try clear hk); (try clear hi)))
           go_ret2
           exact ⟨rr_, lb0_ HB.out⟩
         ·
          rw [if_neg c13] at H
          have c13b0 : decide (x7_3 < (l1.length : Int)) = false := decide_eq_false c13; clear c13; simp only [Option.some.injEq, Prod.mk.injEq] at H; obtain ⟨rfl, rfl⟩ := H
          go_wp2
          go_ret2
          exact ⟨rr_, lb0_ HB.out⟩
def impl_boxFor.f (a0_0 : ByteArray) (a0_1 : Int) (a0_2 : Int) (a1 : Int) : Option (Int × Int × Int × Int) :=
 some ((if a1 ≥ 2 then wrap64 (a0_1 - (a0_0.size : Int)) else wrap64 (a0_1 + 1)), (if Int.tmod a1 2 = 1 then wrap64 (a0_2 - 2) else wrap64 (a0_2 + 1)), (a0_0.size : Int), 2)
set_option maxHeartbeats 4000000 in
set_option maxRecDepth 100000 in
theorem impl_boxFor.calls (a0_0 : ByteArray) (a0_1 : Int) (a0_2 : Int) (a1 : Int) (r1 : Int) (r2 : Int) (r3 : Int) (r4 : Int) (w : World) (h : impl_boxFor.f a0_0 a0_1 a0_2 a1 = some (r1, r2, r3, r4)) :
  Calls Tryd.prog 59 #[.agg #[.string a0_0, .int .i64 a0_1, .int .i64 a0_2], .int .i64 a1] w fun e w' => e = .returned (.agg #[.int .i64 r1, .int .i64 r2, .int .i64 r3, .int .i64 r4]) ∧ Below w.heap.size w w' := by
 unfold impl_boxFor.f at h
 simp only [Option.some.injEq, Prod.mk.injEq] at h
 obtain ⟨h1, h2, rfl, rfl⟩ := h
 by_cases c3 : a1 ≥ 2
 ·
  rw [if_pos c3] at h1
  have b3 : decide (2 ≤ a1) = true := decide_eq_true c3
  clear c3
  by_cases c4 : Int.tmod a1 2 = 1
  ·
   rw [if_pos c4] at h2
   have b4 : (Int.tmod a1 2 == 1) = true := beq_iff_eq.mpr c4
   clear c4
   subst h1
   subst h2
   go_enter Tryd.func59, Tryd.ntmps59
   go_wp2_with fail
   exact bodyPost_ret (v := .agg #[.int .i64 (wrap64 (a0_1 - (a0_0.size : Int))), .int .i64 (wrap64 (a0_2 - 2)), .int .i64 (a0_0.size : Int), .int .i64 2]) (by simp [results, Tryd.results59, go_sem]) rfl ⟨rfl, below_alloc (below_alloc (below_alloc (Below.refl _ w) _) _) _⟩
  ·
   rw [if_neg c4] at h2
   have b4 : (Int.tmod a1 2 == 1) = false := beq_eq_false_iff_ne.mpr c4
   clear c4
   subst h1
   subst h2
   go_enter Tryd.func59, Tryd.ntmps59
   go_wp2_with fail
   exact bodyPost_ret (v := .agg #[.int .i64 (wrap64 (a0_1 - (a0_0.size : Int))), .int .i64 (wrap64 (a0_2 + 1)), .int .i64 (a0_0.size : Int), .int .i64 2]) (by simp [results, Tryd.results59, go_sem]) rfl ⟨rfl, below_alloc (below_alloc (below_alloc (Below.refl _ w) _) _) _⟩
 ·
  rw [if_neg c3] at h1
  have b3 : decide (2 ≤ a1) = false := decide_eq_false c3
  clear c3
  by_cases c4 : Int.tmod a1 2 = 1
  ·
   rw [if_pos c4] at h2
   have b4 : (Int.tmod a1 2 == 1) = true := beq_iff_eq.mpr c4
   clear c4
   subst h1
   subst h2
   go_enter Tryd.func59, Tryd.ntmps59
   go_wp2_with fail
   exact bodyPost_ret (v := .agg #[.int .i64 (wrap64 (a0_1 + 1)), .int .i64 (wrap64 (a0_2 - 2)), .int .i64 (a0_0.size : Int), .int .i64 2]) (by simp [results, Tryd.results59, go_sem]) rfl ⟨rfl, below_alloc (below_alloc (below_alloc (Below.refl _ w) _) _) _⟩
  ·
   rw [if_neg c4] at h2
   have b4 : (Int.tmod a1 2 == 1) = false := beq_eq_false_iff_ne.mpr c4
   clear c4
   subst h1
   subst h2
   go_enter Tryd.func59, Tryd.ntmps59
   go_wp2_with fail
   exact bodyPost_ret (v := .agg #[.int .i64 (wrap64 (a0_1 + 1)), .int .i64 (wrap64 (a0_2 + 1)), .int .i64 (a0_0.size : Int), .int .i64 2]) (by simp [results, Tryd.results59, go_sem]) rfl ⟨rfl, below_alloc (below_alloc (below_alloc (Below.refl _ w) _) _) _⟩
def impl_isPlace.f (a0 : Int) : Option (Bool) := (impl_within.f a0 0 3).bind fun t125 => (some t125)
set_option maxHeartbeats 8000000 in
set_option maxRecDepth 100000 in
theorem impl_isPlace.calls (a0 : Int) (r : Bool) (w : World) (h : impl_isPlace.f a0 = some r) :
  Calls Tryd.prog 58 #[.int .i64 a0] w fun e w' => e = .returned (.bool r) ∧ Drawn0 w w' := by
 have H : ((impl_within.f a0 0 3).bind fun t125 => (some t125)) = some r := h
 clear h
 replace H := Option.bind_eq_some_iff.mp H
 obtain ⟨t125, A20, H⟩ := H
 replace H : (some t125) = some r := H
 have A2 := Aside0.mk A20
 clear A20
 obtain rfl := Option.some.inj H
 go_enter Tryd.func58, Tryd.ntmps58
 go_wp2_with (first | ((with_reducible refine gate_callee (f := 73) rfl ?_); refine ga_ (some 4) Tryd.func73 #[.int .i64 a0, .int .i64 0, .int .i64 3] ?_; (with_reducible refine (impl_within.calls a0 0 3 t125 _ A2.out).mono ?_); rintro e w' ⟨rfl, ⟨nd, rfl⟩⟩; refine ⟨_, rfl, ?_⟩))
 go_ret
 exact ⟨by first | rfl | (simp; done) | (simp [*]; done), by repeat (first | exact Drawn0.refl _ | apply Drawn0.step)⟩
theorem isPlace_some_ (x : Int) : ∃ b, impl_isPlace.f x = some b := by
 unfold impl_isPlace.f impl_within.f
 split <;> exact ⟨_, rfl⟩
theorem isPlacing1_ (a0 : Int) (r : Bool) (w : World) (h : impl_isPlace.f a0 = some r) :
  Calls Tryd.prog 66 (#[.int .i64 a0] ++ #[]) w fun e w' => e = .returned (.bool (!r)) ∧ Below w.heap.size w w' := by
 show Calls Tryd.prog 66 #[.int .i64 a0] w _
 go_enter Tryd.func66, Tryd.ntmps66
 go_wp2_with (go_at_call 58; refine (impl_isPlace.calls a0 r _ h).mono ?_; rintro e w' ⟨rfl, ⟨n1, rfl⟩⟩)
 go_ret
 exact ⟨rfl, pw_below_drewN (Below.refl _ _) _⟩
def impl_IsPlacing_1.f (l0 : List Int) : Option Bool := some (l0.any fun x => !((impl_isPlace.f x).getD false))
set_option maxRecDepth 100000 in
theorem impl_IsPlacing_1.calls (A0 : Option Addr) (c0 : Nat) (l0 : List Int) (r : Bool) (w : World) (hr0 : Kd.C (Kd.int .i64) w A0 l0.length l0) (hc0 : l0.length ≤ c0) (h : impl_IsPlacing_1.f l0 = some r) :
  Calls Tryd.prog 65 #[.slice A0 l0.length c0, .func (.func 66) #[] #[]] w fun e w' => e = .returned (.bool r) ∧ Below w.heap.size w w' := by
 unfold impl_IsPlacing_1.f at h
 obtain rfl := Option.some.inj h
 exact cont_Int.calls (fun x => !((impl_isPlace.f x).getD false)) 66 #[] (fun _ _ => rfl) A0 c0 l0 w hr0 hc0 (fun W' x hx hW' => by
  obtain ⟨b, hb⟩ := isPlace_some_ x
  rw [hb]
  refine (isPlacing1_ x b W' hb).mono ?_
  rintro e w'' ⟨rfl, hb2⟩
  exact ⟨rfl, below_step hW' hb2⟩)
theorem heap_new_ (w : World) (cs : Array Value) (t : TypeId) : (w.alloc (.cells cs t)).heap[w.heap.size]? = some (.cells cs t (0, 0)) := by
 show (w.heap.push _)[w.heap.size]? = _
 simp
def impl_meet.f (a0_0 : Int) (a0_1 : Int) (a0_2 : Int) (a0_3 : Int) (a1_0 : Int) (a1_1 : Int) (a1_2 : Int) (a1_3 : Int) : Option (Bool) := if a0_2 = 0 then (some false) else (if a0_3 = 0 then (some false) else (if a1_2 = 0 then (some false) else (if a1_3 = 0 then (some false) else (if a0_0 < (wrap64 (a1_0 + a1_2)) then (if a1_0 < (wrap64 (a0_0 + a0_2)) then (if a0_1 < (wrap64 (a1_1 + a1_3)) then (some (decide (a1_1 < (wrap64 (a0_1 + a0_3))))) else (some false)) else (some false)) else (some false)))))
set_option maxHeartbeats 8000000 in
set_option maxRecDepth 100000 in
theorem impl_meet.calls (a0_0 : Int) (a0_1 : Int) (a0_2 : Int) (a0_3 : Int) (a1_0 : Int) (a1_1 : Int) (a1_2 : Int) (a1_3 : Int) (r : Bool) (w : World) (h : impl_meet.f a0_0 a0_1 a0_2 a0_3 a1_0 a1_1 a1_2 a1_3 = some r) :
  Calls Tryd.prog 70 #[.agg #[.int .i64 a0_0, .int .i64 a0_1, .int .i64 a0_2, .int .i64 a0_3], .agg #[.int .i64 a1_0, .int .i64 a1_1, .int .i64 a1_2, .int .i64 a1_3]] w fun e w' => e = .returned (.bool r) ∧ Below w.heap.size w w' := by
 have hu26 := Tryd.underlying26
 have HB := Aside0.mk (Below.refl w.heap.size w)
 have H : (if a0_2 = 0 then (some false) else (if a0_3 = 0 then (some false) else (if a1_2 = 0 then (some false) else (if a1_3 = 0 then (some false) else (if a0_0 < (wrap64 (a1_0 + a1_2)) then (if a1_0 < (wrap64 (a0_0 + a0_2)) then (if a0_1 < (wrap64 (a1_1 + a1_3)) then (some (decide (a1_1 < (wrap64 (a0_1 + a0_3))))) else (some false)) else (some false)) else (some false)))))) = some r := h
 clear h
 by_cases c3 : a0_2 = 0
 ·
  rw [if_pos c3] at H
  have c3b0 : (a0_2 == 0) = true := beq_iff_eq.mpr c3
  have c3b1 : (a0_2 != 0) = false := bne_eq_false_iff_eq.mpr c3
  clear c3
  obtain rfl := Option.some.inj H
  go_enter Tryd.func70, Tryd.ntmps70
  go_wp2_with (first | ((with_reducible refine gate_dst (N := 2) rfl ?_); refine box_event ?hg (N := 2) ?hd (cs := #[.int .i64 a0_0, .int .i64 a0_1, .int .i64 a0_2, .int .i64 a0_3]) (t := 26) ?hr ?_; (case hd => rfl); (case hg => rfl); (case hr => first | (go_simp; done) | (go_simp; rfl)); intro gb219 hg w4 hbox hb; have BK219 := Aside0.mk (hbox); have GW219 := Aside0.mk ((bz_ hg (lb0_ HB.out))); have GE219 := Aside0.mk ((bz_ hg (lb0_ HB.out))); replace HB := Aside0.mk (below_step (lb0_ HB.out) hb); clear hb hbox hg) | ((with_reducible refine gate_dst (N := 3) rfl ?_); refine box_event ?hg (N := 3) ?hd (cs := #[.int .i64 a1_0, .int .i64 a1_1, .int .i64 a1_2, .int .i64 a1_3]) (t := 26) ?hr ?_; (case hd => rfl); (case hg => rfl); (case hr => first | (go_simp; done) | (go_simp; rfl)); intro gb220 hg w5 hbox hb; have BK220 := Aside0.mk (hbox); have GW220 := Aside0.mk ((bz_ hg (lb1_ HB.out GE219.out))); have GE220 := Aside0.mk ((bz_ hg (lb1_ HB.out GE219.out))); replace HB := Aside0.mk (below_step (lb1_ HB.out GE219.out) hb); have NB219_220 := Aside0.mk (nl_ hg BK219.out); have NB220_219 := Aside0.mk (ng_ hg BK219.out); replace BK219 := Aside0.mk (bb_ (bk_ BK219.out) hb); clear hb hbox hg; have hnb6 := NB219_220.out; have hnc6 := NB220_219.out; obtain ⟨hcz7_0, hcz7_1, hcz7_2, hcz7_3⟩ := cz4_ BK219.out; obtain ⟨hfz7_0, hfz7_1, hfz7_2, hfz7_3⟩ := fz4_ BK219.out))
  go_ret
  exact ⟨rr_, lb2_ HB.out GE219.out GE220.out⟩
 ·
  rw [if_neg c3] at H
  have c3b0 : (a0_2 == 0) = false := beq_eq_false_iff_ne.mpr c3
  have c3b1 : (a0_2 != 0) = true := bne_iff_ne.mpr c3
  by_cases c8 : a0_3 = 0
  ·
   rw [if_pos c8] at H
   have c8b0 : (a0_3 == 0) = true := beq_iff_eq.mpr c8
   have c8b1 : (a0_3 != 0) = false := bne_eq_false_iff_eq.mpr c8
   clear c8
   obtain rfl := Option.some.inj H
   go_enter Tryd.func70, Tryd.ntmps70
   go_wp2_with (first | ((with_reducible refine gate_dst (N := 2) rfl ?_); refine box_event ?hg (N := 2) ?hd (cs := #[.int .i64 a0_0, .int .i64 a0_1, .int .i64 a0_2, .int .i64 a0_3]) (t := 26) ?hr ?_; (case hd => rfl); (case hg => rfl); (case hr => first | (go_simp; done) | (go_simp; rfl)); intro gb219 hg w9 hbox hb; have BK219 := Aside0.mk (hbox); have GW219 := Aside0.mk ((bz_ hg (lb0_ HB.out))); have GE219 := Aside0.mk ((bz_ hg (lb0_ HB.out))); replace HB := Aside0.mk (below_step (lb0_ HB.out) hb); clear hb hbox hg) | ((with_reducible refine gate_dst (N := 3) rfl ?_); refine box_event ?hg (N := 3) ?hd (cs := #[.int .i64 a1_0, .int .i64 a1_1, .int .i64 a1_2, .int .i64 a1_3]) (t := 26) ?hr ?_; (case hd => rfl); (case hg => rfl); (case hr => first | (go_simp; done) | (go_simp; rfl)); intro gb220 hg w10 hbox hb; have BK220 := Aside0.mk (hbox); have GW220 := Aside0.mk ((bz_ hg (lb1_ HB.out GE219.out))); have GE220 := Aside0.mk ((bz_ hg (lb1_ HB.out GE219.out))); replace HB := Aside0.mk (below_step (lb1_ HB.out GE219.out) hb); have NB219_220 := Aside0.mk (nl_ hg BK219.out); have NB220_219 := Aside0.mk (ng_ hg BK219.out); replace BK219 := Aside0.mk (bb_ (bk_ BK219.out) hb); clear hb hbox hg; have hnb11 := NB219_220.out; have hnc11 := NB220_219.out; obtain ⟨hcz12_0, hcz12_1, hcz12_2, hcz12_3⟩ := cz4_ BK219.out; obtain ⟨hfz12_0, hfz12_1, hfz12_2, hfz12_3⟩ := fz4_ BK219.out))
   go_ret
   exact ⟨rr_, lb2_ HB.out GE219.out GE220.out⟩
  ·
   rw [if_neg c8] at H
   have c8b0 : (a0_3 == 0) = false := beq_eq_false_iff_ne.mpr c8
   have c8b1 : (a0_3 != 0) = true := bne_iff_ne.mpr c8
   by_cases c13 : a1_2 = 0
   ·
    rw [if_pos c13] at H
    have c13b0 : (a1_2 == 0) = true := beq_iff_eq.mpr c13
    have c13b1 : (a1_2 != 0) = false := bne_eq_false_iff_eq.mpr c13
    clear c13
    obtain rfl := Option.some.inj H
    go_enter Tryd.func70, Tryd.ntmps70
    go_wp2_with (first | ((with_reducible refine gate_dst (N := 2) rfl ?_); refine box_event ?hg (N := 2) ?hd (cs := #[.int .i64 a0_0, .int .i64 a0_1, .int .i64 a0_2, .int .i64 a0_3]) (t := 26) ?hr ?_; (case hd => rfl); (case hg => rfl); (case hr => first | (go_simp; done) | (go_simp; rfl)); intro gb219 hg w14 hbox hb; have BK219 := Aside0.mk (hbox); have GW219 := Aside0.mk ((bz_ hg (lb0_ HB.out))); have GE219 := Aside0.mk ((bz_ hg (lb0_ HB.out))); replace HB := Aside0.mk (below_step (lb0_ HB.out) hb); clear hb hbox hg) | ((with_reducible refine gate_dst (N := 3) rfl ?_); refine box_event ?hg (N := 3) ?hd (cs := #[.int .i64 a1_0, .int .i64 a1_1, .int .i64 a1_2, .int .i64 a1_3]) (t := 26) ?hr ?_; (case hd => rfl); (case hg => rfl); (case hr => first | (go_simp; done) | (go_simp; rfl)); intro gb220 hg w15 hbox hb; have BK220 := Aside0.mk (hbox); have GW220 := Aside0.mk ((bz_ hg (lb1_ HB.out GE219.out))); have GE220 := Aside0.mk ((bz_ hg (lb1_ HB.out GE219.out))); replace HB := Aside0.mk (below_step (lb1_ HB.out GE219.out) hb); have NB219_220 := Aside0.mk (nl_ hg BK219.out); have NB220_219 := Aside0.mk (ng_ hg BK219.out); replace BK219 := Aside0.mk (bb_ (bk_ BK219.out) hb); clear hb hbox hg; have hnb16 := NB219_220.out; have hnc16 := NB220_219.out; obtain ⟨hcz17_0, hcz17_1, hcz17_2, hcz17_3⟩ := cz4_ BK219.out; obtain ⟨hfz17_0, hfz17_1, hfz17_2, hfz17_3⟩ := fz4_ BK219.out; obtain ⟨hcz18_0, hcz18_1, hcz18_2, hcz18_3⟩ := cz4_ BK220.out; obtain ⟨hfz18_0, hfz18_1, hfz18_2, hfz18_3⟩ := fz4_ BK220.out))
    go_ret
    exact ⟨rr_, lb2_ HB.out GE219.out GE220.out⟩
   ·
    rw [if_neg c13] at H
    have c13b0 : (a1_2 == 0) = false := beq_eq_false_iff_ne.mpr c13
    have c13b1 : (a1_2 != 0) = true := bne_iff_ne.mpr c13
    by_cases c19 : a1_3 = 0
    ·
     rw [if_pos c19] at H
     have c19b0 : (a1_3 == 0) = true := beq_iff_eq.mpr c19
     have c19b1 : (a1_3 != 0) = false := bne_eq_false_iff_eq.mpr c19
     clear c19
     obtain rfl := Option.some.inj H
     go_enter Tryd.func70, Tryd.ntmps70
     go_wp2_with (first | ((with_reducible refine gate_dst (N := 2) rfl ?_); refine box_event ?hg (N := 2) ?hd (cs := #[.int .i64 a0_0, .int .i64 a0_1, .int .i64 a0_2, .int .i64 a0_3]) (t := 26) ?hr ?_; (case hd => rfl); (case hg => rfl); (case hr => first | (go_simp; done) | (go_simp; rfl)); intro gb219 hg w20 hbox hb; have BK219 := Aside0.mk (hbox); have GW219 := Aside0.mk ((bz_ hg (lb0_ HB.out))); have GE219 := Aside0.mk ((bz_ hg (lb0_ HB.out))); replace HB := Aside0.mk (below_step (lb0_ HB.out) hb); clear hb hbox hg) | ((with_reducible refine gate_dst (N := 3) rfl ?_); refine box_event ?hg (N := 3) ?hd (cs := #[.int .i64 a1_0, .int .i64 a1_1, .int .i64 a1_2, .int .i64 a1_3]) (t := 26) ?hr ?_; (case hd => rfl); (case hg => rfl); (case hr => first | (go_simp; done) | (go_simp; rfl)); intro gb220 hg w21 hbox hb; have BK220 := Aside0.mk (hbox); have GW220 := Aside0.mk ((bz_ hg (lb1_ HB.out GE219.out))); have GE220 := Aside0.mk ((bz_ hg (lb1_ HB.out GE219.out))); replace HB := Aside0.mk (below_step (lb1_ HB.out GE219.out) hb); have NB219_220 := Aside0.mk (nl_ hg BK219.out); have NB220_219 := Aside0.mk (ng_ hg BK219.out); replace BK219 := Aside0.mk (bb_ (bk_ BK219.out) hb); clear hb hbox hg; have hnb22 := NB219_220.out; have hnc22 := NB220_219.out; obtain ⟨hcz23_0, hcz23_1, hcz23_2, hcz23_3⟩ := cz4_ BK219.out; obtain ⟨hfz23_0, hfz23_1, hfz23_2, hfz23_3⟩ := fz4_ BK219.out; obtain ⟨hcz24_0, hcz24_1, hcz24_2, hcz24_3⟩ := cz4_ BK220.out; obtain ⟨hfz24_0, hfz24_1, hfz24_2, hfz24_3⟩ := fz4_ BK220.out))
     go_ret
     exact ⟨rr_, lb2_ HB.out GE219.out GE220.out⟩
    ·
     rw [if_neg c19] at H
     have c19b0 : (a1_3 == 0) = false := beq_eq_false_iff_ne.mpr c19
     have c19b1 : (a1_3 != 0) = true := bne_iff_ne.mpr c19
     by_cases c25 : a0_0 < (wrap64 (a1_0 + a1_2))
     ·
      rw [if_pos c25] at H
      have c25b0 : decide (a0_0 < (wrap64 (a1_0 + a1_2))) = true := decide_eq_true c25
      clear c25
      by_cases c26 : a1_0 < (wrap64 (a0_0 + a0_2))
      ·
       rw [if_pos c26] at H
       have c26b0 : decide (a1_0 < (wrap64 (a0_0 + a0_2))) = true := decide_eq_true c26
       clear c26
       by_cases c27 : a0_1 < (wrap64 (a1_1 + a1_3))
       ·
        rw [if_pos c27] at H
        have c27b0 : decide (a0_1 < (wrap64 (a1_1 + a1_3))) = true := decide_eq_true c27; clear c27; obtain rfl := Option.some.inj H
        go_enter Tryd.func70, Tryd.ntmps70
        go_wp2_with (first | ((with_reducible refine gate_dst (N := 2) rfl ?_); refine box_event ?hg (N := 2) ?hd (cs := #[.int .i64 a0_0, .int .i64 a0_1, .int .i64 a0_2, .int .i64 a0_3]) (t := 26) ?hr ?_; (case hd => rfl); (case hg => rfl); (case hr => first | (go_simp; done) | (go_simp; rfl)); intro gb219 hg w28 hbox hb; have BK219 := Aside0.mk (hbox); have GW219 := Aside0.mk ((bz_ hg (lb0_ HB.out))); have GE219 := Aside0.mk ((bz_ hg (lb0_ HB.out))); replace HB := Aside0.mk (below_step (lb0_ HB.out) hb); clear hb hbox hg) | ((with_reducible refine gate_dst (N := 3) rfl ?_); refine box_event ?hg (N := 3) ?hd (cs := #[.int .i64 a1_0, .int .i64 a1_1, .int .i64 a1_2, .int .i64 a1_3]) (t := 26) ?hr ?_; (case hd => rfl); (case hg => rfl); (case hr => first | (go_simp; done) | (go_simp; rfl)); intro gb220 hg w29 hbox hb; have BK220 := Aside0.mk (hbox); have GW220 := Aside0.mk ((bz_ hg (lb1_ HB.out GE219.out))); have GE220 := Aside0.mk ((bz_ hg (lb1_ HB.out GE219.out))); replace HB := Aside0.mk (below_step (lb1_ HB.out GE219.out) hb); have NB219_220 := Aside0.mk (nl_ hg BK219.out); have NB220_219 := Aside0.mk (ng_ hg BK219.out); replace BK219 := Aside0.mk (bb_ (bk_ BK219.out) hb); clear hb hbox hg; have hnb30 := NB219_220.out; have hnc30 := NB220_219.out; obtain ⟨hcz31_0, hcz31_1, hcz31_2, hcz31_3⟩ := cz4_ BK219.out; obtain ⟨hfz31_0, hfz31_1, hfz31_2, hfz31_3⟩ := fz4_ BK219.out; obtain ⟨hcz32_0, hcz32_1, hcz32_2, hcz32_3⟩ := cz4_ BK220.out; obtain ⟨hfz32_0, hfz32_1, hfz32_2, hfz32_3⟩ := fz4_ BK220.out))
        go_ret
        exact ⟨rr_, lb2_ HB.out GE219.out GE220.out⟩
       ·
        rw [if_neg c27] at H
        have c27b0 : decide (a0_1 < (wrap64 (a1_1 + a1_3))) = false := decide_eq_false c27; clear c27; obtain rfl := Option.some.inj H
        go_enter Tryd.func70, Tryd.ntmps70
        go_wp2_with (first | ((with_reducible refine gate_dst (N := 2) rfl ?_); refine box_event ?hg (N := 2) ?hd (cs := #[.int .i64 a0_0, .int .i64 a0_1, .int .i64 a0_2, .int .i64 a0_3]) (t := 26) ?hr ?_; (case hd => rfl); (case hg => rfl); (case hr => first | (go_simp; done) | (go_simp; rfl)); intro gb219 hg w33 hbox hb; have BK219 := Aside0.mk (hbox); have GW219 := Aside0.mk ((bz_ hg (lb0_ HB.out))); have GE219 := Aside0.mk ((bz_ hg (lb0_ HB.out))); replace HB := Aside0.mk (below_step (lb0_ HB.out) hb); clear hb hbox hg) | ((with_reducible refine gate_dst (N := 3) rfl ?_); refine box_event ?hg (N := 3) ?hd (cs := #[.int .i64 a1_0, .int .i64 a1_1, .int .i64 a1_2, .int .i64 a1_3]) (t := 26) ?hr ?_; (case hd => rfl); (case hg => rfl); (case hr => first | (go_simp; done) | (go_simp; rfl)); intro gb220 hg w34 hbox hb; have BK220 := Aside0.mk (hbox); have GW220 := Aside0.mk ((bz_ hg (lb1_ HB.out GE219.out))); have GE220 := Aside0.mk ((bz_ hg (lb1_ HB.out GE219.out))); replace HB := Aside0.mk (below_step (lb1_ HB.out GE219.out) hb); have NB219_220 := Aside0.mk (nl_ hg BK219.out); have NB220_219 := Aside0.mk (ng_ hg BK219.out); replace BK219 := Aside0.mk (bb_ (bk_ BK219.out) hb); clear hb hbox hg; have hnb35 := NB219_220.out; have hnc35 := NB220_219.out; obtain ⟨hcz36_0, hcz36_1, hcz36_2, hcz36_3⟩ := cz4_ BK219.out; obtain ⟨hfz36_0, hfz36_1, hfz36_2, hfz36_3⟩ := fz4_ BK219.out; obtain ⟨hcz37_0, hcz37_1, hcz37_2, hcz37_3⟩ := cz4_ BK220.out; obtain ⟨hfz37_0, hfz37_1, hfz37_2, hfz37_3⟩ := fz4_ BK220.out))
        go_ret
        exact ⟨rr_, lb2_ HB.out GE219.out GE220.out⟩
      ·
       rw [if_neg c26] at H
       have c26b0 : decide (a1_0 < (wrap64 (a0_0 + a0_2))) = false := decide_eq_false c26
       clear c26
       obtain rfl := Option.some.inj H
       go_enter Tryd.func70, Tryd.ntmps70
       go_wp2_with (first | ((with_reducible refine gate_dst (N := 2) rfl ?_); refine box_event ?hg (N := 2) ?hd (cs := #[.int .i64 a0_0, .int .i64 a0_1, .int .i64 a0_2, .int .i64 a0_3]) (t := 26) ?hr ?_; (case hd => rfl); (case hg => rfl); (case hr => first | (go_simp; done) | (go_simp; rfl)); intro gb219 hg w38 hbox hb; have BK219 := Aside0.mk (hbox); have GW219 := Aside0.mk ((bz_ hg (lb0_ HB.out))); have GE219 := Aside0.mk ((bz_ hg (lb0_ HB.out))); replace HB := Aside0.mk (below_step (lb0_ HB.out) hb); clear hb hbox hg) | ((with_reducible refine gate_dst (N := 3) rfl ?_); refine box_event ?hg (N := 3) ?hd (cs := #[.int .i64 a1_0, .int .i64 a1_1, .int .i64 a1_2, .int .i64 a1_3]) (t := 26) ?hr ?_; (case hd => rfl); (case hg => rfl); (case hr => first | (go_simp; done) | (go_simp; rfl)); intro gb220 hg w39 hbox hb; have BK220 := Aside0.mk (hbox); have GW220 := Aside0.mk ((bz_ hg (lb1_ HB.out GE219.out))); have GE220 := Aside0.mk ((bz_ hg (lb1_ HB.out GE219.out))); replace HB := Aside0.mk (below_step (lb1_ HB.out GE219.out) hb); have NB219_220 := Aside0.mk (nl_ hg BK219.out); have NB220_219 := Aside0.mk (ng_ hg BK219.out); replace BK219 := Aside0.mk (bb_ (bk_ BK219.out) hb); clear hb hbox hg; have hnb40 := NB219_220.out; have hnc40 := NB220_219.out; obtain ⟨hcz41_0, hcz41_1, hcz41_2, hcz41_3⟩ := cz4_ BK219.out; obtain ⟨hfz41_0, hfz41_1, hfz41_2, hfz41_3⟩ := fz4_ BK219.out; obtain ⟨hcz42_0, hcz42_1, hcz42_2, hcz42_3⟩ := cz4_ BK220.out; obtain ⟨hfz42_0, hfz42_1, hfz42_2, hfz42_3⟩ := fz4_ BK220.out))
       go_ret
       exact ⟨rr_, lb2_ HB.out GE219.out GE220.out⟩
     ·
      rw [if_neg c25] at H
      have c25b0 : decide (a0_0 < (wrap64 (a1_0 + a1_2))) = false := decide_eq_false c25
      clear c25
      obtain rfl := Option.some.inj H
      go_enter Tryd.func70, Tryd.ntmps70
      go_wp2_with (first | ((with_reducible refine gate_dst (N := 2) rfl ?_); refine box_event ?hg (N := 2) ?hd (cs := #[.int .i64 a0_0, .int .i64 a0_1, .int .i64 a0_2, .int .i64 a0_3]) (t := 26) ?hr ?_; (case hd => rfl); (case hg => rfl); (case hr => first | (go_simp; done) | (go_simp; rfl)); intro gb219 hg w43 hbox hb; have BK219 := Aside0.mk (hbox); have GW219 := Aside0.mk ((bz_ hg (lb0_ HB.out))); have GE219 := Aside0.mk ((bz_ hg (lb0_ HB.out))); replace HB := Aside0.mk (below_step (lb0_ HB.out) hb); clear hb hbox hg) | ((with_reducible refine gate_dst (N := 3) rfl ?_); refine box_event ?hg (N := 3) ?hd (cs := #[.int .i64 a1_0, .int .i64 a1_1, .int .i64 a1_2, .int .i64 a1_3]) (t := 26) ?hr ?_; (case hd => rfl); (case hg => rfl); (case hr => first | (go_simp; done) | (go_simp; rfl)); intro gb220 hg w44 hbox hb; have BK220 := Aside0.mk (hbox); have GW220 := Aside0.mk ((bz_ hg (lb1_ HB.out GE219.out))); have GE220 := Aside0.mk ((bz_ hg (lb1_ HB.out GE219.out))); replace HB := Aside0.mk (below_step (lb1_ HB.out GE219.out) hb); have NB219_220 := Aside0.mk (nl_ hg BK219.out); have NB220_219 := Aside0.mk (ng_ hg BK219.out); replace BK219 := Aside0.mk (bb_ (bk_ BK219.out) hb); clear hb hbox hg; have hnb45 := NB219_220.out; have hnc45 := NB220_219.out; obtain ⟨hcz46_0, hcz46_1, hcz46_2, hcz46_3⟩ := cz4_ BK219.out; obtain ⟨hfz46_0, hfz46_1, hfz46_2, hfz46_3⟩ := fz4_ BK219.out; obtain ⟨hcz47_0, hcz47_1, hcz47_2, hcz47_3⟩ := cz4_ BK220.out; obtain ⟨hfz47_0, hfz47_1, hfz47_2, hfz47_3⟩ := fz4_ BK220.out))
      go_ret
      exact ⟨rr_, lb2_ HB.out GE219.out GE220.out⟩
set_option maxHeartbeats 4000000 in
theorem free1_ (gb : Nat) (b0 b1 b2 b3 : Int) (a0 : ByteArray) (a1 a2 : Int) (r : Bool) (w : World) (hb : w.heap[gb]? = some (.cells #[.int .i64 b0, .int .i64 b1, .int .i64 b2, .int .i64 b3] 26 (0, 0))) (h : impl_meet.f b0 b1 b2 b3 a1 a2 1 1 = some r) :
  Calls Tryd.prog 99 (#[.agg #[.string a0, .int .i64 a1, .int .i64 a2]] ++ #[.pointer (some ⟨gb, 0, none⟩)]) w fun e w' => e = .returned (.bool r) ∧ Below w.heap.size w w' := by
 show Calls Tryd.prog 99 #[.agg #[.string a0, .int .i64 a1, .int .i64 a2], .pointer (some ⟨gb, 0, none⟩)] w _
 have h0 : w.cell? ⟨gb, 0, none⟩ = some (.int .i64 b0) := (blk_cell hb 0).trans rfl
 have h1 : w.cell? ⟨gb, 1, none⟩ = some (.int .i64 b1) := (blk_cell hb 1).trans rfl
 have h2 : w.cell? ⟨gb, 2, none⟩ = some (.int .i64 b2) := (blk_cell hb 2).trans rfl
 have h3 : w.cell? ⟨gb, 3, none⟩ = some (.int .i64 b3) := (blk_cell hb 3).trans rfl
 have hB := below_alloc (Below.refl w.heap.size w) (.cells #[.string a0, .int .i64 a1, .int .i64 a2] 29)
 replace h0 := (hB.cell (World.block_lt_of_cell? w _ h0)).trans h0
 replace h1 := (hB.cell (World.block_lt_of_cell? w _ h1)).trans h1
 replace h2 := (hB.cell (World.block_lt_of_cell? w _ h2)).trans h2
 replace h3 := (hB.cell (World.block_lt_of_cell? w _ h3)).trans h3
 clear hb
 go_enter Tryd.func99, Tryd.ntmps99
 go_wp2_with (go_at_call 70; refine (impl_meet.calls b0 b1 b2 b3 a1 a2 1 1 r _ h).mono ?_; rintro e w' ⟨rfl, hb⟩)
 go_ret
 exact ⟨rfl, below_step hB hb⟩
def impl_free.f (l0 : List S29) (b0 b1 b2 b3 : Int) : Option Bool :=
 if b0 < 0 then some false else (if b1 < 0 then some false else (if 100 < wrap64 (b0 + b2) then some false else (if 100 < wrap64 (b1 + b3) then some false else
  (if l0.all (fun x => (impl_meet.f b0 b1 b2 b3 x.f1 x.f2 1 1).isSome) = true then some (!(l0.any fun x => (impl_meet.f b0 b1 b2 b3 x.f1 x.f2 1 1).getD false)) else none))))
set_option maxHeartbeats 4000000 in
set_option maxRecDepth 100000 in
theorem impl_free.calls (A0 : Option Addr) (c0 : Nat) (l0 : List S29) (b0 b1 b2 b3 : Int) (r : Bool) (w : World) (hr0 : Kd.C k29 w A0 l0.length l0) (hc0 : l0.length ≤ c0) (h : impl_free.f l0 b0 b1 b2 b3 = some r) :
  Calls Tryd.prog 67 #[.slice A0 l0.length c0, .agg #[.int .i64 b0, .int .i64 b1, .int .i64 b2, .int .i64 b3]] w fun e w' => e = .returned (.bool r) ∧ Below w.heap.size w w' := by
 unfold impl_free.f at h
 have hB := below_alloc (Below.refl w.heap.size w) (.cells #[.int .i64 b0, .int .i64 b1, .int .i64 b2, .int .i64 b3] 26)
 have hg := heap_new_ w #[.int .i64 b0, .int .i64 b1, .int .i64 b2, .int .i64 b3] 26
 by_cases c1 : b0 < 0
 ·
  rw [if_pos c1] at h
  obtain rfl := Option.some.inj h
  have c1b : decide (b0 < 0) = true := decide_eq_true c1
  clear c1 hr0 hg
  go_enter Tryd.func67, Tryd.ntmps67
  go_wp2
  go_ret
  exact ⟨rfl, hB⟩
 ·
  rw [if_neg c1] at h
  have c1b : decide (b0 < 0) = false := decide_eq_false c1
  clear c1
  by_cases c2 : b1 < 0
  ·
   rw [if_pos c2] at h
   obtain rfl := Option.some.inj h
   have c2b : decide (b1 < 0) = true := decide_eq_true c2
   clear c2 hr0 hg
   go_enter Tryd.func67, Tryd.ntmps67
   go_wp2
   go_ret
   exact ⟨rfl, hB⟩
  ·
   rw [if_neg c2] at h
   have c2b : decide (b1 < 0) = false := decide_eq_false c2
   clear c2
   by_cases c3 : 100 < wrap64 (b0 + b2)
   ·
    rw [if_pos c3] at h
    obtain rfl := Option.some.inj h
    have c3b : decide (100 < wrap64 (b0 + b2)) = true := decide_eq_true c3
    clear c3 hr0 hg
    go_enter Tryd.func67, Tryd.ntmps67
    go_wp2
    go_ret
    exact ⟨rfl, hB⟩
   ·
    rw [if_neg c3] at h
    have c3b : decide (100 < wrap64 (b0 + b2)) = false := decide_eq_false c3
    clear c3
    by_cases c4 : 100 < wrap64 (b1 + b3)
    ·
     rw [if_pos c4] at h
     obtain rfl := Option.some.inj h
     have c4b : decide (100 < wrap64 (b1 + b3)) = true := decide_eq_true c4
     clear c4 hr0 hg
     go_enter Tryd.func67, Tryd.ntmps67
     go_wp2
     go_ret
     exact ⟨rfl, hB⟩
    ·
     rw [if_neg c4] at h
     have c4b : decide (100 < wrap64 (b1 + b3)) = false := decide_eq_false c4
     clear c4
     by_cases c5 : l0.all (fun x => (impl_meet.f b0 b1 b2 b3 x.f1 x.f2 1 1).isSome) = true
     ·
      rw [if_pos c5] at h
      have hcall := fun W (hW : Below (w.alloc (.cells #[.int .i64 b0, .int .i64 b1, .int .i64 b2, .int .i64 b3] 26)).heap.size (w.alloc (.cells #[.int .i64 b0, .int .i64 b1, .int .i64 b2, .int .i64 b3] 26)) W) => cont_Label.calls (fun x => (impl_meet.f b0 b1 b2 b3 x.f1 x.f2 1 1).getD false) 99 #[.pointer (some ⟨w.heap.size, 0, none⟩)] (fun _ _ => rfl) A0 c0 l0 W (Kd.C_below (Kd.C_below hr0 hB) hW) hc0 (fun W' x hx hW' => by
       obtain ⟨b, hb⟩ := Option.isSome_iff_exists.1 (List.all_eq_true.1 c5 x hx)
       rw [hb]
       refine (free1_ w.heap.size b0 b1 b2 b3 x.f0 x.f1 x.f2 b W' (blk_below (blk_below hg hW) hW') hb).mono ?_
       rintro e w'' ⟨rfl, hb2⟩
       exact ⟨rfl, below_step hW' hb2⟩)
      obtain rfl := Option.some.inj h
      generalize l0.any (fun x => (impl_meet.f b0 b1 b2 b3 x.f1 x.f2 1 1).getD false) = q at hcall ⊢
      have HC := Aside0.mk hcall
      clear hcall hr0 c5 h hg
      go_enter Tryd.func67, Tryd.ntmps67
      go_wp2_with (go_at_call 61; refine (HC.out _ (Below.refl _ _)).mono ?_; rintro e w' ⟨rfl, hb⟩)
      go_ret
      exact ⟨rfl, below_step hB hb⟩
     ·
      rw [if_neg c5] at h
      cases h
set_option maxHeartbeats 4000000 in
theorem isPlacing2_ (gb : Nat) (b0 b1 b2 b3 : Int) (a0 a1 a2 a3 : Int) (r : Bool) (w : World) (hb : w.heap[gb]? = some (.cells #[.int .i64 b0, .int .i64 b1, .int .i64 b2, .int .i64 b3] 26 (0, 0))) (h : impl_meet.f b0 b1 b2 b3 a0 a1 a2 a3 = some r) :
  Calls Tryd.prog 69 (#[.agg #[.int .i64 a0, .int .i64 a1, .int .i64 a2, .int .i64 a3]] ++ #[.pointer (some ⟨gb, 0, none⟩)]) w fun e w' => e = .returned (.bool r) ∧ Below w.heap.size w w' := by
 show Calls Tryd.prog 69 #[.agg #[.int .i64 a0, .int .i64 a1, .int .i64 a2, .int .i64 a3], .pointer (some ⟨gb, 0, none⟩)] w _
 have h0 : w.cell? ⟨gb, 0, none⟩ = some (.int .i64 b0) := (blk_cell hb 0).trans rfl
 have h1 : w.cell? ⟨gb, 1, none⟩ = some (.int .i64 b1) := (blk_cell hb 1).trans rfl
 have h2 : w.cell? ⟨gb, 2, none⟩ = some (.int .i64 b2) := (blk_cell hb 2).trans rfl
 have h3 : w.cell? ⟨gb, 3, none⟩ = some (.int .i64 b3) := (blk_cell hb 3).trans rfl
 have hB := below_alloc (Below.refl w.heap.size w) (.cells #[.int .i64 a0, .int .i64 a1, .int .i64 a2, .int .i64 a3] 26)
 replace h0 := (hB.cell (World.block_lt_of_cell? w _ h0)).trans h0
 replace h1 := (hB.cell (World.block_lt_of_cell? w _ h1)).trans h1
 replace h2 := (hB.cell (World.block_lt_of_cell? w _ h2)).trans h2
 replace h3 := (hB.cell (World.block_lt_of_cell? w _ h3)).trans h3
 clear hb
 go_enter Tryd.func69, Tryd.ntmps69
 go_wp2_with (go_at_call 70; refine (impl_meet.calls b0 b1 b2 b3 a0 a1 a2 a3 r _ h).mono ?_; rintro e w' ⟨rfl, hb⟩)
 go_ret
 exact ⟨rfl, below_step hB hb⟩
def impl_IsPlacing_2.f (l0 : List S26) (b0 b1 b2 b3 : Int) : Option Bool :=
 if l0.all (fun x => (impl_meet.f b0 b1 b2 b3 x.f0 x.f1 x.f2 x.f3).isSome) = true then some (l0.any fun x => (impl_meet.f b0 b1 b2 b3 x.f0 x.f1 x.f2 x.f3).getD false) else none
set_option maxRecDepth 100000 in
theorem impl_IsPlacing_2.calls (A0 : Option Addr) (c0 : Nat) (l0 : List S26) (b0 b1 b2 b3 : Int) (r : Bool) (w : World) (hr0 : Kd.C k26 w A0 l0.length l0) (hc0 : l0.length ≤ c0) (h : impl_IsPlacing_2.f l0 b0 b1 b2 b3 = some r) {gb : Nat} (hbx : w.heap[gb]? = some (.cells #[.int .i64 b0, .int .i64 b1, .int .i64 b2, .int .i64 b3] 26 (0, 0))) :
  Calls Tryd.prog 68 #[.slice A0 l0.length c0, .func (.func 69) #[] #[.pointer (some ⟨gb, 0, none⟩)]] w fun e w' => e = .returned (.bool r) ∧ Below w.heap.size w w' := by
 unfold impl_IsPlacing_2.f at h
 by_cases c5 : l0.all (fun x => (impl_meet.f b0 b1 b2 b3 x.f0 x.f1 x.f2 x.f3).isSome) = true
 ·
  rw [if_pos c5] at h
  obtain rfl := Option.some.inj h
  exact cont_Box.calls (fun x => (impl_meet.f b0 b1 b2 b3 x.f0 x.f1 x.f2 x.f3).getD false) 69 #[.pointer (some ⟨gb, 0, none⟩)] (fun _ _ => rfl) A0 c0 l0 w hr0 hc0 (fun W' x hx hW' => by
   obtain ⟨b, hb⟩ := Option.isSome_iff_exists.1 (List.all_eq_true.1 c5 x hx)
   rw [hb]
   refine (isPlacing2_ gb b0 b1 b2 b3 x.f0 x.f1 x.f2 x.f3 b W' (blk_below hbx hW') hb).mono ?_
   rintro e w'' ⟨rfl, hb2⟩
   exact ⟨rfl, below_step hW' hb2⟩)
 ·
  rw [if_neg c5] at h
  cases h
mutual
def impl_IsPlacing.j0 : Nat → List (S29) → List Int → Bool → Option (Bool × Bool)
 | 0, _, _, _ => none
 | k + 1, x0, x1, x23 => if x23 = true then (some (false, false)) else (impl_IsPlacing.l0 k x0 x1 ([] : List (S26)) x0 (x0.length : Int) 0)
def impl_IsPlacing.l0 : Nat → List (S29) → List Int → List (S26) → List (S29) → Int → Int → Option (Bool × Bool)
 | 0, _, _, _, _, _, _ => none
 | k + 1, x0, x1, x6, x24, x25, x26 => if x26 < x25 then (if 0 ≤ x26 then (if x26 < (x24.length : Int) then (if x26 < (x1.length : Int) then ((impl_boxFor.f ((rd_T29 x24 x26).f0) ((rd_T29 x24 x26).f1) ((rd_T29 x24 x26).f2) (rd x1 x26)).bind fun bt226 => ((impl_free.f x0 bt226.1 bt226.2.1 bt226.2.2.1 bt226.2.2.2).bind fun t231 => (if t231 = true then ((impl_IsPlacing_2.f x6 bt226.1 bt226.2.1 bt226.2.2.1 bt226.2.2.2).bind fun t232 => (if t232 = true then (some (false, true)) else (if x6.length < 4398046511104 then (impl_IsPlacing.l0 k x0 x1 (x6 ++ [(⟨bt226.1, bt226.2.1, bt226.2.2.1, bt226.2.2.2⟩ : S26)]) x24 x25 (wrap64 (x26 + 1))) else (none)))) else (some (false, true))))) else (none)) else (none)) else (none)) else (some (true, true))
end
def impl_IsPlacing.f (k : Nat) (l0 : List (S29)) (l1 : List Int) : Option (Bool × Bool) := (impl_AreLabels.f l0).bind fun t221 => (if t221 = true then (if (l1.length : Int) = (l0.length : Int) then ((impl_IsPlacing_1.f l1).bind fun t222 => (impl_IsPlacing.j0 k l0 l1 t222)) else (impl_IsPlacing.j0 k l0 l1 true)) else (impl_IsPlacing.j0 k l0 l1 true))
def impl_IsPlacing.T7 : Bool × List (List Nat × List Nat) := (true, [([], []), ([], []), ([], []), ([1, 2], [1, 2]), ([3], [3]), ([0, 4], [0, 4]), ([], []), ([6, 5, 5, 0, 1, 2, 3, 4, 5, 6], [5, 6])])
def impl_IsPlacing.B7 : List Nat := [0, 0, 0, 6, 14, 31, 0, 127]
theorem impl_IsPlacing.tab7 : rtab .any (opsOf Tryd.f25 7) = impl_IsPlacing.T7 := by kernel_rfl
theorem impl_IsPlacing.bits7 : waitsOk impl_IsPlacing.T7.2 impl_IsPlacing.B7 = true := by kernel_rfl
set_option maxHeartbeats 8000000 in
set_option maxRecDepth 100000 in
theorem impl_IsPlacing.calls (k : Nat) (A0 : Option Addr) (c0 : Nat) (l0 : List (S29)) (A1 : Option Addr) (c1 : Nat) (l1 : List Int) (r1 : Bool) (r2 : Bool) (w : World) (hr0 : Kd.C k29 w A0 l0.length l0) (hc0 : l0.length ≤ c0) (hr1 : Kd.C (Kd.int .i64) w A1 l1.length l1) (hc1 : l1.length ≤ c1) (h : impl_IsPlacing.f k l0 l1 = some (r1, r2)) :
  Calls Tryd.prog 25 #[.slice A0 l0.length c0, .slice A1 l1.length c1] w fun e w' => e = .returned (.tuple #[.bool r1, .bool r2]) ∧ Below w.heap.size w w' := by
 have hu29 := Tryd.underlying29
 have hu26 := Tryd.underlying26
 have HR0 := Aside0.mk hr0
 have HC0 := Aside0.mk hc0
 clear hr0 hc0
 have HR1 := Aside0.mk hr1
 have HC1 := Aside0.mk hc1
 clear hr1 hc1
 have HB := Aside0.mk (Below.refl w.heap.size w)
 have H : ((impl_AreLabels.f l0).bind fun t221 => (if t221 = true then (if (l1.length : Int) = (l0.length : Int) then ((impl_IsPlacing_1.f l1).bind fun t222 => (impl_IsPlacing.j0 k l0 l1 t222)) else (impl_IsPlacing.j0 k l0 l1 true)) else (impl_IsPlacing.j0 k l0 l1 true))) = some (r1, r2) := h
 clear h
 have HC3 := Aside0.mk H
 clear H
 go_enter Tryd.func25, Tryd.ntmps25
 go_upto_region 1 with (fail)
 go_cut [23] (fun v23 wc => ∃ (kq : Nat) (x23_2 : Bool), v23 = .bool x23_2 ∧ Aside0 (impl_IsPlacing.j0 kq l0 l1 x23_2 = some (r1, r2)) ∧ Aside0 (kq ≤ k) ∧ Aside0 (Below w.heap.size w wc))
 case first =>
  have H := HC3.out
  clear HC3
  replace H := Option.bind_eq_some_iff.mp H
  obtain ⟨t221, A40, H⟩ := H
  replace H : (if t221 = true then (if (l1.length : Int) = (l0.length : Int) then ((impl_IsPlacing_1.f l1).bind fun t222 => (impl_IsPlacing.j0 k l0 l1 t222)) else (impl_IsPlacing.j0 k l0 l1 true)) else (impl_IsPlacing.j0 k l0 l1 true)) = some (r1, r2) := H
  have A4 := Aside0.mk A40
  clear A40
  by_cases c5 : t221 = true
  ·
   subst c5
   have H1 : (if (l1.length : Int) = (l0.length : Int) then ((impl_IsPlacing_1.f l1).bind fun t222 => (impl_IsPlacing.j0 k l0 l1 t222)) else (impl_IsPlacing.j0 k l0 l1 true)) = some (r1, r2) := by rw [if_pos rfl] at H; exact H
   clear H
   have H := H1
   clear H1
   by_cases c6 : (l1.length : Int) = (l0.length : Int)
   ·
    rw [if_pos c6] at H
    have c6b0 : ((l1.length : Int) == (l0.length : Int)) = true := beq_iff_eq.mpr c6
    have c6b1 : ((l1.length : Int) != (l0.length : Int)) = false := bne_eq_false_iff_eq.mpr c6
    have c6b2 : (l1.length == l0.length) = true := by first | simpa using c6 | (simp at c6 ⊢; omega)
    clear c6
    (first | rw [c6b0] | (simp only [i64_w, i32_w]; rw [c6b0]) | skip)
    replace H := Option.bind_eq_some_iff.mp H
    obtain ⟨t222, A70, H⟩ := H
    replace H : (impl_IsPlacing.j0 k l0 l1 t222) = some (r1, r2) := H
    have A7 := Aside0.mk A70
    clear A70
    have H' := Aside0.mk H
    clear H
    go_wp2_with (first | ((with_reducible refine gate_callee (f := 21) rfl ?_); refine ga_ (some 11) Tryd.func21 #[.slice A0 l0.length c0] ?_; (with_reducible refine (impl_AreLabels.calls _ _ l0 true _ ?side1 ?side2 A4.out).mono ?_); (case side1 => exact kc_ (Kd.C_below HR0.out HB.out)); (case side2 => exact HC0.out); rintro e w8 ⟨rfl, hb⟩; refine ⟨_, rfl, ?_⟩; replace HB := Aside0.mk (below_step (lb0_ HB.out) hb); (try clear hb); (try clear hb2); (try clear hk); (try clear hi)) | (go_at_call 65; (with_reducible refine (impl_IsPlacing_1.calls _ _ l1 t222 _ ?side1 ?side2 A7.out).mono ?_); (case side1 => exact kc_ (Kd.C_below HR1.out HB.out)); (case side2 => exact HC1.out); rintro e w9 ⟨rfl, hb⟩; replace HB := Aside0.mk (below_step (lb0_ HB.out) hb); (try clear hb); (try clear hb2); (try clear hk); (try clear hi)))
    go_meet
    case rel => exact ⟨_, (t222), (by first | rfl | (simp; done) | (simp [*]; done)), H', ⟨by first | omega | exact Nat.le_refl _⟩, ⟨lb0_ HB.out⟩⟩
   ·
    rw [if_neg c6] at H
    have c6b0 : ((l1.length : Int) == (l0.length : Int)) = false := beq_eq_false_iff_ne.mpr c6
    have c6b1 : ((l1.length : Int) != (l0.length : Int)) = true := bne_iff_ne.mpr c6
    have c6b2 : (l1.length == l0.length) = false := by first | simpa using c6 | (simp at c6 ⊢; omega)
    (first | rw [c6b0] | (simp only [i64_w, i32_w]; rw [c6b0]) | skip)
    have H' := Aside0.mk H
    clear H
    go_wp2_with (first | ((with_reducible refine gate_callee (f := 21) rfl ?_); refine ga_ (some 11) Tryd.func21 #[.slice A0 l0.length c0] ?_; (with_reducible refine (impl_AreLabels.calls _ _ l0 true _ ?side1 ?side2 A4.out).mono ?_); (case side1 => exact kc_ (Kd.C_below HR0.out HB.out)); (case side2 => exact HC0.out); rintro e w10 ⟨rfl, hb⟩; refine ⟨_, rfl, ?_⟩; replace HB := Aside0.mk (below_step (lb0_ HB.out) hb); (try clear hb); (try clear hb2); (try clear hk); (try clear hi)))
    go_meet
    case rel => exact ⟨_, (true), (by first | rfl | (simp; done) | (simp [*]; done)), H', ⟨by first | omega | exact Nat.le_refl _⟩, ⟨lb0_ HB.out⟩⟩
  ·
   replace c5 := Bool.eq_false_iff.mpr c5
   subst c5
   have H1 : (impl_IsPlacing.j0 k l0 l1 true) = some (r1, r2) := by rw [if_neg (show ¬ (false = true) by decide)] at H; exact H
   clear H
   have H := H1
   clear H1
   have H' := Aside0.mk H
   clear H
   go_wp2_with (first | ((with_reducible refine gate_callee (f := 21) rfl ?_); refine ga_ (some 11) Tryd.func21 #[.slice A0 l0.length c0] ?_; (with_reducible refine (impl_AreLabels.calls _ _ l0 false _ ?side1 ?side2 A4.out).mono ?_); (case side1 => exact kc_ (Kd.C_below HR0.out HB.out)); (case side2 => exact HC0.out); rintro e w11 ⟨rfl, hb⟩; refine ⟨_, rfl, ?_⟩; replace HB := Aside0.mk (below_step (lb0_ HB.out) hb); (try clear hb); (try clear hb2); (try clear hk); (try clear hi)))
   go_meet
   case rel => exact ⟨_, (true), (by first | rfl | (simp; done) | (simp [*]; done)), H', ⟨by first | omega | exact Nat.le_refl _⟩, ⟨lb0_ HB.out⟩⟩
 case rest =>
  clear HC3
  try clear c1
  try clear c2
  try clear p2
  try clear c5
  try clear c6
  try clear c6b0
  try clear c6b1
  try clear c6b2
  obtain ⟨kq, x23_2, rfl, HA, HJ2, HB⟩ := hcut
  cases kq with
  | zero => exact absurd HA.out (by simp [impl_IsPlacing.j0])
  | succ kj2 =>
   have H := HA.out
   clear HA
   simp only [impl_IsPlacing.j0] at H
   by_cases c12 : x23_2 = true
   ·
    subst c12
    have H1 : (some (false, false)) = some (r1, r2) := by rw [if_pos rfl] at H; exact H
    clear H
    have H := H1
    clear H1
    simp only [Option.some.injEq, Prod.mk.injEq] at H
    obtain ⟨rfl, rfl⟩ := H
    go_wp2
    go_ret2
    exact ⟨rr_, lb0_ HB.out⟩
   ·
    replace c12 := Bool.eq_false_iff.mpr c12
    subst c12
    have H1 : (impl_IsPlacing.l0 kj2 l0 l1 ([] : List (S26)) l0 (l0.length : Int) 0) = some (r1, r2) := by rw [if_neg (show ¬ (false = true) by decide)] at H; exact H
    clear H
    have H := H1
    clear H1
    have H' := Aside0.mk H
    clear H
    go_wp2
    go_loopg [6, 26] kj2 (fun kq v6 v26 w' => ∃ (x6_2 : List (S26)) (x26_2 : Int), v26 = .int .i64 x26_2 ∧ Aside0 (impl_IsPlacing.l0 kq l0 l1 x6_2 l0 (l0.length : Int) x26_2 = some (r1, r2)) ∧ Aside0 (kq ≤ kj2) ∧ Aside0 (Kd.R k26 26 w' w.heap.size (fun _ => True) v6 x6_2) ∧ Aside0 (Below w.heap.size w w'))
    case atStart => exact ⟨(([] : List (S26))), (0), (by first | rfl | (simp; done) | (simp [*]; done)), H', ⟨Nat.le_refl _⟩, ⟨by first | exact Kd.R_nil _ _ _ _ _ | exact Kd.N_nil _ _ _ _ _ | exact Kd.V_nil _ _ _ _ _ | exact Kd.Q_nil _ _ _ _ _ | exact Kd.S_nil _ _ _ _ _⟩, ⟨lb0_ HB.out⟩⟩
    case round =>
     clear H'
     try clear c1
     try clear c2
     try clear p2
     try clear c5
     try clear c6
     try clear c6b0
     try clear c6b1
     try clear c6b2
     try clear c12
     try clear p2
     obtain ⟨x6_2, x26_2, rfl, HA, HK2, HO_6, HB⟩ := hrel
     cases gk with
     | zero => exact absurd HA.out (by simp [impl_IsPlacing.l0])
     | succ k2 =>
      have H := HA.out
      clear HA
      simp only [impl_IsPlacing.l0] at H
      by_cases c13 : x26_2 < (l0.length : Int)
      ·
       rw [if_pos c13] at H
       have c13b0 : decide (x26_2 < (l0.length : Int)) = true := decide_eq_true c13
       clear c13
       by_cases c14 : 0 ≤ x26_2
       ·
        rw [if_pos c14] at H
        have c14b0 : decide (0 ≤ x26_2) = true := decide_eq_true c14; clear c14
        by_cases c15 : x26_2 < (l0.length : Int)
        ·
         rw [if_pos c15] at H
         have c15b0 : decide (x26_2 < (l0.length : Int)) = true := decide_eq_true c15; clear c15
         by_cases c16 : x26_2 < (l1.length : Int)
         ·
          rw [if_pos c16] at H
          have c16b0 : decide (x26_2 < (l1.length : Int)) = true := decide_eq_true c16; clear c16; replace H := Option.bind_eq_some_iff.mp H; obtain ⟨⟨t226, t227, t228, t229⟩, A170, H⟩ := H; replace H : ((impl_free.f l0 t226 t227 t228 t229).bind fun t231 => (if t231 = true then ((impl_IsPlacing_2.f x6_2 t226 t227 t228 t229).bind fun t232 => (if t232 = true then (some (false, true)) else (if x6_2.length < 4398046511104 then (impl_IsPlacing.l0 k2 l0 l1 (x6_2 ++ [(⟨t226, t227, t228, t229⟩ : S26)]) l0 (l0.length : Int) (wrap64 (x26_2 + 1))) else (none)))) else (some (false, true)))) = some (r1, r2) := H; have A17 := Aside0.mk A170; clear A170; replace H := Option.bind_eq_some_iff.mp H; obtain ⟨t231, A180, H⟩ := H; replace H : (if t231 = true then ((impl_IsPlacing_2.f x6_2 t226 t227 t228 t229).bind fun t232 => (if t232 = true then (some (false, true)) else (if x6_2.length < 4398046511104 then (impl_IsPlacing.l0 k2 l0 l1 (x6_2 ++ [(⟨t226, t227, t228, t229⟩ : S26)]) l0 (l0.length : Int) (wrap64 (x26_2 + 1))) else (none)))) else (some (false, true))) = some (r1, r2) := H; have A18 := Aside0.mk A180; clear A180
          by_cases c19 : t231 = true
          ·
           subst c19
           have H1 : ((impl_IsPlacing_2.f x6_2 t226 t227 t228 t229).bind fun t232 => (if t232 = true then (some (false, true)) else (if x6_2.length < 4398046511104 then (impl_IsPlacing.l0 k2 l0 l1 (x6_2 ++ [(⟨t226, t227, t228, t229⟩ : S26)]) l0 (l0.length : Int) (wrap64 (x26_2 + 1))) else (none)))) = some (r1, r2) := by rw [if_pos rfl] at H; exact H
           clear H; have H := H1; clear H1; replace H := Option.bind_eq_some_iff.mp H; obtain ⟨t232, A200, H⟩ := H; replace H : (if t232 = true then (some (false, true)) else (if x6_2.length < 4398046511104 then (impl_IsPlacing.l0 k2 l0 l1 (x6_2 ++ [(⟨t226, t227, t228, t229⟩ : S26)]) l0 (l0.length : Int) (wrap64 (x26_2 + 1))) else (none))) = some (r1, r2) := H; have A20 := Aside0.mk A200; clear A200
           by_cases c21 : t232 = true
           ·
            subst c21
            have H1 : (some (false, true)) = some (r1, r2) := by rw [if_pos rfl] at H; exact H
            clear H; have H := H1; clear H1; simp only [Option.some.injEq, Prod.mk.injEq] at H; obtain ⟨rfl, rfl⟩ := H; have p223 : 0 ≤ (x26_2 : Int) := dt_; have q223 : x26_2 < (l0.length : Int) := dt_; obtain ⟨ad223, e223, hx223_0, hx223_1, hx223_2⟩ := at_T29 HR0.out x26_2 p223 q223
            cases e223
            replace hx223_0 := bc_ HB.out hx223_0; replace hx223_1 := bc_ HB.out hx223_1; replace hx223_2 := bc_ HB.out hx223_2; replace p223 := eq_true p223; replace q223 := eq_true q223
            try go_wp2_with (first | ((with_reducible refine gate_dst (N := 8) rfl ?_); (try (refine gate_guard (by rfl) ?_; dsimp only)); refine box_event ?hg (N := 8) ?hd (cs := #[.string (⟨#[]⟩ : ByteArray), .int .i64 0, .int .i64 0]) (t := 29) ?hr ?_; (case hd => rfl); (case hg => rfl); (case hr => first | (go_simp; done) | (go_simp; rfl)); intro gb224 hg w22 hbox hb; replace HO_6 := Aside0.mk (Kd.R_below (kr_ HO_6.out) hb); have BK224 := Aside0.mk (hbox); have GW224 := Aside0.mk ((bz_ hg (lb0_ HB.out))); have GE224 := Aside0.mk ((bz_ hg (lb0_ HB.out))); replace HB := Aside0.mk (below_step (lb0_ HB.out) hb); clear hb hbox hg; obtain ⟨hcz23_0, hcz23_1, hcz23_2⟩ := cz3_ BK224.out; obtain ⟨hfz23_0, hfz23_1, hfz23_2⟩ := fz3_ BK224.out))
            have n0_ : Aside0 (Kd.R k26 26 (((w22.setCell ⟨gb224, 0, none⟩ (.string ((rd_T29 l0 x26_2).f0))).setCell ⟨gb224, 1, none⟩ (.int .i64 ((rd_T29 l0 x26_2).f1))).setCell ⟨gb224, 2, none⟩ (.int .i64 ((rd_T29 l0 x26_2).f2))) w.heap.size (fun _ => True) u6 x6_2) := ⟨Kd.R_mono (r3_ HO_6.out BK224.out (by decide) _ _ _) (fun _ hk => trivial)⟩
            have n1_ : Aside0 ((((w22.setCell ⟨gb224, 0, none⟩ (.string ((rd_T29 l0 x26_2).f0))).setCell ⟨gb224, 1, none⟩ (.int .i64 ((rd_T29 l0 x26_2).f1))).setCell ⟨gb224, 2, none⟩ (.int .i64 ((rd_T29 l0 x26_2).f2))).heap[gb224]? = some (.cells #[.string ((rd_T29 l0 x26_2).f0), .int .i64 ((rd_T29 l0 x26_2).f1), .int .i64 ((rd_T29 l0 x26_2).f2)] 29 (0, 0))) := ⟨by exact (p3_ BK224.out _ _ _)⟩
            have n2_ : Aside0 (Below w.heap.size w (((w22.setCell ⟨gb224, 0, none⟩ (.string ((rd_T29 l0 x26_2).f0))).setCell ⟨gb224, 1, none⟩ (.int .i64 ((rd_T29 l0 x26_2).f1))).setCell ⟨gb224, 2, none⟩ (.int .i64 ((rd_T29 l0 x26_2).f2)))) := ⟨lb1_ HB.out GE224.out⟩
            (try clear HO_6); (try clear BK224); (try clear HB); generalize (((w22.setCell ⟨gb224, 0, none⟩ (.string ((rd_T29 l0 x26_2).f0))).setCell ⟨gb224, 1, none⟩ (.int .i64 ((rd_T29 l0 x26_2).f1))).setCell ⟨gb224, 2, none⟩ (.int .i64 ((rd_T29 l0 x26_2).f2))) = w24 at n0_ n1_ n2_ ⊢; have HO_6 := n0_; have BK224 := n1_; have HB := n2_; clear n0_ n1_ n2_; replace HO_6 := Aside0.mk (Kd.R_drew HO_6.out); replace BK224 := Aside0.mk (blk_drew BK224.out); replace HB := Aside0.mk (below_drew1 HB.out); have p225 : 0 ≤ (x26_2 : Int) := dt_; have q225 : x26_2 < (l1.length : Int) := dt_; obtain ⟨ad225, e225, hx225_0⟩ := Kd.at_int HR1.out x26_2 p225 q225; have hw225_0 := hx225_0
            cases e225
            replace hx225_0 := bc_ HB.out hx225_0; replace p225 := eq_true p225; replace q225 := eq_true q225; refine start_ (n := 8) (S := fun w' => w'.cell? ⟨gb224, 0, none⟩ = some (.string ((rd_T29 l0 x26_2).f0)) ∧ w'.cell? ⟨gb224, 1, none⟩ = some (.int .i64 ((rd_T29 l0 x26_2).f1)) ∧ w'.cell? ⟨gb224, 2, none⟩ = some (.int .i64 ((rd_T29 l0 x26_2).f2)) ∧ w'.cell? (ad225.add (x26_2).toNat) = some (.int .i64 (rd l1 x26_2))) (ds := []) #[fF,fF,fF,fF,fF,fF,fF,fF] (by kernel_rfl) rfl rfl ⟨(blk_cell BK224.out 0).trans rfl, (blk_cell BK224.out 1).trans rfl, (blk_cell BK224.out 2).trans rfl, (bc_ HB.out hw225_0)⟩ (fun hHeld => ?_); refine with_tabW impl_IsPlacing.tab7 impl_IsPlacing.bits7 (fun HT_ HW_ => ?_); generalize w24.drew = w25 at HO_6 BK224 HB hx225_0 hHeld ⊢; refine pz_ HT_ 1 (some 32) #[fF,tT,fF,fF,fF,fF,fF,fF] ?_; refine pz_ HT_ 2 (some 33) #[fF,tT,tT,fF,fF,fF,fF,fF] ?_; refine pz_ HT_ 3 (some 34) #[fF,tT,tT,tT,fF,fF,fF,fF] ?_; refine tk_ HT_ HW_ hHeld 0 (some 31) #[tT,tT,tT,tT,fF,fF,fF,fF] ?_; refine tk_ HT_ HW_ hHeld 4 (some 35) #[tT,tT,tT,tT,tT,fF,fF,fF] ?_; refine join_ (σ := Nat) 1 #[tT,tT,tT,tT,tT,tT,tT,fF] (fun s_ => [(36, .agg #[.int .i64 t226, .int .i64 t227, .int .i64 t228, .int .i64 t229]), (9, .pointer (some ⟨s_, 0, none⟩))]) (fun s_ w' => (w'.cell? ⟨gb224, 0, none⟩ = some (.string ((rd_T29 l0 x26_2).f0)) ∧ w'.cell? ⟨gb224, 1, none⟩ = some (.int .i64 ((rd_T29 l0 x26_2).f1)) ∧ w'.cell? ⟨gb224, 2, none⟩ = some (.int .i64 ((rd_T29 l0 x26_2).f2)) ∧ w'.cell? (ad225.add (x26_2).toNat) = some (.int .i64 (rd l1 x26_2))) ∧ (Kd.R k26 26 w' w.heap.size (fun k_ => k_ ≠ s_) u6 x6_2) ∧ (w'.heap[gb224]? = some (.cells #[.string ((rd_T29 l0 x26_2).f0), .int .i64 ((rd_T29 l0 x26_2).f1), .int .i64 ((rd_T29 l0 x26_2).f2)] 29 (0, 0))) ∧ (w'.heap[s_]? = some (.cells #[.int .i64 0, .int .i64 0, .int .i64 0, .int .i64 0] 26 (0, 0))) ∧ (w.heap.size ≤ s_) ∧ (w.heap.size ≤ s_) ∧ (gb224 ≠ s_) ∧ (s_ ≠ gb224) ∧ (Below w.heap.size w w')) ?_ ?_; rotate_left
            ·
             intro hCont; refine two_ (i := 5) (j := 6) (Ni := some 36) (Nj := some 9) #[tT,tT,tT,tT,tT,tT,fF,fF] #[tT,tT,tT,tT,tT,fF,tT,fF] rfl rfl rfl rfl (two_of HT_.out (by kernel_rfl)) (by decide) (by decide) (fun K hK => ?_) (fun K hK => ?_)
             ·
              skip; refine gs_ Tryd.func59 #[.agg #[.string ((rd_T29 l0 x26_2).f0), .int .i64 ((rd_T29 l0 x26_2).f1), .int .i64 ((rd_T29 l0 x26_2).f2)], .int .i64 (rd l1 x26_2)] ?_; (with_reducible refine (impl_boxFor.calls ((rd_T29 l0 x26_2).f0) ((rd_T29 l0 x26_2).f1) ((rd_T29 l0 x26_2).f2) (rd l1 x26_2) t226 t227 t228 t229 _ A17.out).mono ?_); rintro e w26 ⟨rfl, hb⟩; refine ⟨_, rfl, ?_⟩; replace HO_6 := Aside0.mk (Kd.R_below (kr_ HO_6.out) hb); replace BK224 := Aside0.mk (bb_ (bk_ BK224.out) hb); replace HB := Aside0.mk (below_step (lb1_ HB.out GE224.out) hb); (try clear hb); (try clear hb2); (try clear hk); (try clear hi); refine hK.out _ _ ⟨(blk_cell BK224.out 0).trans rfl, (blk_cell BK224.out 1).trans rfl, (blk_cell BK224.out 2).trans rfl, ((HB.out.cell (World.block_lt_of_cell? w _ hw225_0)).trans hw225_0)⟩ (fun hHeld => ?_); clear hK K; refine na_ ?_; refine one_ (i := 6) (N := some 9) #[tT,tT,tT,tT,tT,tT,tT,fF] rfl rfl (one_of HT_.out (by kernel_rfl)) (by decide) (fun K hK => ?_); refine box_step ?hg (N := 9) ?hd (cs := #[.int .i64 0, .int .i64 0, .int .i64 0, .int .i64 0]) (t := 26) ?hr ?_; (case hd => rfl); (case hg => rfl); (case hr => first | (go_simp; done) | (go_simp; rfl)); intro gb230 hg w27 hbox hb; replace HO_6 := Aside0.mk (Kd.R_below (Kd.R_elderB (kr_ HO_6.out) gb230 (Nat.le_of_eq hg.symm)) hb); have BK230 := Aside0.mk (hbox); have GW230 := Aside0.mk ((bz_ hg (lb1_ HB.out GE224.out))); have GE230 := Aside0.mk ((bz_ hg (lb1_ HB.out GE224.out))); replace HB := Aside0.mk (below_step (lb1_ HB.out GE224.out) hb); have NB224_230 := Aside0.mk (nl_ hg BK224.out); have NB230_224 := Aside0.mk (ng_ hg BK224.out); replace BK224 := Aside0.mk (bb_ (bk_ BK224.out) hb); clear hb hbox hg; refine hK.out _ _ ⟨(blk_cell BK224.out 0).trans rfl, (blk_cell BK224.out 1).trans rfl, (blk_cell BK224.out 2).trans rfl, ((HB.out.cell (World.block_lt_of_cell? w _ hw225_0)).trans hw225_0)⟩ (fun hHeld => ?_); clear hK K; refine na_ ?_; exact norm_ (by simp only [putAll, Act.put, List.setIfInBounds_toArray, List.set_cons_zero, List.set_cons_succ]) (hCont (gb230) _ ⟨hHeld, (krm_ HO_6.out (fun _ hk => hk.2)), (bk_ BK224.out), (bk_ BK230.out), GW230.out, GE230.out, NB224_230.out, NB230_224.out, (lb2_ HB.out GE224.out GE230.out)⟩)
             ·
              skip; refine box_step ?hg (N := 9) ?hd (cs := #[.int .i64 0, .int .i64 0, .int .i64 0, .int .i64 0]) (t := 26) ?hr ?_; (case hd => rfl); (case hg => rfl); (case hr => first | (go_simp; done) | (go_simp; rfl)); intro gb230 hg w26 hbox hb; replace HO_6 := Aside0.mk (Kd.R_below (Kd.R_elderB (kr_ HO_6.out) gb230 (Nat.le_of_eq hg.symm)) hb); have BK230 := Aside0.mk (hbox); have GW230 := Aside0.mk ((bz_ hg (lb1_ HB.out GE224.out))); have GE230 := Aside0.mk ((bz_ hg (lb1_ HB.out GE224.out))); replace HB := Aside0.mk (below_step (lb1_ HB.out GE224.out) hb); have NB224_230 := Aside0.mk (nl_ hg BK224.out); have NB230_224 := Aside0.mk (ng_ hg BK224.out); replace BK224 := Aside0.mk (bb_ (bk_ BK224.out) hb); clear hb hbox hg; refine hK.out _ _ ⟨(blk_cell BK224.out 0).trans rfl, (blk_cell BK224.out 1).trans rfl, (blk_cell BK224.out 2).trans rfl, ((HB.out.cell (World.block_lt_of_cell? w _ hw225_0)).trans hw225_0)⟩ (fun hHeld => ?_); clear hK K; refine na_ ?_; refine one_ (i := 5) (N := some 36) #[tT,tT,tT,tT,tT,tT,tT,fF] rfl rfl (one_of HT_.out (by kernel_rfl)) (by decide) (fun K hK => ?_); refine gs_ Tryd.func59 #[.agg #[.string ((rd_T29 l0 x26_2).f0), .int .i64 ((rd_T29 l0 x26_2).f1), .int .i64 ((rd_T29 l0 x26_2).f2)], .int .i64 (rd l1 x26_2)] ?_; (with_reducible refine (impl_boxFor.calls ((rd_T29 l0 x26_2).f0) ((rd_T29 l0 x26_2).f1) ((rd_T29 l0 x26_2).f2) (rd l1 x26_2) t226 t227 t228 t229 _ A17.out).mono ?_); rintro e w27 ⟨rfl, hb⟩; refine ⟨_, rfl, ?_⟩; replace HO_6 := Aside0.mk (Kd.R_below (kr_ HO_6.out) hb); replace BK224 := Aside0.mk (bb_ (bk_ BK224.out) hb); replace BK230 := Aside0.mk (bb_ (bk_ BK230.out) hb); replace HB := Aside0.mk (below_step (lb2_ HB.out GE224.out GE230.out) hb); (try clear hb); (try clear hb2); (try clear hk); (try clear hi); refine hK.out _ _ ⟨(blk_cell BK224.out 0).trans rfl, (blk_cell BK224.out 1).trans rfl, (blk_cell BK224.out 2).trans rfl, ((HB.out.cell (World.block_lt_of_cell? w _ hw225_0)).trans hw225_0)⟩ (fun hHeld => ?_); clear hK K; refine na_ ?_; exact norm_ (by simp only [putAll, Act.put, List.setIfInBounds_toArray, List.set_cons_zero, List.set_cons_succ]) (hCont (gb230) _ ⟨hHeld, (krm_ HO_6.out (fun _ hk => hk.2)), (bk_ BK224.out), (bk_ BK230.out), GW230.out, GE230.out, NB224_230.out, NB230_224.out, (lb2_ HB.out GE224.out GE230.out)⟩)
            rintro gb230 w28 ⟨hS_, h0_, h1_, h2_, h3_, h4_, h5_, h6_, h7_⟩; (try dsimp only at h0_ h1_ h2_ h3_ h4_ h5_ h6_ h7_); replace HO_6 := Aside0.mk h0_; replace BK224 := Aside0.mk h1_; have BK230 := Aside0.mk h2_; have GW230 := Aside0.mk h3_; have GE230 := Aside0.mk h4_; have NB224_230 := Aside0.mk h5_; have NB230_224 := Aside0.mk h6_; replace HB := Aside0.mk h7_; clear h0_ h1_ h2_ h3_ h4_ h5_ h6_ h7_; have hHeld : w28.cell? ⟨gb224, 0, none⟩ = some (.string ((rd_T29 l0 x26_2).f0)) ∧ w28.cell? ⟨gb224, 1, none⟩ = some (.int .i64 ((rd_T29 l0 x26_2).f1)) ∧ w28.cell? ⟨gb224, 2, none⟩ = some (.int .i64 ((rd_T29 l0 x26_2).f2)) ∧ w28.cell? (ad225.add (x26_2).toNat) = some (.int .i64 (rd l1 x26_2)) := hS_; refine nb_ ?_; refine one_ (i := 7) (N := none) #[tT,tT,tT,tT,tT,tT,tT,tT] rfl rfl (one_of HT_.out (by kernel_rfl)) (by decide) (fun K hK => ?_); have hs29 : w28.cell? ⟨gb230, 0, none⟩ = some (.int .i64 0) := (blk_cell BK230.out 0).trans rfl; have hfs29 := blk_frozen BK230.out 0; have hns29_0 := NB224_230.out; have hms29_0 := NB230_224.out; have hs30 : w28.cell? ⟨gb230, 1, none⟩ = some (.int .i64 0) := (blk_cell BK230.out 1).trans rfl; have hfs30 := blk_frozen BK230.out 1; have hns30_0 := NB224_230.out; have hms30_0 := NB230_224.out; have hs31 : w28.cell? ⟨gb230, 2, none⟩ = some (.int .i64 0) := (blk_cell BK230.out 2).trans rfl; have hfs31 := blk_frozen BK230.out 2; have hns31_0 := NB224_230.out; have hms31_0 := NB230_224.out; have hs32 : w28.cell? ⟨gb230, 3, none⟩ = some (.int .i64 0) := (blk_cell BK230.out 3).trans rfl; have hfs32 := blk_frozen BK230.out 3; have hns32_0 := NB224_230.out; have hms32_0 := NB230_224.out; refine skip_ (w1 := ?_) (by rfl) rfl ?_ ?_; rotate_left
            ·
             go_simp; rfl
            refine hK.out _ _ ⟨((cell_far (p := ⟨gb230, _, none⟩) NB224_230.out _).trans (((cell_far (p := ⟨gb230, _, none⟩) NB224_230.out _).trans (((cell_far (p := ⟨gb230, _, none⟩) NB224_230.out _).trans (((cell_far (p := ⟨gb230, _, none⟩) NB224_230.out _).trans (hHeld.1)))))))), ((cell_far (p := ⟨gb230, _, none⟩) NB224_230.out _).trans (((cell_far (p := ⟨gb230, _, none⟩) NB224_230.out _).trans (((cell_far (p := ⟨gb230, _, none⟩) NB224_230.out _).trans (((cell_far (p := ⟨gb230, _, none⟩) NB224_230.out _).trans (hHeld.2.1)))))))), ((cell_far (p := ⟨gb230, _, none⟩) NB224_230.out _).trans (((cell_far (p := ⟨gb230, _, none⟩) NB224_230.out _).trans (((cell_far (p := ⟨gb230, _, none⟩) NB224_230.out _).trans (((cell_far (p := ⟨gb230, _, none⟩) NB224_230.out _).trans (hHeld.2.2.1)))))))), ((cell_far (p := ⟨gb230, _, none⟩) (Nat.ne_of_lt (Nat.lt_of_lt_of_le (World.block_lt_of_cell? _ _ hw225_0) GW230.out)) _).trans (((cell_far (p := ⟨gb230, _, none⟩) (Nat.ne_of_lt (Nat.lt_of_lt_of_le (World.block_lt_of_cell? _ _ hw225_0) GW230.out)) _).trans (((cell_far (p := ⟨gb230, _, none⟩) (Nat.ne_of_lt (Nat.lt_of_lt_of_le (World.block_lt_of_cell? _ _ hw225_0) GW230.out)) _).trans (((cell_far (p := ⟨gb230, _, none⟩) (Nat.ne_of_lt (Nat.lt_of_lt_of_le (World.block_lt_of_cell? _ _ hw225_0) GW230.out)) _).trans (hHeld.2.2.2))))))))⟩ (fun hHeld => ?_); clear hK K; refine done_ (done_of HT_.out (by kernel_rfl)) ?_; have hnb33 := NB230_224.out; have hnc33 := NB224_230.out; obtain ⟨hcz34_0, hcz34_1, hcz34_2, hcz34_3⟩ := cz4_ BK230.out; obtain ⟨hfz34_0, hfz34_1, hfz34_2, hfz34_3⟩ := fz4_ BK230.out
            try go_wp2_with (first | ((with_reducible refine gate_callee (f := 67) rfl ?_); refine ga_ (some 39) Tryd.func67 #[.slice (some ad223) l0.length c0, .agg #[.int .i64 t226, .int .i64 t227, .int .i64 t228, .int .i64 t229]] ?_; (with_reducible refine (impl_free.calls _ _ l0 t226 t227 t228 t229 true _ ?side1 ?side2 A18.out).mono ?_); (case side1 => exact Kd.C_below HR0.out (lb2_ HB.out GE224.out GE230.out)); (case side2 => exact HC0.out); rintro e w35 ⟨rfl, hb⟩; refine ⟨_, rfl, ?_⟩; replace HO_6 := Aside0.mk (Kd.R_below (by (with_reducible repeat (first | apply Kd.R_alloc | apply Kd.R_drewN | apply Kd.R_drew)); exact (Kd.R_mono (Kd.R_far (p := ⟨gb230, 3, none⟩) (Kd.R_far (p := ⟨gb230, 2, none⟩) (Kd.R_far (p := ⟨gb230, 1, none⟩) (Kd.R_far (p := ⟨gb230, 0, none⟩) (Kd.R_mono HO_6.out (fun k_ hk => (⟨hk, hk⟩ : _ ∧ k_ ≠ gb230))) (fun _ hk => hk.2) (.int .i64 t226)) (fun _ hk => hk.2) (.int .i64 t227)) (fun _ hk => hk.2) (.int .i64 t228)) (fun _ hk => hk.2) (.int .i64 t229)) (fun _ h_ => h_.1))) hb); replace BK224 := Aside0.mk (blk_below (g := gb224) (o := .cells #[.string ((rd_T29 l0 x26_2).f0), .int .i64 ((rd_T29 l0 x26_2).f1), .int .i64 ((rd_T29 l0 x26_2).f2)] 29 (0, 0)) (by (with_reducible repeat (first | refine blk_drewN ?_ _ | refine blk_drew ?_ | refine blk_alloc ?_ _)); exact (f4_ BK224.out NB224_230.out _ _ _ _)) hb); replace BK230 := Aside0.mk (blk_below (g := gb230) (o := .cells #[.int .i64 t226, .int .i64 t227, .int .i64 t228, .int .i64 t229] 26 (0, 0)) (by (with_reducible repeat (first | refine blk_drewN ?_ _ | refine blk_drew ?_ | refine blk_alloc ?_ _)); exact (p4_ BK230.out _ _ _ _)) hb); replace HB := Aside0.mk (below_step (lb2_ HB.out GE224.out GE230.out) hb); (try clear hb); (try clear hb2); (try clear hk); (try clear hi); obtain ⟨hcz36_0, hcz36_1, hcz36_2, hcz36_3⟩ := cz4_ BK230.out; obtain ⟨hfz36_0, hfz36_1, hfz36_2, hfz36_3⟩ := fz4_ BK230.out; obtain ⟨Ao37, co37, eo37⟩ := Kd.R_slice HO_6.out; subst eo37) | (go_at_call 68; (with_reducible refine (impl_IsPlacing_2.calls _ _ x6_2 t226 t227 t228 t229 true _ ?side1 ?side2 A20.out ?side9).mono ?_); (case side9 => (with_reducible repeat (first | refine blk_drewN ?_ _ | refine blk_drew ?_ | refine blk_alloc ?_ _)); exact BK230.out); (case side1 => exact kc_ (Kd.R_reads' HO_6.out).2.2); (case side2 => exact (Kd.R_reads' HO_6.out).2.1); rintro e w38 ⟨rfl, hb⟩; replace HO_6 := Aside0.mk (Kd.R_below (kr_ HO_6.out) hb); replace BK224 := Aside0.mk (bb_ (bk_ BK224.out) hb); replace BK230 := Aside0.mk (bb_ (bk_ BK230.out) hb); replace HB := Aside0.mk (below_step (lb2_ HB.out GE224.out GE230.out) hb); (try clear hb); (try clear hb2); (try clear hk); (try clear hi)))
            go_ret2
            exact ⟨rr_, lb2_ HB.out GE224.out GE230.out⟩
           ·
            replace c21 := Bool.eq_false_iff.mpr c21; subst c21
            have H1 : (if x6_2.length < 4398046511104 then (impl_IsPlacing.l0 k2 l0 l1 (x6_2 ++ [(⟨t226, t227, t228, t229⟩ : S26)]) l0 (l0.length : Int) (wrap64 (x26_2 + 1))) else (none)) = some (r1, r2) := by rw [if_neg (show ¬ (false = true) by decide)] at H; exact H
            clear H; have H := H1; clear H1
            by_cases c39 : x6_2.length < 4398046511104
            ·
             rw [if_pos c39] at H
             have LMc39 := Aside0.mk c39; clear c39
             obtain ⟨y233, hy233⟩ : ∃ y_ : List (S26), y_ = (x6_2 ++ [(⟨t226, t227, t228, t229⟩ : S26)]) := ⟨_, rfl⟩
             replace H : (impl_IsPlacing.l0 k2 l0 l1 y233 l0 (l0.length : Int) (wrap64 (x26_2 + 1))) = some (r1, r2) := by first | (rw [hy233]; with_reducible exact H) | (have H2_ := (Option.bind_some _ _).symm.trans H; rw [hy233]; with_reducible exact H2_) | (have H2_ := (Option.bind_some _ _).symm.trans H; with_reducible exact H2_) | with_reducible exact H | (rw [hy233]; exact H) | exact H
             have Ny233 := Aside0.mk hy233; clear hy233; have H' := Aside0.mk H; clear H; have p223 : 0 ≤ (x26_2 : Int) := dt_; have q223 : x26_2 < (l0.length : Int) := dt_; obtain ⟨ad223, e223, hx223_0, hx223_1, hx223_2⟩ := at_T29 HR0.out x26_2 p223 q223
             cases e223
             replace hx223_0 := bc_ HB.out hx223_0; replace hx223_1 := bc_ HB.out hx223_1; replace hx223_2 := bc_ HB.out hx223_2; replace p223 := eq_true p223; replace q223 := eq_true q223
             try go_wp2_with (first | ((with_reducible refine gate_dst (N := 8) rfl ?_); (try (refine gate_guard (by rfl) ?_; dsimp only)); refine box_event ?hg (N := 8) ?hd (cs := #[.string (⟨#[]⟩ : ByteArray), .int .i64 0, .int .i64 0]) (t := 29) ?hr ?_; (case hd => rfl); (case hg => rfl); (case hr => first | (go_simp; done) | (go_simp; rfl)); intro gb224 hg w40 hbox hb; replace HO_6 := Aside0.mk (Kd.R_below (kr_ HO_6.out) hb); have BK224 := Aside0.mk (hbox); have GW224 := Aside0.mk ((bz_ hg (lb0_ HB.out))); have GE224 := Aside0.mk ((bz_ hg (lb0_ HB.out))); replace HB := Aside0.mk (below_step (lb0_ HB.out) hb); clear hb hbox hg; obtain ⟨hcz41_0, hcz41_1, hcz41_2⟩ := cz3_ BK224.out; obtain ⟨hfz41_0, hfz41_1, hfz41_2⟩ := fz3_ BK224.out))
             have n0_ : Aside0 (Kd.R k26 26 (((w40.setCell ⟨gb224, 0, none⟩ (.string ((rd_T29 l0 x26_2).f0))).setCell ⟨gb224, 1, none⟩ (.int .i64 ((rd_T29 l0 x26_2).f1))).setCell ⟨gb224, 2, none⟩ (.int .i64 ((rd_T29 l0 x26_2).f2))) w.heap.size (fun _ => True) u6 x6_2) := ⟨Kd.R_mono (r3_ HO_6.out BK224.out (by decide) _ _ _) (fun _ hk => trivial)⟩
             have n1_ : Aside0 ((((w40.setCell ⟨gb224, 0, none⟩ (.string ((rd_T29 l0 x26_2).f0))).setCell ⟨gb224, 1, none⟩ (.int .i64 ((rd_T29 l0 x26_2).f1))).setCell ⟨gb224, 2, none⟩ (.int .i64 ((rd_T29 l0 x26_2).f2))).heap[gb224]? = some (.cells #[.string ((rd_T29 l0 x26_2).f0), .int .i64 ((rd_T29 l0 x26_2).f1), .int .i64 ((rd_T29 l0 x26_2).f2)] 29 (0, 0))) := ⟨by exact (p3_ BK224.out _ _ _)⟩
             have n2_ : Aside0 (Below w.heap.size w (((w40.setCell ⟨gb224, 0, none⟩ (.string ((rd_T29 l0 x26_2).f0))).setCell ⟨gb224, 1, none⟩ (.int .i64 ((rd_T29 l0 x26_2).f1))).setCell ⟨gb224, 2, none⟩ (.int .i64 ((rd_T29 l0 x26_2).f2)))) := ⟨lb1_ HB.out GE224.out⟩
             (try clear HO_6); (try clear BK224); (try clear HB); generalize (((w40.setCell ⟨gb224, 0, none⟩ (.string ((rd_T29 l0 x26_2).f0))).setCell ⟨gb224, 1, none⟩ (.int .i64 ((rd_T29 l0 x26_2).f1))).setCell ⟨gb224, 2, none⟩ (.int .i64 ((rd_T29 l0 x26_2).f2))) = w42 at n0_ n1_ n2_ ⊢; have HO_6 := n0_; have BK224 := n1_; have HB := n2_; clear n0_ n1_ n2_; replace HO_6 := Aside0.mk (Kd.R_drew HO_6.out); replace BK224 := Aside0.mk (blk_drew BK224.out); replace HB := Aside0.mk (below_drew1 HB.out); have p225 : 0 ≤ (x26_2 : Int) := dt_; have q225 : x26_2 < (l1.length : Int) := dt_; obtain ⟨ad225, e225, hx225_0⟩ := Kd.at_int HR1.out x26_2 p225 q225; have hw225_0 := hx225_0
             cases e225
             replace hx225_0 := bc_ HB.out hx225_0; replace p225 := eq_true p225; replace q225 := eq_true q225; refine start_ (n := 8) (S := fun w' => w'.cell? ⟨gb224, 0, none⟩ = some (.string ((rd_T29 l0 x26_2).f0)) ∧ w'.cell? ⟨gb224, 1, none⟩ = some (.int .i64 ((rd_T29 l0 x26_2).f1)) ∧ w'.cell? ⟨gb224, 2, none⟩ = some (.int .i64 ((rd_T29 l0 x26_2).f2)) ∧ w'.cell? (ad225.add (x26_2).toNat) = some (.int .i64 (rd l1 x26_2))) (ds := []) #[fF,fF,fF,fF,fF,fF,fF,fF] (by kernel_rfl) rfl rfl ⟨(blk_cell BK224.out 0).trans rfl, (blk_cell BK224.out 1).trans rfl, (blk_cell BK224.out 2).trans rfl, (bc_ HB.out hw225_0)⟩ (fun hHeld => ?_); refine with_tabW impl_IsPlacing.tab7 impl_IsPlacing.bits7 (fun HT_ HW_ => ?_); generalize w42.drew = w43 at HO_6 BK224 HB hx225_0 hHeld ⊢; refine pz_ HT_ 1 (some 32) #[fF,tT,fF,fF,fF,fF,fF,fF] ?_; refine pz_ HT_ 2 (some 33) #[fF,tT,tT,fF,fF,fF,fF,fF] ?_; refine pz_ HT_ 3 (some 34) #[fF,tT,tT,tT,fF,fF,fF,fF] ?_; refine tk_ HT_ HW_ hHeld 0 (some 31) #[tT,tT,tT,tT,fF,fF,fF,fF] ?_; refine tk_ HT_ HW_ hHeld 4 (some 35) #[tT,tT,tT,tT,tT,fF,fF,fF] ?_; refine join_ (σ := Nat) 1 #[tT,tT,tT,tT,tT,tT,tT,fF] (fun s_ => [(36, .agg #[.int .i64 t226, .int .i64 t227, .int .i64 t228, .int .i64 t229]), (9, .pointer (some ⟨s_, 0, none⟩))]) (fun s_ w' => (w'.cell? ⟨gb224, 0, none⟩ = some (.string ((rd_T29 l0 x26_2).f0)) ∧ w'.cell? ⟨gb224, 1, none⟩ = some (.int .i64 ((rd_T29 l0 x26_2).f1)) ∧ w'.cell? ⟨gb224, 2, none⟩ = some (.int .i64 ((rd_T29 l0 x26_2).f2)) ∧ w'.cell? (ad225.add (x26_2).toNat) = some (.int .i64 (rd l1 x26_2))) ∧ (Kd.R k26 26 w' w.heap.size (fun k_ => k_ ≠ s_) u6 x6_2) ∧ (w'.heap[gb224]? = some (.cells #[.string ((rd_T29 l0 x26_2).f0), .int .i64 ((rd_T29 l0 x26_2).f1), .int .i64 ((rd_T29 l0 x26_2).f2)] 29 (0, 0))) ∧ (w'.heap[s_]? = some (.cells #[.int .i64 0, .int .i64 0, .int .i64 0, .int .i64 0] 26 (0, 0))) ∧ (w.heap.size ≤ s_) ∧ (w.heap.size ≤ s_) ∧ (gb224 ≠ s_) ∧ (s_ ≠ gb224) ∧ (Below w.heap.size w w')) ?_ ?_; rotate_left
             ·
              intro hCont; refine two_ (i := 5) (j := 6) (Ni := some 36) (Nj := some 9) #[tT,tT,tT,tT,tT,tT,fF,fF] #[tT,tT,tT,tT,tT,fF,tT,fF] rfl rfl rfl rfl (two_of HT_.out (by kernel_rfl)) (by decide) (by decide) (fun K hK => ?_) (fun K hK => ?_)
              ·
               skip; refine gs_ Tryd.func59 #[.agg #[.string ((rd_T29 l0 x26_2).f0), .int .i64 ((rd_T29 l0 x26_2).f1), .int .i64 ((rd_T29 l0 x26_2).f2)], .int .i64 (rd l1 x26_2)] ?_; (with_reducible refine (impl_boxFor.calls ((rd_T29 l0 x26_2).f0) ((rd_T29 l0 x26_2).f1) ((rd_T29 l0 x26_2).f2) (rd l1 x26_2) t226 t227 t228 t229 _ A17.out).mono ?_); rintro e w44 ⟨rfl, hb⟩; refine ⟨_, rfl, ?_⟩; replace HO_6 := Aside0.mk (Kd.R_below (kr_ HO_6.out) hb); replace BK224 := Aside0.mk (bb_ (bk_ BK224.out) hb); replace HB := Aside0.mk (below_step (lb1_ HB.out GE224.out) hb); (try clear hb); (try clear hb2); (try clear hk); (try clear hi); refine hK.out _ _ ⟨(blk_cell BK224.out 0).trans rfl, (blk_cell BK224.out 1).trans rfl, (blk_cell BK224.out 2).trans rfl, ((HB.out.cell (World.block_lt_of_cell? w _ hw225_0)).trans hw225_0)⟩ (fun hHeld => ?_); clear hK K; refine na_ ?_; refine one_ (i := 6) (N := some 9) #[tT,tT,tT,tT,tT,tT,tT,fF] rfl rfl (one_of HT_.out (by kernel_rfl)) (by decide) (fun K hK => ?_); refine box_step ?hg (N := 9) ?hd (cs := #[.int .i64 0, .int .i64 0, .int .i64 0, .int .i64 0]) (t := 26) ?hr ?_; (case hd => rfl); (case hg => rfl); (case hr => first | (go_simp; done) | (go_simp; rfl)); intro gb230 hg w45 hbox hb; replace HO_6 := Aside0.mk (Kd.R_below (Kd.R_elderB (kr_ HO_6.out) gb230 (Nat.le_of_eq hg.symm)) hb); have BK230 := Aside0.mk (hbox); have GW230 := Aside0.mk ((bz_ hg (lb1_ HB.out GE224.out))); have GE230 := Aside0.mk ((bz_ hg (lb1_ HB.out GE224.out))); replace HB := Aside0.mk (below_step (lb1_ HB.out GE224.out) hb); have NB224_230 := Aside0.mk (nl_ hg BK224.out); have NB230_224 := Aside0.mk (ng_ hg BK224.out); replace BK224 := Aside0.mk (bb_ (bk_ BK224.out) hb); clear hb hbox hg; refine hK.out _ _ ⟨(blk_cell BK224.out 0).trans rfl, (blk_cell BK224.out 1).trans rfl, (blk_cell BK224.out 2).trans rfl, ((HB.out.cell (World.block_lt_of_cell? w _ hw225_0)).trans hw225_0)⟩ (fun hHeld => ?_); clear hK K; refine na_ ?_; exact norm_ (by simp only [putAll, Act.put, List.setIfInBounds_toArray, List.set_cons_zero, List.set_cons_succ]) (hCont (gb230) _ ⟨hHeld, (krm_ HO_6.out (fun _ hk => hk.2)), (bk_ BK224.out), (bk_ BK230.out), GW230.out, GE230.out, NB224_230.out, NB230_224.out, (lb2_ HB.out GE224.out GE230.out)⟩)
              ·
               skip; refine box_step ?hg (N := 9) ?hd (cs := #[.int .i64 0, .int .i64 0, .int .i64 0, .int .i64 0]) (t := 26) ?hr ?_; (case hd => rfl); (case hg => rfl); (case hr => first | (go_simp; done) | (go_simp; rfl)); intro gb230 hg w44 hbox hb; replace HO_6 := Aside0.mk (Kd.R_below (Kd.R_elderB (kr_ HO_6.out) gb230 (Nat.le_of_eq hg.symm)) hb); have BK230 := Aside0.mk (hbox); have GW230 := Aside0.mk ((bz_ hg (lb1_ HB.out GE224.out))); have GE230 := Aside0.mk ((bz_ hg (lb1_ HB.out GE224.out))); replace HB := Aside0.mk (below_step (lb1_ HB.out GE224.out) hb); have NB224_230 := Aside0.mk (nl_ hg BK224.out); have NB230_224 := Aside0.mk (ng_ hg BK224.out); replace BK224 := Aside0.mk (bb_ (bk_ BK224.out) hb); clear hb hbox hg; refine hK.out _ _ ⟨(blk_cell BK224.out 0).trans rfl, (blk_cell BK224.out 1).trans rfl, (blk_cell BK224.out 2).trans rfl, ((HB.out.cell (World.block_lt_of_cell? w _ hw225_0)).trans hw225_0)⟩ (fun hHeld => ?_); clear hK K; refine na_ ?_; refine one_ (i := 5) (N := some 36) #[tT,tT,tT,tT,tT,tT,tT,fF] rfl rfl (one_of HT_.out (by kernel_rfl)) (by decide) (fun K hK => ?_); refine gs_ Tryd.func59 #[.agg #[.string ((rd_T29 l0 x26_2).f0), .int .i64 ((rd_T29 l0 x26_2).f1), .int .i64 ((rd_T29 l0 x26_2).f2)], .int .i64 (rd l1 x26_2)] ?_; (with_reducible refine (impl_boxFor.calls ((rd_T29 l0 x26_2).f0) ((rd_T29 l0 x26_2).f1) ((rd_T29 l0 x26_2).f2) (rd l1 x26_2) t226 t227 t228 t229 _ A17.out).mono ?_); rintro e w45 ⟨rfl, hb⟩; refine ⟨_, rfl, ?_⟩; replace HO_6 := Aside0.mk (Kd.R_below (kr_ HO_6.out) hb); replace BK224 := Aside0.mk (bb_ (bk_ BK224.out) hb); replace BK230 := Aside0.mk (bb_ (bk_ BK230.out) hb); replace HB := Aside0.mk (below_step (lb2_ HB.out GE224.out GE230.out) hb); (try clear hb); (try clear hb2); (try clear hk); (try clear hi); refine hK.out _ _ ⟨(blk_cell BK224.out 0).trans rfl, (blk_cell BK224.out 1).trans rfl, (blk_cell BK224.out 2).trans rfl, ((HB.out.cell (World.block_lt_of_cell? w _ hw225_0)).trans hw225_0)⟩ (fun hHeld => ?_); clear hK K; refine na_ ?_; exact norm_ (by simp only [putAll, Act.put, List.setIfInBounds_toArray, List.set_cons_zero, List.set_cons_succ]) (hCont (gb230) _ ⟨hHeld, (krm_ HO_6.out (fun _ hk => hk.2)), (bk_ BK224.out), (bk_ BK230.out), GW230.out, GE230.out, NB224_230.out, NB230_224.out, (lb2_ HB.out GE224.out GE230.out)⟩)
             rintro gb230 w46 ⟨hS_, h0_, h1_, h2_, h3_, h4_, h5_, h6_, h7_⟩; (try dsimp only at h0_ h1_ h2_ h3_ h4_ h5_ h6_ h7_); replace HO_6 := Aside0.mk h0_; replace BK224 := Aside0.mk h1_; have BK230 := Aside0.mk h2_; have GW230 := Aside0.mk h3_; have GE230 := Aside0.mk h4_; have NB224_230 := Aside0.mk h5_; have NB230_224 := Aside0.mk h6_; replace HB := Aside0.mk h7_; clear h0_ h1_ h2_ h3_ h4_ h5_ h6_ h7_; have hHeld : w46.cell? ⟨gb224, 0, none⟩ = some (.string ((rd_T29 l0 x26_2).f0)) ∧ w46.cell? ⟨gb224, 1, none⟩ = some (.int .i64 ((rd_T29 l0 x26_2).f1)) ∧ w46.cell? ⟨gb224, 2, none⟩ = some (.int .i64 ((rd_T29 l0 x26_2).f2)) ∧ w46.cell? (ad225.add (x26_2).toNat) = some (.int .i64 (rd l1 x26_2)) := hS_; refine nb_ ?_; refine one_ (i := 7) (N := none) #[tT,tT,tT,tT,tT,tT,tT,tT] rfl rfl (one_of HT_.out (by kernel_rfl)) (by decide) (fun K hK => ?_); have hs47 : w46.cell? ⟨gb230, 0, none⟩ = some (.int .i64 0) := (blk_cell BK230.out 0).trans rfl; have hfs47 := blk_frozen BK230.out 0; have hns47_0 := NB224_230.out; have hms47_0 := NB230_224.out; have hs48 : w46.cell? ⟨gb230, 1, none⟩ = some (.int .i64 0) := (blk_cell BK230.out 1).trans rfl; have hfs48 := blk_frozen BK230.out 1; have hns48_0 := NB224_230.out; have hms48_0 := NB230_224.out; have hs49 : w46.cell? ⟨gb230, 2, none⟩ = some (.int .i64 0) := (blk_cell BK230.out 2).trans rfl; have hfs49 := blk_frozen BK230.out 2; have hns49_0 := NB224_230.out; have hms49_0 := NB230_224.out; have hs50 : w46.cell? ⟨gb230, 3, none⟩ = some (.int .i64 0) := (blk_cell BK230.out 3).trans rfl; have hfs50 := blk_frozen BK230.out 3; have hns50_0 := NB224_230.out; have hms50_0 := NB230_224.out; refine skip_ (w1 := ?_) (by rfl) rfl ?_ ?_; rotate_left
             ·
              go_simp; rfl
             refine hK.out _ _ ⟨((cell_far (p := ⟨gb230, _, none⟩) NB224_230.out _).trans (((cell_far (p := ⟨gb230, _, none⟩) NB224_230.out _).trans (((cell_far (p := ⟨gb230, _, none⟩) NB224_230.out _).trans (((cell_far (p := ⟨gb230, _, none⟩) NB224_230.out _).trans (hHeld.1)))))))), ((cell_far (p := ⟨gb230, _, none⟩) NB224_230.out _).trans (((cell_far (p := ⟨gb230, _, none⟩) NB224_230.out _).trans (((cell_far (p := ⟨gb230, _, none⟩) NB224_230.out _).trans (((cell_far (p := ⟨gb230, _, none⟩) NB224_230.out _).trans (hHeld.2.1)))))))), ((cell_far (p := ⟨gb230, _, none⟩) NB224_230.out _).trans (((cell_far (p := ⟨gb230, _, none⟩) NB224_230.out _).trans (((cell_far (p := ⟨gb230, _, none⟩) NB224_230.out _).trans (((cell_far (p := ⟨gb230, _, none⟩) NB224_230.out _).trans (hHeld.2.2.1)))))))), ((cell_far (p := ⟨gb230, _, none⟩) (Nat.ne_of_lt (Nat.lt_of_lt_of_le (World.block_lt_of_cell? _ _ hw225_0) GW230.out)) _).trans (((cell_far (p := ⟨gb230, _, none⟩) (Nat.ne_of_lt (Nat.lt_of_lt_of_le (World.block_lt_of_cell? _ _ hw225_0) GW230.out)) _).trans (((cell_far (p := ⟨gb230, _, none⟩) (Nat.ne_of_lt (Nat.lt_of_lt_of_le (World.block_lt_of_cell? _ _ hw225_0) GW230.out)) _).trans (((cell_far (p := ⟨gb230, _, none⟩) (Nat.ne_of_lt (Nat.lt_of_lt_of_le (World.block_lt_of_cell? _ _ hw225_0) GW230.out)) _).trans (hHeld.2.2.2))))))))⟩ (fun hHeld => ?_); clear hK K; refine done_ (done_of HT_.out (by kernel_rfl)) ?_; have hnb51 := NB230_224.out; have hnc51 := NB224_230.out; obtain ⟨hcz52_0, hcz52_1, hcz52_2, hcz52_3⟩ := cz4_ BK230.out; obtain ⟨hfz52_0, hfz52_1, hfz52_2, hfz52_3⟩ := fz4_ BK230.out
             try go_wp2_with (first | ((with_reducible refine gate_callee (f := 67) rfl ?_); refine ga_ (some 39) Tryd.func67 #[.slice (some ad223) l0.length c0, .agg #[.int .i64 t226, .int .i64 t227, .int .i64 t228, .int .i64 t229]] ?_; (with_reducible refine (impl_free.calls _ _ l0 t226 t227 t228 t229 true _ ?side1 ?side2 A18.out).mono ?_); (case side1 => exact Kd.C_below HR0.out (lb2_ HB.out GE224.out GE230.out)); (case side2 => exact HC0.out); rintro e w53 ⟨rfl, hb⟩; refine ⟨_, rfl, ?_⟩; replace HO_6 := Aside0.mk (Kd.R_below (by (with_reducible repeat (first | apply Kd.R_alloc | apply Kd.R_drewN | apply Kd.R_drew)); exact (Kd.R_mono (Kd.R_far (p := ⟨gb230, 3, none⟩) (Kd.R_far (p := ⟨gb230, 2, none⟩) (Kd.R_far (p := ⟨gb230, 1, none⟩) (Kd.R_far (p := ⟨gb230, 0, none⟩) (Kd.R_mono HO_6.out (fun k_ hk => (⟨hk, hk⟩ : _ ∧ k_ ≠ gb230))) (fun _ hk => hk.2) (.int .i64 t226)) (fun _ hk => hk.2) (.int .i64 t227)) (fun _ hk => hk.2) (.int .i64 t228)) (fun _ hk => hk.2) (.int .i64 t229)) (fun _ h_ => h_.1))) hb); replace BK224 := Aside0.mk (blk_below (g := gb224) (o := .cells #[.string ((rd_T29 l0 x26_2).f0), .int .i64 ((rd_T29 l0 x26_2).f1), .int .i64 ((rd_T29 l0 x26_2).f2)] 29 (0, 0)) (by (with_reducible repeat (first | refine blk_drewN ?_ _ | refine blk_drew ?_ | refine blk_alloc ?_ _)); exact (f4_ BK224.out NB224_230.out _ _ _ _)) hb); replace BK230 := Aside0.mk (blk_below (g := gb230) (o := .cells #[.int .i64 t226, .int .i64 t227, .int .i64 t228, .int .i64 t229] 26 (0, 0)) (by (with_reducible repeat (first | refine blk_drewN ?_ _ | refine blk_drew ?_ | refine blk_alloc ?_ _)); exact (p4_ BK230.out _ _ _ _)) hb); replace HB := Aside0.mk (below_step (lb2_ HB.out GE224.out GE230.out) hb); (try clear hb); (try clear hb2); (try clear hk); (try clear hi); obtain ⟨hcz54_0, hcz54_1, hcz54_2, hcz54_3⟩ := cz4_ BK230.out; obtain ⟨hfz54_0, hfz54_1, hfz54_2, hfz54_3⟩ := fz4_ BK230.out; obtain ⟨Ao55, co55, eo55⟩ := Kd.R_slice HO_6.out; subst eo55) | (go_at_call 68; (with_reducible refine (impl_IsPlacing_2.calls _ _ x6_2 t226 t227 t228 t229 false _ ?side1 ?side2 A20.out ?side9).mono ?_); (case side9 => (with_reducible repeat (first | refine blk_drewN ?_ _ | refine blk_drew ?_ | refine blk_alloc ?_ _)); exact BK230.out); (case side1 => exact kc_ (Kd.R_reads' HO_6.out).2.2); (case side2 => exact (Kd.R_reads' HO_6.out).2.1); rintro e w56 ⟨rfl, hb⟩; replace HO_6 := Aside0.mk (Kd.R_below (kr_ HO_6.out) hb); replace BK224 := Aside0.mk (bb_ (bk_ BK224.out) hb); replace BK230 := Aside0.mk (bb_ (bk_ BK230.out) hb); replace HB := Aside0.mk (below_step (lb2_ HB.out GE224.out GE230.out) hb); (try clear hb); (try clear hb2); (try clear hk); (try clear hi); obtain ⟨hcz57_0, hcz57_1, hcz57_2, hcz57_3⟩ := cz4_ BK230.out; obtain ⟨hfz57_0, hfz57_1, hfz57_2, hfz57_3⟩ := fz4_ BK230.out) | ((with_reducible refine gate_builtin (b := .append) (xs := #[.tmp 46, .tmp 48]) rfl ?_); (try (refine gate_guard (by rfl) ?_; dsimp only)); at_builtin; refine Kd.R_append k26 (w0 := w) w.heap.size rfl (.tmp 46) (.tmp 48) 79 26 (.agg #[(.int .i64 0), (.int .i64 0), (.int .i64 0), (.int .i64 0)]) 32 rfl Tryd.underlying79 info26 rfl (by decide) (by omega) (.slice Ao55 x6_2.length co55) x6_2 (⟨t226, t227, t228, t229⟩ : S26) [.int .i64 t226, .int .i64 t227, .int .i64 t228, .int .i64 t229] (fun k_ => k_ ≠ gb230) (fun _ => False) rfl rfl ?aP (fun _ hk => hk.elim) ?aF ?aO ?aB ?aS ?aL ?_; (case aP => exact k26_mkM _ _ _ (⟨t226, t227, t228, t229⟩ : S26)); (case aB => exact (lb2_ HB.out GE224.out GE230.out)); (case aF => exact (fun k_ hk => Kd.freshB (g := gb230) (o := .cells #[.int .i64 t226, .int .i64 t227, .int .i64 t228, .int .i64 t229] 26 (0, 0)) (bk_ BK230.out) k_ hk)); (case aO => exact (kr_ HO_6.out)); (case aS => exact (below_size (lb2_ HB.out GE224.out GE230.out))); (case aL => have := LMc39.out; omega); intro v234 w58 ho hb hg hat; rw [← Ny233.out] at ho; replace BK224 := Aside0.mk (blk_grown (g := gb224) (o := .cells #[.string ((rd_T29 l0 x26_2).f0), .int .i64 ((rd_T29 l0 x26_2).f1), .int .i64 ((rd_T29 l0 x26_2).f2)] 29 (0, 0)) (bk_ BK224.out) hg (Kd.R_ne HO_6.out BK224.out (by decide))); replace BK230 := Aside0.mk (blk_grown (g := gb230) (o := .cells #[.int .i64 t226, .int .i64 t227, .int .i64 t228, .int .i64 t229] 26 (0, 0)) (bk_ BK230.out) hg (Kd.R_away HO_6.out (fun _ hk => hk))); replace HB := Aside0.mk (hb); have HO235 := Aside0.mk (ho); clear HO_6; clear ho hb hg hat))
             go_roundg k2
             case measure => have := HJ2.out; have := HK2.out; omega
             case rel => exact ⟨(y233), (wrap64 (x26_2 + 1)), (by first | rfl | (simp; done) | (simp [*]; done)), H', ⟨by have := HJ2.out; have := HK2.out; omega⟩, ⟨krm_ HO235.out (fun _ hk => trivial)⟩, ⟨lb2_ HB.out GE224.out GE230.out⟩⟩
            ·
             rw [if_neg c39] at H
             exact absurd H (by simp)
          ·
           replace c19 := Bool.eq_false_iff.mpr c19; subst c19
           have H1 : (some (false, true)) = some (r1, r2) := by rw [if_neg (show ¬ (false = true) by decide)] at H; exact H
           clear H; have H := H1; clear H1; simp only [Option.some.injEq, Prod.mk.injEq] at H; obtain ⟨rfl, rfl⟩ := H; have p223 : 0 ≤ (x26_2 : Int) := dt_; have q223 : x26_2 < (l0.length : Int) := dt_; obtain ⟨ad223, e223, hx223_0, hx223_1, hx223_2⟩ := at_T29 HR0.out x26_2 p223 q223
           cases e223
           replace hx223_0 := bc_ HB.out hx223_0; replace hx223_1 := bc_ HB.out hx223_1; replace hx223_2 := bc_ HB.out hx223_2; replace p223 := eq_true p223; replace q223 := eq_true q223
           try go_wp2_with (first | ((with_reducible refine gate_dst (N := 8) rfl ?_); (try (refine gate_guard (by rfl) ?_; dsimp only)); refine box_event ?hg (N := 8) ?hd (cs := #[.string (⟨#[]⟩ : ByteArray), .int .i64 0, .int .i64 0]) (t := 29) ?hr ?_; (case hd => rfl); (case hg => rfl); (case hr => first | (go_simp; done) | (go_simp; rfl)); intro gb224 hg w59 hbox hb; replace HO_6 := Aside0.mk (Kd.R_below (kr_ HO_6.out) hb); have BK224 := Aside0.mk (hbox); have GW224 := Aside0.mk ((bz_ hg (lb0_ HB.out))); have GE224 := Aside0.mk ((bz_ hg (lb0_ HB.out))); replace HB := Aside0.mk (below_step (lb0_ HB.out) hb); clear hb hbox hg; obtain ⟨hcz60_0, hcz60_1, hcz60_2⟩ := cz3_ BK224.out; obtain ⟨hfz60_0, hfz60_1, hfz60_2⟩ := fz3_ BK224.out))
           have n0_ : Aside0 (Kd.R k26 26 (((w59.setCell ⟨gb224, 0, none⟩ (.string ((rd_T29 l0 x26_2).f0))).setCell ⟨gb224, 1, none⟩ (.int .i64 ((rd_T29 l0 x26_2).f1))).setCell ⟨gb224, 2, none⟩ (.int .i64 ((rd_T29 l0 x26_2).f2))) w.heap.size (fun _ => True) u6 x6_2) := ⟨Kd.R_mono (r3_ HO_6.out BK224.out (by decide) _ _ _) (fun _ hk => trivial)⟩
           have n1_ : Aside0 ((((w59.setCell ⟨gb224, 0, none⟩ (.string ((rd_T29 l0 x26_2).f0))).setCell ⟨gb224, 1, none⟩ (.int .i64 ((rd_T29 l0 x26_2).f1))).setCell ⟨gb224, 2, none⟩ (.int .i64 ((rd_T29 l0 x26_2).f2))).heap[gb224]? = some (.cells #[.string ((rd_T29 l0 x26_2).f0), .int .i64 ((rd_T29 l0 x26_2).f1), .int .i64 ((rd_T29 l0 x26_2).f2)] 29 (0, 0))) := ⟨by exact (p3_ BK224.out _ _ _)⟩
           have n2_ : Aside0 (Below w.heap.size w (((w59.setCell ⟨gb224, 0, none⟩ (.string ((rd_T29 l0 x26_2).f0))).setCell ⟨gb224, 1, none⟩ (.int .i64 ((rd_T29 l0 x26_2).f1))).setCell ⟨gb224, 2, none⟩ (.int .i64 ((rd_T29 l0 x26_2).f2)))) := ⟨lb1_ HB.out GE224.out⟩
           (try clear HO_6); (try clear BK224); (try clear HB); generalize (((w59.setCell ⟨gb224, 0, none⟩ (.string ((rd_T29 l0 x26_2).f0))).setCell ⟨gb224, 1, none⟩ (.int .i64 ((rd_T29 l0 x26_2).f1))).setCell ⟨gb224, 2, none⟩ (.int .i64 ((rd_T29 l0 x26_2).f2))) = w61 at n0_ n1_ n2_ ⊢; have HO_6 := n0_; have BK224 := n1_; have HB := n2_; clear n0_ n1_ n2_; replace HO_6 := Aside0.mk (Kd.R_drew HO_6.out); replace BK224 := Aside0.mk (blk_drew BK224.out); replace HB := Aside0.mk (below_drew1 HB.out); have p225 : 0 ≤ (x26_2 : Int) := dt_; have q225 : x26_2 < (l1.length : Int) := dt_; obtain ⟨ad225, e225, hx225_0⟩ := Kd.at_int HR1.out x26_2 p225 q225; have hw225_0 := hx225_0
           cases e225
           replace hx225_0 := bc_ HB.out hx225_0; replace p225 := eq_true p225; replace q225 := eq_true q225; refine start_ (n := 8) (S := fun w' => w'.cell? ⟨gb224, 0, none⟩ = some (.string ((rd_T29 l0 x26_2).f0)) ∧ w'.cell? ⟨gb224, 1, none⟩ = some (.int .i64 ((rd_T29 l0 x26_2).f1)) ∧ w'.cell? ⟨gb224, 2, none⟩ = some (.int .i64 ((rd_T29 l0 x26_2).f2)) ∧ w'.cell? (ad225.add (x26_2).toNat) = some (.int .i64 (rd l1 x26_2))) (ds := []) #[fF,fF,fF,fF,fF,fF,fF,fF] (by kernel_rfl) rfl rfl ⟨(blk_cell BK224.out 0).trans rfl, (blk_cell BK224.out 1).trans rfl, (blk_cell BK224.out 2).trans rfl, (bc_ HB.out hw225_0)⟩ (fun hHeld => ?_); refine with_tabW impl_IsPlacing.tab7 impl_IsPlacing.bits7 (fun HT_ HW_ => ?_); generalize w61.drew = w62 at HO_6 BK224 HB hx225_0 hHeld ⊢; refine pz_ HT_ 1 (some 32) #[fF,tT,fF,fF,fF,fF,fF,fF] ?_; refine pz_ HT_ 2 (some 33) #[fF,tT,tT,fF,fF,fF,fF,fF] ?_; refine pz_ HT_ 3 (some 34) #[fF,tT,tT,tT,fF,fF,fF,fF] ?_; refine tk_ HT_ HW_ hHeld 0 (some 31) #[tT,tT,tT,tT,fF,fF,fF,fF] ?_; refine tk_ HT_ HW_ hHeld 4 (some 35) #[tT,tT,tT,tT,tT,fF,fF,fF] ?_; refine join_ (σ := Nat) 1 #[tT,tT,tT,tT,tT,tT,tT,fF] (fun s_ => [(36, .agg #[.int .i64 t226, .int .i64 t227, .int .i64 t228, .int .i64 t229]), (9, .pointer (some ⟨s_, 0, none⟩))]) (fun s_ w' => (w'.cell? ⟨gb224, 0, none⟩ = some (.string ((rd_T29 l0 x26_2).f0)) ∧ w'.cell? ⟨gb224, 1, none⟩ = some (.int .i64 ((rd_T29 l0 x26_2).f1)) ∧ w'.cell? ⟨gb224, 2, none⟩ = some (.int .i64 ((rd_T29 l0 x26_2).f2)) ∧ w'.cell? (ad225.add (x26_2).toNat) = some (.int .i64 (rd l1 x26_2))) ∧ (Kd.R k26 26 w' w.heap.size (fun k_ => k_ ≠ s_) u6 x6_2) ∧ (w'.heap[gb224]? = some (.cells #[.string ((rd_T29 l0 x26_2).f0), .int .i64 ((rd_T29 l0 x26_2).f1), .int .i64 ((rd_T29 l0 x26_2).f2)] 29 (0, 0))) ∧ (w'.heap[s_]? = some (.cells #[.int .i64 0, .int .i64 0, .int .i64 0, .int .i64 0] 26 (0, 0))) ∧ (w.heap.size ≤ s_) ∧ (w.heap.size ≤ s_) ∧ (gb224 ≠ s_) ∧ (s_ ≠ gb224) ∧ (Below w.heap.size w w')) ?_ ?_; rotate_left
           ·
            intro hCont; refine two_ (i := 5) (j := 6) (Ni := some 36) (Nj := some 9) #[tT,tT,tT,tT,tT,tT,fF,fF] #[tT,tT,tT,tT,tT,fF,tT,fF] rfl rfl rfl rfl (two_of HT_.out (by kernel_rfl)) (by decide) (by decide) (fun K hK => ?_) (fun K hK => ?_)
            ·
             skip; refine gs_ Tryd.func59 #[.agg #[.string ((rd_T29 l0 x26_2).f0), .int .i64 ((rd_T29 l0 x26_2).f1), .int .i64 ((rd_T29 l0 x26_2).f2)], .int .i64 (rd l1 x26_2)] ?_; (with_reducible refine (impl_boxFor.calls ((rd_T29 l0 x26_2).f0) ((rd_T29 l0 x26_2).f1) ((rd_T29 l0 x26_2).f2) (rd l1 x26_2) t226 t227 t228 t229 _ A17.out).mono ?_); rintro e w63 ⟨rfl, hb⟩; refine ⟨_, rfl, ?_⟩; replace HO_6 := Aside0.mk (Kd.R_below (kr_ HO_6.out) hb); replace BK224 := Aside0.mk (bb_ (bk_ BK224.out) hb); replace HB := Aside0.mk (below_step (lb1_ HB.out GE224.out) hb); (try clear hb); (try clear hb2); (try clear hk); (try clear hi); refine hK.out _ _ ⟨(blk_cell BK224.out 0).trans rfl, (blk_cell BK224.out 1).trans rfl, (blk_cell BK224.out 2).trans rfl, ((HB.out.cell (World.block_lt_of_cell? w _ hw225_0)).trans hw225_0)⟩ (fun hHeld => ?_); clear hK K; refine na_ ?_; refine one_ (i := 6) (N := some 9) #[tT,tT,tT,tT,tT,tT,tT,fF] rfl rfl (one_of HT_.out (by kernel_rfl)) (by decide) (fun K hK => ?_); refine box_step ?hg (N := 9) ?hd (cs := #[.int .i64 0, .int .i64 0, .int .i64 0, .int .i64 0]) (t := 26) ?hr ?_; (case hd => rfl); (case hg => rfl); (case hr => first | (go_simp; done) | (go_simp; rfl)); intro gb230 hg w64 hbox hb; replace HO_6 := Aside0.mk (Kd.R_below (Kd.R_elderB (kr_ HO_6.out) gb230 (Nat.le_of_eq hg.symm)) hb); have BK230 := Aside0.mk (hbox); have GW230 := Aside0.mk ((bz_ hg (lb1_ HB.out GE224.out))); have GE230 := Aside0.mk ((bz_ hg (lb1_ HB.out GE224.out))); replace HB := Aside0.mk (below_step (lb1_ HB.out GE224.out) hb); have NB224_230 := Aside0.mk (nl_ hg BK224.out); have NB230_224 := Aside0.mk (ng_ hg BK224.out); replace BK224 := Aside0.mk (bb_ (bk_ BK224.out) hb); clear hb hbox hg; refine hK.out _ _ ⟨(blk_cell BK224.out 0).trans rfl, (blk_cell BK224.out 1).trans rfl, (blk_cell BK224.out 2).trans rfl, ((HB.out.cell (World.block_lt_of_cell? w _ hw225_0)).trans hw225_0)⟩ (fun hHeld => ?_); clear hK K; refine na_ ?_; exact norm_ (by simp only [putAll, Act.put, List.setIfInBounds_toArray, List.set_cons_zero, List.set_cons_succ]) (hCont (gb230) _ ⟨hHeld, (krm_ HO_6.out (fun _ hk => hk.2)), (bk_ BK224.out), (bk_ BK230.out), GW230.out, GE230.out, NB224_230.out, NB230_224.out, (lb2_ HB.out GE224.out GE230.out)⟩)
            ·
             skip; refine box_step ?hg (N := 9) ?hd (cs := #[.int .i64 0, .int .i64 0, .int .i64 0, .int .i64 0]) (t := 26) ?hr ?_; (case hd => rfl); (case hg => rfl); (case hr => first | (go_simp; done) | (go_simp; rfl)); intro gb230 hg w63 hbox hb; replace HO_6 := Aside0.mk (Kd.R_below (Kd.R_elderB (kr_ HO_6.out) gb230 (Nat.le_of_eq hg.symm)) hb); have BK230 := Aside0.mk (hbox); have GW230 := Aside0.mk ((bz_ hg (lb1_ HB.out GE224.out))); have GE230 := Aside0.mk ((bz_ hg (lb1_ HB.out GE224.out))); replace HB := Aside0.mk (below_step (lb1_ HB.out GE224.out) hb); have NB224_230 := Aside0.mk (nl_ hg BK224.out); have NB230_224 := Aside0.mk (ng_ hg BK224.out); replace BK224 := Aside0.mk (bb_ (bk_ BK224.out) hb); clear hb hbox hg; refine hK.out _ _ ⟨(blk_cell BK224.out 0).trans rfl, (blk_cell BK224.out 1).trans rfl, (blk_cell BK224.out 2).trans rfl, ((HB.out.cell (World.block_lt_of_cell? w _ hw225_0)).trans hw225_0)⟩ (fun hHeld => ?_); clear hK K; refine na_ ?_; refine one_ (i := 5) (N := some 36) #[tT,tT,tT,tT,tT,tT,tT,fF] rfl rfl (one_of HT_.out (by kernel_rfl)) (by decide) (fun K hK => ?_); refine gs_ Tryd.func59 #[.agg #[.string ((rd_T29 l0 x26_2).f0), .int .i64 ((rd_T29 l0 x26_2).f1), .int .i64 ((rd_T29 l0 x26_2).f2)], .int .i64 (rd l1 x26_2)] ?_; (with_reducible refine (impl_boxFor.calls ((rd_T29 l0 x26_2).f0) ((rd_T29 l0 x26_2).f1) ((rd_T29 l0 x26_2).f2) (rd l1 x26_2) t226 t227 t228 t229 _ A17.out).mono ?_); rintro e w64 ⟨rfl, hb⟩; refine ⟨_, rfl, ?_⟩; replace HO_6 := Aside0.mk (Kd.R_below (kr_ HO_6.out) hb); replace BK224 := Aside0.mk (bb_ (bk_ BK224.out) hb); replace BK230 := Aside0.mk (bb_ (bk_ BK230.out) hb); replace HB := Aside0.mk (below_step (lb2_ HB.out GE224.out GE230.out) hb); (try clear hb); (try clear hb2); (try clear hk); (try clear hi); refine hK.out _ _ ⟨(blk_cell BK224.out 0).trans rfl, (blk_cell BK224.out 1).trans rfl, (blk_cell BK224.out 2).trans rfl, ((HB.out.cell (World.block_lt_of_cell? w _ hw225_0)).trans hw225_0)⟩ (fun hHeld => ?_); clear hK K; refine na_ ?_; exact norm_ (by simp only [putAll, Act.put, List.setIfInBounds_toArray, List.set_cons_zero, List.set_cons_succ]) (hCont (gb230) _ ⟨hHeld, (krm_ HO_6.out (fun _ hk => hk.2)), (bk_ BK224.out), (bk_ BK230.out), GW230.out, GE230.out, NB224_230.out, NB230_224.out, (lb2_ HB.out GE224.out GE230.out)⟩)
           rintro gb230 w65 ⟨hS_, h0_, h1_, h2_, h3_, h4_, h5_, h6_, h7_⟩; (try dsimp only at h0_ h1_ h2_ h3_ h4_ h5_ h6_ h7_); replace HO_6 := Aside0.mk h0_; replace BK224 := Aside0.mk h1_; have BK230 := Aside0.mk h2_; have GW230 := Aside0.mk h3_; have GE230 := Aside0.mk h4_; have NB224_230 := Aside0.mk h5_; have NB230_224 := Aside0.mk h6_; replace HB := Aside0.mk h7_; clear h0_ h1_ h2_ h3_ h4_ h5_ h6_ h7_; have hHeld : w65.cell? ⟨gb224, 0, none⟩ = some (.string ((rd_T29 l0 x26_2).f0)) ∧ w65.cell? ⟨gb224, 1, none⟩ = some (.int .i64 ((rd_T29 l0 x26_2).f1)) ∧ w65.cell? ⟨gb224, 2, none⟩ = some (.int .i64 ((rd_T29 l0 x26_2).f2)) ∧ w65.cell? (ad225.add (x26_2).toNat) = some (.int .i64 (rd l1 x26_2)) := hS_; refine nb_ ?_; refine one_ (i := 7) (N := none) #[tT,tT,tT,tT,tT,tT,tT,tT] rfl rfl (one_of HT_.out (by kernel_rfl)) (by decide) (fun K hK => ?_); have hs66 : w65.cell? ⟨gb230, 0, none⟩ = some (.int .i64 0) := (blk_cell BK230.out 0).trans rfl; have hfs66 := blk_frozen BK230.out 0; have hns66_0 := NB224_230.out; have hms66_0 := NB230_224.out; have hs67 : w65.cell? ⟨gb230, 1, none⟩ = some (.int .i64 0) := (blk_cell BK230.out 1).trans rfl; have hfs67 := blk_frozen BK230.out 1; have hns67_0 := NB224_230.out; have hms67_0 := NB230_224.out; have hs68 : w65.cell? ⟨gb230, 2, none⟩ = some (.int .i64 0) := (blk_cell BK230.out 2).trans rfl; have hfs68 := blk_frozen BK230.out 2; have hns68_0 := NB224_230.out; have hms68_0 := NB230_224.out; have hs69 : w65.cell? ⟨gb230, 3, none⟩ = some (.int .i64 0) := (blk_cell BK230.out 3).trans rfl; have hfs69 := blk_frozen BK230.out 3; have hns69_0 := NB224_230.out; have hms69_0 := NB230_224.out; refine skip_ (w1 := ?_) (by rfl) rfl ?_ ?_; rotate_left
           ·
            go_simp; rfl
           refine hK.out _ _ ⟨((cell_far (p := ⟨gb230, _, none⟩) NB224_230.out _).trans (((cell_far (p := ⟨gb230, _, none⟩) NB224_230.out _).trans (((cell_far (p := ⟨gb230, _, none⟩) NB224_230.out _).trans (((cell_far (p := ⟨gb230, _, none⟩) NB224_230.out _).trans (hHeld.1)))))))), ((cell_far (p := ⟨gb230, _, none⟩) NB224_230.out _).trans (((cell_far (p := ⟨gb230, _, none⟩) NB224_230.out _).trans (((cell_far (p := ⟨gb230, _, none⟩) NB224_230.out _).trans (((cell_far (p := ⟨gb230, _, none⟩) NB224_230.out _).trans (hHeld.2.1)))))))), ((cell_far (p := ⟨gb230, _, none⟩) NB224_230.out _).trans (((cell_far (p := ⟨gb230, _, none⟩) NB224_230.out _).trans (((cell_far (p := ⟨gb230, _, none⟩) NB224_230.out _).trans (((cell_far (p := ⟨gb230, _, none⟩) NB224_230.out _).trans (hHeld.2.2.1)))))))), ((cell_far (p := ⟨gb230, _, none⟩) (Nat.ne_of_lt (Nat.lt_of_lt_of_le (World.block_lt_of_cell? _ _ hw225_0) GW230.out)) _).trans (((cell_far (p := ⟨gb230, _, none⟩) (Nat.ne_of_lt (Nat.lt_of_lt_of_le (World.block_lt_of_cell? _ _ hw225_0) GW230.out)) _).trans (((cell_far (p := ⟨gb230, _, none⟩) (Nat.ne_of_lt (Nat.lt_of_lt_of_le (World.block_lt_of_cell? _ _ hw225_0) GW230.out)) _).trans (((cell_far (p := ⟨gb230, _, none⟩) (Nat.ne_of_lt (Nat.lt_of_lt_of_le (World.block_lt_of_cell? _ _ hw225_0) GW230.out)) _).trans (hHeld.2.2.2))))))))⟩ (fun hHeld => ?_); clear hK K; refine done_ (done_of HT_.out (by kernel_rfl)) ?_; have hnb70 := NB230_224.out; have hnc70 := NB224_230.out; obtain ⟨hcz71_0, hcz71_1, hcz71_2, hcz71_3⟩ := cz4_ BK230.out; obtain ⟨hfz71_0, hfz71_1, hfz71_2, hfz71_3⟩ := fz4_ BK230.out
           try go_wp2_with (first | ((with_reducible refine gate_callee (f := 67) rfl ?_); refine ga_ (some 39) Tryd.func67 #[.slice (some ad223) l0.length c0, .agg #[.int .i64 t226, .int .i64 t227, .int .i64 t228, .int .i64 t229]] ?_; (with_reducible refine (impl_free.calls _ _ l0 t226 t227 t228 t229 false _ ?side1 ?side2 A18.out).mono ?_); (case side1 => exact Kd.C_below HR0.out (lb2_ HB.out GE224.out GE230.out)); (case side2 => exact HC0.out); rintro e w72 ⟨rfl, hb⟩; refine ⟨_, rfl, ?_⟩; replace HO_6 := Aside0.mk (Kd.R_below (by (with_reducible repeat (first | apply Kd.R_alloc | apply Kd.R_drewN | apply Kd.R_drew)); exact (Kd.R_mono (Kd.R_far (p := ⟨gb230, 3, none⟩) (Kd.R_far (p := ⟨gb230, 2, none⟩) (Kd.R_far (p := ⟨gb230, 1, none⟩) (Kd.R_far (p := ⟨gb230, 0, none⟩) (Kd.R_mono HO_6.out (fun k_ hk => (⟨hk, hk⟩ : _ ∧ k_ ≠ gb230))) (fun _ hk => hk.2) (.int .i64 t226)) (fun _ hk => hk.2) (.int .i64 t227)) (fun _ hk => hk.2) (.int .i64 t228)) (fun _ hk => hk.2) (.int .i64 t229)) (fun _ h_ => h_.1))) hb); replace BK224 := Aside0.mk (blk_below (g := gb224) (o := .cells #[.string ((rd_T29 l0 x26_2).f0), .int .i64 ((rd_T29 l0 x26_2).f1), .int .i64 ((rd_T29 l0 x26_2).f2)] 29 (0, 0)) (by (with_reducible repeat (first | refine blk_drewN ?_ _ | refine blk_drew ?_ | refine blk_alloc ?_ _)); exact (f4_ BK224.out NB224_230.out _ _ _ _)) hb); replace BK230 := Aside0.mk (blk_below (g := gb230) (o := .cells #[.int .i64 t226, .int .i64 t227, .int .i64 t228, .int .i64 t229] 26 (0, 0)) (by (with_reducible repeat (first | refine blk_drewN ?_ _ | refine blk_drew ?_ | refine blk_alloc ?_ _)); exact (p4_ BK230.out _ _ _ _)) hb); replace HB := Aside0.mk (below_step (lb2_ HB.out GE224.out GE230.out) hb); (try clear hb); (try clear hb2); (try clear hk); (try clear hi)))
           go_ret2
           exact ⟨rr_, lb2_ HB.out GE224.out GE230.out⟩
         ·
          rw [if_neg c16] at H
          exact absurd H (by simp)
        ·
         rw [if_neg c15] at H
         exact absurd H (by simp)
       ·
        rw [if_neg c14] at H
        exact absurd H (by simp)
      ·
       rw [if_neg c13] at H
       have c13b0 : decide (x26_2 < (l0.length : Int)) = false := decide_eq_false c13
       clear c13
       simp only [Option.some.injEq, Prod.mk.injEq] at H
       obtain ⟨rfl, rfl⟩ := H
       go_wp2
       go_ret2
       exact ⟨rr_, lb0_ HB.out⟩
end Go.Proofs.YtjkcfpmonpkhhaaDoor.Pr

