/-
What is proved: parts of the law FnExactFirstPlacing: what the functions that it reaches compute, and the plain law.
Conditions: those of each theorem.
-/
import Derived.ChangeArms
import Derived.ChangeSlices
import Derived.Deep.Slices
import Derived.KernelRfl
import Derived.RowKit
import Derived.SizedLaws
import Derived.WideShapes
import Derived.Test.YtjkcfpmonpkhhaaDoorCFnExactFirstPlacing1
namespace Go.Proofs.YtjkcfpmonpkhhaaDoor.Pr
open Go.RowKit Go.Proofs.YtjkcfpmonpkhhaaDoorW.PrintWords Go.Proofs.YtjkcfpmonpkhhaaDoorW.PrintLast Go.Proofs.YtjkcfpmonpkhhaaDoorW.PrintMore
attribute [local go_sem] max2_int min2_int max_two min_two max_three min_three max_four min_four   -- for this text's walks alone
set_option linter.unusedVariables false
set_option linter.unusedSimpArgs false
def idxP {α : Type} (p : α → Bool) (l : List α) : Int := if l.any p then (l.findIdx p : Int) else -1
theorem idxP_hit {α : Type} (p : α → Bool) (z : α) (l : List α) (k : Nat) (hk : k < l.length) (h : p (l.getD k z) = true) (hb : ∀ j, j < k → p (l.getD j z) = false) : idxP p l = k := by
 have hf : l.findIdx p = k := by
  rw [List.findIdx_eq hk]
  refine ⟨by rw [List.getD_eq_getElem?_getD, List.getElem?_eq_getElem hk] at h; exact h, fun j hj => ?_⟩
  have := hb j hj
  rw [List.getD_eq_getElem?_getD, List.getElem?_eq_getElem (by omega)] at this
  exact this
 unfold idxP
 rw [if_pos, hf]
 rw [List.any_eq_true]
 refine ⟨l[k], List.getElem_mem hk, ?_⟩
 rw [List.getD_eq_getElem?_getD, List.getElem?_eq_getElem hk] at h
 exact h
theorem idxP_miss {α : Type} (p : α → Bool) (z : α) (l : List α) (hb : ∀ j, j < l.length → p (l.getD j z) = false) : idxP p l = -1 := by
 unfold idxP
 rw [if_neg]
 rw [List.any_eq_true]
 rintro ⟨x, hx, hp⟩
 obtain ⟨j, hj, rfl⟩ := List.mem_iff_getElem.1 hx
 have := hb j hj
 rw [List.getD_eq_getElem?_getD, List.getElem?_eq_getElem hj] at this
 rw [show (some l[j]).getD z = l[j] from rfl, hp] at this
 cases this
theorem idxP_any {α : Type} (p : α → Bool) (l : List α) : decide (0 ≤ idxP p l) = l.any p := by
 unfold idxP
 split
 ·
  rename_i h
  rw [h]
  simp
 ·
  rename_i h
  rw [Bool.eq_false_iff.mpr h]
  rfl
set_option maxHeartbeats 4000000 in
theorem idx_Label.calls (p : S29 → Bool) (g : Nat) (lb : Array Value) (eg : ∀ args w, (callFunc g args).run Tryd.prog w = .ok (.enter g args) w) (A0 : Option Addr) (c0 : Nat) (l0 : List S29) (w : World) (hr0 : Kd.C k29 w A0 l0.length l0) (hc0 : l0.length ≤ c0)
  (hp : ∀ (W : World) (x : S29), x ∈ l0 → Below w.heap.size w W → Calls Tryd.prog g (#[.agg #[.string x.f0, .int .i64 x.f1, .int .i64 x.f2]] ++ lb) W fun e w' => e = .returned (.bool (p x)) ∧ Below w.heap.size w w') :
  Calls Tryd.prog 96 #[.slice A0 l0.length c0, .func (.func g) #[] lb] w fun e w' => e = .returned (.int .i64 (idxP p l0)) ∧ Below w.heap.size w w' := by
 have hL : l0.length ≤ 9223372036854775807 := hr0.2.1
 have HP := Aside0.mk hp
 have HR := Aside0.mk hr0
 clear hp hr0
 go_enter Tryd.func96, Tryd.ntmps96
 go_wp2
 go_loopg [5, 8] l0.length (fun gg _ s8 wr => ∃ kk : Nat, kk ≤ l0.length ∧ l0.length - kk ≤ gg ∧ s8 = .int .i64 kk ∧ Aside0 (Below w.heap.size w wr) ∧ Aside0 (∀ j, j < kk → p (l0.getD j z29) = false))
 case atStart => exact ⟨0, Nat.zero_le _, by omega, rfl, ⟨Below.refl _ w⟩, ⟨fun j hj => absurd hj (Nat.not_lt_zero _)⟩⟩
 case round =>
  obtain ⟨kk, hkk, hg, rfl, BW, AA⟩ := hrel
  by_cases hlt : kk < l0.length
  ·
   have hltz : (kk : Int) < (l0.length : Int) := by omega
   have hk0 : (0 : Int) ≤ (kk : Int) := by omega
   obtain ⟨ad, e0, hx0, hx1, hx2⟩ := at_T29 HR.out (kk : Int) hk0 hltz
   replace hx0 := (BW.out.cell (World.block_lt_of_cell? w _ hx0)).trans hx0
   replace hx1 := (BW.out.cell (World.block_lt_of_cell? w _ hx1)).trans hx1
   replace hx2 := (BW.out.cell (World.block_lt_of_cell? w _ hx2)).trans hx2
   have hm : rd_T29 l0 (kk : Int) ∈ l0 := by
    show l0.getD (kk : Int).toNat _ ∈ l0
    rw [Int.toNat_natCast, List.getD_eq_getElem?_getD, List.getElem?_eq_getElem hlt]
    exact List.getElem_mem hlt
   have hcall := HP.out wr (rd_T29 l0 (kk : Int)) hm BW.out
   have hpk : Aside0 (p (rd_T29 l0 (kk : Int)) = p (l0.getD kk z29)) := ⟨rfl⟩
   clear hm
   generalize rd_T29 l0 (kk : Int) = y at hx0 hx1 hx2 hcall hpk
   subst e0
   rw [Int.toNat_natCast] at hx0 hx1 hx2
   cases hq : p y with
   | true =>
    rw [hq] at hcall
    go_wp2_with (go_at_fn g; refine hcall.mono ?_; rintro e w' ⟨rfl, hb'⟩)
    go_ret
    refine ⟨?_, hb'⟩
    rw [idxP_hit p z29 l0 kk hlt (hpk.out.symm.trans hq) AA.out]
    rfl
   | false =>
    rw [hq] at hcall
    go_wp2_with (go_at_fn g; refine hcall.mono ?_; rintro e w' ⟨rfl, hb'⟩)
    go_roundg (l0.length - (kk + 1))
    case measure => omega
    case rel =>
     refine ⟨kk + 1, by omega, by omega, by go_num, ⟨hb'⟩, ⟨fun j hj => ?_⟩⟩
     by_cases e : j = kk
     ·
      subst e
      exact hpk.out.symm.trans hq
     ·
      exact AA.out j (by omega)
  ·
   have hltz : ¬ (kk : Int) < (l0.length : Int) := by omega
   have hkl : kk = l0.length := by omega
   go_wp2
   go_ret
   refine ⟨?_, BW.out⟩
   rw [idxP_miss p z29 l0 (fun j hj => AA.out j (by omega))]
   rfl
set_option maxHeartbeats 4000000 in
theorem cont_Label.calls (p : S29 → Bool) (g : Nat) (lb : Array Value) (eg : ∀ args w, (callFunc g args).run Tryd.prog w = .ok (.enter g args) w) (A0 : Option Addr) (c0 : Nat) (l0 : List S29) (w : World) (hr0 : Kd.C k29 w A0 l0.length l0) (hc0 : l0.length ≤ c0)
  (hp : ∀ (W : World) (x : S29), x ∈ l0 → Below w.heap.size w W → Calls Tryd.prog g (#[.agg #[.string x.f0, .int .i64 x.f1, .int .i64 x.f2]] ++ lb) W fun e w' => e = .returned (.bool (p x)) ∧ Below w.heap.size w w') :
  Calls Tryd.prog 61 #[.slice A0 l0.length c0, .func (.func g) #[] lb] w fun e w' => e = .returned (.bool (l0.any p)) ∧ Below w.heap.size w w' := by
 rw [← idxP_any p l0]
 have hcon := idx_Label.calls p g lb eg A0 c0 l0 w hr0 hc0 hp
 generalize idxP p l0 = r at hcon ⊢
 have HC := Aside0.mk hcon
 clear hcon hp hr0
 go_enter Tryd.func61, Tryd.ntmps61
 go_wp2_with (go_at_call 96; refine HC.out.mono ?_; rintro e w' ⟨rfl, hb'⟩)
 go_ret
 exact ⟨rfl, hb'⟩
set_option maxHeartbeats 4000000 in
theorem idx_Box.calls (p : S26 → Bool) (g : Nat) (lb : Array Value) (eg : ∀ args w, (callFunc g args).run Tryd.prog w = .ok (.enter g args) w) (A0 : Option Addr) (c0 : Nat) (l0 : List S26) (w : World) (hr0 : Kd.C k26 w A0 l0.length l0) (hc0 : l0.length ≤ c0)
  (hp : ∀ (W : World) (x : S26), x ∈ l0 → Below w.heap.size w W → Calls Tryd.prog g (#[.agg #[.int .i64 x.f0, .int .i64 x.f1, .int .i64 x.f2, .int .i64 x.f3]] ++ lb) W fun e w' => e = .returned (.bool (p x)) ∧ Below w.heap.size w w') :
  Calls Tryd.prog 100 #[.slice A0 l0.length c0, .func (.func g) #[] lb] w fun e w' => e = .returned (.int .i64 (idxP p l0)) ∧ Below w.heap.size w w' := by
 have hL : l0.length ≤ 9223372036854775807 := hr0.2.1
 have HP := Aside0.mk hp
 have HR := Aside0.mk hr0
 clear hp hr0
 go_enter Tryd.func100, Tryd.ntmps100
 go_wp2
 go_loopg [5, 8] l0.length (fun gg _ s8 wr => ∃ kk : Nat, kk ≤ l0.length ∧ l0.length - kk ≤ gg ∧ s8 = .int .i64 kk ∧ Aside0 (Below w.heap.size w wr) ∧ Aside0 (∀ j, j < kk → p (l0.getD j z26) = false))
 case atStart => exact ⟨0, Nat.zero_le _, by omega, rfl, ⟨Below.refl _ w⟩, ⟨fun j hj => absurd hj (Nat.not_lt_zero _)⟩⟩
 case round =>
  obtain ⟨kk, hkk, hg, rfl, BW, AA⟩ := hrel
  by_cases hlt : kk < l0.length
  ·
   have hltz : (kk : Int) < (l0.length : Int) := by omega
   have hk0 : (0 : Int) ≤ (kk : Int) := by omega
   obtain ⟨ad, e0, hx0, hx1, hx2, hx3⟩ := at_T26 HR.out (kk : Int) hk0 hltz
   replace hx0 := (BW.out.cell (World.block_lt_of_cell? w _ hx0)).trans hx0
   replace hx1 := (BW.out.cell (World.block_lt_of_cell? w _ hx1)).trans hx1
   replace hx2 := (BW.out.cell (World.block_lt_of_cell? w _ hx2)).trans hx2
   replace hx3 := (BW.out.cell (World.block_lt_of_cell? w _ hx3)).trans hx3
   have hm : rd_T26 l0 (kk : Int) ∈ l0 := by
    show l0.getD (kk : Int).toNat _ ∈ l0
    rw [Int.toNat_natCast, List.getD_eq_getElem?_getD, List.getElem?_eq_getElem hlt]
    exact List.getElem_mem hlt
   have hcall := HP.out wr (rd_T26 l0 (kk : Int)) hm BW.out
   have hpk : Aside0 (p (rd_T26 l0 (kk : Int)) = p (l0.getD kk z26)) := ⟨rfl⟩
   clear hm
   generalize rd_T26 l0 (kk : Int) = y at hx0 hx1 hx2 hx3 hcall hpk
   subst e0
   rw [Int.toNat_natCast] at hx0 hx1 hx2 hx3
   cases hq : p y with
   | true =>
    rw [hq] at hcall
    go_wp2_with (go_at_fn g; refine hcall.mono ?_; rintro e w' ⟨rfl, hb'⟩)
    go_ret
    refine ⟨?_, hb'⟩
    rw [idxP_hit p z26 l0 kk hlt (hpk.out.symm.trans hq) AA.out]
    rfl
   | false =>
    rw [hq] at hcall
    go_wp2_with (go_at_fn g; refine hcall.mono ?_; rintro e w' ⟨rfl, hb'⟩)
    go_roundg (l0.length - (kk + 1))
    case measure => omega
    case rel =>
     refine ⟨kk + 1, by omega, by omega, by go_num, ⟨hb'⟩, ⟨fun j hj => ?_⟩⟩
     by_cases e : j = kk
     ·
      subst e
      exact hpk.out.symm.trans hq
     ·
      exact AA.out j (by omega)
  ·
   have hltz : ¬ (kk : Int) < (l0.length : Int) := by omega
   have hkl : kk = l0.length := by omega
   go_wp2
   go_ret
   refine ⟨?_, BW.out⟩
   rw [idxP_miss p z26 l0 (fun j hj => AA.out j (by omega))]
   rfl
set_option maxHeartbeats 4000000 in
theorem cont_Box.calls (p : S26 → Bool) (g : Nat) (lb : Array Value) (eg : ∀ args w, (callFunc g args).run Tryd.prog w = .ok (.enter g args) w) (A0 : Option Addr) (c0 : Nat) (l0 : List S26) (w : World) (hr0 : Kd.C k26 w A0 l0.length l0) (hc0 : l0.length ≤ c0)
  (hp : ∀ (W : World) (x : S26), x ∈ l0 → Below w.heap.size w W → Calls Tryd.prog g (#[.agg #[.int .i64 x.f0, .int .i64 x.f1, .int .i64 x.f2, .int .i64 x.f3]] ++ lb) W fun e w' => e = .returned (.bool (p x)) ∧ Below w.heap.size w w') :
  Calls Tryd.prog 68 #[.slice A0 l0.length c0, .func (.func g) #[] lb] w fun e w' => e = .returned (.bool (l0.any p)) ∧ Below w.heap.size w w' := by
 rw [← idxP_any p l0]
 have hcon := idx_Box.calls p g lb eg A0 c0 l0 w hr0 hc0 hp
 generalize idxP p l0 = r at hcon ⊢
 have HC := Aside0.mk hcon
 clear hcon hp hr0
 go_enter Tryd.func68, Tryd.ntmps68
 go_wp2_with (go_at_call 100; refine HC.out.mono ?_; rintro e w' ⟨rfl, hb'⟩)
 go_ret
 exact ⟨rfl, hb'⟩
def impl_within.f (a0 : Int) (a1 : Int) (a2 : Int) : Option (Bool) := if a0 ≥ a1 then (some (decide (a0 ≤ a2))) else (some false)
set_option maxHeartbeats 8000000 in
set_option maxRecDepth 100000 in
theorem impl_within.calls (a0 : Int) (a1 : Int) (a2 : Int) (r : Bool) (w : World) (h : impl_within.f a0 a1 a2 = some r) :
  Calls Tryd.prog 73 #[.int .i64 a0, .int .i64 a1, .int .i64 a2] w fun e w' => e = .returned (.bool r) ∧ Drawn0 w w' := by
 have H : (if a0 ≥ a1 then (some (decide (a0 ≤ a2))) else (some false)) = some r := h
 clear h
 by_cases c4 : a0 ≥ a1
 ·
  rw [if_pos c4] at H
  have c4b0 : decide (a1 ≤ a0) = true := decide_eq_true c4
  clear c4
  obtain rfl := Option.some.inj H
  go_enter Tryd.func73, Tryd.ntmps73
  go_wp2
  go_ret
  exact ⟨by first | rfl | (simp; done) | (simp [*]; done), by repeat (first | exact Drawn0.refl _ | apply Drawn0.step)⟩
 ·
  rw [if_neg c4] at H
  have c4b0 : decide (a1 ≤ a0) = false := decide_eq_false c4
  clear c4
  obtain rfl := Option.some.inj H
  go_enter Tryd.func73, Tryd.ntmps73
  go_wp2
  go_ret
  exact ⟨by first | rfl | (simp; done) | (simp [*]; done), by repeat (first | exact Drawn0.refl _ | apply Drawn0.step)⟩
def strings_Trim.f (a0 : ByteArray) (a1 : ByteArray) : Option ByteArray := if a0.size ≤ 9223372036854775807 then (if a1.size < 1000 then (if a1.data.toList.all (fun b => decide (b.toNat < 128)) = true then some ⟨(Lib.trimS a0.data.toList a1.data.toList).toArray⟩ else none) else none) else none
theorem strings_Trim.calls (a0 : ByteArray) (a1 : ByteArray) (r : ByteArray) (w : World) (h : strings_Trim.f a0 a1 = some r) :
  Calls Tryd.prog 109 #[.string a0, .string a1] w fun e w' => e = .returned (.string r) ∧ Below w.heap.size w w' := by
 unfold strings_Trim.f at h
 by_cases h0 : a0.size ≤ 9223372036854775807
 ·
  rw [if_pos h0] at h
  by_cases h1 : a1.size < 1000
  ·
   rw [if_pos h1] at h
   by_cases h2 : a1.data.toList.all (fun b => decide (b.toNat < 128)) = true
   ·
    rw [if_pos h2] at h
    obtain rfl := Option.some.inj h
    exact Any.strings_Trim_laid Tryd.lays160 (by kernel_rfl) a0 a1 w h0 (by omega) (ascii_of_all h2)
   ·
    rw [if_neg h2] at h
    cases h
  ·
   rw [if_neg h1] at h
   cases h
 ·
  rw [if_neg h0] at h
  cases h
def impl_isWord.f (a0 : ByteArray) : Option (Bool) := if (a0.size : Int) ≥ 1 then (if (a0.size : Int) ≤ 10 then ((strings_Trim.f a0 (⟨#[97, 98, 99, 100, 101, 102, 103, 104, 105, 106, 107, 108, 109, 110, 111, 112, 113, 114, 115, 116, 117, 118, 119, 120, 121, 122]⟩ : ByteArray)).bind fun t120 => (some (t120.toList == ([] : List UInt8)))) else (some false)) else (some false)
set_option maxHeartbeats 8000000 in
set_option maxRecDepth 100000 in
theorem impl_isWord.calls (a0 : ByteArray) (r : Bool) (w : World) (h : impl_isWord.f a0 = some r) :
  Calls Tryd.prog 95 #[.string a0] w fun e w' => e = .returned (.bool r) ∧ Below w.heap.size w w' := by
 have HB := Aside0.mk (Below.refl w.heap.size w)
 have H : (if (a0.size : Int) ≥ 1 then (if (a0.size : Int) ≤ 10 then ((strings_Trim.f a0 (⟨#[97, 98, 99, 100, 101, 102, 103, 104, 105, 106, 107, 108, 109, 110, 111, 112, 113, 114, 115, 116, 117, 118, 119, 120, 121, 122]⟩ : ByteArray)).bind fun t120 => (some (t120.toList == ([] : List UInt8)))) else (some false)) else (some false)) = some r := h
 clear h
 by_cases c2 : (a0.size : Int) ≥ 1
 ·
  rw [if_pos c2] at H
  have c2b0 : decide (1 ≤ (a0.size : Int)) = true := decide_eq_true c2
  have c2b1 : decide (1 ≤ a0.size) = true := decide_eq_true (by omega)
  clear c2
  by_cases c3 : (a0.size : Int) ≤ 10
  ·
   rw [if_pos c3] at H
   have c3b0 : decide ((a0.size : Int) ≤ 10) = true := decide_eq_true c3
   have c3b1 : decide (a0.size ≤ 10) = true := decide_eq_true (by omega)
   clear c3
   replace H := Option.bind_eq_some_iff.mp H
   obtain ⟨t120, A40, H⟩ := H
   replace H : (some (t120.toList == ([] : List UInt8))) = some r := H
   have A4 := Aside0.mk A40
   clear A40
   obtain rfl := Option.some.inj H
   go_enter Tryd.func95, Tryd.ntmps95
   go_wp2_with (first | (go_at_call 109; (with_reducible refine (strings_Trim.calls a0 (⟨#[97, 98, 99, 100, 101, 102, 103, 104, 105, 106, 107, 108, 109, 110, 111, 112, 113, 114, 115, 116, 117, 118, 119, 120, 121, 122]⟩ : ByteArray) t120 _ A4.out).mono ?_); rintro e w5 ⟨rfl, hb⟩; replace HB := Aside0.mk (below_step (lb0_ HB.out) hb); (try clear hb); (try clear hb2); (try clear hk); (try clear hi)))
   go_ret
   exact ⟨rr_, lb0_ HB.out⟩
  ·
   rw [if_neg c3] at H
   have c3b0 : decide ((a0.size : Int) ≤ 10) = false := decide_eq_false c3
   have c3b1 : decide (a0.size ≤ 10) = false := decide_eq_false (by omega)
   clear c3
   obtain rfl := Option.some.inj H
   go_enter Tryd.func95, Tryd.ntmps95
   go_wp2
   go_ret
   exact ⟨rr_, lb0_ HB.out⟩
 ·
  rw [if_neg c2] at H
  have c2b0 : decide (1 ≤ (a0.size : Int)) = false := decide_eq_false c2
  have c2b1 : decide (1 ≤ a0.size) = false := decide_eq_false (by omega)
  clear c2
  obtain rfl := Option.some.inj H
  go_enter Tryd.func95, Tryd.ntmps95
  go_wp2
  go_ret
  exact ⟨rr_, lb0_ HB.out⟩
def impl_isLabel.f (a0_0 : ByteArray) (a0_1 : Int) (a0_2 : Int) : Option (Bool) := (impl_isWord.f a0_0).bind fun t122 => (if t122 = true then ((impl_within.f a0_1 0 99).bind fun t123 => (if t123 = true then ((impl_within.f a0_2 0 99).bind fun t124 => (some t124)) else (some false))) else (some false))
set_option maxHeartbeats 8000000 in
set_option maxRecDepth 100000 in
theorem impl_isLabel.calls (a0_0 : ByteArray) (a0_1 : Int) (a0_2 : Int) (r : Bool) (w : World) (h : impl_isLabel.f a0_0 a0_1 a0_2 = some r) :
  Calls Tryd.prog 57 #[.agg #[.string a0_0, .int .i64 a0_1, .int .i64 a0_2]] w fun e w' => e = .returned (.bool r) ∧ Below w.heap.size w w' := by
 have hu29 := Tryd.underlying29
 have HB := Aside0.mk (Below.refl w.heap.size w)
 have H : ((impl_isWord.f a0_0).bind fun t122 => (if t122 = true then ((impl_within.f a0_1 0 99).bind fun t123 => (if t123 = true then ((impl_within.f a0_2 0 99).bind fun t124 => (some t124)) else (some false))) else (some false))) = some r := h
 clear h
 replace H := Option.bind_eq_some_iff.mp H
 obtain ⟨t122, A20, H⟩ := H
 replace H : (if t122 = true then ((impl_within.f a0_1 0 99).bind fun t123 => (if t123 = true then ((impl_within.f a0_2 0 99).bind fun t124 => (some t124)) else (some false))) else (some false)) = some r := H
 have A2 := Aside0.mk A20
 clear A20
 by_cases c3 : t122 = true
 ·
  subst c3
  have H1 : ((impl_within.f a0_1 0 99).bind fun t123 => (if t123 = true then ((impl_within.f a0_2 0 99).bind fun t124 => (some t124)) else (some false))) = some r := by rw [if_pos rfl] at H; exact H
  clear H
  have H := H1
  clear H1
  replace H := Option.bind_eq_some_iff.mp H
  obtain ⟨t123, A40, H⟩ := H
  replace H : (if t123 = true then ((impl_within.f a0_2 0 99).bind fun t124 => (some t124)) else (some false)) = some r := H
  have A4 := Aside0.mk A40
  clear A40
  by_cases c5 : t123 = true
  ·
   subst c5
   have H1 : ((impl_within.f a0_2 0 99).bind fun t124 => (some t124)) = some r := by rw [if_pos rfl] at H; exact H
   clear H
   have H := H1
   clear H1
   replace H := Option.bind_eq_some_iff.mp H
   obtain ⟨t124, A60, H⟩ := H
   replace H : (some t124) = some r := H
   have A6 := Aside0.mk A60
   clear A60
   obtain rfl := Option.some.inj H
   go_enter Tryd.func57, Tryd.ntmps57
   go_wp2_with (first | ((with_reducible refine gate_dst (N := 1) rfl ?_); refine box_event ?hg (N := 1) ?hd (cs := #[.string a0_0, .int .i64 a0_1, .int .i64 a0_2]) (t := 29) ?hr ?_; (case hd => rfl); (case hg => rfl); (case hr => first | (go_simp; done) | (go_simp; rfl)); intro gb121 hg w7 hbox hb; have BK121 := Aside0.mk (hbox); have GW121 := Aside0.mk ((bz_ hg (lb0_ HB.out))); have GE121 := Aside0.mk ((bz_ hg (lb0_ HB.out))); replace HB := Aside0.mk (below_step (lb0_ HB.out) hb); clear hb hbox hg; obtain ⟨hcz8_0, hcz8_1, hcz8_2⟩ := cz3_ BK121.out; obtain ⟨hfz8_0, hfz8_1, hfz8_2⟩ := fz3_ BK121.out) | ((with_reducible refine gate_callee (f := 95) rfl ?_); refine ga_ (some 5) Tryd.func95 #[.string a0_0] ?_; (with_reducible refine (impl_isWord.calls a0_0 true _ A2.out).mono ?_); rintro e w9 ⟨rfl, hb⟩; refine ⟨_, rfl, ?_⟩; replace BK121 := Aside0.mk (bb_ (bk_ BK121.out) hb); replace HB := Aside0.mk (below_step (lb1_ HB.out GE121.out) hb); (try clear hb); (try clear hb2); (try clear hk); (try clear hi); obtain ⟨hcz10_0, hcz10_1, hcz10_2⟩ := cz3_ BK121.out; obtain ⟨hfz10_0, hfz10_1, hfz10_2⟩ := fz3_ BK121.out) | (go_at_call 73; (with_reducible refine (impl_within.calls a0_1 0 99 true _ A4.out).mono ?_); rintro e w' ⟨rfl, ⟨nd, rfl⟩⟩) | (go_at_call 73; (with_reducible refine (impl_within.calls a0_2 0 99 t124 _ A6.out).mono ?_); rintro e w' ⟨rfl, ⟨nd, rfl⟩⟩))
   go_ret
   exact ⟨rr_, lb1_ HB.out GE121.out⟩
  ·
   replace c5 := Bool.eq_false_iff.mpr c5
   subst c5
   have H1 : (some false) = some r := by rw [if_neg (show ¬ (false = true) by decide)] at H; exact H
   clear H
   have H := H1
   clear H1
   obtain rfl := Option.some.inj H
   go_enter Tryd.func57, Tryd.ntmps57
   go_wp2_with (first | ((with_reducible refine gate_dst (N := 1) rfl ?_); refine box_event ?hg (N := 1) ?hd (cs := #[.string a0_0, .int .i64 a0_1, .int .i64 a0_2]) (t := 29) ?hr ?_; (case hd => rfl); (case hg => rfl); (case hr => first | (go_simp; done) | (go_simp; rfl)); intro gb121 hg w11 hbox hb; have BK121 := Aside0.mk (hbox); have GW121 := Aside0.mk ((bz_ hg (lb0_ HB.out))); have GE121 := Aside0.mk ((bz_ hg (lb0_ HB.out))); replace HB := Aside0.mk (below_step (lb0_ HB.out) hb); clear hb hbox hg; obtain ⟨hcz12_0, hcz12_1, hcz12_2⟩ := cz3_ BK121.out; obtain ⟨hfz12_0, hfz12_1, hfz12_2⟩ := fz3_ BK121.out) | ((with_reducible refine gate_callee (f := 95) rfl ?_); refine ga_ (some 5) Tryd.func95 #[.string a0_0] ?_; (with_reducible refine (impl_isWord.calls a0_0 true _ A2.out).mono ?_); rintro e w13 ⟨rfl, hb⟩; refine ⟨_, rfl, ?_⟩; replace BK121 := Aside0.mk (bb_ (bk_ BK121.out) hb); replace HB := Aside0.mk (below_step (lb1_ HB.out GE121.out) hb); (try clear hb); (try clear hb2); (try clear hk); (try clear hi); obtain ⟨hcz14_0, hcz14_1, hcz14_2⟩ := cz3_ BK121.out; obtain ⟨hfz14_0, hfz14_1, hfz14_2⟩ := fz3_ BK121.out) | (go_at_call 73; (with_reducible refine (impl_within.calls a0_1 0 99 false _ A4.out).mono ?_); rintro e w' ⟨rfl, ⟨nd, rfl⟩⟩))
   go_ret
   exact ⟨rr_, lb1_ HB.out GE121.out⟩
 ·
  replace c3 := Bool.eq_false_iff.mpr c3
  subst c3
  have H1 : (some false) = some r := by rw [if_neg (show ¬ (false = true) by decide)] at H; exact H
  clear H
  have H := H1
  clear H1
  obtain rfl := Option.some.inj H
  go_enter Tryd.func57, Tryd.ntmps57
  go_wp2_with (first | ((with_reducible refine gate_dst (N := 1) rfl ?_); refine box_event ?hg (N := 1) ?hd (cs := #[.string a0_0, .int .i64 a0_1, .int .i64 a0_2]) (t := 29) ?hr ?_; (case hd => rfl); (case hg => rfl); (case hr => first | (go_simp; done) | (go_simp; rfl)); intro gb121 hg w15 hbox hb; have BK121 := Aside0.mk (hbox); have GW121 := Aside0.mk ((bz_ hg (lb0_ HB.out))); have GE121 := Aside0.mk ((bz_ hg (lb0_ HB.out))); replace HB := Aside0.mk (below_step (lb0_ HB.out) hb); clear hb hbox hg; obtain ⟨hcz16_0, hcz16_1, hcz16_2⟩ := cz3_ BK121.out; obtain ⟨hfz16_0, hfz16_1, hfz16_2⟩ := fz3_ BK121.out) | ((with_reducible refine gate_callee (f := 95) rfl ?_); refine ga_ (some 5) Tryd.func95 #[.string a0_0] ?_; (with_reducible refine (impl_isWord.calls a0_0 false _ A2.out).mono ?_); rintro e w17 ⟨rfl, hb⟩; refine ⟨_, rfl, ?_⟩; replace BK121 := Aside0.mk (bb_ (bk_ BK121.out) hb); replace HB := Aside0.mk (below_step (lb1_ HB.out GE121.out) hb); (try clear hb); (try clear hb2); (try clear hk); (try clear hi)))
  go_ret
  exact ⟨rr_, lb1_ HB.out GE121.out⟩
theorem areLabels1_ (a0 : ByteArray) (a1 a2 : Int) (r : Bool) (w : World) (h : impl_isLabel.f a0 a1 a2 = some r) :
  Calls Tryd.prog 62 (#[.agg #[.string a0, .int .i64 a1, .int .i64 a2]] ++ #[]) w fun e w' => e = .returned (.bool (!r)) ∧ Below w.heap.size w w' := by
 show Calls Tryd.prog 62 #[.agg #[.string a0, .int .i64 a1, .int .i64 a2]] w _
 go_enter Tryd.func62, Tryd.ntmps62
 go_wp2_with (go_at_call 57; refine (impl_isLabel.calls a0 a1 a2 r _ h).mono ?_; rintro e w' ⟨rfl, hb⟩)
 go_ret
 exact ⟨rfl, by first | exact hb | exact below_step (below_alloc (Below.refl _ w) _) hb⟩
def impl_AreLabels.f (l0 : List S29) : Option Bool :=
 if (l0.length : Int) ≤ 6 then (if l0.all (fun x => (impl_isLabel.f x.f0 x.f1 x.f2).isSome) = true then some (!(l0.any fun x => !((impl_isLabel.f x.f0 x.f1 x.f2).getD false))) else none) else some false
set_option maxHeartbeats 4000000 in
set_option maxRecDepth 100000 in
theorem impl_AreLabels.calls (A0 : Option Addr) (c0 : Nat) (l0 : List S29) (r : Bool) (w : World) (hr0 : Kd.C k29 w A0 l0.length l0) (hc0 : l0.length ≤ c0) (h : impl_AreLabels.f l0 = some r) :
  Calls Tryd.prog 21 #[.slice A0 l0.length c0] w fun e w' => e = .returned (.bool r) ∧ Below w.heap.size w w' := by
 unfold impl_AreLabels.f at h
 by_cases c1 : (l0.length : Int) ≤ 6
 ·
  rw [if_pos c1] at h
  by_cases c2 : l0.all (fun x => (impl_isLabel.f x.f0 x.f1 x.f2).isSome) = true
  ·
   rw [if_pos c2] at h
   have c1b : decide ((l0.length : Int) ≤ 6) = true := decide_eq_true c1
   have hcall := fun W (hW : Below w.heap.size w W) => cont_Label.calls (fun x => !((impl_isLabel.f x.f0 x.f1 x.f2).getD false)) 62 #[] (fun _ _ => rfl) A0 c0 l0 W (Kd.C_below hr0 hW) hc0 (fun W' x hx hW' => by
    obtain ⟨b, hb⟩ := Option.isSome_iff_exists.1 (List.all_eq_true.1 c2 x hx)
    rw [hb]
    refine (areLabels1_ x.f0 x.f1 x.f2 b W' hb).mono ?_
    rintro e w'' ⟨rfl, hb2⟩
    exact ⟨rfl, below_step hW' hb2⟩)
   obtain rfl := Option.some.inj h
   generalize l0.any (fun x => !((impl_isLabel.f x.f0 x.f1 x.f2).getD false)) = q at hcall ⊢
   have HC := Aside0.mk hcall
   clear hcall hr0 c2 c1 h
   go_enter Tryd.func21, Tryd.ntmps21
   go_wp2_with (go_at_call 61; refine (HC.out _ (Below.refl _ _)).mono ?_; rintro e w' ⟨rfl, hb⟩)
   go_ret
   exact ⟨rfl, hb⟩
  ·
   rw [if_neg c2] at h
   cases h
 ·
  rw [if_neg c1] at h
  obtain rfl := Option.some.inj h
  have c1b : decide ((l0.length : Int) ≤ 6) = false := decide_eq_false c1
  clear c1 hr0
  go_enter Tryd.func21, Tryd.ntmps21
  go_wp2
  go_ret
  exact ⟨rfl, Below.refl _ _⟩
def impl_allIndices.l0 : Nat → List Int → Int → Int → Option (List Int)
 | 0, _, _, _ => none
 | k + 1, x3, x5, x6 => if x6 < x5 then (if x3.length < 17592186044416 then (impl_allIndices.l0 k (x3 ++ [x6]) x5 (wrap64 (x6 + 1))) else (none)) else (some x3)
def impl_allIndices.f (k : Nat) (a0 : Int) : Option (List Int) := impl_allIndices.l0 k ([] : List Int) a0 0
set_option maxHeartbeats 8000000 in
set_option maxRecDepth 100000 in
theorem impl_allIndices.calls (k : Nat) (a0 : Int) (r : List Int) (w : World) (h : impl_allIndices.f k a0 = some r) :
  Calls Tryd.prog 78 #[.int .i64 a0] w fun e w' => ∃ v0_ : Value, e = .returned (v0_) ∧ Kd.R (Kd.int .i64) 3 w' w.heap.size (fun _ => True) v0_ r ∧ Below w.heap.size w w' := by
 have HB := Aside0.mk (Below.refl w.heap.size w)
 have H : (impl_allIndices.l0 k ([] : List Int) a0 0) = some r := h
 clear h
 have H' := Aside0.mk H
 clear H
 go_enter Tryd.func78, Tryd.ntmps78
 go_wp2
 go_loopg [3, 6] k (fun kq v3 v6 w' => ∃ (x3_1 : List Int) (x6_1 : Int), v6 = .int .i64 x6_1 ∧ Aside0 (impl_allIndices.l0 kq x3_1 a0 x6_1 = some r) ∧ Aside0 (kq ≤ k) ∧ Aside0 (Kd.R (Kd.int .i64) 3 w' w.heap.size (fun _ => True) v3 x3_1) ∧ Aside0 (Below w.heap.size w w'))
 case atStart => exact ⟨(([] : List Int)), (0), (by first | rfl | (simp; done) | (simp [*]; done)), H', ⟨Nat.le_refl _⟩, ⟨by first | exact Kd.R_nil _ _ _ _ _ | exact Kd.N_nil _ _ _ _ _ | exact Kd.V_nil _ _ _ _ _ | exact Kd.Q_nil _ _ _ _ _ | exact Kd.S_nil _ _ _ _ _⟩, ⟨lb0_ HB.out⟩⟩
 case round =>
  clear H'
  obtain ⟨x3_1, x6_1, rfl, HA, HK1, HO_3, HB⟩ := hrel
  cases gk with
  | zero => exact absurd HA.out (by simp [impl_allIndices.l0])
  | succ k1 =>
   have H := HA.out
   clear HA
   simp only [impl_allIndices.l0] at H
   by_cases c2 : x6_1 < a0
   ·
    rw [if_pos c2] at H
    have c2b0 : decide (x6_1 < a0) = true := decide_eq_true c2
    clear c2
    by_cases c3 : x3_1.length < 17592186044416
    ·
     rw [if_pos c3] at H
     have LMc3 := Aside0.mk c3
     clear c3
     obtain ⟨y443, hy443⟩ : ∃ y_ : List Int, y_ = (x3_1 ++ [x6_1]) := ⟨_, rfl⟩
     replace H : (impl_allIndices.l0 k1 y443 a0 (wrap64 (x6_1 + 1))) = some r := by first | (rw [hy443]; with_reducible exact H) | (have H2_ := (Option.bind_some _ _).symm.trans H; rw [hy443]; with_reducible exact H2_) | (have H2_ := (Option.bind_some _ _).symm.trans H; with_reducible exact H2_) | with_reducible exact H | (rw [hy443]; exact H) | exact H
     have Ny443 := Aside0.mk hy443
     clear hy443
     have H' := Aside0.mk H
     clear H
     go_wp2_with (first | ((with_reducible refine gate_builtin (b := .append) (xs := #[.tmp 9, .tmp 11]) rfl ?_); at_builtin; refine Kd.R_append (Kd.int .i64) (w0 := w) w.heap.size rfl (.tmp 9) (.tmp 11) 40 3 (.int .i64 0) 8 rfl Tryd.underlying40 info3 rfl (by decide) (by omega) u3 x3_1 x6_1 [.int .i64 x6_1] (fun _ => True) (fun _ => False) rfl rfl ?aP (fun _ hk => hk.elim) ?aF ?aO ?aB ?aS ?aL ?_; (case aP => exact rfl); (case aB => exact (lb0_ HB.out)); (case aF => exact (fun _ _ => trivial)); (case aO => exact (kr_ HO_3.out)); (case aS => exact (below_size (lb0_ HB.out))); (case aL => have := LMc3.out; omega); intro v444 w4 ho hb hg hat; rw [← Ny443.out] at ho; replace HB := Aside0.mk (hb); have HO445 := Aside0.mk (ho); clear HO_3; clear ho hb hg hat))
     go_roundg k1
     case measure => have := HK1.out; omega
     case rel => exact ⟨(y443), (wrap64 (x6_1 + 1)), (by first | rfl | (simp; done) | (simp [*]; done)), H', ⟨by have := HK1.out; omega⟩, ⟨kr_ HO445.out⟩, ⟨lb0_ HB.out⟩⟩
    ·
     rw [if_neg c3] at H
     exact absurd H (by simp)
   ·
    rw [if_neg c2] at H
    have c2b0 : decide (x6_1 < a0) = false := decide_eq_false c2
    clear c2
    obtain rfl := Option.some.inj H
    go_wp2
    go_ret
    exact ⟨_, rr_, kr_ HO_3.out, lb0_ HB.out⟩
def catM_ (f : Int → Option (List (List Int))) : List Int → Option (List (List Int))
 | [] => some []
 | x :: xs => (f x).bind fun a => (catM_ f xs).bind fun b => some (a ++ b)
structure FrY (Y : Nat → Prop) (w w' : World) : Prop where
 size : w.heap.size ≤ w'.heap.size
 keep : ∀ k, k < w.heap.size → ¬ Y k → w'.heap[k]? = w.heap[k]?
theorem FrY.below {Y : Nat → Prop} {w w' : World} (h : Below w.heap.size w w') : FrY Y w w' := ⟨h.size, fun k hk _ => h.block k hk⟩
def IdxR (Y : Nat → Prop) (w w0 : World) (vw vi : Value) (idx : List Int) : Prop := (Kd.int .i64).R 3 w w0.heap.size (fun k => ¬ Y k ∧ some k ≠ vw.ownBlock) vi idx ∨ ∃ A c, vi = .slice A idx.length c ∧ idx.length ≤ c ∧ (Kd.int .i64).C w0 A idx.length idx
namespace IdxR
variable {Y Y' : Nat → Prop} {w w1 w0 : World} {vw vw' vi : Value} {idx : List Int}
theorem slice_ (h : IdxR Y w w0 vw vi idx) : ∃ A c, vi = .slice A idx.length c := by
 rcases h with h | ⟨A, c, e, _⟩
 ·
  exact Kd.R_slice h
 ·
  exact ⟨A, c, e⟩
theorem step (h : IdxR Y w w0 vw vi idx) (hm : ∀ k, ¬ Y k → some k ≠ vw.ownBlock → k < w.heap.size → w1.heap[k]? = w.heap[k]?) : IdxR Y w1 w0 vw vi idx := h.elim (fun h => .inl (Kd.R_step h (fun k hk hl => hm k hk.1 hk.2 hl))) .inr
theorem after {v1 : Value} (h : IdxR Y w w0 vw vi idx) (hg : w.grownBy w1 vw.ownBlock) (hat : v1.ownBlock = vw.ownBlock ∨ ∃ b, v1.ownBlock = some b ∧ w.heap.size ≤ b) : IdxR Y w1 w0 v1 vi idx := h.elim (fun h => .inl (Kd.R_after h hg hat)) .inr
theorem other {α : Type} {d : Kd α} {e : Nat} {vb v1 : Value} {ok : Nat → Prop} {xs : List α} (h : IdxR Y w w0 vw vi idx) (hb : d.R e w w0.heap.size ok vb xs) (he : 3 ≠ e) (hg : w.grownBy w1 vb.ownBlock) (hat : v1.ownBlock = vb.ownBlock ∨ ∃ b, v1.ownBlock = some b ∧ w.heap.size ≤ b) : IdxR Y w1 w0 vw vi idx :=
 h.elim (fun h => .inl (Kd.R_mono (Kd.R_after (Kd.R_apart' h (Kd.R_typed hb) (fun q hq => by rw [List.mem_singleton.1 hq]; exact he)) hg hat) (fun k hk => hk.1))) .inr
theorem set_ {g t : Nat} {cells : Array Value} (h : IdxR Y w w0 vw vi idx) (hb : w.heap[g]? = some (.cells cells t (0, 0))) (ht : 3 ≠ t) (u : Value) : IdxR Y (w.setCell ⟨g, 0, none⟩ u) w0 vw vi idx := h.elim (fun h => .inl (Kd.R_set h hb (fun q hq => by rw [List.mem_singleton.1 hq]; exact ht) 0 u)) .inr
theorem imp (h : IdxR Y w w0 vw vi idx) (hY : ∀ k, k < w.heap.size → ¬ Y k → ¬ Y' k) (hv : vw.ownBlock = vw'.ownBlock) : IdxR Y' w w0 vw' vi idx := h.elim (fun h => .inl (Kd.R_mono (Kd.R_bound h) (fun k hk => ⟨hY k hk.2.2.1 hk.1.1, by rw [← hv]; exact hk.1.2⟩))) .inr
theorem at_ {n ci k : Nat} {ai : Addr} {j : Int} (h : IdxR Y w w0 vw (.slice (some ai) n ci) idx) (hB : Below w0.heap.size w0 w) (hk : k < idx.length) (hj : rd idx (k : Int) = j) : w.cell? (ai.add k) = some (.int .i64 j) := by
 rcases h with h | ⟨A, c, e, _, hC⟩
 ·
  obtain ⟨hn, _, hC⟩ := Kd.R_reads' h
  obtain ⟨ad, e, hc⟩ := Kd.at_int hC (k : Int) (by omega) (by omega)
  injection e with e
  subst e
  rw [hj, Int.toNat_natCast] at hc
  exact hc
 ·
  injection e with e1 e2 e3
  subst e1
  obtain ⟨ad, e, hc⟩ := Kd.at_int hC (k : Int) (by omega) (by omega)
  injection e with e
  subst e
  rw [hj, Int.toNat_natCast] at hc
  exact pw_cell_below hB hc
theorem some_ {A : Option Addr} {n ci : Nat} (h : IdxR Y w w0 vw (.slice A n ci) idx) (hp : 0 < idx.length) : ∃ ai, A = some ai := by
 rcases h with h | ⟨A', c, e, _, hC⟩
 ·
  obtain ⟨hn, _, hC⟩ := Kd.R_reads' h
  obtain ⟨ad, e, _⟩ := hC.2.2 (by omega)
  exact ⟨ad, e⟩
 ·
  injection e with e1 e2 e3
  subst e1
  obtain ⟨ad, e, _⟩ := hC.2.2 (by omega)
  exact ⟨ad, e⟩
end IdxR
structure PlS (Y : Nat → Prop) (w w0 : World) (gw gi gy gl gb gf : Nat) (cv vw vi vl cb vb yv fv : Value) (ways idx : List Int) (boxes : List S26) : Prop where
 cw : w.heap[gw]? = some (.cells #[cv] 40 (0, 0))
 ci : w.heap[gi]? = some (.cells #[vi] 40 (0, 0))
 cy : w.heap[gy]? = some (.cells #[yv] 91 (0, 0))
 cl : w.heap[gl]? = some (.cells #[vl] 36 (0, 0))
 cx : w.heap[gb]? = some (.cells #[cb] 79 (0, 0))
 cf : w.heap[gf]? = some (.cells #[fv] 108 (0, 0))
 ne : gi ≠ gw
 bw : w0.heap.size ≤ gw
 bb : w0.heap.size ≤ gb
 yw : ¬ Y gw
 yi : ¬ Y gi
 yy : ¬ Y gy
 yl : ¬ Y gl
 yb : ¬ Y gb
 yf : ¬ Y gf
 ys : ∀ k, Y k → k < w.heap.size
 rI : IdxR Y w w0 vw vi idx
 rW : (Kd.int .i64).R 3 w w0.heap.size (fun k => ¬ Y k) vw ways
 rB : k26.R 26 w w0.heap.size (fun k => ¬ Y k) vb boxes
namespace PlS
variable {Y : Nat → Prop} {w w1 w0 : World} {gw gi gy gl gb gf : Nat} {cv vw vi vl cb vb yv fv : Value} {ways idx : List Int} {boxes : List S26}
theorem fr (h : PlS Y w w0 gw gi gy gl gb gf cv vw vi vl cb vb yv fv ways idx boxes) (hf : FrY Y w w1) : PlS Y w1 w0 gw gi gy gl gb gf cv vw vi vl cb vb yv fv ways idx boxes :=
 ⟨(hf.keep _ (blk_lt h.cw) h.yw).trans h.cw, (hf.keep _ (blk_lt h.ci) h.yi).trans h.ci, (hf.keep _ (blk_lt h.cy) h.yy).trans h.cy, (hf.keep _ (blk_lt h.cl) h.yl).trans h.cl, (hf.keep _ (blk_lt h.cx) h.yb).trans h.cx, (hf.keep _ (blk_lt h.cf) h.yf).trans h.cf,
  h.ne, h.bw, h.bb, h.yw, h.yi, h.yy, h.yl, h.yb, h.yf, fun k hk => Nat.lt_of_lt_of_le (h.ys k hk) hf.size, h.rI.step (fun k hk _ hl => hf.keep k hl hk), Kd.R_step h.rW (fun k hk hl => hf.keep k hl hk), Kd.R_step h.rB (fun k hk hl => hf.keep k hl hk)⟩
theorem below (h : PlS Y w w0 gw gi gy gl gb gf cv vw vi vl cb vb yv fv ways idx boxes) (hb : Below w.heap.size w w1) : PlS Y w1 w0 gw gi gy gl gb gf cv vw vi vl cb vb yv fv ways idx boxes := h.fr (FrY.below hb)
theorem appW {v1 : Value} {ways1 : List Int} (h : PlS Y w w0 gw gi gy gl gb gf cv vw vi vl cb vb yv fv ways idx boxes) (ho : (Kd.int .i64).R 3 w1 w0.heap.size (fun k => ¬ Y k) v1 ways1) (hg : w.grownBy w1 vw.ownBlock) (hat : v1.ownBlock = vw.ownBlock ∨ ∃ b, v1.ownBlock = some b ∧ w.heap.size ≤ b) :
  PlS Y w1 w0 gw gi gy gl gb gf cv v1 vi vl cb vb yv fv ways1 idx boxes := by
 obtain ⟨inner, hw⟩ := Kd.R_own h.rW
 exact ⟨blk_grown h.cw hg (own_ne hw h.cw (by decide)), blk_grown h.ci hg (own_ne hw h.ci (by decide)), blk_grown h.cy hg (own_ne hw h.cy (by decide)), blk_grown h.cl hg (own_ne hw h.cl (by decide)), blk_grown h.cx hg (own_ne hw h.cx (by decide)), blk_grown h.cf hg (own_ne hw h.cf (by decide)),
  h.ne, h.bw, h.bb, h.yw, h.yi, h.yy, h.yl, h.yb, h.yf, fun k hk => Nat.lt_of_lt_of_le (h.ys k hk) hg.size, h.rI.after hg hat, ho, Kd.R_mono (Kd.R_after (Kd.R_apart' h.rB (Kd.R_typed h.rW) (by decide)) hg hat) (fun k hk => hk.1)⟩
theorem appB {v1 : Value} {boxes1 : List S26} (h : PlS Y w w0 gw gi gy gl gb gf cv vw vi vl cb vb yv fv ways idx boxes) (ho : k26.R 26 w1 w0.heap.size (fun k => ¬ Y k) v1 boxes1) (hg : w.grownBy w1 vb.ownBlock) (hat : v1.ownBlock = vb.ownBlock ∨ ∃ b, v1.ownBlock = some b ∧ w.heap.size ≤ b) :
  PlS Y w1 w0 gw gi gy gl gb gf cv vw vi vl cb v1 yv fv ways idx boxes1 := by
 obtain ⟨inner, hw⟩ := Kd.R_own h.rB
 exact ⟨blk_grown h.cw hg (own_ne hw h.cw (by decide)), blk_grown h.ci hg (own_ne hw h.ci (by decide)), blk_grown h.cy hg (own_ne hw h.cy (by decide)), blk_grown h.cl hg (own_ne hw h.cl (by decide)), blk_grown h.cx hg (own_ne hw h.cx (by decide)), blk_grown h.cf hg (own_ne hw h.cf (by decide)),
  h.ne, h.bw, h.bb, h.yw, h.yi, h.yy, h.yl, h.yb, h.yf, fun k hk => Nat.lt_of_lt_of_le (h.ys k hk) hg.size, h.rI.other h.rB (by decide) hg hat, Kd.R_mono (Kd.R_after (Kd.R_apart' h.rW (Kd.R_typed h.rB) (by decide)) hg hat) (fun k hk => hk.1), ho⟩
theorem setW (h : PlS Y w w0 gw gi gy gl gb gf cv vw vi vl cb vb yv fv ways idx boxes) : PlS Y (w.setCell ⟨gw, 0, none⟩ vw) w0 gw gi gy gl gb gf vw vw vi vl cb vb yv fv ways idx boxes :=
 ⟨blk_put h.cw 0 vw rfl, blk_far h.ci h.ne _, blk_far h.cy (blk_ne h.cy h.cw (by decide)) _, blk_far h.cl (blk_ne h.cl h.cw (by decide)) _, blk_far h.cx (blk_ne h.cx h.cw (by decide)) _, blk_far h.cf (blk_ne h.cf h.cw (by decide)) _,
  h.ne, h.bw, h.bb, h.yw, h.yi, h.yy, h.yl, h.yb, h.yf, fun k hk => Nat.lt_of_lt_of_le (h.ys k hk) (KeepBut.set_ (KeepBut.refl w gw none) 0 vw).1, h.rI.set_ h.cw (by decide) vw, Kd.R_set h.rW h.cw (by decide) 0 vw, Kd.R_set h.rB h.cw (by decide) 0 vw⟩
theorem setB (h : PlS Y w w0 gw gi gy gl gb gf cv vw vi vl cb vb yv fv ways idx boxes) : PlS Y (w.setCell ⟨gb, 0, none⟩ vb) w0 gw gi gy gl gb gf cv vw vi vl vb vb yv fv ways idx boxes :=
 ⟨blk_far h.cw (blk_ne h.cw h.cx (by decide)) _, blk_far h.ci (blk_ne h.ci h.cx (by decide)) _, blk_far h.cy (blk_ne h.cy h.cx (by decide)) _, blk_far h.cl (blk_ne h.cl h.cx (by decide)) _, blk_put h.cx 0 vb rfl, blk_far h.cf (blk_ne h.cf h.cx (by decide)) _,
  h.ne, h.bw, h.bb, h.yw, h.yi, h.yy, h.yl, h.yb, h.yf, fun k hk => Nat.lt_of_lt_of_le (h.ys k hk) (KeepBut.set_ (KeepBut.refl w gb none) 0 vb).1, h.rI.set_ h.cx (by decide) vb, Kd.R_set h.rW h.cx (by decide) 0 vb, Kd.R_set h.rB h.cx (by decide) 0 vb⟩
theorem cutW {A : Option Addr} {n m c : Nat} (h : PlS Y w w0 gw gi gy gl gb gf cv (.slice A n c) vi vl cb vb yv fv ways idx boxes) (hm : m ≤ ways.length) : PlS Y w w0 gw gi gy gl gb gf cv (.slice A m c) vi vl cb vb yv fv (ways.take m) idx boxes := by
 have e : (Value.slice A n c).ownBlock = (Value.slice A m c).ownBlock := by cases A <;> rfl
 exact ⟨h.cw, h.ci, h.cy, h.cl, h.cx, h.cf, h.ne, h.bw, h.bb, h.yw, h.yi, h.yy, h.yl, h.yb, h.yf, h.ys, h.rI.imp (fun _ _ hk => hk) e, Kd.R_take h.rW hm, h.rB⟩
theorem cutB {A : Option Addr} {n m c : Nat} (h : PlS Y w w0 gw gi gy gl gb gf cv vw vi vl cb (.slice A n c) yv fv ways idx boxes) (hm : m ≤ boxes.length) : PlS Y w w0 gw gi gy gl gb gf cv vw vi vl cb (.slice A m c) yv fv ways idx (boxes.take m) :=
 ⟨h.cw, h.ci, h.cy, h.cl, h.cx, h.cf, h.ne, h.bw, h.bb, h.yw, h.yi, h.yy, h.yl, h.yb, h.yf, h.ys, h.rI, h.rW, Kd.R_take h.rB hm⟩
end PlS
theorem FrY.of_keep {Y : Nat → Prop} {w w1 : World} {s : Nat} (hk : KeepBut w w1 s none) (hs : Y s) : FrY Y w w1 := ⟨hk.1, fun k hl hY => hk.2 k hl (fun e => hY (e ▸ hs)) (by simp)⟩
theorem keep4_ (w : World) (s : Nat) (u0 u1 u2 u3 : Value) : KeepBut w ((((w.setCell ⟨s, 0, none⟩ u0).setCell ⟨s, 1, none⟩ u1).setCell ⟨s, 2, none⟩ u2).setCell ⟨s, 3, none⟩ u3) s none := KeepBut.set_ (KeepBut.set_ (KeepBut.set_ (KeepBut.set_ (KeepBut.refl _ _ _) 0 _) 1 _) 2 _) 3 _
theorem PlS.grow {Y : Nat → Prop} {w w1 w0 : World} {gw gi gy gl gb gf s : Nat} {cv vw vi vl cb vb yv fv : Value} {ways idx : List Int} {boxes : List S26} (h : PlS Y w w0 gw gi gy gl gb gf cv vw vi vl cb vb yv fv ways idx boxes) (hb : Below w.heap.size w w1) (hs : s = w.heap.size) (hl : s < w1.heap.size) :
  PlS (fun k => Y k ∨ k = s) w1 w0 gw gi gy gl gb gf cv vw vi vl cb vb yv fv ways idx boxes := by
 have h2 := h.below hb
 have nn : ∀ g, ¬ Y g → g < w.heap.size → ¬ (Y g ∨ g = s) := fun g hg hl hh => hh.elim hg (fun e => by omega)
 refine ⟨h2.cw, h2.ci, h2.cy, h2.cl, h2.cx, h2.cf, h2.ne, h2.bw, h2.bb, nn _ h.yw (blk_lt h.cw), nn _ h.yi (blk_lt h.ci), nn _ h.yy (blk_lt h.cy), nn _ h.yl (blk_lt h.cl), nn _ h.yb (blk_lt h.cx), nn _ h.yf (blk_lt h.cf), ?_, ?_, ?_, ?_⟩
 ·
  rintro k (hk | rfl)
  ·
   exact h2.ys k hk
  ·
   exact hl
 ·
  exact (h.rI.imp (fun k hl hk => nn k hk hl) rfl).step (fun k _ _ hl => hb.block k hl)
 ·
  exact Kd.R_below (Kd.R_mono (Kd.R_bound h.rW) (fun k hk => nn k hk.1 hk.2.2.1)) hb
 ·
  exact Kd.R_below (Kd.R_mono (Kd.R_bound h.rB) (fun k hk => nn k hk.1 hk.2.2.1)) hb
theorem PlS.shrink {Y : Nat → Prop} {w w0 : World} {gw gi gy gl gb gf s : Nat} {cv vw vi vl cb vb yv fv : Value} {ways idx : List Int} {boxes : List S26} (h : PlS (fun k => Y k ∨ k = s) w w0 gw gi gy gl gb gf cv vw vi vl cb vb yv fv ways idx boxes) :
  PlS Y w w0 gw gi gy gl gb gf cv vw vi vl cb vb yv fv ways idx boxes :=
 ⟨h.cw, h.ci, h.cy, h.cl, h.cx, h.cf, h.ne, h.bw, h.bb, fun y => h.yw (.inl y), fun y => h.yi (.inl y), fun y => h.yy (.inl y), fun y => h.yl (.inl y), fun y => h.yb (.inl y), fun y => h.yf (.inl y), fun k hk => h.ys k (.inl hk),
  h.rI.imp (fun k _ hk y => hk (.inl y)) rfl, Kd.R_mono h.rW (fun k hk y => hk (.inl y)), Kd.R_mono h.rB (fun k hk y => hk (.inl y))⟩
theorem C_int1_ {w : World} {g : Nat} {x : Int} (h : w.heap[g]? = some (.cells #[.int .i64 x] 3 (0, 0))) : (Kd.int .i64).C w (some ⟨g, 0, none⟩) 1 [x] := by
 refine ⟨rfl, by decide, fun _ => ⟨_, rfl, fun j p hj => ?_⟩⟩
 match j, hj with
 | 0, hj =>
  obtain rfl : x = p := by simpa using hj
  refine ⟨[.int .i64 x], rfl, rfl, fun i u hu => ?_⟩
  rw [show (⟨g, 0, none⟩ : Addr).add (0 * (Kd.int .i64).sz + i) = ⟨g, i, none⟩ from by rw [Nat.zero_mul, Nat.zero_add]; exact add_plain g i, blk_cell h i]
  simpa using hu
theorem C_box1_ {w : World} {g : Nat} {b0 b1 b2 b3 : Int} (h : w.heap[g]? = some (.cells #[.int .i64 b0, .int .i64 b1, .int .i64 b2, .int .i64 b3] 26 (0, 0))) : k26.C w (some ⟨g, 0, none⟩) 1 [⟨b0, b1, b2, b3⟩] := by
 refine ⟨rfl, by decide, fun _ => ⟨_, rfl, fun j p hj => ?_⟩⟩
 match j, hj with
 | 0, hj =>
  obtain rfl : (⟨b0, b1, b2, b3⟩ : S26) = p := by simpa using hj
  refine ⟨[.int .i64 b0, .int .i64 b1, .int .i64 b2, .int .i64 b3], rfl, k26_mk w ⟨b0, b1, b2, b3⟩, fun i u hu => ?_⟩
  rw [show (⟨g, 0, none⟩ : Addr).add (0 * k26.sz + i) = ⟨g, i, none⟩ from by rw [Nat.zero_mul, Nat.zero_add]; exact add_plain g i, blk_cell h i]
  simpa using hu
section
variable {P : Program} {ops : Array Oper} {o : Oper} {a : Act} {Q : Exit → Act → World → Prop} {Kc : Act → World → Prop}
theorem lit_step {W : World} (hw : Region.wanted o (yielded ops a.tmps) = true) {N : Tmp} (_hd : o.dst = some N) {cs : Array Value} {t : TypeId} {n : Nat}
  (hrun : (execOp a.eval o).run P W = .ok (.value (.slice (some ⟨W.heap.size, 0, none⟩) n n)) (W.alloc (.cells cs t)))
  (h : ∀ g, g = W.heap.size → ∀ w1, w1.heap[g]? = some (.cells cs t (0, 0)) → Below W.heap.size W w1 → Kc (a.put o.dst (.slice (some ⟨g, 0, none⟩) n n)) w1) : if Region.wanted o (yielded ops a.tmps) = true then Oper.wp P o a W Kc Q else Kc (a.put o.dst undef) W :=
 event_step hw hrun (h _ rfl _ (blk_new W _) (below_alloc (Below.refl _ _) _))
end
end Go.Proofs.YtjkcfpmonpkhhaaDoor.Pr

namespace Go.Proofs.YtjkcfpmonpkhhaaDoor.Pr
open Go.RowKit Go.Proofs.YtjkcfpmonpkhhaaDoorW.PrintWords Go.Proofs.YtjkcfpmonpkhhaaDoorW.PrintLast Go.Proofs.YtjkcfpmonpkhhaaDoorW.PrintMore
attribute [local go_sem] max2_int min2_int max_two min_two max_three min_three max_four min_four   -- for this text's walks alone
set_option linter.unusedVariables false
set_option linter.unusedSimpArgs false
def impl_boxFor.f (a0_0 : ByteArray) (a0_1 : Int) (a0_2 : Int) (a1 : Int) : Option (Int × Int × Int × Int) :=
 some ((if a1 ≥ 2 then wrap64 (a0_1 - (a0_0.size : Int)) else wrap64 (a0_1 + 1)), (if Int.tmod a1 2 = 1 then wrap64 (a0_2 - 2) else wrap64 (a0_2 + 1)), (a0_0.size : Int), 2)
set_option maxHeartbeats 4000000 in
set_option maxRecDepth 100000 in
theorem impl_boxFor.calls (a0_0 : ByteArray) (a0_1 : Int) (a0_2 : Int) (a1 : Int) (r1 : Int) (r2 : Int) (r3 : Int) (r4 : Int) (w : World) (h : impl_boxFor.f a0_0 a0_1 a0_2 a1 = some (r1, r2, r3, r4)) :
  Calls Tryd.prog 59 #[.agg #[.string a0_0, .int .i64 a0_1, .int .i64 a0_2], .int .i64 a1] w fun e w' => e = .returned (.agg #[.int .i64 r1, .int .i64 r2, .int .i64 r3, .int .i64 r4]) ∧ Below w.heap.size w w' := by
 unfold impl_boxFor.f at h
 simp only [Option.some.injEq, Prod.mk.injEq] at h
 obtain ⟨h1, h2, rfl, rfl⟩ := h
 by_cases c3 : a1 ≥ 2
 ·
  rw [if_pos c3] at h1
  have b3 : decide (2 ≤ a1) = true := decide_eq_true c3
  clear c3
  by_cases c4 : Int.tmod a1 2 = 1
  ·
   rw [if_pos c4] at h2
   have b4 : (Int.tmod a1 2 == 1) = true := beq_iff_eq.mpr c4
   clear c4
   subst h1
   subst h2
   go_enter Tryd.func59, Tryd.ntmps59
   go_wp2_with fail
   exact bodyPost_ret (v := .agg #[.int .i64 (wrap64 (a0_1 - (a0_0.size : Int))), .int .i64 (wrap64 (a0_2 - 2)), .int .i64 (a0_0.size : Int), .int .i64 2]) (by simp [results, Tryd.results59, go_sem]) rfl ⟨rfl, below_alloc (below_alloc (below_alloc (Below.refl _ w) _) _) _⟩
  ·
   rw [if_neg c4] at h2
   have b4 : (Int.tmod a1 2 == 1) = false := beq_eq_false_iff_ne.mpr c4
   clear c4
   subst h1
   subst h2
   go_enter Tryd.func59, Tryd.ntmps59
   go_wp2_with fail
   exact bodyPost_ret (v := .agg #[.int .i64 (wrap64 (a0_1 - (a0_0.size : Int))), .int .i64 (wrap64 (a0_2 + 1)), .int .i64 (a0_0.size : Int), .int .i64 2]) (by simp [results, Tryd.results59, go_sem]) rfl ⟨rfl, below_alloc (below_alloc (below_alloc (Below.refl _ w) _) _) _⟩
 ·
  rw [if_neg c3] at h1
  have b3 : decide (2 ≤ a1) = false := decide_eq_false c3
  clear c3
  by_cases c4 : Int.tmod a1 2 = 1
  ·
   rw [if_pos c4] at h2
   have b4 : (Int.tmod a1 2 == 1) = true := beq_iff_eq.mpr c4
   clear c4
   subst h1
   subst h2
   go_enter Tryd.func59, Tryd.ntmps59
   go_wp2_with fail
   exact bodyPost_ret (v := .agg #[.int .i64 (wrap64 (a0_1 + 1)), .int .i64 (wrap64 (a0_2 - 2)), .int .i64 (a0_0.size : Int), .int .i64 2]) (by simp [results, Tryd.results59, go_sem]) rfl ⟨rfl, below_alloc (below_alloc (below_alloc (Below.refl _ w) _) _) _⟩
  ·
   rw [if_neg c4] at h2
   have b4 : (Int.tmod a1 2 == 1) = false := beq_eq_false_iff_ne.mpr c4
   clear c4
   subst h1
   subst h2
   go_enter Tryd.func59, Tryd.ntmps59
   go_wp2_with fail
   exact bodyPost_ret (v := .agg #[.int .i64 (wrap64 (a0_1 + 1)), .int .i64 (wrap64 (a0_2 + 1)), .int .i64 (a0_0.size : Int), .int .i64 2]) (by simp [results, Tryd.results59, go_sem]) rfl ⟨rfl, below_alloc (below_alloc (below_alloc (Below.refl _ w) _) _) _⟩
theorem heap_new_ (w : World) (cs : Array Value) (t : TypeId) : (w.alloc (.cells cs t)).heap[w.heap.size]? = some (.cells cs t (0, 0)) := by
 show (w.heap.push _)[w.heap.size]? = _
 simp
def impl_meet.f (a0_0 : Int) (a0_1 : Int) (a0_2 : Int) (a0_3 : Int) (a1_0 : Int) (a1_1 : Int) (a1_2 : Int) (a1_3 : Int) : Option (Bool) := if a0_2 = 0 then (some false) else (if a0_3 = 0 then (some false) else (if a1_2 = 0 then (some false) else (if a1_3 = 0 then (some false) else (if a0_0 < (wrap64 (a1_0 + a1_2)) then (if a1_0 < (wrap64 (a0_0 + a0_2)) then (if a0_1 < (wrap64 (a1_1 + a1_3)) then (some (decide (a1_1 < (wrap64 (a0_1 + a0_3))))) else (some false)) else (some false)) else (some false)))))
set_option maxHeartbeats 8000000 in
set_option maxRecDepth 100000 in
theorem impl_meet.calls (a0_0 : Int) (a0_1 : Int) (a0_2 : Int) (a0_3 : Int) (a1_0 : Int) (a1_1 : Int) (a1_2 : Int) (a1_3 : Int) (r : Bool) (w : World) (h : impl_meet.f a0_0 a0_1 a0_2 a0_3 a1_0 a1_1 a1_2 a1_3 = some r) :
  Calls Tryd.prog 70 #[.agg #[.int .i64 a0_0, .int .i64 a0_1, .int .i64 a0_2, .int .i64 a0_3], .agg #[.int .i64 a1_0, .int .i64 a1_1, .int .i64 a1_2, .int .i64 a1_3]] w fun e w' => e = .returned (.bool r) ∧ Below w.heap.size w w' := by
 have hu26 := Tryd.underlying26
 have HB := Aside0.mk (Below.refl w.heap.size w)
 have H : (if a0_2 = 0 then (some false) else (if a0_3 = 0 then (some false) else (if a1_2 = 0 then (some false) else (if a1_3 = 0 then (some false) else (if a0_0 < (wrap64 (a1_0 + a1_2)) then (if a1_0 < (wrap64 (a0_0 + a0_2)) then (if a0_1 < (wrap64 (a1_1 + a1_3)) then (some (decide (a1_1 < (wrap64 (a0_1 + a0_3))))) else (some false)) else (some false)) else (some false)))))) = some r := h
 clear h
 by_cases c3 : a0_2 = 0
 ·
  rw [if_pos c3] at H
  have c3b0 : (a0_2 == 0) = true := beq_iff_eq.mpr c3
  have c3b1 : (a0_2 != 0) = false := bne_eq_false_iff_eq.mpr c3
  clear c3
  obtain rfl := Option.some.inj H
  go_enter Tryd.func70, Tryd.ntmps70
  go_wp2_with (first | ((with_reducible refine gate_dst (N := 2) rfl ?_); refine box_event ?hg (N := 2) ?hd (cs := #[.int .i64 a0_0, .int .i64 a0_1, .int .i64 a0_2, .int .i64 a0_3]) (t := 26) ?hr ?_; (case hd => rfl); (case hg => rfl); (case hr => first | (go_simp; done) | (go_simp; rfl)); intro gb219 hg w4 hbox hb; have BK219 := Aside0.mk (hbox); have GW219 := Aside0.mk ((bz_ hg (lb0_ HB.out))); have GE219 := Aside0.mk ((bz_ hg (lb0_ HB.out))); replace HB := Aside0.mk (below_step (lb0_ HB.out) hb); clear hb hbox hg) | ((with_reducible refine gate_dst (N := 3) rfl ?_); refine box_event ?hg (N := 3) ?hd (cs := #[.int .i64 a1_0, .int .i64 a1_1, .int .i64 a1_2, .int .i64 a1_3]) (t := 26) ?hr ?_; (case hd => rfl); (case hg => rfl); (case hr => first | (go_simp; done) | (go_simp; rfl)); intro gb220 hg w5 hbox hb; have BK220 := Aside0.mk (hbox); have GW220 := Aside0.mk ((bz_ hg (lb1_ HB.out GE219.out))); have GE220 := Aside0.mk ((bz_ hg (lb1_ HB.out GE219.out))); replace HB := Aside0.mk (below_step (lb1_ HB.out GE219.out) hb); have NB219_220 := Aside0.mk (nl_ hg BK219.out); have NB220_219 := Aside0.mk (ng_ hg BK219.out); replace BK219 := Aside0.mk (bb_ (bk_ BK219.out) hb); clear hb hbox hg; have hnb6 := NB219_220.out; have hnc6 := NB220_219.out; obtain ⟨hcz7_0, hcz7_1, hcz7_2, hcz7_3⟩ := cz4_ BK219.out; obtain ⟨hfz7_0, hfz7_1, hfz7_2, hfz7_3⟩ := fz4_ BK219.out))
  go_ret
  exact ⟨rr_, lb2_ HB.out GE219.out GE220.out⟩
 ·
  rw [if_neg c3] at H
  have c3b0 : (a0_2 == 0) = false := beq_eq_false_iff_ne.mpr c3
  have c3b1 : (a0_2 != 0) = true := bne_iff_ne.mpr c3
  by_cases c8 : a0_3 = 0
  ·
   rw [if_pos c8] at H
   have c8b0 : (a0_3 == 0) = true := beq_iff_eq.mpr c8
   have c8b1 : (a0_3 != 0) = false := bne_eq_false_iff_eq.mpr c8
   clear c8
   obtain rfl := Option.some.inj H
   go_enter Tryd.func70, Tryd.ntmps70
   go_wp2_with (first | ((with_reducible refine gate_dst (N := 2) rfl ?_); refine box_event ?hg (N := 2) ?hd (cs := #[.int .i64 a0_0, .int .i64 a0_1, .int .i64 a0_2, .int .i64 a0_3]) (t := 26) ?hr ?_; (case hd => rfl); (case hg => rfl); (case hr => first | (go_simp; done) | (go_simp; rfl)); intro gb219 hg w9 hbox hb; have BK219 := Aside0.mk (hbox); have GW219 := Aside0.mk ((bz_ hg (lb0_ HB.out))); have GE219 := Aside0.mk ((bz_ hg (lb0_ HB.out))); replace HB := Aside0.mk (below_step (lb0_ HB.out) hb); clear hb hbox hg) | ((with_reducible refine gate_dst (N := 3) rfl ?_); refine box_event ?hg (N := 3) ?hd (cs := #[.int .i64 a1_0, .int .i64 a1_1, .int .i64 a1_2, .int .i64 a1_3]) (t := 26) ?hr ?_; (case hd => rfl); (case hg => rfl); (case hr => first | (go_simp; done) | (go_simp; rfl)); intro gb220 hg w10 hbox hb; have BK220 := Aside0.mk (hbox); have GW220 := Aside0.mk ((bz_ hg (lb1_ HB.out GE219.out))); have GE220 := Aside0.mk ((bz_ hg (lb1_ HB.out GE219.out))); replace HB := Aside0.mk (below_step (lb1_ HB.out GE219.out) hb); have NB219_220 := Aside0.mk (nl_ hg BK219.out); have NB220_219 := Aside0.mk (ng_ hg BK219.out); replace BK219 := Aside0.mk (bb_ (bk_ BK219.out) hb); clear hb hbox hg; have hnb11 := NB219_220.out; have hnc11 := NB220_219.out; obtain ⟨hcz12_0, hcz12_1, hcz12_2, hcz12_3⟩ := cz4_ BK219.out; obtain ⟨hfz12_0, hfz12_1, hfz12_2, hfz12_3⟩ := fz4_ BK219.out))
   go_ret
   exact ⟨rr_, lb2_ HB.out GE219.out GE220.out⟩
  ·
   rw [if_neg c8] at H
   have c8b0 : (a0_3 == 0) = false := beq_eq_false_iff_ne.mpr c8
   have c8b1 : (a0_3 != 0) = true := bne_iff_ne.mpr c8
   by_cases c13 : a1_2 = 0
   ·
    rw [if_pos c13] at H
    have c13b0 : (a1_2 == 0) = true := beq_iff_eq.mpr c13
    have c13b1 : (a1_2 != 0) = false := bne_eq_false_iff_eq.mpr c13
    clear c13
    obtain rfl := Option.some.inj H
    go_enter Tryd.func70, Tryd.ntmps70
    go_wp2_with (first | ((with_reducible refine gate_dst (N := 2) rfl ?_); refine box_event ?hg (N := 2) ?hd (cs := #[.int .i64 a0_0, .int .i64 a0_1, .int .i64 a0_2, .int .i64 a0_3]) (t := 26) ?hr ?_; (case hd => rfl); (case hg => rfl); (case hr => first | (go_simp; done) | (go_simp; rfl)); intro gb219 hg w14 hbox hb; have BK219 := Aside0.mk (hbox); have GW219 := Aside0.mk ((bz_ hg (lb0_ HB.out))); have GE219 := Aside0.mk ((bz_ hg (lb0_ HB.out))); replace HB := Aside0.mk (below_step (lb0_ HB.out) hb); clear hb hbox hg) | ((with_reducible refine gate_dst (N := 3) rfl ?_); refine box_event ?hg (N := 3) ?hd (cs := #[.int .i64 a1_0, .int .i64 a1_1, .int .i64 a1_2, .int .i64 a1_3]) (t := 26) ?hr ?_; (case hd => rfl); (case hg => rfl); (case hr => first | (go_simp; done) | (go_simp; rfl)); intro gb220 hg w15 hbox hb; have BK220 := Aside0.mk (hbox); have GW220 := Aside0.mk ((bz_ hg (lb1_ HB.out GE219.out))); have GE220 := Aside0.mk ((bz_ hg (lb1_ HB.out GE219.out))); replace HB := Aside0.mk (below_step (lb1_ HB.out GE219.out) hb); have NB219_220 := Aside0.mk (nl_ hg BK219.out); have NB220_219 := Aside0.mk (ng_ hg BK219.out); replace BK219 := Aside0.mk (bb_ (bk_ BK219.out) hb); clear hb hbox hg; have hnb16 := NB219_220.out; have hnc16 := NB220_219.out; obtain ⟨hcz17_0, hcz17_1, hcz17_2, hcz17_3⟩ := cz4_ BK219.out; obtain ⟨hfz17_0, hfz17_1, hfz17_2, hfz17_3⟩ := fz4_ BK219.out; obtain ⟨hcz18_0, hcz18_1, hcz18_2, hcz18_3⟩ := cz4_ BK220.out; obtain ⟨hfz18_0, hfz18_1, hfz18_2, hfz18_3⟩ := fz4_ BK220.out))
    go_ret
    exact ⟨rr_, lb2_ HB.out GE219.out GE220.out⟩
   ·
    rw [if_neg c13] at H
    have c13b0 : (a1_2 == 0) = false := beq_eq_false_iff_ne.mpr c13
    have c13b1 : (a1_2 != 0) = true := bne_iff_ne.mpr c13
    by_cases c19 : a1_3 = 0
    ·
     rw [if_pos c19] at H
     have c19b0 : (a1_3 == 0) = true := beq_iff_eq.mpr c19
     have c19b1 : (a1_3 != 0) = false := bne_eq_false_iff_eq.mpr c19
     clear c19
     obtain rfl := Option.some.inj H
     go_enter Tryd.func70, Tryd.ntmps70
     go_wp2_with (first | ((with_reducible refine gate_dst (N := 2) rfl ?_); refine box_event ?hg (N := 2) ?hd (cs := #[.int .i64 a0_0, .int .i64 a0_1, .int .i64 a0_2, .int .i64 a0_3]) (t := 26) ?hr ?_; (case hd => rfl); (case hg => rfl); (case hr => first | (go_simp; done) | (go_simp; rfl)); intro gb219 hg w20 hbox hb; have BK219 := Aside0.mk (hbox); have GW219 := Aside0.mk ((bz_ hg (lb0_ HB.out))); have GE219 := Aside0.mk ((bz_ hg (lb0_ HB.out))); replace HB := Aside0.mk (below_step (lb0_ HB.out) hb); clear hb hbox hg) | ((with_reducible refine gate_dst (N := 3) rfl ?_); refine box_event ?hg (N := 3) ?hd (cs := #[.int .i64 a1_0, .int .i64 a1_1, .int .i64 a1_2, .int .i64 a1_3]) (t := 26) ?hr ?_; (case hd => rfl); (case hg => rfl); (case hr => first | (go_simp; done) | (go_simp; rfl)); intro gb220 hg w21 hbox hb; have BK220 := Aside0.mk (hbox); have GW220 := Aside0.mk ((bz_ hg (lb1_ HB.out GE219.out))); have GE220 := Aside0.mk ((bz_ hg (lb1_ HB.out GE219.out))); replace HB := Aside0.mk (below_step (lb1_ HB.out GE219.out) hb); have NB219_220 := Aside0.mk (nl_ hg BK219.out); have NB220_219 := Aside0.mk (ng_ hg BK219.out); replace BK219 := Aside0.mk (bb_ (bk_ BK219.out) hb); clear hb hbox hg; have hnb22 := NB219_220.out; have hnc22 := NB220_219.out; obtain ⟨hcz23_0, hcz23_1, hcz23_2, hcz23_3⟩ := cz4_ BK219.out; obtain ⟨hfz23_0, hfz23_1, hfz23_2, hfz23_3⟩ := fz4_ BK219.out; obtain ⟨hcz24_0, hcz24_1, hcz24_2, hcz24_3⟩ := cz4_ BK220.out; obtain ⟨hfz24_0, hfz24_1, hfz24_2, hfz24_3⟩ := fz4_ BK220.out))
     go_ret
     exact ⟨rr_, lb2_ HB.out GE219.out GE220.out⟩
    ·
     rw [if_neg c19] at H
     have c19b0 : (a1_3 == 0) = false := beq_eq_false_iff_ne.mpr c19
     have c19b1 : (a1_3 != 0) = true := bne_iff_ne.mpr c19
     by_cases c25 : a0_0 < (wrap64 (a1_0 + a1_2))
     ·
      rw [if_pos c25] at H
      have c25b0 : decide (a0_0 < (wrap64 (a1_0 + a1_2))) = true := decide_eq_true c25
      clear c25
      by_cases c26 : a1_0 < (wrap64 (a0_0 + a0_2))
      ·
       rw [if_pos c26] at H
       have c26b0 : decide (a1_0 < (wrap64 (a0_0 + a0_2))) = true := decide_eq_true c26
       clear c26
       by_cases c27 : a0_1 < (wrap64 (a1_1 + a1_3))
       ·
        rw [if_pos c27] at H
        have c27b0 : decide (a0_1 < (wrap64 (a1_1 + a1_3))) = true := decide_eq_true c27; clear c27; obtain rfl := Option.some.inj H
        go_enter Tryd.func70, Tryd.ntmps70
        go_wp2_with (first | ((with_reducible refine gate_dst (N := 2) rfl ?_); refine box_event ?hg (N := 2) ?hd (cs := #[.int .i64 a0_0, .int .i64 a0_1, .int .i64 a0_2, .int .i64 a0_3]) (t := 26) ?hr ?_; (case hd => rfl); (case hg => rfl); (case hr => first | (go_simp; done) | (go_simp; rfl)); intro gb219 hg w28 hbox hb; have BK219 := Aside0.mk (hbox); have GW219 := Aside0.mk ((bz_ hg (lb0_ HB.out))); have GE219 := Aside0.mk ((bz_ hg (lb0_ HB.out))); replace HB := Aside0.mk (below_step (lb0_ HB.out) hb); clear hb hbox hg) | ((with_reducible refine gate_dst (N := 3) rfl ?_); refine box_event ?hg (N := 3) ?hd (cs := #[.int .i64 a1_0, .int .i64 a1_1, .int .i64 a1_2, .int .i64 a1_3]) (t := 26) ?hr ?_; (case hd => rfl); (case hg => rfl); (case hr => first | (go_simp; done) | (go_simp; rfl)); intro gb220 hg w29 hbox hb; have BK220 := Aside0.mk (hbox); have GW220 := Aside0.mk ((bz_ hg (lb1_ HB.out GE219.out))); have GE220 := Aside0.mk ((bz_ hg (lb1_ HB.out GE219.out))); replace HB := Aside0.mk (below_step (lb1_ HB.out GE219.out) hb); have NB219_220 := Aside0.mk (nl_ hg BK219.out); have NB220_219 := Aside0.mk (ng_ hg BK219.out); replace BK219 := Aside0.mk (bb_ (bk_ BK219.out) hb); clear hb hbox hg; have hnb30 := NB219_220.out; have hnc30 := NB220_219.out; obtain ⟨hcz31_0, hcz31_1, hcz31_2, hcz31_3⟩ := cz4_ BK219.out; obtain ⟨hfz31_0, hfz31_1, hfz31_2, hfz31_3⟩ := fz4_ BK219.out; obtain ⟨hcz32_0, hcz32_1, hcz32_2, hcz32_3⟩ := cz4_ BK220.out; obtain ⟨hfz32_0, hfz32_1, hfz32_2, hfz32_3⟩ := fz4_ BK220.out))
        go_ret
        exact ⟨rr_, lb2_ HB.out GE219.out GE220.out⟩
       ·
        rw [if_neg c27] at H
        have c27b0 : decide (a0_1 < (wrap64 (a1_1 + a1_3))) = false := decide_eq_false c27; clear c27; obtain rfl := Option.some.inj H
        go_enter Tryd.func70, Tryd.ntmps70
        go_wp2_with (first | ((with_reducible refine gate_dst (N := 2) rfl ?_); refine box_event ?hg (N := 2) ?hd (cs := #[.int .i64 a0_0, .int .i64 a0_1, .int .i64 a0_2, .int .i64 a0_3]) (t := 26) ?hr ?_; (case hd => rfl); (case hg => rfl); (case hr => first | (go_simp; done) | (go_simp; rfl)); intro gb219 hg w33 hbox hb; have BK219 := Aside0.mk (hbox); have GW219 := Aside0.mk ((bz_ hg (lb0_ HB.out))); have GE219 := Aside0.mk ((bz_ hg (lb0_ HB.out))); replace HB := Aside0.mk (below_step (lb0_ HB.out) hb); clear hb hbox hg) | ((with_reducible refine gate_dst (N := 3) rfl ?_); refine box_event ?hg (N := 3) ?hd (cs := #[.int .i64 a1_0, .int .i64 a1_1, .int .i64 a1_2, .int .i64 a1_3]) (t := 26) ?hr ?_; (case hd => rfl); (case hg => rfl); (case hr => first | (go_simp; done) | (go_simp; rfl)); intro gb220 hg w34 hbox hb; have BK220 := Aside0.mk (hbox); have GW220 := Aside0.mk ((bz_ hg (lb1_ HB.out GE219.out))); have GE220 := Aside0.mk ((bz_ hg (lb1_ HB.out GE219.out))); replace HB := Aside0.mk (below_step (lb1_ HB.out GE219.out) hb); have NB219_220 := Aside0.mk (nl_ hg BK219.out); have NB220_219 := Aside0.mk (ng_ hg BK219.out); replace BK219 := Aside0.mk (bb_ (bk_ BK219.out) hb); clear hb hbox hg; have hnb35 := NB219_220.out; have hnc35 := NB220_219.out; obtain ⟨hcz36_0, hcz36_1, hcz36_2, hcz36_3⟩ := cz4_ BK219.out; obtain ⟨hfz36_0, hfz36_1, hfz36_2, hfz36_3⟩ := fz4_ BK219.out; obtain ⟨hcz37_0, hcz37_1, hcz37_2, hcz37_3⟩ := cz4_ BK220.out; obtain ⟨hfz37_0, hfz37_1, hfz37_2, hfz37_3⟩ := fz4_ BK220.out))
        go_ret
        exact ⟨rr_, lb2_ HB.out GE219.out GE220.out⟩
      ·
       rw [if_neg c26] at H
       have c26b0 : decide (a1_0 < (wrap64 (a0_0 + a0_2))) = false := decide_eq_false c26
       clear c26
       obtain rfl := Option.some.inj H
       go_enter Tryd.func70, Tryd.ntmps70
       go_wp2_with (first | ((with_reducible refine gate_dst (N := 2) rfl ?_); refine box_event ?hg (N := 2) ?hd (cs := #[.int .i64 a0_0, .int .i64 a0_1, .int .i64 a0_2, .int .i64 a0_3]) (t := 26) ?hr ?_; (case hd => rfl); (case hg => rfl); (case hr => first | (go_simp; done) | (go_simp; rfl)); intro gb219 hg w38 hbox hb; have BK219 := Aside0.mk (hbox); have GW219 := Aside0.mk ((bz_ hg (lb0_ HB.out))); have GE219 := Aside0.mk ((bz_ hg (lb0_ HB.out))); replace HB := Aside0.mk (below_step (lb0_ HB.out) hb); clear hb hbox hg) | ((with_reducible refine gate_dst (N := 3) rfl ?_); refine box_event ?hg (N := 3) ?hd (cs := #[.int .i64 a1_0, .int .i64 a1_1, .int .i64 a1_2, .int .i64 a1_3]) (t := 26) ?hr ?_; (case hd => rfl); (case hg => rfl); (case hr => first | (go_simp; done) | (go_simp; rfl)); intro gb220 hg w39 hbox hb; have BK220 := Aside0.mk (hbox); have GW220 := Aside0.mk ((bz_ hg (lb1_ HB.out GE219.out))); have GE220 := Aside0.mk ((bz_ hg (lb1_ HB.out GE219.out))); replace HB := Aside0.mk (below_step (lb1_ HB.out GE219.out) hb); have NB219_220 := Aside0.mk (nl_ hg BK219.out); have NB220_219 := Aside0.mk (ng_ hg BK219.out); replace BK219 := Aside0.mk (bb_ (bk_ BK219.out) hb); clear hb hbox hg; have hnb40 := NB219_220.out; have hnc40 := NB220_219.out; obtain ⟨hcz41_0, hcz41_1, hcz41_2, hcz41_3⟩ := cz4_ BK219.out; obtain ⟨hfz41_0, hfz41_1, hfz41_2, hfz41_3⟩ := fz4_ BK219.out; obtain ⟨hcz42_0, hcz42_1, hcz42_2, hcz42_3⟩ := cz4_ BK220.out; obtain ⟨hfz42_0, hfz42_1, hfz42_2, hfz42_3⟩ := fz4_ BK220.out))
       go_ret
       exact ⟨rr_, lb2_ HB.out GE219.out GE220.out⟩
     ·
      rw [if_neg c25] at H
      have c25b0 : decide (a0_0 < (wrap64 (a1_0 + a1_2))) = false := decide_eq_false c25
      clear c25
      obtain rfl := Option.some.inj H
      go_enter Tryd.func70, Tryd.ntmps70
      go_wp2_with (first | ((with_reducible refine gate_dst (N := 2) rfl ?_); refine box_event ?hg (N := 2) ?hd (cs := #[.int .i64 a0_0, .int .i64 a0_1, .int .i64 a0_2, .int .i64 a0_3]) (t := 26) ?hr ?_; (case hd => rfl); (case hg => rfl); (case hr => first | (go_simp; done) | (go_simp; rfl)); intro gb219 hg w43 hbox hb; have BK219 := Aside0.mk (hbox); have GW219 := Aside0.mk ((bz_ hg (lb0_ HB.out))); have GE219 := Aside0.mk ((bz_ hg (lb0_ HB.out))); replace HB := Aside0.mk (below_step (lb0_ HB.out) hb); clear hb hbox hg) | ((with_reducible refine gate_dst (N := 3) rfl ?_); refine box_event ?hg (N := 3) ?hd (cs := #[.int .i64 a1_0, .int .i64 a1_1, .int .i64 a1_2, .int .i64 a1_3]) (t := 26) ?hr ?_; (case hd => rfl); (case hg => rfl); (case hr => first | (go_simp; done) | (go_simp; rfl)); intro gb220 hg w44 hbox hb; have BK220 := Aside0.mk (hbox); have GW220 := Aside0.mk ((bz_ hg (lb1_ HB.out GE219.out))); have GE220 := Aside0.mk ((bz_ hg (lb1_ HB.out GE219.out))); replace HB := Aside0.mk (below_step (lb1_ HB.out GE219.out) hb); have NB219_220 := Aside0.mk (nl_ hg BK219.out); have NB220_219 := Aside0.mk (ng_ hg BK219.out); replace BK219 := Aside0.mk (bb_ (bk_ BK219.out) hb); clear hb hbox hg; have hnb45 := NB219_220.out; have hnc45 := NB220_219.out; obtain ⟨hcz46_0, hcz46_1, hcz46_2, hcz46_3⟩ := cz4_ BK219.out; obtain ⟨hfz46_0, hfz46_1, hfz46_2, hfz46_3⟩ := fz4_ BK219.out; obtain ⟨hcz47_0, hcz47_1, hcz47_2, hcz47_3⟩ := cz4_ BK220.out; obtain ⟨hfz47_0, hfz47_1, hfz47_2, hfz47_3⟩ := fz4_ BK220.out))
      go_ret
      exact ⟨rr_, lb2_ HB.out GE219.out GE220.out⟩
set_option maxHeartbeats 4000000 in
theorem free1_ (gb : Nat) (b0 b1 b2 b3 : Int) (a0 : ByteArray) (a1 a2 : Int) (r : Bool) (w : World) (hb : w.heap[gb]? = some (.cells #[.int .i64 b0, .int .i64 b1, .int .i64 b2, .int .i64 b3] 26 (0, 0))) (h : impl_meet.f b0 b1 b2 b3 a1 a2 1 1 = some r) :
  Calls Tryd.prog 99 (#[.agg #[.string a0, .int .i64 a1, .int .i64 a2]] ++ #[.pointer (some ⟨gb, 0, none⟩)]) w fun e w' => e = .returned (.bool r) ∧ Below w.heap.size w w' := by
 show Calls Tryd.prog 99 #[.agg #[.string a0, .int .i64 a1, .int .i64 a2], .pointer (some ⟨gb, 0, none⟩)] w _
 have h0 : w.cell? ⟨gb, 0, none⟩ = some (.int .i64 b0) := (blk_cell hb 0).trans rfl
 have h1 : w.cell? ⟨gb, 1, none⟩ = some (.int .i64 b1) := (blk_cell hb 1).trans rfl
 have h2 : w.cell? ⟨gb, 2, none⟩ = some (.int .i64 b2) := (blk_cell hb 2).trans rfl
 have h3 : w.cell? ⟨gb, 3, none⟩ = some (.int .i64 b3) := (blk_cell hb 3).trans rfl
 have hB := below_alloc (Below.refl w.heap.size w) (.cells #[.string a0, .int .i64 a1, .int .i64 a2] 29)
 replace h0 := (hB.cell (World.block_lt_of_cell? w _ h0)).trans h0
 replace h1 := (hB.cell (World.block_lt_of_cell? w _ h1)).trans h1
 replace h2 := (hB.cell (World.block_lt_of_cell? w _ h2)).trans h2
 replace h3 := (hB.cell (World.block_lt_of_cell? w _ h3)).trans h3
 clear hb
 go_enter Tryd.func99, Tryd.ntmps99
 go_wp2_with (go_at_call 70; refine (impl_meet.calls b0 b1 b2 b3 a1 a2 1 1 r _ h).mono ?_; rintro e w' ⟨rfl, hb⟩)
 go_ret
 exact ⟨rfl, below_step hB hb⟩
def impl_free.f (l0 : List S29) (b0 b1 b2 b3 : Int) : Option Bool :=
 if b0 < 0 then some false else (if b1 < 0 then some false else (if 100 < wrap64 (b0 + b2) then some false else (if 100 < wrap64 (b1 + b3) then some false else
  (if l0.all (fun x => (impl_meet.f b0 b1 b2 b3 x.f1 x.f2 1 1).isSome) = true then some (!(l0.any fun x => (impl_meet.f b0 b1 b2 b3 x.f1 x.f2 1 1).getD false)) else none))))
set_option maxHeartbeats 4000000 in
set_option maxRecDepth 100000 in
theorem impl_free.calls (A0 : Option Addr) (c0 : Nat) (l0 : List S29) (b0 b1 b2 b3 : Int) (r : Bool) (w : World) (hr0 : Kd.C k29 w A0 l0.length l0) (hc0 : l0.length ≤ c0) (h : impl_free.f l0 b0 b1 b2 b3 = some r) :
  Calls Tryd.prog 67 #[.slice A0 l0.length c0, .agg #[.int .i64 b0, .int .i64 b1, .int .i64 b2, .int .i64 b3]] w fun e w' => e = .returned (.bool r) ∧ Below w.heap.size w w' := by
 unfold impl_free.f at h
 have hB := below_alloc (Below.refl w.heap.size w) (.cells #[.int .i64 b0, .int .i64 b1, .int .i64 b2, .int .i64 b3] 26)
 have hg := heap_new_ w #[.int .i64 b0, .int .i64 b1, .int .i64 b2, .int .i64 b3] 26
 by_cases c1 : b0 < 0
 ·
  rw [if_pos c1] at h
  obtain rfl := Option.some.inj h
  have c1b : decide (b0 < 0) = true := decide_eq_true c1
  clear c1 hr0 hg
  go_enter Tryd.func67, Tryd.ntmps67
  go_wp2
  go_ret
  exact ⟨rfl, hB⟩
 ·
  rw [if_neg c1] at h
  have c1b : decide (b0 < 0) = false := decide_eq_false c1
  clear c1
  by_cases c2 : b1 < 0
  ·
   rw [if_pos c2] at h
   obtain rfl := Option.some.inj h
   have c2b : decide (b1 < 0) = true := decide_eq_true c2
   clear c2 hr0 hg
   go_enter Tryd.func67, Tryd.ntmps67
   go_wp2
   go_ret
   exact ⟨rfl, hB⟩
  ·
   rw [if_neg c2] at h
   have c2b : decide (b1 < 0) = false := decide_eq_false c2
   clear c2
   by_cases c3 : 100 < wrap64 (b0 + b2)
   ·
    rw [if_pos c3] at h
    obtain rfl := Option.some.inj h
    have c3b : decide (100 < wrap64 (b0 + b2)) = true := decide_eq_true c3
    clear c3 hr0 hg
    go_enter Tryd.func67, Tryd.ntmps67
    go_wp2
    go_ret
    exact ⟨rfl, hB⟩
   ·
    rw [if_neg c3] at h
    have c3b : decide (100 < wrap64 (b0 + b2)) = false := decide_eq_false c3
    clear c3
    by_cases c4 : 100 < wrap64 (b1 + b3)
    ·
     rw [if_pos c4] at h
     obtain rfl := Option.some.inj h
     have c4b : decide (100 < wrap64 (b1 + b3)) = true := decide_eq_true c4
     clear c4 hr0 hg
     go_enter Tryd.func67, Tryd.ntmps67
     go_wp2
     go_ret
     exact ⟨rfl, hB⟩
    ·
     rw [if_neg c4] at h
     have c4b : decide (100 < wrap64 (b1 + b3)) = false := decide_eq_false c4
     clear c4
     by_cases c5 : l0.all (fun x => (impl_meet.f b0 b1 b2 b3 x.f1 x.f2 1 1).isSome) = true
     ·
      rw [if_pos c5] at h
      have hcall := fun W (hW : Below (w.alloc (.cells #[.int .i64 b0, .int .i64 b1, .int .i64 b2, .int .i64 b3] 26)).heap.size (w.alloc (.cells #[.int .i64 b0, .int .i64 b1, .int .i64 b2, .int .i64 b3] 26)) W) => cont_Label.calls (fun x => (impl_meet.f b0 b1 b2 b3 x.f1 x.f2 1 1).getD false) 99 #[.pointer (some ⟨w.heap.size, 0, none⟩)] (fun _ _ => rfl) A0 c0 l0 W (Kd.C_below (Kd.C_below hr0 hB) hW) hc0 (fun W' x hx hW' => by
       obtain ⟨b, hb⟩ := Option.isSome_iff_exists.1 (List.all_eq_true.1 c5 x hx)
       rw [hb]
       refine (free1_ w.heap.size b0 b1 b2 b3 x.f0 x.f1 x.f2 b W' (blk_below (blk_below hg hW) hW') hb).mono ?_
       rintro e w'' ⟨rfl, hb2⟩
       exact ⟨rfl, below_step hW' hb2⟩)
      obtain rfl := Option.some.inj h
      generalize l0.any (fun x => (impl_meet.f b0 b1 b2 b3 x.f1 x.f2 1 1).getD false) = q at hcall ⊢
      have HC := Aside0.mk hcall
      clear hcall hr0 c5 h hg
      go_enter Tryd.func67, Tryd.ntmps67
      go_wp2_with (go_at_call 61; refine (HC.out _ (Below.refl _ _)).mono ?_; rintro e w' ⟨rfl, hb⟩)
      go_ret
      exact ⟨rfl, below_step hB hb⟩
     ·
      rw [if_neg c5] at h
      cases h
def slices_CloneInt.f (l0 : List Int) : Option (List Int) := if l0.length ≤ 1000000 then some l0 else none
set_option maxHeartbeats 4000000 in
set_option maxRecDepth 100000 in
theorem slices_CloneInt.calls (A0 : Option Addr) (c0 : Nat) (l0 : List Int) (r : List Int) (w : World) (hr0 : Kd.C (Kd.int .i64) w A0 l0.length l0) (hc0 : l0.length ≤ c0) (h : slices_CloneInt.f l0 = some r) :
  Calls Tryd.prog 103 #[.slice A0 l0.length c0] w fun e w' => ∃ v0_ : Value, e = .returned (v0_) ∧ Kd.R (Kd.int .i64) 3 w' w.heap.size (fun _ => True) v0_ r ∧ Below w.heap.size w w' := by
 unfold slices_CloneInt.f at h
 by_cases hl : l0.length ≤ 1000000
 ·
  rw [if_pos hl] at h
  obtain rfl := Option.some.inj h
  have HR := Aside0.mk hr0
  clear hr0
  cases A0 with
  | none =>
   have hn : l0 = [] := by
    rcases Nat.eq_zero_or_pos l0.length with h0 | h0
    ·
     exact List.length_eq_zero_iff.1 h0
    ·
     obtain ⟨ad, e, _⟩ := HR.out.2.2 h0
     cases e
   subst hn
   have hq : ∀ w, Sem.run Tryd.prog (binOp .eql 40 (.slice none 0 c0) (.slice none 0 0)) w = .ok (.bool true) w := fun w => by rfl
   go_enter Tryd.func103, Tryd.ntmps103
   go_wp2
   go_ret
   exact ⟨_, rfl, Kd.R_nil _ _ _ _ _, Below.refl _ _⟩
  | some ad =>
   have hq : ∀ w, Sem.run Tryd.prog (binOp .eql 40 (.slice (some ad) l0.length c0) (.slice none 0 0)) w = .ok (.bool false) w := fun w => by rfl
   go_enter Tryd.func103, Tryd.ntmps103
   go_wp2_with (first | ((with_reducible refine gate_dst (N := 5) rfl ?_); refine Kd.R_lit (Kd.int .i64) _ 3 ?hg (N := 5) ?hd (xs := []) (inner := []) (ok := fun _ => True) (okp := fun _ => True) ?hr ?hp (fun _ hk => hk) trivial (Below.refl _ _) (Nat.le_refl _) (by simp) ?_; (case hd => rfl); (case hg => rfl); (case hr => first | (go_simp; done) | (go_simp; rfl)); (case hp => exact (Reps.none _ _)); intro v5 w4 ho5 hb5 hg_ hnew_; clear hg_ hnew_; have HO5 := Aside0.mk ho5; have HB5 := Aside0.mk hb5; clear ho5 hb5) | ((with_reducible refine gate_builtin (b := .append) (xs := #[.tmp 5, .tmp 6]) rfl ?_); at_builtin; refine Kd.R_append_rows (Kd.int .i64) (w0 := w) w.heap.size rfl (.tmp 5) (.tmp 6) 40 3 (.int .i64 0) 8 rfl Tryd.underlying40 info3 rfl (by decide) (by omega) v5 [] l0 (some ad) _ _ (fun _ => True) (fun _ => False) rfl rfl HO5.out (Kd.C_below HR.out HB5.out) (fun _ _ h => h) (fun _ h => h.elim) (fun _ _ => trivial) HB5.out (below_size HB5.out) (by simp; omega) ?_; intro v7 w7 ho7 hb7 hg7 hat7; have HO7 := Aside0.mk ho7; have HB7 := Aside0.mk hb7; clear ho7 hb7 hg7 hat7))
   go_ret
   exact ⟨_, rfl, HO7.out, HB7.out⟩
 ·
  rw [if_neg hl] at h
  cases h
def resB_ (ct : Bool) (ps : List (List Int)) : Bool := ct || ps.isEmpty
def resY_ (ct : Bool) (ps : List (List Int)) : List (List Int) := match ct with
 | true => ps
 | false => ps.take 1
theorem res_go_ {ct : Bool} {ys acc pa : List (List Int)} (h : ct = true ∨ ys ++ acc = []) (hb : resB_ ct pa = true) : resY_ ct pa = pa ∧ (ct = true ∨ ys ++ (acc ++ pa) = []) := by
 cases ct with
 | true => exact ⟨rfl, .inl rfl⟩
 | false =>
  have h1 := h.resolve_left (by decide)
  have h2 : pa = [] := by simpa [resB_] using hb
  subst h2
  exact ⟨rfl, .inr (by simpa using h1)⟩
theorem res_stop_ {ct : Bool} {ys acc pa : List (List Int)} (h : ct = true ∨ ys ++ acc = []) (hb : resB_ ct pa = false) (rest : List (List Int)) : resB_ ct (acc ++ (pa ++ rest)) = false ∧ ys ++ resY_ ct (acc ++ (pa ++ rest)) = ys ++ acc ++ resY_ ct pa := by
 cases ct with
 | true => cases hb
 | false =>
  have h1 := List.append_eq_nil_iff.1 (h.resolve_left (by decide))
  obtain ⟨rfl, rfl⟩ := h1
  cases pa with
  | nil => cases hb
  | cons p t => exact ⟨rfl, rfl⟩
def hitB_ (l0 : List S26) (b0 b1 b2 b3 : Int) : Option Bool :=
 if l0.all (fun x => (impl_meet.f b0 b1 b2 b3 x.f0 x.f1 x.f2 x.f3).isSome) = true then some (l0.any fun x => (impl_meet.f b0 b1 b2 b3 x.f0 x.f1 x.f2 x.f3).getD false) else none
def plc_ (l : List S29) (idx : List Int) : Nat → List Int → List S26 → Option (List (List Int))
 | 0, ways, _ => some [ways]
 | m + 1, ways, boxes => if 0 ≤ rd idx (ways.length : Int) ∧ rd idx (ways.length : Int) < (l.length : Int) then
   catM_ (fun way => (impl_boxFor.f (rd_T29 l (rd idx (ways.length : Int))).f0 (rd_T29 l (rd idx (ways.length : Int))).f1 (rd_T29 l (rd idx (ways.length : Int))).f2 way).bind fun b =>
    (impl_free.f l b.1 b.2.1 b.2.2.1 b.2.2.2).bind fun fr => if fr = true then (hitB_ boxes b.1 b.2.1 b.2.2.1 b.2.2.2).bind fun hit => if hit = true then some [] else plc_ l idx m (ways ++ [way]) (boxes ++ [⟨b.1, b.2.1, b.2.2.1, b.2.2.2⟩]) else some []) [0, 1, 2, 3]
  else none
set_option maxHeartbeats 4000000 in
theorem place11_ (gb : Nat) (b0 b1 b2 b3 : Int) (a0 a1 a2 a3 : Int) (r : Bool) (w : World) (hb : w.heap[gb]? = some (.cells #[.int .i64 b0, .int .i64 b1, .int .i64 b2, .int .i64 b3] 26 (0, 0))) (h : impl_meet.f b0 b1 b2 b3 a0 a1 a2 a3 = some r) :
  Calls Tryd.prog 104 (#[.agg #[.int .i64 a0, .int .i64 a1, .int .i64 a2, .int .i64 a3]] ++ #[.pointer (some ⟨gb, 0, none⟩)]) w fun e w' => e = .returned (.bool r) ∧ Below w.heap.size w w' := by
 show Calls Tryd.prog 104 #[.agg #[.int .i64 a0, .int .i64 a1, .int .i64 a2, .int .i64 a3], .pointer (some ⟨gb, 0, none⟩)] w _
 have h0 : w.cell? ⟨gb, 0, none⟩ = some (.int .i64 b0) := (blk_cell hb 0).trans rfl
 have h1 : w.cell? ⟨gb, 1, none⟩ = some (.int .i64 b1) := (blk_cell hb 1).trans rfl
 have h2 : w.cell? ⟨gb, 2, none⟩ = some (.int .i64 b2) := (blk_cell hb 2).trans rfl
 have h3 : w.cell? ⟨gb, 3, none⟩ = some (.int .i64 b3) := (blk_cell hb 3).trans rfl
 have hB := below_alloc (Below.refl w.heap.size w) (.cells #[.int .i64 a0, .int .i64 a1, .int .i64 a2, .int .i64 a3] 26)
 replace h0 := (hB.cell (World.block_lt_of_cell? w _ h0)).trans h0
 replace h1 := (hB.cell (World.block_lt_of_cell? w _ h1)).trans h1
 replace h2 := (hB.cell (World.block_lt_of_cell? w _ h2)).trans h2
 replace h3 := (hB.cell (World.block_lt_of_cell? w _ h3)).trans h3
 clear hb
 go_enter Tryd.func104, Tryd.ntmps104
 go_wp2_with (go_at_call 70; refine (impl_meet.calls b0 b1 b2 b3 a0 a1 a2 a3 r _ h).mono ?_; rintro e w' ⟨rfl, hb⟩)
 go_ret
 exact ⟨rfl, below_step hB hb⟩
set_option maxRecDepth 100000 in
theorem hit_calls (A0 : Option Addr) (c0 : Nat) (l0 : List S26) (b0 b1 b2 b3 : Int) (r : Bool) (w : World) (hr0 : Kd.C k26 w A0 l0.length l0) (hc0 : l0.length ≤ c0) (h : hitB_ l0 b0 b1 b2 b3 = some r) {gb : Nat} (hbx : w.heap[gb]? = some (.cells #[.int .i64 b0, .int .i64 b1, .int .i64 b2, .int .i64 b3] 26 (0, 0))) :
  Calls Tryd.prog 68 #[.slice A0 l0.length c0, .func (.func 104) #[] #[.pointer (some ⟨gb, 0, none⟩)]] w fun e w' => e = .returned (.bool r) ∧ Below w.heap.size w w' := by
 unfold hitB_ at h
 by_cases c5 : l0.all (fun x => (impl_meet.f b0 b1 b2 b3 x.f0 x.f1 x.f2 x.f3).isSome) = true
 ·
  rw [if_pos c5] at h
  obtain rfl := Option.some.inj h
  exact cont_Box.calls (fun x => (impl_meet.f b0 b1 b2 b3 x.f0 x.f1 x.f2 x.f3).getD false) 104 #[.pointer (some ⟨gb, 0, none⟩)] (fun _ _ => rfl) A0 c0 l0 w hr0 hc0 (fun W' x hx hW' => by
   obtain ⟨b, hb⟩ := Option.isSome_iff_exists.1 (List.all_eq_true.1 c5 x hx)
   rw [hb]
   refine (place11_ gb b0 b1 b2 b3 x.f0 x.f1 x.f2 x.f3 b W' (blk_below hbx hW') hb).mono ?_
   rintro e w'' ⟨rfl, hb2⟩
   exact ⟨rfl, below_step hW' hb2⟩)
 ·
  rw [if_neg c5] at h
  cases h
def place3.T : Bool × List (List Nat × List Nat) := (true, [([], []), ([], []), ([1], [1]), ([0, 2, 2], [0, 2]), ([3, 3, 0, 1, 2, 3], [3])])
def place3.B : List Nat := [0, 0, 2, 7, 15]
theorem place3.tab : rtab .any (opsOf Tryd.f102 3) = place3.T := by kernel_rfl
theorem place3.bits : waitsOk place3.T.2 place3.B = true := by kernel_rfl
abbrev place3.mkE : Array Bool := #[false, false, false, false, false]
abbrev place3.mk0 : Array Bool := #[true, false, false, false, false]
abbrev place3.mk0_1 : Array Bool := #[true, true, false, false, false]
abbrev place3.mk0_1_2 : Array Bool := #[true, true, true, false, false]
abbrev place3.mk0_1_2_3 : Array Bool := #[true, true, true, true, false]
abbrev place3.mk0_1_2_3_4 : Array Bool := #[true, true, true, true, true]
def place7.T : Bool × List (List Nat × List Nat) := (true, [([], []), ([], []), ([], []), ([1, 2], [1, 2]), ([3], [3]), ([0, 4], [0, 4]), ([5], [5]), ([], []), ([6, 7], [6, 7]), ([], []), ([9, 8, 8, 0, 1, 2, 3, 4, 5, 6, 7, 8, 9], [8, 9])])
def place7.B : List Nat := [0, 0, 0, 6, 14, 31, 63, 0, 255, 0, 1023]
theorem place7.tab : rtab .any (opsOf Tryd.f102 7) = place7.T := by kernel_rfl
theorem place7.bits : waitsOk place7.T.2 place7.B = true := by kernel_rfl
abbrev place7.mkE : Array Bool := #[fF,fF,fF,fF,fF,fF,fF,fF,fF,fF,fF]
abbrev place7.mk2 : Array Bool := #[fF,fF,tT,fF,fF,fF,fF,fF,fF,fF,fF]
abbrev place7.mk2_7 : Array Bool := #[fF,fF,tT,fF,fF,fF,fF,tT,fF,fF,fF]
abbrev place7.mk0_2_7 : Array Bool := #[tT,fF,tT,fF,fF,fF,fF,tT,fF,fF,fF]
abbrev place7.mk0_1_2_7 : Array Bool := #[tT,tT,tT,fF,fF,fF,fF,tT,fF,fF,fF]
abbrev place7.mk0_1_2_3_7 : Array Bool := #[tT,tT,tT,tT,fF,fF,fF,tT,fF,fF,fF]
abbrev place7.mk0_1_2_3_4_7 : Array Bool := #[tT,tT,tT,tT,tT,fF,fF,tT,fF,fF,fF]
abbrev place7.mk0_1_2_3_4_5_7 : Array Bool := #[tT,tT,tT,tT,tT,tT,fF,tT,fF,fF,fF]
abbrev place7.mk0_1_2_3_4_5_6_7 : Array Bool := #[tT,tT,tT,tT,tT,tT,tT,tT,fF,fF,fF]
abbrev place7.mk0_1_2_3_4_5_6_7_8_9 : Array Bool := #[tT,tT,tT,tT,tT,tT,tT,tT,tT,tT,fF]
abbrev place7.mk0_1_2_3_4_5_6_7_8 : Array Bool := #[tT,tT,tT,tT,tT,tT,tT,tT,tT,fF,fF]
abbrev place7.mk0_1_2_3_4_5_6_7_9 : Array Bool := #[tT,tT,tT,tT,tT,tT,tT,tT,fF,tT,fF]
abbrev place7.mk0_1_2_3_4_5_6_7_8_9_10 : Array Bool := #[tT,tT,tT,tT,tT,tT,tT,tT,tT,tT,tT]
def place9.T : Bool × List (List Nat × List Nat) := (true, [([], []), ([], []), ([1], [1]), ([0, 2], [0, 2]), ([], []), ([], []), ([5], [5]), ([4, 6, 3], [4, 6]), ([3, 7, 0, 1, 2, 3], [3]), ([7, 8, 0, 1, 2, 3, 4, 5, 6, 7, 8], [7])])
def place9.B : List Nat := [0, 0, 2, 7, 0, 0, 32, 127, 255, 511]
theorem place9.tab : rtab .any (opsOf Tryd.f102 9) = place9.T := by kernel_rfl
theorem place9.bits : waitsOk place9.T.2 place9.B = true := by kernel_rfl
abbrev place9.mkE : Array Bool := #[fF,fF,fF,fF,fF,fF,fF,fF,fF,fF]
abbrev place9.mk1 : Array Bool := #[fF,tT,fF,fF,fF,fF,fF,fF,fF,fF]
abbrev place9.mk0_1 : Array Bool := #[tT,tT,fF,fF,fF,fF,fF,fF,fF,fF]
abbrev place9.mk0_1_4 : Array Bool := #[tT,tT,fF,fF,tT,fF,fF,fF,fF,fF]
abbrev place9.mk0_1_4_5 : Array Bool := #[tT,tT,fF,fF,tT,tT,fF,fF,fF,fF]
abbrev place9.mk0_1_2_3_4_5_6 : Array Bool := #[tT,tT,tT,tT,tT,tT,tT,fF,fF,fF]
abbrev place9.mk0_1_2_4_5 : Array Bool := #[tT,tT,tT,fF,tT,tT,fF,fF,fF,fF]
abbrev place9.mk0_1_4_5_6 : Array Bool := #[tT,tT,fF,fF,tT,tT,tT,fF,fF,fF]
abbrev place9.mk0_1_2_3_4_5 : Array Bool := #[tT,tT,tT,tT,tT,tT,fF,fF,fF,fF]
abbrev place9.mk0_1_2_4_5_6 : Array Bool := #[tT,tT,tT,fF,tT,tT,tT,fF,fF,fF]
abbrev place9.mk0_1_2_3_4_5_6_7 : Array Bool := #[tT,tT,tT,tT,tT,tT,tT,tT,fF,fF]
abbrev place9.mk0_1_2_3_4_5_6_7_8 : Array Bool := #[tT,tT,tT,tT,tT,tT,tT,tT,tT,fF]
abbrev place9.mk0_1_2_3_4_5_6_7_8_9 : Array Bool := #[tT,tT,tT,tT,tT,tT,tT,tT,tT,tT]
def place11.T : Bool × List (List Nat × List Nat) := (true, [([], []), ([], []), ([0, 1], [0, 1]), ([], []), ([], []), ([3, 4], [3, 4]), ([2, 0, 1, 2], [2]), ([5, 6, 0, 1, 2, 3, 4, 5, 6], [5])])
def place11.B : List Nat := [0, 0, 3, 0, 0, 24, 7, 127]
theorem place11.tab : rtab .any (opsOf Tryd.f102 11) = place11.T := by kernel_rfl
theorem place11.bits : waitsOk place11.T.2 place11.B = true := by kernel_rfl
abbrev place11.mkE : Array Bool := #[fF,fF,fF,fF,fF,fF,fF,fF]
abbrev place11.mk1 : Array Bool := #[fF,tT,fF,fF,fF,fF,fF,fF]
abbrev place11.mk1_4 : Array Bool := #[fF,tT,fF,fF,tT,fF,fF,fF]
abbrev place11.mk0_1_2_3_4_5_6 : Array Bool := #[tT,tT,tT,tT,tT,tT,tT,fF]
abbrev place11.mk0_1_4 : Array Bool := #[tT,tT,fF,fF,tT,fF,fF,fF]
abbrev place11.mk1_3_4 : Array Bool := #[fF,tT,fF,tT,tT,fF,fF,fF]
abbrev place11.mk0_1_2_4 : Array Bool := #[tT,tT,tT,fF,tT,fF,fF,fF]
abbrev place11.mk0_1_2_3_4 : Array Bool := #[tT,tT,tT,tT,tT,fF,fF,fF]
abbrev place11.mk0_1_2_4_6 : Array Bool := #[tT,tT,tT,fF,tT,fF,tT,fF]
abbrev place11.mk0_1_2_3_4_5 : Array Bool := #[tT,tT,tT,tT,tT,tT,fF,fF]
abbrev place11.mk0_1_2_3_4_6 : Array Bool := #[tT,tT,tT,tT,tT,fF,tT,fF]
abbrev place11.mk1_3_4_5 : Array Bool := #[fF,tT,fF,tT,tT,tT,fF,fF]
abbrev place11.mk0_1_3_4_5 : Array Bool := #[tT,tT,fF,tT,tT,tT,fF,fF]
abbrev place11.mk0_1_2_3_4_5_6_7 : Array Bool := #[tT,tT,tT,tT,tT,tT,tT,tT]
set_option maxHeartbeats 8000000 in
set_option maxRecDepth 100000 in
theorem from_ (l : List S29) (A0 : Option Addr) (c0 : Nat) (w0 : World) (hr0 : Kd.C k29 w0 A0 l.length l) (hc0 : l.length ≤ c0) (Y : Nat → Prop) (gyf : Nat) (lby : Array Value) (egy : ∀ args w, (callFunc gyf args).run Tryd.prog w = .ok (.enter gyf args) w) (ct : Bool) (St : List (List Int) → World → Prop)
  (hst1 : ∀ ys (W W' : World), (ct = true ∨ ys = []) → (∀ k, Y k → W'.heap[k]? = W.heap[k]?) → St ys W → St ys W')
  (hst2 : ∀ ys (W : World) (g t : Nat) (cs : Array Value) (u : Value), ¬ Y g → W.heap[g]? = some (.cells cs t (0, 0)) → (t = 40 ∨ t = 79) → St ys W → St ys (W.setCell ⟨g, 0, none⟩ u))
  (hst3 : ∀ ys (W : World), St ys W → St ys W.drew)
  (hy : ∀ ys (ways : List Int) (v : Value) (W : World), (ct = true ∨ ys = []) → (∀ k, Y k → k < W.heap.size) → St ys W → (Kd.int .i64).R 3 W w0.heap.size (fun k => ¬ Y k) v ways → Below w0.heap.size w0 W → Calls Tryd.prog gyf (#[v] ++ lby) W fun e w' => e = .returned (.bool ct) ∧ St (ys ++ [ways]) w' ∧ FrY Y W w' ∧ Below w0.heap.size w0 w')
  (gw gi gy gl gb gf : Nat) (vi : Value) (idx : List Int) (hidx : idx.length < 1000000) : ∀ (m : Nat) (ways : List Int) (boxes : List S26) (ys ps : List (List Int)) (w : World) (vw vb : Value), idx.length = ways.length + m → boxes.length = ways.length → plc_ l idx m ways boxes = some ps → (ct = true ∨ ys = []) →
  PlS Y w w0 gw gi gy gl gb gf vw vw vi (.slice A0 l.length c0) vb vb (.func (.func gyf) #[] lby) (.func (.func 102) #[] #[.pointer (some ⟨gw, 0, none⟩), .pointer (some ⟨gi, 0, none⟩), .pointer (some ⟨gy, 0, none⟩), .pointer (some ⟨gl, 0, none⟩), .pointer (some ⟨gb, 0, none⟩), .pointer (some ⟨gf, 0, none⟩)]) ways idx boxes → St ys w → Below w0.heap.size w0 w →
  Calls Tryd.prog 102 #[.pointer (some ⟨gw, 0, none⟩), .pointer (some ⟨gi, 0, none⟩), .pointer (some ⟨gy, 0, none⟩), .pointer (some ⟨gl, 0, none⟩), .pointer (some ⟨gb, 0, none⟩), .pointer (some ⟨gf, 0, none⟩)] w fun e w' => e = .returned (.bool (resB_ ct ps)) ∧ (∃ vw' vb', PlS Y w' w0 gw gi gy gl gb gf vw' vw' vi (.slice A0 l.length c0) vb' vb' (.func (.func gyf) #[] lby) (.func (.func 102) #[] #[.pointer (some ⟨gw, 0, none⟩), .pointer (some ⟨gi, 0, none⟩), .pointer (some ⟨gy, 0, none⟩), .pointer (some ⟨gl, 0, none⟩), .pointer (some ⟨gb, 0, none⟩), .pointer (some ⟨gf, 0, none⟩)]) ways idx boxes) ∧ St (ys ++ resY_ ct ps) w' ∧ Below w0.heap.size w0 w' := by
 have HR := Aside0.mk hr0
 have HC := Aside0.mk hc0
 have HY := Aside0.mk hy
 have H1 := Aside0.mk hst1
 have H2 := Aside0.mk hst2
 have H3 := Aside0.mk hst3
 have hu1 := Tryd.underlying29
 have hu2 := Tryd.underlying26
 have hu3 := Tryd.underlying79
 have hu4 := Tryd.underlying40
 clear hr0 hc0 hy hst1 hst2 hst3
 intro m
 induction m with
 | zero =>
  intro ways boxes ys ps w vw vb hm hbl hp hys hS hSt hB
  have HS := Aside0.mk hS
  have HT := Aside0.mk hSt
  have HB := Aside0.mk hB
  obtain ⟨A, c, rfl⟩ := Kd.R_slice hS.rW
  obtain ⟨Ai, ci, rfl⟩ := hS.rI.slice_
  obtain ⟨Ab, cb, rfl⟩ := Kd.R_slice hS.rB
  have hcw : w.cell? ⟨gw, 0, none⟩ = some (.slice A ways.length c) := (blk_cell hS.cw 0).trans rfl
  have hci : w.cell? ⟨gi, 0, none⟩ = some (.slice Ai idx.length ci) := (blk_cell hS.ci 0).trans rfl
  obtain rfl : [ways] = ps := by
   unfold plc_ at hp
   exact Option.some.inj hp
  have hq : idx.length = ways.length := by omega
  have n0 : ((ways.length : Int) == (idx.length : Int)) = true := beq_iff_eq.mpr (by omega)
  have n1 : decide ((ways.length : Int) = (idx.length : Int)) = true := decide_eq_true (by omega)
  have n2 : (ways.length = idx.length) = True := eq_true (by omega)
  have n3 : (ways.length == idx.length) = true := beq_iff_eq.mpr (by omega)
  have hcl : slices_CloneInt.f ways = some ways := by
   unfold slices_CloneInt.f
   rw [if_pos (by omega)]
  have HCL := Aside0.mk hcl
  have HYS := Aside0.mk hys
  clear hp hS hSt hB hys hcl hq hm hbl
  go_enter Tryd.func102, Tryd.ntmps102
  go_wp2
  replace HS := Aside0.mk (HS.out.below (below_drew (Below.refl _ w)))
  replace HT := Aside0.mk (H1.out ys w w.drew HYS.out (fun _ _ => rfl) HT.out)
  replace HB := Aside0.mk (below_drew HB.out)
  clear hcw hci
  refine start_ (n := 5) (S := fun w' => w'.cell? ⟨gy, 0, none⟩ = some (.func (.func gyf) #[] lby) ∧ w'.cell? ⟨gw, 0, none⟩ = some (.slice A ways.length c)) (ds := []) place3.mkE (by kernel_rfl) rfl rfl ⟨(blk_cell HS.out.cy 0).trans rfl, (blk_cell HS.out.cw 0).trans rfl⟩ (fun hHeld => ?_); refine with_tabW place3.tab place3.bits (fun HT_ HW_ => ?_)
  generalize w.drew = W at HS HT HB hHeld ⊢
  refine tk_ HT_ HW_ hHeld 0 (some 17) place3.mk0 ?_
  refine tk_ HT_ HW_ hHeld 1 (some 18) place3.mk0_1 ?_
  refine one_ (i := 2) (N := some 19) place3.mk0_1_2 rfl rfl (one_of HT_.out (by kernel_rfl)) (by decide) (fun K hK => ?_)
  refine gs_ Tryd.func103 #[.slice A ways.length c] ?_
  refine (slices_CloneInt.calls A c ways ways _ (Kd.R_reads' HS.out.rW).2.2 (Kd.R_reads' HS.out.rW).2.1 HCL.out).mono ?_
  rintro e W2 ⟨v, rfl, hv, hb⟩
  refine ⟨_, rfl, ?_⟩
  have hv2 := Kd.R_lower (Kd.R_mono (ok' := fun k => ¬ Y k) (Kd.R_bound hv) (fun k hk hY => by have := HS.out.ys k hY; have := hk.2.1; omega)) (below_size HB.out)
  have hT_ := H1.out ys W W2 HYS.out (fun k hk => hb.block k (HS.out.ys k hk)) HT.out
  replace HS := Aside0.mk (HS.out.below hb)
  replace HT := Aside0.mk hT_
  replace HB := Aside0.mk (below_step HB.out hb)
  have HV := Aside0.mk hv2
  clear hb hv hv2 hT_
  refine hK.out _ _ ⟨(blk_cell HS.out.cy 0).trans rfl, (blk_cell HS.out.cw 0).trans rfl⟩ (fun hHeld => ?_)
  clear hK K
  refine na_ ?_
  refine one_ (i := 3) (N := some 20) place3.mk0_1_2_3 rfl rfl (one_of HT_.out (by kernel_rfl)) (by decide) (fun K hK => ?_)
  refine call_ gyf (#[v] ++ lby) (by rfl) rfl ?hrun ?_
  case hrun => first | (go_simp; done) | (go_simp; exact egy _ _)
  refine (HY.out ys ways v W2 HYS.out HS.out.ys HT.out HV.out HB.out).mono ?_
  rintro e W3 ⟨rfl, hT3, hF3, hB3⟩
  refine ⟨_, rfl, ?_⟩
  replace HS := Aside0.mk (HS.out.fr hF3)
  replace HT := Aside0.mk hT3
  replace HB := Aside0.mk hB3
  clear hT3 hF3 hB3
  refine hK.out _ _ ⟨(blk_cell HS.out.cy 0).trans rfl, (blk_cell HS.out.cw 0).trans rfl⟩ (fun hHeld => ?_)
  clear hK K
  refine na_ ?_
  refine pz_ HT_ 4 (some 6) place3.mk0_1_2_3_4 ?_
  refine done_ (done_of HT_.out (by kernel_rfl)) ?_
  go_wp2
  go_ret
  refine ⟨?_, ⟨_, _, HS.out⟩, ?_, HB.out⟩
  ·
   cases ct <;> rfl
  ·
   cases ct <;> exact HT.out
 | succ m ih =>
  intro ways boxes ys ps w vw vb hm hbl hp hys hS hSt hB
  have HS := Aside0.mk hS
  have HT := Aside0.mk hSt
  have HB := Aside0.mk hB
  obtain ⟨A, c, rfl⟩ := Kd.R_slice hS.rW
  obtain ⟨Ai, ci, rfl⟩ := hS.rI.slice_
  obtain ⟨Ab, cb, rfl⟩ := Kd.R_slice hS.rB
  have hcw : w.cell? ⟨gw, 0, none⟩ = some (.slice A ways.length c) := (blk_cell hS.cw 0).trans rfl
  have hci : w.cell? ⟨gi, 0, none⟩ = some (.slice Ai idx.length ci) := (blk_cell hS.ci 0).trans rfl
  unfold plc_ at hp
  by_cases hj : 0 ≤ rd idx (ways.length : Int) ∧ rd idx (ways.length : Int) < (l.length : Int)
  ·
   rw [if_pos hj] at hp
   have n0 : ((ways.length : Int) == (idx.length : Int)) = false := beq_eq_false_iff_ne.mpr (by omega)
   have n1 : decide ((ways.length : Int) = (idx.length : Int)) = false := decide_eq_false (by omega)
   have n2 : (ways.length = idx.length) = False := eq_false (by omega)
   have n3 : (ways.length == idx.length) = false := beq_eq_false_iff_ne.mpr (by omega)
   obtain ⟨ai, e1⟩ := hS.rI.some_ (by omega)
   subst e1
   obtain ⟨al, e2, z1, z2, z3⟩ := at_T29 HR.out (rd idx (ways.length : Int)) hj.1 hj.2
   subst e2
   obtain ⟨j, hjd⟩ : ∃ j, rd idx (ways.length : Int) = j := ⟨_, rfl⟩
   rw [hjd] at hp hj z1 z2 z3
   have HJ := Aside0.mk hjd
   have HN := Aside0.mk (show ways.length < idx.length by omega)
   clear hjd
   generalize rd_T29 l j = x at hp z1 z2 z3
   have q0 : (0 : Int) ≤ (ways.length : Int) := by omega
   have q1 : (ways.length : Int) < (idx.length : Int) := by omega
   have q2 : 0 ≤ j := hj.1
   have q3 : j < (l.length : Int) := hj.2
   have Z1 := Aside0.mk z1
   have Z2 := Aside0.mk z2
   have Z3 := Aside0.mk z3
   have HP := Aside0.mk hp
   have HYS := Aside0.mk hys
   have HM := Aside0.mk hm
   have HBL := Aside0.mk hbl
   have IH := Aside0.mk ih
   clear hp hS hSt hB hys z1 z2 z3 hj hm hbl ih
   go_enter Tryd.func102, Tryd.ntmps102
   go_wp2
   clear hcw hci
   go_loopg [21] 4 (fun gg v21 wr => ∃ (kk : Nat) (acc rest : List (List Int)) (vw vb : Value), kk ≤ 4 ∧ 4 - kk ≤ gg ∧ v21 = .int .i64 kk ∧ Aside0 (catM_ (fun way => (impl_boxFor.f x.f0 x.f1 x.f2 way).bind fun b => (impl_free.f l b.1 b.2.1 b.2.2.1 b.2.2.2).bind fun fr => if fr = true then (hitB_ boxes b.1 b.2.1 b.2.2.1 b.2.2.2).bind fun hit => if hit = true then some [] else plc_ l idx m (ways ++ [way]) (boxes ++ [⟨b.1, b.2.1, b.2.2.1, b.2.2.2⟩]) else some []) ([0, 1, 2, 3].drop kk) = some rest ∧ ps = acc ++ rest) ∧ Aside0 (ct = true ∨ ys ++ acc = []) ∧ Aside0 (PlS Y wr w0 gw gi gy gl gb gf vw vw (.slice (some ai) idx.length ci) (.slice (some al) l.length c0) vb vb (.func (.func gyf) #[] lby) (.func (.func 102) #[] #[.pointer (some ⟨gw, 0, none⟩), .pointer (some ⟨gi, 0, none⟩), .pointer (some ⟨gy, 0, none⟩), .pointer (some ⟨gl, 0, none⟩), .pointer (some ⟨gb, 0, none⟩), .pointer (some ⟨gf, 0, none⟩)]) ways idx boxes) ∧ Aside0 (St (ys ++ acc) wr) ∧ Aside0 (Below w0.heap.size w0 wr))
   case atStart => exact ⟨0, [], ps, _, _, by omega, by omega, rfl, ⟨HP.out, rfl⟩, ⟨by simpa using HYS.out⟩, HS, ⟨by simpa using HT.out⟩, HB⟩
   case round =>
    clear HS HT HB HP HYS
    obtain ⟨kk, acc, rest, vw, vb, hkk, hgg, rfl, HP, HYS, HS, HT, HB⟩ := hrel
    by_cases hlt : kk < 4
    ·
     have hltz : (kk : Int) < 4 := by omega
     have hw1 : wrap64 ((kk : Int) + 1) = ((kk + 1 : Nat) : Int) := by
      unfold wrap64
      omega
     obtain ⟨hp, e1⟩ := HP.out
     have ed : ([0, 1, 2, 3] : List Int).drop kk = (kk : Int) :: ([0, 1, 2, 3] : List Int).drop (kk + 1) := by
      have hk4 : kk = 0 ∨ kk = 1 ∨ kk = 2 ∨ kk = 3 := by omega
      rcases hk4 with rfl | rfl | rfl | rfl <;> rfl
     rw [ed] at hp
     unfold catM_ at hp
     obtain ⟨pa, h1, hp⟩ := Option.bind_eq_some_iff.mp hp
     obtain ⟨rest', h2, hp⟩ := Option.bind_eq_some_iff.mp hp
     obtain rfl := Option.some.inj hp
     (try simp only at h1)
     obtain ⟨⟨b0, b1, b2, b3⟩, hbf, h1⟩ := Option.bind_eq_some_iff.mp h1
     obtain ⟨fr, hfr, h1⟩ := Option.bind_eq_some_iff.mp h1
     (try simp only at hfr)
     (try simp only at h1)
     have HBF := Aside0.mk hbf
     have HFR := Aside0.mk hfr
     have HP2 := Aside0.mk h2
     have HE := Aside0.mk e1
     have HG := Aside0.mk hgg
     obtain ⟨A, c, rfl⟩ := Kd.R_slice HS.out.rW
     obtain ⟨Ab, cb, rfl⟩ := Kd.R_slice HS.out.rB
     clear hbf hfr h2 e1 hgg HP ed hp
     have hcl7 : wr.cell? ⟨gl, 0, none⟩ = some (.slice (some al) l.length c0) := (blk_cell HS.out.cl 0).trans rfl
     go_wp2
     clear hcl7
     have hT_ := H1.out (ys ++ acc) wr wr.drew HYS.out (fun k hk => rfl) HT.out
     replace HT := Aside0.mk hT_
     clear hT_
     replace HS := Aside0.mk (HS.out.below (below_drew (Below.refl _ wr)))
     replace HB := Aside0.mk (below_drew HB.out)
     refine start_ (n := 11) (S := fun w' => w'.cell? ⟨gl, 0, none⟩ = some (.slice (some al) l.length c0) ∧ w'.cell? ⟨gi, 0, none⟩ = some (.slice (some ai) idx.length ci) ∧ w'.cell? (ai.add ways.length) = some (.int .i64 j) ∧ w'.cell? (al.add (j.toNat * 3)) = some (.string x.f0) ∧ w'.cell? ⟨(al.add (j.toNat * 3)).block, (al.add (j.toNat * 3)).off + 1, none⟩ = some (.int .i64 x.f1) ∧ w'.cell? ⟨(al.add (j.toNat * 3)).block, (al.add (j.toNat * 3)).off + 2, none⟩ = some (.int .i64 x.f2)) (ds := []) place7.mkE (by kernel_rfl) rfl rfl ⟨(blk_cell HS.out.cl 0).trans rfl, (blk_cell HS.out.ci 0).trans rfl, HS.out.rI.at_ HB.out HN.out HJ.out, bc_ HB.out Z1.out, bc_ HB.out Z2.out, bc_ HB.out Z3.out⟩ (fun hHeld => ?_); refine with_tabW place7.tab place7.bits (fun HT_ HW_ => ?_)
     generalize wr.drew = W at HS HT HB hHeld ⊢
     refine pz_ HT_ 2 (some 26) place7.mk2 ?_
     refine pz_ HT_ 7 (some 31) place7.mk2_7 ?_
     refine tk_ HT_ HW_ hHeld 0 (some 24) place7.mk0_2_7 ?_
     refine tk_ HT_ HW_ hHeld 1 (some 25) place7.mk0_1_2_7 ?_
     refine pz_ HT_ 3 (some 27) place7.mk0_1_2_3_7 ?_
     refine tk_ HT_ HW_ hHeld 4 (some 28) place7.mk0_1_2_3_4_7 ?_
     refine pz_ HT_ 5 (some 29) place7.mk0_1_2_3_4_5_7 ?_
     refine tk_ HT_ HW_ hHeld 6 (some 30) place7.mk0_1_2_3_4_5_6_7 ?_
     refine join_ (σ := Nat) 1 place7.mk0_1_2_3_4_5_6_7_8_9 (fun s_ => [(32, .agg #[.int .i64 b0, .int .i64 b1, .int .i64 b2, .int .i64 b3]), (9, .pointer (some ⟨s_, 0, none⟩))]) (fun s_ w' => (w'.cell? ⟨gl, 0, none⟩ = some (.slice (some al) l.length c0) ∧ w'.cell? ⟨gi, 0, none⟩ = some (.slice (some ai) idx.length ci) ∧ w'.cell? (ai.add ways.length) = some (.int .i64 j) ∧ w'.cell? (al.add (j.toNat * 3)) = some (.string x.f0) ∧ w'.cell? ⟨(al.add (j.toNat * 3)).block, (al.add (j.toNat * 3)).off + 1, none⟩ = some (.int .i64 x.f1) ∧ w'.cell? ⟨(al.add (j.toNat * 3)).block, (al.add (j.toNat * 3)).off + 2, none⟩ = some (.int .i64 x.f2)) ∧ PlS (fun k => Y k ∨ k = s_) w' w0 gw gi gy gl gb gf (.slice A ways.length c) (.slice A ways.length c) (.slice (some ai) idx.length ci) (.slice (some al) l.length c0) (.slice Ab boxes.length cb) (.slice Ab boxes.length cb) (.func (.func gyf) #[] lby) (.func (.func 102) #[] #[.pointer (some ⟨gw, 0, none⟩), .pointer (some ⟨gi, 0, none⟩), .pointer (some ⟨gy, 0, none⟩), .pointer (some ⟨gl, 0, none⟩), .pointer (some ⟨gb, 0, none⟩), .pointer (some ⟨gf, 0, none⟩)]) ways idx boxes ∧ St (ys ++ acc) w' ∧ Below w0.heap.size w0 w' ∧ w'.heap[s_]? = some (.cells #[.int .i64 0, .int .i64 0, .int .i64 0, .int .i64 0] 26 (0, 0)) ∧ w0.heap.size ≤ s_ ∧ ¬ Y s_) ?_ ?_
     rotate_left
     ·
      intro hCont
      refine two_ (i := 8) (j := 9) (Ni := some 32) (Nj := some 9) place7.mk0_1_2_3_4_5_6_7_8 place7.mk0_1_2_3_4_5_6_7_9 rfl rfl rfl rfl (two_of HT_.out (by kernel_rfl)) (by decide) (by decide) (fun K hK => ?_) (fun K hK => ?_)
      ·
       skip
       refine gs_ Tryd.func59 #[.agg #[.string x.f0, .int .i64 x.f1, .int .i64 x.f2], .int .i64 (kk : Int)] ?_
       with_reducible refine (impl_boxFor.calls x.f0 x.f1 x.f2 (kk : Int) b0 b1 b2 b3 _ HBF.out).mono ?_
       rintro e W1 ⟨rfl, hb⟩
       refine ⟨_, rfl, ?_⟩
       have hT_ := H1.out (ys ++ acc) W W1 HYS.out (fun k hk => (hb).block k (HS.out.ys k hk)) HT.out
       replace HT := Aside0.mk hT_
       clear hT_
       replace HS := Aside0.mk (HS.out.below hb)
       replace HB := Aside0.mk (below_step HB.out hb)
       clear hb
       refine hK.out _ _ ⟨(blk_cell HS.out.cl 0).trans rfl, (blk_cell HS.out.ci 0).trans rfl, HS.out.rI.at_ HB.out HN.out HJ.out, bc_ HB.out Z1.out, bc_ HB.out Z2.out, bc_ HB.out Z3.out⟩ (fun hHeld => ?_)
       clear hK K
       refine na_ ?_
       refine one_ (i := 9) (N := some 9) place7.mk0_1_2_3_4_5_6_7_8_9 rfl rfl (one_of HT_.out (by kernel_rfl)) (by decide) (fun K hK => ?_)
       refine box_step ?hg (N := 9) ?hd (cs := #[.int .i64 0, .int .i64 0, .int .i64 0, .int .i64 0]) (t := 26) ?hr ?_; (case hd => rfl); (case hg => rfl); (case hr => first | (go_simp; done) | (go_simp; rfl))
       intro s_ hg W2 hbox hb
       have hT_ := H1.out (ys ++ acc) W1 W2 HYS.out (fun k hk => hb.block k (HS.out.ys k hk)) HT.out
       replace HT := Aside0.mk hT_
       clear hT_
       have hge : w0.heap.size ≤ s_ := by rw [hg]; exact below_size HB.out
       have hny : ¬ Y s_ := fun y => by have := HS.out.ys s_ y; omega
       replace HS := Aside0.mk (HS.out.grow hb hg (blk_lt hbox))
       replace HB := Aside0.mk (below_step HB.out hb)
       have BX := Aside0.mk hbox
       have GE := Aside0.mk hge
       have NYS := Aside0.mk hny
       clear hb hbox hg hge hny
       refine hK.out _ _ ⟨(blk_cell HS.out.cl 0).trans rfl, (blk_cell HS.out.ci 0).trans rfl, HS.out.rI.at_ HB.out HN.out HJ.out, bc_ HB.out Z1.out, bc_ HB.out Z2.out, bc_ HB.out Z3.out⟩ (fun hHeld => ?_)
       clear hK K
       refine na_ ?_
       exact norm_ (by simp only [putAll, Act.put, List.setIfInBounds_toArray, List.set_cons_zero, List.set_cons_succ]) (hCont s_ _ ⟨hHeld, HS.out, HT.out, HB.out, BX.out, GE.out, NYS.out⟩)
      ·
       skip
       refine box_step ?hg (N := 9) ?hd (cs := #[.int .i64 0, .int .i64 0, .int .i64 0, .int .i64 0]) (t := 26) ?hr ?_; (case hd => rfl); (case hg => rfl); (case hr => first | (go_simp; done) | (go_simp; rfl))
       intro s_ hg W1 hbox hb
       have hT_ := H1.out (ys ++ acc) W W1 HYS.out (fun k hk => hb.block k (HS.out.ys k hk)) HT.out
       replace HT := Aside0.mk hT_
       clear hT_
       have hge : w0.heap.size ≤ s_ := by rw [hg]; exact below_size HB.out
       have hny : ¬ Y s_ := fun y => by have := HS.out.ys s_ y; omega
       replace HS := Aside0.mk (HS.out.grow hb hg (blk_lt hbox))
       replace HB := Aside0.mk (below_step HB.out hb)
       have BX := Aside0.mk hbox
       have GE := Aside0.mk hge
       have NYS := Aside0.mk hny
       clear hb hbox hg hge hny
       refine hK.out _ _ ⟨(blk_cell HS.out.cl 0).trans rfl, (blk_cell HS.out.ci 0).trans rfl, HS.out.rI.at_ HB.out HN.out HJ.out, bc_ HB.out Z1.out, bc_ HB.out Z2.out, bc_ HB.out Z3.out⟩ (fun hHeld => ?_)
       clear hK K
       refine na_ ?_
       refine one_ (i := 8) (N := some 32) place7.mk0_1_2_3_4_5_6_7_8_9 rfl rfl (one_of HT_.out (by kernel_rfl)) (by decide) (fun K hK => ?_)
       refine gs_ Tryd.func59 #[.agg #[.string x.f0, .int .i64 x.f1, .int .i64 x.f2], .int .i64 (kk : Int)] ?_
       with_reducible refine (impl_boxFor.calls x.f0 x.f1 x.f2 (kk : Int) b0 b1 b2 b3 _ HBF.out).mono ?_
       rintro e W2 ⟨rfl, hb⟩
       refine ⟨_, rfl, ?_⟩
       have hT_ := H1.out (ys ++ acc) W1 W2 HYS.out (fun k hk => (hb).block k (HS.out.ys k (.inl hk))) HT.out
       replace HT := Aside0.mk hT_
       clear hT_
       replace HS := Aside0.mk (HS.out.below hb)
       replace HB := Aside0.mk (below_step HB.out hb)
       replace BX := Aside0.mk (bb_ BX.out hb)
       clear hb
       refine hK.out _ _ ⟨(blk_cell HS.out.cl 0).trans rfl, (blk_cell HS.out.ci 0).trans rfl, HS.out.rI.at_ HB.out HN.out HJ.out, bc_ HB.out Z1.out, bc_ HB.out Z2.out, bc_ HB.out Z3.out⟩ (fun hHeld => ?_)
       clear hK K
       refine na_ ?_
       exact norm_ (by simp only [putAll, Act.put, List.setIfInBounds_toArray, List.set_cons_zero, List.set_cons_succ]) (hCont s_ _ ⟨hHeld, HS.out, HT.out, HB.out, BX.out, GE.out, NYS.out⟩)
     clear HS HT HB hHeld
     rintro s_ W3 ⟨hHeld, hS_, hT_, hB_, hX_, GE, hny⟩
     have NYS := Aside0.mk hny
     clear hny
     have HS := Aside0.mk hS_
     have HT := Aside0.mk hT_
     have HB := Aside0.mk hB_
     have BX := Aside0.mk hX_
     clear hS_ hT_ hB_ hX_
     refine nb_ ?_
     refine one_ (i := 10) (N := none) place7.mk0_1_2_3_4_5_6_7_8_9_10 rfl rfl (one_of HT_.out (by kernel_rfl)) (by decide) (fun K hK => ?_)
     have hs0 : W3.cell? ⟨s_, 0, none⟩ = some (.int .i64 0) := (blk_cell BX.out 0).trans rfl
     have hf0 := blk_frozen BX.out 0
     have hs1 : W3.cell? ⟨s_, 1, none⟩ = some (.int .i64 0) := (blk_cell BX.out 1).trans rfl
     have hf1 := blk_frozen BX.out 1
     have hs2 : W3.cell? ⟨s_, 2, none⟩ = some (.int .i64 0) := (blk_cell BX.out 2).trans rfl
     have hf2 := blk_frozen BX.out 2
     have hs3 : W3.cell? ⟨s_, 3, none⟩ = some (.int .i64 0) := (blk_cell BX.out 3).trans rfl
     have hf3 := blk_frozen BX.out 3
     refine skip_ (w1 := ?_) (by rfl) rfl ?_ ?_
     rotate_left
     ·
      go_simp
      rfl
     clear hs0 hs1 hs2 hs3 hf0 hf1 hf2 hf3
     have hk4 := keep4_ W3 s_ (.int .i64 b0) (.int .i64 b1) (.int .i64 b2) (.int .i64 b3)
     have hT_ := H1.out (ys ++ acc) W3 ((((W3.setCell ⟨s_, 0, none⟩ (.int .i64 b0)).setCell ⟨s_, 1, none⟩ (.int .i64 b1)).setCell ⟨s_, 2, none⟩ (.int .i64 b2)).setCell ⟨s_, 3, none⟩ (.int .i64 b3)) HYS.out (fun k hk => hk4.2 k (HS.out.ys k (.inl hk)) (fun e => NYS.out (e ▸ hk)) (by simp)) HT.out
     have hS_ := HS.out.fr (FrY.of_keep hk4 (.inr rfl))
     have hX_ := p4_ BX.out (.int .i64 b0) (.int .i64 b1) (.int .i64 b2) (.int .i64 b3)
     have hB_ := below_set (j := 3) (v := .int .i64 b3) (below_set (j := 2) (v := .int .i64 b2) (below_set (j := 1) (v := .int .i64 b1) (below_set (j := 0) (v := .int .i64 b0) HB.out GE) GE) GE) GE
     clear HS HT HB BX hk4 hHeld
     generalize ((((W3.setCell ⟨s_, 0, none⟩ (.int .i64 b0)).setCell ⟨s_, 1, none⟩ (.int .i64 b1)).setCell ⟨s_, 2, none⟩ (.int .i64 b2)).setCell ⟨s_, 3, none⟩ (.int .i64 b3)) = W4 at hT_ hS_ hX_ hB_ ⊢
     have HS := Aside0.mk hS_
     have HT := Aside0.mk hT_
     have HB := Aside0.mk hB_
     have BX := Aside0.mk hX_
     clear hS_ hT_ hB_ hX_
     refine hK.out _ _ ⟨(blk_cell HS.out.cl 0).trans rfl, (blk_cell HS.out.ci 0).trans rfl, HS.out.rI.at_ HB.out HN.out HJ.out, bc_ HB.out Z1.out, bc_ HB.out Z2.out, bc_ HB.out Z3.out⟩ (fun hHeld => ?_)
     clear hK K
     refine done_ (done_of HT_.out (by kernel_rfl)) ?_
     have hcl : W4.cell? ⟨gl, 0, none⟩ = some (.slice (some al) l.length c0) := (blk_cell HS.out.cl 0).trans rfl
     have hcx : W4.cell? ⟨gb, 0, none⟩ = some (.slice Ab boxes.length cb) := (blk_cell HS.out.cx 0).trans rfl
     have hcz0 : W4.cell? ⟨s_, 0, none⟩ = some (.int .i64 b0) := (blk_cell BX.out 0).trans rfl
     have hcz1 : W4.cell? ⟨s_, 1, none⟩ = some (.int .i64 b1) := (blk_cell BX.out 1).trans rfl
     have hcz2 : W4.cell? ⟨s_, 2, none⟩ = some (.int .i64 b2) := (blk_cell BX.out 2).trans rfl
     have hcz3 : W4.cell? ⟨s_, 3, none⟩ = some (.int .i64 b3) := (blk_cell BX.out 3).trans rfl
     cases fr with
     | false =>
      rw [if_neg (by decide)] at h1
      obtain rfl := Option.some.inj h1
      go_wp2_with ((with_reducible refine gate_callee (f := 67) rfl ?_); refine ga_ (some 35) Tryd.func67 #[.slice (some al) l.length c0, .agg #[.int .i64 b0, .int .i64 b1, .int .i64 b2, .int .i64 b3]] ?_; (with_reducible refine (impl_free.calls _ _ l b0 b1 b2 b3 false _ ?side1 ?side2 HFR.out).mono ?_); (case side1 => exact Kd.C_below HR.out HB.out); (case side2 => exact HC.out); rintro e W5 ⟨rfl, hb⟩; refine ⟨_, rfl, ?_⟩; have hT_ := H1.out (ys ++ acc) W4 W5 HYS.out (fun k hk => hb.block k (HS.out.ys k (.inl hk))) HT.out; replace HT := Aside0.mk hT_; clear hT_; replace HS := Aside0.mk (HS.out.below hb); replace HB := Aside0.mk (below_step HB.out hb); replace BX := Aside0.mk (bb_ BX.out hb); replace hcx := bc_ hb hcx; clear hb hcl hcz0 hcz1 hcz2 hcz3)
      have HSF := Aside0.mk HS.out.shrink
      go_roundg (4 - (kk + 1))
      case measure => have := HG.out; omega
      case rel => exact ⟨kk + 1, acc, rest', _, _, by omega, by omega, by go_num, ⟨HP2.out, by rw [HE.out]; rfl⟩, HYS, HSF, HT, HB⟩
     | true =>
      rw [if_pos rfl] at h1
      obtain ⟨hit, hh, h1⟩ := Option.bind_eq_some_iff.mp h1
      have HH := Aside0.mk hh
      clear hh
      cases hit with
      | true =>
       rw [if_pos rfl] at h1
       obtain rfl := Option.some.inj h1
       go_wp2_with (first | ((with_reducible refine gate_callee (f := 67) rfl ?_); refine ga_ (some 35) Tryd.func67 #[.slice (some al) l.length c0, .agg #[.int .i64 b0, .int .i64 b1, .int .i64 b2, .int .i64 b3]] ?_; (with_reducible refine (impl_free.calls _ _ l b0 b1 b2 b3 true _ ?side1 ?side2 HFR.out).mono ?_); (case side1 => exact Kd.C_below HR.out HB.out); (case side2 => exact HC.out); rintro e W5 ⟨rfl, hb⟩; refine ⟨_, rfl, ?_⟩; have hT_ := H1.out (ys ++ acc) W4 W5 HYS.out (fun k hk => hb.block k (HS.out.ys k (.inl hk))) HT.out; replace HT := Aside0.mk hT_; clear hT_; replace HS := Aside0.mk (HS.out.below hb); replace HB := Aside0.mk (below_step HB.out hb); replace BX := Aside0.mk (bb_ BX.out hb); replace hcx := bc_ hb hcx; clear hb hcl hcz0 hcz1 hcz2 hcz3) | (go_at_call 68; (with_reducible refine (hit_calls Ab cb boxes b0 b1 b2 b3 true _ ?side1 ?side2 HH.out BX.out).mono ?_); (case side1 => exact (Kd.R_reads' HS.out.rB).2.2); (case side2 => exact (Kd.R_reads' HS.out.rB).2.1); rintro e W6 ⟨rfl, hb⟩; have hT_ := H1.out (ys ++ acc) W5 W6 HYS.out (fun k hk => hb.block k (HS.out.ys k (.inl hk))) HT.out; replace HT := Aside0.mk hT_; clear hT_; replace HS := Aside0.mk (HS.out.below hb); replace HB := Aside0.mk (below_step HB.out hb); replace BX := Aside0.mk (bb_ BX.out hb); clear hb hcx))
       have HSF := Aside0.mk HS.out.shrink
       go_roundg (4 - (kk + 1))
       case measure => have := HG.out; omega
       case rel => exact ⟨kk + 1, acc, rest', _, _, by omega, by omega, by go_num, ⟨HP2.out, by rw [HE.out]; rfl⟩, HYS, HSF, HT, HB⟩
      | false =>
       rw [if_neg (by decide)] at h1
       have HPA := Aside0.mk h1
       clear h1
       go_wp2_with (first | ((with_reducible refine gate_callee (f := 67) rfl ?_); refine ga_ (some 35) Tryd.func67 #[.slice (some al) l.length c0, .agg #[.int .i64 b0, .int .i64 b1, .int .i64 b2, .int .i64 b3]] ?_; (with_reducible refine (impl_free.calls _ _ l b0 b1 b2 b3 true _ ?side1 ?side2 HFR.out).mono ?_); (case side1 => exact Kd.C_below HR.out HB.out); (case side2 => exact HC.out); rintro e W5 ⟨rfl, hb⟩; refine ⟨_, rfl, ?_⟩; have hT_ := H1.out (ys ++ acc) W4 W5 HYS.out (fun k hk => hb.block k (HS.out.ys k (.inl hk))) HT.out; replace HT := Aside0.mk hT_; clear hT_; replace HS := Aside0.mk (HS.out.below hb); replace HB := Aside0.mk (below_step HB.out hb); replace BX := Aside0.mk (bb_ BX.out hb); replace hcx := bc_ hb hcx; clear hb hcl hcz0 hcz1 hcz2 hcz3) | (go_at_call 68; (with_reducible refine (hit_calls Ab cb boxes b0 b1 b2 b3 false _ ?side1 ?side2 HH.out BX.out).mono ?_); (case side1 => exact (Kd.R_reads' HS.out.rB).2.2); (case side2 => exact (Kd.R_reads' HS.out.rB).2.1); rintro e W6 ⟨rfl, hb⟩; have hT_ := H1.out (ys ++ acc) W5 W6 HYS.out (fun k hk => hb.block k (HS.out.ys k (.inl hk))) HT.out; replace HT := Aside0.mk hT_; clear hT_; replace HS := Aside0.mk (HS.out.below hb); replace HB := Aside0.mk (below_step HB.out hb); replace BX := Aside0.mk (bb_ BX.out hb); clear hb hcx))
       have hT_ := H1.out (ys ++ acc) W6 W6.drew HYS.out (fun k hk => rfl) HT.out
       replace HT := Aside0.mk hT_
       clear hT_
       replace HS := Aside0.mk (HS.out.below (below_drew (Below.refl _ W6)))
       replace HB := Aside0.mk (below_drew HB.out)
       replace BX := Aside0.mk (blk_drew BX.out)
       refine start_ (n := 10) (S := fun w' => w'.cell? ⟨gw, 0, none⟩ = some (.slice A ways.length c) ∧ w'.cell? ⟨gb, 0, none⟩ = some (.slice Ab boxes.length cb) ∧ w'.cell? ⟨s_, 0, none⟩ = some (.int .i64 b0) ∧ w'.cell? ⟨s_, 1, none⟩ = some (.int .i64 b1) ∧ w'.cell? ⟨s_, 2, none⟩ = some (.int .i64 b2) ∧ w'.cell? ⟨s_, 3, none⟩ = some (.int .i64 b3)) (ds := [8, 9]) place9.mkE (by kernel_rfl) rfl rfl ⟨(blk_cell HS.out.cw 0).trans rfl, (blk_cell HS.out.cx 0).trans rfl, (blk_cell BX.out 0).trans rfl, (blk_cell BX.out 1).trans rfl, (blk_cell BX.out 2).trans rfl, (blk_cell BX.out 3).trans rfl⟩ (fun hHeld => ?_); refine with_tabW place9.tab place9.bits (fun HT_ HW_ => ?_)
       generalize W6.drew = W7 at HS HT HB BX hHeld ⊢
       refine pz_ HT_ 1 (some 43) place9.mk1 ?_
       refine tk_ HT_ HW_ hHeld 0 (some 42) place9.mk0_1 ?_
       refine tk_ HT_ HW_ hHeld 4 (some 46) place9.mk0_1_4 ?_
       refine tk_ HT_ HW_ hHeld 5 (some 47) place9.mk0_1_4_5 ?_
       refine join_ (σ := Nat × Nat × Option Addr × Nat) 3 place9.mk0_1_2_3_4_5_6 (fun s => [(44, .slice (some ⟨s.1, 0, none⟩) 1 1), (48, .slice (some ⟨s.2.1, 0, none⟩) 1 1), (45, .slice s.2.2.1 (ways.length + 1) s.2.2.2)]) (fun s w' => (w'.cell? ⟨gw, 0, none⟩ = some (.slice A ways.length c) ∧ w'.cell? ⟨gb, 0, none⟩ = some (.slice Ab boxes.length cb) ∧ w'.cell? ⟨s_, 0, none⟩ = some (.int .i64 b0) ∧ w'.cell? ⟨s_, 1, none⟩ = some (.int .i64 b1) ∧ w'.cell? ⟨s_, 2, none⟩ = some (.int .i64 b2) ∧ w'.cell? ⟨s_, 3, none⟩ = some (.int .i64 b3)) ∧ PlS (fun k => Y k ∨ k = s_) w' w0 gw gi gy gl gb gf (.slice A ways.length c) (.slice s.2.2.1 (ways.length + 1) s.2.2.2) (.slice (some ai) idx.length ci) (.slice (some al) l.length c0) (.slice Ab boxes.length cb) (.slice Ab boxes.length cb) (.func (.func gyf) #[] lby) (.func (.func 102) #[] #[.pointer (some ⟨gw, 0, none⟩), .pointer (some ⟨gi, 0, none⟩), .pointer (some ⟨gy, 0, none⟩), .pointer (some ⟨gl, 0, none⟩), .pointer (some ⟨gb, 0, none⟩), .pointer (some ⟨gf, 0, none⟩)]) (ways ++ [(kk : Int)]) idx boxes ∧ St (ys ++ acc) w' ∧ Below w0.heap.size w0 w' ∧ w'.heap[s_]? = some (.cells #[.int .i64 b0, .int .i64 b1, .int .i64 b2, .int .i64 b3] 26 (0, 0)) ∧ w'.heap[s.2.1]? = some (.cells #[.int .i64 b0, .int .i64 b1, .int .i64 b2, .int .i64 b3] 26 (0, 0))) ?_ ?_
       rotate_left
       ·
        intro hCont; refine two_ (i := 2) (j := 6) (Ni := some 44) (Nj := some 48) place9.mk0_1_2_4_5 place9.mk0_1_4_5_6 rfl rfl rfl rfl (two_of HT_.out (by kernel_rfl)) (by decide) (by decide) (fun K hK => ?_) (fun K hK => ?_)
        ·
         skip; refine lit_step ?hg (N := 44) ?hd (cs := #[.int .i64 (kk : Int)]) (t := 3) (n := 1) ?hr ?_; (case hd => rfl); (case hg => rfl); (case hr => first | (go_simp; done) | (go_simp; rfl)); intro g2 hg W8 hbox hb; have hT_ := H1.out (ys ++ acc) W7 W8 HYS.out (fun k hk => (hb).block k (HS.out.ys k (.inl hk))) HT.out; replace HT := Aside0.mk hT_; clear hT_; replace HS := Aside0.mk (HS.out.below hb); replace HB := Aside0.mk (below_step HB.out hb); replace BX := Aside0.mk (bb_ BX.out hb); have B2 := Aside0.mk hbox; clear hb hbox hg; refine hK.out _ _ ⟨(blk_cell HS.out.cw 0).trans rfl, (blk_cell HS.out.cx 0).trans rfl, (blk_cell BX.out 0).trans rfl, (blk_cell BX.out 1).trans rfl, (blk_cell BX.out 2).trans rfl, (blk_cell BX.out 3).trans rfl⟩ (fun hHeld => ?_); clear hK K; refine na_ ?_; refine two_ (i := 3) (j := 6) (Ni := some 45) (Nj := some 48) place9.mk0_1_2_3_4_5 place9.mk0_1_2_4_5_6 rfl rfl rfl rfl (two_of HT_.out (by kernel_rfl)) (by decide) (by decide) (fun K hK => ?_) (fun K hK => ?_)
         ·
          skip; refine Kd.R_append_rows_step (Kd.int .i64) (Rr := (Kd.int .i64).K W8) (w0 := w0) w0.heap.size (by rfl) (.tmp 42) (.tmp 44) 40 3 (.int .i64 0) 8 rfl Tryd.underlying40 info3 rfl (by decide) (by omega) (.slice A ways.length c) ways [(kk : Int)] (some ⟨g2, 0, none⟩) 1 1 (fun k => ¬ (Y k ∨ k = s_)) (fun _ => False) rfl rfl HS.out.rW (C_int1_ B2.out) (fun _ _ h => h) (fun _ h => h.elim) (fun k hk hY => by have := HS.out.ys k hY; omega) HB.out (below_size HB.out) (by have := HN.out; omega) ?_; intro v1 W9 ho hB1 hg hat; obtain ⟨A1, c1, rfl⟩ := Kd.R_slice ho; simp only [List.length_append, List.length_singleton] at ho hat ⊢; have hT_ := H1.out (ys ++ acc) W8 W9 HYS.out (fun k hk => hg.block k (HS.out.ys k (.inl hk)) (fun he => HS.out.rW.1 k he.symm (.inl hk))) HT.out; replace HT := Aside0.mk hT_; clear hT_; replace BX := Aside0.mk (blk_grown BX.out hg (fun he => HS.out.rW.1 s_ he.symm (.inr rfl))); replace HS := Aside0.mk (HS.out.appW ho hg hat); replace HB := Aside0.mk hB1; clear ho hB1 hg hat; refine hK.out _ _ ⟨(blk_cell HS.out.cw 0).trans rfl, (blk_cell HS.out.cx 0).trans rfl, (blk_cell BX.out 0).trans rfl, (blk_cell BX.out 1).trans rfl, (blk_cell BX.out 2).trans rfl, (blk_cell BX.out 3).trans rfl⟩ (fun hHeld => ?_); clear hK K; refine na_ ?_; refine one_ (i := 6) (N := some 48) place9.mk0_1_2_3_4_5_6 rfl rfl (one_of HT_.out (by kernel_rfl)) (by decide) (fun K hK => ?_); refine lit_step ?hg (N := 48) ?hd (cs := #[.int .i64 b0, .int .i64 b1, .int .i64 b2, .int .i64 b3]) (t := 26) (n := 1) ?hr ?_; (case hd => rfl); (case hg => rfl); (case hr => first | (go_simp; done) | (go_simp; rfl)); intro g6 hg W10 hbox hb; have hT_ := H1.out (ys ++ acc) W9 W10 HYS.out (fun k hk => (hb).block k (HS.out.ys k (.inl hk))) HT.out; replace HT := Aside0.mk hT_; clear hT_; replace HS := Aside0.mk (HS.out.below hb); replace HB := Aside0.mk (below_step HB.out hb); replace BX := Aside0.mk (bb_ BX.out hb); have B6 := Aside0.mk hbox; clear hb hbox hg; refine hK.out _ _ ⟨(blk_cell HS.out.cw 0).trans rfl, (blk_cell HS.out.cx 0).trans rfl, (blk_cell BX.out 0).trans rfl, (blk_cell BX.out 1).trans rfl, (blk_cell BX.out 2).trans rfl, (blk_cell BX.out 3).trans rfl⟩ (fun hHeld => ?_); clear hK K; refine na_ ?_; exact norm_ (by simp only [putAll, Act.put, List.setIfInBounds_toArray, List.set_cons_zero, List.set_cons_succ]) (hCont (g2, g6, A1, c1) _ ⟨hHeld, HS.out, HT.out, HB.out, BX.out, B6.out⟩)
         ·
          skip; refine lit_step ?hg (N := 48) ?hd (cs := #[.int .i64 b0, .int .i64 b1, .int .i64 b2, .int .i64 b3]) (t := 26) (n := 1) ?hr ?_; (case hd => rfl); (case hg => rfl); (case hr => first | (go_simp; done) | (go_simp; rfl)); intro g6 hg W9 hbox hb; have hT_ := H1.out (ys ++ acc) W8 W9 HYS.out (fun k hk => (hb).block k (HS.out.ys k (.inl hk))) HT.out; replace HT := Aside0.mk hT_; clear hT_; replace HS := Aside0.mk (HS.out.below hb); replace HB := Aside0.mk (below_step HB.out hb); replace BX := Aside0.mk (bb_ BX.out hb); replace B2 := Aside0.mk (bb_ B2.out hb); have B6 := Aside0.mk hbox; clear hb hbox hg; refine hK.out _ _ ⟨(blk_cell HS.out.cw 0).trans rfl, (blk_cell HS.out.cx 0).trans rfl, (blk_cell BX.out 0).trans rfl, (blk_cell BX.out 1).trans rfl, (blk_cell BX.out 2).trans rfl, (blk_cell BX.out 3).trans rfl⟩ (fun hHeld => ?_); clear hK K; refine na_ ?_; refine one_ (i := 3) (N := some 45) place9.mk0_1_2_3_4_5_6 rfl rfl (one_of HT_.out (by kernel_rfl)) (by decide) (fun K hK => ?_); refine Kd.R_append_rows_step (Kd.int .i64) (Rr := (Kd.int .i64).K W9) (w0 := w0) w0.heap.size (by rfl) (.tmp 42) (.tmp 44) 40 3 (.int .i64 0) 8 rfl Tryd.underlying40 info3 rfl (by decide) (by omega) (.slice A ways.length c) ways [(kk : Int)] (some ⟨g2, 0, none⟩) 1 1 (fun k => ¬ (Y k ∨ k = s_)) (fun _ => False) rfl rfl HS.out.rW (C_int1_ B2.out) (fun _ _ h => h) (fun _ h => h.elim) (fun k hk hY => by have := HS.out.ys k hY; omega) HB.out (below_size HB.out) (by have := HN.out; omega) ?_; intro v1 W10 ho hB1 hg hat; obtain ⟨A1, c1, rfl⟩ := Kd.R_slice ho; simp only [List.length_append, List.length_singleton] at ho hat ⊢; have hT_ := H1.out (ys ++ acc) W9 W10 HYS.out (fun k hk => hg.block k (HS.out.ys k (.inl hk)) (fun he => HS.out.rW.1 k he.symm (.inl hk))) HT.out; replace HT := Aside0.mk hT_; clear hT_; replace BX := Aside0.mk (blk_grown BX.out hg (fun he => HS.out.rW.1 s_ he.symm (.inr rfl))); replace B6 := Aside0.mk (blk_grown B6.out hg (own_ne (Kd.R_own HS.out.rW).choose_spec B6.out (by decide))); replace HS := Aside0.mk (HS.out.appW ho hg hat); replace HB := Aside0.mk hB1; clear ho hB1 hg hat; refine hK.out _ _ ⟨(blk_cell HS.out.cw 0).trans rfl, (blk_cell HS.out.cx 0).trans rfl, (blk_cell BX.out 0).trans rfl, (blk_cell BX.out 1).trans rfl, (blk_cell BX.out 2).trans rfl, (blk_cell BX.out 3).trans rfl⟩ (fun hHeld => ?_); clear hK K; refine na_ ?_; exact norm_ (by simp only [putAll, Act.put, List.setIfInBounds_toArray, List.set_cons_zero, List.set_cons_succ]) (hCont (g2, g6, A1, c1) _ ⟨hHeld, HS.out, HT.out, HB.out, BX.out, B6.out⟩)
        ·
         skip; refine lit_step ?hg (N := 48) ?hd (cs := #[.int .i64 b0, .int .i64 b1, .int .i64 b2, .int .i64 b3]) (t := 26) (n := 1) ?hr ?_; (case hd => rfl); (case hg => rfl); (case hr => first | (go_simp; done) | (go_simp; rfl)); intro g6 hg W8 hbox hb; have hT_ := H1.out (ys ++ acc) W7 W8 HYS.out (fun k hk => (hb).block k (HS.out.ys k (.inl hk))) HT.out; replace HT := Aside0.mk hT_; clear hT_; replace HS := Aside0.mk (HS.out.below hb); replace HB := Aside0.mk (below_step HB.out hb); replace BX := Aside0.mk (bb_ BX.out hb); have B6 := Aside0.mk hbox; clear hb hbox hg; refine hK.out _ _ ⟨(blk_cell HS.out.cw 0).trans rfl, (blk_cell HS.out.cx 0).trans rfl, (blk_cell BX.out 0).trans rfl, (blk_cell BX.out 1).trans rfl, (blk_cell BX.out 2).trans rfl, (blk_cell BX.out 3).trans rfl⟩ (fun hHeld => ?_); clear hK K; refine na_ ?_; refine one_ (i := 2) (N := some 44) place9.mk0_1_2_4_5_6 rfl rfl (one_of HT_.out (by kernel_rfl)) (by decide) (fun K hK => ?_); refine lit_step ?hg (N := 44) ?hd (cs := #[.int .i64 (kk : Int)]) (t := 3) (n := 1) ?hr ?_; (case hd => rfl); (case hg => rfl); (case hr => first | (go_simp; done) | (go_simp; rfl)); intro g2 hg W9 hbox hb; have hT_ := H1.out (ys ++ acc) W8 W9 HYS.out (fun k hk => (hb).block k (HS.out.ys k (.inl hk))) HT.out; replace HT := Aside0.mk hT_; clear hT_; replace HS := Aside0.mk (HS.out.below hb); replace HB := Aside0.mk (below_step HB.out hb); replace BX := Aside0.mk (bb_ BX.out hb); replace B6 := Aside0.mk (bb_ B6.out hb); have B2 := Aside0.mk hbox; clear hb hbox hg; refine hK.out _ _ ⟨(blk_cell HS.out.cw 0).trans rfl, (blk_cell HS.out.cx 0).trans rfl, (blk_cell BX.out 0).trans rfl, (blk_cell BX.out 1).trans rfl, (blk_cell BX.out 2).trans rfl, (blk_cell BX.out 3).trans rfl⟩ (fun hHeld => ?_); clear hK K; refine na_ ?_; refine one_ (i := 3) (N := some 45) place9.mk0_1_2_3_4_5_6 rfl rfl (one_of HT_.out (by kernel_rfl)) (by decide) (fun K hK => ?_); refine Kd.R_append_rows_step (Kd.int .i64) (Rr := (Kd.int .i64).K W9) (w0 := w0) w0.heap.size (by rfl) (.tmp 42) (.tmp 44) 40 3 (.int .i64 0) 8 rfl Tryd.underlying40 info3 rfl (by decide) (by omega) (.slice A ways.length c) ways [(kk : Int)] (some ⟨g2, 0, none⟩) 1 1 (fun k => ¬ (Y k ∨ k = s_)) (fun _ => False) rfl rfl HS.out.rW (C_int1_ B2.out) (fun _ _ h => h) (fun _ h => h.elim) (fun k hk hY => by have := HS.out.ys k hY; omega) HB.out (below_size HB.out) (by have := HN.out; omega) ?_; intro v1 W10 ho hB1 hg hat; obtain ⟨A1, c1, rfl⟩ := Kd.R_slice ho; simp only [List.length_append, List.length_singleton] at ho hat ⊢; have hT_ := H1.out (ys ++ acc) W9 W10 HYS.out (fun k hk => hg.block k (HS.out.ys k (.inl hk)) (fun he => HS.out.rW.1 k he.symm (.inl hk))) HT.out; replace HT := Aside0.mk hT_; clear hT_; replace BX := Aside0.mk (blk_grown BX.out hg (fun he => HS.out.rW.1 s_ he.symm (.inr rfl))); replace B6 := Aside0.mk (blk_grown B6.out hg (own_ne (Kd.R_own HS.out.rW).choose_spec B6.out (by decide))); replace HS := Aside0.mk (HS.out.appW ho hg hat); replace HB := Aside0.mk hB1; clear ho hB1 hg hat; refine hK.out _ _ ⟨(blk_cell HS.out.cw 0).trans rfl, (blk_cell HS.out.cx 0).trans rfl, (blk_cell BX.out 0).trans rfl, (blk_cell BX.out 1).trans rfl, (blk_cell BX.out 2).trans rfl, (blk_cell BX.out 3).trans rfl⟩ (fun hHeld => ?_); clear hK K; refine na_ ?_; exact norm_ (by simp only [putAll, Act.put, List.setIfInBounds_toArray, List.set_cons_zero, List.set_cons_succ]) (hCont (g2, g6, A1, c1) _ ⟨hHeld, HS.out, HT.out, HB.out, BX.out, B6.out⟩)
       clear HS HT HB BX hHeld
       rintro ⟨g2, g6, A1, c1⟩ W11 ⟨hHeld, hS_, hT_, hB_, hX_, hX6⟩
       simp only at hHeld hS_ hT_ hB_ hX_ hX6
       have HS := Aside0.mk hS_
       have HT := Aside0.mk hT_
       have HB := Aside0.mk hB_
       have BX := Aside0.mk hX_
       clear hS_ hT_ hB_ hX_
       refine nb_ ?_
       refine one_ (i := 7) (N := some 49) place9.mk0_1_2_3_4_5_6_7 rfl rfl (one_of HT_.out (by kernel_rfl)) (by decide) (fun K hK => ?_)
       refine Kd.R_append_rows_step k26 (Rr := k26.K W11) (w0 := w0) w0.heap.size (by rfl) (.tmp 46) (.tmp 48) 79 26 (.agg #[(.int .i64 0), (.int .i64 0), (.int .i64 0), (.int .i64 0)]) 32 rfl Tryd.underlying79 info26 rfl (by decide) (by omega) (.slice Ab boxes.length cb) boxes [(⟨b0, b1, b2, b3⟩ : S26)] (some ⟨g6, 0, none⟩) 1 1 (fun k => ¬ (Y k ∨ k = s_)) (fun _ => False) rfl rfl HS.out.rB (C_box1_ hX6) (fun x_ cs_ h_ => by obtain rfl := k26_open h_; exact k26_mkM _ _ _ x_) (fun _ h => h.elim) (fun k hk hY => by have := HS.out.ys k hY; omega) HB.out (below_size HB.out) (by have := HN.out; have := HBL.out; omega) ?_
       intro v2 W12 ho hB1 hg hat
       obtain ⟨A2, c2, rfl⟩ := Kd.R_slice ho
       simp only [List.length_append, List.length_singleton] at ho hat ⊢
       have hT_ := H1.out (ys ++ acc) W11 W12 HYS.out (fun k hk => hg.block k (HS.out.ys k (.inl hk)) (fun he => HS.out.rB.1 k he.symm (.inl hk))) HT.out
       replace HT := Aside0.mk hT_
       clear hT_
       replace BX := Aside0.mk (blk_grown BX.out hg (fun he => HS.out.rB.1 s_ he.symm (.inr rfl)))
       replace HS := Aside0.mk (HS.out.appB ho hg hat)
       replace HB := Aside0.mk hB1
       clear ho hB1 hg hat hX6
       refine hK.out _ _ ⟨(blk_cell HS.out.cw 0).trans rfl, (blk_cell HS.out.cx 0).trans rfl, (blk_cell BX.out 0).trans rfl, (blk_cell BX.out 1).trans rfl, (blk_cell BX.out 2).trans rfl, (blk_cell BX.out 3).trans rfl⟩ (fun hHeld => ?_)
       clear hK K
       refine na_ ?_
       clear BX hHeld
       refine last_ (i := 8) (N := none) place9.mk0_1_2_3_4_5_6_7_8 rfl rfl (one_of HT_.out (by kernel_rfl)) (by decide) (fun K hK => ?_)
       have hs9 : W12.cell? ⟨gw, 0, none⟩ = some (.slice A ways.length c) := (blk_cell HS.out.cw 0).trans rfl
       have hfs9 := blk_frozen HS.out.cw 0
       refine skip_ (w1 := ?_) (by rfl) rfl ?_ ?_
       rotate_left
       ·
        go_simp; rfl
       refine hK.out _ _ ?_
       clear hK K hs9 hfs9
       have hT_ := H2.out (ys ++ acc) W12 gw _ _ (.slice A1 (ways.length + 1) c1) (fun y => HS.out.yw (.inl y)) HS.out.cw (.inl rfl) HT.out
       have hS_ := HS.out.setW
       have hB_ := below_set (j := 0) (v := (.slice A1 (ways.length + 1) c1)) HB.out HS.out.bw
       clear HS HT HB
       generalize W12.setCell ⟨gw, 0, none⟩ (.slice A1 (ways.length + 1) c1) = W13 at hT_ hS_ hB_ ⊢
       have HS := Aside0.mk hS_
       have HT := Aside0.mk hT_
       have HB := Aside0.mk hB_
       clear hT_ hS_ hB_
       refine last_ (i := 9) (N := none) place9.mk0_1_2_3_4_5_6_7_8_9 rfl rfl (one_of HT_.out (by kernel_rfl)) (by decide) (fun K hK => ?_)
       have hs9 : W13.cell? ⟨gb, 0, none⟩ = some (.slice Ab boxes.length cb) := (blk_cell HS.out.cx 0).trans rfl
       have hfs9 := blk_frozen HS.out.cx 0
       refine skip_ (w1 := ?_) (by rfl) rfl ?_ ?_
       rotate_left
       ·
        go_simp; rfl
       refine hK.out _ _ ?_
       clear hK K hs9 hfs9
       have hT_ := H2.out (ys ++ acc) W13 gb _ _ (.slice A2 (boxes.length + 1) c2) (fun y => HS.out.yb (.inl y)) HS.out.cx (.inr rfl) HT.out
       have hS_ := HS.out.setB
       have hB_ := below_set (j := 0) (v := (.slice A2 (boxes.length + 1) c2)) HB.out HS.out.bb
       clear HS HT HB
       generalize W13.setCell ⟨gb, 0, none⟩ (.slice A2 (boxes.length + 1) c2) = W14 at hT_ hS_ hB_ ⊢
       have HS := Aside0.mk hS_
       have HT := Aside0.mk hT_
       have HB := Aside0.mk hB_
       clear hT_ hS_ hB_
       refine done_ (done_of HT_.out (by kernel_rfl)) ?_
       replace HS := Aside0.mk HS.out.shrink
       have hcf : W14.cell? ⟨gf, 0, none⟩ = some (.func (.func 102) #[] #[.pointer (some ⟨gw, 0, none⟩), .pointer (some ⟨gi, 0, none⟩), .pointer (some ⟨gy, 0, none⟩), .pointer (some ⟨gl, 0, none⟩), .pointer (some ⟨gb, 0, none⟩), .pointer (some ⟨gf, 0, none⟩)]) := (blk_cell HS.out.cf 0).trans rfl
       go_wp2_with (go_at_call 102; (refine (IH.out (ways ++ [(kk : Int)]) (boxes ++ [(⟨b0, b1, b2, b3⟩ : S26)]) (ys ++ acc) pa _ _ _ ?i1 ?i2 HPA.out HYS.out HS.out HT.out HB.out).mono ?_); (case i1 => have := HM.out; rw [List.length_append, List.length_singleton]; omega); (case i2 => have := HBL.out; rw [List.length_append, List.length_append, List.length_singleton, List.length_singleton]; omega); rintro e W15 ⟨rfl, ⟨vw', vb', hS_⟩, hT_, hB_⟩; clear HS HT HB hcf; have HS := Aside0.mk hS_; have HT := Aside0.mk hT_; have HB := Aside0.mk hB_; clear hS_ hT_ hB_)
       obtain ⟨A3, c3, rfl⟩ := Kd.R_slice HS.out.rW
       obtain ⟨A4, c4, rfl⟩ := Kd.R_slice HS.out.rB
       have hl3 := (Kd.R_reads' HS.out.rW).2.1
       have hl4 := (Kd.R_reads' HS.out.rB).2.1
       simp only [List.length_append, List.length_singleton] at hl3 hl4 ⊢
       replace HS := Aside0.mk (by have := HS.out; simp only [List.length_append, List.length_singleton] at this; exact this)
       have hbl := HBL.out
       have q5 : (ways.length : Int) ≤ (c3 : Int) := by omega
       have q6 : (ways.length : Int) ≤ (c4 : Int) := by omega
       clear hl3 hl4 hbl
       obtain ⟨bm, hbm⟩ : ∃ bm, resB_ ct pa = bm := ⟨_, rfl⟩
       rw [hbm]
       have HBM := Aside0.mk hbm
       clear hbm
       have hTd : St (ys ++ acc ++ resY_ ct pa) W15.drew := by
        exact H3.out _ _ HT.out
       have HT2 := Aside0.mk hTd
       clear HT hTd
       replace HS := Aside0.mk (HS.out.below (below_drew (Below.refl _ W15)))
       replace HB := Aside0.mk (below_drew HB.out)
       refine start_ (n := 8) (S := fun w' => True) (ds := []) place11.mkE (by kernel_rfl) rfl rfl trivial (fun hHeld => ?_); refine with_tabW place11.tab place11.bits (fun HT_ HW_ => ?_)
       clear hHeld
       generalize W15.drew = W16 at HS HT2 HB ⊢
       have hbl := HBL.out
       have hS2 := (HS.out.cutW (m := ways.length) (by rw [List.length_append]; omega)).cutB (m := ways.length) (by rw [List.length_append]; omega)
       rw [List.take_left' rfl, List.take_left' hbl] at hS2
       clear HS hbl
       have HS := Aside0.mk hS2
       have HT := Aside0.mk HT2.out
       clear hS2 HT2
       have hgw : W16.cell? ⟨gw, 0, none⟩ = some (.slice A3 (ways.length + 1) c3) := (blk_cell HS.out.cw 0).trans rfl
       have hgb : W16.cell? ⟨gb, 0, none⟩ = some (.slice A4 (boxes.length + 1) c4) := (blk_cell HS.out.cx 0).trans rfl
       have hgf := blk_frozen HS.out.cw 0
       have hgb2 : (W16.setCell ⟨gw, 0, none⟩ (.slice A3 ways.length c3)).cell? ⟨gb, 0, none⟩ = some (.slice A4 (boxes.length + 1) c4) := (cell_far (p := ⟨gw, 0, none⟩) (blk_ne HS.out.cx HS.out.cw (by decide)) _).trans hgb
       refine pz_ HT_ 1 (some 53) place11.mk1 ?_
       refine pz_ HT_ 4 (some 56) place11.mk1_4 ?_
       refine join_ (σ := Unit) 1 place11.mk0_1_2_3_4_5_6 (fun _ => [(52, (.slice A3 (ways.length + 1) c3)), (54, (.slice A3 ways.length c3)), (55, (.slice A4 (boxes.length + 1) c4)), (57, (.slice A4 ways.length c4))]) (fun _ w' => w' = W16.setCell ⟨gw, 0, none⟩ (.slice A3 ways.length c3)) ?_ ?_
       rotate_left
       ·
        intro hCont; refine two_ (i := 0) (j := 3) (Ni := some 52) (Nj := some 55) place11.mk0_1_4 place11.mk1_3_4 rfl rfl rfl rfl (two_of HT_.out (by kernel_rfl)) (by decide) (by decide) (fun K hK => ?_) (fun K hK => ?_)
        ·
         skip; refine value_ (w1 := ?_) (v := ?_) (by rfl) rfl ?_ ?_; rotate_left 2
         ·
          go_simp
          constructor
          ·
           rfl
          ·
           rfl
         refine hK.out _ _ trivial (fun _ => ?_); clear hK K; refine na_ ?_; refine pz_ HT_ 2 (some 54) place11.mk0_1_2_4 ?_; refine two_ (i := 3) (j := 6) (Ni := some 55) (Nj := none) place11.mk0_1_2_3_4 place11.mk0_1_2_4_6 rfl rfl rfl rfl (two_of HT_.out (by kernel_rfl)) (by decide) (by decide) (fun K hK => ?_) (fun K hK => ?_)
         ·
          skip; refine value_ (w1 := ?_) (v := ?_) (by rfl) rfl ?_ ?_; rotate_left 2
          ·
           go_simp
           constructor
           ·
            rfl
           ·
            rfl
          refine hK.out _ _ trivial (fun _ => ?_); clear hK K; refine na_ ?_; refine pz_ HT_ 5 (some 57) place11.mk0_1_2_3_4_5 ?_; refine one_ (i := 6) (N := none) place11.mk0_1_2_3_4_5_6 rfl rfl (one_of HT_.out (by kernel_rfl)) (by decide) (fun K hK => ?_); refine skip_ (w1 := ?_) (by rfl) rfl ?_ ?_; rotate_left
          ·
           go_simp; rfl
          refine hK.out _ _ trivial (fun _ => ?_); clear hK K; exact norm_ (by simp only [putAll, Act.put, List.setIfInBounds_toArray, List.set_cons_zero, List.set_cons_succ]) (hCont () _ rfl)
         ·
          skip; refine skip_ (w1 := ?_) (by rfl) rfl ?_ ?_; rotate_left
          ·
           go_simp; rfl
          refine hK.out _ _ trivial (fun _ => ?_); clear hK K; refine one_ (i := 3) (N := some 55) place11.mk0_1_2_3_4_6 rfl rfl (one_of HT_.out (by kernel_rfl)) (by decide) (fun K hK => ?_); refine value_ (w1 := ?_) (v := ?_) (by rfl) rfl ?_ ?_; rotate_left 2
          ·
           go_simp
           constructor
           ·
            rfl
           ·
            rfl
          refine hK.out _ _ trivial (fun _ => ?_); clear hK K; refine na_ ?_; refine pz_ HT_ 5 (some 57) place11.mk0_1_2_3_4_5_6 ?_; exact norm_ (by simp only [putAll, Act.put, List.setIfInBounds_toArray, List.set_cons_zero, List.set_cons_succ]) (hCont () _ rfl)
        ·
         skip; refine value_ (w1 := ?_) (v := ?_) (by rfl) rfl ?_ ?_; rotate_left 2
         ·
          go_simp
          constructor
          ·
           rfl
          ·
           rfl
         refine hK.out _ _ trivial (fun _ => ?_); clear hK K; refine na_ ?_; refine pz_ HT_ 5 (some 57) place11.mk1_3_4_5 ?_; refine one_ (i := 0) (N := some 52) place11.mk0_1_3_4_5 rfl rfl (one_of HT_.out (by kernel_rfl)) (by decide) (fun K hK => ?_); refine value_ (w1 := ?_) (v := ?_) (by rfl) rfl ?_ ?_; rotate_left 2
         ·
          go_simp
          constructor
          ·
           rfl
          ·
           rfl
         refine hK.out _ _ trivial (fun _ => ?_); clear hK K; refine na_ ?_; refine pz_ HT_ 2 (some 54) place11.mk0_1_2_3_4_5 ?_; refine one_ (i := 6) (N := none) place11.mk0_1_2_3_4_5_6 rfl rfl (one_of HT_.out (by kernel_rfl)) (by decide) (fun K hK => ?_); refine skip_ (w1 := ?_) (by rfl) rfl ?_ ?_; rotate_left
         ·
          go_simp; rfl
         refine hK.out _ _ trivial (fun _ => ?_); clear hK K; exact norm_ (by simp only [putAll, Act.put, List.setIfInBounds_toArray, List.set_cons_zero, List.set_cons_succ]) (hCont () _ rfl)
       rintro - W17 rfl
       clear hgw hgb hgf hgb2
       have hT_ := H2.out (ys ++ acc ++ resY_ ct pa) W16 gw _ _ (.slice A3 ways.length c3) HS.out.yw HS.out.cw (.inl rfl) HT.out
       have hS_ := HS.out.setW
       have hB_ := below_set (j := 0) (v := (.slice A3 ways.length c3)) HB.out HS.out.bw
       clear HS HT HB
       generalize W16.setCell ⟨gw, 0, none⟩ (.slice A3 ways.length c3) = W17 at hT_ hS_ hB_ ⊢
       have HS := Aside0.mk hS_
       have HT := Aside0.mk hT_
       have HB := Aside0.mk hB_
       clear hT_ hS_ hB_
       refine nb_ ?_
       refine one_ (i := 7) (N := none) place11.mk0_1_2_3_4_5_6_7 rfl rfl (one_of HT_.out (by kernel_rfl)) (by decide) (fun K hK => ?_)
       have hs9 : W17.cell? ⟨gb, 0, none⟩ = some (.slice A4 (boxes.length + 1) c4) := (blk_cell HS.out.cx 0).trans rfl
       have hfs9 := blk_frozen HS.out.cx 0
       refine skip_ (w1 := ?_) (by rfl) rfl ?_ ?_
       rotate_left
       ·
        go_simp; rfl
       refine hK.out _ _ trivial (fun _ => ?_)
       clear hK K
       clear hs9 hfs9
       have hT_ := H2.out (ys ++ acc ++ resY_ ct pa) W17 gb _ _ (.slice A4 ways.length c4) HS.out.yb HS.out.cx (.inr rfl) HT.out
       have hS_ := HS.out.setB
       have hB_ := below_set (j := 0) (v := (.slice A4 ways.length c4)) HB.out HS.out.bb
       clear HS HT HB
       generalize W17.setCell ⟨gb, 0, none⟩ (.slice A4 ways.length c4) = W18 at hT_ hS_ hB_ ⊢
       have HS := Aside0.mk hS_
       have HT := Aside0.mk hT_
       have HB := Aside0.mk hB_
       clear hT_ hS_ hB_
       refine done_ (done_of HT_.out (by kernel_rfl)) ?_
       cases bm with
       | true =>
        obtain ⟨r1, r2⟩ := res_go_ HYS.out HBM.out
        go_wp2
        go_roundg (4 - (kk + 1))
        case measure => have := HG.out; omega
        case rel => exact ⟨kk + 1, acc ++ pa, rest', _, _, by omega, by omega, by go_num, ⟨HP2.out, by rw [HE.out, List.append_assoc]⟩, ⟨r2⟩, HS, ⟨by have := HT.out; rw [r1, List.append_assoc] at this; exact this⟩, HB⟩
       | false =>
        obtain ⟨r1, r2⟩ := res_stop_ HYS.out HBM.out rest'
        go_wp2
        go_ret
        refine ⟨?_, ⟨_, _, HS.out⟩, ?_, HB.out⟩
        ·
         rw [HE.out, r1]
         rfl
        ·
         rw [HE.out, r2]
         exact HT.out
    ·
     have hltz : ¬ (kk : Int) < 4 := by omega
     obtain ⟨hp, e1⟩ := HP.out
     rw [List.drop_of_length_le (by show 4 ≤ kk; omega)] at hp
     unfold catM_ at hp
     obtain rfl := Option.some.inj hp
     rw [List.append_nil] at e1
     subst e1
     go_wp2
     go_ret
     refine ⟨?_, ⟨_, _, HS.out⟩, ?_, HB.out⟩
     ·
      have : resB_ ct ps = true := by
       rcases HYS.out with h | h
       ·
        rw [h]; rfl
       ·
        rw [(List.append_eq_nil_iff.1 h).2]; cases ct <;> rfl
      rw [this]
      rfl
     ·
      have : resY_ ct ps = ps := by
       rcases HYS.out with h | h
       ·
        rw [h]; rfl
       ·
        rw [(List.append_eq_nil_iff.1 h).2]; cases ct <;> rfl
      rw [this]
      exact HT.out
  ·
   rw [if_neg hj] at hp
   cases hp
theorem st_func_ (P : Program) (w : World) (a : Addr) (fn : Fn) (first captured : Array Value) (m : Mode) : (store a (.func fn first captured) m).run P w = stored P w a (.func fn first captured) m := run_store P w a _ m rfl
attribute [local go_sem] st_func_
set_option maxHeartbeats 8000000 in
set_option maxRecDepth 100000 in
theorem each_ (l : List S29) (A0 : Option Addr) (c0 : Nat) (w0 : World) (hr0 : Kd.C k29 w0 A0 l.length l) (hc0 : l.length ≤ c0) (Y : Nat → Prop) (gyf : Nat) (lby : Array Value) (egy : ∀ args w, (callFunc gyf args).run Tryd.prog w = .ok (.enter gyf args) w) (ct : Bool) (St : List (List Int) → World → Prop)
  (hst1 : ∀ ys (W W' : World), (ct = true ∨ ys = []) → (∀ k, Y k → W'.heap[k]? = W.heap[k]?) → St ys W → St ys W')
  (hst2 : ∀ ys (W : World) (g t : Nat) (cs : Array Value) (u : Value), ¬ Y g → W.heap[g]? = some (.cells cs t (0, 0)) → (t = 40 ∨ t = 79) → St ys W → St ys (W.setCell ⟨g, 0, none⟩ u))
  (hst3 : ∀ ys (W : World), St ys W → St ys W.drew)
  (hy : ∀ ys (ways : List Int) (v : Value) (W : World), (ct = true ∨ ys = []) → (∀ k, Y k → k < W.heap.size) → St ys W → (Kd.int .i64).R 3 W w0.heap.size (fun k => ¬ Y k) v ways → Below w0.heap.size w0 W → Calls Tryd.prog gyf (#[v] ++ lby) W fun e w' => e = .returned (.bool ct) ∧ St (ys ++ [ways]) w' ∧ FrY Y W w' ∧ Below w0.heap.size w0 w')
  (vi : Value) (idx : List Int) (hidx : idx.length < 1000000) (ps : List (List Int)) (w : World) (hp : plc_ l idx idx.length [] [] = some ps) (hYs : ∀ k, Y k → k < w.heap.size) (hI : IdxR Y w w0 (.slice none 0 0) vi idx) (hSt : St [] w) (hB : Below w0.heap.size w0 w) :
  Calls Tryd.prog 77 #[.slice A0 l.length c0, vi, (.func (.func gyf) #[] lby)] w fun e w' => e = .returned (.tuple #[]) ∧ St (resY_ ct ps) w' ∧ Below w0.heap.size w0 w' := by
 have HR := Aside0.mk hr0
 have HC := Aside0.mk hc0
 have HY := Aside0.mk hy
 have H1 := Aside0.mk hst1
 have H2 := Aside0.mk hst2
 have H3 := Aside0.mk hst3
 have HP := Aside0.mk hp
 have HYS := Aside0.mk hYs
 have HT := Aside0.mk hSt
 have HB := Aside0.mk hB
 obtain ⟨Ai, ci, rfl⟩ := hI.slice_
 have HI := Aside0.mk hI
 clear hr0 hc0 hy hst1 hst2 hst3 hp hYs hSt hB hI
 go_enter Tryd.func77, Tryd.ntmps77
 go_wp2_with (first | ((with_reducible refine gate_dst (N := 3) rfl ?_); refine box_event ?hg (N := 3) ?hd (cs := #[.slice A0 l.length c0]) (t := 36) ?hr ?_; (case hd => rfl); (case hg => rfl); (case hr => first | (go_simp; done) | (go_simp; rfl)); intro gl hg W1 hbox hb; have hny : ¬ Y gl := (fun y => by have := HYS.out gl y; omega); have hge : w0.heap.size ≤ gl := (by rw [hg]; exact below_size HB.out); have hT_ := H1.out [] w W1 (.inr rfl) (fun k hk => hb.block k (HYS.out k hk)) HT.out; replace HT := Aside0.mk hT_; clear hT_; replace HYS := Aside0.mk (fun k hk => Nat.lt_of_lt_of_le (HYS.out k hk) hb.size : ∀ k, Y k → k < W1.heap.size); replace HI := Aside0.mk (HI.out.step (fun k _ _ hl => hb.block k hl)); replace HB := Aside0.mk (below_step HB.out hb); have Bgl := Aside0.mk hbox; have Ngl := Aside0.mk hny; have Ggl := Aside0.mk hge; clear hg hbox hb hny hge) | ((with_reducible refine gate_dst (N := 4) rfl ?_); refine box_event ?hg (N := 4) ?hd (cs := #[.slice Ai idx.length ci]) (t := 40) ?hr ?_; (case hd => rfl); (case hg => rfl); (case hr => first | (go_simp; done) | (go_simp; rfl)); intro gi hg W2 hbox hb; have hny : ¬ Y gi := (fun y => by have := HYS.out gi y; omega); have hge : w0.heap.size ≤ gi := (by rw [hg]; exact below_size HB.out); have hT_ := H1.out [] W1 W2 (.inr rfl) (fun k hk => hb.block k (HYS.out k hk)) HT.out; replace HT := Aside0.mk hT_; clear hT_; replace HYS := Aside0.mk (fun k hk => Nat.lt_of_lt_of_le (HYS.out k hk) hb.size : ∀ k, Y k → k < W2.heap.size); replace HI := Aside0.mk (HI.out.step (fun k _ _ hl => hb.block k hl)); replace HB := Aside0.mk (below_step HB.out hb); replace Bgl := Aside0.mk (bb_ Bgl.out hb); have Bgi := Aside0.mk hbox; have Ngi := Aside0.mk hny; have Ggi := Aside0.mk hge; clear hg hbox hb hny hge) | ((with_reducible refine gate_dst (N := 5) rfl ?_); refine box_event ?hg (N := 5) ?hd (cs := #[(.func (.func gyf) #[] lby)]) (t := 91) ?hr ?_; (case hd => rfl); (case hg => rfl); (case hr => first | (go_simp; done) | (go_simp; rfl)); intro gy hg W3 hbox hb; have hny : ¬ Y gy := (fun y => by have := HYS.out gy y; omega); have hge : w0.heap.size ≤ gy := (by rw [hg]; exact below_size HB.out); have hT_ := H1.out [] W2 W3 (.inr rfl) (fun k hk => hb.block k (HYS.out k hk)) HT.out; replace HT := Aside0.mk hT_; clear hT_; replace HYS := Aside0.mk (fun k hk => Nat.lt_of_lt_of_le (HYS.out k hk) hb.size : ∀ k, Y k → k < W3.heap.size); replace HI := Aside0.mk (HI.out.step (fun k _ _ hl => hb.block k hl)); replace HB := Aside0.mk (below_step HB.out hb); replace Bgl := Aside0.mk (bb_ Bgl.out hb); replace Bgi := Aside0.mk (bb_ Bgi.out hb); have Bgy := Aside0.mk hbox; have Ngy := Aside0.mk hny; have Ggy := Aside0.mk hge; clear hg hbox hb hny hge) | ((with_reducible refine gate_dst (N := 6) rfl ?_); refine box_event ?hg (N := 6) ?hd (cs := #[.slice none 0 0]) (t := 40) ?hr ?_; (case hd => rfl); (case hg => rfl); (case hr => first | (go_simp; done) | (go_simp; rfl)); intro gw hg W4 hbox hb; have hny : ¬ Y gw := (fun y => by have := HYS.out gw y; omega); have hge : w0.heap.size ≤ gw := (by rw [hg]; exact below_size HB.out); have hne : gi ≠ gw := nl_ hg Bgi.out; have NE := Aside0.mk hne; clear hne; have hT_ := H1.out [] W3 W4 (.inr rfl) (fun k hk => hb.block k (HYS.out k hk)) HT.out; replace HT := Aside0.mk hT_; clear hT_; replace HYS := Aside0.mk (fun k hk => Nat.lt_of_lt_of_le (HYS.out k hk) hb.size : ∀ k, Y k → k < W4.heap.size); replace HI := Aside0.mk (HI.out.step (fun k _ _ hl => hb.block k hl)); replace HB := Aside0.mk (below_step HB.out hb); replace Bgl := Aside0.mk (bb_ Bgl.out hb); replace Bgi := Aside0.mk (bb_ Bgi.out hb); replace Bgy := Aside0.mk (bb_ Bgy.out hb); have Bgw := Aside0.mk hbox; have Ngw := Aside0.mk hny; have Ggw := Aside0.mk hge; clear hg hbox hb hny hge) | ((with_reducible refine gate_dst (N := 7) rfl ?_); refine box_event ?hg (N := 7) ?hd (cs := #[.slice none 0 0]) (t := 79) ?hr ?_; (case hd => rfl); (case hg => rfl); (case hr => first | (go_simp; done) | (go_simp; rfl)); intro gb hg W5 hbox hb; have hny : ¬ Y gb := (fun y => by have := HYS.out gb y; omega); have hge : w0.heap.size ≤ gb := (by rw [hg]; exact below_size HB.out); have hT_ := H1.out [] W4 W5 (.inr rfl) (fun k hk => hb.block k (HYS.out k hk)) HT.out; replace HT := Aside0.mk hT_; clear hT_; replace HYS := Aside0.mk (fun k hk => Nat.lt_of_lt_of_le (HYS.out k hk) hb.size : ∀ k, Y k → k < W5.heap.size); replace HI := Aside0.mk (HI.out.step (fun k _ _ hl => hb.block k hl)); replace HB := Aside0.mk (below_step HB.out hb); replace Bgl := Aside0.mk (bb_ Bgl.out hb); replace Bgi := Aside0.mk (bb_ Bgi.out hb); replace Bgy := Aside0.mk (bb_ Bgy.out hb); replace Bgw := Aside0.mk (bb_ Bgw.out hb); have Bgb := Aside0.mk hbox; have Ngb := Aside0.mk hny; have Ggb := Aside0.mk hge; clear hg hbox hb hny hge) | ((with_reducible refine gate_dst (N := 8) rfl ?_); refine box_event ?hg (N := 8) ?hd (cs := #[.nilFunc]) (t := 108) ?hr ?_; (case hd => rfl); (case hg => rfl); (case hr => first | (go_simp; done) | (go_simp; rfl)); intro gf hg W6 hbox hb; have hny : ¬ Y gf := (fun y => by have := HYS.out gf y; omega); have hge : w0.heap.size ≤ gf := (by rw [hg]; exact below_size HB.out); have hT_ := H1.out [] W5 W6 (.inr rfl) (fun k hk => hb.block k (HYS.out k hk)) HT.out; replace HT := Aside0.mk hT_; clear hT_; replace HYS := Aside0.mk (fun k hk => Nat.lt_of_lt_of_le (HYS.out k hk) hb.size : ∀ k, Y k → k < W6.heap.size); replace HI := Aside0.mk (HI.out.step (fun k _ _ hl => hb.block k hl)); replace HB := Aside0.mk (below_step HB.out hb); replace Bgl := Aside0.mk (bb_ Bgl.out hb); replace Bgi := Aside0.mk (bb_ Bgi.out hb); replace Bgy := Aside0.mk (bb_ Bgy.out hb); replace Bgw := Aside0.mk (bb_ Bgw.out hb); replace Bgb := Aside0.mk (bb_ Bgb.out hb); have Bgf := Aside0.mk hbox; have Ngf := Aside0.mk hny; have Ggf := Aside0.mk hge; clear hg hbox hb hny hge; have hsf : W6.cell? ⟨gf, 0, none⟩ = some .nilFunc := (blk_cell Bgf.out 0).trans rfl; have hff := blk_frozen Bgf.out 0) | ((with_reducible refine gate_store (t := 108) (p := 8) rfl ?_); refine store_event (t := 108) (p := 8) (v := ?vo_) (w1 := (W6.setCell ⟨gf, 0, none⟩ (.func (.func 102) #[] #[.pointer (some ⟨gw, 0, none⟩), .pointer (some ⟨gi, 0, none⟩), .pointer (some ⟨gy, 0, none⟩), .pointer (some ⟨gl, 0, none⟩), .pointer (some ⟨gb, 0, none⟩), .pointer (some ⟨gf, 0, none⟩)]))) ?hg ?ho ?hn ?hr ?_; (case ho => rfl); (case hg => rfl); (case hn => rfl); (case hr => first | (go_simp; done) | (go_simp; rfl)); intro W7 hw; have HWE := Aside0.mk hw; clear hw hsf hff; have hcf : W7.cell? ⟨gf, 0, none⟩ = some (.func (.func 102) #[] #[.pointer (some ⟨gw, 0, none⟩), .pointer (some ⟨gi, 0, none⟩), .pointer (some ⟨gy, 0, none⟩), .pointer (some ⟨gl, 0, none⟩), .pointer (some ⟨gb, 0, none⟩), .pointer (some ⟨gf, 0, none⟩)]) := (by rw [HWE.out]; exact (blk_cell (blk_put Bgf.out 0 (.func (.func 102) #[] #[.pointer (some ⟨gw, 0, none⟩), .pointer (some ⟨gi, 0, none⟩), .pointer (some ⟨gy, 0, none⟩), .pointer (some ⟨gl, 0, none⟩), .pointer (some ⟨gb, 0, none⟩), .pointer (some ⟨gf, 0, none⟩)]) rfl) 0).trans rfl)) | (go_at_call 102; have hPl : PlS Y W7 w0 gw gi gy gl gb gf (.slice none 0 0) (.slice none 0 0) (.slice Ai idx.length ci) (.slice A0 l.length c0) (.slice none 0 0) (.slice none 0 0) (.func (.func gyf) #[] lby) (.func (.func 102) #[] #[.pointer (some ⟨gw, 0, none⟩), .pointer (some ⟨gi, 0, none⟩), .pointer (some ⟨gy, 0, none⟩), .pointer (some ⟨gl, 0, none⟩), .pointer (some ⟨gb, 0, none⟩), .pointer (some ⟨gf, 0, none⟩)]) [] idx [] := (by rw [HWE.out]; exact ⟨blk_far (p := ⟨gf, 0, none⟩) Bgw.out (blk_ne Bgw.out Bgf.out (by decide)) (.func (.func 102) #[] #[.pointer (some ⟨gw, 0, none⟩), .pointer (some ⟨gi, 0, none⟩), .pointer (some ⟨gy, 0, none⟩), .pointer (some ⟨gl, 0, none⟩), .pointer (some ⟨gb, 0, none⟩), .pointer (some ⟨gf, 0, none⟩)]), blk_far (p := ⟨gf, 0, none⟩) Bgi.out (blk_ne Bgi.out Bgf.out (by decide)) (.func (.func 102) #[] #[.pointer (some ⟨gw, 0, none⟩), .pointer (some ⟨gi, 0, none⟩), .pointer (some ⟨gy, 0, none⟩), .pointer (some ⟨gl, 0, none⟩), .pointer (some ⟨gb, 0, none⟩), .pointer (some ⟨gf, 0, none⟩)]), blk_far (p := ⟨gf, 0, none⟩) Bgy.out (blk_ne Bgy.out Bgf.out (by decide)) (.func (.func 102) #[] #[.pointer (some ⟨gw, 0, none⟩), .pointer (some ⟨gi, 0, none⟩), .pointer (some ⟨gy, 0, none⟩), .pointer (some ⟨gl, 0, none⟩), .pointer (some ⟨gb, 0, none⟩), .pointer (some ⟨gf, 0, none⟩)]), blk_far (p := ⟨gf, 0, none⟩) Bgl.out (blk_ne Bgl.out Bgf.out (by decide)) (.func (.func 102) #[] #[.pointer (some ⟨gw, 0, none⟩), .pointer (some ⟨gi, 0, none⟩), .pointer (some ⟨gy, 0, none⟩), .pointer (some ⟨gl, 0, none⟩), .pointer (some ⟨gb, 0, none⟩), .pointer (some ⟨gf, 0, none⟩)]), blk_far (p := ⟨gf, 0, none⟩) Bgb.out (blk_ne Bgb.out Bgf.out (by decide)) (.func (.func 102) #[] #[.pointer (some ⟨gw, 0, none⟩), .pointer (some ⟨gi, 0, none⟩), .pointer (some ⟨gy, 0, none⟩), .pointer (some ⟨gl, 0, none⟩), .pointer (some ⟨gb, 0, none⟩), .pointer (some ⟨gf, 0, none⟩)]), blk_put Bgf.out 0 (.func (.func 102) #[] #[.pointer (some ⟨gw, 0, none⟩), .pointer (some ⟨gi, 0, none⟩), .pointer (some ⟨gy, 0, none⟩), .pointer (some ⟨gl, 0, none⟩), .pointer (some ⟨gb, 0, none⟩), .pointer (some ⟨gf, 0, none⟩)]) rfl, NE.out, Ggw.out, Ggb.out, Ngw.out, Ngi.out, Ngy.out, Ngl.out, Ngb.out, Ngf.out, fun k hk => Nat.lt_of_lt_of_le (HYS.out k hk) (KeepBut.set_ (KeepBut.refl W6 gf none) 0 (.func (.func 102) #[] #[.pointer (some ⟨gw, 0, none⟩), .pointer (some ⟨gi, 0, none⟩), .pointer (some ⟨gy, 0, none⟩), .pointer (some ⟨gl, 0, none⟩), .pointer (some ⟨gb, 0, none⟩), .pointer (some ⟨gf, 0, none⟩)])).1, HI.out.set_ Bgf.out (by decide) (.func (.func 102) #[] #[.pointer (some ⟨gw, 0, none⟩), .pointer (some ⟨gi, 0, none⟩), .pointer (some ⟨gy, 0, none⟩), .pointer (some ⟨gl, 0, none⟩), .pointer (some ⟨gb, 0, none⟩), .pointer (some ⟨gf, 0, none⟩)]), Kd.R_nil _ _ _ _ _, Kd.R_nil _ _ _ _ _⟩); have hTT : St [] W7 := (by rw [HWE.out]; exact H1.out [] W6 _ (.inr rfl) (fun k hk => Below.heap_setCell W6 ⟨gf, 0, none⟩ _ k (fun e => Ngf.out ((show k = gf from e) ▸ hk))) HT.out); have hBB : Below w0.heap.size w0 W7 := (by rw [HWE.out]; exact below_set (j := 0) HB.out Ggf.out); refine (from_ l A0 c0 w0 HR.out HC.out Y gyf lby egy ct St H1.out H2.out H3.out HY.out gw gi gy gl gb gf _ idx hidx idx.length [] [] [] ps W7 _ _ (by simp) rfl HP.out (.inr rfl) hPl hTT hBB).mono ?_; rintro e W8 ⟨rfl, hq_, hT8, hB8⟩; clear hq_ hPl hTT hBB hcf))
 first | go_end0 | ((try simp only [Exit.inBlock, Exit.then]); refine bodyPost_ret (results_none rfl _ _ _) rfl ?_)
 exact ⟨rfl, by simpa using hT8, hB8⟩
def FirstS (base gF gD : Nat) (ys : List (List Int)) (w : World) : Prop := gF < w.heap.size ∧ gD < w.heap.size ∧ ∃ v, w.heap[gF]? = some (.cells #[v] 40 (0, 0)) ∧ w.heap[gD]? = some (.cells #[.bool (!ys.isEmpty)] 4 (0, 0)) ∧ ((ys = [] ∧ v = .slice none 0 0) ∨ ∃ p, ys = [p] ∧ (Kd.int .i64).R 3 w base (fun _ => True) v p)
set_option maxHeartbeats 8000000 in
set_option maxRecDepth 100000 in
theorem firstYield_ (base gF gD : Nat) (hne : gF ≠ gD) (hbF : base ≤ gF) (hbD : base ≤ gD) (ways : List Int) (v : Value) (W w0 : World) (hw0 : base = w0.heap.size) (hS : FirstS base gF gD [] W) (hv : (Kd.int .i64).R 3 W base (fun k => ¬ (k = gF ∨ k = gD)) v ways) (hB : Below base w0 W) :
  Calls Tryd.prog 105 (#[v] ++ #[.pointer (some ⟨gF, 0, none⟩), .pointer (some ⟨gD, 0, none⟩)]) W fun e w' => e = .returned (.bool false) ∧ FirstS base gF gD ([] ++ [ways]) w' ∧ FrY (fun k => k = gF ∨ k = gD) W w' ∧ Below base w0 w' := by
 subst hw0
 show Calls Tryd.prog 105 #[v, .pointer (some ⟨gF, 0, none⟩), .pointer (some ⟨gD, 0, none⟩)] W _
 obtain ⟨l1, l2, v0, hF, hD, _⟩ := hS
 obtain ⟨A, c, rfl⟩ := Kd.R_slice hv
 have hF2 := blk_put hF 0 (.slice A ways.length c) rfl
 have hD2 : (W.setCell ⟨gF, 0, none⟩ (.slice A ways.length c)).heap[gD]? = _ := blk_far hD (p := ⟨gF, 0, none⟩) (Ne.symm hne) (.slice A ways.length c)
 have hF3 := blk_far hF2 (p := ⟨gD, 0, none⟩) hne (.bool true)
 have hD3 := blk_put hD2 0 (.bool true) rfl
 have hR1 := Kd.R_set hv hF (by decide) 0 (.slice A ways.length c)
 have hR2 := Kd.R_set hR1 hD2 (by decide) 0 (.bool true)
 have hB2 := below_set (j := 0) (v := .bool true) (below_set (j := 0) (v := .slice A ways.length c) hB hbF) hbD
 have hk : KeepBut W (W.setCell ⟨gF, 0, none⟩ (.slice A ways.length c)) gF none := KeepBut.set_ (KeepBut.refl _ _ _) 0 _
 have hk2 : KeepBut (W.setCell ⟨gF, 0, none⟩ (.slice A ways.length c)) ((W.setCell ⟨gF, 0, none⟩ (.slice A ways.length c)).setCell ⟨gD, 0, none⟩ (.bool true)) gD none := KeepBut.set_ (KeepBut.refl _ _ _) 0 _
 have hcF : W.cell? ⟨gF, 0, none⟩ = some v0 := (blk_cell hF 0).trans rfl
 have hfF := blk_frozen hF 0
 have hcD : (W.setCell ⟨gF, 0, none⟩ (.slice A ways.length c)).cell? ⟨gD, 0, none⟩ = some (.bool (!([] : List (List Int)).isEmpty)) := (blk_cell hD2 0).trans rfl
 have hfD := blk_frozen hD2 0
 have FIN : FirstS w0.heap.size gF gD [ways] ((W.setCell ⟨gF, 0, none⟩ (.slice A ways.length c)).setCell ⟨gD, 0, none⟩ (.bool true)) := ⟨blk_lt hF3, blk_lt hD3, _, hF3, hD3, .inr ⟨ways, rfl, Kd.R_mono hR2 (fun _ _ => trivial)⟩⟩
 have FRY : FrY (fun k => k = gF ∨ k = gD) W ((W.setCell ⟨gF, 0, none⟩ (.slice A ways.length c)).setCell ⟨gD, 0, none⟩ (.bool true)) := ⟨Nat.le_trans hk.1 hk2.1, fun k hl hY => (hk2.2 k (Nat.lt_of_lt_of_le hl hk.1) (fun e => hY (.inr e)) (by simp)).trans (hk.2 k hl (fun e => hY (.inl e)) (by simp))⟩
 have FA := Aside0.mk FIN
 have FB := Aside0.mk FRY
 have FC := Aside0.mk hB2
 clear hF hD hF2 hD2 hF3 hD3 hR1 hR2 hB2 hk hk2 FIN FRY hv hB
 go_enter Tryd.func105, Tryd.ntmps105
 go_wp2
 go_ret
 exact ⟨rfl, FA.out, FB.out, FC.out⟩
theorem FirstS.keep {base gF gD : Nat} {ys : List (List Int)} {W W' : World} (h : FirstS base gF gD ys W) (hy : ys = []) (hF : W'.heap[gF]? = W.heap[gF]?) (hD : W'.heap[gD]? = W.heap[gD]?) : FirstS base gF gD ys W' := by
 subst hy
 obtain ⟨l1, l2, v, h1, h2, h3⟩ := h
 rw [← hF] at h1
 rw [← hD] at h2
 refine ⟨blk_lt h1, blk_lt h2, v, h1, h2, .inl ?_⟩
 rcases h3 with h3 | ⟨p, hp, _⟩
 ·
  exact h3
 ·
  cases hp
theorem FirstS.set_ {base gF gD : Nat} {ys : List (List Int)} {W : World} (h : FirstS base gF gD ys W) {g t : Nat} {cs : Array Value} (u : Value) (hg : ¬ (g = gF ∨ g = gD)) (hc : W.heap[g]? = some (.cells cs t (0, 0))) (ht : t = 40 ∨ t = 79) : FirstS base gF gD ys (W.setCell ⟨g, 0, none⟩ u) := by
 obtain ⟨l1, l2, v, h1, h2, h3⟩ := h
 have k1 := blk_far h1 (p := ⟨g, 0, none⟩) (fun e => hg (.inl e.symm)) u
 have k2 := blk_far h2 (p := ⟨g, 0, none⟩) (fun e => hg (.inr e.symm)) u
 refine ⟨blk_lt k1, blk_lt k2, v, k1, k2, ?_⟩
 rcases h3 with h3 | ⟨p, hp, hr⟩
 ·
  exact .inl h3
 ·
  refine .inr ⟨p, hp, Kd.R_set hr hc (fun q hq => ?_) 0 u⟩
  rw [List.mem_singleton.1 hq]
  rcases ht with rfl | rfl <;> decide
theorem FirstS.drew {base gF gD : Nat} {ys : List (List Int)} {W : World} (h : FirstS base gF gD ys W) : FirstS base gF gD ys W.drew := by
 obtain ⟨l1, l2, v, h1, h2, h3⟩ := h
 refine ⟨l1, l2, v, blk_drew h1, blk_drew h2, ?_⟩
 rcases h3 with h3 | ⟨p, hp, hr⟩
 ·
  exact .inl h3
 ·
  exact .inr ⟨p, hp, Kd.R_drew hr⟩
def impl_firstPlacing.f (l0 : List S29) (l1 : List Int) : Option (List Int × Bool) :=
 if l1.length < 1000000 then (plc_ l0 l1 l1.length [] []).bind fun ps => some (ps.headD [], !ps.isEmpty) else none
def firstP4.T : Bool × List (List Nat × List Nat) := (true, [([], []), ([], []), ([0, 0], [0]), ([1, 2, 0, 1, 2], [1])])
def firstP4.B : List Nat := [0, 0, 1, 7]
theorem firstP4.tab : rtab .any (opsOf Tryd.f80 4) = firstP4.T := by kernel_rfl
theorem firstP4.bits : waitsOk firstP4.T.2 firstP4.B = true := by kernel_rfl
abbrev firstP4.mkE : Array Bool := #[false, false, false, false]
abbrev firstP4.mk0 : Array Bool := #[true, false, false, false]
abbrev firstP4.mk0_1 : Array Bool := #[true, true, false, false]
abbrev firstP4.mk0_1_2 : Array Bool := #[true, true, true, false]
abbrev firstP4.mk0_1_2_3 : Array Bool := #[true, true, true, true]
set_option maxHeartbeats 8000000 in
set_option maxRecDepth 100000 in
theorem impl_firstPlacing.calls (A0 : Option Addr) (c0 : Nat) (l0 : List S29) (A1 : Option Addr) (c1 : Nat) (l1 : List Int) (r1 : List Int) (r2 : Bool) (w : World) (hr0 : Kd.C k29 w A0 l0.length l0) (hc0 : l0.length ≤ c0) (hr1 : Kd.C (Kd.int .i64) w A1 l1.length l1) (hc1 : l1.length ≤ c1) (h : impl_firstPlacing.f l0 l1 = some (r1, r2)) :
  Calls Tryd.prog 80 #[.slice A0 l0.length c0, .slice A1 l1.length c1] w fun e w' => ∃ v0_ : Value, e = .returned (.tuple #[v0_, .bool r2]) ∧ Kd.R (Kd.int .i64) 3 w' w.heap.size (fun _ => True) v0_ r1 ∧ Below w.heap.size w w' := by
 unfold impl_firstPlacing.f at h
 by_cases hi : l1.length < 1000000
 ·
  rw [if_pos hi] at h
  obtain ⟨ps, hp, h⟩ := Option.bind_eq_some_iff.mp h
  simp only [Option.some.injEq, Prod.mk.injEq] at h
  obtain ⟨rfl, rfl⟩ := h
  have HR0 := Aside0.mk hr0
  have HC0 := Aside0.mk hc0
  have HR1 := Aside0.mk hr1
  have HC1 := Aside0.mk hc1
  have HI := Aside0.mk hi
  have HP := Aside0.mk hp
  obtain ⟨b, hb⟩ : ∃ b, (!ps.isEmpty) = b := ⟨_, rfl⟩
  rw [hb]
  have HBB := Aside0.mk hb
  clear hr0 hc0 hr1 hc1 hi hp hb
  go_enter Tryd.func80, Tryd.ntmps80
  go_wp2_with (first | ((with_reducible refine gate_dst (N := 6) rfl ?_); refine box_event ?hg (N := 6) ?hd (cs := #[.slice none 0 0]) (t := 40) ?hr ?_; (case hd => rfl); (case hg => rfl); (case hr => first | (go_simp; done) | (go_simp; rfl)); intro gF hg W1 hbox hb; have hge : w.heap.size ≤ gF := (by rw [hg]; exact Nat.le_refl _); have BF := Aside0.mk hbox; have GF := Aside0.mk hge; have HB := Aside0.mk hb; clear hg hbox hb hge) | ((with_reducible refine gate_dst (N := 7) rfl ?_); refine box_event ?hg (N := 7) ?hd (cs := #[.bool false]) (t := 4) ?hr ?_; (case hd => rfl); (case hg => rfl); (case hr => first | (go_simp; done) | (go_simp; rfl)); intro gD hg W2 hbox hb; have hge : w.heap.size ≤ gD := (by rw [hg]; exact below_size HB.out); have hne : gF ≠ gD := nl_ hg BF.out; replace BF := Aside0.mk (bb_ BF.out hb); have BD := Aside0.mk hbox; have GD := Aside0.mk hge; have NE := Aside0.mk hne; replace HB := Aside0.mk (below_step HB.out hb); clear hg hbox hb hge hne) | ((with_reducible refine gate_store (t := 4) (p := 7) rfl ?_); have hsd : W2.cell? ⟨gD, 0, none⟩ = some (.bool false) := (blk_cell BD.out 0).trans rfl; have hfd := blk_frozen BD.out 0; refine store_event (t := 4) (p := 7) (v := ?vo_) (w1 := (W2.setCell ⟨gD, 0, none⟩ (.bool false))) ?hg ?ho ?hn ?hr ?_; (case ho => rfl); (case hg => rfl); (case hn => rfl); (case hr => first | (go_simp; done) | (go_simp; rfl)); intro W3 hw; replace BF := Aside0.mk (show W3.heap[gF]? = some (.cells #[.slice none 0 0] 40 (0, 0)) from by rw [hw]; exact blk_far (p := ⟨gD, 0, none⟩) BF.out NE.out (.bool false)); replace BD := Aside0.mk (show W3.heap[gD]? = some (.cells #[.bool false] 4 (0, 0)) from by rw [hw]; exact blk_put BD.out 0 (.bool false) rfl); replace HB := Aside0.mk (show Below w.heap.size w W3 from by rw [hw]; exact below_set (j := 0) HB.out GD.out); clear hw hsd hfd) | (go_at_call 77; refine (each_ l0 A0 c0 w HR0.out HC0.out (fun k => k = gF ∨ k = gD) 105 #[.pointer (some ⟨gF, 0, none⟩), .pointer (some ⟨gD, 0, none⟩)] (fun _ _ => rfl) false (FirstS w.heap.size gF gD) (fun ys W W' h hk hS => hS.keep (h.resolve_left (by decide)) (hk _ (.inl rfl)) (hk _ (.inr rfl))) (fun ys W g t cs u hg hc ht hS => hS.set_ u hg hc ht) (fun ys W hS => hS.drew) (fun ys ways v W h hYs hS hv hB => by (obtain rfl : ys = [] := h.resolve_left (by decide)); exact firstYield_ w.heap.size gF gD NE.out GF.out GD.out ways v W w rfl hS hv hB) (.slice A1 l1.length c1) l1 HI.out ps _ HP.out (by rintro k (rfl | rfl); exact blk_lt BF.out; exact blk_lt BD.out) (.inr ⟨A1, c1, rfl, HC1.out, HR1.out⟩) ⟨blk_lt BF.out, blk_lt BD.out, _, BF.out, BD.out, .inl ⟨rfl, rfl⟩⟩ HB.out).mono ?_; rintro e W4 ⟨rfl, hS4, hB4⟩; clear BF BD HB; have HS := Aside0.mk hS4; have HB := Aside0.mk hB4; clear hS4 hB4))
  obtain ⟨_, _, v, hF, hD, hv⟩ := HS.out
  have hw : ∃ A c, v = .slice A (ps.headD []).length c ∧ (Kd.int .i64).R 3 W4 w.heap.size (fun _ => True) v (ps.headD []) := by
   cases ps with
   | nil =>
    rcases hv with ⟨_, rfl⟩ | ⟨p, hp, _⟩
    ·
     exact ⟨none, 0, rfl, Kd.R_nil _ _ _ _ _⟩
    ·
     cases hp
   | cons p t =>
    rcases hv with ⟨hp, _⟩ | ⟨p', hp, hr⟩
    ·
     cases hp
    ·
     injection hp with hp
     subst hp
     obtain ⟨A, c, e⟩ := Kd.R_slice hr
     exact ⟨A, c, e, hr⟩
  obtain ⟨A, c, rfl, hR⟩ := hw
  have eb : (!(resY_ false ps).isEmpty) = b := by rw [← HBB.out]; cases ps <;> rfl
  rw [eb] at hD
  have BF := Aside0.mk hF
  have BD := Aside0.mk hD
  have HRR := Aside0.mk (Kd.R_drew hR)
  replace HB := Aside0.mk (below_drew HB.out)
  clear hF hD hv hR HS eb
  refine start_ (n := 4) (S := fun w' => w'.cell? ⟨gF, 0, none⟩ = some (.slice A (ps.headD []).length c) ∧ w'.cell? ⟨gD, 0, none⟩ = some (.bool b)) (ds := []) firstP4.mkE (by kernel_rfl) rfl rfl ⟨(blk_cell BF.out 0).trans rfl, (blk_cell BD.out 0).trans rfl⟩ (fun hHeld => ?_); refine with_tabW firstP4.tab firstP4.bits (fun HT_ HW_ => ?_)
  generalize W4.drew = W5 at HRR HB hHeld ⊢
  refine tk_ HT_ HW_ hHeld 0 (some 12) firstP4.mk0 ?_
  refine tk_ HT_ HW_ hHeld 1 (some 13) firstP4.mk0_1 ?_
  refine pz_ HT_ 2 (some 4) firstP4.mk0_1_2 ?_
  refine pz_ HT_ 3 (some 5) firstP4.mk0_1_2_3 ?_
  refine done_ (done_of HT_.out (by kernel_rfl)) ?_
  go_wp2
  go_ret2
  exact ⟨_, rr_, HRR.out, HB.out⟩
 ·
  rw [if_neg hi] at h
  cases h
def impl_FirstPlacing.f (k : Nat) (l0 : List (S29)) : Option (List Int × Bool) := (impl_AreLabels.f l0).bind fun t472 => (if t472 = true then ((impl_allIndices.f k (l0.length : Int)).bind fun t473 => ((impl_firstPlacing.f l0 t473).bind fun bt476 => (some (bt476.1, bt476.2)))) else (some (([] : List Int), false)))
set_option maxHeartbeats 8000000 in
set_option maxRecDepth 100000 in
theorem impl_FirstPlacing.calls (k : Nat) (A0 : Option Addr) (c0 : Nat) (l0 : List (S29)) (r1 : List Int) (r2 : Bool) (w : World) (hr0 : Kd.C k29 w A0 l0.length l0) (hc0 : l0.length ≤ c0) (h : impl_FirstPlacing.f k l0 = some (r1, r2)) :
  Calls Tryd.prog 40 #[.slice A0 l0.length c0] w fun e w' => ∃ v0_ : Value, e = .returned (.tuple #[v0_, .bool r2]) ∧ Kd.R (Kd.int .i64) 3 w' w.heap.size (fun _ => True) v0_ r1 ∧ Below w.heap.size w w' := by
 have HR0 := Aside0.mk hr0
 have HC0 := Aside0.mk hc0
 clear hr0 hc0
 have HB := Aside0.mk (Below.refl w.heap.size w)
 have H : ((impl_AreLabels.f l0).bind fun t472 => (if t472 = true then ((impl_allIndices.f k (l0.length : Int)).bind fun t473 => ((impl_firstPlacing.f l0 t473).bind fun bt476 => (some (bt476.1, bt476.2)))) else (some (([] : List Int), false)))) = some (r1, r2) := h
 clear h
 replace H := Option.bind_eq_some_iff.mp H
 obtain ⟨t472, A20, H⟩ := H
 replace H : (if t472 = true then ((impl_allIndices.f k (l0.length : Int)).bind fun t473 => ((impl_firstPlacing.f l0 t473).bind fun bt476 => (some (bt476.1, bt476.2)))) else (some (([] : List Int), false))) = some (r1, r2) := H
 have A2 := Aside0.mk A20
 clear A20
 by_cases c3 : t472 = true
 ·
  subst c3
  have H1 : ((impl_allIndices.f k (l0.length : Int)).bind fun t473 => ((impl_firstPlacing.f l0 t473).bind fun bt476 => (some (bt476.1, bt476.2)))) = some (r1, r2) := by rw [if_pos rfl] at H; exact H
  clear H
  have H := H1
  clear H1
  replace H := Option.bind_eq_some_iff.mp H
  obtain ⟨t473, A40, H⟩ := H
  replace H : ((impl_firstPlacing.f l0 t473).bind fun bt476 => (some (bt476.1, bt476.2))) = some (r1, r2) := H
  have A4 := Aside0.mk A40
  clear A40
  replace H := Option.bind_eq_some_iff.mp H
  obtain ⟨⟨t476, t477⟩, A50, H⟩ := H
  replace H : (some (t476, t477)) = some (r1, r2) := H
  have A5 := Aside0.mk A50
  clear A50
  simp only [Option.some.injEq, Prod.mk.injEq] at H
  obtain ⟨rfl, rfl⟩ := H
  go_enter Tryd.func40, Tryd.ntmps40
  go_wp2_with (first | ((with_reducible refine gate_callee (f := 21) rfl ?_); refine ga_ (some 5) Tryd.func21 #[.slice A0 l0.length c0] ?_; (with_reducible refine (impl_AreLabels.calls _ _ l0 true _ ?side1 ?side2 A2.out).mono ?_); (case side1 => exact kc_ HR0.out); (case side2 => exact HC0.out); rintro e w6 ⟨rfl, hb⟩; refine ⟨_, rfl, ?_⟩; replace HB := Aside0.mk (below_step (lb0_ HB.out) hb); (try clear hb); (try clear hb2); (try clear hk); (try clear hi)) | ((with_reducible refine gate_callee (f := 78) rfl ?_); refine ga_ (some 10) Tryd.func78 #[.int .i64 (l0.length : Int)] ?_; (with_reducible refine (impl_allIndices.calls k (l0.length : Int) t473 _ A4.out).mono ?_); rintro e w7 ⟨v474, rfl, ho0, hb⟩; refine ⟨_, rfl, ?_⟩; have HO475 := Aside0.mk (Kd.R_lower ho0 (below_size (lb0_ HB.out))); replace HB := Aside0.mk (below_step (lb0_ HB.out) hb); (try clear hb); (try clear hb2); (try clear hk); (try clear hi); (try clear ho0); obtain ⟨Ao8, co8, eo8⟩ := Kd.R_slice HO475.out; subst eo8) | ((with_reducible refine gate_callee (f := 80) rfl ?_); refine ga_ (some 11) Tryd.func80 #[.slice A0 l0.length c0, .slice Ao8 t473.length co8] ?_; (with_reducible refine (impl_firstPlacing.calls _ _ l0 _ _ t473 t476 t477 _ ?side1 ?side2 ?side3 ?side4 A5.out).mono ?_); (case side1 => exact kc_ (Kd.C_below HR0.out HB.out)); (case side2 => exact HC0.out); (case side3 => exact kc_ (Kd.R_reads' HO475.out).2.2); (case side4 => exact (Kd.R_reads' HO475.out).2.1); rintro e w9 ⟨v478, rfl, ho0, hb⟩; refine ⟨_, rfl, ?_⟩; have HO479 := Aside0.mk (Kd.R_lower (Kd.R_new' ho0 (Kd.R_lt (kr_ HO475.out))) (below_size (lb0_ HB.out))); replace HO475 := Aside0.mk (Kd.R_elder' (kr_ HO475.out) (Kd.R_base ho0) hb); replace HB := Aside0.mk (below_step (lb0_ HB.out) hb); (try clear hb); (try clear hb2); (try clear hk); (try clear hi); (try clear ho0)))
  go_ret2
  exact ⟨_, rr_, krm_ HO479.out (fun _ hk => trivial), lb0_ HB.out⟩
 ·
  replace c3 := Bool.eq_false_iff.mpr c3
  subst c3
  have H1 : (some (([] : List Int), false)) = some (r1, r2) := by rw [if_neg (show ¬ (false = true) by decide)] at H; exact H
  clear H
  have H := H1
  clear H1
  simp only [Option.some.injEq, Prod.mk.injEq] at H
  obtain ⟨rfl, rfl⟩ := H
  go_enter Tryd.func40, Tryd.ntmps40
  go_wp2_with (first | ((with_reducible refine gate_callee (f := 21) rfl ?_); refine ga_ (some 5) Tryd.func21 #[.slice A0 l0.length c0] ?_; (with_reducible refine (impl_AreLabels.calls _ _ l0 false _ ?side1 ?side2 A2.out).mono ?_); (case side1 => exact kc_ HR0.out); (case side2 => exact HC0.out); rintro e w10 ⟨rfl, hb⟩; refine ⟨_, rfl, ?_⟩; replace HB := Aside0.mk (below_step (lb0_ HB.out) hb); (try clear hb); (try clear hb2); (try clear hk); (try clear hi)))
  go_ret2
  exact ⟨_, rr_, by first | exact Kd.R_nil _ _ _ _ _ | exact Kd.N_nil _ _ _ _ _ | exact Kd.V_nil _ _ _ _ _ | exact Kd.Q_nil _ _ _ _ _ | exact Kd.S_nil _ _ _ _ _, lb0_ HB.out⟩
mutual
def laws_FnExactFirstPlacing.j0 : Nat → List (S23) → List Int → Bool → List (S29) → List Int → Bool → Bool → Option (Bool)
 | 0, _, _, _, _, _, _, _ => none
 | k + 1, x0, x4, x5, x6, x7, x8, x40 => if x40 = true then (none) else ((laws_toLabelS.f k x0).bind fun t496 => ((laws_eqLabelS.f k x6 t496).bind fun t499 => (if t499 = true then ((laws_markLabelS.f k x6 1).bind fun bt500 => (if bt500.1 < 0 then (laws_FnExactFirstPlacing.j1 k x0 x4 x5 x7 true) else ((laws_eqIntS.f k x7 x4).bind fun t502 => (if t502 = true then (laws_FnExactFirstPlacing.j1 k x0 x4 x5 x7 (x8 != x5)) else (laws_FnExactFirstPlacing.j1 k x0 x4 x5 x7 true))))) else (none))))
def laws_FnExactFirstPlacing.j1 : Nat → List (S23) → List Int → Bool → List Int → Bool → Option (Bool)
 | 0, _, _, _, _, _ => none
 | k + 1, x0, x4, x5, x7, x61 => if x61 = true then (none) else ((laws_markIntS.f k x7 1).bind fun bt503 => ((laws_heldIntS.f k bt503.2 1).bind fun t505 => (if t505 < 0 then (none) else (if t505 = bt503.1 then ((laws_toLabelS.f k x0).bind fun t506 => ((impl_FirstPlacing.f k t506).bind fun bt509 => ((laws_eqIntS.f k bt509.1 x4).bind fun t513 => (if t513 = true then (laws_FnExactFirstPlacing.j2 k bt503.2 bt503.1 (bt509.2 != x5)) else (laws_FnExactFirstPlacing.j2 k bt503.2 bt503.1 true))))) else (none)))))
def laws_FnExactFirstPlacing.j2 : Nat → List Int → Int → Bool → Option (Bool)
 | 0, _, _, _ => none
 | k + 1, x7, x10, x87 => if x87 = true then (none) else ((laws_heldIntS.f k x7 1).bind fun t514 => (if t514 < 0 then (none) else (if t514 = x10 then (some true) else (none))))
end
def laws_FnExactFirstPlacing.f (k : Nat) (l0 : List (S23)) : Option (Bool) := (laws_szLabelS.f k l0 1048576).bind fun t480 => (if t480 < 0 then (some true) else ((laws_toLabelS.f k l0).bind fun t481 => ((spec_FirstPlacing.f k t481).bind fun bt484 => ((laws_toLabelS.f k l0).bind fun t488 => ((impl_FirstPlacing.f k t488).bind fun bt491 => ((laws_eqIntS.f k bt491.1 bt484.1).bind fun t495 => (if t495 = true then (laws_FnExactFirstPlacing.j0 k l0 bt484.1 bt484.2 t488 bt491.1 bt491.2 (bt491.2 != bt484.2)) else (laws_FnExactFirstPlacing.j0 k l0 bt484.1 bt484.2 t488 bt491.1 bt491.2 true))))))))
set_option maxHeartbeats 64000000 in
set_option maxRecDepth 100000 in
theorem laws_FnExactFirstPlacing.calls (k : Nat) (A0 : Option Addr) (c0 : Nat) (l0 : List (S23)) (r : Bool) (w : World) (hr0 : Kd.C k23 w A0 l0.length l0) (hc0 : l0.length ≤ c0) (h : laws_FnExactFirstPlacing.f k l0 = some r) :
  Calls Tryd.prog 9 #[.slice A0 l0.length c0] w fun e w' => e = .returned (.bool r) ∧ Below w.heap.size w w' := by
 have HR0 := Aside0.mk hr0
 have HC0 := Aside0.mk hc0
 clear hr0 hc0
 have HB := Aside0.mk (Below.refl w.heap.size w)
 have H : ((laws_szLabelS.f k l0 1048576).bind fun t480 => (if t480 < 0 then (some true) else ((laws_toLabelS.f k l0).bind fun t481 => ((spec_FirstPlacing.f k t481).bind fun bt484 => ((laws_toLabelS.f k l0).bind fun t488 => ((impl_FirstPlacing.f k t488).bind fun bt491 => ((laws_eqIntS.f k bt491.1 bt484.1).bind fun t495 => (if t495 = true then (laws_FnExactFirstPlacing.j0 k l0 bt484.1 bt484.2 t488 bt491.1 bt491.2 (bt491.2 != bt484.2)) else (laws_FnExactFirstPlacing.j0 k l0 bt484.1 bt484.2 t488 bt491.1 bt491.2 true))))))))) = some r := h
 clear h
 replace H := Option.bind_eq_some_iff.mp H
 obtain ⟨t480, A20, H⟩ := H
 replace H : (if t480 < 0 then (some true) else ((laws_toLabelS.f k l0).bind fun t481 => ((spec_FirstPlacing.f k t481).bind fun bt484 => ((laws_toLabelS.f k l0).bind fun t488 => ((impl_FirstPlacing.f k t488).bind fun bt491 => ((laws_eqIntS.f k bt491.1 bt484.1).bind fun t495 => (if t495 = true then (laws_FnExactFirstPlacing.j0 k l0 bt484.1 bt484.2 t488 bt491.1 bt491.2 (bt491.2 != bt484.2)) else (laws_FnExactFirstPlacing.j0 k l0 bt484.1 bt484.2 t488 bt491.1 bt491.2 true)))))))) = some r := H
 have A2 := Aside0.mk A20
 clear A20
 by_cases c3 : t480 < 0
 ·
  rw [if_pos c3] at H
  have c3b0 : decide (t480 < 0) = true := decide_eq_true c3
  clear c3
  obtain rfl := Option.some.inj H
  go_enter Tryd.func9, Tryd.ntmps9
  go_wp2_with (first | ((with_reducible refine gate_callee (f := 18) rfl ?_); refine ga_ (some 16) Tryd.func18 #[.slice A0 l0.length c0, .int .i64 1048576] ?_; (with_reducible refine (laws_szLabelS.calls k _ _ l0 1048576 t480 _ ?side1 ?side2 A2.out).mono ?_); (case side1 => exact kc_ HR0.out); (case side2 => exact HC0.out); rintro e w4 ⟨rfl, hb⟩; refine ⟨_, rfl, ?_⟩; replace HB := Aside0.mk (below_step (lb0_ HB.out) hb); (try clear hb); (try clear hb2); (try clear hk); (try clear hi)))
  go_ret
  exact ⟨rr_, lb0_ HB.out⟩
 ·
  rw [if_neg c3] at H
  have c3b0 : decide (t480 < 0) = false := decide_eq_false c3
  clear c3
  replace H := Option.bind_eq_some_iff.mp H
  obtain ⟨t481, A50, H⟩ := H
  replace H : ((spec_FirstPlacing.f k t481).bind fun bt484 => ((laws_toLabelS.f k l0).bind fun t488 => ((impl_FirstPlacing.f k t488).bind fun bt491 => ((laws_eqIntS.f k bt491.1 bt484.1).bind fun t495 => (if t495 = true then (laws_FnExactFirstPlacing.j0 k l0 bt484.1 bt484.2 t488 bt491.1 bt491.2 (bt491.2 != bt484.2)) else (laws_FnExactFirstPlacing.j0 k l0 bt484.1 bt484.2 t488 bt491.1 bt491.2 true)))))) = some r := H
  have A5 := Aside0.mk A50
  clear A50
  replace H := Option.bind_eq_some_iff.mp H
  obtain ⟨⟨t484, t485⟩, A60, H⟩ := H
  replace H : ((laws_toLabelS.f k l0).bind fun t488 => ((impl_FirstPlacing.f k t488).bind fun bt491 => ((laws_eqIntS.f k bt491.1 t484).bind fun t495 => (if t495 = true then (laws_FnExactFirstPlacing.j0 k l0 t484 t485 t488 bt491.1 bt491.2 (bt491.2 != t485)) else (laws_FnExactFirstPlacing.j0 k l0 t484 t485 t488 bt491.1 bt491.2 true))))) = some r := H
  have A6 := Aside0.mk A60
  clear A60
  replace H := Option.bind_eq_some_iff.mp H
  obtain ⟨t488, A70, H⟩ := H
  replace H : ((impl_FirstPlacing.f k t488).bind fun bt491 => ((laws_eqIntS.f k bt491.1 t484).bind fun t495 => (if t495 = true then (laws_FnExactFirstPlacing.j0 k l0 t484 t485 t488 bt491.1 bt491.2 (bt491.2 != t485)) else (laws_FnExactFirstPlacing.j0 k l0 t484 t485 t488 bt491.1 bt491.2 true)))) = some r := H
  have A7 := Aside0.mk A70
  clear A70
  replace H := Option.bind_eq_some_iff.mp H
  obtain ⟨⟨t491, t492⟩, A80, H⟩ := H
  replace H : ((laws_eqIntS.f k t491 t484).bind fun t495 => (if t495 = true then (laws_FnExactFirstPlacing.j0 k l0 t484 t485 t488 t491 t492 (t492 != t485)) else (laws_FnExactFirstPlacing.j0 k l0 t484 t485 t488 t491 t492 true))) = some r := H
  have A8 := Aside0.mk A80
  clear A80
  have HC9 := Aside0.mk H
  clear H
  go_enter Tryd.func9, Tryd.ntmps9
  go_upto_region 8 with (first | ((with_reducible refine gate_callee (f := 18) rfl ?_); refine ga_ (some 16) Tryd.func18 #[.slice A0 l0.length c0, .int .i64 1048576] ?_; (with_reducible refine (laws_szLabelS.calls k _ _ l0 1048576 t480 _ ?side1 ?side2 A2.out).mono ?_); (case side1 => exact kc_ HR0.out); (case side2 => exact HC0.out); rintro e w10 ⟨rfl, hb⟩; refine ⟨_, rfl, ?_⟩; replace HB := Aside0.mk (below_step (lb0_ HB.out) hb); (try clear hb); (try clear hb2); (try clear hk); (try clear hi)) | ((with_reducible refine gate_callee (f := 20) rfl ?_); refine ga_ (some 21) Tryd.func20 #[.slice A0 l0.length c0] ?_; (with_reducible refine (laws_toLabelS.calls k _ _ l0 t481 _ ?side1 ?side2 A5.out).mono ?_); (case side1 => exact kc_ (Kd.C_below HR0.out HB.out)); (case side2 => exact HC0.out); rintro e w11 ⟨v482, rfl, ho0, hb⟩; refine ⟨_, rfl, ?_⟩; have HO483 := Aside0.mk (Kd.R_lower ho0 (below_size (lb0_ HB.out))); replace HB := Aside0.mk (below_step (lb0_ HB.out) hb); (try clear hb); (try clear hb2); (try clear hk); (try clear hi); (try clear ho0); obtain ⟨Ao12, co12, eo12⟩ := Kd.R_slice HO483.out; subst eo12) | ((with_reducible refine gate_callee (f := 39) rfl ?_); refine ga_ (some 22) Tryd.func39 #[.slice Ao12 t481.length co12] ?_; (with_reducible refine (spec_FirstPlacing.calls k _ _ t481 t484 t485 _ ?side1 ?side2 A6.out).mono ?_); (case side1 => exact kc_ (Kd.R_reads' HO483.out).2.2); (case side2 => exact (Kd.R_reads' HO483.out).2.1); rintro e w13 ⟨v486, rfl, ho0, hb⟩; refine ⟨_, rfl, ?_⟩; replace HO483 := Aside0.mk (Kd.R_below (kr_ HO483.out) hb); have HO487 := Aside0.mk (Kd.R_lower ho0 (below_size (lb0_ HB.out))); replace HB := Aside0.mk (below_step (lb0_ HB.out) hb); (try clear hb); (try clear hb2); (try clear hk); (try clear hi); (try clear ho0)) | ((with_reducible refine gate_callee (f := 20) rfl ?_); refine ga_ (some 26) Tryd.func20 #[.slice A0 l0.length c0] ?_; (with_reducible refine (laws_toLabelS.calls k _ _ l0 t488 _ ?side1 ?side2 A7.out).mono ?_); (case side1 => exact kc_ (Kd.C_below HR0.out HB.out)); (case side2 => exact HC0.out); rintro e w14 ⟨v489, rfl, ho0, hb⟩; refine ⟨_, rfl, ?_⟩; replace HO487 := Aside0.mk (Kd.R_below (kr_ HO487.out) hb); have HO490 := Aside0.mk (Kd.R_lower (Kd.R_new' ho0 (Kd.R_lt (kr_ HO483.out))) (below_size (lb0_ HB.out))); replace HO483 := Aside0.mk (Kd.R_elder' (kr_ HO483.out) (Kd.R_base ho0) hb); replace HB := Aside0.mk (below_step (lb0_ HB.out) hb); (try clear hb); (try clear hb2); (try clear hk); (try clear hi); (try clear ho0); obtain ⟨Ao15, co15, eo15⟩ := Kd.R_slice HO490.out; subst eo15) | ((with_reducible refine gate_callee (f := 40) rfl ?_); refine ga_ (some 29) Tryd.func40 #[.slice Ao15 t488.length co15] ?_; (with_reducible refine (impl_FirstPlacing.calls k _ _ t488 t491 t492 _ ?side1 ?side2 A8.out).mono ?_); (case side1 => exact kc_ (Kd.R_reads' HO490.out).2.2); (case side2 => exact (Kd.R_reads' HO490.out).2.1); rintro e w16 ⟨v493, rfl, ho0, hb⟩; refine ⟨_, rfl, ?_⟩; replace HO483 := Aside0.mk (Kd.R_below (kr_ HO483.out) hb); replace HO490 := Aside0.mk (Kd.R_below (kr_ HO490.out) hb); have HO494 := Aside0.mk (Kd.R_lower (Kd.R_new' ho0 (Kd.R_lt (kr_ HO487.out))) (below_size (lb0_ HB.out))); replace HO487 := Aside0.mk (Kd.R_elder' (kr_ HO487.out) (Kd.R_base ho0) hb); replace HB := Aside0.mk (below_step (lb0_ HB.out) hb); (try clear hb); (try clear hb2); (try clear hk); (try clear hi); (try clear ho0)))
  (try simp only [Act.put, List.setIfInBounds_toArray, List.set_cons_zero, List.set_cons_succ])
  go_cut [40] (fun v40 wc => ∃ (kq : Nat) (x40_8 : Bool), v40 = .bool x40_8 ∧ Aside0 (laws_FnExactFirstPlacing.j0 kq l0 t484 t485 t488 t491 t492 x40_8 = some r) ∧ Aside0 (kq ≤ k) ∧ Aside0 (Kd.R (Kd.int .i64) 3 wc w.heap.size (fun k_ => some k_ ≠ (v493 : Value).ownBlock) v486 t484) ∧ Aside0 (Kd.R k29 29 wc w.heap.size (fun _ => True) (.slice Ao15 t488.length co15) t488) ∧ Aside0 (Kd.R (Kd.int .i64) 3 wc w.heap.size (fun k_ => some k_ ≠ (v486 : Value).ownBlock) v493 t491) ∧ Aside0 (Below w.heap.size w wc))
  case first =>
   have H := HC9.out
   clear HC9
   replace H := Option.bind_eq_some_iff.mp H
   obtain ⟨t495, A170, H⟩ := H
   replace H : (if t495 = true then (laws_FnExactFirstPlacing.j0 k l0 t484 t485 t488 t491 t492 (t492 != t485)) else (laws_FnExactFirstPlacing.j0 k l0 t484 t485 t488 t491 t492 true)) = some r := H
   have A17 := Aside0.mk A170
   clear A170
   by_cases c18 : t495 = true
   ·
    subst c18
    have H1 : (laws_FnExactFirstPlacing.j0 k l0 t484 t485 t488 t491 t492 (t492 != t485)) = some r := by rw [if_pos rfl] at H; exact H
    clear H
    have H := H1
    clear H1
    have H' := Aside0.mk H
    clear H
    obtain ⟨Ao19, co19, eo19⟩ := Kd.R_slice HO494.out
    subst eo19
    obtain ⟨Ao20, co20, eo20⟩ := Kd.R_slice HO487.out
    subst eo20
    go_wp2_with (first | ((with_reducible refine gate_callee (f := 26) rfl ?_); refine ga_ (some 34) Tryd.func26 #[.slice Ao19 t491.length co19, .slice Ao20 t484.length co20] ?_; (with_reducible refine (laws_eqIntS.calls k _ _ t491 _ _ t484 true _ ?side1 ?side2 ?side3 ?side4 A17.out).mono ?_); (case side1 => exact kc_ (Kd.R_reads' HO494.out).2.2); (case side2 => exact (Kd.R_reads' HO494.out).2.1); (case side3 => exact kc_ (Kd.R_reads' HO487.out).2.2); (case side4 => exact (Kd.R_reads' HO487.out).2.1); rintro e w' ⟨rfl, ⟨nd, rfl⟩⟩; refine ⟨_, rfl, ?_⟩))
    go_meet
    case rel => exact ⟨_, ((t492 != t485)), (by first | rfl | (simp; done) | (simp [*]; done)), H', ⟨by first | omega | exact Nat.le_refl _⟩, ⟨krm_ HO487.out (fun _ hk => hk.2)⟩, ⟨krm_ HO490.out (fun _ hk => trivial)⟩, ⟨krm_ HO494.out (fun _ hk => hk.2)⟩, ⟨lb0_ HB.out⟩⟩
   ·
    replace c18 := Bool.eq_false_iff.mpr c18
    subst c18
    have H1 : (laws_FnExactFirstPlacing.j0 k l0 t484 t485 t488 t491 t492 true) = some r := by rw [if_neg (show ¬ (false = true) by decide)] at H; exact H
    clear H
    have H := H1
    clear H1
    have H' := Aside0.mk H
    clear H
    obtain ⟨Ao21, co21, eo21⟩ := Kd.R_slice HO494.out
    subst eo21
    obtain ⟨Ao22, co22, eo22⟩ := Kd.R_slice HO487.out
    subst eo22
    go_wp2_with (first | ((with_reducible refine gate_callee (f := 26) rfl ?_); refine ga_ (some 34) Tryd.func26 #[.slice Ao21 t491.length co21, .slice Ao22 t484.length co22] ?_; (with_reducible refine (laws_eqIntS.calls k _ _ t491 _ _ t484 false _ ?side1 ?side2 ?side3 ?side4 A17.out).mono ?_); (case side1 => exact kc_ (Kd.R_reads' HO494.out).2.2); (case side2 => exact (Kd.R_reads' HO494.out).2.1); (case side3 => exact kc_ (Kd.R_reads' HO487.out).2.2); (case side4 => exact (Kd.R_reads' HO487.out).2.1); rintro e w' ⟨rfl, ⟨nd, rfl⟩⟩; refine ⟨_, rfl, ?_⟩))
    go_meet
    case rel => exact ⟨_, (true), (by first | rfl | (simp; done) | (simp [*]; done)), H', ⟨by first | omega | exact Nat.le_refl _⟩, ⟨krm_ HO487.out (fun _ hk => hk.2)⟩, ⟨krm_ HO490.out (fun _ hk => trivial)⟩, ⟨krm_ HO494.out (fun _ hk => hk.2)⟩, ⟨lb0_ HB.out⟩⟩
  case rest =>
   clear HC9
   try clear c1
   try clear c2
   try clear p2
   try clear c3
   try clear c3b0
   try clear c4
   try clear c9
   try clear c18
   try clear c20
   obtain ⟨kq, x40_8, rfl, HA, HJ8, HO_4, HO_6, HO_7, HB⟩ := hcut
   cases kq with
   | zero => exact absurd HA.out (by simp [laws_FnExactFirstPlacing.j0])
   | succ kj8 =>
    have H := HA.out
    clear HA
    simp only [laws_FnExactFirstPlacing.j0] at H
    by_cases c23 : x40_8 = true
    ·
     subst c23
     have H1 : (none) = some r := by rw [if_pos rfl] at H; exact H
     clear H
     have H := H1
     clear H1
     exact absurd H (by simp)
    ·
     replace c23 := Bool.eq_false_iff.mpr c23
     subst c23
     have H1 : ((laws_toLabelS.f kj8 l0).bind fun t496 => ((laws_eqLabelS.f kj8 t488 t496).bind fun t499 => (if t499 = true then ((laws_markLabelS.f kj8 t488 1).bind fun bt500 => (if bt500.1 < 0 then (laws_FnExactFirstPlacing.j1 kj8 l0 t484 t485 t491 true) else ((laws_eqIntS.f kj8 t491 t484).bind fun t502 => (if t502 = true then (laws_FnExactFirstPlacing.j1 kj8 l0 t484 t485 t491 (t492 != t485)) else (laws_FnExactFirstPlacing.j1 kj8 l0 t484 t485 t491 true))))) else (none)))) = some r := by rw [if_neg (show ¬ (false = true) by decide)] at H; exact H
     clear H
     have H := H1
     clear H1
     replace H := Option.bind_eq_some_iff.mp H
     obtain ⟨t496, A240, H⟩ := H
     replace H : ((laws_eqLabelS.f kj8 t488 t496).bind fun t499 => (if t499 = true then ((laws_markLabelS.f kj8 t488 1).bind fun bt500 => (if bt500.1 < 0 then (laws_FnExactFirstPlacing.j1 kj8 l0 t484 t485 t491 true) else ((laws_eqIntS.f kj8 t491 t484).bind fun t502 => (if t502 = true then (laws_FnExactFirstPlacing.j1 kj8 l0 t484 t485 t491 (t492 != t485)) else (laws_FnExactFirstPlacing.j1 kj8 l0 t484 t485 t491 true))))) else (none))) = some r := H
     have A24 := Aside0.mk A240
     clear A240
     replace H := Option.bind_eq_some_iff.mp H
     obtain ⟨t499, A250, H⟩ := H
     replace H : (if t499 = true then ((laws_markLabelS.f kj8 t488 1).bind fun bt500 => (if bt500.1 < 0 then (laws_FnExactFirstPlacing.j1 kj8 l0 t484 t485 t491 true) else ((laws_eqIntS.f kj8 t491 t484).bind fun t502 => (if t502 = true then (laws_FnExactFirstPlacing.j1 kj8 l0 t484 t485 t491 (t492 != t485)) else (laws_FnExactFirstPlacing.j1 kj8 l0 t484 t485 t491 true))))) else (none)) = some r := H
     have A25 := Aside0.mk A250
     clear A250
     by_cases c26 : t499 = true
     ·
      subst c26
      have H1 : ((laws_markLabelS.f kj8 t488 1).bind fun bt500 => (if bt500.1 < 0 then (laws_FnExactFirstPlacing.j1 kj8 l0 t484 t485 t491 true) else ((laws_eqIntS.f kj8 t491 t484).bind fun t502 => (if t502 = true then (laws_FnExactFirstPlacing.j1 kj8 l0 t484 t485 t491 (t492 != t485)) else (laws_FnExactFirstPlacing.j1 kj8 l0 t484 t485 t491 true))))) = some r := by rw [if_pos rfl] at H; exact H
      clear H
      have H := H1
      clear H1
      replace H := Option.bind_eq_some_iff.mp H
      obtain ⟨⟨t500, t501⟩, A270, H⟩ := H
      replace H : (if t500 < 0 then (laws_FnExactFirstPlacing.j1 kj8 l0 t484 t485 t491 true) else ((laws_eqIntS.f kj8 t491 t484).bind fun t502 => (if t502 = true then (laws_FnExactFirstPlacing.j1 kj8 l0 t484 t485 t491 (t492 != t485)) else (laws_FnExactFirstPlacing.j1 kj8 l0 t484 t485 t491 true)))) = some r := H
      have A27 := Aside0.mk A270
      clear A270
      have HC28 := Aside0.mk H
      clear H
      go_upto_region 14 with (first | ((with_reducible refine gate_callee (f := 20) rfl ?_); refine ga_ (some 43) Tryd.func20 #[.slice A0 l0.length c0] ?_; (with_reducible refine (laws_toLabelS.calls kj8 _ _ l0 t496 _ ?side1 ?side2 A24.out).mono ?_); (case side1 => exact kc_ (Kd.C_below HR0.out HB.out)); (case side2 => exact HC0.out); rintro e w29 ⟨v497, rfl, ho0, hb⟩; refine ⟨_, rfl, ?_⟩; replace HO_4 := Aside0.mk (Kd.R_below (kr_ HO_4.out) hb); replace HO_7 := Aside0.mk (Kd.R_below (kr_ HO_7.out) hb); have HO498 := Aside0.mk (Kd.R_lower (Kd.R_new' ho0 (Kd.R_lt (kr_ HO_6.out))) (below_size (lb0_ HB.out))); replace HO_6 := Aside0.mk (Kd.R_elder' (kr_ HO_6.out) (Kd.R_base ho0) hb); replace HB := Aside0.mk (below_step (lb0_ HB.out) hb); (try clear hb); (try clear hb2); (try clear hk); (try clear hi); (try clear ho0); obtain ⟨Ao30, co30, eo30⟩ := Kd.R_slice HO498.out; subst eo30) | ((with_reducible refine gate_callee (f := 22) rfl ?_); refine ga_ (some 44) Tryd.func22 #[.slice Ao15 t488.length co15, .slice Ao30 t496.length co30] ?_; (with_reducible refine (laws_eqLabelS.calls kj8 _ _ t488 _ _ t496 true _ ?side1 ?side2 ?side3 ?side4 A25.out).mono ?_); (case side1 => exact kc_ (Kd.R_reads' HO_6.out).2.2); (case side2 => exact (Kd.R_reads' HO_6.out).2.1); (case side3 => exact kc_ (Kd.R_reads' HO498.out).2.2); (case side4 => exact (Kd.R_reads' HO498.out).2.1); rintro e w31 ⟨rfl, hb⟩; refine ⟨_, rfl, ?_⟩; replace HO_4 := Aside0.mk (Kd.R_below (kr_ HO_4.out) hb); replace HO_6 := Aside0.mk (Kd.R_below (kr_ HO_6.out) hb); replace HO_7 := Aside0.mk (Kd.R_below (kr_ HO_7.out) hb); replace HO498 := Aside0.mk (Kd.R_below (kr_ HO498.out) hb); replace HB := Aside0.mk (below_step (lb0_ HB.out) hb); (try clear hb); (try clear hb2); (try clear hk); (try clear hi)) | ((with_reducible refine gate_callee (f := 29) rfl ?_); refine ga_ (some 48) Tryd.func29 #[.slice Ao15 t488.length co15, .int .i64 1] ?_; (with_reducible refine (laws_markLabelS.calls kj8 (fun k_ => some k_ = (.slice Ao15 t488.length co15 : Value).ownBlock) (.slice Ao15 t488.length co15) t488 1 t500 t501 w _ ?side1 ?side2 A27.out).mono ?_); (case side1 => exact lb0_ HB.out); (case side2 => exact Kd.R_tight rfl HO_6.out); rintro e w32 ⟨rfl, hy0, hb, hkp⟩; refine ⟨_, rfl, ?_⟩; replace HO_4 := Aside0.mk (Kd.R_mono (ok' := fun k_ => some k_ ≠ (v493 : Value).ownBlock) (Kd.R_keptB ((Kd.R_apart' HO_4.out (Kd.R_typed HO_6.out) (by decide))) hkp (fun k_ hk_ hs_ => (hk_.2) hs_)) (fun k_ hk_ => hk_.1.1)); replace HO_7 := Aside0.mk (Kd.R_mono (ok' := fun k_ => some k_ ≠ (v486 : Value).ownBlock) (Kd.R_keptB ((Kd.R_apart' HO_7.out (Kd.R_typed HO_6.out) (by decide))) hkp (fun k_ hk_ hs_ => (hk_.2) hs_)) (fun k_ hk_ => hk_.1.1)); replace HO_6 := Aside0.mk (Kd.R_reok rfl hy0 (fun k_ e_ => HO_6.out.1 k_ e_)); replace HO498 := Aside0.mk (Kd.R_mono (ok' := fun k_ => some k_ ≠ (.slice Ao15 t488.length co15 : Value).ownBlock) (Kd.R_keptB (HO498.out) hkp (fun k_ hk_ hs_ => (hk_.2) hs_)) (fun k_ hk_ => hk_.1.2)); replace HB := Aside0.mk (hb); (try clear hb); (try clear hkp); (try clear hy0)))
      (try simp only [Act.put, List.setIfInBounds_toArray, List.set_cons_zero, List.set_cons_succ])
      go_cut [61] (fun v61 wc => ∃ (kq : Nat) (x61_27 : Bool), v61 = .bool x61_27 ∧ Aside0 (laws_FnExactFirstPlacing.j1 kq l0 t484 t485 t491 x61_27 = some r) ∧ Aside0 (kq ≤ kj8) ∧ Aside0 (Kd.R (Kd.int .i64) 3 wc w.heap.size (fun k_ => some k_ ≠ (v493 : Value).ownBlock) v486 t484) ∧ Aside0 (Kd.R (Kd.int .i64) 3 wc w.heap.size (fun k_ => some k_ ≠ (v486 : Value).ownBlock) v493 t491) ∧ Aside0 (Below w.heap.size w wc))
      case first =>
       have H := HC28.out
       clear HC28
       by_cases c33 : t500 < 0
       ·
        rw [if_pos c33] at H
        have c33b0 : decide (t500 < 0) = true := decide_eq_true c33; clear c33
        (first | rw [c33b0] | (simp only [i64_w, i32_w]; rw [c33b0]) | skip)
        have H' := Aside0.mk H; clear H
        go_wp2
        go_meet
        case rel => exact ⟨_, (true), (by first | rfl | (simp; done) | (simp [*]; done)), H', ⟨by have := HJ8.out; first | omega | exact Nat.le_refl _⟩, ⟨kr_ HO_4.out⟩, ⟨kr_ HO_7.out⟩, ⟨lb0_ HB.out⟩⟩
       ·
        rw [if_neg c33] at H
        have c33b0 : decide (t500 < 0) = false := decide_eq_false c33; clear c33
        (first | rw [c33b0] | (simp only [i64_w, i32_w]; rw [c33b0]) | skip)
        replace H := Option.bind_eq_some_iff.mp H; obtain ⟨t502, A340, H⟩ := H; replace H : (if t502 = true then (laws_FnExactFirstPlacing.j1 kj8 l0 t484 t485 t491 (t492 != t485)) else (laws_FnExactFirstPlacing.j1 kj8 l0 t484 t485 t491 true)) = some r := H; have A34 := Aside0.mk A340; clear A340
        by_cases c35 : t502 = true
        ·
         subst c35
         have H1 : (laws_FnExactFirstPlacing.j1 kj8 l0 t484 t485 t491 (t492 != t485)) = some r := by rw [if_pos rfl] at H; exact H
         clear H; have H := H1; clear H1; have H' := Aside0.mk H; clear H; obtain ⟨Ao36, co36, eo36⟩ := Kd.R_slice HO_7.out; subst eo36; obtain ⟨Ao37, co37, eo37⟩ := Kd.R_slice HO_4.out; subst eo37
         go_wp2_with (first | (go_at_call 26; (with_reducible refine (laws_eqIntS.calls kj8 _ _ t491 _ _ t484 true _ ?side1 ?side2 ?side3 ?side4 A34.out).mono ?_); (case side1 => exact kc_ (Kd.R_reads' HO_7.out).2.2); (case side2 => exact (Kd.R_reads' HO_7.out).2.1); (case side3 => exact kc_ (Kd.R_reads' HO_4.out).2.2); (case side4 => exact (Kd.R_reads' HO_4.out).2.1); rintro e w' ⟨rfl, ⟨nd, rfl⟩⟩))
         go_meet
         case rel => exact ⟨_, ((t492 != t485)), (by first | rfl | (simp; done) | (simp [*]; done)), H', ⟨by have := HJ8.out; first | omega | exact Nat.le_refl _⟩, ⟨kr_ HO_4.out⟩, ⟨kr_ HO_7.out⟩, ⟨lb0_ HB.out⟩⟩
        ·
         replace c35 := Bool.eq_false_iff.mpr c35; subst c35
         have H1 : (laws_FnExactFirstPlacing.j1 kj8 l0 t484 t485 t491 true) = some r := by rw [if_neg (show ¬ (false = true) by decide)] at H; exact H
         clear H; have H := H1; clear H1; have H' := Aside0.mk H; clear H; obtain ⟨Ao38, co38, eo38⟩ := Kd.R_slice HO_7.out; subst eo38; obtain ⟨Ao39, co39, eo39⟩ := Kd.R_slice HO_4.out; subst eo39
         go_wp2_with (first | (go_at_call 26; (with_reducible refine (laws_eqIntS.calls kj8 _ _ t491 _ _ t484 false _ ?side1 ?side2 ?side3 ?side4 A34.out).mono ?_); (case side1 => exact kc_ (Kd.R_reads' HO_7.out).2.2); (case side2 => exact (Kd.R_reads' HO_7.out).2.1); (case side3 => exact kc_ (Kd.R_reads' HO_4.out).2.2); (case side4 => exact (Kd.R_reads' HO_4.out).2.1); rintro e w' ⟨rfl, ⟨nd, rfl⟩⟩))
         go_meet
         case rel => exact ⟨_, (true), (by first | rfl | (simp; done) | (simp [*]; done)), H', ⟨by have := HJ8.out; first | omega | exact Nat.le_refl _⟩, ⟨kr_ HO_4.out⟩, ⟨kr_ HO_7.out⟩, ⟨lb0_ HB.out⟩⟩
      case rest =>
       clear HC28
       try clear c1
       try clear c2
       try clear p2
       try clear c3
       try clear c3b0
       try clear c4
       try clear c9
       try clear c18
       try clear c20
       try clear c22
       try clear c23
       try clear c26
       try clear c29
       try clear c33
       try clear c33b0
       try clear c35
       try clear c39
       try clear p2
       obtain ⟨kq, x61_27, rfl, HA, HJ27, HO_4, HO_7, HB⟩ := hcut
       cases kq with
       | zero => exact absurd HA.out (by simp [laws_FnExactFirstPlacing.j1])
       | succ kj27 =>
        have H := HA.out; clear HA; simp only [laws_FnExactFirstPlacing.j1] at H
        by_cases c40 : x61_27 = true
        ·
         subst c40
         have H1 : (none) = some r := by rw [if_pos rfl] at H; exact H
         clear H; have H := H1; clear H1; exact absurd H (by simp)
        ·
         replace c40 := Bool.eq_false_iff.mpr c40; subst c40
         have H1 : ((laws_markIntS.f kj27 t491 1).bind fun bt503 => ((laws_heldIntS.f kj27 bt503.2 1).bind fun t505 => (if t505 < 0 then (none) else (if t505 = bt503.1 then ((laws_toLabelS.f kj27 l0).bind fun t506 => ((impl_FirstPlacing.f kj27 t506).bind fun bt509 => ((laws_eqIntS.f kj27 bt509.1 t484).bind fun t513 => (if t513 = true then (laws_FnExactFirstPlacing.j2 kj27 bt503.2 bt503.1 (bt509.2 != t485)) else (laws_FnExactFirstPlacing.j2 kj27 bt503.2 bt503.1 true))))) else (none))))) = some r := by rw [if_neg (show ¬ (false = true) by decide)] at H; exact H
         clear H; have H := H1; clear H1; replace H := Option.bind_eq_some_iff.mp H; obtain ⟨⟨t503, t504⟩, A410, H⟩ := H; replace H : ((laws_heldIntS.f kj27 t504 1).bind fun t505 => (if t505 < 0 then (none) else (if t505 = t503 then ((laws_toLabelS.f kj27 l0).bind fun t506 => ((impl_FirstPlacing.f kj27 t506).bind fun bt509 => ((laws_eqIntS.f kj27 bt509.1 t484).bind fun t513 => (if t513 = true then (laws_FnExactFirstPlacing.j2 kj27 t504 t503 (bt509.2 != t485)) else (laws_FnExactFirstPlacing.j2 kj27 t504 t503 true))))) else (none)))) = some r := H; have A41 := Aside0.mk A410; clear A410; replace H := Option.bind_eq_some_iff.mp H; obtain ⟨t505, A420, H⟩ := H; replace H : (if t505 < 0 then (none) else (if t505 = t503 then ((laws_toLabelS.f kj27 l0).bind fun t506 => ((impl_FirstPlacing.f kj27 t506).bind fun bt509 => ((laws_eqIntS.f kj27 bt509.1 t484).bind fun t513 => (if t513 = true then (laws_FnExactFirstPlacing.j2 kj27 t504 t503 (bt509.2 != t485)) else (laws_FnExactFirstPlacing.j2 kj27 t504 t503 true))))) else (none))) = some r := H; have A42 := Aside0.mk A420; clear A420
         by_cases c43 : t505 < 0
         ·
          rw [if_pos c43] at H
          exact absurd H (by simp)
         ·
          rw [if_neg c43] at H
          have c43b0 : decide (t505 < 0) = false := decide_eq_false c43; clear c43
          by_cases c44 : t505 = t503
          ·
           rw [if_pos c44] at H
           have c44b0 : (t505 == t503) = true := beq_iff_eq.mpr c44; have c44b1 : (t505 != t503) = false := bne_eq_false_iff_eq.mpr c44; clear c44; replace H := Option.bind_eq_some_iff.mp H; obtain ⟨t506, A450, H⟩ := H; replace H : ((impl_FirstPlacing.f kj27 t506).bind fun bt509 => ((laws_eqIntS.f kj27 bt509.1 t484).bind fun t513 => (if t513 = true then (laws_FnExactFirstPlacing.j2 kj27 t504 t503 (bt509.2 != t485)) else (laws_FnExactFirstPlacing.j2 kj27 t504 t503 true)))) = some r := H; have A45 := Aside0.mk A450; clear A450; replace H := Option.bind_eq_some_iff.mp H; obtain ⟨⟨t509, t510⟩, A460, H⟩ := H; replace H : ((laws_eqIntS.f kj27 t509 t484).bind fun t513 => (if t513 = true then (laws_FnExactFirstPlacing.j2 kj27 t504 t503 (t510 != t485)) else (laws_FnExactFirstPlacing.j2 kj27 t504 t503 true))) = some r := H; have A46 := Aside0.mk A460; clear A460; have HC47 := Aside0.mk H; clear H; obtain ⟨Ao48, co48, eo48⟩ := Kd.R_slice HO_7.out; subst eo48
           go_upto_region 25 with (first | ((with_reducible refine gate_callee (f := 30) rfl ?_); refine ga_ (some 64) Tryd.func30 #[.slice Ao48 t491.length co48, .int .i64 1] ?_; (with_reducible refine (laws_markIntS.calls kj27 (fun k_ => some k_ = (.slice Ao48 t491.length co48 : Value).ownBlock) (.slice Ao48 t491.length co48) t491 1 t503 t504 w _ ?side1 ?side2 A41.out).mono ?_); (case side1 => exact lb0_ HB.out); (case side2 => exact Kd.R_tight rfl HO_7.out); rintro e w49 ⟨rfl, hy0, hb, hkp⟩; refine ⟨_, rfl, ?_⟩; replace HO_4 := Aside0.mk (Kd.R_mono (ok' := fun k_ => some k_ ≠ (.slice Ao48 t491.length co48 : Value).ownBlock) (Kd.R_keptB (HO_4.out) hkp (fun k_ hk_ hs_ => (hk_) hs_)) (fun k_ hk_ => hk_.1)); replace HO_7 := Aside0.mk (Kd.R_reok rfl hy0 (fun k_ e_ => HO_7.out.1 k_ e_)); replace HB := Aside0.mk (hb); (try clear hb); (try clear hkp); (try clear hy0)) | ((with_reducible refine gate_callee (f := 31) rfl ?_); refine goesL_ (some 67) rfl rfl Tryd.func31 (by kernel_rfl) rfl #[.slice Ao48 t504.length co48, .int .i64 1] rfl (by (try simp only [List.map_toArray, List.map_cons, List.map_nil]); first | done | (rw [show t504.length = t491.length from (Kd.R_reads' HO_7.out).1.symm] <;> rfl) | rfl | (simp only [List.length_drop, List.length_take]; rfl)) ?_; (with_reducible refine (laws_heldIntS.calls kj27 _ _ t504 1 t505 _ ?side1 ?side2 A42.out).mono ?_); (case side1 => exact kc_ (Kd.R_reads' HO_7.out).2.2); (case side2 => rw [show t504.length = t491.length from (Kd.R_reads' HO_7.out).1.symm]; exact (Kd.R_reads' HO_7.out).2.1); rintro e w' ⟨rfl, ⟨nd, rfl⟩⟩; refine ⟨_, rfl, ?_⟩) | ((with_reducible refine gate_callee (f := 20) rfl ?_); refine ga_ (some 75) Tryd.func20 #[.slice A0 l0.length c0] ?_; (with_reducible refine (laws_toLabelS.calls kj27 _ _ l0 t506 _ ?side1 ?side2 A45.out).mono ?_); (case side1 => exact kc_ (Kd.C_below HR0.out (lb0_ HB.out))); (case side2 => exact HC0.out); rintro e w50 ⟨v507, rfl, ho0, hb⟩; refine ⟨_, rfl, ?_⟩; replace HO_4 := Aside0.mk (Kd.R_below (kr_ HO_4.out) hb); replace HO_7 := Aside0.mk (Kd.R_below (kr_ HO_7.out) hb); have HO508 := Aside0.mk (Kd.R_lower ho0 (below_size (lb0_ HB.out))); replace HB := Aside0.mk (below_step (lb0_ HB.out) hb); (try clear hb); (try clear hb2); (try clear hk); (try clear hi); (try clear ho0); obtain ⟨Ao51, co51, eo51⟩ := Kd.R_slice HO508.out; subst eo51) | ((with_reducible refine gate_callee (f := 40) rfl ?_); refine ga_ (some 76) Tryd.func40 #[.slice Ao51 t506.length co51] ?_; (with_reducible refine (impl_FirstPlacing.calls kj27 _ _ t506 t509 t510 _ ?side1 ?side2 A46.out).mono ?_); (case side1 => exact kc_ (Kd.R_reads' HO508.out).2.2); (case side2 => exact (Kd.R_reads' HO508.out).2.1); rintro e w52 ⟨v511, rfl, ho0, hb⟩; refine ⟨_, rfl, ?_⟩; replace HO508 := Aside0.mk (Kd.R_below (kr_ HO508.out) hb); have HO512 := Aside0.mk (Kd.R_lower (Kd.R_new' (Kd.R_new' ho0 (Kd.R_lt (kr_ HO_4.out))) (Kd.R_lt (kr_ HO_7.out))) (below_size (lb0_ HB.out))); replace HO_4 := Aside0.mk (Kd.R_elder' (kr_ HO_4.out) (Kd.R_base ho0) hb); replace HO_7 := Aside0.mk (Kd.R_elder' (kr_ HO_7.out) (Kd.R_base ho0) hb); replace HB := Aside0.mk (below_step (lb0_ HB.out) hb); (try clear hb); (try clear hb2); (try clear hk); (try clear hi); (try clear ho0)))
           (try simp only [Act.put, List.setIfInBounds_toArray, List.set_cons_zero, List.set_cons_succ])
           go_cut [87] (fun v87 wc => ∃ (kq : Nat) (x87_46 : Bool), v87 = .bool x87_46 ∧ Aside0 (laws_FnExactFirstPlacing.j2 kq t504 t503 x87_46 = some r) ∧ Aside0 (kq ≤ kj27) ∧ Aside0 (Kd.R (Kd.int .i64) 3 wc w.heap.size (fun _ => True) (.slice Ao48 t491.length co48) t504) ∧ Aside0 (Below w.heap.size w wc))
           case first =>
            have H := HC47.out; clear HC47; replace H := Option.bind_eq_some_iff.mp H; obtain ⟨t513, A530, H⟩ := H; replace H : (if t513 = true then (laws_FnExactFirstPlacing.j2 kj27 t504 t503 (t510 != t485)) else (laws_FnExactFirstPlacing.j2 kj27 t504 t503 true)) = some r := H; have A53 := Aside0.mk A530; clear A530
            by_cases c54 : t513 = true
            ·
             subst c54
             have H1 : (laws_FnExactFirstPlacing.j2 kj27 t504 t503 (t510 != t485)) = some r := by rw [if_pos rfl] at H; exact H
             clear H; have H := H1; clear H1; have H' := Aside0.mk H; clear H; obtain ⟨Ao55, co55, eo55⟩ := Kd.R_slice HO512.out; subst eo55; obtain ⟨Ao56, co56, eo56⟩ := Kd.R_slice HO_4.out; subst eo56
             go_wp2_with (first | ((with_reducible refine gate_callee (f := 26) rfl ?_); refine ga_ (some 81) Tryd.func26 #[.slice Ao55 t509.length co55, .slice Ao56 t484.length co56] ?_; (with_reducible refine (laws_eqIntS.calls kj27 _ _ t509 _ _ t484 true _ ?side1 ?side2 ?side3 ?side4 A53.out).mono ?_); (case side1 => exact kc_ (Kd.R_reads' HO512.out).2.2); (case side2 => exact (Kd.R_reads' HO512.out).2.1); (case side3 => exact kc_ (Kd.R_reads' HO_4.out).2.2); (case side4 => exact (Kd.R_reads' HO_4.out).2.1); rintro e w' ⟨rfl, ⟨nd, rfl⟩⟩; refine ⟨_, rfl, ?_⟩))
             go_meet
             case rel => exact ⟨_, ((t510 != t485)), (by first | rfl | (simp; done) | (simp [*]; done)), H', ⟨by have := HJ8.out; have := HJ27.out; first | omega | exact Nat.le_refl _⟩, ⟨krm_ HO_7.out (fun _ hk => trivial)⟩, ⟨lb0_ HB.out⟩⟩
            ·
             replace c54 := Bool.eq_false_iff.mpr c54; subst c54
             have H1 : (laws_FnExactFirstPlacing.j2 kj27 t504 t503 true) = some r := by rw [if_neg (show ¬ (false = true) by decide)] at H; exact H
             clear H; have H := H1; clear H1; have H' := Aside0.mk H; clear H; obtain ⟨Ao57, co57, eo57⟩ := Kd.R_slice HO512.out; subst eo57; obtain ⟨Ao58, co58, eo58⟩ := Kd.R_slice HO_4.out; subst eo58
             go_wp2_with (first | ((with_reducible refine gate_callee (f := 26) rfl ?_); refine ga_ (some 81) Tryd.func26 #[.slice Ao57 t509.length co57, .slice Ao58 t484.length co58] ?_; (with_reducible refine (laws_eqIntS.calls kj27 _ _ t509 _ _ t484 false _ ?side1 ?side2 ?side3 ?side4 A53.out).mono ?_); (case side1 => exact kc_ (Kd.R_reads' HO512.out).2.2); (case side2 => exact (Kd.R_reads' HO512.out).2.1); (case side3 => exact kc_ (Kd.R_reads' HO_4.out).2.2); (case side4 => exact (Kd.R_reads' HO_4.out).2.1); rintro e w' ⟨rfl, ⟨nd, rfl⟩⟩; refine ⟨_, rfl, ?_⟩))
             go_meet
             case rel => exact ⟨_, (true), (by first | rfl | (simp; done) | (simp [*]; done)), H', ⟨by have := HJ8.out; have := HJ27.out; first | omega | exact Nat.le_refl _⟩, ⟨krm_ HO_7.out (fun _ hk => trivial)⟩, ⟨lb0_ HB.out⟩⟩
           case rest =>
            clear HC47
            try clear c1
            try clear c2
            try clear p2
            try clear c3
            try clear c3b0
            try clear c4
            try clear c5
            try clear c9
            try clear c18
            try clear c20
            try clear c22
            try clear c23
            try clear c26
            try clear c29
            try clear c30
            try clear c31
            try clear c33
            try clear c33b0
            try clear c35
            try clear c39
            try clear c40
            try clear c43
            try clear c43b0
            try clear c44
            try clear c44b0
            try clear c44b1
            try clear c54
            try clear p2
            obtain ⟨kq, x87_46, rfl, HA, HJ46, HO_7, HB⟩ := hcut; have hl7_46 := (Kd.R_reads' HO_7.out).1
            rw [hl7_46] at HO_7
            (try simp only [hl7_46])
            cases kq with
            | zero => exact absurd HA.out (by simp [laws_FnExactFirstPlacing.j2])
            | succ kj46 =>
             have H := HA.out; clear HA; simp only [laws_FnExactFirstPlacing.j2] at H
             by_cases c59 : x87_46 = true
             ·
              subst c59
              have H1 : (none) = some r := by rw [if_pos rfl] at H; exact H
              clear H; have H := H1; clear H1; exact absurd H (by simp)
             ·
              replace c59 := Bool.eq_false_iff.mpr c59; subst c59
              have H1 : ((laws_heldIntS.f kj46 t504 1).bind fun t514 => (if t514 < 0 then (none) else (if t514 = t503 then (some true) else (none)))) = some r := by rw [if_neg (show ¬ (false = true) by decide)] at H; exact H
              clear H; have H := H1; clear H1; replace H := Option.bind_eq_some_iff.mp H; obtain ⟨t514, A600, H⟩ := H; replace H : (if t514 < 0 then (none) else (if t514 = t503 then (some true) else (none))) = some r := H; have A60 := Aside0.mk A600; clear A600
              by_cases c61 : t514 < 0
              ·
               rw [if_pos c61] at H
               exact absurd H (by simp)
              ·
               rw [if_neg c61] at H
               have c61b0 : decide (t514 < 0) = false := decide_eq_false c61; clear c61
               by_cases c62 : t514 = t503
               ·
                rw [if_pos c62] at H
                have c62b0 : (t514 == t503) = true := beq_iff_eq.mpr c62; have c62b1 : (t514 != t503) = false := bne_eq_false_iff_eq.mpr c62; clear c62; obtain rfl := Option.some.inj H
                go_wp2_with (first | ((with_reducible refine gate_callee (f := 31) rfl ?_); refine ga_ (some 90) Tryd.func31 #[.slice Ao48 t504.length co48, .int .i64 1] ?_; (with_reducible refine (laws_heldIntS.calls kj46 _ _ t504 1 t514 _ ?side1 ?side2 A60.out).mono ?_); (case side1 => exact kc_ (Kd.R_reads' HO_7.out).2.2); (case side2 => exact (Kd.R_reads' HO_7.out).2.1); rintro e w' ⟨rfl, ⟨nd, rfl⟩⟩; refine ⟨_, rfl, ?_⟩))
                go_ret
                exact ⟨rr_, lb0_ HB.out⟩
               ·
                rw [if_neg c62] at H
                exact absurd H (by simp)
          ·
           rw [if_neg c44] at H
           exact absurd H (by simp)
     ·
      replace c26 := Bool.eq_false_iff.mpr c26
      subst c26
      have H1 : (none) = some r := by rw [if_neg (show ¬ (false = true) by decide)] at H; exact H
      clear H
      have H := H1
      clear H1
      exact absurd H (by simp)
end Go.Proofs.YtjkcfpmonpkhhaaDoor.Pr

namespace Go.Proofs.YtjkcfpmonpkhhaaDoorW.Opens
open Go.ChangeShapes Go.WideShapes Go.RowKit
open Go.Deep (open_slice choose_lt)
open Go.Proofs.YtjkcfpmonpkhhaaDoorW.PrintWords
set_option linter.unusedVariables false
set_option linter.unusedSimpArgs false
def Opn {α : Type} (P : Program) (t : TypeId) (d : Kd α) (wf : α → Prop) : Prop :=
 P.cellsOf t = d.sz ∧ ∀ (H : Type) (enc : TypeId × Value → H) (W : World) (fuel : Nat) (cs : List Value) (x : DataW H × List MemPlace),
  DataW.trod enc P W 0 (fun _ => true) true fuel t cs = some x → (∀ n ∈ x.1.weights P t, n ≤ reachBytes) → ∃ y, d.K W y cs ∧ wf y
theorem Opn.int {P : Program} {t : TypeId} {k : IntKind} (hc : P.cellsOf t = 1) (ht : P.underlying t = some (.int k)) : Opn P t (Kd.int k) (fun n => (Lit.int k n).wf = true) :=
 ⟨hc, fun H enc W fuel cs x h _ => by
  obtain ⟨m, rfl, rfl, hw⟩ := DataW.trod_int ht h
  exact ⟨m, rfl, hw⟩⟩
theorem Opn.bool {P : Program} {t : TypeId} (hc : P.cellsOf t = 1) (ht : P.underlying t = some .bool) : Opn P t Kd.bool (fun _ => True) :=
 ⟨hc, fun H enc W fuel cs x h _ => by
  obtain ⟨m, rfl, rfl⟩ := DataW.trod_bool ht h
  exact ⟨m, rfl, trivial⟩⟩
theorem Opn.string {P : Program} {t : TypeId} (hc : P.cellsOf t = 1) (ht : P.underlying t = some .string) : Opn P t Kd.string (fun s => s.size ≤ 140737488351232) :=
 ⟨hc, fun H enc W fuel cs x h hw => by
  obtain ⟨m, rfl, rfl, hm⟩ := DataW.trod_string ht h
  have := hw m.data.toList.length (by simp [DataW.weights])
  rw [Array.length_toList] at this
  exact ⟨m, rfl, this⟩⟩
theorem weightsAll_mem {H : Type} {P : Program} {e : TypeId} : ∀ {l : List (DataW H)} {d : DataW H}, d ∈ l → ∀ n ∈ d.weights P e, n ∈ DataW.weightsAll P e l
 | _ :: r, d, h, n, hn => by
  simp only [DataW.weightsAll, List.mem_append]
  rcases List.mem_cons.1 h with rfl | h
  ·
   exact .inl hn
  ·
   exact .inr (weightsAll_mem h n hn)
theorem Opn.slice {α : Type} (z : α) {P : Program} {t e : TypeId} {d : Kd α} {wf : α → Prop} {B : Nat} (hc : P.cellsOf t = 1) (ht : P.underlying t = some (.slice e)) (hB : P.bytesOf e = B) (h : Opn P e d wf) :
  Opn P t (Kd.slice e d) (fun xs => xs.length ≤ maxLen ∧ xs.length * B ≤ 140737488351232 ∧ ∀ y ∈ xs, wf y) :=
 ⟨hc, fun H enc W fuel cs x hf hw => by
  haveI : Inhabited α := ⟨z⟩
  rcases open_slice ht hf with ⟨rfl, rfl⟩ | ⟨a, len, cap, m, n, D, Pl, rfl, _, hl, hm, hmm, rfl, each⟩
  ·
   exact ⟨[], ⟨none, 0, rfl, Nat.le_refl _, rfl, by simp, fun h => absurd h (Nat.lt_irrefl 0)⟩, by simp, by simp, by simp⟩
  ·
   rw [if_pos rfl] at hmm
   subst hmm
   have hw0 : ∀ n ∈ DataW.weights P t (DataW.slice (H := H) ((List.range len).map D) ((List.range (m - len)).map fun j => D (len + j))), n ≤ reachBytes := hw
   have hww : ∀ i, i < len → ∀ n ∈ (D i).weights P e, n ≤ reachBytes := by
    intro i hi n hn
    refine hw0 n ?_
    simp only [DataW.weights, ht, List.mem_cons, List.mem_append]
    exact .inr (.inl (weightsAll_mem (List.mem_map.2 ⟨i, List.mem_range.2 hi, rfl⟩) n hn))
   have hB2 : len * B ≤ 140737488351232 := by
    have := hw0 ((len + (m - len)) * B) (by simp [DataW.weights, ht, hB])
    refine Nat.le_trans (Nat.mul_le_mul_right _ (by omega)) this
   have hx : ∀ i, i < len → ∃ y, ∃ c : List Value, c.length = d.sz ∧ d.K W y c ∧ wf y ∧ ∀ j u, c[j]? = some u → W.cell? (a.add (i * d.sz + j)) = some u := by
    intro i hi
    obtain ⟨cs', h1, h2⟩ := each i (by omega)
    obtain ⟨y, hy, hwy⟩ := h.2 H enc W n cs' _ h2 (hww i hi)
    obtain ⟨_, hlen, hcell⟩ := World.cells?_some h1
    rw [h.1] at hlen hcell
    refine ⟨y, cs', hlen, hy, hwy, fun j u hu => ?_⟩
    have hj : j < d.sz := by
     have := (List.getElem?_eq_some_iff.1 hu).1
     omega
    have := hcell j hj
    rw [add_add] at this
    exact this.trans hu
   obtain ⟨f, hf'⟩ := choose_lt hx
   refine ⟨(List.range len).map f, ⟨some a, m, by simp, by simpa using hl, by simp, by simp only [maxLen] at hm; simp; omega, fun _ => ⟨a, rfl, fun j p hj => ?_⟩⟩, ?_, ?_, ?_⟩
   ·
    rw [List.getElem?_map] at hj
    have hj' : j < len := by
     by_cases hjl : j < len
     ·
      exact hjl
     ·
      rw [List.getElem?_eq_none (by simp; omega)] at hj
      cases hj
    rw [List.getElem?_range hj'] at hj
    obtain rfl := Option.some.inj hj
    obtain ⟨c, h1, h2, _, h3⟩ := hf' j hj'
    exact ⟨c, h1, h2, h3⟩
   ·
    simp; omega
   ·
    simpa using hB2
   ·
    intro y hy
    obtain ⟨i, hi, rfl⟩ := List.mem_map.1 hy
    obtain ⟨c, _, _, h2, _⟩ := hf' i (List.mem_range.1 hi)
    exact h2⟩
def FOpn {α : Type} (P : Program) (fs : List Field) (off : Nat) (d : Kd α) (wf : α → Prop) : Prop :=
 ∀ (H : Type) (enc : TypeId × Value → H) (W : World) (fuel : Nat) (cs : List Value) (xs : List (DataW H × List MemPlace)),
  xs.length = fs.length → (∀ (i : Nat) (f : Field), fs[i]? = some f → DataW.trod enc P W 0 (fun _ => true) true fuel f.type ((cs.drop f.offset).take (P.cellsOf f.type)) = xs[i]?) →
  (∀ n ∈ DataW.weightsEach P (fs.map (·.type)) (xs.map (·.1)), n ≤ reachBytes) → ∃ y, d.K W y ((cs.drop off).take d.sz) ∧ wf y
theorem FOpn.one {α : Type} {P : Program} {f : Field} {off : Nat} {d : Kd α} {wf : α → Prop} (ho : f.offset = off) (h : Opn P f.type d wf) : FOpn P [f] off d wf := by
 intro H enc W fuel cs xs hl hx hw
 match xs, hl with
 | [x], _ =>
  have h0 := hx 0 f rfl
  rw [ho, h.1] at h0
  exact h.2 H enc W fuel _ x h0 (fun n hn => hw n (by simp only [List.map, DataW.weightsEach, List.mem_append]; exact .inl hn))
theorem FOpn.cons {α β : Type} {P : Program} {f : Field} {fs : List Field} {off : Nat} {d : Kd α} {d' : Kd β} {wf : α → Prop} {wf' : β → Prop} (ho : f.offset = off) (h : Opn P f.type d wf) (h' : FOpn P fs (off + d.sz) d' wf') :
  FOpn P (f :: fs) off (Kd.pair d d') (fun x => wf x.1 ∧ wf' x.2) := by
 intro H enc W fuel cs xs hl hx hw
 match xs, hl with
 | x :: xs, hl =>
  have h0 := hx 0 f rfl
  rw [ho, h.1] at h0
  have hw' : ∀ n ∈ x.1.weights P f.type ++ DataW.weightsEach P (fs.map (·.type)) (xs.map (·.1)), n ≤ reachBytes := hw
  obtain ⟨y, hy, hwy⟩ := h.2 H enc W fuel _ x h0 (fun n hn => hw' n (List.mem_append_left _ hn))
  obtain ⟨y', hy', hwy'⟩ := h' H enc W fuel cs xs (by simpa using hl) (fun i f' hf' => hx (i + 1) f' (by simpa using hf')) (fun n hn => hw' n (List.mem_append_right _ hn))
  refine ⟨(y, y'), ⟨_, _, ?_, hy, hy'⟩, hwy, hwy'⟩
  show (cs.drop off).take (d.sz + d'.sz) = _
  rw [List.take_add, List.drop_drop]
theorem Opn.struct {α β : Type} {P : Program} {t : TypeId} {fs : Array Field} {d : Kd α} {wf : α → Prop} (f : β → α) (g : α → β) (hfg : ∀ x, f (g x) = x) (hc : P.cellsOf t = d.sz) (ht : P.underlying t = some (.struct fs)) (h : FOpn P fs.toList 0 d wf) :
  Opn P t (Kd.iso d f) (fun x => wf (f x)) :=
 ⟨hc, fun H enc W fuel cs x hf hw => by
  obtain ⟨xs, n, rfl, rfl, hl, hxs, each⟩ := DataW.trod_struct ht hf
  obtain ⟨y, hy, hwy⟩ := h H enc W n cs xs (by simpa using hxs) (fun i f' hf' => each i f' (by simpa using hf')) (fun n hn => hw n (by simp only [DataW.weights, ht]; exact hn))
  rw [List.drop_zero, List.take_of_length_le (by rw [hl, hc]; exact Nat.le_refl _)] at hy
  exact ⟨g y, (by rw [← hfg y] at hy; exact hy), (by rw [← hfg y] at hwy; exact hwy)⟩⟩
theorem par_weights {H : Type} {P : Program} {ts : List TypeId} {ds : List (DataW H)} {j : Nat} {t : TypeId} {d : DataW H} (h : (DataW.weightsEach P ts ds).all (· ≤ reachBytes) = true) (ht : ts[j]? = some t) (hd : ds[j]? = some d) :
  ∀ n ∈ d.weights P t, n ≤ reachBytes := fun n hn => of_decide_eq_true (List.all_eq_true.1 h n (DataW.weights_mem_each ht hd n hn))
theorem par_slice {α : Type} {H : Type} {enc : TypeId × Value → H} {P : Program} {W : World} {r : Reach} {b0 : Nat} {t e : TypeId} {d : Kd α} {wf : List α → Prop} {v : Value} {D : DataW H} {ps : List MemPlace}
  (ht : P.underlying t = some (.slice e)) (ho : Opn P t (Kd.slice e d) wf) (hv : Value.okWide P W r b0 t v) (hd : DataW.Trod enc P W 0 (fun _ => true) true t v D ps) (hw : ∀ n ∈ D.weights P t, n ≤ reachBytes) :
  ∃ (A : Option Addr) (l : List α) (c : Nat), v = .slice A l.length c ∧ l.length ≤ c ∧ d.C W A l.length l ∧ wf l := by
 obtain ⟨A, len, cap, rfl⟩ := okWide_slice ht hv
 obtain ⟨fuel, hf⟩ := hd
 obtain ⟨l, ⟨A', c, he, hl, hC⟩, hwl⟩ := ho.2 H enc W fuel _ _ hf hw
 have he' : [Value.slice A len cap] = [.slice A' l.length c] := he
 simp only [List.cons.injEq, Value.slice.injEq, and_true] at he'
 obtain ⟨rfl, rfl, rfl⟩ := he'
 exact ⟨_, l, _, rfl, hl, hC, hwl⟩
end Go.Proofs.YtjkcfpmonpkhhaaDoorW.Opens

namespace Go.Proofs.YtjkcfpmonpkhhaaDoor.Pr
open Go.RowKit Go.Proofs.YtjkcfpmonpkhhaaDoorW.PrintWords Go.Proofs.YtjkcfpmonpkhhaaDoorW.PrintLast Go.Proofs.YtjkcfpmonpkhhaaDoorW.Opens
set_option linter.unusedVariables false
def wf23 (x : S23) : Prop := x.f0.size ≤ 140737488351232 ∧ (Lit.int .i64 x.f1).wf = true ∧ (Lit.int .i64 x.f2).wf = true
theorem opn23 : Opn Tryd.prog 23 k23 wf23 := Opn.struct (fun x : S23 => (x.f0, x.f1, x.f2)) (fun p => ⟨p.1, p.2.1, p.2.2⟩) (fun _ => rfl) (by kernel_rfl) Tryd.underlying23 (FOpn.cons rfl (Opn.string (by kernel_rfl) Tryd.underlying9) (FOpn.cons rfl (Opn.int (by kernel_rfl) Tryd.underlying3) (FOpn.one rfl (Opn.int (by kernel_rfl) Tryd.underlying3))))
def wfL23 (l : List S23) : Prop := l.length ≤ maxLen ∧ l.length * 32 ≤ 140737488351232 ∧ ∀ y ∈ l, wf23 y
theorem opnL33 : Opn Tryd.prog 33 (Kd.slice 23 k23) wfL23 := Opn.slice z23 (by kernel_rfl) Tryd.underlying33 (by kernel_rfl) opn23
def FnExactFirstPlacing.Pure : Prop := ∀ (x0 : (List S23)), wfL23 x0 → ∃ k, laws_FnExactFirstPlacing.f k x0 = some true
end Go.Proofs.YtjkcfpmonpkhhaaDoor.Pr

namespace Go.Proofs.YtjkcfpmonpkhhaaDoor.Pr
open Go.RowKit Go.Proofs.YtjkcfpmonpkhhaaDoorW.PrintWords Go.Proofs.YtjkcfpmonpkhhaaDoorW.PrintLast Go.Proofs.YtjkcfpmonpkhhaaDoorW.PrintMore
attribute [local go_sem] max2_int min2_int max_two min_two max_three min_three max_four min_four   -- for this text's walks alone
set_option linter.unusedVariables false
set_option linter.unusedSimpArgs false
def CountS (gc : Nat) (ys : List (List Int)) (w : World) : Prop := w.heap[gc]? = some (.cells #[.int .i64 (wrap64 (ys.length : Int))] 3 (0, 0))
theorem CountS.nil {gc : Nat} {w : World} (h : w.heap[gc]? = some (.cells #[.int .i64 0] 3 (0, 0))) : CountS gc [] w := by
 have e : wrap64 (([] : List (List Int)).length : Int) = 0 := by
  show wrap64 ((0 : Nat) : Int) = 0
  unfold wrap64
  omega
 unfold CountS
 rw [e]
 exact h
end Go.Proofs.YtjkcfpmonpkhhaaDoor.Pr

namespace Go.Proofs.YtjkcfpmonpkhhaaDoor.Pr.Pure
open Go.RowKit Go.Proofs.YtjkcfpmonpkhhaaDoorW.PrintWords Go.Proofs.YtjkcfpmonpkhhaaDoorW.PrintLast Go.Proofs.YtjkcfpmonpkhhaaDoorW.PrintMore  Go.Lib
set_option linter.unusedVariables false
set_option linter.unusedSimpArgs false
theorem w64 {x : Int} (h1 : -9223372036854775808 ≤ x) (h2 : x ≤ 9223372036854775807) : wrap64 x = x := by
 unfold wrap64
 omega
theorem set_map_step {α β : Type} (f : α → β) (l : List α) (z : β) (i : Nat) (hi : i < l.length) (a : α) (ha : l[i]? = some a) :
  ((l.take i).map f ++ List.replicate (l.length - i) z).set i (f a) = (l.take (i + 1)).map f ++ List.replicate (l.length - (i + 1)) z := by
 have h1 : ((l.take i).map f).length = i := by simp; omega
 rw [List.set_append_right _ _ (by omega), h1, Nat.sub_self]
 obtain ⟨m, hm⟩ : ∃ m, l.length - i = m + 1 := ⟨l.length - i - 1, by omega⟩
 rw [hm, show l.length - (i + 1) = m by omega, List.replicate_succ, List.set_cons_zero, List.take_add_one, ha]
 simp
theorem getD_some {α : Type} (l : List α) (z : α) (i : Nat) (h : i < l.length) : l[i]? = some (l.getD i z) := by
 rw [List.getD_eq_getElem?_getD, List.getElem?_eq_getElem h]
 rfl
theorem obs {α β : Type} (a : α) (f : α → Option β) : (some a).bind f = f a := id (Option.bind_some a f)
def M (l : List UInt8) : ByteArray := ⟨l.toArray⟩
theorem ex_M (b : ByteArray) : ∃ l, b = M l := ⟨b.data.toList, by unfold M; rw [Array.toArray_toList]⟩
theorem M_size (l : List UInt8) : (M l).size = l.length := by simp [M, ByteArray.size]
theorem M_data (l : List UInt8) : (M l).data.toList = l := by simp [M]
theorem M_toList (l : List UInt8) : (M l).toList = l := by rw [ByteArray.toList_eq, M_data]
theorem bt_M (l : List UInt8) (i : Nat) : bt (M l) (i : Int) = ((l.getD i 0).toNat : Int) := by
 have hb := rd_bytesOf (M l) (i : Int)
 rw [← hb]
 unfold rd bytesOf
 rw [M_data, Int.toNat_natCast, List.getD_eq_getElem?_getD, List.getD_eq_getElem?_getD, List.getElem?_map]
 cases l[i]? <;> rfl
theorem drop_at (l : List UInt8) (i : Nat) (h : i < l.length) : l.drop i = l.getD i 0 :: l.drop (i + 1) := by
 rw [List.drop_eq_getElem_cons h, List.getD_eq_getElem?_getD, List.getElem?_eq_getElem h]
 rfl
theorem l1In_eq (a b c : Int) : spec_l1In.f a b c = some (decide (b ≤ a ∧ a ≤ c)) := by
 unfold spec_l1In.f
 by_cases h : b ≤ a
 ·
  rw [if_pos h]; simp [h]
 ·
  rw [if_neg (by omega)]; simp [h]
theorem within_eq (a b c : Int) : impl_within.f a b c = some (decide (b ≤ a ∧ a ≤ c)) := by
 unfold impl_within.f
 by_cases h : b ≤ a
 ·
  rw [if_pos h]; simp [h]
 ·
  rw [if_neg (by omega)]; simp [h]
end Go.Proofs.YtjkcfpmonpkhhaaDoor.Pr.Pure

namespace Go.Proofs.YtjkcfpmonpkhhaaDoor.Pr.Pure
open Go.RowKit Go.Proofs.YtjkcfpmonpkhhaaDoorW.PrintWords Go.Proofs.YtjkcfpmonpkhhaaDoorW.PrintLast Go.Proofs.YtjkcfpmonpkhhaaDoorW.PrintMore Go.Lib
set_option linter.unusedVariables false
set_option linter.unusedSimpArgs false
def small (x : UInt8) : Bool := decide (97 ≤ x.toNat) && decide (x.toNat ≤ 122)
def isW (l : List UInt8) : Bool := decide (1 ≤ l.length) && decide (l.length ≤ 10) && l.all small
theorem word_l0 (l : List UInt8) (hl : l.length ≤ 4611686018427387904) (d : Nat) : ∀ (k i : Nat), i + d = l.length → d < k → spec_l2Word.l0 k (M l) i = some (decide (1 ≤ l.length) && decide (l.length ≤ 10) && (l.drop i).all small) := by
 induction d with
 | zero =>
  intro k i hd hk
  obtain ⟨k, rfl⟩ : ∃ m, k = m + 1 := ⟨k - 1, by omega⟩
  simp only [spec_l2Word.l0]
  rw [M_size, if_neg (by omega), List.drop_of_length_le (by omega), l1In_eq, obs]
  simp only [List.all_nil, Bool.and_true]
  congr 1
  rw [Bool.eq_iff_iff]
  simp
  omega
 | succ d ih =>
  intro k i hd hk
  obtain ⟨k, rfl⟩ : ∃ m, k = m + 1 := ⟨k - 1, by omega⟩
  simp only [spec_l2Word.l0]
  rw [M_size, if_pos (by omega), if_pos (by omega), bt_M, drop_at l i (by omega)]
  generalize l.getD i 0 = x
  rw [w64 (by omega) (by omega)]
  have ih' := ih k (i + 1) (by omega) (by omega)
  rw [show ((i + 1 : Nat) : Int) = (i : Int) + 1 by omega] at ih'
  rw [List.all_cons]
  by_cases h1 : (x.toNat : Int) < 97
  ·
   have : small x = false := by
    unfold small
    have : ¬ 97 ≤ x.toNat := by omega
    simp [this]
   rw [if_pos h1, this]
   simp
  ·
   rw [if_neg h1]
   by_cases h2 : (x.toNat : Int) > 122
   ·
    have : small x = false := by
     unfold small
     have : ¬ x.toNat ≤ 122 := by omega
     simp [this]
    rw [if_pos h2, this]
    simp
   ·
    have : small x = true := by
     unfold small
     have a : 97 ≤ x.toNat := by omega
     have b : x.toNat ≤ 122 := by omega
     simp [a, b]
    rw [if_neg h2, ih', this, Bool.true_and]
theorem word_spec (l : List UInt8) (hl : l.length ≤ 4611686018427387904) {k : Nat} (hk : l.length < k) : spec_l2Word.f k (M l) = some (isW l) := by
 unfold spec_l2Word.f isW
 simpa using word_l0 l hl l.length k 0 (by omega) hk
def letters : List UInt8 := [97, 98, 99, 100, 101, 102, 103, 104, 105, 106, 107, 108, 109, 110, 111, 112, 113, 114, 115, 116, 117, 118, 119, 120, 121, 122]
set_option maxRecDepth 100000 in
theorem letters_small (x : UInt8) : letters.contains x = small x := by
 have : ∀ n : Nat, n < 256 → letters.contains (UInt8.ofNat n) = small (UInt8.ofNat n) := by decide
 have h := this x.toNat x.toNat_lt
 rwa [show UInt8.ofNat x.toNat = x from UInt8.ofNat_toNat] at h
theorem drop_all {p : UInt8 → Bool} : ∀ l : List UInt8, l.dropWhile p = [] ↔ l.all p = true
 | [] => by simp
 | x :: l => by
  by_cases h : p x = true
  ·
   rw [List.dropWhile_cons_of_pos h, drop_all l]
   simp [h]
  ·
   rw [List.dropWhile_cons_of_neg h]
   simp [h]
theorem trim_nil (l : List UInt8) : trimS l letters = [] ↔ l.all small = true := by
 have hp : (fun x => letters.contains x) = small := funext letters_small
 unfold trimS trimLeftS trimRightS
 rw [hp, drop_all]
 constructor
 ·
  intro h
  rw [List.all_reverse] at h
  have h2 : (l.reverse.dropWhile small).all small = true := h
  have h3 : l.reverse.all small = true := by
   rw [← drop_all]
   have h4 := (drop_all _).2 h2
   have : ∀ m : List UInt8, (m.dropWhile small).dropWhile small = m.dropWhile small := by
    intro m
    induction m with
    | nil => rfl
    | cons x m ih =>
     by_cases h : small x = true
     ·
      rw [List.dropWhile_cons_of_pos h, ih]
     ·
      rw [List.dropWhile_cons_of_neg h, List.dropWhile_cons_of_neg h]
   rw [this] at h4
   exact h4
  rwa [List.all_reverse] at h3
 ·
  intro h
  have h3 : l.reverse.all small = true := by rwa [List.all_reverse]
  rw [(drop_all _).2 h3]
  rfl
theorem word_impl (l : List UInt8) (hl : l.length ≤ 4611686018427387904) : impl_isWord.f (M l) = some (isW l) := by
 unfold impl_isWord.f isW
 rw [M_size]
 by_cases h1 : (l.length : Int) ≥ 1
 ·
  rw [if_pos h1]
  by_cases h2 : (l.length : Int) ≤ 10
  ·
   have ht : strings_Trim.f (M l) (M letters) = some (M (trimS l letters)) := by
    unfold strings_Trim.f
    rw [M_size, M_size, M_data, M_data, if_pos (by omega), if_pos (by decide), if_pos (by decide)]
    rfl
   rw [if_pos h2, show (⟨#[97, 98, 99, 100, 101, 102, 103, 104, 105, 106, 107, 108, 109, 110, 111, 112, 113, 114, 115, 116, 117, 118, 119, 120, 121, 122]⟩ : ByteArray) = M letters from rfl, ht, obs, M_toList]
   congr 1
   rw [Bool.eq_iff_iff]
   have a : 1 ≤ l.length := by omega
   have b : l.length ≤ 10 := by omega
   simp only [a, b, decide_true, Bool.true_and, beq_iff_eq]
   exact trim_nil l
  ·
   rw [if_neg h2]
   have b : ¬ l.length ≤ 10 := by omega
   simp [b]
 ·
  rw [if_neg h1]
  have b : ¬ 1 ≤ l.length := by omega
  simp only [b, decide_false, Bool.false_and]
def cvLabel (x : S23) : S29 := ⟨x.f0, x.f1, x.f2⟩
theorem toLabelS_l0 (l : List S23) (hl : l.length ≤ 4611686018427387904) (d : Nat) : ∀ (k i : Nat), i + d = l.length → d < k →
  laws_toLabelS.l0 k l ((l.take i).map cvLabel ++ List.replicate (l.length - i) z29) i = some (l.map cvLabel) := by
 induction d with
 | zero =>
  intro k i hd hk
  obtain ⟨k, rfl⟩ : ∃ m, k = m + 1 := ⟨k - 1, by omega⟩
  simp only [laws_toLabelS.l0]
  rw [if_neg (by omega), List.take_of_length_le (by omega), show l.length - i = 0 by omega]
  simp
 | succ d ih =>
  intro k i hd hk
  obtain ⟨k, rfl⟩ : ∃ m, k = m + 1 := ⟨k - 1, by omega⟩
  simp only [laws_toLabelS.l0, laws_toLabel.f, Option.bind_some]
  rw [if_pos (by omega), if_pos (by omega), if_pos (by simp; omega), w64 (by omega) (by omega)]
  have ha : l[i]? = some (rd_T23 l i) := getD_some l z23 i (by omega)
  rw [Int.toNat_natCast]
  have := set_map_step cvLabel l z29 i (by omega) _ ha
  rw [show (⟨(rd_T23 l i).f0, (rd_T23 l i).f1, (rd_T23 l i).f2⟩ : S29) = cvLabel (rd_T23 l i) from rfl, this]
  exact ih k (i + 1) (by omega) (by omega)
theorem toLabelS_eq {l : List S23} (hl : l.length * 32 ≤ 140737488351232) {k : Nat} (hk : l.length < k) : laws_toLabelS.f k l = some (l.map cvLabel) := by
 unfold laws_toLabelS.f
 rw [if_pos (by omega), if_pos (by omega), Int.toNat_natCast]
 have := toLabelS_l0 l (by omega) l.length k 0 (by omega) hk
 simpa using this
theorem eqLabelS_self (l : List S29) (hl : l.length ≤ 4611686018427387904) (d : Nat) : ∀ (k : Nat) (i : Int), 0 ≤ i → i + d = l.length → d < k → laws_eqLabelS.l0 k l l i = some true := by
 induction d with
 | zero =>
  intro k i h0 hd hk
  obtain ⟨k, rfl⟩ : ∃ m, k = m + 1 := ⟨k - 1, by omega⟩
  simp only [laws_eqLabelS.l0]
  rw [if_neg (by omega)]
 | succ d ih =>
  intro k i h0 hd hk
  obtain ⟨k, rfl⟩ : ∃ m, k = m + 1 := ⟨k - 1, by omega⟩
  simp only [laws_eqLabelS.l0, laws_eqLabel.f, if_true, Option.bind_some]
  rw [if_pos (by omega), if_pos (by omega), if_pos (by omega), w64 (by omega) (by omega)]
  exact ih k (i + 1) (by omega) (by omega) (by omega)
theorem eqLabelS_eq {l : List S29} (hl : l.length ≤ 4611686018427387904) {k : Nat} (hk : l.length < k) : laws_eqLabelS.f k l l = some true := by
 unfold laws_eqLabelS.f
 rw [if_pos rfl]
 exact eqLabelS_self l hl l.length k 0 (by omega) (by omega) hk
theorem szLabelS_l0 (l : List S23) (hs : ∀ x, x ∈ l → x.f0.size ≤ 140737488351232) (hl : l.length ≤ 4611686018427387904) (d : Nat) : ∀ (k i : Nat) (a : Int), i + d = l.length → d < k → 0 ≤ a → a ≤ 1048576 →
  ∃ t, laws_szLabelS.l0 k l a i = some t ∧ (0 ≤ t → ∀ j : Nat, i ≤ j → j < l.length → (rd_T23 l j).f0.size ≤ 1048576) := by
 induction d with
 | zero =>
  intro k i a hd hk h0 h1
  obtain ⟨k, rfl⟩ : ∃ m, k = m + 1 := ⟨k - 1, by omega⟩
  simp only [laws_szLabelS.l0]
  rw [if_neg (by omega)]
  exact ⟨a, rfl, fun _ j hj hjl => by omega⟩
 | succ d ih =>
  intro k i a hd hk h0 h1
  obtain ⟨k, rfl⟩ : ∃ m, k = m + 1 := ⟨k - 1, by omega⟩
  simp only [laws_szLabelS.l0]
  rw [if_pos (by omega), if_pos (by omega)]
  have hm : rd_T23 l i ∈ l := by
   show l.getD (i : Int).toNat _ ∈ l
   rw [Int.toNat_natCast, List.getD_eq_getElem?_getD, List.getElem?_eq_getElem (by omega)]
   exact List.getElem_mem _
  have hz := hs _ hm
  have hz' : ∀ j : Nat, j = i → (rd_T23 l i).f0.size ≤ 1048576 → (rd_T23 l j).f0.size ≤ 1048576 := fun j e h => by rw [e]; exact h
  generalize rd_T23 l i = y at hz hz' ⊢
  unfold laws_szLabel.f
  rw [w64 (x := a - (y.f0.size : Int)) (by omega) (by omega)]
  by_cases c : a - (y.f0.size : Int) < 0
  ·
   rw [if_pos c, Option.bind_some, if_pos (by decide)]
   exact ⟨_, rfl, fun h => absurd h (by decide)⟩
  ·
   rw [if_neg c, Option.bind_some, if_neg c, w64 (x := (i : Int) + 1) (by omega) (by omega)]
   obtain ⟨t, e, h⟩ := ih k (i + 1) (a - (y.f0.size : Int)) (by omega) (by omega) (by omega) (by omega)
   refine ⟨t, e, fun ht j hj hjl => ?_⟩
   by_cases hji : j = i
   ·
    exact hz' j hji (by omega)
   ·
    exact h ht j (by omega) hjl
theorem szLabelS_eq {l : List S23} (hs : ∀ x, x ∈ l → x.f0.size ≤ 140737488351232) (hl : l.length ≤ 4611686018427387904) {k : Nat} (hk : l.length < k) :
  ∃ t, laws_szLabelS.f k l 1048576 = some t ∧ (0 ≤ t → l.length ≤ 1048576 ∧ ∀ x, x ∈ l → x.f0.size ≤ 1048576) := by
 unfold laws_szLabelS.f
 rw [w64 (by omega) (by omega)]
 by_cases c : (1048576 : Int) - (l.length : Int) < 0
 ·
  rw [if_pos c]
  exact ⟨_, rfl, fun h => absurd h (by decide)⟩
 ·
  rw [if_neg c]
  obtain ⟨t, e, h⟩ := szLabelS_l0 l hs hl l.length k 0 (1048576 - (l.length : Int)) (by omega) hk (by omega) (by omega)
  refine ⟨t, e, fun ht => ⟨by omega, fun x hx => ?_⟩⟩
  obtain ⟨j, hj, rfl⟩ := List.mem_iff_getElem.1 hx
  have := h ht j (by omega) hj
  rw [show rd_T23 l (j : Int) = l.getD (j : Int).toNat _ from rfl, Int.toNat_natCast, List.getD_eq_getElem?_getD, List.getElem?_eq_getElem hj] at this
  exact this
def lab (l : List UInt8) (x y : Int) : Bool := isW l && decide (0 ≤ x ∧ x ≤ 99) && decide (0 ≤ y ∧ y ≤ 99)
def labB (x : S29) : Bool := lab x.f0.data.toList x.f1 x.f2
theorem lab_spec (l : List UInt8) (hl : l.length ≤ 4611686018427387904) (x y : Int) {k : Nat} (hk : l.length < k) : spec_l24One.f k (M l) x y = some (lab l x y) := by
 unfold spec_l24One.f lab
 rw [word_spec l hl hk, obs]
 cases isW l with
 | false => rfl
 | true =>
  rw [if_pos rfl, l1In_eq, obs]
  cases decide (0 ≤ x ∧ x ≤ 99) with
  | false => rfl
  | true =>
   rw [if_pos rfl, l1In_eq, obs]
   rfl
theorem lab_impl (l : List UInt8) (hl : l.length ≤ 4611686018427387904) (x y : Int) : impl_isLabel.f (M l) x y = some (lab l x y) := by
 unfold impl_isLabel.f lab
 rw [word_impl l hl, obs]
 cases isW l with
 | false => rfl
 | true =>
  rw [if_pos rfl, within_eq, obs]
  cases decide (0 ≤ x ∧ x ≤ 99) with
  | false => rfl
  | true =>
   rw [if_pos rfl, within_eq, obs]
   rfl
theorem labB_spec (x : S29) (hx : x.f0.size ≤ 1048576) {k : Nat} (hk : 1048576 < k) : spec_l24One.f k x.f0 x.f1 x.f2 = some (labB x) := by
 obtain ⟨l, hl⟩ := ex_M x.f0
 unfold labB
 rw [hl] at hx ⊢
 rw [M_size] at hx
 rw [M_data]
 exact lab_spec l (by omega) _ _ (by omega)
theorem labB_impl (x : S29) (hx : x.f0.size ≤ 1048576) : impl_isLabel.f x.f0 x.f1 x.f2 = some (labB x) := by
 obtain ⟨l, hl⟩ := ex_M x.f0
 unfold labB
 rw [hl] at hx ⊢
 rw [M_size] at hx
 rw [M_data]
 exact lab_impl l (by omega) _ _
theorem rdLab_drop (l : List S29) (i : Nat) (h : i < l.length) : l.drop i = rd_T29 l (i : Int) :: l.drop (i + 1) := by
 rw [List.drop_eq_getElem_cons h, show rd_T29 l (i : Int) = l.getD (i : Int).toNat _ from rfl, Int.toNat_natCast, List.getD_eq_getElem?_getD, List.getElem?_eq_getElem h]
 rfl
theorem good_l0 (l : List S29) (hs : ∀ x, x ∈ l → x.f0.size ≤ 1048576) (hl : l.length ≤ 4611686018427387904) (d : Nat) : ∀ (k i : Nat), i + d = l.length → 1048577 + d < k →
  spec_l24Good.l0 k l i = some ((l.drop i).all labB && decide (l.length ≤ 6)) := by
 induction d with
 | zero =>
  intro k i hd hk
  obtain ⟨k, rfl⟩ : ∃ m, k = m + 1 := ⟨k - 1, by omega⟩
  simp only [spec_l24Good.l0]
  rw [if_neg (by omega), List.drop_of_length_le (by omega), List.all_nil, Bool.true_and]
  congr 1
  rw [Bool.eq_iff_iff, decide_eq_true_eq, decide_eq_true_eq]
  omega
 | succ d ih =>
  intro k i hd hk
  obtain ⟨k, rfl⟩ : ∃ m, k = m + 1 := ⟨k - 1, by omega⟩
  simp only [spec_l24Good.l0]
  have hm : rd_T29 l i ∈ l := by
   show l.getD (i : Int).toNat _ ∈ l
   rw [Int.toNat_natCast, List.getD_eq_getElem?_getD, List.getElem?_eq_getElem (by omega)]
   exact List.getElem_mem _
  rw [if_pos (by omega), if_pos (by omega), labB_spec _ (hs _ hm) (by omega), obs, rdLab_drop l i (by omega), List.all_cons]
  cases labB (rd_T29 l i) with
  | false =>
   rw [if_neg Bool.false_ne_true]
   rfl
  | true =>
   rw [if_pos rfl, w64 (by omega) (by omega), Bool.true_and]
   exact ih k (i + 1) (by omega) (by omega)
def labs (l : List S29) : Bool := l.all labB && decide (l.length ≤ 6)
theorem good_eq {l : List S29} (hs : ∀ x, x ∈ l → x.f0.size ≤ 1048576) (hl : l.length ≤ 1048576) {k : Nat} (hk : 1048577 + l.length < k) : spec_l24Good.f k l = some (labs l) := by
 unfold spec_l24Good.f labs
 have := good_l0 l hs (by omega) l.length k 0 (by omega) hk
 simpa using this
theorem are_eq {l : List S29} (hs : ∀ x, x ∈ l → x.f0.size ≤ 1048576) : impl_AreLabels.f l = some (labs l) := by
 unfold impl_AreLabels.f labs
 have hx : ∀ x, x ∈ l → impl_isLabel.f x.f0 x.f1 x.f2 = some (labB x) := fun x h => labB_impl x (hs x h)
 by_cases c : (l.length : Int) ≤ 6
 ·
  rw [if_pos c, if_pos (List.all_eq_true.2 fun x h => by rw [hx x h]; rfl), decide_eq_true (show l.length ≤ 6 by omega), Bool.and_true]
  congr 1
  cases h : l.all labB with
  | false =>
   obtain ⟨x, h1, h2⟩ := List.all_eq_false.1 h
   rw [List.any_eq_true.2 ⟨x, h1, by rw [hx x h1]; simpa using h2⟩]
   rfl
  | true =>
   have : (l.any fun x => !(impl_isLabel.f x.f0 x.f1 x.f2).getD false) = false := List.any_eq_false.2 fun x h1 => by
    rw [hx x h1]
    simpa using List.all_eq_true.1 h x h1
   rw [this]
   rfl
 ·
  rw [if_neg c, decide_eq_false (show ¬ l.length ≤ 6 by omega), Bool.and_false]
end Go.Proofs.YtjkcfpmonpkhhaaDoor.Pr.Pure

namespace Go.Proofs.YtjkcfpmonpkhhaaDoor.Pr.Pure
open Go.RowKit Go.Proofs.YtjkcfpmonpkhhaaDoorW.PrintWords Go.Proofs.YtjkcfpmonpkhhaaDoorW.PrintLast Go.Proofs.YtjkcfpmonpkhhaaDoorW.PrintMore
set_option linter.unusedVariables false
set_option linter.unusedSimpArgs false
theorem strOf_one (x : Int) : (strOfNums [x]).size = 1 := by simp [strOfNums, ByteArray.size]
theorem markText_l0 : ∀ (j k : Nat) (x : Int) (s : ByteArray), 0 ≤ x → x < 10 ^ j → x ≤ 1125899906842624 → j < k → s.size + j ≤ 1000 → ∃ r, laws_markText.l0 k x s = some r := by
 intro j
 induction j with
 | zero =>
  intro k x s h0 h1 h2 hk hs
  obtain ⟨k, rfl⟩ : ∃ m, k = m + 1 := ⟨k - 1, by omega⟩
  simp only [laws_markText.l0]
  rw [if_neg (by omega), if_pos (by omega)]
  exact ⟨_, rfl⟩
 | succ j ih =>
  intro k x s h0 h1 h2 hk hs
  obtain ⟨k, rfl⟩ : ∃ m, k = m + 1 := ⟨k - 1, by omega⟩
  simp only [laws_markText.l0]
  by_cases h : x > 0
  ·
   have hd : Int.tdiv x 10 = x / 10 := Int.tdiv_eq_ediv_of_nonneg h0
   have h3 : x / 10 < 10 ^ j := by
    rw [Int.pow_succ] at h1
    omega
   rw [if_pos h, obs, strOf_one, if_pos (by omega), hd, w64 (by omega) (by omega)]
   refine ih k (x / 10) _ (by omega) h3 (by omega) (by omega) ?_
   unfold sc
   rw [ByteArray.size_append, strOf_one]
   omega
  ·
   rw [if_neg h, if_pos (by omega)]
   exact ⟨_, rfl⟩
theorem markText_ex {x : Int} (h0 : 0 ≤ x) (h1 : x ≤ 1125899906842624) : ∃ r, laws_markText.f 40 x = some r := by
 unfold laws_markText.f
 by_cases h : x ≤ 0
 ·
  rw [if_pos h]
  exact ⟨_, rfl⟩
 ·
  rw [if_neg h]
  exact markText_l0 16 40 x _ h0 (Int.lt_of_le_of_lt h1 (by decide)) h1 (by omega) (by decide)
def txt (x : Int) : ByteArray := (laws_markText.f 40 x).getD ⟨#[]⟩
theorem markText_eq {k : Nat} (hk : 40 ≤ k) {x : Int} (h0 : 0 ≤ x) (h1 : x ≤ 1125899906842624) : laws_markText.f k x = some (txt x) := by
 obtain ⟨r, hr⟩ := markText_ex h0 h1
 have : laws_markText.f k x = some r := at_rounds (fun k => laws_markText.mono x k) hk hr
 rw [this]
 unfold txt
 rw [hr]
 rfl
end Go.Proofs.YtjkcfpmonpkhhaaDoor.Pr.Pure

namespace Go.Proofs.YtjkcfpmonpkhhaaDoor.Pr.Pure
open Go.RowKit Go.Proofs.YtjkcfpmonpkhhaaDoorW.PrintWords Go.Proofs.YtjkcfpmonpkhhaaDoorW.PrintLast Go.Proofs.YtjkcfpmonpkhhaaDoorW.PrintMore Go.Lib
set_option linter.unusedVariables false
set_option linter.unusedSimpArgs false
def upFrom (a : Int) : Nat → List Int
 | 0 => []
 | n + 1 => a :: upFrom (a + 1) n
theorem upFrom_len (n : Nat) : ∀ a, (upFrom a n).length = n := by
 induction n with
 | zero => intro a; rfl
 | succ n ih => intro a; simp [upFrom, ih]
theorem upFrom_get (n : Nat) : ∀ (a : Int) (j : Nat), j < n → (upFrom a n)[j]? = some (a + j) := by
 induction n with
 | zero => intro a j h; omega
 | succ n ih =>
  intro a j h
  cases j with
  | zero => simp [upFrom]
  | succ j =>
   simp only [upFrom, List.getElem?_cons_succ]
   rw [ih (a + 1) j (by omega)]
   congr 1
   omega
theorem markIntS_l0 (d : Nat) : ∀ (k i : Nat) (pre suf : List Int) (a : Int), pre.length = i → suf.length = d → d < k → i + d ≤ 4611686018427387904 → 0 ≤ a → a + d ≤ 4611686018427387904 →
  laws_markIntS.l0 k (pre ++ suf) a i = some (a + d, pre ++ upFrom a d) := by
 induction d with
 | zero =>
  intro k i pre suf a hp hs hk hb h0 h1
  obtain ⟨k, rfl⟩ : ∃ m, k = m + 1 := ⟨k - 1, by omega⟩
  obtain rfl : suf = [] := List.length_eq_zero_iff.1 hs
  simp only [laws_markIntS.l0]
  rw [if_neg (by simp; omega)]
  simp [upFrom]
 | succ d ih =>
  intro k i pre suf a hp hs hk hb h0 h1
  obtain ⟨k, rfl⟩ : ∃ m, k = m + 1 := ⟨k - 1, by omega⟩
  obtain ⟨y, ys, rfl⟩ : ∃ y ys, suf = y :: ys := List.exists_cons_of_length_pos (by omega)
  simp only [laws_markIntS.l0]
  rw [if_pos (by simp; omega), if_pos (by omega), w64 (x := a + 1) (by omega) (by omega), w64 (x := (i : Int) + 1) (by omega) (by omega), Int.toNat_natCast]
  have e : (pre ++ y :: ys).set i a = (pre ++ [a]) ++ ys := by
   rw [List.set_append_right _ _ (by omega), hp, Nat.sub_self, List.set_cons_zero]
   simp
  rw [e]
  have := ih k (i + 1) (pre ++ [a]) ys (a + 1) (by simp; omega) (by simpa using hs) (by omega) (by omega) (by omega) (by omega)
  rw [show ((i : Int) + 1) = ((i + 1 : Nat) : Int) by omega, this]
  simp only [upFrom, List.append_assoc, List.singleton_append]
  congr 2
  omega
theorem markIntS_eq {l : List Int} (hl : l.length ≤ 70368744177664) {k : Nat} (hk : l.length < k) {a : Int} (h0 : 0 ≤ a) (h1 : a ≤ 1125899906842624) : laws_markIntS.f k l a = some (a + l.length, upFrom a l.length) := by
 unfold laws_markIntS.f
 have := markIntS_l0 l.length k 0 [] l a rfl rfl hk (by omega) h0 (by omega)
 simpa using this
theorem heldIntS_l0 (n : Nat) (b : Int) (d : Nat) : ∀ (k i : Nat), i + d = n → d < k → n ≤ 4611686018427387904 → 0 ≤ b → b + n ≤ 4611686018427387904 →
  laws_heldIntS.l0 k (upFrom b n) (b + i) i = some (b + n) := by
 induction d with
 | zero =>
  intro k i hd hk hn h0 h1
  obtain ⟨k, rfl⟩ : ∃ m, k = m + 1 := ⟨k - 1, by omega⟩
  simp only [laws_heldIntS.l0]
  rw [if_neg (by rw [upFrom_len]; omega)]
  congr 2
  omega
 | succ d ih =>
  intro k i hd hk hn h0 h1
  obtain ⟨k, rfl⟩ : ∃ m, k = m + 1 := ⟨k - 1, by omega⟩
  have e : rd (upFrom b n) (i : Int) = b + i := by
   simp only [rd, Int.toNat_natCast, List.getD_eq_getElem?_getD]
   rw [upFrom_get n b i (by omega)]
   rfl
  simp only [laws_heldIntS.l0]
  rw [if_pos (by rw [upFrom_len]; omega), if_pos (by omega), if_pos e, w64 (x := b + i + 1) (by omega) (by omega), w64 (x := (i : Int) + 1) (by omega) (by omega)]
  have := ih k (i + 1) (by omega) (by omega) hn h0 h1
  rw [show b + (i : Int) + 1 = b + ((i + 1 : Nat) : Int) by omega, show ((i : Int) + 1) = ((i + 1 : Nat) : Int) by omega]
  exact this
theorem heldIntS_eq {n : Nat} (hn : n ≤ 70368744177664) {k : Nat} (hk : n < k) {a : Int} (h0 : 0 ≤ a) (h1 : a ≤ 1125899906842624) : laws_heldIntS.f k (upFrom a n) a = some (a + n) := by
 unfold laws_heldIntS.f
 have := heldIntS_l0 n a n k 0 (by omega) hk (by omega) h0 (by omega)
 simpa using this
theorem eqIntS_self (l : List Int) (hl : l.length ≤ 4611686018427387904) (d : Nat) : ∀ (k : Nat) (i : Int), 0 ≤ i → i + d = l.length → d < k → laws_eqIntS.l0 k l l i = some true := by
 induction d with
 | zero =>
  intro k i h0 hd hk
  obtain ⟨k, rfl⟩ : ∃ m, k = m + 1 := ⟨k - 1, by omega⟩
  simp only [laws_eqIntS.l0]
  rw [if_neg (by omega)]
 | succ d ih =>
  intro k i h0 hd hk
  obtain ⟨k, rfl⟩ : ∃ m, k = m + 1 := ⟨k - 1, by omega⟩
  simp only [laws_eqIntS.l0, if_true]
  rw [if_pos (by omega), if_pos (by omega), if_pos (by omega), w64 (by omega) (by omega)]
  exact ih k (i + 1) (by omega) (by omega) (by omega)
theorem eqIntS_eq {l : List Int} (hl : l.length ≤ 4611686018427387904) {k : Nat} (hk : l.length < k) : laws_eqIntS.f k l l = some true := by
 unfold laws_eqIntS.f
 rw [if_pos rfl]
 exact eqIntS_self l hl l.length k 0 (by omega) (by omega) hk
def meetB (a b c d e f g h : Int) : Bool := (impl_meet.f a b c d e f g h).getD false
theorem meet_eq (a b c d e f g h : Int) : impl_meet.f a b c d e f g h = some (meetB a b c d e f g h) := by
 have : ∃ r, impl_meet.f a b c d e f g h = some r := by
  unfold impl_meet.f
  repeat' split
  all_goals exact ⟨_, rfl⟩
 obtain ⟨r, hr⟩ := this
 unfold meetB
 rw [hr]
 rfl
theorem meet_eq' (a b c d e f g h : Int) : spec_l24Meet.f a b c d e f g h = some (meetB a b c d e f g h) := meet_eq a b c d e f g h
def onB (b0 b1 b2 b3 : Int) : Bool := if b0 ≥ 0 then (if b1 ≥ 0 then (if wrap64 (b0 + b2) ≤ 100 then decide (wrap64 (b1 + b3) ≤ 100) else false) else false) else false
def fitB (l : List S29) (b0 b1 b2 b3 : Int) : Bool := !(l.any fun x => meetB b0 b1 b2 b3 x.f1 x.f2 1 1) && onB b0 b1 b2 b3
theorem free_l0 (l : List S29) (hl : l.length ≤ 1048576) (b0 b1 b2 b3 : Int) (d : Nat) : ∀ (k i : Nat), i + d = l.length → d < k →
  spec_l24Free.l0 k l i b0 b1 b2 b3 = some (!((l.drop i).any fun x => meetB b0 b1 b2 b3 x.f1 x.f2 1 1) && onB b0 b1 b2 b3) := by
 induction d with
 | zero =>
  intro k i hd hk
  obtain ⟨k, rfl⟩ : ∃ m, k = m + 1 := ⟨k - 1, by omega⟩
  simp only [spec_l24Free.l0]
  rw [if_neg (by omega), List.drop_of_length_le (by omega), List.any_nil, Bool.not_false, Bool.true_and]
  unfold onB
  repeat' split
  all_goals first | rfl | contradiction
 | succ d ih =>
  intro k i hd hk
  obtain ⟨k, rfl⟩ : ∃ m, k = m + 1 := ⟨k - 1, by omega⟩
  simp only [spec_l24Free.l0]
  rw [if_pos (by omega), if_pos (by omega), meet_eq', obs, rdLab_drop l i (by omega), List.any_cons]
  cases meetB b0 b1 b2 b3 (rd_T29 l i).f1 (rd_T29 l i).f2 1 1 with
  | true => rfl
  | false =>
   rw [if_neg Bool.false_ne_true, w64 (by omega) (by omega), Bool.false_or]
   exact ih k (i + 1) (by omega) (by omega)
theorem free_spec (l : List S29) (hl : l.length ≤ 1048576) (b0 b1 b2 b3 : Int) {k : Nat} (hk : l.length < k) : spec_l24Free.f k l b0 b1 b2 b3 = some (fitB l b0 b1 b2 b3) := by
 unfold spec_l24Free.f fitB
 have := free_l0 l hl b0 b1 b2 b3 l.length k 0 (by omega) hk
 simpa using this
theorem free_impl (l : List S29) (b0 b1 b2 b3 : Int) : impl_free.f l b0 b1 b2 b3 = some (fitB l b0 b1 b2 b3) := by
 unfold impl_free.f fitB onB
 by_cases c0 : b0 < 0
 ·
  rw [if_pos c0, if_neg (show ¬ b0 ≥ 0 by omega), Bool.and_false]
 ·
  rw [if_neg c0, if_pos (show b0 ≥ 0 by omega)]
  by_cases c1 : b1 < 0
  ·
   rw [if_pos c1, if_neg (show ¬ b1 ≥ 0 by omega), Bool.and_false]
  ·
   rw [if_neg c1, if_pos (show b1 ≥ 0 by omega)]
   by_cases c2 : 100 < wrap64 (b0 + b2)
   ·
    rw [if_pos c2, if_neg (show ¬ wrap64 (b0 + b2) ≤ 100 by omega), Bool.and_false]
   ·
    rw [if_neg c2, if_pos (show wrap64 (b0 + b2) ≤ 100 by omega)]
    by_cases c3 : 100 < wrap64 (b1 + b3)
    ·
     rw [if_pos c3, decide_eq_false (show ¬ wrap64 (b1 + b3) ≤ 100 by omega), Bool.and_false]
    ·
     rw [if_neg c3, if_pos (List.all_eq_true.2 fun x _ => by rw [meet_eq]; rfl), decide_eq_true (show wrap64 (b1 + b3) ≤ 100 by omega), Bool.and_true]
     rfl
def boxT (x : S29) (w : Int) : Int × Int × Int × Int :=
 ((if w ≥ 2 then wrap64 (x.f1 - (x.f0.size : Int)) else wrap64 (x.f1 + 1)), (if Int.tmod w 2 = 1 then wrap64 (x.f2 - 2) else wrap64 (x.f2 + 1)), (x.f0.size : Int), 2)
theorem box_spec (x : S29) (w : Int) : spec_l24Box.f x.f0 x.f1 x.f2 w = some (boxT x w) := rfl
theorem box_impl (x : S29) (w : Int) : impl_boxFor.f x.f0 x.f1 x.f2 w = some (boxT x w) := rfl
theorem markLabelS_l0 (d : Nat) : ∀ (k : Nat) (l : List S29) (a i : Int), l.length ≤ 1152921504606846976 → 0 ≤ i → i + d = l.length → d + 40 < k → 0 ≤ a → a + 8 * d ≤ 1125899906842624 →
  ∃ (b : Int) (l' : List S29), laws_markLabelS.l0 k l a i = some (b, l') ∧ a ≤ b ∧ b ≤ a + 8 * d := by
 induction d with
 | zero =>
  intro k l a i hl h0 hd hk ha hb
  obtain ⟨k, rfl⟩ : ∃ m, k = m + 1 := ⟨k - 1, by omega⟩
  refine ⟨a, l, ?_, by omega, by omega⟩
  simp only [laws_markLabelS.l0]
  rw [if_neg (by omega)]
 | succ d ih =>
  intro k l a i hl h0 hd hk ha hb
  obtain ⟨k, rfl⟩ : ∃ m, k = m + 1 := ⟨k - 1, by omega⟩
  simp only [laws_markLabelS.l0]
  rw [if_pos (by omega), markText_eq (by omega) ha (by omega), obs, if_pos (by omega), obs, obs, w64 (x := a + 1) (by omega) (by omega), w64 (x := a + 1 + 1) (by omega) (by omega), w64 (x := a + 1 + 1 + 1) (by omega) (by omega), w64 (x := i + 1) (by omega) (by omega)]
  have hL : ∀ L : List S29, L.length = l.length → ∃ (b : Int) (l' : List S29), laws_markLabelS.l0 k L (a + 1 + 1 + 1) (i + 1) = some (b, l') ∧ a ≤ b ∧ b ≤ a + 8 * ((d + 1 : Nat) : Int) := fun L hL => by
   obtain ⟨b, l', e, h1, h2⟩ := ih k L (a + 1 + 1 + 1) (i + 1) (by omega) (by omega) (by omega) (by omega) (by omega) (by omega)
   exact ⟨b, l', e, by omega, by omega⟩
  exact hL _ (by simp only [List.length_set])
theorem markLabelS_eq {l : List S29} (hl : l.length ≤ 1048576) {k : Nat} (hk : l.length + 40 < k) :
  ∃ (b : Int) (l' : List S29), laws_markLabelS.f k l 1 = some (b, l') ∧ 0 ≤ b := by
 unfold laws_markLabelS.f
 obtain ⟨b, l', e, h2, h3⟩ := markLabelS_l0 l.length k l 1 0 (by omega) (by omega) (by omega) hk (by omega) (by omega)
 exact ⟨b, l', e, by omega⟩
end Go.Proofs.YtjkcfpmonpkhhaaDoor.Pr.Pure

namespace Go.Proofs.YtjkcfpmonpkhhaaDoor.Pr.Pure
open Go.RowKit Go.Proofs.YtjkcfpmonpkhhaaDoorW.PrintWords Go.Proofs.YtjkcfpmonpkhhaaDoorW.PrintLast Go.Proofs.YtjkcfpmonpkhhaaDoorW.PrintMore Go.Lib
set_option linter.unusedVariables false
abbrev BxT := Int × Int × Int × Int
def bxT (l : List S29) (i : Nat) (w : Int) : BxT := boxT (rd_T29 l (i : Int)) w
def bST (b : BxT) : S26 := ⟨b.1, b.2.1, b.2.2.1, b.2.2.2⟩
def mtT (b c : BxT) : Bool := meetB b.1 b.2.1 b.2.2.1 b.2.2.2 c.1 c.2.1 c.2.2.1 c.2.2.2
def fitT (l : List S29) (b : BxT) : Bool := fitB l b.1 b.2.1 b.2.2.1 b.2.2.2
def anyT_ (bs : List S26) (b : BxT) : Bool := bs.any fun x => meetB b.1 b.2.1 b.2.2.1 b.2.2.2 x.f0 x.f1 x.f2 x.f3
def okT (l : List S29) (i : Nat) (w : Int) (bs : List S26) : Bool := fitT l (bxT l i w) && !(anyT_ bs (bxT l i w))
def anyH (l : List S29) (ws : List Int) (b : BxT) : Nat → Nat → Bool
 | 0, _ => false
 | d + 1, j => (decide (0 ≤ rd ws (j : Int)) && mtT b (bxT l j (rd ws (j : Int)))) || anyH l ws b d (j + 1)
theorem anyH_last (l : List S29) (ws : List Int) (b : BxT) (d : Nat) : ∀ j : Nat, anyH l ws b (d + 1) j = (anyH l ws b d j || (decide (0 ≤ rd ws ((j + d : Nat) : Int)) && mtT b (bxT l (j + d) (rd ws ((j + d : Nat) : Int))))) := by
 induction d with
 | zero =>
  intro j
  show (_ || false) = (false || _)
  rw [Bool.or_false, Bool.false_or, Nat.add_zero]
 | succ d ih =>
  intro j
  show (_ || anyH l ws b (d + 1) (j + 1)) = ((_ || anyH l ws b d (j + 1)) || _)
  rw [ih (j + 1), Bool.or_assoc, show j + 1 + d = j + (d + 1) by omega]
theorem rd_left (ws : List Int) (w : Int) (j : Nat) (h : j < ws.length) : rd (ws ++ [w]) (j : Int) = rd ws (j : Int) := by
 show (ws ++ [w]).getD (j : Int).toNat 0 = ws.getD (j : Int).toNat 0
 rw [Int.toNat_natCast, List.getD_eq_getElem?_getD, List.getD_eq_getElem?_getD, List.getElem?_append_left h]
theorem rd_end (ws : List Int) (w : Int) : rd (ws ++ [w]) (ws.length : Int) = w := by
 show (ws ++ [w]).getD (ws.length : Int).toNat 0 = w
 rw [Int.toNat_natCast, List.getD_eq_getElem?_getD, List.getElem?_append_right (Nat.le_refl _), Nat.sub_self]
 rfl
theorem anyH_ext (l : List S29) (ws : List Int) (w : Int) (b : BxT) (d : Nat) : ∀ j : Nat, j + d ≤ ws.length → anyH l (ws ++ [w]) b d j = anyH l ws b d j := by
 induction d with
 | zero => intro j _; rfl
 | succ d ih =>
  intro j h
  show (_ || anyH l (ws ++ [w]) b d (j + 1)) = (_ || anyH l ws b d (j + 1))
  rw [ih (j + 1) (by omega), rd_left ws w j (by omega)]
theorem anyH_snoc (l : List S29) (ws : List Int) (w : Int) (b : BxT) : anyH l (ws ++ [w]) b (ws.length + 1) 0 = (anyH l ws b ws.length 0 || (decide (0 ≤ w) && mtT b (bxT l ws.length w))) := by
 rw [anyH_last, anyH_ext l ws w b ws.length 0 (by omega), Nat.zero_add, rd_end]
theorem mayT_l0 (l : List S29) (ws : List Int) (hl : l.length ≤ 1048576) (b : BxT) (n : Nat) (hn : n ≤ l.length) (hw : n ≤ ws.length) (d : Nat) : ∀ (k j : Nat), j + d = n → d < k →
  spec_l24May.l0 k l ws n j b.1 b.2.1 b.2.2.1 b.2.2.2 = some (!(anyH l ws b d j)) := by
 induction d with
 | zero =>
  intro k j hd hk
  obtain ⟨k, rfl⟩ : ∃ m, k = m + 1 := ⟨k - 1, by omega⟩
  simp only [spec_l24May.l0]
  rw [if_neg (by omega)]
  rfl
 | succ d ih =>
  intro k j hd hk
  obtain ⟨k, rfl⟩ : ∃ m, k = m + 1 := ⟨k - 1, by omega⟩
  have e := ih k (j + 1) (by omega) (by omega)
  simp only [spec_l24May.l0]
  rw [if_pos (by omega), if_pos (by omega), if_pos (by omega), w64 (by omega) (by omega)]
  show _ = some (!((decide (0 ≤ rd ws (j : Int)) && mtT b (bxT l j (rd ws (j : Int)))) || anyH l ws b d (j + 1)))
  by_cases h3 : rd ws (j : Int) ≥ 0
  ·
   rw [if_pos h3, if_pos (by omega), box_spec, obs, meet_eq', obs, decide_eq_true (show 0 ≤ rd ws (j : Int) from h3), Bool.true_and]
   show (if mtT b (bxT l j (rd ws j)) = true then _ else _) = _
   cases mtT b (bxT l j (rd ws j)) with
   | true => rfl
   | false =>
    rw [if_neg Bool.false_ne_true, Bool.false_or]
    exact e
  ·
   rw [if_neg h3, decide_eq_false (show ¬ 0 ≤ rd ws (j : Int) from h3), Bool.false_and, Bool.false_or]
   exact e
theorem mayT (l : List S29) (ws : List Int) (w : Int) (hl : l.length ≤ 1048576) (hi : ws.length < l.length) {k : Nat} (hk : l.length < k) {bs : List S26} (hI : ∀ b, anyH l ws b ws.length 0 = anyT_ bs b) :
  spec_l24May.f k l (ws ++ [w]) (ws.length : Int) = some (okT l ws.length w bs) := by
 unfold spec_l24May.f
 rw [if_pos (by omega), if_pos (by omega), if_pos (by rw [List.length_append, List.length_singleton]; omega), rd_end, box_spec, obs, free_spec l hl _ _ _ _ hk, obs]
 unfold okT
 show (if fitT l (bxT l ws.length w) = true then _ else _) = _
 cases fitT l (bxT l ws.length w) with
 | false => rfl
 | true =>
  rw [if_pos rfl, Bool.true_and]
  have := mayT_l0 l (ws ++ [w]) hl (bxT l ws.length w) ws.length (by omega) (by rw [List.length_append]; omega) ws.length k 0 (by omega) (by omega)
  rw [anyH_ext l ws w _ ws.length 0 (by omega), hI] at this
  exact this
def en (l : List S29) (sel : Nat → Bool) : Nat → List Int → List S26 → List (List Int)
 | 0, ws, _ => [ws]
 | m + 1, ws, bs => if sel ws.length = true then ([0, 1, 2, 3] : List Int).flatMap (fun w => if okT l ws.length w bs = true then en l sel m (ws ++ [w]) (bs ++ [bST (bxT l ws.length w)]) else []) else en l sel m (ws ++ [-1]) bs
theorem en_len (l : List S29) (sel : Nat → Bool) (m : Nat) : ∀ ws bs, (en l sel m ws bs).length ≤ 4 ^ m := by
 induction m with
 | zero => intro ws bs; exact Nat.le_refl _
 | succ m ih =>
  intro ws bs
  unfold en
  have hp : 4 ^ (m + 1) = 4 ^ m + 4 ^ m + 4 ^ m + 4 ^ m := by rw [Nat.pow_succ]; omega
  by_cases h : sel ws.length = true
  ·
   rw [if_pos h]
   have hw : ∀ w : Int, (if okT l ws.length w bs = true then en l sel m (ws ++ [w]) (bs ++ [bST (bxT l ws.length w)]) else []).length ≤ 4 ^ m := by
    intro w
    split
    ·
     exact ih _ _
    ·
     exact Nat.zero_le _
   have h0 := hw 0
   have h1 := hw 1
   have h2 := hw 2
   have h3 := hw 3
   simp only [List.flatMap_cons, List.flatMap_nil, List.length_append, List.length_nil]
   omega
  ·
   rw [if_neg h]
   have := ih (ws ++ [-1]) bs
   omega
def selO (set : Int) (i : Nat) : Bool := decide (¬ Go.bits .and .i64 (shr .i64 set (i : Int)) 1 = 0)
theorem u64n (n : Nat) (h : n ≤ 1048576) : IntKind.u64.wrap (n : Int) = (n : Int) := by
 have e : IntKind.u64.wrap (n : Int) = (n : Int) % 18446744073709551616 := rfl
 omega
theorem own_eq (ws : List Int) (h : ws.length ≤ 1048576) : spec_l1Own.f ws = some ws := by
 unfold spec_l1Own.f
 rw [obs, if_pos (by simp; omega)]
 rfl
theorem count_eq (l : List S29) (hl : l.length ≤ 6) (set : Int) (m : Nat) : ∀ (k : Nat) (ws : List Int) (bs : List S26), ws.length + m = l.length → (∀ b, anyH l ws b ws.length 0 = anyT_ bs b) → 8 * m + 30 < k →
  spec_l24Count.f k l set ws = some ((en l (selO set) m ws bs).headD [], ((en l (selO set) m ws bs).length : Int)) := by
 induction m with
 | zero =>
  intro k ws bs hm hI hk
  obtain ⟨k, rfl⟩ : ∃ n, k = n + 1 := ⟨k - 1, by omega⟩
  simp only [spec_l24Count.f]
  rw [if_pos (by omega)]
  rfl
 | succ m ih =>
  intro k ws bs hm hI hk
  obtain ⟨k, rfl⟩ : ∃ n, k = n + 1 := ⟨k - 1, by omega⟩
  simp only [spec_l24Count.f]
  rw [if_neg (by omega), u64n ws.length (by omega), if_pos (by omega)]
  unfold en
  by_cases hs : Go.bits .and .i64 (shr .i64 set (ws.length : Int)) 1 = 0
  ·
   rw [if_pos hs, own_eq ws (by omega), obs, if_pos (by omega), show selO set ws.length = false from decide_eq_false (fun h => h hs), if_neg (by decide)]
   have e := ih k (ws ++ [-1]) bs (by rw [List.length_append, List.length_singleton]; omega) (fun b => by
    rw [List.length_append, List.length_singleton, anyH_snoc, decide_eq_false (by decide), Bool.false_and, Bool.or_false]
    exact hI b) (by omega)
   rw [e, obs]
  ·
   rw [if_neg hs, show selO set ws.length = true from decide_eq_true hs, if_pos rfl]
   -- the four ways
   have key : ∀ (d K : Nat) (A : List (List Int)) (w : Int), 0 ≤ w → w + d = 4 → 8 * m + 31 + d < K → A.length + d * 4 ^ m ≤ 100000 →
     spec_l24Count.l0 K l set ws (ws.length : Int) (A.headD []) (A.length : Int) w = some ((A ++ (([0, 1, 2, 3] : List Int).drop w.toNat).flatMap (fun w => if okT l ws.length w bs = true then en l (selO set) m (ws ++ [w]) (bs ++ [bST (bxT l ws.length w)]) else [])).headD [], ((A ++ (([0, 1, 2, 3] : List Int).drop w.toNat).flatMap (fun w => if okT l ws.length w bs = true then en l (selO set) m (ws ++ [w]) (bs ++ [bST (bxT l ws.length w)]) else [])).length : Int)) := by
    intro d
    induction d with
    | zero =>
     intro K A w h0 hd hK hA
     obtain ⟨K, rfl⟩ : ∃ n, K = n + 1 := ⟨K - 1, by omega⟩
     simp only [spec_l24Count.l0]
     rw [if_neg (by omega)]
     obtain rfl : w = 4 := by omega
     simp
    | succ d ihd =>
     intro K A w h0 hd hK hA
     obtain ⟨K, rfl⟩ : ∃ n, K = n + 1 := ⟨K - 1, by omega⟩
     have hmul : (d + 1) * 4 ^ m = d * 4 ^ m + 4 ^ m := Nat.succ_mul ..
     have hA2 : A.length + d * 4 ^ m ≤ 100000 := Nat.le_trans (Nat.add_le_add_left (by rw [hmul]; exact Nat.le_add_right _ _) _) hA
     have ed : ([0, 1, 2, 3] : List Int).drop w.toNat = w :: ([0, 1, 2, 3] : List Int).drop (w + 1).toNat := by
      have h4 : w = 0 ∨ w = 1 ∨ w = 2 ∨ w = 3 := by omega
      rcases h4 with rfl | rfl | rfl | rfl <;> rfl
     simp only [spec_l24Count.l0]
     rw [if_pos (by omega), own_eq ws (by omega), obs, if_pos (by omega), obs, mayT l ws w (by omega) (by omega) (by omega) hI, obs, w64 (x := w + 1) (by omega) (by omega), ed, List.flatMap_cons]
     by_cases ho : okT l ws.length w bs = true
     ·
      rw [ho, if_pos rfl, if_pos rfl]
      have e := ih K (ws ++ [w]) (bs ++ [bST (bxT l ws.length w)]) (by rw [List.length_append, List.length_singleton]; omega) (fun b => by
       rw [List.length_append, List.length_singleton, anyH_snoc, decide_eq_true h0, Bool.true_and, hI b]
       show _ = (bs ++ [_]).any _
       rw [List.any_append]
       congr 1
       show _ = (_ || false)
       rw [Bool.or_false]
       rfl) (by omega)
      have hlen := en_len l (selO set) m (ws ++ [w]) (bs ++ [bST (bxT l ws.length w)])
      generalize en l (selO set) m (ws ++ [w]) (bs ++ [bST (bxT l ws.length w)]) = E at e hlen
      rw [e, obs]
      simp only
      rw [w64 (by omega) (by omega)]
      have hd2 := ihd K (A ++ E) (w + 1) (by omega) (by omega) (by omega) (by rw [List.length_append]; omega)
      rw [List.length_append] at hd2
      rw [← List.append_assoc]
      cases A with
      | nil =>
       rw [if_pos (show (([] : List (List Int)).length : Int) = 0 from rfl)]
       cases E with
       | nil =>
        rw [if_neg (by decide)]
        exact hd2
       | cons p t =>
        rw [if_pos (by rw [List.length_cons]; omega)]
        have e2 : ((([] : List (List Int)).length : Int) + ((p :: t).length : Int)) = ((([] : List (List Int)).length + (p :: t).length : Nat) : Int) := by omega
        rw [e2]
        exact hd2
      | cons p t =>
       rw [if_neg (by rw [List.length_cons]; omega)]
       have e2 : (((p :: t).length : Int) + (E.length : Int)) = (((p :: t).length + E.length : Nat) : Int) := by omega
       rw [e2]
       exact hd2
     ·
      rw [Bool.eq_false_iff.mpr ho, if_neg (by decide), if_neg (by decide), List.nil_append]
      exact ihd K A (w + 1) (by omega) (by omega) (by omega) hA2
   have hpow : 4 ^ m ≤ 4 ^ 6 := Nat.pow_le_pow_right (by decide) (by omega)
   have h6 : (4 : Nat) ^ 6 = 4096 := by decide
   have := key 4 k [] 0 (by omega) (by omega) (by omega) (by rw [List.length_nil]; omega)
   simpa using this
def filt (ws : List Int) : List Int := ws.filter fun x => decide (0 ≤ x)
def sels (sel : Nat → Bool) : Nat → Nat → List Int
 | _, 0 => []
 | i, m + 1 => if sel i = true then (i : Int) :: sels sel (i + 1) m else sels sel (i + 1) m
theorem filt_neg (ws : List Int) : filt (ws ++ [-1]) = filt ws := by
 unfold filt
 rw [List.filter_append]
 simp
theorem filt_pos (ws : List Int) (w : Int) (h : 0 ≤ w) : filt (ws ++ [w]) = filt ws ++ [w] := by
 unfold filt
 rw [List.filter_append]
 simp [h]
theorem hitB_eq (bs : List S26) (b : BxT) : hitB_ bs b.1 b.2.1 b.2.2.1 b.2.2.2 = some (anyT_ bs b) := by
 unfold hitB_
 rw [if_pos (List.all_eq_true.2 fun x _ => by rw [meet_eq]; rfl)]
 rfl
theorem catM_eq (f : Int → Option (List (List Int))) (g : Int → List (List Int)) : ∀ xs, (∀ x ∈ xs, f x = some (g x)) → catM_ f xs = some (xs.flatMap g)
 | [], _ => rfl
 | x :: xs, h => by
  unfold catM_
  rw [h x List.mem_cons_self, obs, catM_eq f g xs (fun y hy => h y (List.mem_cons_of_mem _ hy)), obs, List.flatMap_cons]
theorem plc_eq (l : List S29) (hl : l.length ≤ 1048576) (sel : Nat → Bool) (idx : List Int) (m : Nat) : ∀ (ws pre : List Int) (bs : List S26), ws.length + m = l.length → idx = pre ++ sels sel ws.length m → pre.length = (filt ws).length →
  plc_ l idx (sels sel ws.length m).length (filt ws) bs = some ((en l sel m ws bs).map filt) := by
 induction m with
 | zero =>
  intro ws pre bs hm hi hp
  rfl
 | succ m ih =>
  intro ws pre bs hm hi hp
  unfold sels en
  unfold sels at hi
  by_cases hs : sel ws.length = true
  ·
   rw [if_pos hs] at hi ⊢
   rw [if_pos hs, List.length_cons]
   have hr : rd idx ((filt ws).length : Int) = (ws.length : Int) := by
    rw [hi, ← hp]
    show (pre ++ _ :: _).getD (pre.length : Int).toNat 0 = _
    rw [Int.toNat_natCast, List.getD_eq_getElem?_getD, List.getElem?_append_right (Nat.le_refl _), Nat.sub_self]
    rfl
   simp only [plc_]
   rw [hr, if_pos (by omega), List.map_flatMap]
   refine catM_eq _ _ _ (fun w hw => ?_)
   have hw0 : 0 ≤ w := by
    simp only [List.mem_cons, List.not_mem_nil, or_false] at hw
    omega
   rw [box_impl, obs]
   show ((impl_free.f l (bxT l ws.length w).1 (bxT l ws.length w).2.1 (bxT l ws.length w).2.2.1 (bxT l ws.length w).2.2.2).bind _) = _
   rw [free_impl, obs]
   show (if fitT l (bxT l ws.length w) = true then ((hitB_ bs (bxT l ws.length w).1 (bxT l ws.length w).2.1 (bxT l ws.length w).2.2.1 (bxT l ws.length w).2.2.2).bind _) else _) = _
   unfold okT
   cases fitT l (bxT l ws.length w) with
   | false => rfl
   | true =>
    rw [if_pos rfl, hitB_eq, obs, Bool.true_and]
    cases anyT_ bs (bxT l ws.length w) with
    | true => rfl
    | false =>
     rw [if_neg (by decide), Bool.not_false, if_pos rfl]
     have e := ih (ws ++ [w]) (pre ++ [(ws.length : Int)]) (bs ++ [bST (bxT l ws.length w)]) (by rw [List.length_append, List.length_singleton]; omega) (by rw [hi, List.length_append, List.length_singleton, List.append_assoc]; rfl) (by rw [List.length_append, List.length_singleton, filt_pos ws w hw0, List.length_append, List.length_singleton, hp])
     rw [List.length_append, List.length_singleton, filt_pos ws w hw0] at e
     exact e
  ·
   rw [if_neg hs] at hi ⊢
   rw [if_neg hs]
   have e := ih (ws ++ [-1]) pre bs (by rw [List.length_append, List.length_singleton]; omega) (by rw [hi, List.length_append, List.length_singleton]) (by rw [filt_neg, hp])
   rw [List.length_append, List.length_singleton, filt_neg] at e
   exact e
theorem en_all (l : List S29) (sel : Nat → Bool) (m : Nat) : ∀ (ws : List Int) (bs : List S26), (∀ i, i < ws.length + m → sel i = true) → (∀ x ∈ ws, 0 ≤ x) → ∀ p ∈ en l sel m ws bs, filt p = p := by
 induction m with
 | zero =>
  intro ws bs _ hw p hp
  obtain rfl := List.mem_singleton.1 hp
  exact List.filter_eq_self.2 (fun x hx => decide_eq_true (hw x hx))
 | succ m ih =>
  intro ws bs hs hw p hp
  unfold en at hp
  rw [if_pos (hs ws.length (by omega))] at hp
  obtain ⟨w, hwm, hp⟩ := List.mem_flatMap.1 hp
  have hw0 : 0 ≤ w := by
   simp only [List.mem_cons, List.not_mem_nil, or_false] at hwm
   omega
  split at hp
  ·
   exact ih _ _ (fun i hi => hs i (by rw [List.length_append, List.length_singleton] at hi; omega)) (fun x hx => by
    rcases List.mem_append.1 hx with hx | hx
    ·
     exact hw x hx
    ·
     rw [List.mem_singleton.1 hx]; exact hw0) p hp
  ·
   cases hp
def fullS (n : Nat) : Int := wrap64 ((shl .i64 1 (IntKind.u64.wrap (n : Int))) - 1)
theorem full_all : ((List.range 7).all fun n => (List.range n).all fun i => selO (fullS n) i) = true := by kernel_rfl
theorem full_sel {n i : Nat} (hn : n ≤ 6) (hi : i < n) : selO (fullS n) i = true :=
 List.all_eq_true.1 (List.all_eq_true.1 full_all n (List.mem_range.2 (by omega))) i (List.mem_range.2 hi)
theorem sels_full (sel : Nat → Bool) (m : Nat) : ∀ i, (∀ j, i ≤ j → j < i + m → sel j = true) → sels sel i m = (List.range' i m).map (fun (j : Nat) => (j : Int)) := by
 induction m with
 | zero => intro i _; rfl
 | succ m ih =>
  intro i h
  unfold sels
  rw [if_pos (h i (Nat.le_refl _) (by omega)), ih (i + 1) (fun j h1 h2 => h j (by omega) (by omega)), List.range'_succ]
  rfl
theorem all_l0 (n : Nat) (hn : n ≤ 1048576) (d : Nat) : ∀ (k i : Nat) (acc : List Int), i + d = n → acc.length = i → d < k → impl_allIndices.l0 k acc (n : Int) (i : Int) = some (acc ++ (List.range' i d).map (fun (j : Nat) => (j : Int))) := by
 induction d with
 | zero =>
  intro k i acc hd ha hk
  obtain ⟨k, rfl⟩ : ∃ m, k = m + 1 := ⟨k - 1, by omega⟩
  simp only [impl_allIndices.l0]
  rw [if_neg (by omega)]
  simp
 | succ d ih =>
  intro k i acc hd ha hk
  obtain ⟨k, rfl⟩ : ∃ m, k = m + 1 := ⟨k - 1, by omega⟩
  simp only [impl_allIndices.l0]
  rw [if_pos (by omega), if_pos (by omega), w64 (by omega) (by omega)]
  have e := ih k (i + 1) (acc ++ [(i : Int)]) (by omega) (by rw [List.length_append, List.length_singleton, ha]) (by omega)
  rw [List.range'_succ, List.map_cons]
  rw [List.append_assoc] at e
  exact e
def plcs (l : List S29) : List (List Int) := en l (selO (fullS l.length)) l.length [] []
theorem count_full {l : List S29} (hl : l.length ≤ 6) {k : Nat} (hk : 100 < k) : spec_l24Count.f k l (wrap64 ((shl .i64 1 (IntKind.u64.wrap ((l.length : Int)))) - 1)) ([] : List Int) = some ((plcs l).headD [], ((plcs l).length : Int)) :=
 count_eq l hl (fullS l.length) l.length k [] [] (by simp) (fun b => rfl) (by omega)
theorem plc_full {l : List S29} (hl : l.length ≤ 6) {k : Nat} (hk : 100 < k) : ∃ idx, impl_allIndices.f k (l.length : Int) = some idx ∧ idx.length = l.length ∧ plc_ l idx idx.length [] [] = some (plcs l) := by
 have e1 := all_l0 l.length (by omega) l.length k 0 [] (by omega) rfl (by omega)
 have hs : ∀ j, 0 ≤ j → j < 0 + l.length → selO (fullS l.length) j = true := fun j _ h => full_sel hl (by omega)
 have e2 := sels_full (selO (fullS l.length)) l.length 0 hs
 refine ⟨sels (selO (fullS l.length)) 0 l.length, ?_, by rw [e2, List.length_map, List.length_range'], ?_⟩
 ·
  unfold impl_allIndices.f
  rw [e2]
  simpa using e1
 ·
  have e3 := plc_eq l (by omega) (selO (fullS l.length)) (sels (selO (fullS l.length)) 0 l.length) l.length [] [] [] (by simp) (by simp) rfl
  have e4 : (en l (selO (fullS l.length)) l.length [] []).map filt = plcs l := by
   unfold plcs
   conv => rhs; rw [← List.map_id (en l (selO (fullS l.length)) l.length [] [])]
   exact List.map_congr_left (fun p hp => en_all l _ l.length [] [] (fun i hi => hs i (Nat.zero_le _) (by simpa using hi)) (fun x hx => by cases hx) p hp)
  rw [e4] at e3
  exact e3
theorem plcs_len (l : List S29) (hl : l.length ≤ 6) : (plcs l).length ≤ 4096 := by
 have h1 := en_len l (selO (fullS l.length)) l.length [] []
 have hpow : 4 ^ l.length ≤ 4 ^ 6 := Nat.pow_le_pow_right (by decide) hl
 have h6 : (4 : Nat) ^ 6 = 4096 := by decide
 unfold plcs
 omega
theorem labs_len {m : List S29} (c : labs m = true) : m.length ≤ 6 := by
 unfold labs at c
 rw [Bool.and_eq_true] at c
 exact of_decide_eq_true c.2
theorem en_size (l : List S29) (sel : Nat → Bool) (m : Nat) : ∀ (ws : List Int) (bs : List S26), ∀ p ∈ en l sel m ws bs, p.length = ws.length + m := by
 induction m with
 | zero =>
  intro ws bs p hp
  rw [List.mem_singleton.1 hp]
  rfl
 | succ m ih =>
  intro ws bs p hp
  unfold en at hp
  split at hp
  ·
   obtain ⟨w, hwm, hp⟩ := List.mem_flatMap.1 hp
   split at hp
   ·
    have := ih _ _ p hp
    rw [List.length_append, List.length_singleton] at this
    omega
   ·
    cases hp
  ·
   have := ih _ _ p hp
   rw [List.length_append, List.length_singleton] at this
   omega
theorem head_len (m : List S29) : ((plcs m).headD []).length ≤ m.length := by
 cases h : plcs m with
 | nil => exact Nat.zero_le _
 | cons p t =>
  have := en_size m (selO (fullS m.length)) m.length [] [] p (by unfold plcs at h; rw [h]; exact List.mem_cons_self)
  show p.length ≤ _
  simp at this
  omega
theorem first_both {m : List S29} (hm : ∀ x, x ∈ m → x.f0.size ≤ 1048576) (hl : m.length ≤ 1048576) : ∃ r b, r.length ≤ 6 ∧ (∀ k, 1048790 + m.length ≤ k → spec_FirstPlacing.f k m = some (r, b) ∧ impl_FirstPlacing.f k m = some (r, b)) ∧ (labs m = true → r = (plcs m).headD [] ∧ b = decide (0 < (plcs m).length)) ∧ (labs m = false → b = false) := by
 by_cases c : labs m = true
 ·
  have h6 := labs_len c
  refine ⟨(plcs m).headD [], decide (0 < (plcs m).length), Nat.le_trans (head_len m) h6, fun k hk => ?_, fun _ => ⟨rfl, rfl⟩, fun h => by rw [c] at h; cases h⟩
  obtain ⟨idx, i1, i2, i3⟩ := plc_full h6 (k := k) (by omega)
  have hp := plcs_len m h6
  unfold spec_FirstPlacing.f impl_FirstPlacing.f impl_firstPlacing.f
  have hu : 0 ≤ IntKind.u64.wrap (m.length : Int) := by rw [u64n m.length (by omega)]; omega
  rw [good_eq hm hl (by omega), are_eq hm, obs, obs, if_pos c, if_pos c, if_pos hu, count_full h6 (by omega), obs, i1, obs, if_pos (show idx.length < 1000000 by omega), i3, obs, obs]
  refine ⟨?_, ?_⟩
  ·
   congr 2
   rw [decide_eq_decide]
   omega
  ·
   congr 2
   cases plcs m <;> simp
 ·
  refine ⟨[], false, by decide, fun k hk => ?_, fun h => absurd h c, fun _ => rfl⟩
  unfold spec_FirstPlacing.f impl_FirstPlacing.f
  rw [good_eq hm hl (by omega), are_eq hm, obs, obs, if_neg c, if_neg c]
  exact ⟨rfl, rfl⟩
end Go.Proofs.YtjkcfpmonpkhhaaDoor.Pr.Pure

namespace Go.Proofs.YtjkcfpmonpkhhaaDoor.Pr.Pure
open Go.RowKit Go.Proofs.YtjkcfpmonpkhhaaDoorW.PrintWords Go.Proofs.YtjkcfpmonpkhhaaDoorW.PrintLast Go.Proofs.YtjkcfpmonpkhhaaDoorW.PrintMore Go.Proofs.YtjkcfpmonpkhhaaDoorW.Opens
set_option linter.unusedVariables false
theorem FnExactFirstPlacing : FnExactFirstPlacing.Pure := by
 intro l hw
 obtain ⟨_, hb, hwf⟩ := hw
 obtain ⟨K0, hK0⟩ : ∃ K0, K0 = 1048790 + l.length := ⟨_, rfl⟩
 obtain ⟨t, e, ht⟩ := szLabelS_eq (l := l) (fun x hx => (hwf x hx).1) (by omega) (k := K0 + 3) (by omega)
 refine ⟨K0 + 3, ?_⟩
 unfold laws_FnExactFirstPlacing.f
 rw [e, obs]
 by_cases c : t < 0
 ·
  rw [if_pos c]
 ·
  rw [if_neg c]
  obtain ⟨hl, hx⟩ := ht (by omega)
  have hlen : (l.map cvLabel).length = l.length := List.length_map _
  have hm : ∀ x, x ∈ l.map cvLabel → x.f0.size ≤ 1048576 := fun x h => by
   obtain ⟨y, hy, rfl⟩ := List.mem_map.1 h
   exact hx y hy
  obtain ⟨r, b, hr, hk, _⟩ := first_both hm (by omega)
  have t0 : ∀ k, K0 ≤ k → laws_toLabelS.f k l = some (l.map cvLabel) := fun k hk => toLabelS_eq hb (by omega)
  have e1 : ∀ k, K0 ≤ k → spec_FirstPlacing.f k (l.map cvLabel) = some (r, b) := fun k h => (hk k (by omega)).1
  have e2 : ∀ k, K0 ≤ k → impl_FirstPlacing.f k (l.map cvLabel) = some (r, b) := fun k h => (hk k (by omega)).2
  have e3 : ∀ k, K0 ≤ k → laws_eqLabelS.f k (l.map cvLabel) (l.map cvLabel) = some true := fun k h => eqLabelS_eq (by omega) (by omega)
  have q : ∀ k, K0 ≤ k → laws_eqIntS.f k r r = some true := fun k h => eqIntS_eq (by omega) (by omega)
  obtain ⟨b1, l1, m1, m2⟩ := markLabelS_eq (l := l.map cvLabel) (by omega) (k := K0 + 2) (by omega)
  have mi : ∀ k, K0 ≤ k → laws_markIntS.f k r 1 = _ := fun k h => markIntS_eq (l := r) (by omega) (k := k) (by omega) (a := 1) (by omega) (by omega)
  have hi : ∀ k, K0 ≤ k → laws_heldIntS.f k (upFrom 1 r.length) 1 = some (1 + (r.length : Int)) := fun k hk => heldIntS_eq (by omega) (by omega) (by omega) (by omega)
  have hj2 : laws_FnExactFirstPlacing.j2 (K0 + 1) (upFrom 1 r.length) (1 + (r.length : Int)) false = some true := by
   simp only [laws_FnExactFirstPlacing.j2, Bool.false_eq_true, if_false, hi _ (Nat.le_refl K0), obs, if_true]
   rw [if_neg (by omega)]
  have hj1 : laws_FnExactFirstPlacing.j1 (K0 + 2) l r b r false = some true := by
   simp only [laws_FnExactFirstPlacing.j1, Bool.false_eq_true, if_false, mi _ (Nat.le_succ K0), hi _ (Nat.le_succ K0), t0 _ (Nat.le_succ K0), e2 _ (Nat.le_succ K0), q _ (Nat.le_succ K0), obs, if_true, bne_self_eq_false]
   rw [if_neg (by omega)]
   exact hj2
  have hj0 : laws_FnExactFirstPlacing.j0 (K0 + 3) l r b (l.map cvLabel) r b false = some true := by
   have h2 : K0 ≤ K0 + 2 := by omega
   simp only [laws_FnExactFirstPlacing.j0, Bool.false_eq_true, if_false, t0 _ h2, e3 _ h2, m1, q _ h2, obs, if_true, bne_self_eq_false]
   rw [if_neg (by omega)]
   exact hj1
  have h3 : K0 ≤ K0 + 3 := by omega
  simp only [obs, t0 _ h3, e1 _ h3, e2 _ h3, q _ h3, bne_self_eq_false, if_true]
  exact hj0
end Go.Proofs.YtjkcfpmonpkhhaaDoor.Pr.Pure

