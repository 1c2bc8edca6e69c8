/-
What is proved: parts of the law FnExactMostPlaced: what the functions that it reaches compute, and the plain law.
Conditions: those of each theorem.
-/
import Derived.ChangeArms
import Derived.ChangeSlices
import Derived.Deep.Slices
import Derived.KernelRfl
import Derived.RowKit
import Derived.SizedLaws
import Derived.WideShapes
import Derived.Test.YtjkcfpmonpkhhaaDoorCFnExactMostPlaced2
namespace Go.Proofs.YtjkcfpmonpkhhaaDoorW.Opens
open Go.ChangeShapes Go.WideShapes Go.RowKit
open Go.Deep (open_slice choose_lt)
open Go.Proofs.YtjkcfpmonpkhhaaDoorW.PrintWords
set_option linter.unusedVariables false
set_option linter.unusedSimpArgs false
def Opn {α : Type} (P : Program) (t : TypeId) (d : Kd α) (wf : α → Prop) : Prop :=
 P.cellsOf t = d.sz ∧ ∀ (H : Type) (enc : TypeId × Value → H) (W : World) (fuel : Nat) (cs : List Value) (x : DataW H × List MemPlace),
  DataW.trod enc P W 0 (fun _ => true) true fuel t cs = some x → (∀ n ∈ x.1.weights P t, n ≤ reachBytes) → ∃ y, d.K W y cs ∧ wf y
theorem Opn.int {P : Program} {t : TypeId} {k : IntKind} (hc : P.cellsOf t = 1) (ht : P.underlying t = some (.int k)) : Opn P t (Kd.int k) (fun n => (Lit.int k n).wf = true) :=
 ⟨hc, fun H enc W fuel cs x h _ => by
  obtain ⟨m, rfl, rfl, hw⟩ := DataW.trod_int ht h
  exact ⟨m, rfl, hw⟩⟩
theorem Opn.bool {P : Program} {t : TypeId} (hc : P.cellsOf t = 1) (ht : P.underlying t = some .bool) : Opn P t Kd.bool (fun _ => True) :=
 ⟨hc, fun H enc W fuel cs x h _ => by
  obtain ⟨m, rfl, rfl⟩ := DataW.trod_bool ht h
  exact ⟨m, rfl, trivial⟩⟩
theorem Opn.string {P : Program} {t : TypeId} (hc : P.cellsOf t = 1) (ht : P.underlying t = some .string) : Opn P t Kd.string (fun s => s.size ≤ 140737488351232) :=
 ⟨hc, fun H enc W fuel cs x h hw => by
  obtain ⟨m, rfl, rfl, hm⟩ := DataW.trod_string ht h
  have := hw m.data.toList.length (by simp [DataW.weights])
  rw [Array.length_toList] at this
  exact ⟨m, rfl, this⟩⟩
theorem weightsAll_mem {H : Type} {P : Program} {e : TypeId} : ∀ {l : List (DataW H)} {d : DataW H}, d ∈ l → ∀ n ∈ d.weights P e, n ∈ DataW.weightsAll P e l
 | _ :: r, d, h, n, hn => by
  simp only [DataW.weightsAll, List.mem_append]
  rcases List.mem_cons.1 h with rfl | h
  ·
   exact .inl hn
  ·
   exact .inr (weightsAll_mem h n hn)
theorem Opn.slice {α : Type} (z : α) {P : Program} {t e : TypeId} {d : Kd α} {wf : α → Prop} {B : Nat} (hc : P.cellsOf t = 1) (ht : P.underlying t = some (.slice e)) (hB : P.bytesOf e = B) (h : Opn P e d wf) :
  Opn P t (Kd.slice e d) (fun xs => xs.length ≤ maxLen ∧ xs.length * B ≤ 140737488351232 ∧ ∀ y ∈ xs, wf y) :=
 ⟨hc, fun H enc W fuel cs x hf hw => by
  haveI : Inhabited α := ⟨z⟩
  rcases open_slice ht hf with ⟨rfl, rfl⟩ | ⟨a, len, cap, m, n, D, Pl, rfl, _, hl, hm, hmm, rfl, each⟩
  ·
   exact ⟨[], ⟨none, 0, rfl, Nat.le_refl _, rfl, by simp, fun h => absurd h (Nat.lt_irrefl 0)⟩, by simp, by simp, by simp⟩
  ·
   rw [if_pos rfl] at hmm
   subst hmm
   have hw0 : ∀ n ∈ DataW.weights P t (DataW.slice (H := H) ((List.range len).map D) ((List.range (m - len)).map fun j => D (len + j))), n ≤ reachBytes := hw
   have hww : ∀ i, i < len → ∀ n ∈ (D i).weights P e, n ≤ reachBytes := by
    intro i hi n hn
    refine hw0 n ?_
    simp only [DataW.weights, ht, List.mem_cons, List.mem_append]
    exact .inr (.inl (weightsAll_mem (List.mem_map.2 ⟨i, List.mem_range.2 hi, rfl⟩) n hn))
   have hB2 : len * B ≤ 140737488351232 := by
    have := hw0 ((len + (m - len)) * B) (by simp [DataW.weights, ht, hB])
    refine Nat.le_trans (Nat.mul_le_mul_right _ (by omega)) this
   have hx : ∀ i, i < len → ∃ y, ∃ c : List Value, c.length = d.sz ∧ d.K W y c ∧ wf y ∧ ∀ j u, c[j]? = some u → W.cell? (a.add (i * d.sz + j)) = some u := by
    intro i hi
    obtain ⟨cs', h1, h2⟩ := each i (by omega)
    obtain ⟨y, hy, hwy⟩ := h.2 H enc W n cs' _ h2 (hww i hi)
    obtain ⟨_, hlen, hcell⟩ := World.cells?_some h1
    rw [h.1] at hlen hcell
    refine ⟨y, cs', hlen, hy, hwy, fun j u hu => ?_⟩
    have hj : j < d.sz := by
     have := (List.getElem?_eq_some_iff.1 hu).1
     omega
    have := hcell j hj
    rw [add_add] at this
    exact this.trans hu
   obtain ⟨f, hf'⟩ := choose_lt hx
   refine ⟨(List.range len).map f, ⟨some a, m, by simp, by simpa using hl, by simp, by simp only [maxLen] at hm; simp; omega, fun _ => ⟨a, rfl, fun j p hj => ?_⟩⟩, ?_, ?_, ?_⟩
   ·
    rw [List.getElem?_map] at hj
    have hj' : j < len := by
     by_cases hjl : j < len
     ·
      exact hjl
     ·
      rw [List.getElem?_eq_none (by simp; omega)] at hj
      cases hj
    rw [List.getElem?_range hj'] at hj
    obtain rfl := Option.some.inj hj
    obtain ⟨c, h1, h2, _, h3⟩ := hf' j hj'
    exact ⟨c, h1, h2, h3⟩
   ·
    simp; omega
   ·
    simpa using hB2
   ·
    intro y hy
    obtain ⟨i, hi, rfl⟩ := List.mem_map.1 hy
    obtain ⟨c, _, _, h2, _⟩ := hf' i (List.mem_range.1 hi)
    exact h2⟩
def FOpn {α : Type} (P : Program) (fs : List Field) (off : Nat) (d : Kd α) (wf : α → Prop) : Prop :=
 ∀ (H : Type) (enc : TypeId × Value → H) (W : World) (fuel : Nat) (cs : List Value) (xs : List (DataW H × List MemPlace)),
  xs.length = fs.length → (∀ (i : Nat) (f : Field), fs[i]? = some f → DataW.trod enc P W 0 (fun _ => true) true fuel f.type ((cs.drop f.offset).take (P.cellsOf f.type)) = xs[i]?) →
  (∀ n ∈ DataW.weightsEach P (fs.map (·.type)) (xs.map (·.1)), n ≤ reachBytes) → ∃ y, d.K W y ((cs.drop off).take d.sz) ∧ wf y
theorem FOpn.one {α : Type} {P : Program} {f : Field} {off : Nat} {d : Kd α} {wf : α → Prop} (ho : f.offset = off) (h : Opn P f.type d wf) : FOpn P [f] off d wf := by
 intro H enc W fuel cs xs hl hx hw
 match xs, hl with
 | [x], _ =>
  have h0 := hx 0 f rfl
  rw [ho, h.1] at h0
  exact h.2 H enc W fuel _ x h0 (fun n hn => hw n (by simp only [List.map, DataW.weightsEach, List.mem_append]; exact .inl hn))
theorem FOpn.cons {α β : Type} {P : Program} {f : Field} {fs : List Field} {off : Nat} {d : Kd α} {d' : Kd β} {wf : α → Prop} {wf' : β → Prop} (ho : f.offset = off) (h : Opn P f.type d wf) (h' : FOpn P fs (off + d.sz) d' wf') :
  FOpn P (f :: fs) off (Kd.pair d d') (fun x => wf x.1 ∧ wf' x.2) := by
 intro H enc W fuel cs xs hl hx hw
 match xs, hl with
 | x :: xs, hl =>
  have h0 := hx 0 f rfl
  rw [ho, h.1] at h0
  have hw' : ∀ n ∈ x.1.weights P f.type ++ DataW.weightsEach P (fs.map (·.type)) (xs.map (·.1)), n ≤ reachBytes := hw
  obtain ⟨y, hy, hwy⟩ := h.2 H enc W fuel _ x h0 (fun n hn => hw' n (List.mem_append_left _ hn))
  obtain ⟨y', hy', hwy'⟩ := h' H enc W fuel cs xs (by simpa using hl) (fun i f' hf' => hx (i + 1) f' (by simpa using hf')) (fun n hn => hw' n (List.mem_append_right _ hn))
  refine ⟨(y, y'), ⟨_, _, ?_, hy, hy'⟩, hwy, hwy'⟩
  show (cs.drop off).take (d.sz + d'.sz) = _
  rw [List.take_add, List.drop_drop]
theorem Opn.struct {α β : Type} {P : Program} {t : TypeId} {fs : Array Field} {d : Kd α} {wf : α → Prop} (f : β → α) (g : α → β) (hfg : ∀ x, f (g x) = x) (hc : P.cellsOf t = d.sz) (ht : P.underlying t = some (.struct fs)) (h : FOpn P fs.toList 0 d wf) :
  Opn P t (Kd.iso d f) (fun x => wf (f x)) :=
 ⟨hc, fun H enc W fuel cs x hf hw => by
  obtain ⟨xs, n, rfl, rfl, hl, hxs, each⟩ := DataW.trod_struct ht hf
  obtain ⟨y, hy, hwy⟩ := h H enc W n cs xs (by simpa using hxs) (fun i f' hf' => each i f' (by simpa using hf')) (fun n hn => hw n (by simp only [DataW.weights, ht]; exact hn))
  rw [List.drop_zero, List.take_of_length_le (by rw [hl, hc]; exact Nat.le_refl _)] at hy
  exact ⟨g y, (by rw [← hfg y] at hy; exact hy), (by rw [← hfg y] at hwy; exact hwy)⟩⟩
theorem par_weights {H : Type} {P : Program} {ts : List TypeId} {ds : List (DataW H)} {j : Nat} {t : TypeId} {d : DataW H} (h : (DataW.weightsEach P ts ds).all (· ≤ reachBytes) = true) (ht : ts[j]? = some t) (hd : ds[j]? = some d) :
  ∀ n ∈ d.weights P t, n ≤ reachBytes := fun n hn => of_decide_eq_true (List.all_eq_true.1 h n (DataW.weights_mem_each ht hd n hn))
theorem par_slice {α : Type} {H : Type} {enc : TypeId × Value → H} {P : Program} {W : World} {r : Reach} {b0 : Nat} {t e : TypeId} {d : Kd α} {wf : List α → Prop} {v : Value} {D : DataW H} {ps : List MemPlace}
  (ht : P.underlying t = some (.slice e)) (ho : Opn P t (Kd.slice e d) wf) (hv : Value.okWide P W r b0 t v) (hd : DataW.Trod enc P W 0 (fun _ => true) true t v D ps) (hw : ∀ n ∈ D.weights P t, n ≤ reachBytes) :
  ∃ (A : Option Addr) (l : List α) (c : Nat), v = .slice A l.length c ∧ l.length ≤ c ∧ d.C W A l.length l ∧ wf l := by
 obtain ⟨A, len, cap, rfl⟩ := okWide_slice ht hv
 obtain ⟨fuel, hf⟩ := hd
 obtain ⟨l, ⟨A', c, he, hl, hC⟩, hwl⟩ := ho.2 H enc W fuel _ _ hf hw
 have he' : [Value.slice A len cap] = [.slice A' l.length c] := he
 simp only [List.cons.injEq, Value.slice.injEq, and_true] at he'
 obtain ⟨rfl, rfl, rfl⟩ := he'
 exact ⟨_, l, _, rfl, hl, hC, hwl⟩
end Go.Proofs.YtjkcfpmonpkhhaaDoorW.Opens

namespace Go.Proofs.YtjkcfpmonpkhhaaDoor.Pr
open Go.RowKit Go.Proofs.YtjkcfpmonpkhhaaDoorW.PrintWords Go.Proofs.YtjkcfpmonpkhhaaDoorW.PrintLast Go.Proofs.YtjkcfpmonpkhhaaDoorW.Opens
set_option linter.unusedVariables false
def wf23 (x : S23) : Prop := x.f0.size ≤ 140737488351232 ∧ (Lit.int .i64 x.f1).wf = true ∧ (Lit.int .i64 x.f2).wf = true
theorem opn23 : Opn Tryd.prog 23 k23 wf23 := Opn.struct (fun x : S23 => (x.f0, x.f1, x.f2)) (fun p => ⟨p.1, p.2.1, p.2.2⟩) (fun _ => rfl) (by kernel_rfl) Tryd.underlying23 (FOpn.cons rfl (Opn.string (by kernel_rfl) Tryd.underlying9) (FOpn.cons rfl (Opn.int (by kernel_rfl) Tryd.underlying3) (FOpn.one rfl (Opn.int (by kernel_rfl) Tryd.underlying3))))
def wfL23 (l : List S23) : Prop := l.length ≤ maxLen ∧ l.length * 32 ≤ 140737488351232 ∧ ∀ y ∈ l, wf23 y
theorem opnL33 : Opn Tryd.prog 33 (Kd.slice 23 k23) wfL23 := Opn.slice z23 (by kernel_rfl) Tryd.underlying33 (by kernel_rfl) opn23
def FnExactMostPlaced.Pure : Prop := ∀ (x0 : (List S23)), wfL23 x0 → ∃ k, laws_FnExactMostPlaced.f k x0 = some true
end Go.Proofs.YtjkcfpmonpkhhaaDoor.Pr

namespace Go.Proofs.YtjkcfpmonpkhhaaDoor.Pr
open Go.RowKit Go.Proofs.YtjkcfpmonpkhhaaDoorW.PrintWords Go.Proofs.YtjkcfpmonpkhhaaDoorW.PrintLast Go.Proofs.YtjkcfpmonpkhhaaDoorW.PrintMore
attribute [local go_sem] max2_int min2_int max_two min_two max_three min_three max_four min_four   -- for this text's walks alone
set_option linter.unusedVariables false
set_option linter.unusedSimpArgs false
def CountS (gc : Nat) (ys : List (List Int)) (w : World) : Prop := w.heap[gc]? = some (.cells #[.int .i64 (wrap64 (ys.length : Int))] 3 (0, 0))
theorem CountS.nil {gc : Nat} {w : World} (h : w.heap[gc]? = some (.cells #[.int .i64 0] 3 (0, 0))) : CountS gc [] w := by
 have e : wrap64 (([] : List (List Int)).length : Int) = 0 := by
  show wrap64 ((0 : Nat) : Int) = 0
  unfold wrap64
  omega
 unfold CountS
 rw [e]
 exact h
end Go.Proofs.YtjkcfpmonpkhhaaDoor.Pr

namespace Go.Proofs.YtjkcfpmonpkhhaaDoor.Pr.Pure
open Go.RowKit Go.Proofs.YtjkcfpmonpkhhaaDoorW.PrintWords Go.Proofs.YtjkcfpmonpkhhaaDoorW.PrintLast Go.Proofs.YtjkcfpmonpkhhaaDoorW.PrintMore  Go.Lib
set_option linter.unusedVariables false
set_option linter.unusedSimpArgs false
theorem w64 {x : Int} (h1 : -9223372036854775808 ≤ x) (h2 : x ≤ 9223372036854775807) : wrap64 x = x := by
 unfold wrap64
 omega
theorem set_map_step {α β : Type} (f : α → β) (l : List α) (z : β) (i : Nat) (hi : i < l.length) (a : α) (ha : l[i]? = some a) :
  ((l.take i).map f ++ List.replicate (l.length - i) z).set i (f a) = (l.take (i + 1)).map f ++ List.replicate (l.length - (i + 1)) z := by
 have h1 : ((l.take i).map f).length = i := by simp; omega
 rw [List.set_append_right _ _ (by omega), h1, Nat.sub_self]
 obtain ⟨m, hm⟩ : ∃ m, l.length - i = m + 1 := ⟨l.length - i - 1, by omega⟩
 rw [hm, show l.length - (i + 1) = m by omega, List.replicate_succ, List.set_cons_zero, List.take_add_one, ha]
 simp
theorem getD_some {α : Type} (l : List α) (z : α) (i : Nat) (h : i < l.length) : l[i]? = some (l.getD i z) := by
 rw [List.getD_eq_getElem?_getD, List.getElem?_eq_getElem h]
 rfl
theorem obs {α β : Type} (a : α) (f : α → Option β) : (some a).bind f = f a := id (Option.bind_some a f)
def M (l : List UInt8) : ByteArray := ⟨l.toArray⟩
theorem ex_M (b : ByteArray) : ∃ l, b = M l := ⟨b.data.toList, by unfold M; rw [Array.toArray_toList]⟩
theorem M_size (l : List UInt8) : (M l).size = l.length := by simp [M, ByteArray.size]
theorem M_data (l : List UInt8) : (M l).data.toList = l := by simp [M]
theorem M_toList (l : List UInt8) : (M l).toList = l := by rw [ByteArray.toList_eq, M_data]
theorem bt_M (l : List UInt8) (i : Nat) : bt (M l) (i : Int) = ((l.getD i 0).toNat : Int) := by
 have hb := rd_bytesOf (M l) (i : Int)
 rw [← hb]
 unfold rd bytesOf
 rw [M_data, Int.toNat_natCast, List.getD_eq_getElem?_getD, List.getD_eq_getElem?_getD, List.getElem?_map]
 cases l[i]? <;> rfl
theorem drop_at (l : List UInt8) (i : Nat) (h : i < l.length) : l.drop i = l.getD i 0 :: l.drop (i + 1) := by
 rw [List.drop_eq_getElem_cons h, List.getD_eq_getElem?_getD, List.getElem?_eq_getElem h]
 rfl
theorem l1In_eq (a b c : Int) : spec_l1In.f a b c = some (decide (b ≤ a ∧ a ≤ c)) := by
 unfold spec_l1In.f
 by_cases h : b ≤ a
 ·
  rw [if_pos h]; simp [h]
 ·
  rw [if_neg (by omega)]; simp [h]
theorem within_eq (a b c : Int) : impl_within.f a b c = some (decide (b ≤ a ∧ a ≤ c)) := by
 unfold impl_within.f
 by_cases h : b ≤ a
 ·
  rw [if_pos h]; simp [h]
 ·
  rw [if_neg (by omega)]; simp [h]
end Go.Proofs.YtjkcfpmonpkhhaaDoor.Pr.Pure

namespace Go.Proofs.YtjkcfpmonpkhhaaDoor.Pr.Pure
open Go.RowKit Go.Proofs.YtjkcfpmonpkhhaaDoorW.PrintWords Go.Proofs.YtjkcfpmonpkhhaaDoorW.PrintLast Go.Proofs.YtjkcfpmonpkhhaaDoorW.PrintMore Go.Lib
set_option linter.unusedVariables false
set_option linter.unusedSimpArgs false
def small (x : UInt8) : Bool := decide (97 ≤ x.toNat) && decide (x.toNat ≤ 122)
def isW (l : List UInt8) : Bool := decide (1 ≤ l.length) && decide (l.length ≤ 10) && l.all small
theorem word_l0 (l : List UInt8) (hl : l.length ≤ 4611686018427387904) (d : Nat) : ∀ (k i : Nat), i + d = l.length → d < k → spec_l2Word.l0 k (M l) i = some (decide (1 ≤ l.length) && decide (l.length ≤ 10) && (l.drop i).all small) := by
 induction d with
 | zero =>
  intro k i hd hk
  obtain ⟨k, rfl⟩ : ∃ m, k = m + 1 := ⟨k - 1, by omega⟩
  simp only [spec_l2Word.l0]
  rw [M_size, if_neg (by omega), List.drop_of_length_le (by omega), l1In_eq, obs]
  simp only [List.all_nil, Bool.and_true]
  congr 1
  rw [Bool.eq_iff_iff]
  simp
  omega
 | succ d ih =>
  intro k i hd hk
  obtain ⟨k, rfl⟩ : ∃ m, k = m + 1 := ⟨k - 1, by omega⟩
  simp only [spec_l2Word.l0]
  rw [M_size, if_pos (by omega), if_pos (by omega), bt_M, drop_at l i (by omega)]
  generalize l.getD i 0 = x
  rw [w64 (by omega) (by omega)]
  have ih' := ih k (i + 1) (by omega) (by omega)
  rw [show ((i + 1 : Nat) : Int) = (i : Int) + 1 by omega] at ih'
  rw [List.all_cons]
  by_cases h1 : (x.toNat : Int) < 97
  ·
   have : small x = false := by
    unfold small
    have : ¬ 97 ≤ x.toNat := by omega
    simp [this]
   rw [if_pos h1, this]
   simp
  ·
   rw [if_neg h1]
   by_cases h2 : (x.toNat : Int) > 122
   ·
    have : small x = false := by
     unfold small
     have : ¬ x.toNat ≤ 122 := by omega
     simp [this]
    rw [if_pos h2, this]
    simp
   ·
    have : small x = true := by
     unfold small
     have a : 97 ≤ x.toNat := by omega
     have b : x.toNat ≤ 122 := by omega
     simp [a, b]
    rw [if_neg h2, ih', this, Bool.true_and]
theorem word_spec (l : List UInt8) (hl : l.length ≤ 4611686018427387904) {k : Nat} (hk : l.length < k) : spec_l2Word.f k (M l) = some (isW l) := by
 unfold spec_l2Word.f isW
 simpa using word_l0 l hl l.length k 0 (by omega) hk
def letters : List UInt8 := [97, 98, 99, 100, 101, 102, 103, 104, 105, 106, 107, 108, 109, 110, 111, 112, 113, 114, 115, 116, 117, 118, 119, 120, 121, 122]
set_option maxRecDepth 100000 in
theorem letters_small (x : UInt8) : letters.contains x = small x := by
 have : ∀ n : Nat, n < 256 → letters.contains (UInt8.ofNat n) = small (UInt8.ofNat n) := by decide
 have h := this x.toNat x.toNat_lt
 rwa [show UInt8.ofNat x.toNat = x from UInt8.ofNat_toNat] at h
theorem drop_all {p : UInt8 → Bool} : ∀ l : List UInt8, l.dropWhile p = [] ↔ l.all p = true
 | [] => by simp
 | x :: l => by
  by_cases h : p x = true
  ·
   rw [List.dropWhile_cons_of_pos h, drop_all l]
   simp [h]
  ·
   rw [List.dropWhile_cons_of_neg h]
   simp [h]
theorem trim_nil (l : List UInt8) : trimS l letters = [] ↔ l.all small = true := by
 have hp : (fun x => letters.contains x) = small := funext letters_small
 unfold trimS trimLeftS trimRightS
 rw [hp, drop_all]
 constructor
 ·
  intro h
  rw [List.all_reverse] at h
  have h2 : (l.reverse.dropWhile small).all small = true := h
  have h3 : l.reverse.all small = true := by
   rw [← drop_all]
   have h4 := (drop_all _).2 h2
   have : ∀ m : List UInt8, (m.dropWhile small).dropWhile small = m.dropWhile small := by
    intro m
    induction m with
    | nil => rfl
    | cons x m ih =>
     by_cases h : small x = true
     ·
      rw [List.dropWhile_cons_of_pos h, ih]
     ·
      rw [List.dropWhile_cons_of_neg h, List.dropWhile_cons_of_neg h]
   rw [this] at h4
   exact h4
  rwa [List.all_reverse] at h3
 ·
  intro h
  have h3 : l.reverse.all small = true := by rwa [List.all_reverse]
  rw [(drop_all _).2 h3]
  rfl
theorem word_impl (l : List UInt8) (hl : l.length ≤ 4611686018427387904) : impl_isWord.f (M l) = some (isW l) := by
 unfold impl_isWord.f isW
 rw [M_size]
 by_cases h1 : (l.length : Int) ≥ 1
 ·
  rw [if_pos h1]
  by_cases h2 : (l.length : Int) ≤ 10
  ·
   have ht : strings_Trim.f (M l) (M letters) = some (M (trimS l letters)) := by
    unfold strings_Trim.f
    rw [M_size, M_size, M_data, M_data, if_pos (by omega), if_pos (by decide), if_pos (by decide)]
    rfl
   rw [if_pos h2, show (⟨#[97, 98, 99, 100, 101, 102, 103, 104, 105, 106, 107, 108, 109, 110, 111, 112, 113, 114, 115, 116, 117, 118, 119, 120, 121, 122]⟩ : ByteArray) = M letters from rfl, ht, obs, M_toList]
   congr 1
   rw [Bool.eq_iff_iff]
   have a : 1 ≤ l.length := by omega
   have b : l.length ≤ 10 := by omega
   simp only [a, b, decide_true, Bool.true_and, beq_iff_eq]
   exact trim_nil l
  ·
   rw [if_neg h2]
   have b : ¬ l.length ≤ 10 := by omega
   simp [b]
 ·
  rw [if_neg h1]
  have b : ¬ 1 ≤ l.length := by omega
  simp only [b, decide_false, Bool.false_and]
def cvLabel (x : S23) : S29 := ⟨x.f0, x.f1, x.f2⟩
theorem toLabelS_l0 (l : List S23) (hl : l.length ≤ 4611686018427387904) (d : Nat) : ∀ (k i : Nat), i + d = l.length → d < k →
  laws_toLabelS.l0 k l ((l.take i).map cvLabel ++ List.replicate (l.length - i) z29) i = some (l.map cvLabel) := by
 induction d with
 | zero =>
  intro k i hd hk
  obtain ⟨k, rfl⟩ : ∃ m, k = m + 1 := ⟨k - 1, by omega⟩
  simp only [laws_toLabelS.l0]
  rw [if_neg (by omega), List.take_of_length_le (by omega), show l.length - i = 0 by omega]
  simp
 | succ d ih =>
  intro k i hd hk
  obtain ⟨k, rfl⟩ : ∃ m, k = m + 1 := ⟨k - 1, by omega⟩
  simp only [laws_toLabelS.l0, laws_toLabel.f, Option.bind_some]
  rw [if_pos (by omega), if_pos (by omega), if_pos (by simp; omega), w64 (by omega) (by omega)]
  have ha : l[i]? = some (rd_T23 l i) := getD_some l z23 i (by omega)
  rw [Int.toNat_natCast]
  have := set_map_step cvLabel l z29 i (by omega) _ ha
  rw [show (⟨(rd_T23 l i).f0, (rd_T23 l i).f1, (rd_T23 l i).f2⟩ : S29) = cvLabel (rd_T23 l i) from rfl, this]
  exact ih k (i + 1) (by omega) (by omega)
theorem toLabelS_eq {l : List S23} (hl : l.length * 32 ≤ 140737488351232) {k : Nat} (hk : l.length < k) : laws_toLabelS.f k l = some (l.map cvLabel) := by
 unfold laws_toLabelS.f
 rw [if_pos (by omega), if_pos (by omega), Int.toNat_natCast]
 have := toLabelS_l0 l (by omega) l.length k 0 (by omega) hk
 simpa using this
theorem eqLabelS_self (l : List S29) (hl : l.length ≤ 4611686018427387904) (d : Nat) : ∀ (k : Nat) (i : Int), 0 ≤ i → i + d = l.length → d < k → laws_eqLabelS.l0 k l l i = some true := by
 induction d with
 | zero =>
  intro k i h0 hd hk
  obtain ⟨k, rfl⟩ : ∃ m, k = m + 1 := ⟨k - 1, by omega⟩
  simp only [laws_eqLabelS.l0]
  rw [if_neg (by omega)]
 | succ d ih =>
  intro k i h0 hd hk
  obtain ⟨k, rfl⟩ : ∃ m, k = m + 1 := ⟨k - 1, by omega⟩
  simp only [laws_eqLabelS.l0, laws_eqLabel.f, if_true, Option.bind_some]
  rw [if_pos (by omega), if_pos (by omega), if_pos (by omega), w64 (by omega) (by omega)]
  exact ih k (i + 1) (by omega) (by omega) (by omega)
theorem eqLabelS_eq {l : List S29} (hl : l.length ≤ 4611686018427387904) {k : Nat} (hk : l.length < k) : laws_eqLabelS.f k l l = some true := by
 unfold laws_eqLabelS.f
 rw [if_pos rfl]
 exact eqLabelS_self l hl l.length k 0 (by omega) (by omega) hk
theorem szLabelS_l0 (l : List S23) (hs : ∀ x, x ∈ l → x.f0.size ≤ 140737488351232) (hl : l.length ≤ 4611686018427387904) (d : Nat) : ∀ (k i : Nat) (a : Int), i + d = l.length → d < k → 0 ≤ a → a ≤ 1048576 →
  ∃ t, laws_szLabelS.l0 k l a i = some t ∧ (0 ≤ t → ∀ j : Nat, i ≤ j → j < l.length → (rd_T23 l j).f0.size ≤ 1048576) := by
 induction d with
 | zero =>
  intro k i a hd hk h0 h1
  obtain ⟨k, rfl⟩ : ∃ m, k = m + 1 := ⟨k - 1, by omega⟩
  simp only [laws_szLabelS.l0]
  rw [if_neg (by omega)]
  exact ⟨a, rfl, fun _ j hj hjl => by omega⟩
 | succ d ih =>
  intro k i a hd hk h0 h1
  obtain ⟨k, rfl⟩ : ∃ m, k = m + 1 := ⟨k - 1, by omega⟩
  simp only [laws_szLabelS.l0]
  rw [if_pos (by omega), if_pos (by omega)]
  have hm : rd_T23 l i ∈ l := by
   show l.getD (i : Int).toNat _ ∈ l
   rw [Int.toNat_natCast, List.getD_eq_getElem?_getD, List.getElem?_eq_getElem (by omega)]
   exact List.getElem_mem _
  have hz := hs _ hm
  have hz' : ∀ j : Nat, j = i → (rd_T23 l i).f0.size ≤ 1048576 → (rd_T23 l j).f0.size ≤ 1048576 := fun j e h => by rw [e]; exact h
  generalize rd_T23 l i = y at hz hz' ⊢
  unfold laws_szLabel.f
  rw [w64 (x := a - (y.f0.size : Int)) (by omega) (by omega)]
  by_cases c : a - (y.f0.size : Int) < 0
  ·
   rw [if_pos c, Option.bind_some, if_pos (by decide)]
   exact ⟨_, rfl, fun h => absurd h (by decide)⟩
  ·
   rw [if_neg c, Option.bind_some, if_neg c, w64 (x := (i : Int) + 1) (by omega) (by omega)]
   obtain ⟨t, e, h⟩ := ih k (i + 1) (a - (y.f0.size : Int)) (by omega) (by omega) (by omega) (by omega)
   refine ⟨t, e, fun ht j hj hjl => ?_⟩
   by_cases hji : j = i
   ·
    exact hz' j hji (by omega)
   ·
    exact h ht j (by omega) hjl
theorem szLabelS_eq {l : List S23} (hs : ∀ x, x ∈ l → x.f0.size ≤ 140737488351232) (hl : l.length ≤ 4611686018427387904) {k : Nat} (hk : l.length < k) :
  ∃ t, laws_szLabelS.f k l 1048576 = some t ∧ (0 ≤ t → l.length ≤ 1048576 ∧ ∀ x, x ∈ l → x.f0.size ≤ 1048576) := by
 unfold laws_szLabelS.f
 rw [w64 (by omega) (by omega)]
 by_cases c : (1048576 : Int) - (l.length : Int) < 0
 ·
  rw [if_pos c]
  exact ⟨_, rfl, fun h => absurd h (by decide)⟩
 ·
  rw [if_neg c]
  obtain ⟨t, e, h⟩ := szLabelS_l0 l hs hl l.length k 0 (1048576 - (l.length : Int)) (by omega) hk (by omega) (by omega)
  refine ⟨t, e, fun ht => ⟨by omega, fun x hx => ?_⟩⟩
  obtain ⟨j, hj, rfl⟩ := List.mem_iff_getElem.1 hx
  have := h ht j (by omega) hj
  rw [show rd_T23 l (j : Int) = l.getD (j : Int).toNat _ from rfl, Int.toNat_natCast, List.getD_eq_getElem?_getD, List.getElem?_eq_getElem hj] at this
  exact this
def lab (l : List UInt8) (x y : Int) : Bool := isW l && decide (0 ≤ x ∧ x ≤ 99) && decide (0 ≤ y ∧ y ≤ 99)
def labB (x : S29) : Bool := lab x.f0.data.toList x.f1 x.f2
theorem lab_spec (l : List UInt8) (hl : l.length ≤ 4611686018427387904) (x y : Int) {k : Nat} (hk : l.length < k) : spec_l24One.f k (M l) x y = some (lab l x y) := by
 unfold spec_l24One.f lab
 rw [word_spec l hl hk, obs]
 cases isW l with
 | false => rfl
 | true =>
  rw [if_pos rfl, l1In_eq, obs]
  cases decide (0 ≤ x ∧ x ≤ 99) with
  | false => rfl
  | true =>
   rw [if_pos rfl, l1In_eq, obs]
   rfl
theorem lab_impl (l : List UInt8) (hl : l.length ≤ 4611686018427387904) (x y : Int) : impl_isLabel.f (M l) x y = some (lab l x y) := by
 unfold impl_isLabel.f lab
 rw [word_impl l hl, obs]
 cases isW l with
 | false => rfl
 | true =>
  rw [if_pos rfl, within_eq, obs]
  cases decide (0 ≤ x ∧ x ≤ 99) with
  | false => rfl
  | true =>
   rw [if_pos rfl, within_eq, obs]
   rfl
theorem labB_spec (x : S29) (hx : x.f0.size ≤ 1048576) {k : Nat} (hk : 1048576 < k) : spec_l24One.f k x.f0 x.f1 x.f2 = some (labB x) := by
 obtain ⟨l, hl⟩ := ex_M x.f0
 unfold labB
 rw [hl] at hx ⊢
 rw [M_size] at hx
 rw [M_data]
 exact lab_spec l (by omega) _ _ (by omega)
theorem labB_impl (x : S29) (hx : x.f0.size ≤ 1048576) : impl_isLabel.f x.f0 x.f1 x.f2 = some (labB x) := by
 obtain ⟨l, hl⟩ := ex_M x.f0
 unfold labB
 rw [hl] at hx ⊢
 rw [M_size] at hx
 rw [M_data]
 exact lab_impl l (by omega) _ _
theorem rdLab_drop (l : List S29) (i : Nat) (h : i < l.length) : l.drop i = rd_T29 l (i : Int) :: l.drop (i + 1) := by
 rw [List.drop_eq_getElem_cons h, show rd_T29 l (i : Int) = l.getD (i : Int).toNat _ from rfl, Int.toNat_natCast, List.getD_eq_getElem?_getD, List.getElem?_eq_getElem h]
 rfl
theorem good_l0 (l : List S29) (hs : ∀ x, x ∈ l → x.f0.size ≤ 1048576) (hl : l.length ≤ 4611686018427387904) (d : Nat) : ∀ (k i : Nat), i + d = l.length → 1048577 + d < k →
  spec_l24Good.l0 k l i = some ((l.drop i).all labB && decide (l.length ≤ 6)) := by
 induction d with
 | zero =>
  intro k i hd hk
  obtain ⟨k, rfl⟩ : ∃ m, k = m + 1 := ⟨k - 1, by omega⟩
  simp only [spec_l24Good.l0]
  rw [if_neg (by omega), List.drop_of_length_le (by omega), List.all_nil, Bool.true_and]
  congr 1
  rw [Bool.eq_iff_iff, decide_eq_true_eq, decide_eq_true_eq]
  omega
 | succ d ih =>
  intro k i hd hk
  obtain ⟨k, rfl⟩ : ∃ m, k = m + 1 := ⟨k - 1, by omega⟩
  simp only [spec_l24Good.l0]
  have hm : rd_T29 l i ∈ l := by
   show l.getD (i : Int).toNat _ ∈ l
   rw [Int.toNat_natCast, List.getD_eq_getElem?_getD, List.getElem?_eq_getElem (by omega)]
   exact List.getElem_mem _
  rw [if_pos (by omega), if_pos (by omega), labB_spec _ (hs _ hm) (by omega), obs, rdLab_drop l i (by omega), List.all_cons]
  cases labB (rd_T29 l i) with
  | false =>
   rw [if_neg Bool.false_ne_true]
   rfl
  | true =>
   rw [if_pos rfl, w64 (by omega) (by omega), Bool.true_and]
   exact ih k (i + 1) (by omega) (by omega)
def labs (l : List S29) : Bool := l.all labB && decide (l.length ≤ 6)
theorem good_eq {l : List S29} (hs : ∀ x, x ∈ l → x.f0.size ≤ 1048576) (hl : l.length ≤ 1048576) {k : Nat} (hk : 1048577 + l.length < k) : spec_l24Good.f k l = some (labs l) := by
 unfold spec_l24Good.f labs
 have := good_l0 l hs (by omega) l.length k 0 (by omega) hk
 simpa using this
theorem are_eq {l : List S29} (hs : ∀ x, x ∈ l → x.f0.size ≤ 1048576) : impl_AreLabels.f l = some (labs l) := by
 unfold impl_AreLabels.f labs
 have hx : ∀ x, x ∈ l → impl_isLabel.f x.f0 x.f1 x.f2 = some (labB x) := fun x h => labB_impl x (hs x h)
 by_cases c : (l.length : Int) ≤ 6
 ·
  rw [if_pos c, if_pos (List.all_eq_true.2 fun x h => by rw [hx x h]; rfl), decide_eq_true (show l.length ≤ 6 by omega), Bool.and_true]
  congr 1
  cases h : l.all labB with
  | false =>
   obtain ⟨x, h1, h2⟩ := List.all_eq_false.1 h
   rw [List.any_eq_true.2 ⟨x, h1, by rw [hx x h1]; simpa using h2⟩]
   rfl
  | true =>
   have : (l.any fun x => !(impl_isLabel.f x.f0 x.f1 x.f2).getD false) = false := List.any_eq_false.2 fun x h1 => by
    rw [hx x h1]
    simpa using List.all_eq_true.1 h x h1
   rw [this]
   rfl
 ·
  rw [if_neg c, decide_eq_false (show ¬ l.length ≤ 6 by omega), Bool.and_false]
end Go.Proofs.YtjkcfpmonpkhhaaDoor.Pr.Pure

namespace Go.Proofs.YtjkcfpmonpkhhaaDoor.Pr.Pure
open Go.RowKit Go.Proofs.YtjkcfpmonpkhhaaDoorW.PrintWords Go.Proofs.YtjkcfpmonpkhhaaDoorW.PrintLast Go.Proofs.YtjkcfpmonpkhhaaDoorW.PrintMore
set_option linter.unusedVariables false
set_option linter.unusedSimpArgs false
theorem strOf_one (x : Int) : (strOfNums [x]).size = 1 := by simp [strOfNums, ByteArray.size]
theorem markText_l0 : ∀ (j k : Nat) (x : Int) (s : ByteArray), 0 ≤ x → x < 10 ^ j → x ≤ 1125899906842624 → j < k → s.size + j ≤ 1000 → ∃ r, laws_markText.l0 k x s = some r := by
 intro j
 induction j with
 | zero =>
  intro k x s h0 h1 h2 hk hs
  obtain ⟨k, rfl⟩ : ∃ m, k = m + 1 := ⟨k - 1, by omega⟩
  simp only [laws_markText.l0]
  rw [if_neg (by omega), if_pos (by omega)]
  exact ⟨_, rfl⟩
 | succ j ih =>
  intro k x s h0 h1 h2 hk hs
  obtain ⟨k, rfl⟩ : ∃ m, k = m + 1 := ⟨k - 1, by omega⟩
  simp only [laws_markText.l0]
  by_cases h : x > 0
  ·
   have hd : Int.tdiv x 10 = x / 10 := Int.tdiv_eq_ediv_of_nonneg h0
   have h3 : x / 10 < 10 ^ j := by
    rw [Int.pow_succ] at h1
    omega
   rw [if_pos h, obs, strOf_one, if_pos (by omega), hd, w64 (by omega) (by omega)]
   refine ih k (x / 10) _ (by omega) h3 (by omega) (by omega) ?_
   unfold sc
   rw [ByteArray.size_append, strOf_one]
   omega
  ·
   rw [if_neg h, if_pos (by omega)]
   exact ⟨_, rfl⟩
theorem markText_ex {x : Int} (h0 : 0 ≤ x) (h1 : x ≤ 1125899906842624) : ∃ r, laws_markText.f 40 x = some r := by
 unfold laws_markText.f
 by_cases h : x ≤ 0
 ·
  rw [if_pos h]
  exact ⟨_, rfl⟩
 ·
  rw [if_neg h]
  exact markText_l0 16 40 x _ h0 (Int.lt_of_le_of_lt h1 (by decide)) h1 (by omega) (by decide)
def txt (x : Int) : ByteArray := (laws_markText.f 40 x).getD ⟨#[]⟩
theorem markText_eq {k : Nat} (hk : 40 ≤ k) {x : Int} (h0 : 0 ≤ x) (h1 : x ≤ 1125899906842624) : laws_markText.f k x = some (txt x) := by
 obtain ⟨r, hr⟩ := markText_ex h0 h1
 have : laws_markText.f k x = some r := at_rounds (fun k => laws_markText.mono x k) hk hr
 rw [this]
 unfold txt
 rw [hr]
 rfl
end Go.Proofs.YtjkcfpmonpkhhaaDoor.Pr.Pure

namespace Go.Proofs.YtjkcfpmonpkhhaaDoor.Pr.Pure
open Go.RowKit Go.Proofs.YtjkcfpmonpkhhaaDoorW.PrintWords Go.Proofs.YtjkcfpmonpkhhaaDoorW.PrintLast Go.Proofs.YtjkcfpmonpkhhaaDoorW.PrintMore Go.Lib
set_option linter.unusedVariables false
set_option linter.unusedSimpArgs false
def upFrom (a : Int) : Nat → List Int
 | 0 => []
 | n + 1 => a :: upFrom (a + 1) n
theorem upFrom_len (n : Nat) : ∀ a, (upFrom a n).length = n := by
 induction n with
 | zero => intro a; rfl
 | succ n ih => intro a; simp [upFrom, ih]
theorem upFrom_get (n : Nat) : ∀ (a : Int) (j : Nat), j < n → (upFrom a n)[j]? = some (a + j) := by
 induction n with
 | zero => intro a j h; omega
 | succ n ih =>
  intro a j h
  cases j with
  | zero => simp [upFrom]
  | succ j =>
   simp only [upFrom, List.getElem?_cons_succ]
   rw [ih (a + 1) j (by omega)]
   congr 1
   omega
theorem markIntS_l0 (d : Nat) : ∀ (k i : Nat) (pre suf : List Int) (a : Int), pre.length = i → suf.length = d → d < k → i + d ≤ 4611686018427387904 → 0 ≤ a → a + d ≤ 4611686018427387904 →
  laws_markIntS.l0 k (pre ++ suf) a i = some (a + d, pre ++ upFrom a d) := by
 induction d with
 | zero =>
  intro k i pre suf a hp hs hk hb h0 h1
  obtain ⟨k, rfl⟩ : ∃ m, k = m + 1 := ⟨k - 1, by omega⟩
  obtain rfl : suf = [] := List.length_eq_zero_iff.1 hs
  simp only [laws_markIntS.l0]
  rw [if_neg (by simp; omega)]
  simp [upFrom]
 | succ d ih =>
  intro k i pre suf a hp hs hk hb h0 h1
  obtain ⟨k, rfl⟩ : ∃ m, k = m + 1 := ⟨k - 1, by omega⟩
  obtain ⟨y, ys, rfl⟩ : ∃ y ys, suf = y :: ys := List.exists_cons_of_length_pos (by omega)
  simp only [laws_markIntS.l0]
  rw [if_pos (by simp; omega), if_pos (by omega), w64 (x := a + 1) (by omega) (by omega), w64 (x := (i : Int) + 1) (by omega) (by omega), Int.toNat_natCast]
  have e : (pre ++ y :: ys).set i a = (pre ++ [a]) ++ ys := by
   rw [List.set_append_right _ _ (by omega), hp, Nat.sub_self, List.set_cons_zero]
   simp
  rw [e]
  have := ih k (i + 1) (pre ++ [a]) ys (a + 1) (by simp; omega) (by simpa using hs) (by omega) (by omega) (by omega) (by omega)
  rw [show ((i : Int) + 1) = ((i + 1 : Nat) : Int) by omega, this]
  simp only [upFrom, List.append_assoc, List.singleton_append]
  congr 2
  omega
theorem markIntS_eq {l : List Int} (hl : l.length ≤ 70368744177664) {k : Nat} (hk : l.length < k) {a : Int} (h0 : 0 ≤ a) (h1 : a ≤ 1125899906842624) : laws_markIntS.f k l a = some (a + l.length, upFrom a l.length) := by
 unfold laws_markIntS.f
 have := markIntS_l0 l.length k 0 [] l a rfl rfl hk (by omega) h0 (by omega)
 simpa using this
theorem heldIntS_l0 (n : Nat) (b : Int) (d : Nat) : ∀ (k i : Nat), i + d = n → d < k → n ≤ 4611686018427387904 → 0 ≤ b → b + n ≤ 4611686018427387904 →
  laws_heldIntS.l0 k (upFrom b n) (b + i) i = some (b + n) := by
 induction d with
 | zero =>
  intro k i hd hk hn h0 h1
  obtain ⟨k, rfl⟩ : ∃ m, k = m + 1 := ⟨k - 1, by omega⟩
  simp only [laws_heldIntS.l0]
  rw [if_neg (by rw [upFrom_len]; omega)]
  congr 2
  omega
 | succ d ih =>
  intro k i hd hk hn h0 h1
  obtain ⟨k, rfl⟩ : ∃ m, k = m + 1 := ⟨k - 1, by omega⟩
  have e : rd (upFrom b n) (i : Int) = b + i := by
   simp only [rd, Int.toNat_natCast, List.getD_eq_getElem?_getD]
   rw [upFrom_get n b i (by omega)]
   rfl
  simp only [laws_heldIntS.l0]
  rw [if_pos (by rw [upFrom_len]; omega), if_pos (by omega), if_pos e, w64 (x := b + i + 1) (by omega) (by omega), w64 (x := (i : Int) + 1) (by omega) (by omega)]
  have := ih k (i + 1) (by omega) (by omega) hn h0 h1
  rw [show b + (i : Int) + 1 = b + ((i + 1 : Nat) : Int) by omega, show ((i : Int) + 1) = ((i + 1 : Nat) : Int) by omega]
  exact this
theorem heldIntS_eq {n : Nat} (hn : n ≤ 70368744177664) {k : Nat} (hk : n < k) {a : Int} (h0 : 0 ≤ a) (h1 : a ≤ 1125899906842624) : laws_heldIntS.f k (upFrom a n) a = some (a + n) := by
 unfold laws_heldIntS.f
 have := heldIntS_l0 n a n k 0 (by omega) hk (by omega) h0 (by omega)
 simpa using this
theorem eqIntS_self (l : List Int) (hl : l.length ≤ 4611686018427387904) (d : Nat) : ∀ (k : Nat) (i : Int), 0 ≤ i → i + d = l.length → d < k → laws_eqIntS.l0 k l l i = some true := by
 induction d with
 | zero =>
  intro k i h0 hd hk
  obtain ⟨k, rfl⟩ : ∃ m, k = m + 1 := ⟨k - 1, by omega⟩
  simp only [laws_eqIntS.l0]
  rw [if_neg (by omega)]
 | succ d ih =>
  intro k i h0 hd hk
  obtain ⟨k, rfl⟩ : ∃ m, k = m + 1 := ⟨k - 1, by omega⟩
  simp only [laws_eqIntS.l0, if_true]
  rw [if_pos (by omega), if_pos (by omega), if_pos (by omega), w64 (by omega) (by omega)]
  exact ih k (i + 1) (by omega) (by omega) (by omega)
theorem eqIntS_eq {l : List Int} (hl : l.length ≤ 4611686018427387904) {k : Nat} (hk : l.length < k) : laws_eqIntS.f k l l = some true := by
 unfold laws_eqIntS.f
 rw [if_pos rfl]
 exact eqIntS_self l hl l.length k 0 (by omega) (by omega) hk
def meetB (a b c d e f g h : Int) : Bool := (impl_meet.f a b c d e f g h).getD false
theorem meet_eq (a b c d e f g h : Int) : impl_meet.f a b c d e f g h = some (meetB a b c d e f g h) := by
 have : ∃ r, impl_meet.f a b c d e f g h = some r := by
  unfold impl_meet.f
  repeat' split
  all_goals exact ⟨_, rfl⟩
 obtain ⟨r, hr⟩ := this
 unfold meetB
 rw [hr]
 rfl
theorem meet_eq' (a b c d e f g h : Int) : spec_l24Meet.f a b c d e f g h = some (meetB a b c d e f g h) := meet_eq a b c d e f g h
def onB (b0 b1 b2 b3 : Int) : Bool := if b0 ≥ 0 then (if b1 ≥ 0 then (if wrap64 (b0 + b2) ≤ 100 then decide (wrap64 (b1 + b3) ≤ 100) else false) else false) else false
def fitB (l : List S29) (b0 b1 b2 b3 : Int) : Bool := !(l.any fun x => meetB b0 b1 b2 b3 x.f1 x.f2 1 1) && onB b0 b1 b2 b3
theorem free_l0 (l : List S29) (hl : l.length ≤ 1048576) (b0 b1 b2 b3 : Int) (d : Nat) : ∀ (k i : Nat), i + d = l.length → d < k →
  spec_l24Free.l0 k l i b0 b1 b2 b3 = some (!((l.drop i).any fun x => meetB b0 b1 b2 b3 x.f1 x.f2 1 1) && onB b0 b1 b2 b3) := by
 induction d with
 | zero =>
  intro k i hd hk
  obtain ⟨k, rfl⟩ : ∃ m, k = m + 1 := ⟨k - 1, by omega⟩
  simp only [spec_l24Free.l0]
  rw [if_neg (by omega), List.drop_of_length_le (by omega), List.any_nil, Bool.not_false, Bool.true_and]
  unfold onB
  repeat' split
  all_goals first | rfl | contradiction
 | succ d ih =>
  intro k i hd hk
  obtain ⟨k, rfl⟩ : ∃ m, k = m + 1 := ⟨k - 1, by omega⟩
  simp only [spec_l24Free.l0]
  rw [if_pos (by omega), if_pos (by omega), meet_eq', obs, rdLab_drop l i (by omega), List.any_cons]
  cases meetB b0 b1 b2 b3 (rd_T29 l i).f1 (rd_T29 l i).f2 1 1 with
  | true => rfl
  | false =>
   rw [if_neg Bool.false_ne_true, w64 (by omega) (by omega), Bool.false_or]
   exact ih k (i + 1) (by omega) (by omega)
theorem free_spec (l : List S29) (hl : l.length ≤ 1048576) (b0 b1 b2 b3 : Int) {k : Nat} (hk : l.length < k) : spec_l24Free.f k l b0 b1 b2 b3 = some (fitB l b0 b1 b2 b3) := by
 unfold spec_l24Free.f fitB
 have := free_l0 l hl b0 b1 b2 b3 l.length k 0 (by omega) hk
 simpa using this
theorem free_impl (l : List S29) (b0 b1 b2 b3 : Int) : impl_free.f l b0 b1 b2 b3 = some (fitB l b0 b1 b2 b3) := by
 unfold impl_free.f fitB onB
 by_cases c0 : b0 < 0
 ·
  rw [if_pos c0, if_neg (show ¬ b0 ≥ 0 by omega), Bool.and_false]
 ·
  rw [if_neg c0, if_pos (show b0 ≥ 0 by omega)]
  by_cases c1 : b1 < 0
  ·
   rw [if_pos c1, if_neg (show ¬ b1 ≥ 0 by omega), Bool.and_false]
  ·
   rw [if_neg c1, if_pos (show b1 ≥ 0 by omega)]
   by_cases c2 : 100 < wrap64 (b0 + b2)
   ·
    rw [if_pos c2, if_neg (show ¬ wrap64 (b0 + b2) ≤ 100 by omega), Bool.and_false]
   ·
    rw [if_neg c2, if_pos (show wrap64 (b0 + b2) ≤ 100 by omega)]
    by_cases c3 : 100 < wrap64 (b1 + b3)
    ·
     rw [if_pos c3, decide_eq_false (show ¬ wrap64 (b1 + b3) ≤ 100 by omega), Bool.and_false]
    ·
     rw [if_neg c3, if_pos (List.all_eq_true.2 fun x _ => by rw [meet_eq]; rfl), decide_eq_true (show wrap64 (b1 + b3) ≤ 100 by omega), Bool.and_true]
     rfl
def boxT (x : S29) (w : Int) : Int × Int × Int × Int :=
 ((if w ≥ 2 then wrap64 (x.f1 - (x.f0.size : Int)) else wrap64 (x.f1 + 1)), (if Int.tmod w 2 = 1 then wrap64 (x.f2 - 2) else wrap64 (x.f2 + 1)), (x.f0.size : Int), 2)
theorem box_spec (x : S29) (w : Int) : spec_l24Box.f x.f0 x.f1 x.f2 w = some (boxT x w) := rfl
theorem box_impl (x : S29) (w : Int) : impl_boxFor.f x.f0 x.f1 x.f2 w = some (boxT x w) := rfl
theorem markLabelS_l0 (d : Nat) : ∀ (k : Nat) (l : List S29) (a i : Int), l.length ≤ 1152921504606846976 → 0 ≤ i → i + d = l.length → d + 40 < k → 0 ≤ a → a + 8 * d ≤ 1125899906842624 →
  ∃ (b : Int) (l' : List S29), laws_markLabelS.l0 k l a i = some (b, l') ∧ a ≤ b ∧ b ≤ a + 8 * d := by
 induction d with
 | zero =>
  intro k l a i hl h0 hd hk ha hb
  obtain ⟨k, rfl⟩ : ∃ m, k = m + 1 := ⟨k - 1, by omega⟩
  refine ⟨a, l, ?_, by omega, by omega⟩
  simp only [laws_markLabelS.l0]
  rw [if_neg (by omega)]
 | succ d ih =>
  intro k l a i hl h0 hd hk ha hb
  obtain ⟨k, rfl⟩ : ∃ m, k = m + 1 := ⟨k - 1, by omega⟩
  simp only [laws_markLabelS.l0]
  rw [if_pos (by omega), markText_eq (by omega) ha (by omega), obs, if_pos (by omega), obs, obs, w64 (x := a + 1) (by omega) (by omega), w64 (x := a + 1 + 1) (by omega) (by omega), w64 (x := a + 1 + 1 + 1) (by omega) (by omega), w64 (x := i + 1) (by omega) (by omega)]
  have hL : ∀ L : List S29, L.length = l.length → ∃ (b : Int) (l' : List S29), laws_markLabelS.l0 k L (a + 1 + 1 + 1) (i + 1) = some (b, l') ∧ a ≤ b ∧ b ≤ a + 8 * ((d + 1 : Nat) : Int) := fun L hL => by
   obtain ⟨b, l', e, h1, h2⟩ := ih k L (a + 1 + 1 + 1) (i + 1) (by omega) (by omega) (by omega) (by omega) (by omega) (by omega)
   exact ⟨b, l', e, by omega, by omega⟩
  exact hL _ (by simp only [List.length_set])
theorem markLabelS_eq {l : List S29} (hl : l.length ≤ 1048576) {k : Nat} (hk : l.length + 40 < k) :
  ∃ (b : Int) (l' : List S29), laws_markLabelS.f k l 1 = some (b, l') ∧ 0 ≤ b := by
 unfold laws_markLabelS.f
 obtain ⟨b, l', e, h2, h3⟩ := markLabelS_l0 l.length k l 1 0 (by omega) (by omega) (by omega) hk (by omega) (by omega)
 exact ⟨b, l', e, by omega⟩
end Go.Proofs.YtjkcfpmonpkhhaaDoor.Pr.Pure

namespace Go.Proofs.YtjkcfpmonpkhhaaDoor.Pr.Pure
open Go.RowKit Go.Proofs.YtjkcfpmonpkhhaaDoorW.PrintWords Go.Proofs.YtjkcfpmonpkhhaaDoorW.PrintLast Go.Proofs.YtjkcfpmonpkhhaaDoorW.PrintMore Go.Lib
set_option linter.unusedVariables false
abbrev BxT := Int × Int × Int × Int
def bxT (l : List S29) (i : Nat) (w : Int) : BxT := boxT (rd_T29 l (i : Int)) w
def bST (b : BxT) : S26 := ⟨b.1, b.2.1, b.2.2.1, b.2.2.2⟩
def mtT (b c : BxT) : Bool := meetB b.1 b.2.1 b.2.2.1 b.2.2.2 c.1 c.2.1 c.2.2.1 c.2.2.2
def fitT (l : List S29) (b : BxT) : Bool := fitB l b.1 b.2.1 b.2.2.1 b.2.2.2
def anyT_ (bs : List S26) (b : BxT) : Bool := bs.any fun x => meetB b.1 b.2.1 b.2.2.1 b.2.2.2 x.f0 x.f1 x.f2 x.f3
def okT (l : List S29) (i : Nat) (w : Int) (bs : List S26) : Bool := fitT l (bxT l i w) && !(anyT_ bs (bxT l i w))
def anyH (l : List S29) (ws : List Int) (b : BxT) : Nat → Nat → Bool
 | 0, _ => false
 | d + 1, j => (decide (0 ≤ rd ws (j : Int)) && mtT b (bxT l j (rd ws (j : Int)))) || anyH l ws b d (j + 1)
theorem anyH_last (l : List S29) (ws : List Int) (b : BxT) (d : Nat) : ∀ j : Nat, anyH l ws b (d + 1) j = (anyH l ws b d j || (decide (0 ≤ rd ws ((j + d : Nat) : Int)) && mtT b (bxT l (j + d) (rd ws ((j + d : Nat) : Int))))) := by
 induction d with
 | zero =>
  intro j
  show (_ || false) = (false || _)
  rw [Bool.or_false, Bool.false_or, Nat.add_zero]
 | succ d ih =>
  intro j
  show (_ || anyH l ws b (d + 1) (j + 1)) = ((_ || anyH l ws b d (j + 1)) || _)
  rw [ih (j + 1), Bool.or_assoc, show j + 1 + d = j + (d + 1) by omega]
theorem rd_left (ws : List Int) (w : Int) (j : Nat) (h : j < ws.length) : rd (ws ++ [w]) (j : Int) = rd ws (j : Int) := by
 show (ws ++ [w]).getD (j : Int).toNat 0 = ws.getD (j : Int).toNat 0
 rw [Int.toNat_natCast, List.getD_eq_getElem?_getD, List.getD_eq_getElem?_getD, List.getElem?_append_left h]
theorem rd_end (ws : List Int) (w : Int) : rd (ws ++ [w]) (ws.length : Int) = w := by
 show (ws ++ [w]).getD (ws.length : Int).toNat 0 = w
 rw [Int.toNat_natCast, List.getD_eq_getElem?_getD, List.getElem?_append_right (Nat.le_refl _), Nat.sub_self]
 rfl
theorem anyH_ext (l : List S29) (ws : List Int) (w : Int) (b : BxT) (d : Nat) : ∀ j : Nat, j + d ≤ ws.length → anyH l (ws ++ [w]) b d j = anyH l ws b d j := by
 induction d with
 | zero => intro j _; rfl
 | succ d ih =>
  intro j h
  show (_ || anyH l (ws ++ [w]) b d (j + 1)) = (_ || anyH l ws b d (j + 1))
  rw [ih (j + 1) (by omega), rd_left ws w j (by omega)]
theorem anyH_snoc (l : List S29) (ws : List Int) (w : Int) (b : BxT) : anyH l (ws ++ [w]) b (ws.length + 1) 0 = (anyH l ws b ws.length 0 || (decide (0 ≤ w) && mtT b (bxT l ws.length w))) := by
 rw [anyH_last, anyH_ext l ws w b ws.length 0 (by omega), Nat.zero_add, rd_end]
theorem mayT_l0 (l : List S29) (ws : List Int) (hl : l.length ≤ 1048576) (b : BxT) (n : Nat) (hn : n ≤ l.length) (hw : n ≤ ws.length) (d : Nat) : ∀ (k j : Nat), j + d = n → d < k →
  spec_l24May.l0 k l ws n j b.1 b.2.1 b.2.2.1 b.2.2.2 = some (!(anyH l ws b d j)) := by
 induction d with
 | zero =>
  intro k j hd hk
  obtain ⟨k, rfl⟩ : ∃ m, k = m + 1 := ⟨k - 1, by omega⟩
  simp only [spec_l24May.l0]
  rw [if_neg (by omega)]
  rfl
 | succ d ih =>
  intro k j hd hk
  obtain ⟨k, rfl⟩ : ∃ m, k = m + 1 := ⟨k - 1, by omega⟩
  have e := ih k (j + 1) (by omega) (by omega)
  simp only [spec_l24May.l0]
  rw [if_pos (by omega), if_pos (by omega), if_pos (by omega), w64 (by omega) (by omega)]
  show _ = some (!((decide (0 ≤ rd ws (j : Int)) && mtT b (bxT l j (rd ws (j : Int)))) || anyH l ws b d (j + 1)))
  by_cases h3 : rd ws (j : Int) ≥ 0
  ·
   rw [if_pos h3, if_pos (by omega), box_spec, obs, meet_eq', obs, decide_eq_true (show 0 ≤ rd ws (j : Int) from h3), Bool.true_and]
   show (if mtT b (bxT l j (rd ws j)) = true then _ else _) = _
   cases mtT b (bxT l j (rd ws j)) with
   | true => rfl
   | false =>
    rw [if_neg Bool.false_ne_true, Bool.false_or]
    exact e
  ·
   rw [if_neg h3, decide_eq_false (show ¬ 0 ≤ rd ws (j : Int) from h3), Bool.false_and, Bool.false_or]
   exact e
theorem mayT (l : List S29) (ws : List Int) (w : Int) (hl : l.length ≤ 1048576) (hi : ws.length < l.length) {k : Nat} (hk : l.length < k) {bs : List S26} (hI : ∀ b, anyH l ws b ws.length 0 = anyT_ bs b) :
  spec_l24May.f k l (ws ++ [w]) (ws.length : Int) = some (okT l ws.length w bs) := by
 unfold spec_l24May.f
 rw [if_pos (by omega), if_pos (by omega), if_pos (by rw [List.length_append, List.length_singleton]; omega), rd_end, box_spec, obs, free_spec l hl _ _ _ _ hk, obs]
 unfold okT
 show (if fitT l (bxT l ws.length w) = true then _ else _) = _
 cases fitT l (bxT l ws.length w) with
 | false => rfl
 | true =>
  rw [if_pos rfl, Bool.true_and]
  have := mayT_l0 l (ws ++ [w]) hl (bxT l ws.length w) ws.length (by omega) (by rw [List.length_append]; omega) ws.length k 0 (by omega) (by omega)
  rw [anyH_ext l ws w _ ws.length 0 (by omega), hI] at this
  exact this
def en (l : List S29) (sel : Nat → Bool) : Nat → List Int → List S26 → List (List Int)
 | 0, ws, _ => [ws]
 | m + 1, ws, bs => if sel ws.length = true then ([0, 1, 2, 3] : List Int).flatMap (fun w => if okT l ws.length w bs = true then en l sel m (ws ++ [w]) (bs ++ [bST (bxT l ws.length w)]) else []) else en l sel m (ws ++ [-1]) bs
theorem en_len (l : List S29) (sel : Nat → Bool) (m : Nat) : ∀ ws bs, (en l sel m ws bs).length ≤ 4 ^ m := by
 induction m with
 | zero => intro ws bs; exact Nat.le_refl _
 | succ m ih =>
  intro ws bs
  unfold en
  have hp : 4 ^ (m + 1) = 4 ^ m + 4 ^ m + 4 ^ m + 4 ^ m := by rw [Nat.pow_succ]; omega
  by_cases h : sel ws.length = true
  ·
   rw [if_pos h]
   have hw : ∀ w : Int, (if okT l ws.length w bs = true then en l sel m (ws ++ [w]) (bs ++ [bST (bxT l ws.length w)]) else []).length ≤ 4 ^ m := by
    intro w
    split
    ·
     exact ih _ _
    ·
     exact Nat.zero_le _
   have h0 := hw 0
   have h1 := hw 1
   have h2 := hw 2
   have h3 := hw 3
   simp only [List.flatMap_cons, List.flatMap_nil, List.length_append, List.length_nil]
   omega
  ·
   rw [if_neg h]
   have := ih (ws ++ [-1]) bs
   omega
def selO (set : Int) (i : Nat) : Bool := decide (¬ Go.bits .and .i64 (shr .i64 set (i : Int)) 1 = 0)
theorem u64n (n : Nat) (h : n ≤ 1048576) : IntKind.u64.wrap (n : Int) = (n : Int) := by
 have e : IntKind.u64.wrap (n : Int) = (n : Int) % 18446744073709551616 := rfl
 omega
theorem own_eq (ws : List Int) (h : ws.length ≤ 1048576) : spec_l1Own.f ws = some ws := by
 unfold spec_l1Own.f
 rw [obs, if_pos (by simp; omega)]
 rfl
theorem count_eq (l : List S29) (hl : l.length ≤ 6) (set : Int) (m : Nat) : ∀ (k : Nat) (ws : List Int) (bs : List S26), ws.length + m = l.length → (∀ b, anyH l ws b ws.length 0 = anyT_ bs b) → 8 * m + 30 < k →
  spec_l24Count.f k l set ws = some ((en l (selO set) m ws bs).headD [], ((en l (selO set) m ws bs).length : Int)) := by
 induction m with
 | zero =>
  intro k ws bs hm hI hk
  obtain ⟨k, rfl⟩ : ∃ n, k = n + 1 := ⟨k - 1, by omega⟩
  simp only [spec_l24Count.f]
  rw [if_pos (by omega)]
  rfl
 | succ m ih =>
  intro k ws bs hm hI hk
  obtain ⟨k, rfl⟩ : ∃ n, k = n + 1 := ⟨k - 1, by omega⟩
  simp only [spec_l24Count.f]
  rw [if_neg (by omega), u64n ws.length (by omega), if_pos (by omega)]
  unfold en
  by_cases hs : Go.bits .and .i64 (shr .i64 set (ws.length : Int)) 1 = 0
  ·
   rw [if_pos hs, own_eq ws (by omega), obs, if_pos (by omega), show selO set ws.length = false from decide_eq_false (fun h => h hs), if_neg (by decide)]
   have e := ih k (ws ++ [-1]) bs (by rw [List.length_append, List.length_singleton]; omega) (fun b => by
    rw [List.length_append, List.length_singleton, anyH_snoc, decide_eq_false (by decide), Bool.false_and, Bool.or_false]
    exact hI b) (by omega)
   rw [e, obs]
  ·
   rw [if_neg hs, show selO set ws.length = true from decide_eq_true hs, if_pos rfl]
   -- the four ways
   have key : ∀ (d K : Nat) (A : List (List Int)) (w : Int), 0 ≤ w → w + d = 4 → 8 * m + 31 + d < K → A.length + d * 4 ^ m ≤ 100000 →
     spec_l24Count.l0 K l set ws (ws.length : Int) (A.headD []) (A.length : Int) w = some ((A ++ (([0, 1, 2, 3] : List Int).drop w.toNat).flatMap (fun w => if okT l ws.length w bs = true then en l (selO set) m (ws ++ [w]) (bs ++ [bST (bxT l ws.length w)]) else [])).headD [], ((A ++ (([0, 1, 2, 3] : List Int).drop w.toNat).flatMap (fun w => if okT l ws.length w bs = true then en l (selO set) m (ws ++ [w]) (bs ++ [bST (bxT l ws.length w)]) else [])).length : Int)) := by
    intro d
    induction d with
    | zero =>
     intro K A w h0 hd hK hA
     obtain ⟨K, rfl⟩ : ∃ n, K = n + 1 := ⟨K - 1, by omega⟩
     simp only [spec_l24Count.l0]
     rw [if_neg (by omega)]
     obtain rfl : w = 4 := by omega
     simp
    | succ d ihd =>
     intro K A w h0 hd hK hA
     obtain ⟨K, rfl⟩ : ∃ n, K = n + 1 := ⟨K - 1, by omega⟩
     have hmul : (d + 1) * 4 ^ m = d * 4 ^ m + 4 ^ m := Nat.succ_mul ..
     have hA2 : A.length + d * 4 ^ m ≤ 100000 := Nat.le_trans (Nat.add_le_add_left (by rw [hmul]; exact Nat.le_add_right _ _) _) hA
     have ed : ([0, 1, 2, 3] : List Int).drop w.toNat = w :: ([0, 1, 2, 3] : List Int).drop (w + 1).toNat := by
      have h4 : w = 0 ∨ w = 1 ∨ w = 2 ∨ w = 3 := by omega
      rcases h4 with rfl | rfl | rfl | rfl <;> rfl
     simp only [spec_l24Count.l0]
     rw [if_pos (by omega), own_eq ws (by omega), obs, if_pos (by omega), obs, mayT l ws w (by omega) (by omega) (by omega) hI, obs, w64 (x := w + 1) (by omega) (by omega), ed, List.flatMap_cons]
     by_cases ho : okT l ws.length w bs = true
     ·
      rw [ho, if_pos rfl, if_pos rfl]
      have e := ih K (ws ++ [w]) (bs ++ [bST (bxT l ws.length w)]) (by rw [List.length_append, List.length_singleton]; omega) (fun b => by
       rw [List.length_append, List.length_singleton, anyH_snoc, decide_eq_true h0, Bool.true_and, hI b]
       show _ = (bs ++ [_]).any _
       rw [List.any_append]
       congr 1
       show _ = (_ || false)
       rw [Bool.or_false]
       rfl) (by omega)
      have hlen := en_len l (selO set) m (ws ++ [w]) (bs ++ [bST (bxT l ws.length w)])
      generalize en l (selO set) m (ws ++ [w]) (bs ++ [bST (bxT l ws.length w)]) = E at e hlen
      rw [e, obs]
      simp only
      rw [w64 (by omega) (by omega)]
      have hd2 := ihd K (A ++ E) (w + 1) (by omega) (by omega) (by omega) (by rw [List.length_append]; omega)
      rw [List.length_append] at hd2
      rw [← List.append_assoc]
      cases A with
      | nil =>
       rw [if_pos (show (([] : List (List Int)).length : Int) = 0 from rfl)]
       cases E with
       | nil =>
        rw [if_neg (by decide)]
        exact hd2
       | cons p t =>
        rw [if_pos (by rw [List.length_cons]; omega)]
        have e2 : ((([] : List (List Int)).length : Int) + ((p :: t).length : Int)) = ((([] : List (List Int)).length + (p :: t).length : Nat) : Int) := by omega
        rw [e2]
        exact hd2
      | cons p t =>
       rw [if_neg (by rw [List.length_cons]; omega)]
       have e2 : (((p :: t).length : Int) + (E.length : Int)) = (((p :: t).length + E.length : Nat) : Int) := by omega
       rw [e2]
       exact hd2
     ·
      rw [Bool.eq_false_iff.mpr ho, if_neg (by decide), if_neg (by decide), List.nil_append]
      exact ihd K A (w + 1) (by omega) (by omega) (by omega) hA2
   have hpow : 4 ^ m ≤ 4 ^ 6 := Nat.pow_le_pow_right (by decide) (by omega)
   have h6 : (4 : Nat) ^ 6 = 4096 := by decide
   have := key 4 k [] 0 (by omega) (by omega) (by omega) (by rw [List.length_nil]; omega)
   simpa using this
def filt (ws : List Int) : List Int := ws.filter fun x => decide (0 ≤ x)
def sels (sel : Nat → Bool) : Nat → Nat → List Int
 | _, 0 => []
 | i, m + 1 => if sel i = true then (i : Int) :: sels sel (i + 1) m else sels sel (i + 1) m
theorem filt_neg (ws : List Int) : filt (ws ++ [-1]) = filt ws := by
 unfold filt
 rw [List.filter_append]
 simp
theorem filt_pos (ws : List Int) (w : Int) (h : 0 ≤ w) : filt (ws ++ [w]) = filt ws ++ [w] := by
 unfold filt
 rw [List.filter_append]
 simp [h]
theorem hitB_eq (bs : List S26) (b : BxT) : hitB_ bs b.1 b.2.1 b.2.2.1 b.2.2.2 = some (anyT_ bs b) := by
 unfold hitB_
 rw [if_pos (List.all_eq_true.2 fun x _ => by rw [meet_eq]; rfl)]
 rfl
theorem catM_eq (f : Int → Option (List (List Int))) (g : Int → List (List Int)) : ∀ xs, (∀ x ∈ xs, f x = some (g x)) → catM_ f xs = some (xs.flatMap g)
 | [], _ => rfl
 | x :: xs, h => by
  unfold catM_
  rw [h x List.mem_cons_self, obs, catM_eq f g xs (fun y hy => h y (List.mem_cons_of_mem _ hy)), obs, List.flatMap_cons]
theorem plc_eq (l : List S29) (hl : l.length ≤ 1048576) (sel : Nat → Bool) (idx : List Int) (m : Nat) : ∀ (ws pre : List Int) (bs : List S26), ws.length + m = l.length → idx = pre ++ sels sel ws.length m → pre.length = (filt ws).length →
  plc_ l idx (sels sel ws.length m).length (filt ws) bs = some ((en l sel m ws bs).map filt) := by
 induction m with
 | zero =>
  intro ws pre bs hm hi hp
  rfl
 | succ m ih =>
  intro ws pre bs hm hi hp
  unfold sels en
  unfold sels at hi
  by_cases hs : sel ws.length = true
  ·
   rw [if_pos hs] at hi ⊢
   rw [if_pos hs, List.length_cons]
   have hr : rd idx ((filt ws).length : Int) = (ws.length : Int) := by
    rw [hi, ← hp]
    show (pre ++ _ :: _).getD (pre.length : Int).toNat 0 = _
    rw [Int.toNat_natCast, List.getD_eq_getElem?_getD, List.getElem?_append_right (Nat.le_refl _), Nat.sub_self]
    rfl
   simp only [plc_]
   rw [hr, if_pos (by omega), List.map_flatMap]
   refine catM_eq _ _ _ (fun w hw => ?_)
   have hw0 : 0 ≤ w := by
    simp only [List.mem_cons, List.not_mem_nil, or_false] at hw
    omega
   rw [box_impl, obs]
   show ((impl_free.f l (bxT l ws.length w).1 (bxT l ws.length w).2.1 (bxT l ws.length w).2.2.1 (bxT l ws.length w).2.2.2).bind _) = _
   rw [free_impl, obs]
   show (if fitT l (bxT l ws.length w) = true then ((hitB_ bs (bxT l ws.length w).1 (bxT l ws.length w).2.1 (bxT l ws.length w).2.2.1 (bxT l ws.length w).2.2.2).bind _) else _) = _
   unfold okT
   cases fitT l (bxT l ws.length w) with
   | false => rfl
   | true =>
    rw [if_pos rfl, hitB_eq, obs, Bool.true_and]
    cases anyT_ bs (bxT l ws.length w) with
    | true => rfl
    | false =>
     rw [if_neg (by decide), Bool.not_false, if_pos rfl]
     have e := ih (ws ++ [w]) (pre ++ [(ws.length : Int)]) (bs ++ [bST (bxT l ws.length w)]) (by rw [List.length_append, List.length_singleton]; omega) (by rw [hi, List.length_append, List.length_singleton, List.append_assoc]; rfl) (by rw [List.length_append, List.length_singleton, filt_pos ws w hw0, List.length_append, List.length_singleton, hp])
     rw [List.length_append, List.length_singleton, filt_pos ws w hw0] at e
     exact e
  ·
   rw [if_neg hs] at hi ⊢
   rw [if_neg hs]
   have e := ih (ws ++ [-1]) pre bs (by rw [List.length_append, List.length_singleton]; omega) (by rw [hi, List.length_append, List.length_singleton]) (by rw [filt_neg, hp])
   rw [List.length_append, List.length_singleton, filt_neg] at e
   exact e
theorem labs_len {m : List S29} (c : labs m = true) : m.length ≤ 6 := by
 unfold labs at c
 rw [Bool.and_eq_true] at c
 exact of_decide_eq_true c.2
theorem bit_all : ((List.range 64).all fun s => (List.range 6).all fun i => decide (Go.bits .and .i64 (shr .i64 (s : Int) (i : Int)) 1 = 1) == selO (s : Int) i) = true := by kernel_rfl
theorem bit_sel {s i : Nat} (hs : s < 64) (hi : i < 6) : (Go.bits .and .i64 (shr .i64 (s : Int) (i : Int)) 1 = 1) ↔ selO (s : Int) i = true := by
 have h := List.all_eq_true.1 (List.all_eq_true.1 bit_all s (List.mem_range.2 hs)) i (List.mem_range.2 hi)
 rw [beq_iff_eq] at h
 rw [← h, decide_eq_true_eq]
theorem shl_all : ((List.range 7).all fun n => shl .i64 1 (n : Int) == ((2 ^ n : Nat) : Int)) = true := by kernel_rfl
theorem shl_pow {n : Nat} (hn : n ≤ 6) : shl .i64 1 (n : Int) = ((2 ^ n : Nat) : Int) :=
 beq_iff_eq.1 (List.all_eq_true.1 shl_all n (List.mem_range.2 (by omega)))
theorem sels_len (sel : Nat → Bool) (m : Nat) : ∀ i, (sels sel i m).length ≤ m := by
 induction m with
 | zero => intro i; exact Nat.le_refl _
 | succ m ih =>
  intro i
  have := ih (i + 1)
  unfold sels
  split
  ·
   rw [List.length_cons]; omega
  ·
   omega
def cmpI (a b : Int) : Int := if a < b then -1 else if a > b then 1 else 0
theorem cmp_eq (a b : Int) : cmp_Compare_int.f a b = some (cmpI a b) := by
 unfold cmp_Compare_int.f cmp_isNaN_int.f cmpI
 simp only [obs, bne_self_eq_false, Bool.false_eq_true, if_false]
 by_cases h : a < b
 ·
  rw [if_pos h, if_pos h]
 ·
  rw [if_neg h, if_neg h]
  by_cases h2 : a > b
  ·
   rw [if_pos h2, if_pos h2]
  ·
   rw [if_neg h2, if_neg h2]
def lessB (x y : List Int) : Nat → Nat → Bool
 | 0, _ => decide (x.length < y.length)
 | d + 1, i => if i < x.length ∧ i < y.length then (if rd x (i : Int) = rd y (i : Int) then lessB x y d (i + 1) else decide (rd x (i : Int) < rd y (i : Int))) else decide (x.length < y.length)
theorem less_l0 (x y : List Int) (hx : x.length ≤ 1000) (d : Nat) : ∀ (k i : Nat), i + d = x.length → 2 * d + 4 < k → spec_l5Less.l0 k x y (i : Int) = some (lessB x y (d + 1) i) := by
 induction d with
 | zero =>
  intro k i hd hk
  obtain ⟨k, rfl⟩ : ∃ m, k = m + 2 := ⟨k - 2, by omega⟩
  simp only [spec_l5Less.l0, lessB]
  rw [if_neg (by omega), if_neg (by omega)]
  simp only [spec_l5Less.j1, Bool.false_eq_true, if_false]
  congr 1
  rw [decide_eq_decide]
  omega
 | succ d ih =>
  intro k i hd hk
  obtain ⟨k, rfl⟩ : ∃ m, k = m + 2 := ⟨k - 2, by omega⟩
  simp only [spec_l5Less.l0]
  rw [if_pos (by omega)]
  unfold lessB
  by_cases h : (i : Int) < (y.length : Int)
  ·
   rw [if_pos (show i < x.length ∧ i < y.length from ⟨by omega, by omega⟩), decide_eq_true h]
   simp only [spec_l5Less.j1, if_true]
   rw [if_pos (by omega), if_pos (by omega), if_pos h]
   by_cases e : rd x (i : Int) = rd y (i : Int)
   ·
    rw [if_pos e, if_pos e, w64 (by omega) (by omega)]
    exact ih k (i + 1) (by omega) (by omega)
   ·
    rw [if_neg e, if_neg e]
  ·
   rw [if_neg (show ¬ (i < x.length ∧ i < y.length) by omega), decide_eq_false h]
   simp only [spec_l5Less.j1, Bool.false_eq_true, if_false]
   congr 1
   rw [decide_eq_decide]
   omega
theorem less_eq (x y : List Int) (hx : x.length ≤ 1000) {k : Nat} (hk : 2 * x.length + 4 < k) : spec_l5Less.f k x y = some (lessB x y (x.length + 1) 0) :=
 less_l0 x y hx x.length k 0 (by omega) hk
theorem comp_l0 (x y : List Int) (hx : x.length ≤ 1000) (d : Nat) : ∀ (k i : Nat), i + d = x.length → d < k → ∃ c, slices_Compare_int_int.l0 k x y x (x.length : Int) (i : Int) = some c ∧ (c < 0 ↔ lessB x y (d + 1) i = true) := by
 induction d with
 | zero =>
  intro k i hd hk
  obtain ⟨k, rfl⟩ : ∃ m, k = m + 1 := ⟨k - 1, by omega⟩
  simp only [slices_Compare_int_int.l0, lessB]
  rw [if_neg (by omega), if_neg (show ¬ (i < x.length ∧ i < y.length) by omega), decide_eq_true_eq]
  by_cases h : (x.length : Int) < (y.length : Int)
  ·
   rw [if_pos h]
   exact ⟨_, rfl, by omega⟩
  ·
   rw [if_neg h]
   exact ⟨_, rfl, by omega⟩
 | succ d ih =>
  intro k i hd hk
  obtain ⟨k, rfl⟩ : ∃ m, k = m + 1 := ⟨k - 1, by omega⟩
  simp only [slices_Compare_int_int.l0]
  rw [if_pos (by omega), if_pos (by omega), if_pos (by omega)]
  unfold lessB
  by_cases h : (i : Int) < (y.length : Int)
  ·
   rw [if_pos (show i < x.length ∧ i < y.length from ⟨by omega, by omega⟩), if_neg (by omega), if_pos h, cmp_eq, obs]
   by_cases e : rd x (i : Int) = rd y (i : Int)
   ·
    rw [show cmpI (rd x (i : Int)) (rd y (i : Int)) = 0 from (by unfold cmpI; rw [if_neg (by omega), if_neg (by omega)]), if_pos rfl, if_pos e, w64 (by omega) (by omega)]
    exact ih k (i + 1) (by omega) (by omega)
   ·
    rw [if_neg e, decide_eq_true_eq]
    by_cases h1 : rd x (i : Int) < rd y (i : Int)
    ·
     rw [show cmpI (rd x (i : Int)) (rd y (i : Int)) = -1 from (by unfold cmpI; rw [if_pos h1]), if_neg (by decide)]
     exact ⟨_, rfl, by omega⟩
    ·
     rw [show cmpI (rd x (i : Int)) (rd y (i : Int)) = 1 from (by unfold cmpI; rw [if_neg h1, if_pos (by omega)]), if_neg (by decide)]
     exact ⟨_, rfl, by omega⟩
  ·
   rw [if_neg (show ¬ (i < x.length ∧ i < y.length) by omega), if_pos (by omega), decide_eq_true_eq]
   exact ⟨_, rfl, by omega⟩
theorem or_eq (a b : Int) {k : Nat} (hk : 3 < k) : cmp_Or_int.f k [a, b] = some (if a = 0 then b else a) := by
 obtain ⟨k, rfl⟩ : ∃ m, k = m + 3 := ⟨k - 3, by omega⟩
 unfold cmp_Or_int.f
 show cmp_Or_int.l0 (k + 2 + 1) 0 [a, b] 2 0 = _
 have r0 : rd [a, b] 0 = a := rfl
 have r1 : rd [a, b] 1 = b := rfl
 have w0 : wrap64 (0 + 1) = 1 := w64 (by omega) (by omega)
 have w1 : wrap64 (1 + 1) = 2 := w64 (by omega) (by omega)
 simp only [cmp_Or_int.l0, w0, w1, r0, r1, List.length_cons, List.length_nil]
 by_cases h : a = 0
 ·
  rw [if_pos h]
  by_cases h2 : b = 0
  ·
   simp [h, h2]
  ·
   simp [h, h2]
 ·
  simp [h]
def betterB (x y : List Int) : Bool := decide (y.length < x.length) || (decide (x.length = y.length) && lessB x y (x.length + 1) 0)
def hasP (l : List S29) (s : Nat) : Bool := decide (0 < (en l (selO (s : Int)) l.length [] []).length)
def mostB (l : List S29) : Nat → Nat → List Int → List Int
 | 0, _, best => best
 | d + 1, s, best => mostB l d (s + 1) (if betterB (sels (selO (s : Int)) 0 l.length) best && hasP l s then sels (selO (s : Int)) 0 l.length else best)
theorem mostB_len (l : List S29) (d : Nat) : ∀ s best, best.length ≤ l.length → (mostB l d s best).length ≤ l.length := by
 induction d with
 | zero => intro s best h; exact h
 | succ d ih =>
  intro s best h
  unfold mostB
  refine ih (s + 1) _ ?_
  split
  ·
   exact sels_len _ _ _
  ·
   exact h
theorem first_sel (l : List S29) (hl : l.length ≤ 6) (s : Nat) : ∃ p, impl_firstPlacing.f l (sels (selO (s : Int)) 0 l.length) = some (p, hasP l s) := by
 have h := sels_len (selO (s : Int)) l.length 0
 have e := plc_eq l (by omega) (selO (s : Int)) (sels (selO (s : Int)) 0 l.length) l.length [] [] [] (by simp) (by simp) rfl
 unfold impl_firstPlacing.f
 rw [if_pos (by omega)]
 rw [show filt [] = [] from rfl, show ([] : List Int).length = 0 from rfl] at e
 rw [e, obs]
 refine ⟨((en l (selO (s : Int)) l.length [] []).map filt).headD [], ?_⟩
 unfold hasP
 congr 2
 cases en l (selO (s : Int)) l.length [] [] <;> simp
theorem mostI_l1 (l : List S29) (hl : l.length ≤ 6) (best : List Int) (s : Nat) (hs : s < 64) (N : Int) (d : Nat) : ∀ (K i : Nat) (acc : List Int), i + d = l.length → acc.length ≤ i → d < K →
  ∃ K', K = K' + d + 1 ∧ impl_MostPlaced.l1 K l best (s : Int) acc N (s : Int) (l.length : Int) (i : Int) = impl_MostPlaced.l1 (K' + 1) l best (s : Int) (acc ++ sels (selO (s : Int)) i d) N (s : Int) (l.length : Int) (l.length : Int) := by
 induction d with
 | zero =>
  intro K i acc hd ha hK
  obtain ⟨K, rfl⟩ : ∃ m, K = m + 1 := ⟨K - 1, by omega⟩
  refine ⟨K, by omega, ?_⟩
  rw [show i = l.length by omega]
  unfold sels
  rw [List.append_nil]
 | succ d ih =>
  intro K i acc hd ha hK
  obtain ⟨K, rfl⟩ : ∃ m, K = m + 1 := ⟨K - 1, by omega⟩
  have hb := bit_sel hs (show i < 6 by omega)
  conv => enter [1, K', 2, 1]; unfold impl_MostPlaced.l1
  rw [if_pos (show (i : Int) < (l.length : Int) by omega), if_pos (show (0 : Int) ≤ (i : Int) by omega), w64 (x := (i : Int) + 1) (by omega) (by omega)]
  unfold sels
  by_cases c : selO (s : Int) i = true
  ·
   rw [if_pos (hb.2 c), if_pos (show acc.length < 17592186044416 by omega), if_pos c]
   obtain ⟨K', h1, h2⟩ := ih K (i + 1) (acc ++ [(i : Int)]) (by omega) (by rw [List.length_append, List.length_singleton]; omega) (by omega)
   refine ⟨K', by omega, ?_⟩
   rw [List.append_assoc] at h2
   exact h2
  ·
   rw [if_neg (fun h => c (hb.1 h)), if_neg c]
   obtain ⟨K', h1, h2⟩ := ih K (i + 1) acc (by omega) (by omega) (by omega)
   exact ⟨K', by omega, h2⟩
theorem mostS_l1 (l : List S29) (hl : l.length ≤ 6) (best : List Int) (s : Nat) (hs : s < 64) (d : Nat) : ∀ (K i : Nat) (acc : List Int), i + d = l.length → acc.length ≤ i → d < K →
  ∃ K', K = K' + d + 1 ∧ spec_MostPlaced.l1 K l best (s : Int) acc (i : Int) = spec_MostPlaced.l1 (K' + 1) l best (s : Int) (acc ++ sels (selO (s : Int)) i d) (l.length : Int) := by
 induction d with
 | zero =>
  intro K i acc hd ha hK
  obtain ⟨K, rfl⟩ : ∃ m, K = m + 1 := ⟨K - 1, by omega⟩
  refine ⟨K, by omega, ?_⟩
  rw [show i = l.length by omega]
  unfold sels
  rw [List.append_nil]
 | succ d ih =>
  intro K i acc hd ha hK
  obtain ⟨K, rfl⟩ : ∃ m, K = m + 1 := ⟨K - 1, by omega⟩
  have hb := bit_sel hs (show i < 6 by omega)
  conv => enter [1, K', 2, 1]; unfold spec_MostPlaced.l1
  rw [if_pos (show (i : Int) < (l.length : Int) by omega), u64n i (by omega), if_pos (show (0 : Int) ≤ (i : Int) by omega), w64 (x := (i : Int) + 1) (by omega) (by omega)]
  unfold sels
  by_cases c : selO (s : Int) i = true
  ·
   rw [if_pos (hb.2 c), if_pos (show acc.length < 17592186044416 by omega), if_pos c]
   obtain ⟨K', h1, h2⟩ := ih K (i + 1) (acc ++ [(i : Int)]) (by omega) (by rw [List.length_append, List.length_singleton]; omega) (by omega)
   refine ⟨K', by omega, ?_⟩
   rw [List.append_assoc] at h2
   exact h2
  ·
   rw [if_neg (fun h => c (hb.1 h)), if_neg c]
   obtain ⟨K', h1, h2⟩ := ih K (i + 1) acc (by omega) (by omega) (by omega)
   exact ⟨K', by omega, h2⟩
theorem mostI_l0 (l : List S29) (hl : l.length ≤ 6) (d : Nat) : ∀ (K s : Nat) (best : List Int), s + d = 2 ^ l.length → best.length ≤ l.length → 10 * d + 100 < K → impl_MostPlaced.l0 K l best ((2 ^ l.length : Nat) : Int) (s : Int) = some (mostB l d s best, true) := by
 have hp : 2 ^ l.length ≤ 2 ^ 6 := Nat.pow_le_pow_right (by decide) hl
 have h64 : (2 : Nat) ^ 6 = 64 := by decide
 generalize 2 ^ l.length = N at hp
 induction d with
 | zero =>
  intro K s best hd hb hK
  obtain ⟨K, rfl⟩ : ∃ m, K = m + 1 := ⟨K - 1, by omega⟩
  simp only [impl_MostPlaced.l0]
  rw [if_neg (by omega)]
  rfl
 | succ d ih =>
  intro K s best hd hb hK
  obtain ⟨K, rfl⟩ : ∃ m, K = m + 1 := ⟨K - 1, by omega⟩
  simp only [impl_MostPlaced.l0]
  rw [if_pos (by omega)]
  obtain ⟨K', h1, h2⟩ := mostI_l1 l hl best s (by omega) (N : Int) l.length K 0 [] (by omega) (by simp) (by omega)
  have h2' : impl_MostPlaced.l1 K l best (s : Int) [] (N : Int) (s : Int) (l.length : Int) 0 = _ := h2
  rw [h2', List.nil_append]
  have hx := sels_len (selO (s : Int)) l.length 0
  obtain ⟨p, hf⟩ := first_sel l hl s
  unfold mostB betterB
  generalize hX : sels (selO (s : Int)) 0 l.length = X at hx hf
  obtain ⟨c, hc, hci⟩ := comp_l0 X best (by omega) X.length K' 0 (by omega) (by omega)
  have hc' : slices_Compare_int_int.f K' X best = some c := hc
  simp only [impl_MostPlaced.l1]
  rw [if_neg (by omega), cmp_eq, obs, hc', obs, or_eq _ _ (by omega), obs, hf, w64 (x := (s : Int) + 1) (by omega) (by omega)]
  have step : ∀ b2 : List Int, b2.length ≤ l.length → impl_MostPlaced.l0 K' l b2 (N : Int) ((s : Int) + 1) = some (mostB l d (s + 1) b2, true) := fun b2 hb2 => ih K' (s + 1) b2 (by omega) hb2 (by omega)
  have yes : ((decide (best.length < X.length) || (decide (X.length = best.length) && lessB X best (X.length + 1) 0)) = true) → ¬ (if cmpI (best.length : Int) (X.length : Int) = 0 then c else cmpI (best.length : Int) (X.length : Int)) ≥ 0 := by
   intro h
   unfold cmpI
   rw [Bool.or_eq_true, Bool.and_eq_true, decide_eq_true_eq, decide_eq_true_eq] at h
   rcases h with h | ⟨h, h3⟩
   ·
    rw [if_pos (show (best.length : Int) < (X.length : Int) by omega), if_neg (by decide)]
    decide
   ·
    rw [if_neg (show ¬ (best.length : Int) < (X.length : Int) by omega), if_neg (show ¬ (best.length : Int) > (X.length : Int) by omega), if_pos rfl]
    have := hci.2 h3
    omega
  have no : ((decide (best.length < X.length) || (decide (X.length = best.length) && lessB X best (X.length + 1) 0)) = false) → (if cmpI (best.length : Int) (X.length : Int) = 0 then c else cmpI (best.length : Int) (X.length : Int)) ≥ 0 := by
   intro h
   unfold cmpI
   rw [Bool.or_eq_false_iff, decide_eq_false_iff_not] at h
   obtain ⟨h, h3⟩ := h
   rw [if_neg (show ¬ (best.length : Int) < (X.length : Int) by omega)]
   by_cases e : X.length = best.length
   ·
    rw [if_neg (show ¬ (best.length : Int) > (X.length : Int) by omega), if_pos rfl]
    rw [decide_eq_true e, Bool.true_and] at h3
    have : ¬ c < 0 := fun hh => by have := hci.1 hh; rw [h3] at this; cases this
    omega
   ·
    rw [if_pos (show (best.length : Int) > (X.length : Int) by omega), if_neg (by decide)]
    decide
  cases hq : (decide (best.length < X.length) || (decide (X.length = best.length) && lessB X best (X.length + 1) 0)) with
  | false =>
   rw [if_pos (no hq), Bool.false_and, if_neg (by decide)]
   exact step best hb
  | true =>
   rw [if_neg (yes hq), Bool.true_and, obs]
   cases hasP l s with
   | true =>
    rw [if_pos rfl, if_pos rfl]
    exact step X hx
   | false =>
    rw [if_neg (show ¬ ((p, false) : List Int × Bool).2 = true from Bool.false_ne_true), if_neg (by decide)]
    exact step best hb
theorem mostS_l0 (l : List S29) (hl : l.length ≤ 6) (d : Nat) : ∀ (K s : Nat) (best : List Int), s + d = 2 ^ l.length → best.length ≤ l.length → 10 * d + 200 < K → spec_MostPlaced.l0 K l best (s : Int) = some (mostB l d s best, true) := by
 have hp : 2 ^ l.length ≤ 2 ^ 6 := Nat.pow_le_pow_right (by decide) hl
 have h64 : (2 : Nat) ^ 6 = 64 := by decide
 induction d with
 | zero =>
  intro K s best hd hb hK
  obtain ⟨K, rfl⟩ : ∃ m, K = m + 1 := ⟨K - 1, by omega⟩
  simp only [spec_MostPlaced.l0]
  rw [u64n l.length (by omega), if_pos (by omega), shl_pow hl, if_neg (by omega)]
  rfl
 | succ d ih =>
  intro K s best hd hb hK
  obtain ⟨K, rfl⟩ : ∃ m, K = m + 1 := ⟨K - 1, by omega⟩
  simp only [spec_MostPlaced.l0]
  rw [u64n l.length (by omega), if_pos (by omega), shl_pow hl, if_pos (by omega)]
  obtain ⟨K', h1, h2⟩ := mostS_l1 l hl best s (by omega) l.length K 0 [] (by omega) (by simp) (by omega)
  have h2' : spec_MostPlaced.l1 K l best (s : Int) [] 0 = _ := h2
  rw [h2', List.nil_append]
  have hx := sels_len (selO (s : Int)) l.length 0
  unfold mostB betterB
  generalize hX : sels (selO (s : Int)) 0 l.length = X at hx
  have step : ∀ (k2 : Nat) (b2 : List Int), b2.length ≤ l.length → 10 * d + 200 < k2 → spec_MostPlaced.l0 k2 l b2 ((s : Int) + 1) = some (mostB l d (s + 1) b2, true) := fun k2 b2 hb2 hk2 => ih k2 (s + 1) b2 (by omega) hb2 hk2
  have jf : ∀ k2, 10 * d + 202 < k2 → spec_MostPlaced.j2 k2 l best (s : Int) X false = some (mostB l d (s + 1) (if (true && hasP l s) = true then X else best), true) := by
   intro k2 hk2
   obtain ⟨k2, rfl⟩ : ∃ m, k2 = m + 1 := ⟨k2 - 1, by omega⟩
   simp only [spec_MostPlaced.j2, Bool.false_eq_true, if_false]
   rw [count_eq l hl (s : Int) l.length k2 [] [] (by simp) (fun b => rfl) (by omega), obs, w64 (x := (s : Int) + 1) (by omega) (by omega), Bool.true_and]
   unfold hasP
   simp only
   by_cases h : 0 < (en l (selO (s : Int)) l.length [] []).length
   ·
    rw [if_pos (show ((en l (selO (s : Int)) l.length [] []).length : Int) > 0 by omega), decide_eq_true h, if_pos rfl]
    exact step k2 X hx (by omega)
   ·
    rw [if_neg (show ¬ ((en l (selO (s : Int)) l.length [] []).length : Int) > 0 by omega), decide_eq_false h, if_neg (by decide)]
    exact step k2 best hb (by omega)
  have jt : ∀ k2, 10 * d + 202 < k2 → spec_MostPlaced.j2 k2 l best (s : Int) X true = some (mostB l d (s + 1) (if (false && hasP l s) = true then X else best), true) := by
   intro k2 hk2
   obtain ⟨k2, rfl⟩ : ∃ m, k2 = m + 1 := ⟨k2 - 1, by omega⟩
   simp only [spec_MostPlaced.j2, if_true]
   rw [w64 (x := (s : Int) + 1) (by omega) (by omega), Bool.false_and, if_neg (by decide)]
   exact step k2 best hb (by omega)
  simp only [spec_MostPlaced.l1]
  rw [if_neg (by omega)]
  by_cases c1 : (X.length : Int) < (best.length : Int)
  ·
   rw [if_pos c1, decide_eq_false (show ¬ best.length < X.length by omega), decide_eq_false (show ¬ X.length = best.length by omega), Bool.false_or, Bool.false_and]
   exact jt K' (by omega)
  ·
   rw [if_neg c1]
   by_cases c2 : (X.length : Int) = (best.length : Int)
   ·
    rw [if_pos c2, less_eq X best (by omega) (by omega), obs, decide_eq_false (show ¬ best.length < X.length by omega), decide_eq_true (show X.length = best.length by omega), Bool.false_or, Bool.true_and]
    cases lessB X best (X.length + 1) 0 with
    | true => exact jf K' (by omega)
    | false => exact jt K' (by omega)
   ·
    rw [if_neg c2, decide_eq_true (show best.length < X.length by omega), Bool.true_or]
    exact jf K' (by omega)
theorem most_both {m : List S29} (hm : ∀ x, x ∈ m → x.f0.size ≤ 1048576) (hl : m.length ≤ 1048576) : ∃ r b, r.length ≤ 6 ∧ (∀ k, 1048790 + m.length ≤ k → spec_MostPlaced.f k m = some (r, b) ∧ impl_MostPlaced.f k m = some (r, b)) := by
 by_cases c : labs m = true
 ·
  have h6 := labs_len c
  have hp : 2 ^ m.length ≤ 2 ^ 6 := Nat.pow_le_pow_right (by decide) h6
  have h64 : (2 : Nat) ^ 6 = 64 := by decide
  refine ⟨mostB m (2 ^ m.length) 0 [], true, Nat.le_trans (mostB_len m _ 0 [] (Nat.zero_le _)) h6, fun k hk => ?_⟩
  unfold spec_MostPlaced.f impl_MostPlaced.f
  rw [good_eq hm hl (by omega), are_eq hm, obs, obs, obs, if_pos c, if_pos c, shl_pow h6]
  exact ⟨mostS_l0 m h6 (2 ^ m.length) k 0 [] (by omega) (Nat.zero_le _) (by omega), mostI_l0 m h6 (2 ^ m.length) k 0 [] (by omega) (Nat.zero_le _) (by omega)⟩
 ·
  refine ⟨[], false, by decide, fun k hk => ?_⟩
  unfold spec_MostPlaced.f impl_MostPlaced.f
  rw [good_eq hm hl (by omega), are_eq hm, obs, obs, obs, if_neg c, if_neg c]
  exact ⟨rfl, rfl⟩
end Go.Proofs.YtjkcfpmonpkhhaaDoor.Pr.Pure

namespace Go.Proofs.YtjkcfpmonpkhhaaDoor.Pr.Pure
open Go.RowKit Go.Proofs.YtjkcfpmonpkhhaaDoorW.PrintWords Go.Proofs.YtjkcfpmonpkhhaaDoorW.PrintLast Go.Proofs.YtjkcfpmonpkhhaaDoorW.PrintMore Go.Proofs.YtjkcfpmonpkhhaaDoorW.Opens
set_option linter.unusedVariables false
theorem FnExactMostPlaced : FnExactMostPlaced.Pure := by
 intro l hw
 obtain ⟨_, hb, hwf⟩ := hw
 obtain ⟨K0, hK0⟩ : ∃ K0, K0 = 1048790 + l.length := ⟨_, rfl⟩
 obtain ⟨t, e, ht⟩ := szLabelS_eq (l := l) (fun x hx => (hwf x hx).1) (by omega) (k := K0 + 3) (by omega)
 refine ⟨K0 + 3, ?_⟩
 unfold laws_FnExactMostPlaced.f
 rw [e, obs]
 by_cases c : t < 0
 ·
  rw [if_pos c]
 ·
  rw [if_neg c]
  obtain ⟨hl, hx⟩ := ht (by omega)
  have hlen : (l.map cvLabel).length = l.length := List.length_map _
  have hm : ∀ x, x ∈ l.map cvLabel → x.f0.size ≤ 1048576 := fun x h => by
   obtain ⟨y, hy, rfl⟩ := List.mem_map.1 h
   exact hx y hy
  obtain ⟨r, b, hr, hk⟩ := most_both hm (by omega)
  have t0 : ∀ k, K0 ≤ k → laws_toLabelS.f k l = some (l.map cvLabel) := fun k hk => toLabelS_eq hb (by omega)
  have e1 : ∀ k, K0 ≤ k → spec_MostPlaced.f k (l.map cvLabel) = some (r, b) := fun k h => (hk k (by omega)).1
  have e2 : ∀ k, K0 ≤ k → impl_MostPlaced.f k (l.map cvLabel) = some (r, b) := fun k h => (hk k (by omega)).2
  have e3 : ∀ k, K0 ≤ k → laws_eqLabelS.f k (l.map cvLabel) (l.map cvLabel) = some true := fun k h => eqLabelS_eq (by omega) (by omega)
  have q : ∀ k, K0 ≤ k → laws_eqIntS.f k r r = some true := fun k h => eqIntS_eq (by omega) (by omega)
  obtain ⟨b1, l1, m1, m2⟩ := markLabelS_eq (l := l.map cvLabel) (by omega) (k := K0 + 2) (by omega)
  have mi : ∀ k, K0 ≤ k → laws_markIntS.f k r 1 = _ := fun k h => markIntS_eq (l := r) (by omega) (k := k) (by omega) (a := 1) (by omega) (by omega)
  have hi : ∀ k, K0 ≤ k → laws_heldIntS.f k (upFrom 1 r.length) 1 = some (1 + (r.length : Int)) := fun k hk => heldIntS_eq (by omega) (by omega) (by omega) (by omega)
  have hj2 : laws_FnExactMostPlaced.j2 (K0 + 1) (upFrom 1 r.length) (1 + (r.length : Int)) false = some true := by
   simp only [laws_FnExactMostPlaced.j2, Bool.false_eq_true, if_false, hi _ (Nat.le_refl K0), obs, if_true]
   rw [if_neg (by omega)]
  have hj1 : laws_FnExactMostPlaced.j1 (K0 + 2) l r b r false = some true := by
   simp only [laws_FnExactMostPlaced.j1, Bool.false_eq_true, if_false, mi _ (Nat.le_succ K0), hi _ (Nat.le_succ K0), t0 _ (Nat.le_succ K0), e2 _ (Nat.le_succ K0), q _ (Nat.le_succ K0), obs, if_true, bne_self_eq_false]
   rw [if_neg (by omega)]
   exact hj2
  have hj0 : laws_FnExactMostPlaced.j0 (K0 + 3) l r b (l.map cvLabel) r b false = some true := by
   have h2 : K0 ≤ K0 + 2 := by omega
   simp only [laws_FnExactMostPlaced.j0, Bool.false_eq_true, if_false, t0 _ h2, e3 _ h2, m1, q _ h2, obs, if_true, bne_self_eq_false]
   rw [if_neg (by omega)]
   exact hj1
  have h3 : K0 ≤ K0 + 3 := by omega
  simp only [obs, t0 _ h3, e1 _ h3, e2 _ h3, q _ h3, bne_self_eq_false, if_true]
  exact hj0
end Go.Proofs.YtjkcfpmonpkhhaaDoor.Pr.Pure

