/-
What is proved: parts of the law FnExactOpenSpans: what the functions that it reaches compute, and the plain law.
Conditions: those of each theorem.
-/
import Derived.ArgAppend
import Derived.Below
import Derived.BigQuiet
import Derived.Deep.AppendLies
import Derived.Deep.CutBlock
import Derived.Deep.DeepCutAuto
import Derived.Deep.Draws
import Derived.Deep.LoopGhost
import Derived.Deep.OwnRows
import Derived.Deep.QuietTactic
import Derived.Deep.RegionHeld3
import Derived.Deep.RegionLaw
import Derived.KernelRfl
import Derived.Laws.BitsLemmas
import Derived.Laws.BytesArg
import Derived.Laws.CopyOwn
import Derived.Laws.Cover1
import Derived.Laws.IdiomCopy
import Derived.Laws.IdiomStrings
import Derived.Laws.MakeOwn
import Derived.Laws.OwnMore
import Derived.Laws.Rows
import Derived.Laws.Slices
import Derived.Lib.AppendStr
import Derived.Lib.ConvBytes
import Derived.Maps.AppendAt
import Derived.OrdersHeld
import Derived.OwnWalk
import Derived.RowKit
import Derived.RowKit3
import Derived.Shelf.Abstract
import Derived.StillTailTactics
import Derived.Tactics
import Derived.Test.YtojaeidabmfajaaProg
import Derived.WalkKit
import Derived.WideLaws
import Derived.Test.YtojaeidabmfajaaCFnExactOpenSpans0
namespace Go.Proofs.Ytojaeidabmfajaa.Pr
open Go.RowKit Go.Proofs.YtojaeidabmfajaaW.PrintWords Go.Proofs.YtojaeidabmfajaaW.PrintLast Go.Proofs.YtojaeidabmfajaaW.PrintMore
attribute [local go_sem] max2_int min2_int max_two min_two max_three min_three max_four min_four   -- for this text's walks alone
set_option linter.unusedVariables false
set_option linter.unusedSimpArgs false
def errW : Option Int → Value
 | none => .nilIface
 | some c => .iface 0 (.int .i64 c)
theorem errW_none : errW none = .nilIface := rfl
theorem errW_some (c : Int) : errW (some c) = .iface 0 (.int .i64 c) := rfl
theorem info36 : (Try.prog.info? 36).map (fun i => (i.zero, i.size, i.bytes)) = some (some (.slice none 0 0), 1, 24) := by kernel_rfl
theorem info54 : (Try.prog.info? 54).map (fun i => (i.zero, i.size, i.bytes)) = some (some (.agg #[(.int .i64 0), (.int .i64 0)]), 2, 16) := by kernel_rfl
structure S82 where
 f0 : Int
 f1 : Int
def z82 : S82 := ⟨(0 : Int), (0 : Int)⟩
def k82 : Kd S82 := Kd.iso (Kd.pair (Kd.int .i64) (Kd.int .i64)) (fun x : S82 => (x.f0, x.f1))
theorem k82_open {w : World} {x : S82} {cs : List Value} (h : k82.K w x cs) : cs = [.int .i64 x.f0, .int .i64 x.f1] := by
 obtain ⟨_, _, rfl, rfl, rfl⟩ := h
 exact rfl
def rd_T82 (xs : List S82) (i : Int) : S82 := xs.getD i.toNat z82
theorem at_T82 {w : World} {A : Option Addr} {n : Nat} {xs : List S82} (h : Kd.C k82 w A n xs) (i : Int) (h0 : 0 ≤ i) (h1 : i < n) : ∃ ad , A = some ad ∧ w.cell? (ad.add (i.toNat * 2)) = some (.int .i64 (rd_T82 xs i).f0) ∧ w.cell? ⟨(ad.add (i.toNat * 2)).block, (ad.add (i.toNat * 2)).off + 1, none⟩ = some (.int .i64 (rd_T82 xs i).f1) := by
 obtain ⟨ad, c, e, _, hK, hc0⟩ := Kd.C_get h z82 i h0 h1
 have hc : ∀ j u, c[j]? = some u → w.cell? (ad.add (i.toNat * 2 + j)) = some u := hc0
 obtain rfl := k82_open hK
 exact ⟨ad, e, hc 0 _ rfl, by rw [← add_field _ _ 1 (by omega)]; exact hc 1 _ rfl⟩
structure S54 where
 f0 : Int
 f1 : Int
def z54 : S54 := ⟨(0 : Int), (0 : Int)⟩
def k54 : Kd S54 := Kd.iso (Kd.pair (Kd.int .i64) (Kd.int .i64)) (fun x : S54 => (x.f0, x.f1))
theorem k54_open {w : World} {x : S54} {cs : List Value} (h : k54.K w x cs) : cs = [.int .i64 x.f0, .int .i64 x.f1] := by
 obtain ⟨_, _, rfl, rfl, rfl⟩ := h
 exact rfl
theorem k54_openM {w : World} {base : Nat} {ok : Nat → Prop} {x : S54} {cs : List Value} (h : k54.M w base ok x cs) : cs = [.int .i64 x.f0, .int .i64 x.f1] := by
 obtain ⟨_, _, rfl, rfl, rfl⟩ := h
 exact rfl
theorem k54_mkM (w : World) (base : Nat) (ok : Nat → Prop) (x : S54)  : k54.M w base ok x [.int .i64 x.f0, .int .i64 x.f1] := ⟨[.int .i64 x.f0], [.int .i64 x.f1], rfl, rfl, rfl⟩
def rd_T54 (xs : List S54) (i : Int) : S54 := xs.getD i.toNat z54
theorem at_T54 {w : World} {A : Option Addr} {n : Nat} {xs : List S54} (h : Kd.C k54 w A n xs) (i : Int) (h0 : 0 ≤ i) (h1 : i < n) : ∃ ad , A = some ad ∧ w.cell? (ad.add (i.toNat * 2)) = some (.int .i64 (rd_T54 xs i).f0) ∧ w.cell? ⟨(ad.add (i.toNat * 2)).block, (ad.add (i.toNat * 2)).off + 1, none⟩ = some (.int .i64 (rd_T54 xs i).f1) := by
 obtain ⟨ad, c, e, _, hK, hc0⟩ := Kd.C_get h z54 i h0 h1
 have hc : ∀ j u, c[j]? = some u → w.cell? (ad.add (i.toNat * 2 + j)) = some u := hc0
 obtain rfl := k54_open hK
 exact ⟨ad, e, hc 0 _ rfl, by rw [← add_field _ _ 1 (by omega)]; exact hc 1 _ rfl⟩
structure S24 where
 f0 : Int
 f1 : Int
 f2 : Int
def k24 : Kd S24 := Kd.iso (Kd.pair (Kd.int .i64) (Kd.pair (Kd.int .i64) (Kd.int .i64))) (fun x : S24 => (x.f0, x.f1, x.f2))
structure S30 where
 f0 : Int
 f1 : Int
 f2 : Int
def rd_L9 (xs : List (List Int)) (i : Int) : (List Int) := xs.getD i.toNat ([] : List Int)
theorem at_L9 {w : World} {A : Option Addr} {n : Nat} {xs : List (List Int)} (h : Kd.C (Kd.slice 3 (Kd.int .i64)) w A n xs) (i : Int) (h0 : 0 ≤ i) (h1 : i < n) : ∃ ad A0 c0, A = some ad ∧ w.cell? (ad.add i.toNat) = some (.slice A0 (rd_L9 xs i).length c0) ∧ (rd_L9 xs i).length ≤ c0 ∧ (Kd.int .i64).C w A0 (rd_L9 xs i).length (rd_L9 xs i) := by
 obtain ⟨ad, c, e, _, hK, hc0⟩ := Kd.C_get h ([] : List Int) i h0 h1
 have hc : ∀ j u, c[j]? = some u → w.cell? (ad.add (i.toNat * 1 + j)) = some u := hc0
 obtain ⟨A0, c0, rfl, l0, g0⟩ := hK
 exact ⟨ad, A0, c0, e, by have hq := hc 0 _ rfl; rwa [Nat.mul_one, Nat.add_zero] at hq, l0, g0⟩
def stepS (acc : List (Int × Int)) (x : Int) : List (Int × Int) :=
 match acc.getLast? with
 | some s => if s.2 = x - 1 then acc.dropLast ++ [(s.1, x)] else acc ++ [(x, x)]
 | none => [(x, x)]
def spansB (p : Int → Bool) : Nat → Int → List (Int × Int) → List (Int × Int)
 | 0, _, acc => acc
 | n + 1, x, acc => spansB p n (x + 1) (if p x = true then stepS acc x else acc)
theorem stepS_ext (Q : List (Int × Int)) (a x : Int) : stepS (Q ++ [(a, x - 1)]) x = Q ++ [(a, x)] := by
 unfold stepS
 rw [List.getLast?_concat]
 simp
theorem stepS_new (acc : List (Int × Int)) (x : Int) (h : ∀ s, acc.getLast? = some s → s.2 ≠ x - 1) : stepS acc x = acc ++ [(x, x)] := by
 unfold stepS
 split
 ·
  rename_i s hs
  rw [if_neg (h s hs)]
 ·
  rename_i hs
  rw [List.getLast?_eq_none_iff.1 hs]
  rfl
def kref_ : Kd Nat := Kd.scalar (fun b => .slice (some ⟨b, 0, none⟩) 2 2) (fun _ => rfl)
structure SpS (w : World) (base : Nat) (v : Value) (P : List (Nat × Int × Int)) : Prop where
 row : kref_.R 36 w base (fun _ => True) v (P.map (·.1))
 cel : ∀ p ∈ P, base ≤ p.1 ∧ w.heap[p.1]? = some (.cells #[.int .i64 p.2.1, .int .i64 p.2.2] 3 (0, 0))
 nod : (P.map (·.1)).Nodup
namespace SpS
variable {w w1 : World} {base b : Nat} {v v1 : Value} {P Q : List (Nat × Int × Int)} {x y : Int}
theorem nil (w : World) (base : Nat) : SpS w base (.slice none 0 0) [] := ⟨Kd.R_nil _ _ _ _ _, fun p hp => absurd hp List.not_mem_nil, List.nodup_nil⟩
theorem lower {base' : Nat} (h : SpS w base v P) (hb : base' ≤ base) : SpS w base' v P :=
 ⟨Kd.R_lower h.row hb, fun p hp => ⟨Nat.le_trans hb (h.cel p hp).1, (h.cel p hp).2⟩, h.nod⟩
theorem below (h : SpS w base v P) (hb : Below w.heap.size w w1) : SpS w1 base v P :=
 ⟨Kd.R_below h.row hb, fun p hp => ⟨(h.cel p hp).1, blk_below (h.cel p hp).2 hb⟩, h.nod⟩
theorem put (h : SpS w base v (Q ++ [(b, x, y)])) (y' : Int) : SpS (w.setCell ⟨b, 1, none⟩ (.int .i64 y')) base v (Q ++ [(b, x, y')]) := by
 have hc := h.cel (b, x, y) (by simp)
 refine ⟨?_, fun p hp => ?_, ?_⟩
 ·
  have := Kd.R_set h.row hc.2 (fun q hq => by rw [List.mem_singleton.1 hq]; decide) 1 (.int .i64 y')
  simpa using this
 ·
  rcases List.mem_append.1 hp with hp | hp
  ·
   refine ⟨(h.cel p (List.mem_append_left _ hp)).1, blk_far (h.cel p (List.mem_append_left _ hp)).2 (fun e => ?_) _⟩
   have hn := h.nod
   rw [List.map_append, List.nodup_append] at hn
   exact hn.2.2 _ (List.mem_map_of_mem hp) _ (by simp) e
  ·
   obtain rfl := List.mem_singleton.1 hp
   exact ⟨hc.1, blk_put hc.2 1 _ rfl⟩
 ·
  have := h.nod
  simpa using this
theorem app (h : SpS w base v P) (h1 : kref_.R 36 w1 base (fun _ => True) v1 (P.map (·.1) ++ [b])) (hg : w.grownBy w1 v.ownBlock) (hbb : base ≤ b) (hb : w.heap[b]? = some (.cells #[.int .i64 x, .int .i64 y] 3 (0, 0))) (hn : ∀ p ∈ P, p.1 ≠ b) : SpS w1 base v1 (P ++ [(b, x, y)]) := by
 obtain ⟨inner, ho⟩ := Kd.R_own h.row
 refine ⟨by rw [List.map_append]; exact h1, fun p hp => ?_, ?_⟩
 ·
  rcases List.mem_append.1 hp with hp | hp
  ·
   exact ⟨(h.cel p hp).1, blk_grown (h.cel p hp).2 hg (own_ne ho (h.cel p hp).2 (by decide))⟩
  ·
   obtain rfl := List.mem_singleton.1 hp
   exact ⟨hbb, blk_grown hb hg (own_ne ho hb (by decide))⟩
 ·
  rw [List.map_append, List.nodup_append]
  refine ⟨h.nod, by simp, fun a ha c hc e => ?_⟩
  obtain ⟨p, hp, rfl⟩ := List.mem_map.1 ha
  obtain rfl := List.mem_singleton.1 hc
  exact hn p hp e
theorem rows (h : SpS w base v P) : (Kd.slice 3 (Kd.int .i64)).R 36 w base (fun _ => True) v (P.map fun p => [p.2.1, p.2.2]) := by
 obtain ⟨h0, inner, ho, hr⟩ := h.row
 have ho' : w.ownsRow base 36 1 v (P.map fun p => [p.2.1, p.2.2]).length inner := by
  rw [List.length_map] at ho ⊢
  exact ho
 refine ⟨fun _ _ => trivial, inner, ho', ?_, ?_⟩
 ·
  rw [hr.1, List.length_map, List.length_map]
  rfl
 ·
  intro j p hj
  rw [List.getElem?_map] at hj
  obtain ⟨q, hq, rfl⟩ := Option.map_eq_some_iff.1 hj
  have h1 := hr.2 j q.1 (by rw [List.getElem?_map, hq]; rfl)
  have hc := h.cel q (List.mem_of_getElem? hq)
  refine ⟨_, h1, Kd.R_of_own ⟨rfl, .inr ⟨q.1, 2, _, rfl, hc.1, hc.2, Nat.le_refl _, by decide, rfl, rfl⟩⟩ (fun k hk => ⟨trivial, fun he => ?_⟩)⟩
  have e : q.1 = k := by simpa [Value.ownBlock] using hk
  exact own_ne ho hc.2 (by decide) (by rw [e]; exact he)
theorem rowsS (h : SpS w base v P) : Kd.S (Kd.slice 3 (Kd.int .i64)) 36 w base (fun _ => True) v (P.map fun p => [p.2.1, p.2.2]) := by
 obtain ⟨h0, inner, ho, hr⟩ := h.row
 have ho' : w.ownsRow base 36 1 v (P.map fun p => [p.2.1, p.2.2]).zipIdx.length inner := by
  rw [List.length_zipIdx, List.length_map]
  rw [List.length_map] at ho
  exact ho
 refine ⟨fun k => P.findIdx (fun p => p.1 == k), fun _ _ => trivial, inner, ho', ?_, ?_⟩
 ·
  rw [hr.1, List.length_zipIdx, List.length_map, List.length_map]
  rfl
 ·
  intro j p hj
  rw [List.getElem?_zipIdx, List.getElem?_map] at hj
  obtain ⟨x1, hx1, rfl⟩ := Option.map_eq_some_iff.1 hj
  obtain ⟨q, hq, rfl⟩ := Option.map_eq_some_iff.1 hx1
  have h1 := hr.2 j q.1 (by rw [List.getElem?_map, hq]; rfl)
  have hc := h.cel q (List.mem_of_getElem? hq)
  obtain ⟨hjl, hqe⟩ := List.getElem?_eq_some_iff.1 hq
  have hf : P.findIdx (fun p => p.1 == q.1) = j := by
   rw [List.findIdx_eq hjl]
   refine ⟨by rw [hqe]; exact beq_self_eq_true _, fun i hi => ?_⟩
   have hn := List.pairwise_iff_getElem.1 h.nod i j (by rw [List.length_map]; omega) (by rw [List.length_map]; exact hjl) hi
   rw [List.getElem_map, List.getElem_map, hqe] at hn
   exact beq_eq_false_iff_ne.mpr hn
  refine ⟨_, h1, Kd.R_of_own ⟨rfl, .inr ⟨q.1, 2, _, rfl, hc.1, hc.2, Nat.le_refl _, by decide, rfl, rfl⟩⟩ (fun k hk => ⟨⟨trivial, fun he => ?_⟩, ?_⟩)⟩
  ·
   have e : q.1 = k := by simpa [Value.ownBlock] using hk
   exact own_ne ho hc.2 (by decide) (by rw [e]; exact he)
  ·
   have e : q.1 = k := by simpa [Value.ownBlock] using hk
   rw [← e]
   show P.findIdx (fun p => p.1 == q.1) = 0 + j
   rw [hf, Nat.zero_add]
theorem form (h : SpS w base v (Q ++ [(b, x, y)])) : ∃ ad c, v = .slice (some ad) (Q.length + 1) c ∧ w.cell? (ad.add Q.length) = some (.slice (some ⟨b, 0, none⟩) 2 2) ∧ w.cell? ⟨b, 1, none⟩ = some (.int .i64 y) ∧ w.frozen? ⟨b, 1, none⟩ = false := by
 obtain ⟨A, c, e, hl, hC⟩ := Kd.R_reads h.row
 obtain ⟨ad, rfl, hc⟩ := ReadsOf.at_ (Kd.reads_of_C (enc := fun b => Value.slice (some ⟨b, 0, none⟩) 2 2) (d := (0 : Nat)) (h1 := fun _ => rfl) hC) (Q.length : Int) (by omega) (by rw [List.length_map, List.length_append, List.length_singleton]; omega)
 have hb := (h.cel (b, x, y) (by simp)).2
 refine ⟨ad, c, by rw [e]; simp, ?_, (blk_cell hb 1).trans rfl, blk_frozen hb 1⟩
 rw [Int.toNat_natCast] at hc
 rw [hc]
 simp [rdOf]
theorem slice_ (h : SpS w base v P) : ∃ A c, v = .slice A P.length c ∧ P.length ≤ c := by
 obtain ⟨A, c, e, hl, hC⟩ := Kd.R_reads h.row
 rw [List.length_map] at e hl
 exact ⟨A, c, e, hl⟩
end SpS
theorem SpS.fresh_ {w : World} {base g : Nat} {v : Value} {P : List (Nat × Int × Int)} (h : SpS w base v P) (hg : g = w.heap.size) : ∀ p ∈ P, p.1 ≠ g := fun p hp e => by
 have := blk_lt (h.cel p hp).2
 omega
section
variable {P : Program} {ops : Array Oper} {rest : List Oper} {o : Oper} {a : Act} {Q : Exit → Act → World → Prop}
theorem lit_event {W : World} (hgd : o.guard = none) {N : Tmp} (_hd : o.dst = some N) {cs : Array Value} {t : TypeId} {n : Nat}
  (hrun : (execOp a.eval o).run P W = .ok (.value (.slice (some ⟨W.heap.size, 0, none⟩) n n)) (W.alloc (.cells cs t)))
  (h : ∀ g, g = W.heap.size → ∀ w1, w1.heap[g]? = some (.cells cs t (0, 0)) → Below W.heap.size W w1 → wpList P ops Q rest (a.put o.dst (.slice (some ⟨g, 0, none⟩) n n)) w1) : wpList P ops Q (o :: rest) a W :=
 Kd.event_run hgd hrun (h _ rfl _ (blk_new W _) (below_alloc (Below.refl _ _) _))
end
set_option maxHeartbeats 8000000 in
set_option maxRecDepth 100000 in
theorem spansS_.calls (p : Int → Bool) (g : Nat) (lb : Array Value) (eg : ∀ args w, (callFunc g args).run Try.prog w = .ok (.enter g args) w) (a0 a1 : Int) (w : World) (h0 : 0 ≤ a0) (h1 : a1 ≤ 1000000)
  (hp : ∀ (W : World) (x : Int), a0 ≤ x → x ≤ a1 → Below w.heap.size w W → Calls Try.prog g (#[.int .i64 x] ++ lb) W fun e w' => e = .returned (.bool (p x)) ∧ Below W.heap.size W w') :
  Calls Try.prog 77 #[.int .i64 a0, .int .i64 a1, .func (.func g) #[] lb] w fun e w' => ∃ (v0_ : Value) (P : List (Nat × Int × Int)), e = .returned v0_ ∧ SpS w' w.heap.size v0_ P ∧ P.map (·.2) = spansB p (a1 - a0 + 1).toNat a0 [] ∧ Below w.heap.size w w' := by
 have HP := Aside0.mk hp
 clear hp
 obtain ⟨n, hn⟩ : ∃ n, (a1 - a0 + 1).toNat = n := ⟨_, rfl⟩
 rw [hn]
 obtain ⟨R, hR⟩ : ∃ R, spansB p n a0 [] = R := ⟨_, rfl⟩
 rw [hR]
 have HR0 := Aside0.mk hR
 clear hR
 go_enter Try.func77, Try.ntmps77
 go_wp2
 go_loopg [7, 8] n (fun gg v7 v8 wr => ∃ (kk : Nat) (P : List (Nat × Int × Int)), kk ≤ n ∧ n - kk ≤ gg ∧ v8 = .int .i64 (a0 + kk) ∧ P.length ≤ kk ∧ Aside0 (spansB p (n - kk) (a0 + kk) (P.map (·.2)) = R) ∧ Aside0 (SpS wr w.heap.size v7 P) ∧ Aside0 (Below w.heap.size w wr))
 case atStart => exact ⟨0, [], Nat.zero_le _, by omega, by simp, Nat.le_refl _, ⟨by simpa using HR0.out⟩, ⟨SpS.nil _ _⟩, ⟨Below.refl _ _⟩⟩
 case round =>
  obtain ⟨kk, P, hkk, hgg, rfl, hPl, HA, HS, BW⟩ := hrel
  by_cases hlt : kk < n
  ·
   obtain ⟨x, hx⟩ : ∃ x, x = a0 + (kk : Int) := ⟨_, rfl⟩
   have hxa : a0 ≤ x := by omega
   have hx1 : x ≤ a1 := by omega
   have hcall := HP.out wr x hxa hx1 BW.out
   have hA := HA.out
   rw [show n - kk = (n - (kk + 1)) + 1 by omega] at hA
   unfold spansB at hA
   have hw1 : wrap64 (x + 1) = x + 1 := by
    unfold wrap64
    omega
   have hw2 : wrap64 (x - 1) = x - 1 := by
    unfold wrap64
    omega
   rw [← hx] at hA ⊢
   have hxn : a0 + ((kk + 1 : Nat) : Int) = x + 1 := by omega
   have HX := Aside0.mk hx
   have HN := Aside0.mk hn
   have HG := Aside0.mk hgg
   have HL := Aside0.mk hPl
   clear HA hx hn hgg hPl hxa
   cases hq : p x with
   | false =>
    rw [hq] at hcall hA
    simp only [Bool.false_eq_true, if_false] at hA
    have HC := Aside0.mk hcall
    have HA := Aside0.mk hA
    clear hcall hA hq
    go_wp2_with (go_at_fn g; refine HC.out.mono ?_; rintro e w3 ⟨rfl, hb3⟩; have BW3 := Aside0.mk (below_step BW.out hb3); have HS3 := Aside0.mk (HS.out.below hb3); clear hb3)
    go_roundg (n - (kk + 1))
    case measure => have := HG.out; omega
    case rel => exact ⟨kk + 1, P, by omega, by omega, by first | (rw [hxn]; done) | (rw [hxn]; go_num), by have := HL.out; omega, ⟨by rw [hxn]; exact HA.out⟩, HS3, BW3⟩
   | true =>
    rw [hq] at hcall hA
    simp only [if_true] at hA
    have HC := Aside0.mk hcall
    clear hcall hq
    rcases List.eq_nil_or_concat P with rfl | ⟨Q, ⟨b, a, y⟩, rfl⟩
    ·
     rw [stepS_new _ _ (fun s hs => by simp at hs)] at hA
     have HA := Aside0.mk hA
     clear hA
     obtain ⟨A, c, e7, hc⟩ := HS.out.slice_
     obtain ⟨m, hm⟩ : ∃ m, ([] : List (Nat × Int × Int)).length = m := ⟨_, rfl⟩
     rw [hm] at e7
     subst e7
     have hw3 : wrap64 ((m : Int) - 1) = -1 := by
      have h0 : m = 0 := hm.symm
      unfold wrap64
      omega
     clear hc hm
     go_wp2_with (first | (go_at_fn g; refine HC.out.mono ?_; rintro e w3 ⟨rfl, hb3⟩; have BW3 := Aside0.mk (below_step BW.out hb3); have HS3 := Aside0.mk (HS.out.below hb3); clear hb3) | ((with_reducible refine gate_dst (N := 45) rfl ?_); refine lit_event ?hg (N := 45) ?hd (cs := #[.int .i64 x, .int .i64 x]) (t := 3) (n := 2) ?hr ?_; (case hd => rfl); (case hg => rfl); (case hr => first | (go_simp; done) | (go_simp; rfl)); intro gn hgn w4 hbox hb4; have HGN := Aside0.mk hgn; have BX := Aside0.mk hbox; have BW4 := Aside0.mk (below_step BW3.out hb4); have HS4 := Aside0.mk (HS3.out.below hb4); have HGL := Aside0.mk (HS3.out.fresh_ hgn); have HBB := Aside0.mk (show w.heap.size ≤ gn from by rw [hgn]; exact below_size BW3.out); clear hgn hbox hb4) | ((with_reducible refine gate_builtin (b := .append) (xs := #[.tmp 42, .tmp 46]) rfl ?_); at_builtin; refine Kd.R_append kref_ (w0 := w) w.heap.size rfl (.tmp 42) (.tmp 46) 60 36 (.slice none 0 0) 24 rfl Try.underlying60 info36 rfl (by decide) (by omega) _ _ gn [.slice (some ⟨gn, 0, none⟩) 2 2] (fun _ => True) (fun _ => False) rfl (by first | (go_simp; done) | (go_simp; rfl)) ?aP (fun _ hk => hk.elim) (fun _ _ => trivial) HS4.out.row BW4.out (below_size BW4.out) ?aL ?_; (case aP => exact rfl); (case aL => exact (by have := HL.out; omega : (0 + 1) * 24 ≤ 140737488355328)); intro v9 w9 ho hb hg hat; have HS9 := Aside0.mk (HS4.out.app ho hg HBB.out BX.out HGL.out); have BW9 := Aside0.mk hb; clear ho hb hg hat))
     go_roundg (n - (kk + 1))
     case measure => have := HG.out; omega
     case rel => exact ⟨kk + 1, [] ++ [(gn, x, x)], by omega, by omega, by first | (rw [hxn]; done) | (rw [hxn]; go_num), by have := HL.out; simp, ⟨by rw [hxn]; exact HA.out⟩, HS9, BW9⟩
    ·
     rw [List.concat_eq_append] at HL hA HS
     obtain ⟨ad, c, e7, hx0, hx2, hfz⟩ := HS.out.form
     obtain ⟨m, hm⟩ : ∃ m, Q.length + 1 = m := ⟨_, rfl⟩
     rw [hm] at e7
     subst e7
     obtain ⟨q, hq⟩ : ∃ q, Q.length = q := ⟨_, rfl⟩
     rw [hq] at hx0
     have hw3 : wrap64 ((m : Int) - 1) = (q : Int) := by
      have := HL.out
      rw [List.length_append, List.length_singleton] at this
      unfold wrap64
      omega
     have hz0 : (0 : Int) ≤ (q : Int) := by omega
     have hz1 : (q : Int) < (m : Int) := by omega
     clear hm hq
     by_cases hy : y = x - 1
     ·
      subst hy
      rw [List.map_append, List.map_cons, List.map_nil, stepS_ext] at hA
      have HA := Aside0.mk hA
      clear hA
      go_wp2_with (go_at_fn g; refine HC.out.mono ?_; rintro e w3 ⟨rfl, hb3⟩; have BW3 := Aside0.mk (below_step BW.out hb3); have HS3 := Aside0.mk (HS.out.below hb3); replace hx0 := pw_cell_below hb3 hx0; replace hx2 := pw_cell_below hb3 hx2; replace hfz := blk_frozen (HS3.out.cel (b, a, x - 1) (by simp)).2 1; clear hb3)
      go_roundg (n - (kk + 1))
      case measure => have := HG.out; omega
      case rel => exact ⟨kk + 1, Q ++ [(b, a, x)], by omega, by omega, by first | (rw [hxn]; done) | (rw [hxn]; go_num), by have := HL.out; simp at this ⊢; omega, ⟨by rw [hxn]; simpa using HA.out⟩, ⟨HS3.out.put x⟩, ⟨below_set BW3.out (HS3.out.cel (b, a, x - 1) (by simp)).1⟩⟩
     ·
      rw [stepS_new _ _ (fun s hs => by rw [List.map_append, List.map_cons, List.map_nil, List.getLast?_concat] at hs; obtain rfl := Option.some.inj hs; exact hy)] at hA
      have n0 : (y == x - 1) = false := beq_eq_false_iff_ne.mpr hy
      have n1 : decide (y = x - 1) = false := decide_eq_false hy
      have HA := Aside0.mk hA
      clear hA hy
      go_wp2_with (first | (go_at_fn g; refine HC.out.mono ?_; rintro e w3 ⟨rfl, hb3⟩; have BW3 := Aside0.mk (below_step BW.out hb3); have HS3 := Aside0.mk (HS.out.below hb3); replace hx0 := pw_cell_below hb3 hx0; replace hx2 := pw_cell_below hb3 hx2; replace hfz := blk_frozen (HS3.out.cel (b, a, y) (by simp)).2 1; clear hb3) | ((with_reducible refine gate_dst (N := 45) rfl ?_); refine lit_event ?hg (N := 45) ?hd (cs := #[.int .i64 x, .int .i64 x]) (t := 3) (n := 2) ?hr ?_; (case hd => rfl); (case hg => rfl); (case hr => first | (go_simp; done) | (go_simp; rfl)); intro gn hgn w4 hbox hb4; have HGN := Aside0.mk hgn; have BX := Aside0.mk hbox; have BW4 := Aside0.mk (below_step BW3.out hb4); have HS4 := Aside0.mk (HS3.out.below hb4); have HGL := Aside0.mk (HS3.out.fresh_ hgn); have HBB := Aside0.mk (show w.heap.size ≤ gn from by rw [hgn]; exact below_size BW3.out); clear hgn hbox hb4) | ((with_reducible refine gate_builtin (b := .append) (xs := #[.tmp 42, .tmp 46]) rfl ?_); at_builtin; refine Kd.R_append kref_ (w0 := w) w.heap.size rfl (.tmp 42) (.tmp 46) 60 36 (.slice none 0 0) 24 rfl Try.underlying60 info36 rfl (by decide) (by omega) _ _ gn [.slice (some ⟨gn, 0, none⟩) 2 2] (fun _ => True) (fun _ => False) rfl (by first | (go_simp; done) | (go_simp; rfl)) ?aP (fun _ hk => hk.elim) (fun _ _ => trivial) HS4.out.row BW4.out (below_size BW4.out) ?aL ?_; (case aP => exact rfl); (case aL => have := HL.out; simp at this ⊢; omega); intro v9 w9 ho hb hg hat; have HS9 := Aside0.mk (HS4.out.app ho hg HBB.out BX.out HGL.out); have BW9 := Aside0.mk hb; clear ho hb hg hat))
      go_roundg (n - (kk + 1))
      case measure => have := HG.out; omega
      case rel => exact ⟨kk + 1, (Q ++ [(b, a, y)]) ++ [(gn, x, x)], by omega, by omega, by first | (rw [hxn]; done) | (rw [hxn]; go_num), by have := HL.out; simp at this ⊢; omega, ⟨by rw [hxn]; simpa using HA.out⟩, HS9, BW9⟩
  ·
   have hltz : ¬ a0 + (kk : Int) ≤ a1 := by omega
   have hA := HA.out
   rw [show n - kk = 0 by omega] at hA
   unfold spansB at hA
   go_wp2
   go_ret
   exact ⟨_, rfl, P, HS.out, hA, BW.out⟩
end Go.Proofs.Ytojaeidabmfajaa.Pr

namespace Go.Proofs.Ytojaeidabmfajaa.Pr
open Go.RowKit Go.Proofs.YtojaeidabmfajaaW.PrintWords Go.Proofs.YtojaeidabmfajaaW.PrintLast Go.Proofs.YtojaeidabmfajaaW.PrintMore
attribute [local go_sem] max2_int min2_int max_two min_two max_three min_three max_four min_four   -- for this text's walks alone
set_option linter.unusedVariables false
set_option linter.unusedSimpArgs false
def laws_szReadingS.f (l0 : List (S82)) (a1 : Int) : Option (Int) := if (wrap64 (a1 - (l0.length : Int))) < 0 then (some (-1)) else (some (wrap64 (a1 - (l0.length : Int))))
set_option maxHeartbeats 8000000 in
set_option maxRecDepth 100000 in
theorem laws_szReadingS.calls (A0 : Option Addr) (c0 : Nat) (l0 : List (S82)) (a1 : Int) (r : Int) (w : World) (hr0 : Kd.C k82 w A0 l0.length l0) (hc0 : l0.length ≤ c0) (h : laws_szReadingS.f l0 a1 = some r) :
  Calls Try.prog 10 #[.slice A0 l0.length c0, .int .i64 a1] w fun e w' => e = .returned (.int .i64 r) ∧ Drawn0 w w' := by
 have HR0 := Aside0.mk hr0
 have HC0 := Aside0.mk hc0
 clear hr0 hc0
 have H : (if (wrap64 (a1 - (l0.length : Int))) < 0 then (some (-1)) else (some (wrap64 (a1 - (l0.length : Int))))) = some r := h
 clear h
 by_cases c3 : (wrap64 (a1 - (l0.length : Int))) < 0
 ·
  rw [if_pos c3] at H
  have c3b0 : decide ((wrap64 (a1 - (l0.length : Int))) < 0) = true := decide_eq_true c3
  clear c3
  obtain rfl := Option.some.inj H
  go_enter Try.func10, Try.ntmps10
  go_wp2
  go_ret
  exact ⟨by first | rfl | (simp; done) | (simp [*]; done), by repeat (first | exact Drawn0.refl _ | apply Drawn0.step)⟩
 ·
  rw [if_neg c3] at H
  have c3b0 : decide ((wrap64 (a1 - (l0.length : Int))) < 0) = false := decide_eq_false c3
  clear c3
  obtain rfl := Option.some.inj H
  go_enter Try.func10, Try.ntmps10
  go_wp2
  go_ret
  exact ⟨by first | rfl | (simp; done) | (simp [*]; done), by repeat (first | exact Drawn0.refl _ | apply Drawn0.step)⟩
end Go.Proofs.Ytojaeidabmfajaa.Pr

namespace Go.Proofs.Ytojaeidabmfajaa.Pr
open Go.RowKit Go.Proofs.YtojaeidabmfajaaW.PrintWords Go.Proofs.YtojaeidabmfajaaW.PrintLast Go.Proofs.YtojaeidabmfajaaW.PrintMore
set_option linter.unusedVariables false
set_option linter.unusedSimpArgs false
section
variable {P : Program} {md : Region.Mode} {ops : Array Oper} {Q : Exit → Act → World → Prop} {S : World → Prop} {ds : List Nat} {T : Bool × List (List Nat × List Nat)}
theorem pz_ {fuel : Nat} {l : Array Bool} {a : Act} {w : World} {oi : Oper} {v : Value} {a' : Act} (HT : Aside0 (rtab md ops = T)) (i : Nat) (N : Option Tmp) (l' : Array Bool) (h : wpAnyLast P md ops Q S ds fuel l' a' w)
  (hi : ops[i]? = some oi := by exact rfl) (hN : oi.dst = N := by exact rfl) (hc : anyT T l.toList l'.toList i = true := by kernel_rfl) (hQ : ∀ c a w, Q (.panic c) (a.put oi.dst v) w → Q (.panic c) a w := by exact fun _ _ _ h => h)
  (hy : Yields P ops oi v a := by exact Or.inl ⟨by rfl, by intro w'; go_simp; with_reducible rfl⟩) (ha : a.put N v = a' := by simp only [Act.put, List.setIfInBounds_toArray, List.set_cons_zero, List.set_cons_succ, i64_w, i32_w]; rfl) :
  wpAnyLast P md ops Q S ds (fuel + 1) l a w := pure_ l' hi hN (any_of HT.out hc) hQ hy ha h
theorem ga_ {rest : List Oper} {oi : Oper} {a : Act} {w : World} {f : FuncId} {fn : Func} {ar : Array Operand} {ts : Array TypeId} (N : Option Tmp) (hf : P.funcs[f]? = some fn) (args : Array Value) (h : Calls P f args w fun e w' => ∃ v, e = .returned v ∧ wpList P ops Q rest (a.put N v) w')
  (hd : oi.dst = N := by exact rfl) (hg : oi.guard = none := by exact rfl) (hname : (fn.name == "runtime.NumGoroutine") = false := by kernel_rfl) (hb : fn.body.isSome = true := by exact rfl) (hop : oi.op = .call { callee := .value (.func f), args := ar, argTypes := ts } := by exact rfl)
  (hargs : ar.map a.eval = args := by (try simp only [List.map_toArray, List.map_cons, List.map_nil]); first | done | rfl | (simp only [List.length_drop, List.length_take]; rfl)) : wpList P ops Q (oi :: rest) a w := goesL_ N hd hg hf hname hb args hop hargs h
end
theorem lb0_ {n : Nat} {w w0 w1 : World} (HB : Below n w w0) (h : Below n w w0 → Below n w w1 := by intro HB_; repeat (first | (with_reducible first | exact HB_ | apply below_alloc | apply pw_below_drewN | apply below_drew1) | exact HB_)) : Below n w w1 := h HB
theorem lb1_ {n : Nat} {w w0 w1 : World} {A : Prop} (HB : Below n w w0) (G : A) (h : Below n w w0 → A → Below n w w1 := by intro HB_ G_; repeat (first | (with_reducible first | exact HB_ | apply below_alloc | apply pw_below_drewN | apply below_drew1 | refine below_set ?_ G_) | exact HB_)) : Below n w w1 := h HB G
theorem lb2_ {n : Nat} {w w0 w1 : World} {A B : Prop} (HB : Below n w w0) (G : A) (H : B) (h : Below n w w0 → A → B → Below n w w1 := by intro HB_ G_ H_; repeat (first | (with_reducible first | exact HB_ | apply below_alloc | apply pw_below_drewN | apply below_drew1 | refine below_set ?_ G_ | refine below_set ?_ H_) | exact HB_)) : Below n w w1 := h HB G H
theorem rr_ {α : Sort _} {a b : α} (h : a = b := by first | rfl | (simp [errW_none, errW_some] <;> rfl) | (simp [*, errW_none, errW_some] <;> rfl)) : a = b := h
theorem kr_ {α : Type} {d : Kd α} {e base : Nat} {w w1 : World} {ok : Nat → Prop} {v : Value} {xs : List α} (h : d.R e w base ok v xs) (hh : d.R e w base ok v xs → d.R e w1 base ok v xs := by intro h_; (with_reducible repeat (first | apply Kd.R_alloc | apply Kd.R_drewN | apply Kd.R_drew)); exact h_) : d.R e w1 base ok v xs := hh h
theorem kc_ {α : Type} {d : Kd α} {w w1 : World} {A : Option Addr} {n : Nat} {xs : List α} (h : d.C w A n xs) (hh : d.C w A n xs → d.C w1 A n xs := by intro h_; repeat (first | exact h_ | (with_reducible refine Kd.C_alloc ?_ _) | (with_reducible refine Kd.C_drewN ?_ _) | (with_reducible refine Kd.C_drew ?_))) : d.C w1 A n xs := hh h
theorem bk_ {w w1 : World} {g : Nat} {o : Obj} (h : w.heap[g]? = some o) (hh : w.heap[g]? = some o → w1.heap[g]? = some o := by intro h_; (with_reducible repeat (first | refine blk_drewN ?_ _ | refine blk_drew ?_ | refine blk_alloc ?_ _)); exact h_) : w1.heap[g]? = some o := hh h
theorem dt_ {p : Prop} [inst : Decidable p] (h : decide p = true := by first | (with_reducible assumption) | assumption) : p := of_decide_eq_true h
theorem bc_ {w w0 : World} {a : Addr} {v : Value} (hb : Below w.heap.size w w0) (h : w.cell? a = some v) : w0.cell? a = some v := (hb.cell (World.block_lt_of_cell? w _ h)).trans h
section
variable {P : Program} {md : Region.Mode} {ops : Array Oper} {Q : Exit → Act → World → Prop} {S : World → Prop} {ds : List Nat}
theorem na_ {fuel : Nat} {l : Array Bool} {a a' : Act} {w : World} (h : wpAnyLast P md ops Q S ds fuel l a' w) (ha : a = a' := by show Act.put _ (some _) _ = _; simp only [Act.put, List.setIfInBounds_toArray, List.set_cons_zero, List.set_cons_succ, i64_w, i32_w]; rfl) : wpAnyLast P md ops Q S ds fuel l a w := norm_ ha h
theorem nb_ {fuel : Nat} {l : Array Bool} {a a' : Act} {w : World} (h : wpAnyLast P md ops Q S ds fuel l a' w) (ha : a = a' := by simp only [putAll, Act.put, List.setIfInBounds_toArray, List.set_cons_zero, List.set_cons_succ]; rfl) : wpAnyLast P md ops Q S ds fuel l a w := norm_ ha h
end
theorem bz_ {w W : World} {g : Nat} (hg : g = W.heap.size) (h : Below w.heap.size w W) : w.heap.size ≤ g := by rw [hg]; exact h.size
theorem lb3_ {n : Nat} {w w0 w1 : World} {A B C : Prop} (HB : Below n w w0) (G : A) (H : B) (I : C) (h : Below n w w0 → A → B → C → Below n w w1 := by intro HB_ G_ H_ I_; repeat (first | (with_reducible first | exact HB_ | apply below_alloc | apply pw_below_drewN | apply below_drew1 | refine below_set ?_ G_ | refine below_set ?_ H_ | refine below_set ?_ I_) | exact HB_)) : Below n w w1 := h HB G H I
theorem kt_ {w w0 w1 : World} {S : Nat → Prop} (h : Kept w w0 S) (hh : Kept w w0 S → Kept w w1 S := by intro h_; repeat (first | (with_reducible first | exact h_ | apply Kept.alloc | apply Kept.drewN | apply Kept.drew) | exact h_)) : Kept w w1 S := hh h
theorem krm_ {α : Type} {d : Kd α} {e base : Nat} {w w1 : World} {ok ok' : Nat → Prop} {v : Value} {xs : List α} (h : d.R e w base ok v xs) (hm : ∀ k, ok k → ok' k) (hh : d.R e w base ok v xs → d.R e w1 base ok v xs := by intro h_; (with_reducible repeat (first | apply Kd.R_alloc | apply Kd.R_drewN | apply Kd.R_drew)); exact h_) : d.R e w1 base ok' v xs := Kd.R_mono (hh h) hm
theorem bb_ {w1 w2 : World} {g : Nat} {o : Obj} (h : w1.heap[g]? = some o) (hb : Below w1.heap.size w1 w2) : w2.heap[g]? = some o := blk_below h hb
theorem ry_ {α : Type} {d : Kd α} {e base : Nat} {w : World} {ok : Nat → Prop} {v : Value} {xs ys : List α} (he : ys = xs) (h : d.R e w base ok v xs) : d.R e w base ok v ys := by rw [he]; exact h
section
variable {P : Program} {ops : Array Oper} {Q : Exit → Act → World → Prop}
theorem gs_ {oi : Oper} {N : Option Tmp} {a : Act} {w : World} {K : Act → World → Prop} {f : FuncId} {fn : Func} {ar : Array Operand} {ts : Array TypeId} (hf : P.funcs[f]? = some fn) (args : Array Value) (h : Calls P f args w fun e w' => ∃ v, e = .returned v ∧ K (a.put N v) w')
  (hname : (fn.name == "runtime.NumGoroutine") = false := by kernel_rfl) (hb : fn.body.isSome = true := by exact rfl) (hw : Region.wanted oi (yielded ops a.tmps) = true := by rfl) (hN : oi.dst = N := by exact rfl) (hop : oi.op = .call { callee := .value (.func f), args := ar, argTypes := ts } := by exact rfl)
  (hargs : ar.map a.eval = args := by (try simp only [List.map_toArray, List.map_cons, List.map_nil]); first | done | rfl | (simp only [List.length_drop, List.length_take]; rfl)) : if Region.wanted oi (yielded ops a.tmps) = true then Oper.wp P oi a w K Q else K (a.put N undef) w := goes_ hf hname hb args hw hN hop hargs h
end
theorem cz2_ {w : World} {g : Nat} {t : TypeId} {a0 a1 : Value} (h : w.heap[g]? = some (.cells #[a0, a1] t (0, 0))) : w.cell? ⟨g, 0, none⟩ = some a0 ∧ w.cell? ⟨g, 1, none⟩ = some a1 := ⟨(blk_cell h 0).trans rfl, (blk_cell h 1).trans rfl⟩
theorem fz2_ {w : World} {g : Nat} {t : TypeId} {a0 a1 : Value} (h : w.heap[g]? = some (.cells #[a0, a1] t (0, 0))) : w.frozen? ⟨g, 0, none⟩ = false ∧ w.frozen? ⟨g, 1, none⟩ = false := ⟨blk_frozen h 0, blk_frozen h 1⟩
theorem cz3_ {w : World} {g : Nat} {t : TypeId} {a0 a1 a2 : Value} (h : w.heap[g]? = some (.cells #[a0, a1, a2] t (0, 0))) : w.cell? ⟨g, 0, none⟩ = some a0 ∧ w.cell? ⟨g, 1, none⟩ = some a1 ∧ w.cell? ⟨g, 2, none⟩ = some a2 := ⟨(blk_cell h 0).trans rfl, (blk_cell h 1).trans rfl, (blk_cell h 2).trans rfl⟩
theorem fz3_ {w : World} {g : Nat} {t : TypeId} {a0 a1 a2 : Value} (h : w.heap[g]? = some (.cells #[a0, a1, a2] t (0, 0))) : w.frozen? ⟨g, 0, none⟩ = false ∧ w.frozen? ⟨g, 1, none⟩ = false ∧ w.frozen? ⟨g, 2, none⟩ = false := ⟨blk_frozen h 0, blk_frozen h 1, blk_frozen h 2⟩
abbrev tT : Bool := true
abbrev fF : Bool := false
section
variable {P : Program} {md : Region.Mode} {ops : Array Oper} {Q : Exit → Act → World → Prop} {S : World → Prop} {ds : List Nat} {T : Bool × List (List Nat × List Nat)} {B : List Nat}
theorem tk_ {fuel : Nat} {l : Array Bool} {a : Act} {w : World} {oi : Oper} {v : Value} {a' : Act} (HT : Aside0 (rtab md ops = T)) (HW : Aside0 (waitsOk T.2 B = true)) (hS : S w) (i : Nat) (N : Option Tmp) (l' : Array Bool) (h : wpAnyLast P md ops Q S ds fuel l' a' w)
  (hi : ops[i]? = some oi := by exact rfl) (hN : oi.dst = N := by exact rfl) (hc : takeW T B ds l.toList l'.toList i = true := by kernel_rfl) (hQ : ∀ c a w, Q (.panic c) (a.put oi.dst v) w → Q (.panic c) a w := by exact fun _ _ _ h => h)
  (hy : YieldsIf P ops S oi v a := by exact Or.inl ⟨by rfl, by intro w' hs; (repeat (obtain ⟨s_, hs⟩ := hs)); go_simp; with_reducible rfl⟩) (ha : a.put N v = a' := by simp only [Act.put, List.setIfInBounds_toArray, List.set_cons_zero, List.set_cons_succ, i64_w, i32_w]; rfl) :
  wpAnyLast P md ops Q S ds (fuel + 1) l a w := take_ l' hi hN (take_ofW HT.out HW.out hc) hQ hy hS ha h
theorem pu_ {fuel : Nat} {l : Array Bool} {a : Act} {w : World} {oi : Oper} {a' : Act} (HT : Aside0 (rtab md ops = T)) (i : Nat) (N : Option Tmp) (l' : Array Bool) (h : wpAnyLast P md ops Q S ds fuel l' a' w)
  (hi : ops[i]? = some oi := by exact rfl) (hN : oi.dst = N := by exact rfl) (hc : anyT T l.toList l'.toList i = true := by kernel_rfl) (hQ : ∀ c a w, Q (.panic c) (a.put oi.dst undef) w → Q (.panic c) a w := by exact fun _ _ _ h => h)
  (hy : Yields P ops oi undef a := by exact Or.inr ⟨by rfl, rfl⟩) (ha : a.put N undef = a' := by simp only [Act.put, List.setIfInBounds_toArray, List.set_cons_zero, List.set_cons_succ, i64_w, i32_w]; rfl) :
  wpAnyLast P md ops Q S ds (fuel + 1) l a w := pure_ l' hi hN (any_of HT.out hc) hQ hy ha h
end
theorem nl_ {w W : World} {g g' : Nat} {o : Obj} (hg : g' = W.heap.size) (h : w.heap[g]? = some o) (hh : w.heap[g]? = some o → W.heap[g]? = some o := by intro h_; (with_reducible repeat (first | refine blk_drewN ?_ _ | refine blk_drew ?_ | refine blk_alloc ?_ _)); exact h_) : g ≠ g' := by rw [hg]; exact Nat.ne_of_lt (blk_lt (hh h))
theorem ng_ {w W : World} {g g' : Nat} {o : Obj} (hg : g' = W.heap.size) (h : w.heap[g]? = some o) (hh : w.heap[g]? = some o → W.heap[g]? = some o := by intro h_; (with_reducible repeat (first | refine blk_drewN ?_ _ | refine blk_drew ?_ | refine blk_alloc ?_ _)); exact h_) : g' ≠ g := by rw [hg]; exact Nat.ne_of_gt (blk_lt (hh h))
theorem p2_ {w : World} {g : Nat} {t : TypeId} {b0 b1 : Value} (h : w.heap[g]? = some (.cells #[b0, b1] t (0, 0))) (a0 a1 : Value) : ((w.setCell ⟨g, 0, none⟩ a0).setCell ⟨g, 1, none⟩ a1).heap[g]? = some (.cells #[a0, a1] t (0, 0)) := (blk_put (cs := #[a0, b1]) (blk_put (cs := #[b0, b1]) h 0 _ rfl) 1 _ rfl)
theorem f2_ {w : World} {g g' : Nat} {t : TypeId} {cs : Array Value} {j0 j1 : Nat} (h : w.heap[g]? = some (.cells cs t (0, 0))) (hne : g ≠ g') (a0 a1 : Value) : ((w.setCell ⟨g', j0, none⟩ a0).setCell ⟨g', j1, none⟩ a1).heap[g]? = some (.cells cs t (0, 0)) := (blk_far (p := ⟨g', j1, none⟩) (blk_far (p := ⟨g', j0, none⟩) h hne _) hne _)
end Go.Proofs.Ytojaeidabmfajaa.Pr

namespace Go.Proofs.Ytojaeidabmfajaa.Pr
open Go.RowKit Go.Proofs.YtojaeidabmfajaaW.PrintWords Go.Proofs.YtojaeidabmfajaaW.PrintLast Go.Proofs.YtojaeidabmfajaaW.PrintMore
attribute [local go_sem] max2_int min2_int max_two min_two max_three min_three max_four min_four   -- for this text's walks alone
set_option linter.unusedVariables false
set_option linter.unusedSimpArgs false
def laws_toReading.f (a0_0 : Int) (a0_1 : Int) : Option (Int × Int) := some (a0_0, a0_1)
set_option maxHeartbeats 8000000 in
set_option maxRecDepth 100000 in
theorem laws_toReading.calls (a0_0 : Int) (a0_1 : Int) (r1 : Int) (r2 : Int) (w : World) (h : laws_toReading.f a0_0 a0_1 = some (r1, r2)) :
  Calls Try.prog 57 #[.agg #[.int .i64 a0_0, .int .i64 a0_1]] w fun e w' => e = .returned (.agg #[.int .i64 r1, .int .i64 r2]) ∧ Below w.heap.size w w' := by
 have hu82 := Try.underlying82
 have hu54 := Try.underlying54
 have HB := Aside0.mk (Below.refl w.heap.size w)
 have H : (some (a0_0, a0_1)) = some (r1, r2) := h
 clear h
 simp only [Option.some.injEq, Prod.mk.injEq] at H
 obtain ⟨rfl, rfl⟩ := H
 go_enter Try.func57, Try.ntmps57
 go_wp2_with (first | ((with_reducible refine gate_dst (N := 1) rfl ?_); refine box_event ?hg (N := 1) ?hd (cs := #[.int .i64 a0_0, .int .i64 a0_1]) (t := 82) ?hr ?_; (case hd => rfl); (case hg => rfl); (case hr => first | (go_simp; done) | (go_simp; rfl)); intro gb135 hg w2 hbox hb; have BK135 := Aside0.mk (hbox); have GW135 := Aside0.mk ((bz_ hg (lb0_ HB.out))); have GE135 := Aside0.mk ((bz_ hg (lb0_ HB.out))); replace HB := Aside0.mk (below_step (lb0_ HB.out) hb); clear hb hbox hg) | ((with_reducible refine gate_dst (N := 2) rfl ?_); refine box_event ?hg (N := 2) ?hd (cs := #[.int .i64 0, .int .i64 0]) (t := 54) ?hr ?_; (case hd => rfl); (case hg => rfl); (case hr => first | (go_simp; done) | (go_simp; rfl)); intro gb136 hg w3 hbox hb; have BK136 := Aside0.mk (hbox); have GW136 := Aside0.mk ((bz_ hg (lb1_ HB.out GE135.out))); have GE136 := Aside0.mk ((bz_ hg (lb1_ HB.out GE135.out))); replace HB := Aside0.mk (below_step (lb1_ HB.out GE135.out) hb); have NB135_136 := Aside0.mk (nl_ hg BK135.out); have NB136_135 := Aside0.mk (ng_ hg BK135.out); replace BK135 := Aside0.mk (bb_ (bk_ BK135.out) hb); clear hb hbox hg) | ((with_reducible refine gate_dst (N := 3) rfl ?_); refine box_event ?hg (N := 3) ?hd (cs := #[.int .i64 0, .int .i64 0]) (t := 54) ?hr ?_; (case hd => rfl); (case hg => rfl); (case hr => first | (go_simp; done) | (go_simp; rfl)); intro gb137 hg w4 hbox hb; have BK137 := Aside0.mk (hbox); have GW137 := Aside0.mk ((bz_ hg (lb2_ HB.out GE135.out GE136.out))); have GE137 := Aside0.mk ((bz_ hg (lb2_ HB.out GE135.out GE136.out))); replace HB := Aside0.mk (below_step (lb2_ HB.out GE135.out GE136.out) hb); have NB135_137 := Aside0.mk (nl_ hg BK135.out); have NB137_135 := Aside0.mk (ng_ hg BK135.out); replace BK135 := Aside0.mk (bb_ (bk_ BK135.out) hb); have NB136_137 := Aside0.mk (nl_ hg BK136.out); have NB137_136 := Aside0.mk (ng_ hg BK136.out); replace BK136 := Aside0.mk (bb_ (bk_ BK136.out) hb); clear hb hbox hg; have hnb5 := NB135_136.out; have hnc5 := NB136_135.out; have hnb6 := NB135_137.out; have hnc6 := NB137_135.out; obtain ⟨hcz7_0, hcz7_1⟩ := cz2_ BK135.out; obtain ⟨hfz7_0, hfz7_1⟩ := fz2_ BK135.out; have hnb8 := NB137_136.out; have hnc8 := NB136_137.out; obtain ⟨hcz9_0, hcz9_1⟩ := cz2_ BK137.out; obtain ⟨hfz9_0, hfz9_1⟩ := fz2_ BK137.out; obtain ⟨hcz10_0, hcz10_1⟩ := cz2_ BK136.out; obtain ⟨hfz10_0, hfz10_1⟩ := fz2_ BK136.out))
 refine bodyPost_ret (results_cell_row rfl _ _ gb136 54 #[.int .i64 a0_0, .int .i64 a0_1] (0, 0) _ rfl (by (with_reducible repeat (first | refine blk_drewN ?_ _ | refine blk_drew ?_ | refine blk_alloc ?_ _)); refine blk_put (cs := #[.int .i64 a0_0, .int .i64 0]) ?_ 1 _ rfl; (with_reducible repeat (first | refine blk_drewN ?_ _ | refine blk_drew ?_ | refine blk_alloc ?_ _)); refine blk_put (cs := #[.int .i64 0, .int .i64 0]) ?_ 0 _ rfl; (with_reducible repeat (first | refine blk_drewN ?_ _ | refine blk_drew ?_ | refine blk_alloc ?_ _)); refine blk_far ?_ NB136_137.out _; (with_reducible repeat (first | refine blk_drewN ?_ _ | refine blk_drew ?_ | refine blk_alloc ?_ _)); refine blk_far ?_ NB136_137.out _; (with_reducible repeat (first | refine blk_drewN ?_ _ | refine blk_drew ?_ | refine blk_alloc ?_ _)); exact BK136.out) Try.underlying54 rfl (by kernel_rfl)) rfl ?_
 exact ⟨rr_, lb3_ HB.out GE135.out GE136.out GE137.out⟩
def laws_toReadingS.l0 : Nat → List (S82) → List (S54) → Int → Option ((List (S54)))
 | 0, _, _, _ => none
 | k + 1, x0, x3, x4 => if x4 < (x0.length : Int) then (if 0 ≤ x4 then ((laws_toReading.f ((rd_T82 x0 x4).f0) ((rd_T82 x0 x4).f1)).bind fun bt142 => (if x4 < (x3.length : Int) then (laws_toReadingS.l0 k x0 (x3.set (x4 : Int).toNat (⟨bt142.1, bt142.2⟩ : S54)) (wrap64 (x4 + 1))) else (none))) else (none)) else (some x3)
def laws_toReadingS.f (k : Nat) (l0 : List (S82)) : Option ((List (S54))) := if 0 ≤ (l0.length : Int) then (if ((l0.length : Int) : Int).toNat ≤ 17592186044416 then (laws_toReadingS.l0 k l0 (List.replicate ((l0.length : Int) : Int).toNat z54) 0) else (none)) else (none)
set_option maxHeartbeats 8000000 in
set_option maxRecDepth 100000 in
theorem laws_toReadingS.calls (k : Nat) (A0 : Option Addr) (c0 : Nat) (l0 : List (S82)) (r : List (S54)) (w : World) (hr0 : Kd.C k82 w A0 l0.length l0) (hc0 : l0.length ≤ c0) (h : laws_toReadingS.f k l0 = some r) :
  Calls Try.prog 12 #[.slice A0 l0.length c0] w fun e w' => ∃ v0_ : Value, e = .returned (v0_) ∧ Kd.R k54 54 w' w.heap.size (fun _ => True) v0_ r ∧ Below w.heap.size w w' := by
 have hu82 := Try.underlying82
 have hu54 := Try.underlying54
 have HR0 := Aside0.mk hr0
 have HC0 := Aside0.mk hc0
 clear hr0 hc0
 have HB := Aside0.mk (Below.refl w.heap.size w)
 have H : (if 0 ≤ (l0.length : Int) then (if ((l0.length : Int) : Int).toNat ≤ 17592186044416 then (laws_toReadingS.l0 k l0 (List.replicate ((l0.length : Int) : Int).toNat z54) 0) else (none)) else (none)) = some r := h
 clear h
 by_cases c2 : 0 ≤ (l0.length : Int)
 ·
  rw [if_pos c2] at H
  have c2b0 := eq_true c2
  have c2b1 : decide (0 ≤ (l0.length : Int)) = true := decide_eq_true c2
  clear c2
  by_cases c3 : ((l0.length : Int) : Int).toNat ≤ 17592186044416
  ·
   rw [if_pos c3] at H
   have c3b0 := eq_true c3
   have c3b1 : decide (((l0.length : Int) : Int).toNat ≤ 17592186044416) = true := decide_eq_true c3
   clear c3
   obtain ⟨y138, hy138⟩ : ∃ y_ : List (S54), y_ = (List.replicate ((l0.length : Int) : Int).toNat z54) := ⟨_, rfl⟩
   replace H : (laws_toReadingS.l0 k l0 y138 0) = some r := by first | (rw [hy138]; with_reducible exact H) | (have H2_ := (Option.bind_some _ _).symm.trans H; rw [hy138]; with_reducible exact H2_) | (have H2_ := (Option.bind_some _ _).symm.trans H; with_reducible exact H2_) | with_reducible exact H | (rw [hy138]; exact H) | exact H
   have Ny138 := Aside0.mk hy138
   clear hy138
   have H' := Aside0.mk H
   clear H
   go_enter Try.func12, Try.ntmps12
   go_wp2_with (first | ((with_reducible refine gate_dst (N := 7) rfl ?_); refine Kd.R_make k54 _ 54 rfl (N := 7) rfl 28 _ _ rfl (l0.length : Int) rfl rfl Try.underlying28 (.agg #[(.int .i64 0), (.int .i64 0)]) 16 info54 rfl (by decide) (by omega) z54 (ok := fun _ => True) (okp := fun _ => True) (k54_mkM _ _ _ z54 ) (fun _ hk => hk) trivial (dt_) (Nat.le_trans (Nat.mul_le_mul_right _ (dt_ : (l0.length : Int).toNat ≤ 17592186044416)) (by omega)) (Below.refl _ _) (Nat.le_refl _) ?_; intro v139 w4 ho5 hb hg_ hnew_; clear hg_ hnew_; replace ho5 := ry_ Ny138.out ho5; have HO140 := Aside0.mk (Kd.R_lower ho5 (below_size (lb0_ HB.out))); replace HB := Aside0.mk (below_step (lb0_ HB.out) hb); clear hb ho5))
   go_loopg [4] k (fun kq v4 w' => ∃ (x3_1 : List (S54)) (x4_1 : Int), v4 = .int .i64 x4_1 ∧ Aside0 (laws_toReadingS.l0 kq l0 x3_1 x4_1 = some r) ∧ Aside0 (kq ≤ k) ∧ Aside0 (Kd.R k54 54 w' w.heap.size (fun _ => True) v139 x3_1) ∧ Aside0 (Below w.heap.size w w'))
   case atStart => exact ⟨(y138), (0), (by first | rfl | (simp; done) | (simp [*]; done)), H', ⟨Nat.le_refl _⟩, ⟨kr_ HO140.out⟩, ⟨lb0_ HB.out⟩⟩
   case round =>
    clear H'
    try clear c1
    try clear c2
    try clear c2b0
    try clear c2b1
    try clear p2
    try clear c3
    try clear c3b0
    try clear c3b1
    obtain ⟨x3_1, x4_1, rfl, HA, HK1, HO_3, HB⟩ := hrel
    cases gk with
    | zero => exact absurd HA.out (by simp [laws_toReadingS.l0])
    | succ k1 =>
     have H := HA.out
     clear HA
     simp only [laws_toReadingS.l0] at H
     by_cases c6 : x4_1 < (l0.length : Int)
     ·
      rw [if_pos c6] at H
      have c6b0 : decide (x4_1 < (l0.length : Int)) = true := decide_eq_true c6
      clear c6
      by_cases c7 : 0 ≤ x4_1
      ·
       rw [if_pos c7] at H
       have c7b0 : decide (0 ≤ x4_1) = true := decide_eq_true c7
       clear c7
       replace H := Option.bind_eq_some_iff.mp H
       obtain ⟨⟨t142, t143⟩, A80, H⟩ := H
       replace H : (if x4_1 < (x3_1.length : Int) then (laws_toReadingS.l0 k1 l0 (x3_1.set (x4_1 : Int).toNat (⟨t142, t143⟩ : S54)) (wrap64 (x4_1 + 1))) else (none)) = some r := H
       have A8 := Aside0.mk A80
       clear A80
       by_cases c9 : x4_1 < (x3_1.length : Int)
       ·
        rw [if_pos c9] at H
        have c9b0 : decide (x4_1 < (x3_1.length : Int)) = true := decide_eq_true c9; clear c9
        obtain ⟨y144, hy144⟩ : ∃ y_ : List (S54), y_ = (x3_1.set (x4_1 : Int).toNat (⟨t142, t143⟩ : S54)) := ⟨_, rfl⟩
        replace H : (laws_toReadingS.l0 k1 l0 y144 (wrap64 (x4_1 + 1))) = some r := by first | (rw [hy144]; with_reducible exact H) | (have H2_ := (Option.bind_some _ _).symm.trans H; rw [hy144]; with_reducible exact H2_) | (have H2_ := (Option.bind_some _ _).symm.trans H; with_reducible exact H2_) | with_reducible exact H | (rw [hy144]; exact H) | exact H
        have Ny144 := Aside0.mk hy144; clear hy144; have H' := Aside0.mk H; clear H; have p141 : 0 ≤ (x4_1 : Int) := dt_; have q141 : x4_1 < (l0.length : Int) := dt_; obtain ⟨ad141, e141, hx141_0, hx141_1⟩ := at_T82 HR0.out x4_1 p141 q141
        cases e141
        replace hx141_0 := bc_ HB.out hx141_0; replace hx141_1 := bc_ HB.out hx141_1; replace p141 := eq_true p141; replace q141 := eq_true q141
        go_wp2_with (first | ((with_reducible refine gate_callee (f := 57) rfl ?_); refine ga_ (some 20) Try.func57 #[.agg #[.int .i64 ((rd_T82 l0 x4_1).f0), .int .i64 ((rd_T82 l0 x4_1).f1)]] ?_; (with_reducible refine (laws_toReading.calls ((rd_T82 l0 x4_1).f0) ((rd_T82 l0 x4_1).f1) t142 t143 _ A8.out).mono ?_); rintro e w11 ⟨rfl, hb⟩; refine ⟨_, rfl, ?_⟩; replace HO_3 := Aside0.mk (Kd.R_below (kr_ HO_3.out) hb); replace HB := Aside0.mk (below_step (lb0_ HB.out) hb); (try clear hb); (try clear hb2); (try clear hk); (try clear hi); have p10 : 0 ≤ (x4_1 : Int) := dt_; have q10 : (x4_1 : Int) < ((x3_1.length : Int) : Int) := dt_; obtain ⟨go10, co10, eo10, gb10, gl10, cl10, HG10⟩ := Kd.R_form HO_3.out (by omega); (first | cases eo10 | (injection eo10 with ea_ en_ ec_; (first | subst ea_ | (injection ea_ with ea_; subst ea_)); subst ec_; clear en_)); have GB10 := Aside0.mk gb10; have GG10 := Aside0.mk HG10; clear gb10 gl10 HG10; obtain ⟨ce10, hcl10, hM10, hcc10, hfr10⟩ := Kd.R_elem HO_3.out z54 (x4_1 : Int) p10 q10; obtain rfl := k54_openM hM10; have hx10_0 : w11.cell? ⟨go10, (x4_1 : Int).toNat * 2, none⟩ = some (.int .i64 ((rd_T54 x3_1 x4_1).f0)) := hcc10 0 _ rfl; have hx10_1 : w11.cell? ⟨go10, (x4_1 : Int).toNat * 2 + 1, none⟩ = some (.int .i64 ((rd_T54 x3_1 x4_1).f1)) := hcc10 1 _ rfl; have hf10_0 : w11.frozen? ⟨go10, (x4_1 : Int).toNat * 2, none⟩ = false := hfr10 0; have hf10_1 : w11.frozen? ⟨go10, (x4_1 : Int).toNat * 2 + 1, none⟩ = false := hfr10 1; clear hcl10 hcc10 hfr10 hM10; replace p10 := eq_true p10; replace q10 := eq_true q10; have HX12 := Aside0.mk (show Kd.R k54 54 w11 w.heap.size (fun _ => True) (.slice (some ⟨go10, 0, none⟩) x3_1.length co10) x3_1 from (kr_ HO_3.out)); obtain ⟨ce12, hcl12, hM12, hcc12, hfr12⟩ := Kd.R_elem HX12.out z54 (x4_1 : Int) (dt_) (by have h_ : (x4_1 : Int) < ((x3_1.length : Int) : Int) := dt_; first | exact h_ | (have e_ := (Kd.R_reads' HO_3.out).1; omega) | simpa using h_); obtain rfl := k54_openM hM12; have HP12 := Kd.R_seg HX12.out (x4_1 : Int) (dt_) (by have h_ : (x4_1 : Int) < ((x3_1.length : Int) : Int) := dt_; first | exact h_ | (have e_ := (Kd.R_reads' HO_3.out).1; omega) | simpa using h_) (seg := [.int .i64 t142, .int .i64 t143]) (j := 0) hcl12 hcc12 (show 2 ≤ 2 from by decide) (x' := (⟨t142, t143⟩ : S54)) (k54_mkM _ _ _ (⟨t142, t143⟩ : S54) ) (fun _ hk => hk); have hx12_0 := hcc12 0 _ rfl; (try simp only [show (k54).sz = 2 from rfl, Nat.mul_one, Nat.add_zero] at hx12_0); have hf12_0 := hfr12 0; (try simp only [show (k54).sz = 2 from rfl, Nat.mul_one, Nat.add_zero] at hf12_0); have hx12_1 := hcc12 1 _ rfl; (try simp only [show (k54).sz = 2 from rfl, Nat.mul_one, Nat.add_zero] at hx12_1); have hf12_1 := hfr12 1; (try simp only [show (k54).sz = 2 from rfl, Nat.mul_one, Nat.add_zero] at hf12_1); clear hcl12 hcc12 hfr12 hM12) | ((with_reducible refine gate_store (t := 54) (p := 21) rfl ?_); refine store_event (t := 54) (p := 21) (v := ?vo_w13) (w1 := ((w11.setCell ⟨go10, (x4_1 : Int).toNat * 2, none⟩ (.int .i64 t142)).setCell ⟨go10, (x4_1 : Int).toNat * 2 + 1, none⟩ (.int .i64 t143))) ?hg ?ho ?hn ?hr ?_; (case ho => rfl); (case hg => rfl); (case hn => rfl); (case hr => first | (go_simp; done) | (go_simp; rfl)); intro w13 hw; have hg : w11.grownBy w13 (some go10) := (by rw [hw]; exact HP12.2); have hp_ : Kd.R k54 54 w13 w.heap.size (fun _ => True) (.slice (some ⟨go10, 0, none⟩) x3_1.length co10) y144 := (by rw [hw, Ny144.out]; exact HP12.1); clear HP12; replace HO_3 := Aside0.mk (hp_); replace HB := Aside0.mk ((by rw [hw]; exact below_set (below_set (HB.out) GB10.out) GB10.out : Below w.heap.size w w13)); clear hg hw hp_))
        go_roundg k1
        case measure => have := HK1.out; omega
        case rel => exact ⟨(y144), (wrap64 (x4_1 + 1)), (by first | rfl | (simp; done) | (simp [*]; done)), H', ⟨by have := HK1.out; omega⟩, ⟨by (with_reducible repeat (first | apply Kd.R_alloc | apply Kd.R_drewN | apply Kd.R_drew)); first | exact HO_3.out | (rw [Ny144.out]; exact (Kd.R_putg (Kd.R_drewN HO_3.out _) _ _).1) | (rw [Ny144.out]; exact (Kd.R_putg HO_3.out _ _).1)⟩, ⟨by repeat (first | (with_reducible first | exact HB.out | apply below_alloc | apply pw_below_drewN | apply below_drew1) | exact HB.out | (first | exact below_set (pw_below_drewN HB.out _) GB10.out | exact below_set HB.out GB10.out))⟩⟩
       ·
        rw [if_neg c9] at H
        exact absurd H (by simp)
      ·
       rw [if_neg c7] at H
       exact absurd H (by simp)
     ·
      rw [if_neg c6] at H
      have c6b0 : decide (x4_1 < (l0.length : Int)) = false := decide_eq_false c6
      clear c6
      obtain rfl := Option.some.inj H
      go_wp2
      go_ret
      exact ⟨_, rr_, kr_ HO_3.out, lb0_ HB.out⟩
  ·
   rw [if_neg c3] at H
   exact absurd H (by simp)
 ·
  rw [if_neg c2] at H
  exact absurd H (by simp)
def laws_toSump.f (a0_0 : Int) (a0_1 : Int) (a0_2 : Int) : Option (Int × Int × Int) := some (a0_0, a0_1, a0_2)
set_option maxHeartbeats 8000000 in
set_option maxRecDepth 100000 in
theorem laws_toSump.calls (a0_0 : Int) (a0_1 : Int) (a0_2 : Int) (r1 : Int) (r2 : Int) (r3 : Int) (w : World) (h : laws_toSump.f a0_0 a0_1 a0_2 = some (r1, r2, r3)) :
  Calls Try.prog 13 #[.agg #[.int .i64 a0_0, .int .i64 a0_1, .int .i64 a0_2]] w fun e w' => e = .returned (.agg #[.int .i64 r1, .int .i64 r2, .int .i64 r3]) ∧ Below w.heap.size w w' := by
 have hu24 := Try.underlying24
 have hu30 := Try.underlying30
 have HB := Aside0.mk (Below.refl w.heap.size w)
 have H : (some (a0_0, a0_1, a0_2)) = some (r1, r2, r3) := h
 clear h
 simp only [Option.some.injEq, Prod.mk.injEq] at H
 obtain ⟨rfl, rfl, rfl⟩ := H
 go_enter Try.func13, Try.ntmps13
 go_wp2_with (first | ((with_reducible refine gate_dst (N := 1) rfl ?_); refine box_event ?hg (N := 1) ?hd (cs := #[.int .i64 a0_0, .int .i64 a0_1, .int .i64 a0_2]) (t := 24) ?hr ?_; (case hd => rfl); (case hg => rfl); (case hr => first | (go_simp; done) | (go_simp; rfl)); intro gb145 hg w2 hbox hb; have BK145 := Aside0.mk (hbox); have GW145 := Aside0.mk ((bz_ hg (lb0_ HB.out))); have GE145 := Aside0.mk ((bz_ hg (lb0_ HB.out))); replace HB := Aside0.mk (below_step (lb0_ HB.out) hb); clear hb hbox hg) | ((with_reducible refine gate_dst (N := 2) rfl ?_); refine box_event ?hg (N := 2) ?hd (cs := #[.int .i64 0, .int .i64 0, .int .i64 0]) (t := 30) ?hr ?_; (case hd => rfl); (case hg => rfl); (case hr => first | (go_simp; done) | (go_simp; rfl)); intro gb146 hg w3 hbox hb; have BK146 := Aside0.mk (hbox); have GW146 := Aside0.mk ((bz_ hg (lb1_ HB.out GE145.out))); have GE146 := Aside0.mk ((bz_ hg (lb1_ HB.out GE145.out))); replace HB := Aside0.mk (below_step (lb1_ HB.out GE145.out) hb); have NB145_146 := Aside0.mk (nl_ hg BK145.out); have NB146_145 := Aside0.mk (ng_ hg BK145.out); replace BK145 := Aside0.mk (bb_ (bk_ BK145.out) hb); clear hb hbox hg) | ((with_reducible refine gate_dst (N := 3) rfl ?_); refine box_event ?hg (N := 3) ?hd (cs := #[.int .i64 0, .int .i64 0, .int .i64 0]) (t := 30) ?hr ?_; (case hd => rfl); (case hg => rfl); (case hr => first | (go_simp; done) | (go_simp; rfl)); intro gb147 hg w4 hbox hb; have BK147 := Aside0.mk (hbox); have GW147 := Aside0.mk ((bz_ hg (lb2_ HB.out GE145.out GE146.out))); have GE147 := Aside0.mk ((bz_ hg (lb2_ HB.out GE145.out GE146.out))); replace HB := Aside0.mk (below_step (lb2_ HB.out GE145.out GE146.out) hb); have NB145_147 := Aside0.mk (nl_ hg BK145.out); have NB147_145 := Aside0.mk (ng_ hg BK145.out); replace BK145 := Aside0.mk (bb_ (bk_ BK145.out) hb); have NB146_147 := Aside0.mk (nl_ hg BK146.out); have NB147_146 := Aside0.mk (ng_ hg BK146.out); replace BK146 := Aside0.mk (bb_ (bk_ BK146.out) hb); clear hb hbox hg; have hnb5 := NB145_146.out; have hnc5 := NB146_145.out; have hnb6 := NB145_147.out; have hnc6 := NB147_145.out; obtain ⟨hcz7_0, hcz7_1, hcz7_2⟩ := cz3_ BK145.out; obtain ⟨hfz7_0, hfz7_1, hfz7_2⟩ := fz3_ BK145.out; have hnb8 := NB147_146.out; have hnc8 := NB146_147.out; obtain ⟨hcz9_0, hcz9_1, hcz9_2⟩ := cz3_ BK147.out; obtain ⟨hfz9_0, hfz9_1, hfz9_2⟩ := fz3_ BK147.out; obtain ⟨hcz10_0, hcz10_1, hcz10_2⟩ := cz3_ BK146.out; obtain ⟨hfz10_0, hfz10_1, hfz10_2⟩ := fz3_ BK146.out))
 refine bodyPost_ret (results_cell_row rfl _ _ gb146 30 #[.int .i64 a0_0, .int .i64 a0_1, .int .i64 a0_2] (0, 0) _ rfl (by (with_reducible repeat (first | refine blk_drewN ?_ _ | refine blk_drew ?_ | refine blk_alloc ?_ _)); refine blk_put (cs := #[.int .i64 a0_0, .int .i64 a0_1, .int .i64 0]) ?_ 2 _ rfl; (with_reducible repeat (first | refine blk_drewN ?_ _ | refine blk_drew ?_ | refine blk_alloc ?_ _)); refine blk_put (cs := #[.int .i64 a0_0, .int .i64 0, .int .i64 0]) ?_ 1 _ rfl; (with_reducible repeat (first | refine blk_drewN ?_ _ | refine blk_drew ?_ | refine blk_alloc ?_ _)); refine blk_put (cs := #[.int .i64 0, .int .i64 0, .int .i64 0]) ?_ 0 _ rfl; (with_reducible repeat (first | refine blk_drewN ?_ _ | refine blk_drew ?_ | refine blk_alloc ?_ _)); refine blk_far ?_ NB146_147.out _; (with_reducible repeat (first | refine blk_drewN ?_ _ | refine blk_drew ?_ | refine blk_alloc ?_ _)); refine blk_far ?_ NB146_147.out _; (with_reducible repeat (first | refine blk_drewN ?_ _ | refine blk_drew ?_ | refine blk_alloc ?_ _)); refine blk_far ?_ NB146_147.out _; (with_reducible repeat (first | refine blk_drewN ?_ _ | refine blk_drew ?_ | refine blk_alloc ?_ _)); exact BK146.out) Try.underlying30 rfl (by kernel_rfl)) rfl ?_
 exact ⟨rr_, lb3_ HB.out GE145.out GE146.out GE147.out⟩
def laws_eqReading.f (a0_0 : Int) (a0_1 : Int) (a1_0 : Int) (a1_1 : Int) : Option (Bool) := if a0_0 = a1_0 then (if a0_1 = a1_1 then (some true) else (some false)) else (some false)
set_option maxHeartbeats 8000000 in
set_option maxRecDepth 100000 in
theorem laws_eqReading.calls (a0_0 : Int) (a0_1 : Int) (a1_0 : Int) (a1_1 : Int) (r : Bool) (w : World) (h : laws_eqReading.f a0_0 a0_1 a1_0 a1_1 = some r) :
  Calls Try.prog 61 #[.agg #[.int .i64 a0_0, .int .i64 a0_1], .agg #[.int .i64 a1_0, .int .i64 a1_1]] w fun e w' => e = .returned (.bool r) ∧ Below w.heap.size w w' := by
 have hu54 := Try.underlying54
 have HB := Aside0.mk (Below.refl w.heap.size w)
 have H : (if a0_0 = a1_0 then (if a0_1 = a1_1 then (some true) else (some false)) else (some false)) = some r := h
 clear h
 by_cases c3 : a0_0 = a1_0
 ·
  rw [if_pos c3] at H
  have c3b0 : (a0_0 == a1_0) = true := beq_iff_eq.mpr c3
  have c3b1 : (a0_0 != a1_0) = false := bne_eq_false_iff_eq.mpr c3
  clear c3
  by_cases c4 : a0_1 = a1_1
  ·
   rw [if_pos c4] at H
   have c4b0 : (a0_1 == a1_1) = true := beq_iff_eq.mpr c4
   have c4b1 : (a0_1 != a1_1) = false := bne_eq_false_iff_eq.mpr c4
   clear c4
   obtain rfl := Option.some.inj H
   go_enter Try.func61, Try.ntmps61
   go_wp2_with (first | ((with_reducible refine gate_dst (N := 2) rfl ?_); refine box_event ?hg (N := 2) ?hd (cs := #[.int .i64 a0_0, .int .i64 a0_1]) (t := 54) ?hr ?_; (case hd => rfl); (case hg => rfl); (case hr => first | (go_simp; done) | (go_simp; rfl)); intro gb185 hg w5 hbox hb; have BK185 := Aside0.mk (hbox); have GW185 := Aside0.mk ((bz_ hg (lb0_ HB.out))); have GE185 := Aside0.mk ((bz_ hg (lb0_ HB.out))); replace HB := Aside0.mk (below_step (lb0_ HB.out) hb); clear hb hbox hg) | ((with_reducible refine gate_dst (N := 3) rfl ?_); refine box_event ?hg (N := 3) ?hd (cs := #[.int .i64 a1_0, .int .i64 a1_1]) (t := 54) ?hr ?_; (case hd => rfl); (case hg => rfl); (case hr => first | (go_simp; done) | (go_simp; rfl)); intro gb186 hg w6 hbox hb; have BK186 := Aside0.mk (hbox); have GW186 := Aside0.mk ((bz_ hg (lb1_ HB.out GE185.out))); have GE186 := Aside0.mk ((bz_ hg (lb1_ HB.out GE185.out))); replace HB := Aside0.mk (below_step (lb1_ HB.out GE185.out) hb); have NB185_186 := Aside0.mk (nl_ hg BK185.out); have NB186_185 := Aside0.mk (ng_ hg BK185.out); replace BK185 := Aside0.mk (bb_ (bk_ BK185.out) hb); clear hb hbox hg; have hnb7 := NB185_186.out; have hnc7 := NB186_185.out; obtain ⟨hcz8_0, hcz8_1⟩ := cz2_ BK185.out; obtain ⟨hfz8_0, hfz8_1⟩ := fz2_ BK185.out; obtain ⟨hcz9_0, hcz9_1⟩ := cz2_ BK186.out; obtain ⟨hfz9_0, hfz9_1⟩ := fz2_ BK186.out))
   go_ret
   exact ⟨rr_, lb2_ HB.out GE185.out GE186.out⟩
  ·
   rw [if_neg c4] at H
   have c4b0 : (a0_1 == a1_1) = false := beq_eq_false_iff_ne.mpr c4
   have c4b1 : (a0_1 != a1_1) = true := bne_iff_ne.mpr c4
   obtain rfl := Option.some.inj H
   go_enter Try.func61, Try.ntmps61
   go_wp2_with (first | ((with_reducible refine gate_dst (N := 2) rfl ?_); refine box_event ?hg (N := 2) ?hd (cs := #[.int .i64 a0_0, .int .i64 a0_1]) (t := 54) ?hr ?_; (case hd => rfl); (case hg => rfl); (case hr => first | (go_simp; done) | (go_simp; rfl)); intro gb185 hg w10 hbox hb; have BK185 := Aside0.mk (hbox); have GW185 := Aside0.mk ((bz_ hg (lb0_ HB.out))); have GE185 := Aside0.mk ((bz_ hg (lb0_ HB.out))); replace HB := Aside0.mk (below_step (lb0_ HB.out) hb); clear hb hbox hg) | ((with_reducible refine gate_dst (N := 3) rfl ?_); refine box_event ?hg (N := 3) ?hd (cs := #[.int .i64 a1_0, .int .i64 a1_1]) (t := 54) ?hr ?_; (case hd => rfl); (case hg => rfl); (case hr => first | (go_simp; done) | (go_simp; rfl)); intro gb186 hg w11 hbox hb; have BK186 := Aside0.mk (hbox); have GW186 := Aside0.mk ((bz_ hg (lb1_ HB.out GE185.out))); have GE186 := Aside0.mk ((bz_ hg (lb1_ HB.out GE185.out))); replace HB := Aside0.mk (below_step (lb1_ HB.out GE185.out) hb); have NB185_186 := Aside0.mk (nl_ hg BK185.out); have NB186_185 := Aside0.mk (ng_ hg BK185.out); replace BK185 := Aside0.mk (bb_ (bk_ BK185.out) hb); clear hb hbox hg; have hnb12 := NB185_186.out; have hnc12 := NB186_185.out; obtain ⟨hcz13_0, hcz13_1⟩ := cz2_ BK185.out; obtain ⟨hfz13_0, hfz13_1⟩ := fz2_ BK185.out; obtain ⟨hcz14_0, hcz14_1⟩ := cz2_ BK186.out; obtain ⟨hfz14_0, hfz14_1⟩ := fz2_ BK186.out))
   go_ret
   exact ⟨rr_, lb2_ HB.out GE185.out GE186.out⟩
 ·
  rw [if_neg c3] at H
  have c3b0 : (a0_0 == a1_0) = false := beq_eq_false_iff_ne.mpr c3
  have c3b1 : (a0_0 != a1_0) = true := bne_iff_ne.mpr c3
  obtain rfl := Option.some.inj H
  go_enter Try.func61, Try.ntmps61
  go_wp2_with (first | ((with_reducible refine gate_dst (N := 2) rfl ?_); refine box_event ?hg (N := 2) ?hd (cs := #[.int .i64 a0_0, .int .i64 a0_1]) (t := 54) ?hr ?_; (case hd => rfl); (case hg => rfl); (case hr => first | (go_simp; done) | (go_simp; rfl)); intro gb185 hg w15 hbox hb; have BK185 := Aside0.mk (hbox); have GW185 := Aside0.mk ((bz_ hg (lb0_ HB.out))); have GE185 := Aside0.mk ((bz_ hg (lb0_ HB.out))); replace HB := Aside0.mk (below_step (lb0_ HB.out) hb); clear hb hbox hg) | ((with_reducible refine gate_dst (N := 3) rfl ?_); refine box_event ?hg (N := 3) ?hd (cs := #[.int .i64 a1_0, .int .i64 a1_1]) (t := 54) ?hr ?_; (case hd => rfl); (case hg => rfl); (case hr => first | (go_simp; done) | (go_simp; rfl)); intro gb186 hg w16 hbox hb; have BK186 := Aside0.mk (hbox); have GW186 := Aside0.mk ((bz_ hg (lb1_ HB.out GE185.out))); have GE186 := Aside0.mk ((bz_ hg (lb1_ HB.out GE185.out))); replace HB := Aside0.mk (below_step (lb1_ HB.out GE185.out) hb); have NB185_186 := Aside0.mk (nl_ hg BK185.out); have NB186_185 := Aside0.mk (ng_ hg BK185.out); replace BK185 := Aside0.mk (bb_ (bk_ BK185.out) hb); clear hb hbox hg; have hnb17 := NB185_186.out; have hnc17 := NB186_185.out; obtain ⟨hcz18_0, hcz18_1⟩ := cz2_ BK185.out; obtain ⟨hfz18_0, hfz18_1⟩ := fz2_ BK185.out; obtain ⟨hcz19_0, hcz19_1⟩ := cz2_ BK186.out; obtain ⟨hfz19_0, hfz19_1⟩ := fz2_ BK186.out))
  go_ret
  exact ⟨rr_, lb2_ HB.out GE185.out GE186.out⟩
def laws_eqReadingS.l0 : Nat → List (S54) → List (S54) → Int → Option (Bool)
 | 0, _, _, _ => none
 | k + 1, x0, x1, x5 => if x5 < (x0.length : Int) then (if 0 ≤ x5 then (if x5 < (x1.length : Int) then ((laws_eqReading.f ((rd_T54 x0 x5).f0) ((rd_T54 x0 x5).f1) ((rd_T54 x1 x5).f0) ((rd_T54 x1 x5).f1)).bind fun t189 => (if t189 = true then (laws_eqReadingS.l0 k x0 x1 (wrap64 (x5 + 1))) else (some false))) else (none)) else (none)) else (some true)
def laws_eqReadingS.f (k : Nat) (l0 : List (S54)) (l1 : List (S54)) : Option (Bool) := if (l0.length : Int) = (l1.length : Int) then (laws_eqReadingS.l0 k l0 l1 0) else (some false)
def laws_eqReadingS.T6 : Bool × List (List Nat × List Nat) := (true, [([], []), ([], []), ([0, 1], [0, 1]), ([2], [2]), ([], []), ([], []), ([4, 5], [4, 5]), ([6], [6]), ([3, 7], [3, 7]), ([8], [8])])
def laws_eqReadingS.B6 : List Nat := [0, 0, 3, 7, 0, 0, 48, 112, 255, 511]
theorem laws_eqReadingS.tab6 : rtab .any (opsOf Try.f15 6) = laws_eqReadingS.T6 := by kernel_rfl
theorem laws_eqReadingS.bits6 : waitsOk laws_eqReadingS.T6.2 laws_eqReadingS.B6 = true := by kernel_rfl
abbrev laws_eqReadingS.mk0 : Array Bool := #[fF,fF,fF,fF,fF,fF,fF,fF,fF,fF]
abbrev laws_eqReadingS.mk1 : Array Bool := #[tT,fF,fF,fF,fF,fF,fF,fF,fF,fF]
abbrev laws_eqReadingS.mk2 : Array Bool := #[tT,tT,fF,fF,fF,fF,fF,fF,fF,fF]
abbrev laws_eqReadingS.mk3 : Array Bool := #[tT,tT,tT,fF,fF,fF,fF,fF,fF,fF]
abbrev laws_eqReadingS.mk4 : Array Bool := #[tT,tT,tT,fF,tT,fF,fF,fF,fF,fF]
abbrev laws_eqReadingS.mk5 : Array Bool := #[tT,tT,tT,fF,tT,tT,fF,fF,fF,fF]
abbrev laws_eqReadingS.mk6 : Array Bool := #[tT,tT,tT,fF,tT,tT,tT,fF,fF,fF]
abbrev laws_eqReadingS.mk7 : Array Bool := #[tT,tT,tT,tT,tT,tT,tT,fF,fF,fF]
abbrev laws_eqReadingS.mk8 : Array Bool := #[tT,tT,tT,tT,tT,tT,tT,tT,fF,fF]
abbrev laws_eqReadingS.mk9 : Array Bool := #[tT,tT,tT,tT,tT,tT,tT,tT,tT,fF]
abbrev laws_eqReadingS.mk10 : Array Bool := #[tT,tT,tT,tT,tT,tT,tT,tT,tT,tT]
set_option maxHeartbeats 8000000 in
set_option maxRecDepth 100000 in
theorem laws_eqReadingS.calls (k : Nat) (A0 : Option Addr) (c0 : Nat) (l0 : List (S54)) (A1 : Option Addr) (c1 : Nat) (l1 : List (S54)) (r : Bool) (w : World) (hr0 : Kd.C k54 w A0 l0.length l0) (hc0 : l0.length ≤ c0) (hr1 : Kd.C k54 w A1 l1.length l1) (hc1 : l1.length ≤ c1) (h : laws_eqReadingS.f k l0 l1 = some r) :
  Calls Try.prog 15 #[.slice A0 l0.length c0, .slice A1 l1.length c1] w fun e w' => e = .returned (.bool r) ∧ Below w.heap.size w w' := by
 have hu54 := Try.underlying54
 have HR0 := Aside0.mk hr0
 have HC0 := Aside0.mk hc0
 clear hr0 hc0
 have HR1 := Aside0.mk hr1
 have HC1 := Aside0.mk hc1
 clear hr1 hc1
 have HB := Aside0.mk (Below.refl w.heap.size w)
 have H : (if (l0.length : Int) = (l1.length : Int) then (laws_eqReadingS.l0 k l0 l1 0) else (some false)) = some r := h
 clear h
 by_cases c3 : (l0.length : Int) = (l1.length : Int)
 ·
  rw [if_pos c3] at H
  have c3b0 : ((l0.length : Int) == (l1.length : Int)) = true := beq_iff_eq.mpr c3
  have c3b1 : ((l0.length : Int) != (l1.length : Int)) = false := bne_eq_false_iff_eq.mpr c3
  have c3b2 : (l0.length == l1.length) = true := by first | simpa using c3 | (simp at c3 ⊢; omega)
  clear c3
  have H' := Aside0.mk H
  clear H
  go_enter Try.func15, Try.ntmps15
  go_wp2
  go_loopg [5] k (fun kq v5 w' => ∃ (x5_1 : Int), v5 = .int .i64 x5_1 ∧ Aside0 (laws_eqReadingS.l0 kq l0 l1 x5_1 = some r) ∧ Aside0 (kq ≤ k) ∧ Aside0 (Below w.heap.size w w'))
  case atStart => exact ⟨(0), (by first | rfl | (simp; done) | (simp [*]; done)), H', ⟨Nat.le_refl _⟩, ⟨lb0_ HB.out⟩⟩
  case round =>
   clear H'
   try clear c1
   try clear p2
   try clear c3
   try clear c3b0
   try clear c3b1
   try clear c3b2
   obtain ⟨x5_1, rfl, HA, HK1, HB⟩ := hrel
   cases gk with
   | zero => exact absurd HA.out (by simp [laws_eqReadingS.l0])
   | succ k1 =>
    have H := HA.out
    clear HA
    simp only [laws_eqReadingS.l0] at H
    by_cases c4 : x5_1 < (l0.length : Int)
    ·
     rw [if_pos c4] at H
     have c4b0 : decide (x5_1 < (l0.length : Int)) = true := decide_eq_true c4
     clear c4
     by_cases c5 : 0 ≤ x5_1
     ·
      rw [if_pos c5] at H
      have c5b0 : decide (0 ≤ x5_1) = true := decide_eq_true c5
      clear c5
      by_cases c6 : x5_1 < (l1.length : Int)
      ·
       rw [if_pos c6] at H
       have c6b0 : decide (x5_1 < (l1.length : Int)) = true := decide_eq_true c6
       clear c6
       replace H := Option.bind_eq_some_iff.mp H
       obtain ⟨t189, A70, H⟩ := H
       replace H : (if t189 = true then (laws_eqReadingS.l0 k1 l0 l1 (wrap64 (x5_1 + 1))) else (some false)) = some r := H
       have A7 := Aside0.mk A70
       clear A70
       by_cases c8 : t189 = true
       ·
        subst c8
        have H1 : (laws_eqReadingS.l0 k1 l0 l1 (wrap64 (x5_1 + 1))) = some r := by rw [if_pos rfl] at H; exact H
        clear H; have H := H1; clear H1; have H' := Aside0.mk H; clear H
        try go_wp2
        replace HB := Aside0.mk (below_drew1 HB.out); have p187 : 0 ≤ (x5_1 : Int) := dt_; have q187 : x5_1 < (l0.length : Int) := dt_; obtain ⟨ad187, e187, hx187_0, hx187_1⟩ := at_T54 HR0.out x5_1 p187 q187; have hw187_1 := hx187_1; have hw187_0 := hx187_0
        cases e187
        replace hx187_0 := bc_ HB.out hx187_0; replace hx187_1 := bc_ HB.out hx187_1; replace p187 := eq_true p187; replace q187 := eq_true q187; have p188 : 0 ≤ (x5_1 : Int) := dt_; have q188 : x5_1 < (l1.length : Int) := dt_; obtain ⟨ad188, e188, hx188_0, hx188_1⟩ := at_T54 HR1.out x5_1 p188 q188; have hw188_1 := hx188_1; have hw188_0 := hx188_0
        cases e188
        replace hx188_0 := bc_ HB.out hx188_0; replace hx188_1 := bc_ HB.out hx188_1; replace p188 := eq_true p188; replace q188 := eq_true q188; refine start_ (n := 10) (S := fun w' => w'.cell? (ad187.add ((x5_1).toNat * 2)) = some (.int .i64 ((rd_T54 l0 x5_1).f0)) ∧ w'.cell? ⟨(ad187.add ((x5_1).toNat * 2)).block, (ad187.add ((x5_1).toNat * 2)).off + 1, none⟩ = some (.int .i64 ((rd_T54 l0 x5_1).f1)) ∧ w'.cell? (ad188.add ((x5_1).toNat * 2)) = some (.int .i64 ((rd_T54 l1 x5_1).f0)) ∧ w'.cell? ⟨(ad188.add ((x5_1).toNat * 2)).block, (ad188.add ((x5_1).toNat * 2)).off + 1, none⟩ = some (.int .i64 ((rd_T54 l1 x5_1).f1))) (ds := []) laws_eqReadingS.mk0 (by kernel_rfl) rfl rfl ⟨(bc_ HB.out hw187_0), (bc_ HB.out hw187_1), (bc_ HB.out hw188_0), (bc_ HB.out hw188_1)⟩ (fun hHeld => ?_); refine with_tabW laws_eqReadingS.tab6 laws_eqReadingS.bits6 (fun HT_ HW_ => ?_); generalize wr.drew = w9 at HB hx187_0 hx187_1 hx188_0 hx188_1 hHeld ⊢; refine pz_ HT_ 0 (some 17) laws_eqReadingS.mk1 ?_; refine pz_ HT_ 1 (some 18) laws_eqReadingS.mk2 ?_; refine pz_ HT_ 2 (some 19) laws_eqReadingS.mk3 ?_; refine pz_ HT_ 4 (some 21) laws_eqReadingS.mk4 ?_; refine pz_ HT_ 5 (some 22) laws_eqReadingS.mk5 ?_; refine pz_ HT_ 6 (some 23) laws_eqReadingS.mk6 ?_; refine tk_ HT_ HW_ hHeld 3 (some 20) laws_eqReadingS.mk7 ?_; refine tk_ HT_ HW_ hHeld 7 (some 24) laws_eqReadingS.mk8 ?_; refine one_ (i := 8) (N := some 25) laws_eqReadingS.mk9 rfl rfl (one_of HT_.out (by kernel_rfl)) (by decide) (fun K hK => ?_); refine gs_ Try.func61 #[.agg #[.int .i64 ((rd_T54 l0 x5_1).f0), .int .i64 ((rd_T54 l0 x5_1).f1)], .agg #[.int .i64 ((rd_T54 l1 x5_1).f0), .int .i64 ((rd_T54 l1 x5_1).f1)]] ?_; (with_reducible refine (laws_eqReading.calls ((rd_T54 l0 x5_1).f0) ((rd_T54 l0 x5_1).f1) ((rd_T54 l1 x5_1).f0) ((rd_T54 l1 x5_1).f1) true _ A7.out).mono ?_); rintro e w10 ⟨rfl, hb⟩; refine ⟨_, rfl, ?_⟩; replace HB := Aside0.mk (below_step (lb0_ HB.out) hb); (try clear hb); (try clear hb2); (try clear hk); (try clear hi); refine hK.out _ _ ⟨((HB.out.cell (World.block_lt_of_cell? w _ hw187_0)).trans hw187_0), ((HB.out.cell (World.block_lt_of_cell? w _ hw187_1)).trans hw187_1), ((HB.out.cell (World.block_lt_of_cell? w _ hw188_0)).trans hw188_0), ((HB.out.cell (World.block_lt_of_cell? w _ hw188_1)).trans hw188_1)⟩ (fun hHeld => ?_); clear hK K; refine na_ ?_; refine pz_ HT_ 9 (some 26) laws_eqReadingS.mk10 ?_; refine done_ (done_of HT_.out (by kernel_rfl)) ?_
        try go_wp2
        go_roundg k1
        case measure => have := HK1.out; omega
        case rel => exact ⟨(wrap64 (x5_1 + 1)), (by first | rfl | (simp; done) | (simp [*]; done)), H', ⟨by have := HK1.out; omega⟩, ⟨lb0_ HB.out⟩⟩
       ·
        replace c8 := Bool.eq_false_iff.mpr c8; subst c8
        have H1 : (some false) = some r := by rw [if_neg (show ¬ (false = true) by decide)] at H; exact H
        clear H; have H := H1; clear H1; obtain rfl := Option.some.inj H
        try go_wp2
        replace HB := Aside0.mk (below_drew1 HB.out); have p187 : 0 ≤ (x5_1 : Int) := dt_; have q187 : x5_1 < (l0.length : Int) := dt_; obtain ⟨ad187, e187, hx187_0, hx187_1⟩ := at_T54 HR0.out x5_1 p187 q187; have hw187_1 := hx187_1; have hw187_0 := hx187_0
        cases e187
        replace hx187_0 := bc_ HB.out hx187_0; replace hx187_1 := bc_ HB.out hx187_1; replace p187 := eq_true p187; replace q187 := eq_true q187; have p188 : 0 ≤ (x5_1 : Int) := dt_; have q188 : x5_1 < (l1.length : Int) := dt_; obtain ⟨ad188, e188, hx188_0, hx188_1⟩ := at_T54 HR1.out x5_1 p188 q188; have hw188_1 := hx188_1; have hw188_0 := hx188_0
        cases e188
        replace hx188_0 := bc_ HB.out hx188_0; replace hx188_1 := bc_ HB.out hx188_1; replace p188 := eq_true p188; replace q188 := eq_true q188; refine start_ (n := 10) (S := fun w' => w'.cell? (ad187.add ((x5_1).toNat * 2)) = some (.int .i64 ((rd_T54 l0 x5_1).f0)) ∧ w'.cell? ⟨(ad187.add ((x5_1).toNat * 2)).block, (ad187.add ((x5_1).toNat * 2)).off + 1, none⟩ = some (.int .i64 ((rd_T54 l0 x5_1).f1)) ∧ w'.cell? (ad188.add ((x5_1).toNat * 2)) = some (.int .i64 ((rd_T54 l1 x5_1).f0)) ∧ w'.cell? ⟨(ad188.add ((x5_1).toNat * 2)).block, (ad188.add ((x5_1).toNat * 2)).off + 1, none⟩ = some (.int .i64 ((rd_T54 l1 x5_1).f1))) (ds := []) laws_eqReadingS.mk0 (by kernel_rfl) rfl rfl ⟨(bc_ HB.out hw187_0), (bc_ HB.out hw187_1), (bc_ HB.out hw188_0), (bc_ HB.out hw188_1)⟩ (fun hHeld => ?_); refine with_tabW laws_eqReadingS.tab6 laws_eqReadingS.bits6 (fun HT_ HW_ => ?_); generalize wr.drew = w11 at HB hx187_0 hx187_1 hx188_0 hx188_1 hHeld ⊢; refine pz_ HT_ 0 (some 17) laws_eqReadingS.mk1 ?_; refine pz_ HT_ 1 (some 18) laws_eqReadingS.mk2 ?_; refine pz_ HT_ 2 (some 19) laws_eqReadingS.mk3 ?_; refine pz_ HT_ 4 (some 21) laws_eqReadingS.mk4 ?_; refine pz_ HT_ 5 (some 22) laws_eqReadingS.mk5 ?_; refine pz_ HT_ 6 (some 23) laws_eqReadingS.mk6 ?_; refine tk_ HT_ HW_ hHeld 3 (some 20) laws_eqReadingS.mk7 ?_; refine tk_ HT_ HW_ hHeld 7 (some 24) laws_eqReadingS.mk8 ?_; refine one_ (i := 8) (N := some 25) laws_eqReadingS.mk9 rfl rfl (one_of HT_.out (by kernel_rfl)) (by decide) (fun K hK => ?_); refine gs_ Try.func61 #[.agg #[.int .i64 ((rd_T54 l0 x5_1).f0), .int .i64 ((rd_T54 l0 x5_1).f1)], .agg #[.int .i64 ((rd_T54 l1 x5_1).f0), .int .i64 ((rd_T54 l1 x5_1).f1)]] ?_; (with_reducible refine (laws_eqReading.calls ((rd_T54 l0 x5_1).f0) ((rd_T54 l0 x5_1).f1) ((rd_T54 l1 x5_1).f0) ((rd_T54 l1 x5_1).f1) false _ A7.out).mono ?_); rintro e w12 ⟨rfl, hb⟩; refine ⟨_, rfl, ?_⟩; replace HB := Aside0.mk (below_step (lb0_ HB.out) hb); (try clear hb); (try clear hb2); (try clear hk); (try clear hi); refine hK.out _ _ ⟨((HB.out.cell (World.block_lt_of_cell? w _ hw187_0)).trans hw187_0), ((HB.out.cell (World.block_lt_of_cell? w _ hw187_1)).trans hw187_1), ((HB.out.cell (World.block_lt_of_cell? w _ hw188_0)).trans hw188_0), ((HB.out.cell (World.block_lt_of_cell? w _ hw188_1)).trans hw188_1)⟩ (fun hHeld => ?_); clear hK K; refine na_ ?_; refine pz_ HT_ 9 (some 26) laws_eqReadingS.mk10 ?_; refine done_ (done_of HT_.out (by kernel_rfl)) ?_
        try go_wp2
        go_ret
        exact ⟨rr_, lb0_ HB.out⟩
      ·
       rw [if_neg c6] at H
       exact absurd H (by simp)
     ·
      rw [if_neg c5] at H
      exact absurd H (by simp)
    ·
     rw [if_neg c4] at H
     have c4b0 : decide (x5_1 < (l0.length : Int)) = false := decide_eq_false c4
     clear c4
     obtain rfl := Option.some.inj H
     go_wp2
     go_ret
     exact ⟨rr_, lb0_ HB.out⟩
 ·
  rw [if_neg c3] at H
  have c3b0 : ((l0.length : Int) == (l1.length : Int)) = false := beq_eq_false_iff_ne.mpr c3
  have c3b1 : ((l0.length : Int) != (l1.length : Int)) = true := bne_iff_ne.mpr c3
  have c3b2 : (l0.length == l1.length) = false := by first | simpa using c3 | (simp at c3 ⊢; omega)
  obtain rfl := Option.some.inj H
  go_enter Try.func15, Try.ntmps15
  go_wp2
  go_ret
  exact ⟨rr_, lb0_ HB.out⟩
def laws_markReadingS.l0 : Nat → List (S54) → Int → Int → Option (Int × (List (S54)))
 | 0, _, _, _ => none
 | k + 1, x0, x1, x5 => if x5 < (x0.length : Int) then (if 0 ≤ x5 then ((some (x0.set (x5 : Int).toNat (⟨x1, (rd_T54 x0 x5).f1⟩ : S54) : List (S54))).bind fun y246 => (laws_markReadingS.l0 k (y246.set (x5 : Int).toNat (⟨(rd_T54 y246 x5).f0, wrap64 (x1 + 1)⟩ : S54)) (wrap64 ((wrap64 (x1 + 1)) + 1)) (wrap64 (x5 + 1)))) else (none)) else (some (x1, x0))
def laws_markReadingS.f (k : Nat) (l0 : List (S54)) (a1 : Int) : Option (Int × (List (S54))) := laws_markReadingS.l0 k l0 a1 0
set_option maxHeartbeats 8000000 in
set_option maxRecDepth 100000 in
theorem laws_markReadingS.calls (k : Nat) (P0_ : Nat → Prop) (u9000_ : Value) (l0 : List (S54)) (a1 : Int) (r1 : Int) (r2 : List (S54)) (w0 w : World) (hB : Below w0.heap.size w0 w) (ho0 : Kd.R k54 54 w w0.heap.size P0_ u9000_ l0) (h : laws_markReadingS.f k l0 a1 = some (r1, r2)) :
  Calls Try.prog 22 #[u9000_, .int .i64 a1] w fun e w' => e = .returned (.int .i64 r1) ∧ Kd.R k54 54 w' w0.heap.size (fun k_ => (P0_ k_ ∨ w.heap.size ≤ k_)) u9000_ r2 ∧ Below w0.heap.size w0 w' ∧ Kept w w' (fun k_ => P0_ k_) := by
 have HO0 := Aside0.mk (show Kd.R k54 54 w w0.heap.size (fun k_ => (P0_ k_ ∨ w.heap.size ≤ k_)) u9000_ l0 from Kd.R_mono ho0 (fun k_ hk => (.inl hk)))
 have HK := Aside0.mk (Kept.refl w (fun k_ => P0_ k_))
 have HW0 := Aside0.mk hB.size
 have HB := Aside0.mk hB
 clear hB
 have H : (laws_markReadingS.l0 k l0 a1 0) = some (r1, r2) := h
 clear h
 have H' := Aside0.mk H
 clear H
 go_enter Try.func22, Try.ntmps22
 go_wp2
 go_loopg [1, 5] k (fun kq v1 v5 w' => ∃ (x0_1 : List (S54)) (x1_1 : Int) (x5_1 : Int), v1 = .int .i64 x1_1 ∧ v5 = .int .i64 x5_1 ∧ Aside0 (laws_markReadingS.l0 kq x0_1 x1_1 x5_1 = some (r1, r2)) ∧ Aside0 (kq ≤ k) ∧ Aside0 (Kd.R k54 54 w' w0.heap.size (fun k_ => (P0_ k_ ∨ w.heap.size ≤ k_)) u9000_ x0_1) ∧ Aside0 (Kept w w' (fun k_ => P0_ k_)) ∧ Aside0 (Below w0.heap.size w0 w'))
 case atStart => exact ⟨(l0), (a1), (0), (by first | rfl | (simp; done) | (simp [*]; done)), (by first | rfl | (simp; done) | (simp [*]; done)), H', ⟨Nat.le_refl _⟩, ⟨kr_ HO0.out⟩, ⟨kt_ HK.out⟩, ⟨lb0_ HB.out⟩⟩
 case round =>
  clear H'
  try clear c2
  try clear p2
  obtain ⟨x0_1, x1_1, x5_1, rfl, rfl, HA, HK1, HO_0, HK, HB⟩ := hrel
  cases gk with
  | zero => exact absurd HA.out (by simp [laws_markReadingS.l0])
  | succ k1 =>
   have H := HA.out
   clear HA
   simp only [laws_markReadingS.l0] at H
   by_cases c3 : x5_1 < (x0_1.length : Int)
   ·
    rw [if_pos c3] at H
    have c3b0 : decide (x5_1 < (x0_1.length : Int)) = true := decide_eq_true c3
    clear c3
    by_cases c4 : 0 ≤ x5_1
    ·
     rw [if_pos c4] at H
     have c4b0 : decide (0 ≤ x5_1) = true := decide_eq_true c4
     clear c4
     obtain ⟨y246, hy246⟩ : ∃ y_ : List (S54), y_ = (x0_1.set (x5_1 : Int).toNat (⟨x1_1, (rd_T54 x0_1 x5_1).f1⟩ : S54)) := ⟨_, rfl⟩
     replace H : (laws_markReadingS.l0 k1 (y246.set (x5_1 : Int).toNat (⟨(rd_T54 y246 x5_1).f0, wrap64 (x1_1 + 1)⟩ : S54)) (wrap64 ((wrap64 (x1_1 + 1)) + 1)) (wrap64 (x5_1 + 1))) = some (r1, r2) := by first | (rw [hy246]; with_reducible exact H) | (have H2_ := (Option.bind_some _ _).symm.trans H; rw [hy246]; with_reducible exact H2_) | (have H2_ := (Option.bind_some _ _).symm.trans H; with_reducible exact H2_) | with_reducible exact H | (rw [hy246]; exact H) | exact H
     have Ny246 := Aside0.mk hy246
     clear hy246
     obtain ⟨y247, hy247⟩ : ∃ y_ : List (S54), y_ = (y246.set (x5_1 : Int).toNat (⟨(rd_T54 y246 x5_1).f0, wrap64 (x1_1 + 1)⟩ : S54)) := ⟨_, rfl⟩
     replace H : (laws_markReadingS.l0 k1 y247 (wrap64 ((wrap64 (x1_1 + 1)) + 1)) (wrap64 (x5_1 + 1))) = some (r1, r2) := by first | (rw [hy247]; with_reducible exact H) | (have H2_ := (Option.bind_some _ _).symm.trans H; rw [hy247]; with_reducible exact H2_) | (have H2_ := (Option.bind_some _ _).symm.trans H; with_reducible exact H2_) | with_reducible exact H | (rw [hy247]; exact H) | exact H
     have Ny247 := Aside0.mk hy247
     clear hy247
     have H' := Aside0.mk H
     clear H
     obtain ⟨Ao7, co7, eo7⟩ := Kd.R_slice HO_0.out
     subst eo7
     have p5 : 0 ≤ (x5_1 : Int) := dt_
     have q5 : (x5_1 : Int) < ((x0_1.length : Int) : Int) := dt_
     obtain ⟨go5, co5, eo5, gb5, gl5, cl5, HG5⟩ := Kd.R_form HO_0.out (by omega)
     (first | cases eo5 | (injection eo5 with ea_ en_ ec_; (first | subst ea_ | (injection ea_ with ea_; subst ea_)); subst ec_; clear en_))
     have GB5 := Aside0.mk gb5
     have GG5 := Aside0.mk HG5
     clear gb5 gl5 HG5
     have HMgo5 := Aside0.mk (show (P0_ go5 ∨ w.heap.size ≤ go5) from (HO_0.out.1 _ rfl))
     obtain ⟨ce5, hcl5, hM5, hcc5, hfr5⟩ := Kd.R_elem HO_0.out z54 (x5_1 : Int) p5 q5
     obtain rfl := k54_openM hM5
     have hx5_0 : wr.cell? ⟨go5, (x5_1 : Int).toNat * 2, none⟩ = some (.int .i64 ((rd_T54 x0_1 x5_1).f0)) := hcc5 0 _ rfl
     have hx5_1 : wr.cell? ⟨go5, (x5_1 : Int).toNat * 2 + 1, none⟩ = some (.int .i64 ((rd_T54 x0_1 x5_1).f1)) := hcc5 1 _ rfl
     have hf5_0 : wr.frozen? ⟨go5, (x5_1 : Int).toNat * 2, none⟩ = false := hfr5 0
     have hf5_1 : wr.frozen? ⟨go5, (x5_1 : Int).toNat * 2 + 1, none⟩ = false := hfr5 1
     clear hcl5 hcc5 hfr5 hM5
     replace p5 := eq_true p5
     replace q5 := eq_true q5
     have HX8 := Aside0.mk (show Kd.R k54 54 wr w0.heap.size (fun k_ => (P0_ k_ ∨ w.heap.size ≤ k_)) (.slice (some ⟨go5, 0, none⟩) x0_1.length co7) x0_1 from (kr_ HO_0.out))
     obtain ⟨ce8, hcl8, hM8, hcc8, hfr8⟩ := Kd.R_elem HX8.out z54 (x5_1 : Int) (dt_) (by have h_ : (x5_1 : Int) < ((x0_1.length : Int) : Int) := dt_; first | exact h_ | (have e_ := (Kd.R_reads' HO_0.out).1; omega) | simpa using h_)
     obtain rfl := k54_openM hM8
     have HP8 := Kd.R_seg HX8.out (x5_1 : Int) (dt_) (by have h_ : (x5_1 : Int) < ((x0_1.length : Int) : Int) := dt_; first | exact h_ | (have e_ := (Kd.R_reads' HO_0.out).1; omega) | simpa using h_) (seg := [.int .i64 x1_1]) (j := 0) hcl8 hcc8 (show 1 ≤ 2 from by decide) (x' := (⟨x1_1, (rd_T54 x0_1 x5_1).f1⟩ : S54)) (k54_mkM _ _ _ (⟨x1_1, (rd_T54 x0_1 x5_1).f1⟩ : S54) ) (fun _ hk => hk)
     have hx8_0 := hcc8 0 _ rfl
     (try simp only [show (k54).sz = 2 from rfl, Nat.mul_one, Nat.add_zero] at hx8_0)
     have hf8_0 := hfr8 0
     (try simp only [show (k54).sz = 2 from rfl, Nat.mul_one, Nat.add_zero] at hf8_0)
     clear hcl8 hcc8 hfr8 hM8
     go_wp2_with (first | ((with_reducible refine gate_store (t := 3) (p := 16) rfl ?_); refine store_event (t := 3) (p := 16) (v := ?vo_w9) (w1 := (wr.setCell ⟨go5, (x5_1 : Int).toNat * 2, none⟩ (.int .i64 x1_1))) ?hg ?ho ?hn ?hr ?_; (case ho => rfl); (case hg => rfl); (case hn => rfl); (case hr => first | (go_simp; done) | (go_simp; rfl)); intro w9 hw; have hg : wr.grownBy w9 (some go5) := (by rw [hw]; exact HP8.2); have hp_ : Kd.R k54 54 w9 w0.heap.size (fun k_ => (P0_ k_ ∨ w.heap.size ≤ k_)) (.slice (some ⟨go5, 0, none⟩) x0_1.length co7) y246 := (by rw [hw, Ny246.out]; exact HP8.1); clear HP8; replace HB := Aside0.mk ((by rw [hw]; exact below_set (HB.out) GB5.out : Below w0.heap.size w0 w9)); replace HK := Aside0.mk (Kept.of_grown (S := (fun k_ => P0_ k_)) hg (kt_ HK.out) (fun k_ e_ => (HO_0.out.1 k_ e_))); replace HO_0 := Aside0.mk (hp_); clear hg hw hp_; have p6 : 0 ≤ (x5_1 : Int) := dt_; have q6 : (x5_1 : Int) < ((x0_1.length : Int) : Int) := dt_; obtain ⟨ce6, hcl6, hM6, hcc6, hfr6⟩ := Kd.R_elem HO_0.out z54 (x5_1 : Int) p6 q6; obtain rfl := k54_openM hM6; have hx6_0 : w9.cell? ⟨go5, (x5_1 : Int).toNat * 2, none⟩ = some (.int .i64 ((rd_T54 y246 x5_1).f0)) := hcc6 0 _ rfl; have hx6_1 : w9.cell? ⟨go5, (x5_1 : Int).toNat * 2 + 1, none⟩ = some (.int .i64 ((rd_T54 y246 x5_1).f1)) := hcc6 1 _ rfl; have hf6_0 : w9.frozen? ⟨go5, (x5_1 : Int).toNat * 2, none⟩ = false := hfr6 0; have hf6_1 : w9.frozen? ⟨go5, (x5_1 : Int).toNat * 2 + 1, none⟩ = false := hfr6 1; clear hcl6 hcc6 hfr6 hM6; replace p6 := eq_true p6; replace q6 := eq_true q6; have HX10 := Aside0.mk (show Kd.R k54 54 w9 w0.heap.size (fun k_ => (P0_ k_ ∨ w.heap.size ≤ k_)) (.slice (some ⟨go5, 0, none⟩) x0_1.length co7) y246 from (kr_ HO_0.out)); obtain ⟨ce10, hcl10, hM10, hcc10, hfr10⟩ := Kd.R_elem HX10.out z54 (x5_1 : Int) (dt_) (by have h_ : (x5_1 : Int) < ((x0_1.length : Int) : Int) := dt_; first | exact h_ | (have e_ := (Kd.R_reads' HO_0.out).1; omega) | simpa using h_); obtain rfl := k54_openM hM10; have HP10 := Kd.R_seg HX10.out (x5_1 : Int) (dt_) (by have h_ : (x5_1 : Int) < ((x0_1.length : Int) : Int) := dt_; first | exact h_ | (have e_ := (Kd.R_reads' HO_0.out).1; omega) | simpa using h_) (seg := [.int .i64 (wrap64 (x1_1 + 1))]) (j := 1) hcl10 hcc10 (show 2 ≤ 2 from by decide) (x' := (⟨(rd_T54 y246 x5_1).f0, wrap64 (x1_1 + 1)⟩ : S54)) (k54_mkM _ _ _ (⟨(rd_T54 y246 x5_1).f0, wrap64 (x1_1 + 1)⟩ : S54) ) (fun _ hk => hk); have hx10_1 := hcc10 1 _ rfl; (try simp only [show (k54).sz = 2 from rfl, Nat.mul_one, Nat.add_zero] at hx10_1); have hf10_1 := hfr10 1; (try simp only [show (k54).sz = 2 from rfl, Nat.mul_one, Nat.add_zero] at hf10_1); clear hcl10 hcc10 hfr10 hM10) | ((with_reducible refine gate_store (t := 3) (p := 23) rfl ?_); refine store_event (t := 3) (p := 23) (v := ?vo_w11) (w1 := (w9.setCell ⟨go5, (x5_1 : Int).toNat * 2 + 1, none⟩ (.int .i64 (wrap64 (x1_1 + 1))))) ?hg ?ho ?hn ?hr ?_; (case ho => rfl); (case hg => rfl); (case hn => rfl); (case hr => first | (go_simp; done) | (go_simp; rfl)); intro w11 hw; have hg : w9.grownBy w11 (some go5) := (by rw [hw]; exact HP10.2); have hp_ : Kd.R k54 54 w11 w0.heap.size (fun k_ => (P0_ k_ ∨ w.heap.size ≤ k_)) (.slice (some ⟨go5, 0, none⟩) x0_1.length co7) y247 := (by rw [hw, Ny247.out]; exact HP10.1); clear HP10; replace HB := Aside0.mk ((by rw [hw]; exact below_set (HB.out) GB5.out : Below w0.heap.size w0 w11)); replace HK := Aside0.mk (Kept.of_grown (S := (fun k_ => P0_ k_)) hg (kt_ HK.out) (fun k_ e_ => (HO_0.out.1 k_ e_))); replace HO_0 := Aside0.mk (hp_); clear hg hw hp_))
     go_roundg k1
     case measure => have := HK1.out; omega
     case rel => exact ⟨(y247), (wrap64 ((wrap64 (x1_1 + 1)) + 1)), (wrap64 (x5_1 + 1)), (by first | rfl | (simp; done) | (simp [*]; done)), (by first | rfl | (simp; done) | (simp [*]; done)), H', ⟨by have := HK1.out; omega⟩, ⟨by (with_reducible repeat (first | apply Kd.R_alloc | apply Kd.R_drewN | apply Kd.R_drew)); first | exact HO_0.out | (rw [Ny247.out]; exact (Kd.R_putg (Kd.R_drewN HO_0.out _) _ _).1) | (rw [Ny247.out]; exact (Kd.R_putg HO_0.out _ _).1)⟩, ⟨kt_ HK.out⟩, ⟨by repeat (first | (with_reducible first | exact HB.out | apply below_alloc | apply pw_below_drewN | apply below_drew1) | exact HB.out | (first | exact below_set (pw_below_drewN HB.out _) GB5.out | exact below_set HB.out GB5.out))⟩⟩
    ·
     rw [if_neg c4] at H
     exact absurd H (by simp)
   ·
    rw [if_neg c3] at H
    have c3b0 : decide (x5_1 < (x0_1.length : Int)) = false := decide_eq_false c3
    clear c3
    simp only [Option.some.injEq, Prod.mk.injEq] at H
    obtain ⟨rfl, rfl⟩ := H
    obtain ⟨Ao12, co12, eo12⟩ := Kd.R_slice HO_0.out
    subst eo12
    go_wp2
    go_ret
    exact ⟨rr_, kr_ HO_0.out, lb0_ HB.out, kt_ HK.out⟩
def spec_l1In.f (a0 : Int) (a1 : Int) (a2 : Int) : Option (Bool) := if a0 ≥ a1 then (some (decide (a0 ≤ a2))) else (some false)
set_option maxHeartbeats 8000000 in
set_option maxRecDepth 100000 in
theorem spec_l1In.calls (a0 : Int) (a1 : Int) (a2 : Int) (r : Bool) (w : World) (h : spec_l1In.f a0 a1 a2 = some r) :
  Calls Try.prog 79 #[.int .i64 a0, .int .i64 a1, .int .i64 a2] w fun e w' => e = .returned (.bool r) ∧ Drawn0 w w' := by
 have H : (if a0 ≥ a1 then (some (decide (a0 ≤ a2))) else (some false)) = some r := h
 clear h
 by_cases c4 : a0 ≥ a1
 ·
  rw [if_pos c4] at H
  have c4b0 : decide (a1 ≤ a0) = true := decide_eq_true c4
  clear c4
  obtain rfl := Option.some.inj H
  go_enter Try.func79, Try.ntmps79
  go_wp2
  go_ret
  exact ⟨by first | rfl | (simp; done) | (simp [*]; done), by repeat (first | exact Drawn0.refl _ | apply Drawn0.step)⟩
 ·
  rw [if_neg c4] at H
  have c4b0 : decide (a1 ≤ a0) = false := decide_eq_false c4
  clear c4
  obtain rfl := Option.some.inj H
  go_enter Try.func79, Try.ntmps79
  go_wp2
  go_ret
  exact ⟨by first | rfl | (simp; done) | (simp [*]; done), by repeat (first | exact Drawn0.refl _ | apply Drawn0.step)⟩
def spec_l23Level.f (a0 : Int) : Option (Bool) := (spec_l1In.f a0 (-500) 500).bind fun t101 => (some t101)
set_option maxHeartbeats 8000000 in
set_option maxRecDepth 100000 in
theorem spec_l23Level.calls (a0 : Int) (r : Bool) (w : World) (h : spec_l23Level.f a0 = some r) :
  Calls Try.prog 89 #[.int .i64 a0] w fun e w' => e = .returned (.bool r) ∧ Drawn0 w w' := by
 have H : ((spec_l1In.f a0 (-500) 500).bind fun t101 => (some t101)) = some r := h
 clear h
 replace H := Option.bind_eq_some_iff.mp H
 obtain ⟨t101, A20, H⟩ := H
 replace H : (some t101) = some r := H
 have A2 := Aside0.mk A20
 clear A20
 obtain rfl := Option.some.inj H
 go_enter Try.func89, Try.ntmps89
 go_wp2_with (first | ((with_reducible refine gate_callee (f := 79) rfl ?_); refine ga_ (some 4) Try.func79 #[.int .i64 a0, .int .i64 (-500), .int .i64 500] ?_; (with_reducible refine (spec_l1In.calls a0 (-500) 500 t101 _ A2.out).mono ?_); rintro e w' ⟨rfl, ⟨nd, rfl⟩⟩; refine ⟨_, rfl, ?_⟩))
 go_ret
 exact ⟨by first | rfl | (simp; done) | (simp [*]; done), by repeat (first | exact Drawn0.refl _ | apply Drawn0.step)⟩
def spec_l23Good.l0 : Nat → List (S54) → Int → Option (Bool)
 | 0, _, _ => none
 | k + 1, x0, x3 => if x3 < (x0.length : Int) then (if 0 ≤ x3 then ((spec_l1In.f ((rd_T54 x0 x3).f0) 0 999).bind fun t103 => (if t103 = true then ((spec_l23Level.f ((rd_T54 x0 x3).f1)).bind fun t105 => (if t105 = true then (if x3 > 0 then (if 0 ≤ (wrap64 (x3 - 1)) then (if (wrap64 (x3 - 1)) < (x0.length : Int) then (if ((rd_T54 x0 (wrap64 (x3 - 1))).f0) ≥ ((rd_T54 x0 x3).f0) then (some false) else (spec_l23Good.l0 k x0 (wrap64 (x3 + 1)))) else (none)) else (none)) else (spec_l23Good.l0 k x0 (wrap64 (x3 + 1)))) else (some false))) else (some false))) else (none)) else (some (decide ((x0.length : Int) ≤ 15)))
def spec_l23Good.f (k : Nat) (l0 : List (S54)) : Option (Bool) := spec_l23Good.l0 k l0 0
def spec_l23Good.T4 : Bool × List (List Nat × List Nat) := (true, [([], []), ([], []), ([0, 1], [0, 1]), ([2], [2]), ([3], [3]), ([4], [4]), ([5], [5]), ([6, 5], [6]), ([7], [7]), ([7], [7]), ([8, 9, 7], [7, 8, 9]), ([10, 7], [7, 10]), ([11, 7], [7, 11]), ([12, 7, 7], [7, 12]), ([13, 7], [7, 13]), ([7, 14], [7, 14]), ([15, 13], [15]), ([16], [16]), ([17, 16], [16, 17]), ([18, 16, 16], [16, 18]), ([19], [19]), ([19], [19]), ([21, 19], [19, 21]), ([20, 22, 19], [19, 20, 22]), ([23, 19], [19, 23]), ([24, 19], [19, 24]), ([19], [19]), ([19], [19]), ([26, 27, 19], [19, 26, 27]), ([28, 19], [19, 28]), ([29, 19], [19, 29]), ([25, 30, 19], [19, 25, 30]), ([19, 31, 16], [16, 19, 31]), ([16, 32], [16, 32])])
def spec_l23Good.B4 : List Nat := [0, 0, 3, 7, 15, 31, 63, 127, 255, 255, 1023, 2047, 4095, 8191, 16383, 32767, 65535, 131071, 262143, 524287, 1048575, 1048575, 3145727, 8388607, 16777215, 33554431, 1048575, 1048575, 202375167, 470810623, 1007681535, 2147483647, 4294967295, 8589934591]
theorem spec_l23Good.tab4 : rtab .any (opsOf Try.f62 4) = spec_l23Good.T4 := by kernel_rfl
theorem spec_l23Good.bits4 : waitsOk spec_l23Good.T4.2 spec_l23Good.B4 = true := by kernel_rfl
abbrev spec_l23Good.mk0 : Array Bool := #[fF,fF,fF,fF,fF,fF,fF,fF,fF,fF,fF,fF,fF,fF,fF,fF,fF,fF,fF,fF,fF,fF,fF,fF,fF,fF,fF,fF,fF,fF,fF,fF,fF,fF]
abbrev spec_l23Good.mk1 : Array Bool := #[tT,fF,fF,fF,fF,fF,fF,fF,fF,fF,fF,fF,fF,fF,fF,fF,fF,fF,fF,fF,fF,fF,fF,fF,fF,fF,fF,fF,fF,fF,fF,fF,fF,fF]
abbrev spec_l23Good.mk2 : Array Bool := #[tT,tT,fF,fF,fF,fF,fF,fF,fF,fF,fF,fF,fF,fF,fF,fF,fF,fF,fF,fF,fF,fF,fF,fF,fF,fF,fF,fF,fF,fF,fF,fF,fF,fF]
abbrev spec_l23Good.mk3 : Array Bool := #[tT,tT,tT,fF,fF,fF,fF,fF,fF,fF,fF,fF,fF,fF,fF,fF,fF,fF,fF,fF,fF,fF,fF,fF,fF,fF,fF,fF,fF,fF,fF,fF,fF,fF]
abbrev spec_l23Good.mk4 : Array Bool := #[tT,tT,tT,tT,fF,fF,fF,fF,fF,fF,fF,fF,fF,fF,fF,fF,fF,fF,fF,fF,fF,fF,fF,fF,fF,fF,fF,fF,fF,fF,fF,fF,fF,fF]
abbrev spec_l23Good.mk5 : Array Bool := #[tT,tT,tT,tT,tT,fF,fF,fF,fF,fF,fF,fF,fF,fF,fF,fF,fF,fF,fF,fF,fF,fF,fF,fF,fF,fF,fF,fF,fF,fF,fF,fF,fF,fF]
abbrev spec_l23Good.mk6 : Array Bool := #[tT,tT,tT,tT,tT,tT,fF,fF,fF,fF,fF,fF,fF,fF,fF,fF,fF,fF,fF,fF,fF,fF,fF,fF,fF,fF,fF,fF,fF,fF,fF,fF,fF,fF]
abbrev spec_l23Good.mk7 : Array Bool := #[tT,tT,tT,tT,tT,tT,tT,fF,fF,fF,fF,fF,fF,fF,fF,fF,fF,fF,fF,fF,fF,fF,fF,fF,fF,fF,fF,fF,fF,fF,fF,fF,fF,fF]
abbrev spec_l23Good.mk8 : Array Bool := #[tT,tT,tT,tT,tT,tT,tT,tT,fF,fF,fF,fF,fF,fF,fF,fF,fF,fF,fF,fF,fF,fF,fF,fF,fF,fF,fF,fF,fF,fF,fF,fF,fF,fF]
abbrev spec_l23Good.mk9 : Array Bool := #[tT,tT,tT,tT,tT,tT,tT,tT,tT,fF,fF,fF,fF,fF,fF,fF,fF,fF,fF,fF,fF,fF,fF,fF,fF,fF,fF,fF,fF,fF,fF,fF,fF,fF]
abbrev spec_l23Good.mk10 : Array Bool := #[tT,tT,tT,tT,tT,tT,tT,tT,tT,tT,fF,fF,fF,fF,fF,fF,fF,fF,fF,fF,fF,fF,fF,fF,fF,fF,fF,fF,fF,fF,fF,fF,fF,fF]
abbrev spec_l23Good.mk11 : Array Bool := #[tT,tT,tT,tT,tT,tT,tT,tT,tT,tT,tT,fF,fF,fF,fF,fF,fF,fF,fF,fF,fF,fF,fF,fF,fF,fF,fF,fF,fF,fF,fF,fF,fF,fF]
abbrev spec_l23Good.mk12 : Array Bool := #[tT,tT,tT,tT,tT,tT,tT,tT,tT,tT,tT,tT,fF,fF,fF,fF,fF,fF,fF,fF,fF,fF,fF,fF,fF,fF,fF,fF,fF,fF,fF,fF,fF,fF]
abbrev spec_l23Good.mk13 : Array Bool := #[tT,tT,tT,tT,tT,tT,tT,tT,tT,tT,tT,tT,tT,fF,fF,fF,fF,fF,fF,fF,fF,fF,fF,fF,fF,fF,fF,fF,fF,fF,fF,fF,fF,fF]
abbrev spec_l23Good.mk14 : Array Bool := #[tT,tT,tT,tT,tT,tT,tT,tT,tT,tT,tT,tT,tT,tT,fF,fF,fF,fF,fF,fF,fF,fF,fF,fF,fF,fF,fF,fF,fF,fF,fF,fF,fF,fF]
abbrev spec_l23Good.mk15 : Array Bool := #[tT,tT,tT,tT,tT,tT,tT,tT,tT,tT,tT,tT,tT,tT,tT,fF,fF,fF,fF,fF,fF,fF,fF,fF,fF,fF,fF,fF,fF,fF,fF,fF,fF,fF]
abbrev spec_l23Good.mk16 : Array Bool := #[tT,tT,tT,tT,tT,tT,tT,tT,tT,tT,tT,tT,tT,tT,tT,tT,fF,fF,fF,fF,fF,fF,fF,fF,fF,fF,fF,fF,fF,fF,fF,fF,fF,fF]
abbrev spec_l23Good.mk17 : Array Bool := #[tT,tT,tT,tT,tT,tT,tT,tT,tT,tT,tT,tT,tT,tT,tT,tT,tT,fF,fF,fF,fF,fF,fF,fF,fF,fF,fF,fF,fF,fF,fF,fF,fF,fF]
abbrev spec_l23Good.mk18 : Array Bool := #[tT,tT,tT,tT,tT,tT,tT,tT,tT,tT,tT,tT,tT,tT,tT,tT,tT,tT,fF,fF,fF,fF,fF,fF,fF,fF,fF,fF,fF,fF,fF,fF,fF,fF]
abbrev spec_l23Good.mk19 : Array Bool := #[tT,tT,tT,tT,tT,tT,tT,tT,tT,tT,tT,tT,tT,tT,tT,tT,tT,tT,tT,fF,fF,fF,fF,fF,fF,fF,fF,fF,fF,fF,fF,fF,fF,fF]
abbrev spec_l23Good.mk20 : Array Bool := #[tT,tT,tT,tT,tT,tT,tT,tT,tT,tT,tT,tT,tT,tT,tT,tT,tT,tT,tT,tT,fF,fF,fF,fF,fF,fF,fF,fF,fF,fF,fF,fF,fF,fF]
abbrev spec_l23Good.mk21 : Array Bool := #[tT,tT,tT,tT,tT,tT,tT,tT,tT,tT,tT,tT,tT,tT,tT,tT,tT,tT,tT,tT,tT,fF,fF,fF,fF,fF,fF,fF,fF,fF,fF,fF,fF,fF]
abbrev spec_l23Good.mk22 : Array Bool := #[tT,tT,tT,tT,tT,tT,tT,tT,tT,tT,tT,tT,tT,tT,tT,tT,tT,tT,tT,tT,tT,tT,fF,fF,fF,fF,fF,fF,fF,fF,fF,fF,fF,fF]
abbrev spec_l23Good.mk23 : Array Bool := #[tT,tT,tT,tT,tT,tT,tT,tT,tT,tT,tT,tT,tT,tT,tT,tT,tT,tT,tT,tT,tT,tT,tT,fF,fF,fF,fF,fF,fF,fF,fF,fF,fF,fF]
abbrev spec_l23Good.mk24 : Array Bool := #[tT,tT,tT,tT,tT,tT,tT,tT,tT,tT,tT,tT,tT,tT,tT,tT,tT,tT,tT,tT,tT,tT,tT,tT,fF,fF,fF,fF,fF,fF,fF,fF,fF,fF]
abbrev spec_l23Good.mk25 : Array Bool := #[tT,tT,tT,tT,tT,tT,tT,tT,tT,tT,tT,tT,tT,tT,tT,tT,tT,tT,tT,tT,tT,tT,tT,tT,tT,fF,fF,fF,fF,fF,fF,fF,fF,fF]
abbrev spec_l23Good.mk26 : Array Bool := #[tT,tT,tT,tT,tT,tT,tT,tT,tT,tT,tT,tT,tT,tT,tT,tT,tT,tT,tT,tT,tT,tT,tT,tT,tT,fF,tT,fF,fF,fF,fF,fF,fF,fF]
abbrev spec_l23Good.mk27 : Array Bool := #[tT,tT,tT,tT,tT,tT,tT,tT,tT,tT,tT,tT,tT,tT,tT,tT,tT,tT,tT,tT,tT,tT,tT,tT,tT,fF,tT,tT,fF,fF,fF,fF,fF,fF]
abbrev spec_l23Good.mk28 : Array Bool := #[tT,tT,tT,tT,tT,tT,tT,tT,tT,tT,tT,tT,tT,tT,tT,tT,tT,tT,tT,tT,tT,tT,tT,tT,tT,fF,tT,tT,tT,fF,fF,fF,fF,fF]
abbrev spec_l23Good.mk29 : Array Bool := #[tT,tT,tT,tT,tT,tT,tT,tT,tT,tT,tT,tT,tT,tT,tT,tT,tT,tT,tT,tT,tT,tT,tT,tT,tT,fF,tT,tT,tT,tT,fF,fF,fF,fF]
abbrev spec_l23Good.mk30 : Array Bool := #[tT,tT,tT,tT,tT,tT,tT,tT,tT,tT,tT,tT,tT,tT,tT,tT,tT,tT,tT,tT,tT,tT,tT,tT,tT,tT,tT,tT,tT,tT,fF,fF,fF,fF]
abbrev spec_l23Good.mk31 : Array Bool := #[tT,tT,tT,tT,tT,tT,tT,tT,tT,tT,tT,tT,tT,tT,tT,tT,tT,tT,tT,tT,tT,tT,tT,tT,tT,tT,tT,tT,tT,tT,tT,fF,fF,fF]
abbrev spec_l23Good.mk32 : Array Bool := #[tT,tT,tT,tT,tT,tT,tT,tT,tT,tT,tT,tT,tT,tT,tT,tT,tT,tT,tT,tT,tT,tT,tT,tT,tT,tT,tT,tT,tT,tT,tT,tT,fF,fF]
abbrev spec_l23Good.mk33 : Array Bool := #[tT,tT,tT,tT,tT,tT,tT,tT,tT,tT,tT,tT,tT,tT,tT,tT,tT,tT,tT,tT,tT,tT,tT,tT,tT,tT,tT,tT,tT,tT,tT,tT,tT,fF]
abbrev spec_l23Good.mk34 : Array Bool := #[tT,tT,tT,tT,tT,tT,tT,tT,tT,tT,tT,tT,tT,tT,tT,tT,tT,tT,tT,tT,tT,tT,tT,tT,tT,tT,tT,tT,tT,tT,tT,tT,tT,tT]
abbrev spec_l23Good.mk35 : Array Bool := #[tT,tT,tT,tT,tT,tT,tT,tT,tT,tT,tT,tT,tT,tT,tT,tT,tT,tT,tT,tT,tT,tT,tT,tT,tT,tT,fF,fF,fF,fF,fF,fF,fF,fF]
abbrev spec_l23Good.mk36 : Array Bool := #[tT,tT,tT,tT,tT,tT,tT,tT,tT,tT,tT,tT,tT,tT,tT,tT,tT,tT,tT,tT,tT,tT,tT,tT,tT,tT,tT,fF,fF,fF,fF,fF,fF,fF]
abbrev spec_l23Good.mk37 : Array Bool := #[tT,tT,tT,tT,tT,tT,tT,tT,tT,tT,tT,tT,tT,tT,tT,tT,tT,tT,tT,tT,tT,tT,tT,tT,tT,tT,tT,tT,fF,fF,fF,fF,fF,fF]
abbrev spec_l23Good.mk38 : Array Bool := #[tT,tT,tT,tT,tT,tT,tT,tT,tT,tT,tT,tT,tT,tT,tT,tT,tT,tT,tT,tT,tT,tT,tT,tT,tT,tT,tT,tT,tT,fF,fF,fF,fF,fF]
set_option maxHeartbeats 8000000 in
set_option maxRecDepth 100000 in
theorem spec_l23Good.calls (k : Nat) (A0 : Option Addr) (c0 : Nat) (l0 : List (S54)) (r : Bool) (w : World) (hr0 : Kd.C k54 w A0 l0.length l0) (hc0 : l0.length ≤ c0) (h : spec_l23Good.f k l0 = some r) :
  Calls Try.prog 62 #[.slice A0 l0.length c0] w fun e w' => e = .returned (.bool r) ∧ Below w.heap.size w w' := by
 have HR0 := Aside0.mk hr0
 have HC0 := Aside0.mk hc0
 clear hr0 hc0
 have HB := Aside0.mk (Below.refl w.heap.size w)
 have H : (spec_l23Good.l0 k l0 0) = some r := h
 clear h
 have H' := Aside0.mk H
 clear H
 go_enter Try.func62, Try.ntmps62
 go_wp2
 go_loopg [3] k (fun kq v3 w' => ∃ (x3_1 : Int), v3 = .int .i64 x3_1 ∧ Aside0 (spec_l23Good.l0 kq l0 x3_1 = some r) ∧ Aside0 (kq ≤ k) ∧ Aside0 (Below w.heap.size w w'))
 case atStart => exact ⟨(0), (by first | rfl | (simp; done) | (simp [*]; done)), H', ⟨Nat.le_refl _⟩, ⟨lb0_ HB.out⟩⟩
 case round =>
  clear H'
  obtain ⟨x3_1, rfl, HA, HK1, HB⟩ := hrel
  cases gk with
  | zero => exact absurd HA.out (by simp [spec_l23Good.l0])
  | succ k1 =>
   have H := HA.out
   clear HA
   simp only [spec_l23Good.l0] at H
   by_cases c2 : x3_1 < (l0.length : Int)
   ·
    rw [if_pos c2] at H
    have c2b0 : decide (x3_1 < (l0.length : Int)) = true := decide_eq_true c2
    clear c2
    by_cases c3 : 0 ≤ x3_1
    ·
     rw [if_pos c3] at H
     have c3b0 : decide (0 ≤ x3_1) = true := decide_eq_true c3
     clear c3
     replace H := Option.bind_eq_some_iff.mp H
     obtain ⟨t103, A40, H⟩ := H
     replace H : (if t103 = true then ((spec_l23Level.f ((rd_T54 l0 x3_1).f1)).bind fun t105 => (if t105 = true then (if x3_1 > 0 then (if 0 ≤ (wrap64 (x3_1 - 1)) then (if (wrap64 (x3_1 - 1)) < (l0.length : Int) then (if ((rd_T54 l0 (wrap64 (x3_1 - 1))).f0) ≥ ((rd_T54 l0 x3_1).f0) then (some false) else (spec_l23Good.l0 k1 l0 (wrap64 (x3_1 + 1)))) else (none)) else (none)) else (spec_l23Good.l0 k1 l0 (wrap64 (x3_1 + 1)))) else (some false))) else (some false)) = some r := H
     have A4 := Aside0.mk A40
     clear A40
     by_cases c5 : t103 = true
     ·
      subst c5
      have H1 : ((spec_l23Level.f ((rd_T54 l0 x3_1).f1)).bind fun t105 => (if t105 = true then (if x3_1 > 0 then (if 0 ≤ (wrap64 (x3_1 - 1)) then (if (wrap64 (x3_1 - 1)) < (l0.length : Int) then (if ((rd_T54 l0 (wrap64 (x3_1 - 1))).f0) ≥ ((rd_T54 l0 x3_1).f0) then (some false) else (spec_l23Good.l0 k1 l0 (wrap64 (x3_1 + 1)))) else (none)) else (none)) else (spec_l23Good.l0 k1 l0 (wrap64 (x3_1 + 1)))) else (some false))) = some r := by rw [if_pos rfl] at H; exact H
      clear H
      have H := H1
      clear H1
      replace H := Option.bind_eq_some_iff.mp H
      obtain ⟨t105, A60, H⟩ := H
      replace H : (if t105 = true then (if x3_1 > 0 then (if 0 ≤ (wrap64 (x3_1 - 1)) then (if (wrap64 (x3_1 - 1)) < (l0.length : Int) then (if ((rd_T54 l0 (wrap64 (x3_1 - 1))).f0) ≥ ((rd_T54 l0 x3_1).f0) then (some false) else (spec_l23Good.l0 k1 l0 (wrap64 (x3_1 + 1)))) else (none)) else (none)) else (spec_l23Good.l0 k1 l0 (wrap64 (x3_1 + 1)))) else (some false)) = some r := H
      have A6 := Aside0.mk A60
      clear A60
      by_cases c7 : t105 = true
      ·
       subst c7
       have H1 : (if x3_1 > 0 then (if 0 ≤ (wrap64 (x3_1 - 1)) then (if (wrap64 (x3_1 - 1)) < (l0.length : Int) then (if ((rd_T54 l0 (wrap64 (x3_1 - 1))).f0) ≥ ((rd_T54 l0 x3_1).f0) then (some false) else (spec_l23Good.l0 k1 l0 (wrap64 (x3_1 + 1)))) else (none)) else (none)) else (spec_l23Good.l0 k1 l0 (wrap64 (x3_1 + 1)))) = some r := by rw [if_pos rfl] at H; exact H
       clear H
       have H := H1
       clear H1
       by_cases c8 : x3_1 > 0
       ·
        rw [if_pos c8] at H
        have c8b0 : decide (0 < x3_1) = true := decide_eq_true c8; clear c8
        obtain ⟨ji9, hji9⟩ : ∃ j_ : Int, (wrap64 (x3_1 - 1)) = j_ := ⟨_, rfl⟩
        replace H : (if 0 ≤ (ji9) then (if (ji9) < (l0.length : Int) then (if ((rd_T54 l0 (ji9)).f0) ≥ ((rd_T54 l0 x3_1).f0) then (some false) else (spec_l23Good.l0 k1 l0 (wrap64 (x3_1 + 1)))) else (none)) else (none)) = some r := by first | (rw [hji9] at H; exact H) | (simp only [hji9] at H ⊢; exact H)
        (try rw [hji9] at A4); (try rw [hji9] at A6); have hji9w : (IntKind.i64.wrap (x3_1 - 1)) = ji9 := (i64_w _).trans hji9
        by_cases c10 : 0 ≤ (ji9)
        ·
         rw [if_pos c10] at H
         have c10b0 : decide (0 ≤ (ji9)) = true := decide_eq_true c10; clear c10
         by_cases c11 : (ji9) < (l0.length : Int)
         ·
          rw [if_pos c11] at H
          have c11b0 : decide ((ji9) < (l0.length : Int)) = true := decide_eq_true c11; clear c11
          by_cases c12 : ((rd_T54 l0 (ji9)).f0) ≥ ((rd_T54 l0 x3_1).f0)
          ·
           rw [if_pos c12] at H
           have c12b0 : decide (((rd_T54 l0 x3_1).f0) ≤ ((rd_T54 l0 (ji9)).f0)) = true := decide_eq_true c12; clear c12; obtain rfl := Option.some.inj H
           try go_wp2
           replace HB := Aside0.mk (below_drew1 HB.out); have p102 : 0 ≤ (x3_1 : Int) := dt_; have q102 : x3_1 < (l0.length : Int) := dt_; obtain ⟨ad102, e102, hx102_0, hx102_1⟩ := at_T54 HR0.out x3_1 p102 q102; have hw102_1 := hx102_1; have hw102_0 := hx102_0
           cases e102
           replace hx102_0 := bc_ HB.out hx102_0; replace hx102_1 := bc_ HB.out hx102_1; replace p102 := eq_true p102; replace q102 := eq_true q102; have p104 : 0 ≤ (x3_1 : Int) := dt_; have q104 : x3_1 < (l0.length : Int) := dt_; obtain ⟨ad104, e104, hx104_0, hx104_1⟩ := at_T54 HR0.out x3_1 p104 q104; have hw104_1 := hx104_1; have hw104_0 := hx104_0
           obtain rfl : ad102 = ad104 := (by injection e104)
           replace hx104_0 := bc_ HB.out hx104_0; replace hx104_1 := bc_ HB.out hx104_1; replace p104 := eq_true p104; replace q104 := eq_true q104; have p106 : 0 ≤ ((ji9) : Int) := dt_; have q106 : (ji9) < (l0.length : Int) := dt_; obtain ⟨ad106, e106, hx106_0, hx106_1⟩ := at_T54 HR0.out (ji9) p106 q106; have hw106_1 := hx106_1; have hw106_0 := hx106_0
           obtain rfl : ad102 = ad106 := (by injection e106)
           replace hx106_0 := bc_ HB.out hx106_0; replace hx106_1 := bc_ HB.out hx106_1; replace p106 := eq_true p106; replace q106 := eq_true q106; have p107 : 0 ≤ (x3_1 : Int) := dt_; have q107 : x3_1 < (l0.length : Int) := dt_; obtain ⟨ad107, e107, hx107_0, hx107_1⟩ := at_T54 HR0.out x3_1 p107 q107; have hw107_1 := hx107_1; have hw107_0 := hx107_0
           obtain rfl : ad102 = ad107 := (by injection e107)
           replace hx107_0 := bc_ HB.out hx107_0; replace hx107_1 := bc_ HB.out hx107_1; replace p107 := eq_true p107; replace q107 := eq_true q107; refine start_ (n := 34) (S := fun w' => w'.cell? (ad102.add ((x3_1).toNat * 2)) = some (.int .i64 ((rd_T54 l0 x3_1).f0)) ∧ w'.cell? ⟨(ad102.add ((x3_1).toNat * 2)).block, (ad102.add ((x3_1).toNat * 2)).off + 1, none⟩ = some (.int .i64 ((rd_T54 l0 x3_1).f1)) ∧ w'.cell? (ad102.add ((x3_1).toNat * 2)) = some (.int .i64 ((rd_T54 l0 x3_1).f0)) ∧ w'.cell? ⟨(ad102.add ((x3_1).toNat * 2)).block, (ad102.add ((x3_1).toNat * 2)).off + 1, none⟩ = some (.int .i64 ((rd_T54 l0 x3_1).f1)) ∧ w'.cell? (ad102.add (((ji9)).toNat * 2)) = some (.int .i64 ((rd_T54 l0 (ji9)).f0)) ∧ w'.cell? ⟨(ad102.add (((ji9)).toNat * 2)).block, (ad102.add (((ji9)).toNat * 2)).off + 1, none⟩ = some (.int .i64 ((rd_T54 l0 (ji9)).f1)) ∧ w'.cell? (ad102.add ((x3_1).toNat * 2)) = some (.int .i64 ((rd_T54 l0 x3_1).f0)) ∧ w'.cell? ⟨(ad102.add ((x3_1).toNat * 2)).block, (ad102.add ((x3_1).toNat * 2)).off + 1, none⟩ = some (.int .i64 ((rd_T54 l0 x3_1).f1))) (ds := []) spec_l23Good.mk0 (by kernel_rfl) rfl rfl ⟨(bc_ HB.out hw102_0), (bc_ HB.out hw102_1), (bc_ HB.out hw104_0), (bc_ HB.out hw104_1), (bc_ HB.out hw106_0), (bc_ HB.out hw106_1), (bc_ HB.out hw107_0), (bc_ HB.out hw107_1)⟩ (fun hHeld => ?_); refine with_tabW spec_l23Good.tab4 spec_l23Good.bits4 (fun HT_ HW_ => ?_); generalize wr.drew = w13 at HB hx102_0 hx102_1 hx104_0 hx104_1 hx106_0 hx106_1 hx107_0 hx107_1 hHeld ⊢; refine pz_ HT_ 0 (some 10) spec_l23Good.mk1 ?_; refine pz_ HT_ 1 (some 11) spec_l23Good.mk2 ?_; refine pz_ HT_ 2 (some 12) spec_l23Good.mk3 ?_; refine pz_ HT_ 3 (some 13) spec_l23Good.mk4 ?_; refine tk_ HT_ HW_ hHeld 4 (some 14) spec_l23Good.mk5 ?_; refine one_ (i := 5) (N := some 15) spec_l23Good.mk6 rfl rfl (one_of HT_.out (by kernel_rfl)) (by decide) (fun K hK => ?_); refine gs_ Try.func79 #[.int .i64 ((rd_T54 l0 x3_1).f0), .int .i64 0, .int .i64 999] ?_; (with_reducible refine (spec_l1In.calls ((rd_T54 l0 x3_1).f0) 0 999 true _ A4.out).mono ?_); rintro e w' ⟨rfl, ⟨nd, rfl⟩⟩; refine ⟨_, rfl, ?_⟩; refine hK.out _ _ ⟨((HB.out.cell (World.block_lt_of_cell? w _ hw102_0)).trans hw102_0), ((HB.out.cell (World.block_lt_of_cell? w _ hw102_1)).trans hw102_1), ((HB.out.cell (World.block_lt_of_cell? w _ hw104_0)).trans hw104_0), ((HB.out.cell (World.block_lt_of_cell? w _ hw104_1)).trans hw104_1), ((HB.out.cell (World.block_lt_of_cell? w _ hw106_0)).trans hw106_0), ((HB.out.cell (World.block_lt_of_cell? w _ hw106_1)).trans hw106_1), ((HB.out.cell (World.block_lt_of_cell? w _ hw107_0)).trans hw107_0), ((HB.out.cell (World.block_lt_of_cell? w _ hw107_1)).trans hw107_1)⟩ (fun hHeld => ?_); clear hK K; refine na_ ?_; refine pz_ HT_ 6 (some 16) spec_l23Good.mk7 ?_; refine pz_ HT_ 7 (some 17) spec_l23Good.mk8 ?_; refine pz_ HT_ 8 (some 18) spec_l23Good.mk9 ?_; refine pz_ HT_ 9 (some 19) spec_l23Good.mk10 ?_; refine pz_ HT_ 10 (some 20) spec_l23Good.mk11 ?_; refine pz_ HT_ 11 (some 21) spec_l23Good.mk12 ?_; refine tk_ HT_ HW_ hHeld 12 (some 22) spec_l23Good.mk13 ?_; refine one_ (i := 13) (N := some 23) spec_l23Good.mk14 rfl rfl (one_of HT_.out (by kernel_rfl)) (by decide) (fun K hK => ?_); refine gs_ Try.func89 #[.int .i64 ((rd_T54 l0 x3_1).f1)] ?_; (with_reducible refine (spec_l23Level.calls ((rd_T54 l0 x3_1).f1) true _ A6.out).mono ?_); rintro e w' ⟨rfl, ⟨nd, rfl⟩⟩; refine ⟨_, rfl, ?_⟩; refine hK.out _ _ ⟨((HB.out.cell (World.block_lt_of_cell? w _ hw102_0)).trans hw102_0), ((HB.out.cell (World.block_lt_of_cell? w _ hw102_1)).trans hw102_1), ((HB.out.cell (World.block_lt_of_cell? w _ hw104_0)).trans hw104_0), ((HB.out.cell (World.block_lt_of_cell? w _ hw104_1)).trans hw104_1), ((HB.out.cell (World.block_lt_of_cell? w _ hw106_0)).trans hw106_0), ((HB.out.cell (World.block_lt_of_cell? w _ hw106_1)).trans hw106_1), ((HB.out.cell (World.block_lt_of_cell? w _ hw107_0)).trans hw107_0), ((HB.out.cell (World.block_lt_of_cell? w _ hw107_1)).trans hw107_1)⟩ (fun hHeld => ?_); clear hK K; refine na_ ?_; refine pz_ HT_ 14 (some 24) spec_l23Good.mk15 ?_; refine pz_ HT_ 15 (some 25) spec_l23Good.mk16 ?_; refine pz_ HT_ 16 (some 26) spec_l23Good.mk17 ?_; refine pz_ HT_ 17 (some 27) spec_l23Good.mk18 ?_; refine pz_ HT_ 18 (some 28) spec_l23Good.mk19 ?_; refine pz_ HT_ 19 (some 29) spec_l23Good.mk20 ?_; refine pz_ HT_ 20 (some 30) spec_l23Good.mk21 ?_; refine pz_ HT_ 21 (some 31) spec_l23Good.mk22 ?_; refine pz_ HT_ 22 (some 32) spec_l23Good.mk23 ?_; refine pz_ HT_ 23 (some 33) spec_l23Good.mk24 ?_; refine pz_ HT_ 24 (some 34) spec_l23Good.mk25 ?_; refine pz_ HT_ 26 (some 36) spec_l23Good.mk26 ?_; refine pz_ HT_ 27 (some 37) spec_l23Good.mk27 ?_; refine pz_ HT_ 28 (some 38) spec_l23Good.mk28 ?_; refine pz_ HT_ 29 (some 39) spec_l23Good.mk29 ?_; refine tk_ HT_ HW_ hHeld 25 (some 35) spec_l23Good.mk30 ?_; refine tk_ HT_ HW_ hHeld 30 (some 40) spec_l23Good.mk31 ?_; refine pz_ HT_ 31 (some 41) spec_l23Good.mk32 ?_; refine pz_ HT_ 32 (some 42) spec_l23Good.mk33 ?_; refine pz_ HT_ 33 (some 43) spec_l23Good.mk34 ?_; refine done_ (done_of HT_.out (by kernel_rfl)) ?_
           try go_wp2
           go_ret
           exact ⟨by first | rfl | (simp [errW_none, errW_some] <;> rfl) | (simp only [← hji9]; first | rfl | (simp [errW_none, errW_some] <;> rfl)) | (simp [*, errW_none, errW_some] <;> rfl), lb0_ HB.out⟩
          ·
           rw [if_neg c12] at H
           have c12b0 : decide (((rd_T54 l0 x3_1).f0) ≤ ((rd_T54 l0 (ji9)).f0)) = false := decide_eq_false c12; clear c12; have H' := Aside0.mk H; clear H
           try go_wp2
           replace HB := Aside0.mk (below_drew1 HB.out); have p102 : 0 ≤ (x3_1 : Int) := dt_; have q102 : x3_1 < (l0.length : Int) := dt_; obtain ⟨ad102, e102, hx102_0, hx102_1⟩ := at_T54 HR0.out x3_1 p102 q102; have hw102_1 := hx102_1; have hw102_0 := hx102_0
           cases e102
           replace hx102_0 := bc_ HB.out hx102_0; replace hx102_1 := bc_ HB.out hx102_1; replace p102 := eq_true p102; replace q102 := eq_true q102; have p104 : 0 ≤ (x3_1 : Int) := dt_; have q104 : x3_1 < (l0.length : Int) := dt_; obtain ⟨ad104, e104, hx104_0, hx104_1⟩ := at_T54 HR0.out x3_1 p104 q104; have hw104_1 := hx104_1; have hw104_0 := hx104_0
           obtain rfl : ad102 = ad104 := (by injection e104)
           replace hx104_0 := bc_ HB.out hx104_0; replace hx104_1 := bc_ HB.out hx104_1; replace p104 := eq_true p104; replace q104 := eq_true q104; have p106 : 0 ≤ ((ji9) : Int) := dt_; have q106 : (ji9) < (l0.length : Int) := dt_; obtain ⟨ad106, e106, hx106_0, hx106_1⟩ := at_T54 HR0.out (ji9) p106 q106; have hw106_1 := hx106_1; have hw106_0 := hx106_0
           obtain rfl : ad102 = ad106 := (by injection e106)
           replace hx106_0 := bc_ HB.out hx106_0; replace hx106_1 := bc_ HB.out hx106_1; replace p106 := eq_true p106; replace q106 := eq_true q106; have p107 : 0 ≤ (x3_1 : Int) := dt_; have q107 : x3_1 < (l0.length : Int) := dt_; obtain ⟨ad107, e107, hx107_0, hx107_1⟩ := at_T54 HR0.out x3_1 p107 q107; have hw107_1 := hx107_1; have hw107_0 := hx107_0
           obtain rfl : ad102 = ad107 := (by injection e107)
           replace hx107_0 := bc_ HB.out hx107_0; replace hx107_1 := bc_ HB.out hx107_1; replace p107 := eq_true p107; replace q107 := eq_true q107; refine start_ (n := 34) (S := fun w' => w'.cell? (ad102.add ((x3_1).toNat * 2)) = some (.int .i64 ((rd_T54 l0 x3_1).f0)) ∧ w'.cell? ⟨(ad102.add ((x3_1).toNat * 2)).block, (ad102.add ((x3_1).toNat * 2)).off + 1, none⟩ = some (.int .i64 ((rd_T54 l0 x3_1).f1)) ∧ w'.cell? (ad102.add ((x3_1).toNat * 2)) = some (.int .i64 ((rd_T54 l0 x3_1).f0)) ∧ w'.cell? ⟨(ad102.add ((x3_1).toNat * 2)).block, (ad102.add ((x3_1).toNat * 2)).off + 1, none⟩ = some (.int .i64 ((rd_T54 l0 x3_1).f1)) ∧ w'.cell? (ad102.add (((ji9)).toNat * 2)) = some (.int .i64 ((rd_T54 l0 (ji9)).f0)) ∧ w'.cell? ⟨(ad102.add (((ji9)).toNat * 2)).block, (ad102.add (((ji9)).toNat * 2)).off + 1, none⟩ = some (.int .i64 ((rd_T54 l0 (ji9)).f1)) ∧ w'.cell? (ad102.add ((x3_1).toNat * 2)) = some (.int .i64 ((rd_T54 l0 x3_1).f0)) ∧ w'.cell? ⟨(ad102.add ((x3_1).toNat * 2)).block, (ad102.add ((x3_1).toNat * 2)).off + 1, none⟩ = some (.int .i64 ((rd_T54 l0 x3_1).f1))) (ds := []) spec_l23Good.mk0 (by kernel_rfl) rfl rfl ⟨(bc_ HB.out hw102_0), (bc_ HB.out hw102_1), (bc_ HB.out hw104_0), (bc_ HB.out hw104_1), (bc_ HB.out hw106_0), (bc_ HB.out hw106_1), (bc_ HB.out hw107_0), (bc_ HB.out hw107_1)⟩ (fun hHeld => ?_); refine with_tabW spec_l23Good.tab4 spec_l23Good.bits4 (fun HT_ HW_ => ?_); generalize wr.drew = w14 at HB hx102_0 hx102_1 hx104_0 hx104_1 hx106_0 hx106_1 hx107_0 hx107_1 hHeld ⊢; refine pz_ HT_ 0 (some 10) spec_l23Good.mk1 ?_; refine pz_ HT_ 1 (some 11) spec_l23Good.mk2 ?_; refine pz_ HT_ 2 (some 12) spec_l23Good.mk3 ?_; refine pz_ HT_ 3 (some 13) spec_l23Good.mk4 ?_; refine tk_ HT_ HW_ hHeld 4 (some 14) spec_l23Good.mk5 ?_; refine one_ (i := 5) (N := some 15) spec_l23Good.mk6 rfl rfl (one_of HT_.out (by kernel_rfl)) (by decide) (fun K hK => ?_); refine gs_ Try.func79 #[.int .i64 ((rd_T54 l0 x3_1).f0), .int .i64 0, .int .i64 999] ?_; (with_reducible refine (spec_l1In.calls ((rd_T54 l0 x3_1).f0) 0 999 true _ A4.out).mono ?_); rintro e w' ⟨rfl, ⟨nd, rfl⟩⟩; refine ⟨_, rfl, ?_⟩; refine hK.out _ _ ⟨((HB.out.cell (World.block_lt_of_cell? w _ hw102_0)).trans hw102_0), ((HB.out.cell (World.block_lt_of_cell? w _ hw102_1)).trans hw102_1), ((HB.out.cell (World.block_lt_of_cell? w _ hw104_0)).trans hw104_0), ((HB.out.cell (World.block_lt_of_cell? w _ hw104_1)).trans hw104_1), ((HB.out.cell (World.block_lt_of_cell? w _ hw106_0)).trans hw106_0), ((HB.out.cell (World.block_lt_of_cell? w _ hw106_1)).trans hw106_1), ((HB.out.cell (World.block_lt_of_cell? w _ hw107_0)).trans hw107_0), ((HB.out.cell (World.block_lt_of_cell? w _ hw107_1)).trans hw107_1)⟩ (fun hHeld => ?_); clear hK K; refine na_ ?_; refine pz_ HT_ 6 (some 16) spec_l23Good.mk7 ?_; refine pz_ HT_ 7 (some 17) spec_l23Good.mk8 ?_; refine pz_ HT_ 8 (some 18) spec_l23Good.mk9 ?_; refine pz_ HT_ 9 (some 19) spec_l23Good.mk10 ?_; refine pz_ HT_ 10 (some 20) spec_l23Good.mk11 ?_; refine pz_ HT_ 11 (some 21) spec_l23Good.mk12 ?_; refine tk_ HT_ HW_ hHeld 12 (some 22) spec_l23Good.mk13 ?_; refine one_ (i := 13) (N := some 23) spec_l23Good.mk14 rfl rfl (one_of HT_.out (by kernel_rfl)) (by decide) (fun K hK => ?_); refine gs_ Try.func89 #[.int .i64 ((rd_T54 l0 x3_1).f1)] ?_; (with_reducible refine (spec_l23Level.calls ((rd_T54 l0 x3_1).f1) true _ A6.out).mono ?_); rintro e w' ⟨rfl, ⟨nd, rfl⟩⟩; refine ⟨_, rfl, ?_⟩; refine hK.out _ _ ⟨((HB.out.cell (World.block_lt_of_cell? w _ hw102_0)).trans hw102_0), ((HB.out.cell (World.block_lt_of_cell? w _ hw102_1)).trans hw102_1), ((HB.out.cell (World.block_lt_of_cell? w _ hw104_0)).trans hw104_0), ((HB.out.cell (World.block_lt_of_cell? w _ hw104_1)).trans hw104_1), ((HB.out.cell (World.block_lt_of_cell? w _ hw106_0)).trans hw106_0), ((HB.out.cell (World.block_lt_of_cell? w _ hw106_1)).trans hw106_1), ((HB.out.cell (World.block_lt_of_cell? w _ hw107_0)).trans hw107_0), ((HB.out.cell (World.block_lt_of_cell? w _ hw107_1)).trans hw107_1)⟩ (fun hHeld => ?_); clear hK K; refine na_ ?_; refine pz_ HT_ 14 (some 24) spec_l23Good.mk15 ?_; refine pz_ HT_ 15 (some 25) spec_l23Good.mk16 ?_; refine pz_ HT_ 16 (some 26) spec_l23Good.mk17 ?_; refine pz_ HT_ 17 (some 27) spec_l23Good.mk18 ?_; refine pz_ HT_ 18 (some 28) spec_l23Good.mk19 ?_; refine pz_ HT_ 19 (some 29) spec_l23Good.mk20 ?_; refine pz_ HT_ 20 (some 30) spec_l23Good.mk21 ?_; refine pz_ HT_ 21 (some 31) spec_l23Good.mk22 ?_; refine pz_ HT_ 22 (some 32) spec_l23Good.mk23 ?_; refine pz_ HT_ 23 (some 33) spec_l23Good.mk24 ?_; refine pz_ HT_ 24 (some 34) spec_l23Good.mk25 ?_; refine pz_ HT_ 26 (some 36) spec_l23Good.mk26 ?_; refine pz_ HT_ 27 (some 37) spec_l23Good.mk27 ?_; refine pz_ HT_ 28 (some 38) spec_l23Good.mk28 ?_; refine pz_ HT_ 29 (some 39) spec_l23Good.mk29 ?_; refine tk_ HT_ HW_ hHeld 25 (some 35) spec_l23Good.mk30 ?_; refine tk_ HT_ HW_ hHeld 30 (some 40) spec_l23Good.mk31 ?_; refine pz_ HT_ 31 (some 41) spec_l23Good.mk32 ?_; refine pz_ HT_ 32 (some 42) spec_l23Good.mk33 ?_; refine pz_ HT_ 33 (some 43) spec_l23Good.mk34 ?_; refine done_ (done_of HT_.out (by kernel_rfl)) ?_
           try go_wp2
           go_roundg k1
           case measure => have := HK1.out; omega
           case rel => exact ⟨(wrap64 (x3_1 + 1)), (by first | rfl | (simp; done) | (simp [*]; done)), H', ⟨by have := HK1.out; omega⟩, ⟨lb0_ HB.out⟩⟩
         ·
          rw [if_neg c11] at H
          exact absurd H (by simp)
        ·
         rw [if_neg c10] at H
         exact absurd H (by simp)
       ·
        rw [if_neg c8] at H
        have c8b0 : decide (0 < x3_1) = false := decide_eq_false c8; clear c8; have H' := Aside0.mk H; clear H
        try go_wp2
        replace HB := Aside0.mk (below_drew1 HB.out); have p102 : 0 ≤ (x3_1 : Int) := dt_; have q102 : x3_1 < (l0.length : Int) := dt_; obtain ⟨ad102, e102, hx102_0, hx102_1⟩ := at_T54 HR0.out x3_1 p102 q102; have hw102_1 := hx102_1; have hw102_0 := hx102_0
        cases e102
        replace hx102_0 := bc_ HB.out hx102_0; replace hx102_1 := bc_ HB.out hx102_1; replace p102 := eq_true p102; replace q102 := eq_true q102; have p104 : 0 ≤ (x3_1 : Int) := dt_; have q104 : x3_1 < (l0.length : Int) := dt_; obtain ⟨ad104, e104, hx104_0, hx104_1⟩ := at_T54 HR0.out x3_1 p104 q104; have hw104_1 := hx104_1; have hw104_0 := hx104_0
        obtain rfl : ad102 = ad104 := (by injection e104)
        replace hx104_0 := bc_ HB.out hx104_0; replace hx104_1 := bc_ HB.out hx104_1; replace p104 := eq_true p104; replace q104 := eq_true q104; refine start_ (n := 34) (S := fun w' => w'.cell? (ad102.add ((x3_1).toNat * 2)) = some (.int .i64 ((rd_T54 l0 x3_1).f0)) ∧ w'.cell? ⟨(ad102.add ((x3_1).toNat * 2)).block, (ad102.add ((x3_1).toNat * 2)).off + 1, none⟩ = some (.int .i64 ((rd_T54 l0 x3_1).f1)) ∧ w'.cell? (ad102.add ((x3_1).toNat * 2)) = some (.int .i64 ((rd_T54 l0 x3_1).f0)) ∧ w'.cell? ⟨(ad102.add ((x3_1).toNat * 2)).block, (ad102.add ((x3_1).toNat * 2)).off + 1, none⟩ = some (.int .i64 ((rd_T54 l0 x3_1).f1))) (ds := []) spec_l23Good.mk0 (by kernel_rfl) rfl rfl ⟨(bc_ HB.out hw102_0), (bc_ HB.out hw102_1), (bc_ HB.out hw104_0), (bc_ HB.out hw104_1)⟩ (fun hHeld => ?_); refine with_tabW spec_l23Good.tab4 spec_l23Good.bits4 (fun HT_ HW_ => ?_); generalize wr.drew = w15 at HB hx102_0 hx102_1 hx104_0 hx104_1 hHeld ⊢; refine pz_ HT_ 0 (some 10) spec_l23Good.mk1 ?_; refine pz_ HT_ 1 (some 11) spec_l23Good.mk2 ?_; refine pz_ HT_ 2 (some 12) spec_l23Good.mk3 ?_; refine pz_ HT_ 3 (some 13) spec_l23Good.mk4 ?_; refine tk_ HT_ HW_ hHeld 4 (some 14) spec_l23Good.mk5 ?_; refine one_ (i := 5) (N := some 15) spec_l23Good.mk6 rfl rfl (one_of HT_.out (by kernel_rfl)) (by decide) (fun K hK => ?_); refine gs_ Try.func79 #[.int .i64 ((rd_T54 l0 x3_1).f0), .int .i64 0, .int .i64 999] ?_; (with_reducible refine (spec_l1In.calls ((rd_T54 l0 x3_1).f0) 0 999 true _ A4.out).mono ?_); rintro e w' ⟨rfl, ⟨nd, rfl⟩⟩; refine ⟨_, rfl, ?_⟩; refine hK.out _ _ ⟨((HB.out.cell (World.block_lt_of_cell? w _ hw102_0)).trans hw102_0), ((HB.out.cell (World.block_lt_of_cell? w _ hw102_1)).trans hw102_1), ((HB.out.cell (World.block_lt_of_cell? w _ hw104_0)).trans hw104_0), ((HB.out.cell (World.block_lt_of_cell? w _ hw104_1)).trans hw104_1)⟩ (fun hHeld => ?_); clear hK K; refine na_ ?_; refine pz_ HT_ 6 (some 16) spec_l23Good.mk7 ?_; refine pz_ HT_ 7 (some 17) spec_l23Good.mk8 ?_; refine pz_ HT_ 8 (some 18) spec_l23Good.mk9 ?_; refine pz_ HT_ 9 (some 19) spec_l23Good.mk10 ?_; refine pz_ HT_ 10 (some 20) spec_l23Good.mk11 ?_; refine pz_ HT_ 11 (some 21) spec_l23Good.mk12 ?_; refine tk_ HT_ HW_ hHeld 12 (some 22) spec_l23Good.mk13 ?_; refine one_ (i := 13) (N := some 23) spec_l23Good.mk14 rfl rfl (one_of HT_.out (by kernel_rfl)) (by decide) (fun K hK => ?_); refine gs_ Try.func89 #[.int .i64 ((rd_T54 l0 x3_1).f1)] ?_; (with_reducible refine (spec_l23Level.calls ((rd_T54 l0 x3_1).f1) true _ A6.out).mono ?_); rintro e w' ⟨rfl, ⟨nd, rfl⟩⟩; refine ⟨_, rfl, ?_⟩; refine hK.out _ _ ⟨((HB.out.cell (World.block_lt_of_cell? w _ hw102_0)).trans hw102_0), ((HB.out.cell (World.block_lt_of_cell? w _ hw102_1)).trans hw102_1), ((HB.out.cell (World.block_lt_of_cell? w _ hw104_0)).trans hw104_0), ((HB.out.cell (World.block_lt_of_cell? w _ hw104_1)).trans hw104_1)⟩ (fun hHeld => ?_); clear hK K; refine na_ ?_; refine pz_ HT_ 14 (some 24) spec_l23Good.mk15 ?_; refine pz_ HT_ 15 (some 25) spec_l23Good.mk16 ?_; refine pz_ HT_ 16 (some 26) spec_l23Good.mk17 ?_; refine pz_ HT_ 17 (some 27) spec_l23Good.mk18 ?_; refine pz_ HT_ 18 (some 28) spec_l23Good.mk19 ?_; refine pz_ HT_ 19 (some 29) spec_l23Good.mk20 ?_; refine pu_ HT_ 20 (some 30) spec_l23Good.mk21 ?_; refine pu_ HT_ 21 (some 31) spec_l23Good.mk22 ?_; refine pu_ HT_ 22 (some 32) spec_l23Good.mk23 ?_; refine pu_ HT_ 23 (some 33) spec_l23Good.mk24 ?_; refine pu_ HT_ 24 (some 34) spec_l23Good.mk25 ?_; refine pu_ HT_ 25 (some 35) spec_l23Good.mk35 ?_; refine pu_ HT_ 26 (some 36) spec_l23Good.mk36 ?_; refine pu_ HT_ 27 (some 37) spec_l23Good.mk37 ?_; refine pu_ HT_ 28 (some 38) spec_l23Good.mk38 ?_; refine pu_ HT_ 29 (some 39) spec_l23Good.mk30 ?_; refine pu_ HT_ 30 (some 40) spec_l23Good.mk31 ?_; refine pu_ HT_ 31 (some 41) spec_l23Good.mk32 ?_; refine pz_ HT_ 32 (some 42) spec_l23Good.mk33 ?_; refine pz_ HT_ 33 (some 43) spec_l23Good.mk34 ?_; refine done_ (done_of HT_.out (by kernel_rfl)) ?_
        try go_wp2
        go_roundg k1
        case measure => have := HK1.out; omega
        case rel => exact ⟨(wrap64 (x3_1 + 1)), (by first | rfl | (simp; done) | (simp [*]; done)), H', ⟨by have := HK1.out; omega⟩, ⟨lb0_ HB.out⟩⟩
      ·
       replace c7 := Bool.eq_false_iff.mpr c7
       subst c7
       have H1 : (some false) = some r := by rw [if_neg (show ¬ (false = true) by decide)] at H; exact H
       clear H
       have H := H1
       clear H1
       obtain rfl := Option.some.inj H
       try go_wp2
       replace HB := Aside0.mk (below_drew1 HB.out)
       have p102 : 0 ≤ (x3_1 : Int) := dt_
       have q102 : x3_1 < (l0.length : Int) := dt_
       obtain ⟨ad102, e102, hx102_0, hx102_1⟩ := at_T54 HR0.out x3_1 p102 q102
       have hw102_1 := hx102_1
       have hw102_0 := hx102_0
       cases e102
       replace hx102_0 := bc_ HB.out hx102_0
       replace hx102_1 := bc_ HB.out hx102_1
       replace p102 := eq_true p102
       replace q102 := eq_true q102
       have p104 : 0 ≤ (x3_1 : Int) := dt_
       have q104 : x3_1 < (l0.length : Int) := dt_
       obtain ⟨ad104, e104, hx104_0, hx104_1⟩ := at_T54 HR0.out x3_1 p104 q104
       have hw104_1 := hx104_1
       have hw104_0 := hx104_0
       obtain rfl : ad102 = ad104 := (by injection e104)
       replace hx104_0 := bc_ HB.out hx104_0
       replace hx104_1 := bc_ HB.out hx104_1
       replace p104 := eq_true p104
       replace q104 := eq_true q104
       refine start_ (n := 34) (S := fun w' => w'.cell? (ad102.add ((x3_1).toNat * 2)) = some (.int .i64 ((rd_T54 l0 x3_1).f0)) ∧ w'.cell? ⟨(ad102.add ((x3_1).toNat * 2)).block, (ad102.add ((x3_1).toNat * 2)).off + 1, none⟩ = some (.int .i64 ((rd_T54 l0 x3_1).f1)) ∧ w'.cell? (ad102.add ((x3_1).toNat * 2)) = some (.int .i64 ((rd_T54 l0 x3_1).f0)) ∧ w'.cell? ⟨(ad102.add ((x3_1).toNat * 2)).block, (ad102.add ((x3_1).toNat * 2)).off + 1, none⟩ = some (.int .i64 ((rd_T54 l0 x3_1).f1))) (ds := []) spec_l23Good.mk0 (by kernel_rfl) rfl rfl ⟨(bc_ HB.out hw102_0), (bc_ HB.out hw102_1), (bc_ HB.out hw104_0), (bc_ HB.out hw104_1)⟩ (fun hHeld => ?_); refine with_tabW spec_l23Good.tab4 spec_l23Good.bits4 (fun HT_ HW_ => ?_)
       generalize wr.drew = w16 at HB hx102_0 hx102_1 hx104_0 hx104_1 hHeld ⊢
       refine pz_ HT_ 0 (some 10) spec_l23Good.mk1 ?_
       refine pz_ HT_ 1 (some 11) spec_l23Good.mk2 ?_
       refine pz_ HT_ 2 (some 12) spec_l23Good.mk3 ?_
       refine pz_ HT_ 3 (some 13) spec_l23Good.mk4 ?_
       refine tk_ HT_ HW_ hHeld 4 (some 14) spec_l23Good.mk5 ?_
       refine one_ (i := 5) (N := some 15) spec_l23Good.mk6 rfl rfl (one_of HT_.out (by kernel_rfl)) (by decide) (fun K hK => ?_)
       refine gs_ Try.func79 #[.int .i64 ((rd_T54 l0 x3_1).f0), .int .i64 0, .int .i64 999] ?_
       with_reducible refine (spec_l1In.calls ((rd_T54 l0 x3_1).f0) 0 999 true _ A4.out).mono ?_
       rintro e w' ⟨rfl, ⟨nd, rfl⟩⟩
       refine ⟨_, rfl, ?_⟩
       refine hK.out _ _ ⟨((HB.out.cell (World.block_lt_of_cell? w _ hw102_0)).trans hw102_0), ((HB.out.cell (World.block_lt_of_cell? w _ hw102_1)).trans hw102_1), ((HB.out.cell (World.block_lt_of_cell? w _ hw104_0)).trans hw104_0), ((HB.out.cell (World.block_lt_of_cell? w _ hw104_1)).trans hw104_1)⟩ (fun hHeld => ?_)
       clear hK K
       refine na_ ?_
       refine pz_ HT_ 6 (some 16) spec_l23Good.mk7 ?_
       refine pz_ HT_ 7 (some 17) spec_l23Good.mk8 ?_
       refine pz_ HT_ 8 (some 18) spec_l23Good.mk9 ?_
       refine pz_ HT_ 9 (some 19) spec_l23Good.mk10 ?_
       refine pz_ HT_ 10 (some 20) spec_l23Good.mk11 ?_
       refine pz_ HT_ 11 (some 21) spec_l23Good.mk12 ?_
       refine tk_ HT_ HW_ hHeld 12 (some 22) spec_l23Good.mk13 ?_
       refine one_ (i := 13) (N := some 23) spec_l23Good.mk14 rfl rfl (one_of HT_.out (by kernel_rfl)) (by decide) (fun K hK => ?_)
       refine gs_ Try.func89 #[.int .i64 ((rd_T54 l0 x3_1).f1)] ?_
       with_reducible refine (spec_l23Level.calls ((rd_T54 l0 x3_1).f1) false _ A6.out).mono ?_
       rintro e w' ⟨rfl, ⟨nd, rfl⟩⟩
       refine ⟨_, rfl, ?_⟩
       refine hK.out _ _ ⟨((HB.out.cell (World.block_lt_of_cell? w _ hw102_0)).trans hw102_0), ((HB.out.cell (World.block_lt_of_cell? w _ hw102_1)).trans hw102_1), ((HB.out.cell (World.block_lt_of_cell? w _ hw104_0)).trans hw104_0), ((HB.out.cell (World.block_lt_of_cell? w _ hw104_1)).trans hw104_1)⟩ (fun hHeld => ?_)
       clear hK K
       refine na_ ?_
       refine pz_ HT_ 14 (some 24) spec_l23Good.mk15 ?_
       refine pz_ HT_ 15 (some 25) spec_l23Good.mk16 ?_
       refine pz_ HT_ 16 (some 26) spec_l23Good.mk17 ?_
       refine pu_ HT_ 17 (some 27) spec_l23Good.mk18 ?_
       refine pu_ HT_ 18 (some 28) spec_l23Good.mk19 ?_
       refine pu_ HT_ 19 (some 29) spec_l23Good.mk20 ?_
       refine pu_ HT_ 20 (some 30) spec_l23Good.mk21 ?_
       refine pu_ HT_ 21 (some 31) spec_l23Good.mk22 ?_
       refine pu_ HT_ 22 (some 32) spec_l23Good.mk23 ?_
       refine pu_ HT_ 23 (some 33) spec_l23Good.mk24 ?_
       refine pu_ HT_ 24 (some 34) spec_l23Good.mk25 ?_
       refine pu_ HT_ 25 (some 35) spec_l23Good.mk35 ?_
       refine pu_ HT_ 26 (some 36) spec_l23Good.mk36 ?_
       refine pu_ HT_ 27 (some 37) spec_l23Good.mk37 ?_
       refine pu_ HT_ 28 (some 38) spec_l23Good.mk38 ?_
       refine pu_ HT_ 29 (some 39) spec_l23Good.mk30 ?_
       refine pu_ HT_ 30 (some 40) spec_l23Good.mk31 ?_
       refine pu_ HT_ 31 (some 41) spec_l23Good.mk32 ?_
       refine pu_ HT_ 32 (some 42) spec_l23Good.mk33 ?_
       refine pz_ HT_ 33 (some 43) spec_l23Good.mk34 ?_
       refine done_ (done_of HT_.out (by kernel_rfl)) ?_
       try go_wp2
       go_ret
       exact ⟨rr_, lb0_ HB.out⟩
     ·
      replace c5 := Bool.eq_false_iff.mpr c5
      subst c5
      have H1 : (some false) = some r := by rw [if_neg (show ¬ (false = true) by decide)] at H; exact H
      clear H
      have H := H1
      clear H1
      obtain rfl := Option.some.inj H
      try go_wp2
      replace HB := Aside0.mk (below_drew1 HB.out)
      have p102 : 0 ≤ (x3_1 : Int) := dt_
      have q102 : x3_1 < (l0.length : Int) := dt_
      obtain ⟨ad102, e102, hx102_0, hx102_1⟩ := at_T54 HR0.out x3_1 p102 q102
      have hw102_1 := hx102_1
      have hw102_0 := hx102_0
      cases e102
      replace hx102_0 := bc_ HB.out hx102_0
      replace hx102_1 := bc_ HB.out hx102_1
      replace p102 := eq_true p102
      replace q102 := eq_true q102
      refine start_ (n := 34) (S := fun w' => w'.cell? (ad102.add ((x3_1).toNat * 2)) = some (.int .i64 ((rd_T54 l0 x3_1).f0)) ∧ w'.cell? ⟨(ad102.add ((x3_1).toNat * 2)).block, (ad102.add ((x3_1).toNat * 2)).off + 1, none⟩ = some (.int .i64 ((rd_T54 l0 x3_1).f1))) (ds := []) spec_l23Good.mk0 (by kernel_rfl) rfl rfl ⟨(bc_ HB.out hw102_0), (bc_ HB.out hw102_1)⟩ (fun hHeld => ?_); refine with_tabW spec_l23Good.tab4 spec_l23Good.bits4 (fun HT_ HW_ => ?_)
      generalize wr.drew = w17 at HB hx102_0 hx102_1 hHeld ⊢
      refine pz_ HT_ 0 (some 10) spec_l23Good.mk1 ?_
      refine pz_ HT_ 1 (some 11) spec_l23Good.mk2 ?_
      refine pz_ HT_ 2 (some 12) spec_l23Good.mk3 ?_
      refine pz_ HT_ 3 (some 13) spec_l23Good.mk4 ?_
      refine tk_ HT_ HW_ hHeld 4 (some 14) spec_l23Good.mk5 ?_
      refine one_ (i := 5) (N := some 15) spec_l23Good.mk6 rfl rfl (one_of HT_.out (by kernel_rfl)) (by decide) (fun K hK => ?_)
      refine gs_ Try.func79 #[.int .i64 ((rd_T54 l0 x3_1).f0), .int .i64 0, .int .i64 999] ?_
      with_reducible refine (spec_l1In.calls ((rd_T54 l0 x3_1).f0) 0 999 false _ A4.out).mono ?_
      rintro e w' ⟨rfl, ⟨nd, rfl⟩⟩
      refine ⟨_, rfl, ?_⟩
      refine hK.out _ _ ⟨((HB.out.cell (World.block_lt_of_cell? w _ hw102_0)).trans hw102_0), ((HB.out.cell (World.block_lt_of_cell? w _ hw102_1)).trans hw102_1)⟩ (fun hHeld => ?_)
      clear hK K
      refine na_ ?_
      refine pz_ HT_ 6 (some 16) spec_l23Good.mk7 ?_
      refine pz_ HT_ 7 (some 17) spec_l23Good.mk8 ?_
      refine pu_ HT_ 8 (some 18) spec_l23Good.mk9 ?_
      refine pu_ HT_ 9 (some 19) spec_l23Good.mk10 ?_
      refine pu_ HT_ 10 (some 20) spec_l23Good.mk11 ?_
      refine pu_ HT_ 11 (some 21) spec_l23Good.mk12 ?_
      refine pu_ HT_ 12 (some 22) spec_l23Good.mk13 ?_
      refine pu_ HT_ 13 (some 23) spec_l23Good.mk14 ?_
      refine pu_ HT_ 14 (some 24) spec_l23Good.mk15 ?_
      refine pz_ HT_ 15 (some 25) spec_l23Good.mk16 ?_
      refine pz_ HT_ 16 (some 26) spec_l23Good.mk17 ?_
      refine pu_ HT_ 17 (some 27) spec_l23Good.mk18 ?_
      refine pu_ HT_ 18 (some 28) spec_l23Good.mk19 ?_
      refine pu_ HT_ 19 (some 29) spec_l23Good.mk20 ?_
      refine pu_ HT_ 20 (some 30) spec_l23Good.mk21 ?_
      refine pu_ HT_ 21 (some 31) spec_l23Good.mk22 ?_
      refine pu_ HT_ 22 (some 32) spec_l23Good.mk23 ?_
      refine pu_ HT_ 23 (some 33) spec_l23Good.mk24 ?_
      refine pu_ HT_ 24 (some 34) spec_l23Good.mk25 ?_
      refine pu_ HT_ 25 (some 35) spec_l23Good.mk35 ?_
      refine pu_ HT_ 26 (some 36) spec_l23Good.mk36 ?_
      refine pu_ HT_ 27 (some 37) spec_l23Good.mk37 ?_
      refine pu_ HT_ 28 (some 38) spec_l23Good.mk38 ?_
      refine pu_ HT_ 29 (some 39) spec_l23Good.mk30 ?_
      refine pu_ HT_ 30 (some 40) spec_l23Good.mk31 ?_
      refine pu_ HT_ 31 (some 41) spec_l23Good.mk32 ?_
      refine pu_ HT_ 32 (some 42) spec_l23Good.mk33 ?_
      refine pz_ HT_ 33 (some 43) spec_l23Good.mk34 ?_
      refine done_ (done_of HT_.out (by kernel_rfl)) ?_
      try go_wp2
      go_ret
      exact ⟨rr_, lb0_ HB.out⟩
    ·
     rw [if_neg c3] at H
     exact absurd H (by simp)
   ·
    rw [if_neg c2] at H
    have c2b0 : decide (x3_1 < (l0.length : Int)) = false := decide_eq_false c2
    clear c2
    obtain rfl := Option.some.inj H
    go_wp2
    go_ret
    exact ⟨rr_, lb0_ HB.out⟩
def spec_l23Within.f (k : Nat) (l0 : List (S54)) (a1 : Int) : Option (Bool) := (spec_l23Good.f k l0).bind fun t108 => (if t108 = true then (if (l0.length : Int) > 0 then (if 0 < (l0.length : Int) then (if 0 ≤ (wrap64 ((l0.length : Int) - 1)) then (if (wrap64 ((l0.length : Int) - 1)) < (l0.length : Int) then ((spec_l1In.f a1 ((rd_T54 l0 0).f0) ((rd_T54 l0 (wrap64 ((l0.length : Int) - 1))).f0)).bind fun t111 => (some t111)) else (none)) else (none)) else (none)) else (some false)) else (some false))
def spec_l23Within.T1 : Bool × List (List Nat × List Nat) := (true, [([], []), ([0], [0]), ([1, 1], [1]), ([2], [2]), ([3, 2], [2, 3]), ([4, 2], [2, 4]), ([2, 5], [2, 5]), ([6, 2], [6]), ([7], [7]), ([7], [7]), ([9, 7], [7, 9]), ([10, 7], [7, 10]), ([11, 7], [7, 11]), ([7], [7]), ([7], [7]), ([14, 7], [7, 14]), ([15, 7], [7, 15]), ([13, 16, 7], [7, 13, 16]), ([17, 7], [7, 17]), ([18, 7], [7, 18]), ([8, 12, 19, 7, 7], [7, 8, 12, 19]), ([7, 20], [7, 20]), ([21, 20, 0, 1, 2, 3, 4, 5, 6, 7, 8, 9, 10, 11, 12, 13, 14, 15, 16, 17, 18, 19, 20, 21], [21])])
def spec_l23Within.B1 : List Nat := [0, 1, 3, 7, 15, 31, 63, 127, 255, 255, 767, 1791, 3839, 255, 255, 16639, 49407, 123135, 254207, 516351, 1048575, 2097151, 4194303]
theorem spec_l23Within.tab1 : rtab .any (opsOf Try.f54 1) = spec_l23Within.T1 := by kernel_rfl
theorem spec_l23Within.bits1 : waitsOk spec_l23Within.T1.2 spec_l23Within.B1 = true := by kernel_rfl
abbrev spec_l23Within.mk0 : Array Bool := #[fF,fF,fF,fF,fF,fF,fF,fF,fF,fF,fF,fF,fF,fF,fF,fF,fF,fF,fF,fF,fF,fF,fF]
abbrev spec_l23Within.mk1 : Array Bool := #[tT,fF,fF,fF,fF,fF,fF,fF,fF,fF,fF,fF,fF,fF,fF,fF,fF,fF,fF,fF,fF,fF,fF]
abbrev spec_l23Within.mk2 : Array Bool := #[tT,tT,fF,fF,fF,fF,fF,fF,fF,fF,fF,fF,fF,fF,fF,fF,fF,fF,fF,fF,fF,fF,fF]
abbrev spec_l23Within.mk3 : Array Bool := #[tT,tT,tT,fF,fF,fF,fF,fF,fF,fF,fF,fF,fF,fF,fF,fF,fF,fF,fF,fF,fF,fF,fF]
abbrev spec_l23Within.mk4 : Array Bool := #[tT,tT,tT,tT,fF,fF,fF,fF,fF,fF,fF,fF,fF,fF,fF,fF,fF,fF,fF,fF,fF,fF,fF]
abbrev spec_l23Within.mk5 : Array Bool := #[tT,tT,tT,tT,tT,fF,fF,fF,fF,fF,fF,fF,fF,fF,fF,fF,fF,fF,fF,fF,fF,fF,fF]
abbrev spec_l23Within.mk6 : Array Bool := #[tT,tT,tT,tT,tT,tT,fF,fF,fF,fF,fF,fF,fF,fF,fF,fF,fF,fF,fF,fF,fF,fF,fF]
abbrev spec_l23Within.mk7 : Array Bool := #[tT,tT,tT,tT,tT,tT,tT,fF,fF,fF,fF,fF,fF,fF,fF,fF,fF,fF,fF,fF,fF,fF,fF]
abbrev spec_l23Within.mk8 : Array Bool := #[tT,tT,tT,tT,tT,tT,tT,tT,fF,fF,fF,fF,fF,fF,fF,fF,fF,fF,fF,fF,fF,fF,fF]
abbrev spec_l23Within.mk9 : Array Bool := #[tT,tT,tT,tT,tT,tT,tT,tT,tT,fF,fF,fF,fF,fF,fF,fF,fF,fF,fF,fF,fF,fF,fF]
abbrev spec_l23Within.mk10 : Array Bool := #[tT,tT,tT,tT,tT,tT,tT,tT,tT,tT,fF,fF,fF,fF,fF,fF,fF,fF,fF,fF,fF,fF,fF]
abbrev spec_l23Within.mk11 : Array Bool := #[tT,tT,tT,tT,tT,tT,tT,tT,tT,tT,tT,fF,fF,fF,fF,fF,fF,fF,fF,fF,fF,fF,fF]
abbrev spec_l23Within.mk12 : Array Bool := #[tT,tT,tT,tT,tT,tT,tT,tT,tT,tT,tT,tT,fF,fF,fF,fF,fF,fF,fF,fF,fF,fF,fF]
abbrev spec_l23Within.mk13 : Array Bool := #[tT,tT,tT,tT,tT,tT,tT,tT,tT,tT,tT,tT,fF,tT,fF,fF,fF,fF,fF,fF,fF,fF,fF]
abbrev spec_l23Within.mk14 : Array Bool := #[tT,tT,tT,tT,tT,tT,tT,tT,tT,tT,tT,tT,fF,tT,tT,fF,fF,fF,fF,fF,fF,fF,fF]
abbrev spec_l23Within.mk15 : Array Bool := #[tT,tT,tT,tT,tT,tT,tT,tT,tT,tT,tT,tT,fF,tT,tT,tT,fF,fF,fF,fF,fF,fF,fF]
abbrev spec_l23Within.mk16 : Array Bool := #[tT,tT,tT,tT,tT,tT,tT,tT,tT,tT,tT,tT,fF,tT,tT,tT,tT,fF,fF,fF,fF,fF,fF]
abbrev spec_l23Within.mk17 : Array Bool := #[tT,tT,tT,tT,tT,tT,tT,tT,tT,tT,tT,tT,fF,tT,tT,tT,tT,tT,fF,fF,fF,fF,fF]
abbrev spec_l23Within.mk18 : Array Bool := #[tT,tT,tT,tT,tT,tT,tT,tT,tT,tT,tT,tT,fF,tT,tT,tT,tT,tT,tT,fF,fF,fF,fF]
abbrev spec_l23Within.mk19 : Array Bool := #[tT,tT,tT,tT,tT,tT,tT,tT,tT,tT,tT,tT,tT,tT,tT,tT,tT,tT,tT,fF,fF,fF,fF]
abbrev spec_l23Within.mk20 : Array Bool := #[tT,tT,tT,tT,tT,tT,tT,tT,tT,tT,tT,tT,tT,tT,tT,tT,tT,tT,tT,tT,fF,fF,fF]
abbrev spec_l23Within.mk21 : Array Bool := #[tT,tT,tT,tT,tT,tT,tT,tT,tT,tT,tT,tT,tT,tT,tT,tT,tT,tT,tT,tT,tT,fF,fF]
abbrev spec_l23Within.mk22 : Array Bool := #[tT,tT,tT,tT,tT,tT,tT,tT,tT,tT,tT,tT,tT,tT,tT,tT,tT,tT,tT,tT,tT,tT,fF]
abbrev spec_l23Within.mk23 : Array Bool := #[tT,tT,tT,tT,tT,tT,tT,tT,tT,tT,tT,tT,tT,tT,tT,tT,tT,tT,tT,tT,tT,tT,tT]
abbrev spec_l23Within.mk24 : Array Bool := #[tT,tT,tT,tT,tT,tT,tT,tT,tT,tT,tT,tT,tT,fF,fF,fF,fF,fF,fF,fF,fF,fF,fF]
abbrev spec_l23Within.mk25 : Array Bool := #[tT,tT,tT,tT,tT,tT,tT,tT,tT,tT,tT,tT,tT,tT,fF,fF,fF,fF,fF,fF,fF,fF,fF]
abbrev spec_l23Within.mk26 : Array Bool := #[tT,tT,tT,tT,tT,tT,tT,tT,tT,tT,tT,tT,tT,tT,tT,fF,fF,fF,fF,fF,fF,fF,fF]
abbrev spec_l23Within.mk27 : Array Bool := #[tT,tT,tT,tT,tT,tT,tT,tT,tT,tT,tT,tT,tT,tT,tT,tT,fF,fF,fF,fF,fF,fF,fF]
abbrev spec_l23Within.mk28 : Array Bool := #[tT,tT,tT,tT,tT,tT,tT,tT,tT,tT,tT,tT,tT,tT,tT,tT,tT,fF,fF,fF,fF,fF,fF]
abbrev spec_l23Within.mk29 : Array Bool := #[tT,tT,tT,tT,tT,tT,tT,tT,tT,tT,tT,tT,tT,tT,tT,tT,tT,tT,fF,fF,fF,fF,fF]
set_option maxHeartbeats 8000000 in
set_option maxRecDepth 100000 in
theorem spec_l23Within.calls (k : Nat) (A0 : Option Addr) (c0 : Nat) (l0 : List (S54)) (a1 : Int) (r : Bool) (w : World) (hr0 : Kd.C k54 w A0 l0.length l0) (hc0 : l0.length ≤ c0) (h : spec_l23Within.f k l0 a1 = some r) :
  Calls Try.prog 54 #[.slice A0 l0.length c0, .int .i64 a1] w fun e w' => e = .returned (.bool r) ∧ Below w.heap.size w w' := by
 have HR0 := Aside0.mk hr0
 have HC0 := Aside0.mk hc0
 clear hr0 hc0
 have HB := Aside0.mk (Below.refl w.heap.size w)
 have H : ((spec_l23Good.f k l0).bind fun t108 => (if t108 = true then (if (l0.length : Int) > 0 then (if 0 < (l0.length : Int) then (if 0 ≤ (wrap64 ((l0.length : Int) - 1)) then (if (wrap64 ((l0.length : Int) - 1)) < (l0.length : Int) then ((spec_l1In.f a1 ((rd_T54 l0 0).f0) ((rd_T54 l0 (wrap64 ((l0.length : Int) - 1))).f0)).bind fun t111 => (some t111)) else (none)) else (none)) else (none)) else (some false)) else (some false))) = some r := h
 clear h
 replace H := Option.bind_eq_some_iff.mp H
 obtain ⟨t108, A30, H⟩ := H
 replace H : (if t108 = true then (if (l0.length : Int) > 0 then (if 0 < (l0.length : Int) then (if 0 ≤ (wrap64 ((l0.length : Int) - 1)) then (if (wrap64 ((l0.length : Int) - 1)) < (l0.length : Int) then ((spec_l1In.f a1 ((rd_T54 l0 0).f0) ((rd_T54 l0 (wrap64 ((l0.length : Int) - 1))).f0)).bind fun t111 => (some t111)) else (none)) else (none)) else (none)) else (some false)) else (some false)) = some r := H
 have A3 := Aside0.mk A30
 clear A30
 by_cases c4 : t108 = true
 ·
  subst c4
  have H1 : (if (l0.length : Int) > 0 then (if 0 < (l0.length : Int) then (if 0 ≤ (wrap64 ((l0.length : Int) - 1)) then (if (wrap64 ((l0.length : Int) - 1)) < (l0.length : Int) then ((spec_l1In.f a1 ((rd_T54 l0 0).f0) ((rd_T54 l0 (wrap64 ((l0.length : Int) - 1))).f0)).bind fun t111 => (some t111)) else (none)) else (none)) else (none)) else (some false)) = some r := by rw [if_pos rfl] at H; exact H
  clear H
  have H := H1
  clear H1
  by_cases c5 : (l0.length : Int) > 0
  ·
   rw [if_pos c5] at H
   have c5b0 : decide (0 < (l0.length : Int)) = true := decide_eq_true c5
   have c5b1 : decide (0 < l0.length) = true := decide_eq_true (by omega)
   clear c5
   by_cases c6 : 0 < (l0.length : Int)
   ·
    rw [if_pos c6] at H
    have c6b0 : decide (0 < (l0.length : Int)) = true := decide_eq_true c6
    have c6b1 : decide (0 < l0.length) = true := decide_eq_true (by omega)
    clear c6
    obtain ⟨ji7, hji7⟩ : ∃ j_ : Int, (wrap64 ((l0.length : Int) - 1)) = j_ := ⟨_, rfl⟩
    replace H : (if 0 ≤ (ji7) then (if (ji7) < (l0.length : Int) then ((spec_l1In.f a1 ((rd_T54 l0 0).f0) ((rd_T54 l0 (ji7)).f0)).bind fun t111 => (some t111)) else (none)) else (none)) = some r := by first | (rw [hji7] at H; exact H) | (simp only [hji7] at H ⊢; exact H)
    (try rw [hji7] at A3)
    have hji7w : (IntKind.i64.wrap ((l0.length : Int) - 1)) = ji7 := (i64_w _).trans hji7
    by_cases c8 : 0 ≤ (ji7)
    ·
     rw [if_pos c8] at H
     have c8b0 : decide (0 ≤ (ji7)) = true := decide_eq_true c8
     clear c8
     by_cases c9 : (ji7) < (l0.length : Int)
     ·
      rw [if_pos c9] at H
      have c9b0 : decide ((ji7) < (l0.length : Int)) = true := decide_eq_true c9
      clear c9
      replace H := Option.bind_eq_some_iff.mp H
      obtain ⟨t111, A100, H⟩ := H
      replace H : (some t111) = some r := H
      have A10 := Aside0.mk A100
      clear A100
      obtain rfl := Option.some.inj H
      go_enter Try.func54, Try.ntmps54
      try go_wp2
      replace HB := Aside0.mk (below_drew1 HB.out)
      have p109 : 0 ≤ (0 : Int) := (by omega)
      have q109 : 0 < (l0.length : Int) := dt_
      obtain ⟨ad109, e109, hx109_0, hx109_1⟩ := at_T54 HR0.out 0 p109 q109
      have hw109_1 := hx109_1
      (try rw [show ((0 : Int)).toNat = 0 from rfl] at hw109_1)
      (try rw [show 0 * 2 = 0 from rfl] at hw109_1)
      (try rw [Addr.add_zero'] at hw109_1)
      have hw109_0 := hx109_0
      (try rw [show ((0 : Int)).toNat = 0 from rfl] at hw109_0)
      (try rw [show 0 * 2 = 0 from rfl] at hw109_0)
      (try rw [Addr.add_zero'] at hw109_0)
      cases e109
      have qi109 : (0 < l0.length) = True := eq_true (by omega)
      (try rw [show ((0 : Int)).toNat = 0 from rfl] at hx109_0)
      (try rw [show 0 * 2 = 0 from rfl] at hx109_0)
      (try rw [Addr.add_zero'] at hx109_0)
      (try rw [show ((0 : Int)).toNat = 0 from rfl] at hx109_1)
      (try rw [show 0 * 2 = 0 from rfl] at hx109_1)
      (try rw [Addr.add_zero'] at hx109_1)
      replace hx109_0 := bc_ HB.out hx109_0
      replace hx109_1 := bc_ HB.out hx109_1
      replace p109 := eq_true p109
      replace q109 := eq_true q109
      have p110 : 0 ≤ ((ji7) : Int) := dt_
      have q110 : (ji7) < (l0.length : Int) := dt_
      obtain ⟨ad110, e110, hx110_0, hx110_1⟩ := at_T54 HR0.out (ji7) p110 q110
      have hw110_1 := hx110_1
      have hw110_0 := hx110_0
      obtain rfl : ad109 = ad110 := (by injection e110)
      replace hx110_0 := bc_ HB.out hx110_0
      replace hx110_1 := bc_ HB.out hx110_1
      replace p110 := eq_true p110
      replace q110 := eq_true q110
      refine start_ (n := 23) (S := fun w' => w'.cell? ad109 = some (.int .i64 ((rd_T54 l0 0).f0)) ∧ w'.cell? ⟨ad109.block, ad109.off + 1, none⟩ = some (.int .i64 ((rd_T54 l0 0).f1)) ∧ w'.cell? (ad109.add (((ji7)).toNat * 2)) = some (.int .i64 ((rd_T54 l0 (ji7)).f0)) ∧ w'.cell? ⟨(ad109.add (((ji7)).toNat * 2)).block, (ad109.add (((ji7)).toNat * 2)).off + 1, none⟩ = some (.int .i64 ((rd_T54 l0 (ji7)).f1))) (ds := []) spec_l23Within.mk0 (by kernel_rfl) rfl rfl ⟨(bc_ HB.out hw109_0), (bc_ HB.out hw109_1), (bc_ HB.out hw110_0), (bc_ HB.out hw110_1)⟩ (fun hHeld => ?_); refine with_tabW spec_l23Within.tab1 spec_l23Within.bits1 (fun HT_ HW_ => ?_)
      generalize w.drew = w11 at HB hx109_0 hx109_1 hx110_0 hx110_1 hHeld ⊢
      refine pz_ HT_ 0 (some 5) spec_l23Within.mk1 ?_
      refine one_ (i := 1) (N := some 6) spec_l23Within.mk2 rfl rfl (one_of HT_.out (by kernel_rfl)) (by decide) (fun K hK => ?_)
      refine gs_ Try.func62 #[.slice (some ad109) l0.length c0] ?_
      with_reducible refine (spec_l23Good.calls k _ _ l0 true _ ?side1 ?side2 A3.out).mono ?_
      (case side1 => exact kc_ (Kd.C_below HR0.out HB.out))
      (case side2 => exact HC0.out)
      rintro e w12 ⟨rfl, hb⟩
      refine ⟨_, rfl, ?_⟩
      replace HB := Aside0.mk (below_step (lb0_ HB.out) hb)
      (try clear hb)
      (try clear hb2)
      (try clear hk)
      (try clear hi)
      refine hK.out _ _ ⟨((HB.out.cell (World.block_lt_of_cell? w _ hw109_0)).trans hw109_0), ((HB.out.cell (World.block_lt_of_cell? w _ hw109_1)).trans hw109_1), ((HB.out.cell (World.block_lt_of_cell? w _ hw110_0)).trans hw110_0), ((HB.out.cell (World.block_lt_of_cell? w _ hw110_1)).trans hw110_1)⟩ (fun hHeld => ?_)
      clear hK K
      refine na_ ?_
      refine pz_ HT_ 2 (some 7) spec_l23Within.mk3 ?_
      refine pz_ HT_ 3 (some 8) spec_l23Within.mk4 ?_
      refine pz_ HT_ 4 (some 9) spec_l23Within.mk5 ?_
      refine pz_ HT_ 5 (some 10) spec_l23Within.mk6 ?_
      refine pz_ HT_ 6 (some 11) spec_l23Within.mk7 ?_
      refine pz_ HT_ 7 (some 12) spec_l23Within.mk8 ?_
      refine pz_ HT_ 8 (some 13) spec_l23Within.mk9 ?_
      refine pz_ HT_ 9 (some 14) spec_l23Within.mk10 ?_
      refine pz_ HT_ 10 (some 15) spec_l23Within.mk11 ?_
      refine pz_ HT_ 11 (some 16) spec_l23Within.mk12 ?_
      refine pz_ HT_ 13 (some 18) spec_l23Within.mk13 ?_
      refine pz_ HT_ 14 (some 19) spec_l23Within.mk14 ?_
      refine pz_ HT_ 15 (some 20) spec_l23Within.mk15 ?_
      refine pz_ HT_ 16 (some 21) spec_l23Within.mk16 ?_
      refine pz_ HT_ 17 (some 22) spec_l23Within.mk17 ?_
      refine pz_ HT_ 18 (some 23) spec_l23Within.mk18 ?_
      refine tk_ HT_ HW_ hHeld 12 (some 17) spec_l23Within.mk19 ?_
      refine tk_ HT_ HW_ hHeld 19 (some 24) spec_l23Within.mk20 ?_
      refine one_ (i := 20) (N := some 25) spec_l23Within.mk21 rfl rfl (one_of HT_.out (by kernel_rfl)) (by decide) (fun K hK => ?_)
      refine goes_ Try.func79 (by kernel_rfl) rfl #[.int .i64 a1, .int .i64 ((rd_T54 l0 0).f0), .int .i64 ((rd_T54 l0 (ji7)).f0)] (by rfl) rfl rfl (by (try simp only [List.map_toArray, List.map_cons, List.map_nil]); first | done | (simp only [hji7]; rfl) | rfl | (simp only [List.length_drop, List.length_take]; rfl)) ?_
      with_reducible refine (spec_l1In.calls a1 ((rd_T54 l0 0).f0) ((rd_T54 l0 (ji7)).f0) t111 _ A10.out).mono ?_
      rintro e w' ⟨rfl, ⟨nd, rfl⟩⟩
      refine ⟨_, rfl, ?_⟩
      refine hK.out _ _ ⟨((HB.out.cell (World.block_lt_of_cell? w _ hw109_0)).trans hw109_0), ((HB.out.cell (World.block_lt_of_cell? w _ hw109_1)).trans hw109_1), ((HB.out.cell (World.block_lt_of_cell? w _ hw110_0)).trans hw110_0), ((HB.out.cell (World.block_lt_of_cell? w _ hw110_1)).trans hw110_1)⟩ (fun hHeld => ?_)
      clear hK K
      refine na_ ?_
      refine pz_ HT_ 21 (some 26) spec_l23Within.mk22 ?_
      refine pz_ HT_ 22 (some 4) spec_l23Within.mk23 ?_
      refine done_ (done_of HT_.out (by kernel_rfl)) ?_
      try go_wp2
      go_ret
      exact ⟨by first | rfl | (simp [errW_none, errW_some] <;> rfl) | (simp only [← hji7]; first | rfl | (simp [errW_none, errW_some] <;> rfl)) | (simp [*, errW_none, errW_some] <;> rfl), lb0_ HB.out⟩
     ·
      rw [if_neg c9] at H
      exact absurd H (by simp)
    ·
     rw [if_neg c8] at H
     exact absurd H (by simp)
   ·
    rw [if_neg c6] at H
    exact absurd H (by simp)
  ·
   rw [if_neg c5] at H
   have c5b0 : decide (0 < (l0.length : Int)) = false := decide_eq_false c5
   have c5b1 : decide (0 < l0.length) = false := decide_eq_false (by omega)
   clear c5
   obtain rfl := Option.some.inj H
   go_enter Try.func54, Try.ntmps54
   try go_wp2
   replace HB := Aside0.mk (below_drew1 HB.out)
   refine start_ (n := 23) (S := fun w' => True) (ds := []) spec_l23Within.mk0 (by kernel_rfl) rfl rfl trivial (fun hHeld => ?_); refine with_tabW spec_l23Within.tab1 spec_l23Within.bits1 (fun HT_ HW_ => ?_)
   generalize w.drew = w13 at HB hHeld ⊢
   refine pz_ HT_ 0 (some 5) spec_l23Within.mk1 ?_
   refine one_ (i := 1) (N := some 6) spec_l23Within.mk2 rfl rfl (one_of HT_.out (by kernel_rfl)) (by decide) (fun K hK => ?_)
   refine gs_ Try.func62 #[.slice A0 l0.length c0] ?_
   with_reducible refine (spec_l23Good.calls k _ _ l0 true _ ?side1 ?side2 A3.out).mono ?_
   (case side1 => exact kc_ (Kd.C_below HR0.out HB.out))
   (case side2 => exact HC0.out)
   rintro e w14 ⟨rfl, hb⟩
   refine ⟨_, rfl, ?_⟩
   replace HB := Aside0.mk (below_step (lb0_ HB.out) hb)
   (try clear hb)
   (try clear hb2)
   (try clear hk)
   (try clear hi)
   refine hK.out _ _ trivial (fun hHeld => ?_)
   clear hK K
   refine na_ ?_
   refine pz_ HT_ 2 (some 7) spec_l23Within.mk3 ?_
   refine pz_ HT_ 3 (some 8) spec_l23Within.mk4 ?_
   refine pz_ HT_ 4 (some 9) spec_l23Within.mk5 ?_
   refine pz_ HT_ 5 (some 10) spec_l23Within.mk6 ?_
   refine pz_ HT_ 6 (some 11) spec_l23Within.mk7 ?_
   refine pz_ HT_ 7 (some 12) spec_l23Within.mk8 ?_
   refine pu_ HT_ 8 (some 13) spec_l23Within.mk9 ?_
   refine pu_ HT_ 9 (some 14) spec_l23Within.mk10 ?_
   refine pu_ HT_ 10 (some 15) spec_l23Within.mk11 ?_
   refine pu_ HT_ 11 (some 16) spec_l23Within.mk12 ?_
   refine pu_ HT_ 12 (some 17) spec_l23Within.mk24 ?_
   refine pu_ HT_ 13 (some 18) spec_l23Within.mk25 ?_
   refine pu_ HT_ 14 (some 19) spec_l23Within.mk26 ?_
   refine pu_ HT_ 15 (some 20) spec_l23Within.mk27 ?_
   refine pu_ HT_ 16 (some 21) spec_l23Within.mk28 ?_
   refine pu_ HT_ 17 (some 22) spec_l23Within.mk29 ?_
   refine pu_ HT_ 18 (some 23) spec_l23Within.mk19 ?_
   refine pu_ HT_ 19 (some 24) spec_l23Within.mk20 ?_
   refine pu_ HT_ 20 (some 25) spec_l23Within.mk21 ?_
   refine pz_ HT_ 21 (some 26) spec_l23Within.mk22 ?_
   refine pz_ HT_ 22 (some 4) spec_l23Within.mk23 ?_
   refine done_ (done_of HT_.out (by kernel_rfl)) ?_
   try go_wp2
   go_ret
   exact ⟨rr_, lb0_ HB.out⟩
 ·
  replace c4 := Bool.eq_false_iff.mpr c4
  subst c4
  have H1 : (some false) = some r := by rw [if_neg (show ¬ (false = true) by decide)] at H; exact H
  clear H
  have H := H1
  clear H1
  obtain rfl := Option.some.inj H
  go_enter Try.func54, Try.ntmps54
  try go_wp2
  replace HB := Aside0.mk (below_drew1 HB.out)
  refine start_ (n := 23) (S := fun w' => True) (ds := []) spec_l23Within.mk0 (by kernel_rfl) rfl rfl trivial (fun hHeld => ?_); refine with_tabW spec_l23Within.tab1 spec_l23Within.bits1 (fun HT_ HW_ => ?_)
  generalize w.drew = w15 at HB hHeld ⊢
  refine pz_ HT_ 0 (some 5) spec_l23Within.mk1 ?_
  refine one_ (i := 1) (N := some 6) spec_l23Within.mk2 rfl rfl (one_of HT_.out (by kernel_rfl)) (by decide) (fun K hK => ?_)
  refine gs_ Try.func62 #[.slice A0 l0.length c0] ?_
  with_reducible refine (spec_l23Good.calls k _ _ l0 false _ ?side1 ?side2 A3.out).mono ?_
  (case side1 => exact kc_ (Kd.C_below HR0.out HB.out))
  (case side2 => exact HC0.out)
  rintro e w16 ⟨rfl, hb⟩
  refine ⟨_, rfl, ?_⟩
  replace HB := Aside0.mk (below_step (lb0_ HB.out) hb)
  (try clear hb)
  (try clear hb2)
  (try clear hk)
  (try clear hi)
  refine hK.out _ _ trivial (fun hHeld => ?_)
  clear hK K
  refine na_ ?_
  refine pz_ HT_ 2 (some 7) spec_l23Within.mk3 ?_
  refine pu_ HT_ 3 (some 8) spec_l23Within.mk4 ?_
  refine pu_ HT_ 4 (some 9) spec_l23Within.mk5 ?_
  refine pu_ HT_ 5 (some 10) spec_l23Within.mk6 ?_
  refine pz_ HT_ 6 (some 11) spec_l23Within.mk7 ?_
  refine pz_ HT_ 7 (some 12) spec_l23Within.mk8 ?_
  refine pu_ HT_ 8 (some 13) spec_l23Within.mk9 ?_
  refine pu_ HT_ 9 (some 14) spec_l23Within.mk10 ?_
  refine pu_ HT_ 10 (some 15) spec_l23Within.mk11 ?_
  refine pu_ HT_ 11 (some 16) spec_l23Within.mk12 ?_
  refine pu_ HT_ 12 (some 17) spec_l23Within.mk24 ?_
  refine pu_ HT_ 13 (some 18) spec_l23Within.mk25 ?_
  refine pu_ HT_ 14 (some 19) spec_l23Within.mk26 ?_
  refine pu_ HT_ 15 (some 20) spec_l23Within.mk27 ?_
  refine pu_ HT_ 16 (some 21) spec_l23Within.mk28 ?_
  refine pu_ HT_ 17 (some 22) spec_l23Within.mk29 ?_
  refine pu_ HT_ 18 (some 23) spec_l23Within.mk19 ?_
  refine pu_ HT_ 19 (some 24) spec_l23Within.mk20 ?_
  refine pu_ HT_ 20 (some 25) spec_l23Within.mk21 ?_
  refine pz_ HT_ 21 (some 26) spec_l23Within.mk22 ?_
  refine pz_ HT_ 22 (some 4) spec_l23Within.mk23 ?_
  refine done_ (done_of HT_.out (by kernel_rfl)) ?_
  try go_wp2
  go_ret
  exact ⟨rr_, lb0_ HB.out⟩
def spec_l4Station.f (a0 : Int) : Option (Bool) := (spec_l1In.f a0 0 7).bind fun t112 => (some t112)
set_option maxHeartbeats 8000000 in
set_option maxRecDepth 100000 in
theorem spec_l4Station.calls (a0 : Int) (r : Bool) (w : World) (h : spec_l4Station.f a0 = some r) :
  Calls Try.prog 88 #[.int .i64 a0] w fun e w' => e = .returned (.bool r) ∧ Drawn0 w w' := by
 have H : ((spec_l1In.f a0 0 7).bind fun t112 => (some t112)) = some r := h
 clear h
 replace H := Option.bind_eq_some_iff.mp H
 obtain ⟨t112, A20, H⟩ := H
 replace H : (some t112) = some r := H
 have A2 := Aside0.mk A20
 clear A20
 obtain rfl := Option.some.inj H
 go_enter Try.func88, Try.ntmps88
 go_wp2_with (first | ((with_reducible refine gate_callee (f := 79) rfl ?_); refine ga_ (some 4) Try.func79 #[.int .i64 a0, .int .i64 0, .int .i64 7] ?_; (with_reducible refine (spec_l1In.calls a0 0 7 t112 _ A2.out).mono ?_); rintro e w' ⟨rfl, ⟨nd, rfl⟩⟩; refine ⟨_, rfl, ?_⟩))
 go_ret
 exact ⟨by first | rfl | (simp; done) | (simp [*]; done), by repeat (first | exact Drawn0.refl _ | apply Drawn0.step)⟩
def spec_l23Sump.f (a0_0 : Int) (a0_1 : Int) (a0_2 : Int) : Option (Bool) := (spec_l4Station.f a0_0).bind fun t114 => (if t114 = true then ((spec_l23Level.f a0_1).bind fun t115 => (if t115 = true then ((spec_l1In.f a0_2 (-500) a0_1).bind fun t116 => (some t116)) else (some false))) else (some false))
set_option maxHeartbeats 8000000 in
set_option maxRecDepth 100000 in
theorem spec_l23Sump.calls (a0_0 : Int) (a0_1 : Int) (a0_2 : Int) (r : Bool) (w : World) (h : spec_l23Sump.f a0_0 a0_1 a0_2 = some r) :
  Calls Try.prog 55 #[.agg #[.int .i64 a0_0, .int .i64 a0_1, .int .i64 a0_2]] w fun e w' => e = .returned (.bool r) ∧ Below w.heap.size w w' := by
 have hu30 := Try.underlying30
 have HB := Aside0.mk (Below.refl w.heap.size w)
 have H : ((spec_l4Station.f a0_0).bind fun t114 => (if t114 = true then ((spec_l23Level.f a0_1).bind fun t115 => (if t115 = true then ((spec_l1In.f a0_2 (-500) a0_1).bind fun t116 => (some t116)) else (some false))) else (some false))) = some r := h
 clear h
 replace H := Option.bind_eq_some_iff.mp H
 obtain ⟨t114, A20, H⟩ := H
 replace H : (if t114 = true then ((spec_l23Level.f a0_1).bind fun t115 => (if t115 = true then ((spec_l1In.f a0_2 (-500) a0_1).bind fun t116 => (some t116)) else (some false))) else (some false)) = some r := H
 have A2 := Aside0.mk A20
 clear A20
 by_cases c3 : t114 = true
 ·
  subst c3
  have H1 : ((spec_l23Level.f a0_1).bind fun t115 => (if t115 = true then ((spec_l1In.f a0_2 (-500) a0_1).bind fun t116 => (some t116)) else (some false))) = some r := by rw [if_pos rfl] at H; exact H
  clear H
  have H := H1
  clear H1
  replace H := Option.bind_eq_some_iff.mp H
  obtain ⟨t115, A40, H⟩ := H
  replace H : (if t115 = true then ((spec_l1In.f a0_2 (-500) a0_1).bind fun t116 => (some t116)) else (some false)) = some r := H
  have A4 := Aside0.mk A40
  clear A40
  by_cases c5 : t115 = true
  ·
   subst c5
   have H1 : ((spec_l1In.f a0_2 (-500) a0_1).bind fun t116 => (some t116)) = some r := by rw [if_pos rfl] at H; exact H
   clear H
   have H := H1
   clear H1
   replace H := Option.bind_eq_some_iff.mp H
   obtain ⟨t116, A60, H⟩ := H
   replace H : (some t116) = some r := H
   have A6 := Aside0.mk A60
   clear A60
   obtain rfl := Option.some.inj H
   go_enter Try.func55, Try.ntmps55
   go_wp2_with (first | ((with_reducible refine gate_dst (N := 1) rfl ?_); refine box_event ?hg (N := 1) ?hd (cs := #[.int .i64 a0_0, .int .i64 a0_1, .int .i64 a0_2]) (t := 30) ?hr ?_; (case hd => rfl); (case hg => rfl); (case hr => first | (go_simp; done) | (go_simp; rfl)); intro gb113 hg w7 hbox hb; have BK113 := Aside0.mk (hbox); have GW113 := Aside0.mk ((bz_ hg (lb0_ HB.out))); have GE113 := Aside0.mk ((bz_ hg (lb0_ HB.out))); replace HB := Aside0.mk (below_step (lb0_ HB.out) hb); clear hb hbox hg; obtain ⟨hcz8_0, hcz8_1, hcz8_2⟩ := cz3_ BK113.out; obtain ⟨hfz8_0, hfz8_1, hfz8_2⟩ := fz3_ BK113.out) | ((with_reducible refine gate_callee (f := 88) rfl ?_); refine ga_ (some 5) Try.func88 #[.int .i64 a0_0] ?_; (with_reducible refine (spec_l4Station.calls a0_0 true _ A2.out).mono ?_); rintro e w' ⟨rfl, ⟨nd, rfl⟩⟩; refine ⟨_, rfl, ?_⟩) | (go_at_call 89; (with_reducible refine (spec_l23Level.calls a0_1 true _ A4.out).mono ?_); rintro e w' ⟨rfl, ⟨nd, rfl⟩⟩) | (go_at_call 79; (with_reducible refine (spec_l1In.calls a0_2 (-500) a0_1 t116 _ A6.out).mono ?_); rintro e w' ⟨rfl, ⟨nd, rfl⟩⟩))
   go_ret
   exact ⟨rr_, lb1_ HB.out GE113.out⟩
  ·
   replace c5 := Bool.eq_false_iff.mpr c5
   subst c5
   have H1 : (some false) = some r := by rw [if_neg (show ¬ (false = true) by decide)] at H; exact H
   clear H
   have H := H1
   clear H1
   obtain rfl := Option.some.inj H
   go_enter Try.func55, Try.ntmps55
   go_wp2_with (first | ((with_reducible refine gate_dst (N := 1) rfl ?_); refine box_event ?hg (N := 1) ?hd (cs := #[.int .i64 a0_0, .int .i64 a0_1, .int .i64 a0_2]) (t := 30) ?hr ?_; (case hd => rfl); (case hg => rfl); (case hr => first | (go_simp; done) | (go_simp; rfl)); intro gb113 hg w9 hbox hb; have BK113 := Aside0.mk (hbox); have GW113 := Aside0.mk ((bz_ hg (lb0_ HB.out))); have GE113 := Aside0.mk ((bz_ hg (lb0_ HB.out))); replace HB := Aside0.mk (below_step (lb0_ HB.out) hb); clear hb hbox hg; obtain ⟨hcz10_0, hcz10_1, hcz10_2⟩ := cz3_ BK113.out; obtain ⟨hfz10_0, hfz10_1, hfz10_2⟩ := fz3_ BK113.out) | ((with_reducible refine gate_callee (f := 88) rfl ?_); refine ga_ (some 5) Try.func88 #[.int .i64 a0_0] ?_; (with_reducible refine (spec_l4Station.calls a0_0 true _ A2.out).mono ?_); rintro e w' ⟨rfl, ⟨nd, rfl⟩⟩; refine ⟨_, rfl, ?_⟩) | (go_at_call 89; (with_reducible refine (spec_l23Level.calls a0_1 false _ A4.out).mono ?_); rintro e w' ⟨rfl, ⟨nd, rfl⟩⟩))
   go_ret
   exact ⟨rr_, lb1_ HB.out GE113.out⟩
 ·
  replace c3 := Bool.eq_false_iff.mpr c3
  subst c3
  have H1 : (some false) = some r := by rw [if_neg (show ¬ (false = true) by decide)] at H; exact H
  clear H
  have H := H1
  clear H1
  obtain rfl := Option.some.inj H
  go_enter Try.func55, Try.ntmps55
  go_wp2_with (first | ((with_reducible refine gate_dst (N := 1) rfl ?_); refine box_event ?hg (N := 1) ?hd (cs := #[.int .i64 a0_0, .int .i64 a0_1, .int .i64 a0_2]) (t := 30) ?hr ?_; (case hd => rfl); (case hg => rfl); (case hr => first | (go_simp; done) | (go_simp; rfl)); intro gb113 hg w11 hbox hb; have BK113 := Aside0.mk (hbox); have GW113 := Aside0.mk ((bz_ hg (lb0_ HB.out))); have GE113 := Aside0.mk ((bz_ hg (lb0_ HB.out))); replace HB := Aside0.mk (below_step (lb0_ HB.out) hb); clear hb hbox hg; obtain ⟨hcz12_0, hcz12_1, hcz12_2⟩ := cz3_ BK113.out; obtain ⟨hfz12_0, hfz12_1, hfz12_2⟩ := fz3_ BK113.out) | ((with_reducible refine gate_callee (f := 88) rfl ?_); refine ga_ (some 5) Try.func88 #[.int .i64 a0_0] ?_; (with_reducible refine (spec_l4Station.calls a0_0 false _ A2.out).mono ?_); rintro e w' ⟨rfl, ⟨nd, rfl⟩⟩; refine ⟨_, rfl, ?_⟩))
  go_ret
  exact ⟨rr_, lb1_ HB.out GE113.out⟩
def spec_l23Common.l0 : Nat → Int → Int → Option (Int)
 | 0, _, _ => none
 | k + 1, x0, x1 => if x1 > 0 then (if x1 = 0 then (none) else (spec_l23Common.l0 k x1 (Int.tmod x0 x1))) else (some x0)
def spec_l23Common.f (k : Nat) (a0 : Int) (a1 : Int) : Option (Int) := spec_l23Common.l0 k a0 a1
set_option maxHeartbeats 8000000 in
set_option maxRecDepth 100000 in
theorem spec_l23Common.calls (k : Nat) (a0 : Int) (a1 : Int) (r : Int) (w : World) (h : spec_l23Common.f k a0 a1 = some r) :
  Calls Try.prog 94 #[.int .i64 a0, .int .i64 a1] w fun e w' => e = .returned (.int .i64 r) ∧ Drawn0 w w' := by
 have H : (spec_l23Common.l0 k a0 a1) = some r := h
 clear h
 have H' := Aside0.mk H
 clear H
 go_enter Try.func94, Try.ntmps94
 go_wp2
 go_loopg [0, 1] k (fun kq v0 v1 w' => ∃ (x0_1 : Int) (x1_1 : Int), v0 = .int .i64 x0_1 ∧ v1 = .int .i64 x1_1 ∧ Aside0 (spec_l23Common.l0 kq x0_1 x1_1 = some r) ∧ Aside0 (kq ≤ k) ∧ Drawn0 w w')
 case atStart => exact ⟨(a0), (a1), (by first | rfl | (simp; done) | (simp [*]; done)), (by first | rfl | (simp; done) | (simp [*]; done)), H', ⟨Nat.le_refl _⟩, by repeat (first | exact Drawn0.refl _ | apply Drawn0.step)⟩
 case round =>
  clear H'
  try clear p2
  obtain ⟨x0_1, x1_1, rfl, rfl, HA, HK1, ⟨m1, rfl⟩⟩ := hrel
  cases gk with
  | zero => exact absurd HA.out (by simp [spec_l23Common.l0])
  | succ k1 =>
   have H := HA.out
   clear HA
   simp only [spec_l23Common.l0] at H
   by_cases c3 : x1_1 > 0
   ·
    rw [if_pos c3] at H
    have c3b0 : decide (0 < x1_1) = true := decide_eq_true c3
    clear c3
    by_cases c4 : x1_1 = 0
    ·
     rw [if_pos c4] at H
     exact absurd H (by simp)
    ·
     rw [if_neg c4] at H
     have c4b0 : (x1_1 == 0) = false := beq_eq_false_iff_ne.mpr c4
     have c4b1 : (x1_1 != 0) = true := bne_iff_ne.mpr c4
     have H' := Aside0.mk H
     clear H
     go_wp2
     go_roundg k1
     case measure => have := HK1.out; omega
     case rel => exact ⟨(x1_1), (Int.tmod x0_1 x1_1), (by first | rfl | (simp; done) | (simp [*]; done)), (by first | rfl | (simp; done) | (simp [*]; done)), H', ⟨by have := HK1.out; omega⟩, by repeat (first | exact Drawn0.refl _ | apply Drawn0.step)⟩
   ·
    rw [if_neg c3] at H
    have c3b0 : decide (0 < x1_1) = false := decide_eq_false c3
    clear c3
    obtain rfl := Option.some.inj H
    go_wp2
    go_ret
    exact ⟨by first | rfl | (simp; done) | (simp [*]; done), by repeat (first | exact Drawn0.refl _ | apply Drawn0.step)⟩
def spec_l1Most.f (a0 : Int) (a1 : Int) : Option (Int) := if a0 > a1 then (some a0) else (some a1)
set_option maxHeartbeats 8000000 in
set_option maxRecDepth 100000 in
theorem spec_l1Most.calls (a0 : Int) (a1 : Int) (r : Int) (w : World) (h : spec_l1Most.f a0 a1 = some r) :
  Calls Try.prog 95 #[.int .i64 a0, .int .i64 a1] w fun e w' => e = .returned (.int .i64 r) ∧ Drawn0 w w' := by
 have H : (if a0 > a1 then (some a0) else (some a1)) = some r := h
 clear h
 by_cases c3 : a0 > a1
 ·
  rw [if_pos c3] at H
  have c3b0 : decide (a1 < a0) = true := decide_eq_true c3
  clear c3
  obtain rfl := Option.some.inj H
  go_enter Try.func95, Try.ntmps95
  go_wp2
  go_ret
  exact ⟨by first | rfl | (simp; done) | (simp [*]; done), by repeat (first | exact Drawn0.refl _ | apply Drawn0.step)⟩
 ·
  rw [if_neg c3] at H
  have c3b0 : decide (a1 < a0) = false := decide_eq_false c3
  clear c3
  obtain rfl := Option.some.inj H
  go_enter Try.func95, Try.ntmps95
  go_wp2
  go_ret
  exact ⟨by first | rfl | (simp; done) | (simp [*]; done), by repeat (first | exact Drawn0.refl _ | apply Drawn0.step)⟩
def spec_l23Reduce.f (k : Nat) (a0 : Int) (a1 : Int) : Option (Int × Int) := (spec_l1Most.f a0 (wrap64 (-a0))).bind fun t117 => ((spec_l23Common.f k t117 a1).bind fun t118 => (if t118 = 0 then (none) else (some (wrap64 (Int.tdiv a0 t118), wrap64 (Int.tdiv a1 t118)))))
set_option maxHeartbeats 8000000 in
set_option maxRecDepth 100000 in
theorem spec_l23Reduce.calls (k : Nat) (a0 : Int) (a1 : Int) (r1 : Int) (r2 : Int) (w : World) (h : spec_l23Reduce.f k a0 a1 = some (r1, r2)) :
  Calls Try.prog 73 #[.int .i64 a0, .int .i64 a1] w fun e w' => e = .returned (.tuple #[.int .i64 r1, .int .i64 r2]) ∧ Drawn0 w w' := by
 have H : ((spec_l1Most.f a0 (wrap64 (-a0))).bind fun t117 => ((spec_l23Common.f k t117 a1).bind fun t118 => (if t118 = 0 then (none) else (some (wrap64 (Int.tdiv a0 t118), wrap64 (Int.tdiv a1 t118)))))) = some (r1, r2) := h
 clear h
 replace H := Option.bind_eq_some_iff.mp H
 obtain ⟨t117, A30, H⟩ := H
 replace H : ((spec_l23Common.f k t117 a1).bind fun t118 => (if t118 = 0 then (none) else (some (wrap64 (Int.tdiv a0 t118), wrap64 (Int.tdiv a1 t118))))) = some (r1, r2) := H
 have A3 := Aside0.mk A30
 clear A30
 replace H := Option.bind_eq_some_iff.mp H
 obtain ⟨t118, A40, H⟩ := H
 replace H : (if t118 = 0 then (none) else (some (wrap64 (Int.tdiv a0 t118), wrap64 (Int.tdiv a1 t118)))) = some (r1, r2) := H
 have A4 := Aside0.mk A40
 clear A40
 by_cases c5 : t118 = 0
 ·
  rw [if_pos c5] at H
  exact absurd H (by simp)
 ·
  rw [if_neg c5] at H
  have c5b0 : (t118 == 0) = false := beq_eq_false_iff_ne.mpr c5
  have c5b1 : (t118 != 0) = true := bne_iff_ne.mpr c5
  simp only [Option.some.injEq, Prod.mk.injEq] at H
  obtain ⟨rfl, rfl⟩ := H
  go_enter Try.func73, Try.ntmps73
  go_wp2_with (first | (go_at_call 95; (with_reducible refine (spec_l1Most.calls a0 (wrap64 (-a0)) t117 _ A3.out).mono ?_); rintro e w' ⟨rfl, ⟨nd, rfl⟩⟩; (try first | exact ⟨rfl, _, World.drewN_drewN _ _ _⟩ | exact ⟨rfl, _, Eq.trans (World.drewN_drewN _ _ _) (congrArg (World.drewN _) (Nat.add_assoc _ _ _))⟩)) | (go_at_call 94; (with_reducible refine (spec_l23Common.calls k t117 a1 t118 _ A4.out).mono ?_); rintro e w' ⟨rfl, ⟨nd, rfl⟩⟩; (try first | exact ⟨rfl, _, World.drewN_drewN _ _ _⟩ | exact ⟨rfl, _, Eq.trans (World.drewN_drewN _ _ _) (congrArg (World.drewN _) (Nat.add_assoc _ _ _))⟩)))
  repeat (go_quiet (first | (go_at_call 95; (with_reducible refine (spec_l1Most.calls a0 (wrap64 (-a0)) t117 _ A3.out).mono ?_); rintro e w' ⟨rfl, ⟨nd, rfl⟩⟩; (try first | exact ⟨rfl, _, World.drewN_drewN _ _ _⟩ | exact ⟨rfl, _, Eq.trans (World.drewN_drewN _ _ _) (congrArg (World.drewN _) (Nat.add_assoc _ _ _))⟩)) | (go_at_call 94; (with_reducible refine (spec_l23Common.calls k t117 a1 t118 _ A4.out).mono ?_); rintro e w' ⟨rfl, ⟨nd, rfl⟩⟩; (try first | exact ⟨rfl, _, World.drewN_drewN _ _ _⟩ | exact ⟨rfl, _, Eq.trans (World.drewN_drewN _ _ _) (congrArg (World.drewN _) (Nat.add_assoc _ _ _))⟩))); try go_wp2_with (first | (go_at_call 95; (with_reducible refine (spec_l1Most.calls a0 (wrap64 (-a0)) t117 _ A3.out).mono ?_); rintro e w' ⟨rfl, ⟨nd, rfl⟩⟩; (try first | exact ⟨rfl, _, World.drewN_drewN _ _ _⟩ | exact ⟨rfl, _, Eq.trans (World.drewN_drewN _ _ _) (congrArg (World.drewN _) (Nat.add_assoc _ _ _))⟩)) | (go_at_call 94; (with_reducible refine (spec_l23Common.calls k t117 a1 t118 _ A4.out).mono ?_); rintro e w' ⟨rfl, ⟨nd, rfl⟩⟩; (try first | exact ⟨rfl, _, World.drewN_drewN _ _ _⟩ | exact ⟨rfl, _, Eq.trans (World.drewN_drewN _ _ _) (congrArg (World.drewN _) (Nat.add_assoc _ _ _))⟩))))
  go_ret2
  exact ⟨by first | rfl | (simp; done) | (simp [*]; done), by repeat (first | exact Drawn0.refl _ | apply Drawn0.step)⟩
def spec_l23In.l0 : Nat → List (S54) → Int → Int → Option (Int × Int)
 | 0, _, _, _ => none
 | k + 1, x0, x1, x6 => if 0 ≤ x6 then (if x6 < (x0.length : Int) then (if ((rd_T54 x0 x6).f0) < x1 then (spec_l23In.l0 k x0 x1 (wrap64 (x6 + 1))) else (if ((rd_T54 x0 x6).f0) = x1 then (some ((rd_T54 x0 x6).f1, 1)) else (if 0 ≤ (wrap64 (x6 - 1)) then (if (wrap64 (x6 - 1)) < (x0.length : Int) then ((spec_l23Reduce.f k (wrap64 ((wrap64 (((rd_T54 x0 (wrap64 (x6 - 1))).f1) * (wrap64 (((rd_T54 x0 x6).f0) - x1)))) + (wrap64 (((rd_T54 x0 x6).f1) * (wrap64 (x1 - ((rd_T54 x0 (wrap64 (x6 - 1))).f0))))))) (wrap64 (((rd_T54 x0 x6).f0) - ((rd_T54 x0 (wrap64 (x6 - 1))).f0)))).bind fun bt126 => (some (bt126.1, bt126.2))) else (none)) else (none)))) else (none)) else (none)
def spec_l23In.f (k : Nat) (l0 : List (S54)) (a1 : Int) : Option (Int × Int) := spec_l23In.l0 k l0 a1 0
def spec_l23In.T6 : Bool × List (List Nat × List Nat) := (true, [([], []), ([], []), ([1], [1]), ([0, 2], [0, 2]), ([3], [3]), ([], []), ([], []), ([5, 6], [5, 6]), ([7], [7]), ([], []), ([], []), ([9, 4, 0, 1, 2, 3, 4, 9, 10], [4, 9]), ([10, 8, 11, 0, 1, 2, 3, 4, 5, 6, 7, 8, 9, 10, 11], [8, 10])])
def spec_l23In.B6 : List Nat := [0, 0, 2, 7, 15, 0, 0, 96, 224, 0, 0, 1567, 4095]
theorem spec_l23In.tab6 : rtab .any (opsOf Try.f70 6) = spec_l23In.T6 := by kernel_rfl
theorem spec_l23In.bits6 : waitsOk spec_l23In.T6.2 spec_l23In.B6 = true := by kernel_rfl
abbrev spec_l23In.mk0 : Array Bool := #[fF,fF,fF,fF,fF,fF,fF,fF,fF,fF,fF,fF,fF]
abbrev spec_l23In.mk1 : Array Bool := #[tT,fF,fF,fF,fF,fF,fF,fF,fF,fF,fF,fF,fF]
abbrev spec_l23In.mk2 : Array Bool := #[tT,tT,fF,fF,fF,fF,fF,fF,fF,fF,fF,fF,fF]
abbrev spec_l23In.mk3 : Array Bool := #[tT,tT,tT,fF,fF,fF,fF,fF,fF,fF,fF,fF,fF]
abbrev spec_l23In.mk4 : Array Bool := #[tT,tT,tT,tT,fF,fF,fF,fF,fF,fF,fF,fF,fF]
abbrev spec_l23In.mk5 : Array Bool := #[tT,tT,tT,tT,fF,tT,fF,fF,fF,fF,fF,fF,fF]
abbrev spec_l23In.mk6 : Array Bool := #[tT,tT,tT,tT,fF,tT,tT,fF,fF,fF,fF,fF,fF]
abbrev spec_l23In.mk7 : Array Bool := #[tT,tT,tT,tT,fF,tT,tT,tT,fF,fF,fF,fF,fF]
abbrev spec_l23In.mk8 : Array Bool := #[tT,tT,tT,tT,tT,tT,tT,tT,fF,fF,fF,fF,fF]
abbrev spec_l23In.mk9 : Array Bool := #[tT,tT,tT,tT,tT,tT,tT,tT,tT,fF,fF,fF,fF]
abbrev spec_l23In.mk10 : Array Bool := #[tT,tT,tT,tT,tT,tT,tT,tT,tT,tT,tT,fF,fF]
abbrev spec_l23In.mk11 : Array Bool := #[tT,tT,tT,tT,tT,tT,tT,tT,tT,tT,fF,fF,fF]
abbrev spec_l23In.mk12 : Array Bool := #[tT,tT,tT,tT,tT,tT,tT,tT,tT,fF,tT,fF,fF]
abbrev spec_l23In.mk13 : Array Bool := #[tT,tT,tT,tT,tT,tT,tT,tT,tT,tT,tT,tT,fF]
abbrev spec_l23In.mk14 : Array Bool := #[tT,tT,tT,tT,tT,tT,tT,tT,tT,tT,tT,tT,tT]
set_option maxHeartbeats 8000000 in
set_option maxRecDepth 100000 in
theorem spec_l23In.calls (k : Nat) (A0 : Option Addr) (c0 : Nat) (l0 : List (S54)) (a1 : Int) (r1 : Int) (r2 : Int) (w : World) (hr0 : Kd.C k54 w A0 l0.length l0) (hc0 : l0.length ≤ c0) (h : spec_l23In.f k l0 a1 = some (r1, r2)) :
  Calls Try.prog 70 #[.slice A0 l0.length c0, .int .i64 a1] w fun e w' => e = .returned (.tuple #[.int .i64 r1, .int .i64 r2]) ∧ Below w.heap.size w w' := by
 have hu54 := Try.underlying54
 have HR0 := Aside0.mk hr0
 have HC0 := Aside0.mk hc0
 clear hr0 hc0
 have HB := Aside0.mk (Below.refl w.heap.size w)
 have H : (spec_l23In.l0 k l0 a1 0) = some (r1, r2) := h
 clear h
 have H' := Aside0.mk H
 clear H
 go_enter Try.func70, Try.ntmps70
 go_wp2
 go_loopg [6] k (fun kq v6 w' => ∃ (x6_1 : Int), v6 = .int .i64 x6_1 ∧ Aside0 (spec_l23In.l0 kq l0 a1 x6_1 = some (r1, r2)) ∧ Aside0 (kq ≤ k) ∧ Aside0 (Below w.heap.size w w'))
 case atStart => exact ⟨(0), (by first | rfl | (simp; done) | (simp [*]; done)), H', ⟨Nat.le_refl _⟩, ⟨lb0_ HB.out⟩⟩
 case round =>
  clear H'
  try clear p2
  obtain ⟨x6_1, rfl, HA, HK1, HB⟩ := hrel
  cases gk with
  | zero => exact absurd HA.out (by simp [spec_l23In.l0])
  | succ k1 =>
   have H := HA.out
   clear HA
   simp only [spec_l23In.l0] at H
   by_cases c3 : 0 ≤ x6_1
   ·
    rw [if_pos c3] at H
    have c3b0 : decide (0 ≤ x6_1) = true := decide_eq_true c3
    clear c3
    by_cases c4 : x6_1 < (l0.length : Int)
    ·
     rw [if_pos c4] at H
     have c4b0 : decide (x6_1 < (l0.length : Int)) = true := decide_eq_true c4
     clear c4
     by_cases c5 : ((rd_T54 l0 x6_1).f0) < a1
     ·
      rw [if_pos c5] at H
      have c5b0 : decide (((rd_T54 l0 x6_1).f0) < a1) = true := decide_eq_true c5
      clear c5
      have H' := Aside0.mk H
      clear H
      have p119 : 0 ≤ (x6_1 : Int) := dt_
      have q119 : x6_1 < (l0.length : Int) := dt_
      obtain ⟨ad119, e119, hx119_0, hx119_1⟩ := at_T54 HR0.out x6_1 p119 q119
      cases e119
      replace hx119_0 := bc_ HB.out hx119_0
      replace hx119_1 := bc_ HB.out hx119_1
      replace p119 := eq_true p119
      replace q119 := eq_true q119
      go_wp2
      go_roundg k1
      case measure => have := HK1.out; omega
      case rel => exact ⟨(wrap64 (x6_1 + 1)), (by first | rfl | (simp; done) | (simp [*]; done)), H', ⟨by have := HK1.out; omega⟩, ⟨lb0_ HB.out⟩⟩
     ·
      rw [if_neg c5] at H
      have c5b0 : decide (((rd_T54 l0 x6_1).f0) < a1) = false := decide_eq_false c5
      clear c5
      by_cases c6 : ((rd_T54 l0 x6_1).f0) = a1
      ·
       rw [if_pos c6] at H
       have c6b0 : (((rd_T54 l0 x6_1).f0) == a1) = true := beq_iff_eq.mpr c6
       have c6b1 : (((rd_T54 l0 x6_1).f0) != a1) = false := bne_eq_false_iff_eq.mpr c6
       clear c6
       simp only [Option.some.injEq, Prod.mk.injEq] at H
       obtain ⟨rfl, rfl⟩ := H
       have p119 : 0 ≤ (x6_1 : Int) := dt_
       have q119 : x6_1 < (l0.length : Int) := dt_
       obtain ⟨ad119, e119, hx119_0, hx119_1⟩ := at_T54 HR0.out x6_1 p119 q119
       cases e119
       replace hx119_0 := bc_ HB.out hx119_0
       replace hx119_1 := bc_ HB.out hx119_1
       replace p119 := eq_true p119
       replace q119 := eq_true q119
       have p120 : 0 ≤ (x6_1 : Int) := dt_
       have q120 : x6_1 < (l0.length : Int) := dt_
       obtain ⟨ad120, e120, hx120_0, hx120_1⟩ := at_T54 HR0.out x6_1 p120 q120
       obtain rfl : ad119 = ad120 := (by injection e120)
       replace hx120_0 := bc_ HB.out hx120_0
       replace hx120_1 := bc_ HB.out hx120_1
       replace p120 := eq_true p120
       replace q120 := eq_true q120
       have p121 : 0 ≤ (x6_1 : Int) := dt_
       have q121 : x6_1 < (l0.length : Int) := dt_
       obtain ⟨ad121, e121, hx121_0, hx121_1⟩ := at_T54 HR0.out x6_1 p121 q121
       obtain rfl : ad119 = ad121 := (by injection e121)
       replace hx121_0 := bc_ HB.out hx121_0
       replace hx121_1 := bc_ HB.out hx121_1
       replace p121 := eq_true p121
       replace q121 := eq_true q121
       go_wp2
       go_ret2
       exact ⟨rr_, lb0_ HB.out⟩
      ·
       rw [if_neg c6] at H
       have c6b0 : (((rd_T54 l0 x6_1).f0) == a1) = false := beq_eq_false_iff_ne.mpr c6
       have c6b1 : (((rd_T54 l0 x6_1).f0) != a1) = true := bne_iff_ne.mpr c6
       obtain ⟨ji7, hji7⟩ : ∃ j_ : Int, (wrap64 (x6_1 - 1)) = j_ := ⟨_, rfl⟩
       replace H : (if 0 ≤ (ji7) then (if (ji7) < (l0.length : Int) then ((spec_l23Reduce.f k1 (wrap64 ((wrap64 (((rd_T54 l0 (ji7)).f1) * (wrap64 (((rd_T54 l0 x6_1).f0) - a1)))) + (wrap64 (((rd_T54 l0 x6_1).f1) * (wrap64 (a1 - ((rd_T54 l0 (ji7)).f0))))))) (wrap64 (((rd_T54 l0 x6_1).f0) - ((rd_T54 l0 (ji7)).f0)))).bind fun bt126 => (some (bt126.1, bt126.2))) else (none)) else (none)) = some (r1, r2) := by first | (rw [hji7] at H; exact H) | (simp only [hji7] at H ⊢; exact H)
       have hji7w : (IntKind.i64.wrap (x6_1 - 1)) = ji7 := (i64_w _).trans hji7
       by_cases c8 : 0 ≤ (ji7)
       ·
        rw [if_pos c8] at H
        have c8b0 : decide (0 ≤ (ji7)) = true := decide_eq_true c8; clear c8
        by_cases c9 : (ji7) < (l0.length : Int)
        ·
         rw [if_pos c9] at H
         have c9b0 : decide ((ji7) < (l0.length : Int)) = true := decide_eq_true c9; clear c9; replace H := Option.bind_eq_some_iff.mp H; obtain ⟨⟨t126, t127⟩, A100, H⟩ := H; replace H : (some (t126, t127)) = some (r1, r2) := H; have A10 := Aside0.mk A100; clear A100; simp only [Option.some.injEq, Prod.mk.injEq] at H; obtain ⟨rfl, rfl⟩ := H; have p119 : 0 ≤ (x6_1 : Int) := dt_; have q119 : x6_1 < (l0.length : Int) := dt_; obtain ⟨ad119, e119, hx119_0, hx119_1⟩ := at_T54 HR0.out x6_1 p119 q119
         cases e119
         replace hx119_0 := bc_ HB.out hx119_0; replace hx119_1 := bc_ HB.out hx119_1; replace p119 := eq_true p119; replace q119 := eq_true q119; have p120 : 0 ≤ (x6_1 : Int) := dt_; have q120 : x6_1 < (l0.length : Int) := dt_; obtain ⟨ad120, e120, hx120_0, hx120_1⟩ := at_T54 HR0.out x6_1 p120 q120
         obtain rfl : ad119 = ad120 := (by injection e120)
         replace hx120_0 := bc_ HB.out hx120_0; replace hx120_1 := bc_ HB.out hx120_1; replace p120 := eq_true p120; replace q120 := eq_true q120
         try go_wp2
         replace HB := Aside0.mk (below_drew1 HB.out); have p122 : 0 ≤ ((ji7) : Int) := dt_; have q122 : (ji7) < (l0.length : Int) := dt_; obtain ⟨ad122, e122, hx122_0, hx122_1⟩ := at_T54 HR0.out (ji7) p122 q122; have hw122_1 := hx122_1; have hw122_0 := hx122_0
         obtain rfl : ad119 = ad122 := (by injection e122)
         replace hx122_0 := bc_ HB.out hx122_0; replace hx122_1 := bc_ HB.out hx122_1; replace p122 := eq_true p122; replace q122 := eq_true q122; have p123 : 0 ≤ (x6_1 : Int) := dt_; have q123 : x6_1 < (l0.length : Int) := dt_; obtain ⟨ad123, e123, hx123_0, hx123_1⟩ := at_T54 HR0.out x6_1 p123 q123; have hw123_1 := hx123_1; have hw123_0 := hx123_0
         obtain rfl : ad119 = ad123 := (by injection e123)
         replace hx123_0 := bc_ HB.out hx123_0; replace hx123_1 := bc_ HB.out hx123_1; replace p123 := eq_true p123; replace q123 := eq_true q123; refine start_ (n := 13) (S := fun w' => w'.cell? (ad119.add (((ji7)).toNat * 2)) = some (.int .i64 ((rd_T54 l0 (ji7)).f0)) ∧ w'.cell? ⟨(ad119.add (((ji7)).toNat * 2)).block, (ad119.add (((ji7)).toNat * 2)).off + 1, none⟩ = some (.int .i64 ((rd_T54 l0 (ji7)).f1)) ∧ w'.cell? (ad119.add ((x6_1).toNat * 2)) = some (.int .i64 ((rd_T54 l0 x6_1).f0)) ∧ w'.cell? ⟨(ad119.add ((x6_1).toNat * 2)).block, (ad119.add ((x6_1).toNat * 2)).off + 1, none⟩ = some (.int .i64 ((rd_T54 l0 x6_1).f1))) (ds := []) spec_l23In.mk0 (by kernel_rfl) rfl rfl ⟨(bc_ HB.out hw122_0), (bc_ HB.out hw122_1), (bc_ HB.out hw123_0), (bc_ HB.out hw123_1)⟩ (fun hHeld => ?_); refine with_tabW spec_l23In.tab6 spec_l23In.bits6 (fun HT_ HW_ => ?_); generalize wr.drew = w11 at HB hx122_0 hx122_1 hx123_0 hx123_1 hHeld ⊢; refine pz_ HT_ 0 (some 32) spec_l23In.mk1 ?_; refine pz_ HT_ 1 (some 33) spec_l23In.mk2 ?_; refine pz_ HT_ 2 (some 34) spec_l23In.mk3 ?_; refine pz_ HT_ 3 (some 35) spec_l23In.mk4 ?_; refine pz_ HT_ 5 (some 37) spec_l23In.mk5 ?_; refine pz_ HT_ 6 (some 38) spec_l23In.mk6 ?_; refine pz_ HT_ 7 (some 39) spec_l23In.mk7 ?_; refine tk_ HT_ HW_ hHeld 4 (some 36) spec_l23In.mk8 ?_; refine tk_ HT_ HW_ hHeld 8 (some 40) spec_l23In.mk9 ?_; refine join_ (σ := Nat × Nat) 2 spec_l23In.mk10 (fun s_ => [(7, .pointer (some ⟨s_.1, 0, none⟩)), (8, .pointer (some ⟨s_.2, 0, none⟩))]) (fun s_ w' => (w'.cell? (ad119.add (((ji7)).toNat * 2)) = some (.int .i64 ((rd_T54 l0 (ji7)).f0)) ∧ w'.cell? ⟨(ad119.add (((ji7)).toNat * 2)).block, (ad119.add (((ji7)).toNat * 2)).off + 1, none⟩ = some (.int .i64 ((rd_T54 l0 (ji7)).f1)) ∧ w'.cell? (ad119.add ((x6_1).toNat * 2)) = some (.int .i64 ((rd_T54 l0 x6_1).f0)) ∧ w'.cell? ⟨(ad119.add ((x6_1).toNat * 2)).block, (ad119.add ((x6_1).toNat * 2)).off + 1, none⟩ = some (.int .i64 ((rd_T54 l0 x6_1).f1))) ∧ (w'.heap[s_.1]? = some (.cells #[.int .i64 0, .int .i64 0] 54 (0, 0))) ∧ (w'.heap[s_.2]? = some (.cells #[.int .i64 0, .int .i64 0] 54 (0, 0))) ∧ (w.heap.size ≤ s_.1) ∧ (w.heap.size ≤ s_.1) ∧ (s_.2 ≠ s_.1) ∧ (s_.1 ≠ s_.2) ∧ (w.heap.size ≤ s_.2) ∧ (w.heap.size ≤ s_.2) ∧ (Below w.heap.size w w')) ?_ ?_; rotate_left
         ·
          intro hCont; refine two_ (i := 9) (j := 10) (Ni := some 7) (Nj := some 8) spec_l23In.mk11 spec_l23In.mk12 rfl rfl rfl rfl (two_of HT_.out (by kernel_rfl)) (by decide) (by decide) (fun K hK => ?_) (fun K hK => ?_)
          ·
           skip; refine box_step ?hg (N := 7) ?hd (cs := #[.int .i64 0, .int .i64 0]) (t := 54) ?hr ?_; (case hd => rfl); (case hg => rfl); (case hr => first | (go_simp; done) | (go_simp; rfl)); intro gb124 hg w12 hbox hb; have BK124 := Aside0.mk (hbox); have GW124 := Aside0.mk ((bz_ hg (lb0_ HB.out))); have GE124 := Aside0.mk ((bz_ hg (lb0_ HB.out))); replace HB := Aside0.mk (below_step (lb0_ HB.out) hb); clear hb hbox hg; refine hK.out _ _ ⟨((HB.out.cell (World.block_lt_of_cell? w _ hw122_0)).trans hw122_0), ((HB.out.cell (World.block_lt_of_cell? w _ hw122_1)).trans hw122_1), ((HB.out.cell (World.block_lt_of_cell? w _ hw123_0)).trans hw123_0), ((HB.out.cell (World.block_lt_of_cell? w _ hw123_1)).trans hw123_1)⟩ (fun hHeld => ?_); clear hK K; refine na_ ?_; refine one_ (i := 10) (N := some 8) spec_l23In.mk10 rfl rfl (one_of HT_.out (by kernel_rfl)) (by decide) (fun K hK => ?_); refine box_step ?hg (N := 8) ?hd (cs := #[.int .i64 0, .int .i64 0]) (t := 54) ?hr ?_; (case hd => rfl); (case hg => rfl); (case hr => first | (go_simp; done) | (go_simp; rfl)); intro gb125 hg w13 hbox hb; have BK125 := Aside0.mk (hbox); have GW125 := Aside0.mk ((bz_ hg (lb1_ HB.out GE124.out))); have GE125 := Aside0.mk ((bz_ hg (lb1_ HB.out GE124.out))); replace HB := Aside0.mk (below_step (lb1_ HB.out GE124.out) hb); have NB124_125 := Aside0.mk (nl_ hg BK124.out); have NB125_124 := Aside0.mk (ng_ hg BK124.out); replace BK124 := Aside0.mk (bb_ (bk_ BK124.out) hb); clear hb hbox hg; refine hK.out _ _ ⟨((HB.out.cell (World.block_lt_of_cell? w _ hw122_0)).trans hw122_0), ((HB.out.cell (World.block_lt_of_cell? w _ hw122_1)).trans hw122_1), ((HB.out.cell (World.block_lt_of_cell? w _ hw123_0)).trans hw123_0), ((HB.out.cell (World.block_lt_of_cell? w _ hw123_1)).trans hw123_1)⟩ (fun hHeld => ?_); clear hK K; refine na_ ?_; exact norm_ (by simp only [putAll, Act.put, List.setIfInBounds_toArray, List.set_cons_zero, List.set_cons_succ]) (hCont (gb124, gb125) _ ⟨hHeld, (bk_ BK124.out), (bk_ BK125.out), GW124.out, GE124.out, NB125_124.out, NB124_125.out, GW125.out, GE125.out, (lb2_ HB.out GE124.out GE125.out)⟩)
          ·
           skip; refine box_step ?hg (N := 8) ?hd (cs := #[.int .i64 0, .int .i64 0]) (t := 54) ?hr ?_; (case hd => rfl); (case hg => rfl); (case hr => first | (go_simp; done) | (go_simp; rfl)); intro gb125 hg w12 hbox hb; have BK125 := Aside0.mk (hbox); have GW125 := Aside0.mk ((bz_ hg (lb0_ HB.out))); have GE125 := Aside0.mk ((bz_ hg (lb0_ HB.out))); replace HB := Aside0.mk (below_step (lb0_ HB.out) hb); clear hb hbox hg; refine hK.out _ _ ⟨((HB.out.cell (World.block_lt_of_cell? w _ hw122_0)).trans hw122_0), ((HB.out.cell (World.block_lt_of_cell? w _ hw122_1)).trans hw122_1), ((HB.out.cell (World.block_lt_of_cell? w _ hw123_0)).trans hw123_0), ((HB.out.cell (World.block_lt_of_cell? w _ hw123_1)).trans hw123_1)⟩ (fun hHeld => ?_); clear hK K; refine na_ ?_; refine one_ (i := 9) (N := some 7) spec_l23In.mk10 rfl rfl (one_of HT_.out (by kernel_rfl)) (by decide) (fun K hK => ?_); refine box_step ?hg (N := 7) ?hd (cs := #[.int .i64 0, .int .i64 0]) (t := 54) ?hr ?_; (case hd => rfl); (case hg => rfl); (case hr => first | (go_simp; done) | (go_simp; rfl)); intro gb124 hg w13 hbox hb; have BK124 := Aside0.mk (hbox); have GW124 := Aside0.mk ((bz_ hg (lb1_ HB.out GE125.out))); have GE124 := Aside0.mk ((bz_ hg (lb1_ HB.out GE125.out))); replace HB := Aside0.mk (below_step (lb1_ HB.out GE125.out) hb); have NB125_124 := Aside0.mk (nl_ hg BK125.out); have NB124_125 := Aside0.mk (ng_ hg BK125.out); replace BK125 := Aside0.mk (bb_ (bk_ BK125.out) hb); clear hb hbox hg; refine hK.out _ _ ⟨((HB.out.cell (World.block_lt_of_cell? w _ hw122_0)).trans hw122_0), ((HB.out.cell (World.block_lt_of_cell? w _ hw122_1)).trans hw122_1), ((HB.out.cell (World.block_lt_of_cell? w _ hw123_0)).trans hw123_0), ((HB.out.cell (World.block_lt_of_cell? w _ hw123_1)).trans hw123_1)⟩ (fun hHeld => ?_); clear hK K; refine na_ ?_; exact norm_ (by simp only [putAll, Act.put, List.setIfInBounds_toArray, List.set_cons_zero, List.set_cons_succ]) (hCont (gb124, gb125) _ ⟨hHeld, (bk_ BK124.out), (bk_ BK125.out), GW124.out, GE124.out, NB125_124.out, NB124_125.out, GW125.out, GE125.out, (lb2_ HB.out GE125.out GE124.out)⟩)
         rintro ⟨gb124, gb125⟩ w14 ⟨hS_, h0_, h1_, h2_, h3_, h4_, h5_, h6_, h7_, h8_⟩; (try dsimp only at h0_ h1_ h2_ h3_ h4_ h5_ h6_ h7_ h8_); have BK124 := Aside0.mk h0_; have BK125 := Aside0.mk h1_; have GW124 := Aside0.mk h2_; have GE124 := Aside0.mk h3_; have NB125_124 := Aside0.mk h4_; have NB124_125 := Aside0.mk h5_; have GW125 := Aside0.mk h6_; have GE125 := Aside0.mk h7_; replace HB := Aside0.mk h8_; clear h0_ h1_ h2_ h3_ h4_ h5_ h6_ h7_ h8_; have hHeld : w14.cell? (ad119.add (((ji7)).toNat * 2)) = some (.int .i64 ((rd_T54 l0 (ji7)).f0)) ∧ w14.cell? ⟨(ad119.add (((ji7)).toNat * 2)).block, (ad119.add (((ji7)).toNat * 2)).off + 1, none⟩ = some (.int .i64 ((rd_T54 l0 (ji7)).f1)) ∧ w14.cell? (ad119.add ((x6_1).toNat * 2)) = some (.int .i64 ((rd_T54 l0 x6_1).f0)) ∧ w14.cell? ⟨(ad119.add ((x6_1).toNat * 2)).block, (ad119.add ((x6_1).toNat * 2)).off + 1, none⟩ = some (.int .i64 ((rd_T54 l0 x6_1).f1)) := hS_; refine nb_ ?_; refine one_ (i := 11) (N := none) spec_l23In.mk13 rfl rfl (one_of HT_.out (by kernel_rfl)) (by decide) (fun K hK => ?_); have hs15 : w14.cell? ⟨gb124, 0, none⟩ = some (.int .i64 0) := (blk_cell BK124.out 0).trans rfl; have hfs15 := blk_frozen BK124.out 0; have hns15_1 := NB125_124.out; have hms15_1 := NB124_125.out; have hs16 : w14.cell? ⟨gb124, 1, none⟩ = some (.int .i64 0) := (blk_cell BK124.out 1).trans rfl; have hfs16 := blk_frozen BK124.out 1; have hns16_1 := NB125_124.out; have hms16_1 := NB124_125.out; refine skip_ (w1 := ?_) (by rfl) rfl ?_ ?_; rotate_left
         ·
          go_simp; rfl
         refine hK.out _ _ ⟨((cell_far (p := ⟨gb124, _, none⟩) (Nat.ne_of_lt (Nat.lt_of_lt_of_le (World.block_lt_of_cell? _ _ hw122_0) GW124.out)) _).trans (((cell_far (p := ⟨gb124, _, none⟩) (Nat.ne_of_lt (Nat.lt_of_lt_of_le (World.block_lt_of_cell? _ _ hw122_0) GW124.out)) _).trans (hHeld.1)))), ((cell_far (p := ⟨gb124, _, none⟩) (Nat.ne_of_lt (Nat.lt_of_lt_of_le (World.block_lt_of_cell? _ _ hw122_1) GW124.out)) _).trans (((cell_far (p := ⟨gb124, _, none⟩) (Nat.ne_of_lt (Nat.lt_of_lt_of_le (World.block_lt_of_cell? _ _ hw122_1) GW124.out)) _).trans (hHeld.2.1)))), ((cell_far (p := ⟨gb124, _, none⟩) (Nat.ne_of_lt (Nat.lt_of_lt_of_le (World.block_lt_of_cell? _ _ hw123_0) GW124.out)) _).trans (((cell_far (p := ⟨gb124, _, none⟩) (Nat.ne_of_lt (Nat.lt_of_lt_of_le (World.block_lt_of_cell? _ _ hw123_0) GW124.out)) _).trans (hHeld.2.2.1)))), ((cell_far (p := ⟨gb124, _, none⟩) (Nat.ne_of_lt (Nat.lt_of_lt_of_le (World.block_lt_of_cell? _ _ hw123_1) GW124.out)) _).trans (((cell_far (p := ⟨gb124, _, none⟩) (Nat.ne_of_lt (Nat.lt_of_lt_of_le (World.block_lt_of_cell? _ _ hw123_1) GW124.out)) _).trans (hHeld.2.2.2))))⟩ (fun hHeld => ?_); clear hK K; refine one_ (i := 12) (N := none) spec_l23In.mk14 rfl rfl (one_of HT_.out (by kernel_rfl)) (by decide) (fun K hK => ?_); have hs17 : w14.cell? ⟨gb125, 0, none⟩ = some (.int .i64 0) := (blk_cell BK125.out 0).trans rfl; have hfs17 := blk_frozen BK125.out 0; have hns17_0 := NB124_125.out; have hms17_0 := NB125_124.out; have hs18 : w14.cell? ⟨gb125, 1, none⟩ = some (.int .i64 0) := (blk_cell BK125.out 1).trans rfl; have hfs18 := blk_frozen BK125.out 1; have hns18_0 := NB124_125.out; have hms18_0 := NB125_124.out; refine skip_ (w1 := ?_) (by rfl) rfl ?_ ?_; rotate_left
         ·
          go_simp; rfl
         refine hK.out _ _ ⟨((cell_far (p := ⟨gb125, _, none⟩) (Nat.ne_of_lt (Nat.lt_of_lt_of_le (World.block_lt_of_cell? _ _ hw122_0) GW125.out)) _).trans (((cell_far (p := ⟨gb125, _, none⟩) (Nat.ne_of_lt (Nat.lt_of_lt_of_le (World.block_lt_of_cell? _ _ hw122_0) GW125.out)) _).trans (hHeld.1)))), ((cell_far (p := ⟨gb125, _, none⟩) (Nat.ne_of_lt (Nat.lt_of_lt_of_le (World.block_lt_of_cell? _ _ hw122_1) GW125.out)) _).trans (((cell_far (p := ⟨gb125, _, none⟩) (Nat.ne_of_lt (Nat.lt_of_lt_of_le (World.block_lt_of_cell? _ _ hw122_1) GW125.out)) _).trans (hHeld.2.1)))), ((cell_far (p := ⟨gb125, _, none⟩) (Nat.ne_of_lt (Nat.lt_of_lt_of_le (World.block_lt_of_cell? _ _ hw123_0) GW125.out)) _).trans (((cell_far (p := ⟨gb125, _, none⟩) (Nat.ne_of_lt (Nat.lt_of_lt_of_le (World.block_lt_of_cell? _ _ hw123_0) GW125.out)) _).trans (hHeld.2.2.1)))), ((cell_far (p := ⟨gb125, _, none⟩) (Nat.ne_of_lt (Nat.lt_of_lt_of_le (World.block_lt_of_cell? _ _ hw123_1) GW125.out)) _).trans (((cell_far (p := ⟨gb125, _, none⟩) (Nat.ne_of_lt (Nat.lt_of_lt_of_le (World.block_lt_of_cell? _ _ hw123_1) GW125.out)) _).trans (hHeld.2.2.2))))⟩ (fun hHeld => ?_); clear hK K; refine done_ (done_of HT_.out (by kernel_rfl)) ?_; have hnb19 := NB124_125.out; have hnc19 := NB125_124.out; obtain ⟨hcz20_0, hcz20_1⟩ := cz2_ BK124.out; obtain ⟨hfz20_0, hfz20_1⟩ := fz2_ BK124.out; obtain ⟨hcz21_0, hcz21_1⟩ := cz2_ BK125.out; obtain ⟨hfz21_0, hfz21_1⟩ := fz2_ BK125.out
         try go_wp2_with (first | ((with_reducible refine gate_callee (f := 73) rfl ?_); refine goesL_ (some 62) rfl rfl Try.func73 (by kernel_rfl) rfl #[.int .i64 (wrap64 ((wrap64 (((rd_T54 l0 (ji7)).f1) * (wrap64 (((rd_T54 l0 x6_1).f0) - a1)))) + (wrap64 (((rd_T54 l0 x6_1).f1) * (wrap64 (a1 - ((rd_T54 l0 (ji7)).f0))))))), .int .i64 (wrap64 (((rd_T54 l0 x6_1).f0) - ((rd_T54 l0 (ji7)).f0)))] rfl (by (try simp only [List.map_toArray, List.map_cons, List.map_nil]); first | done | (simp only [hji7]; rfl) | rfl | (simp only [List.length_drop, List.length_take]; rfl)) ?_; (with_reducible refine (spec_l23Reduce.calls k1 (wrap64 ((wrap64 (((rd_T54 l0 (ji7)).f1) * (wrap64 (((rd_T54 l0 x6_1).f0) - a1)))) + (wrap64 (((rd_T54 l0 x6_1).f1) * (wrap64 (a1 - ((rd_T54 l0 (ji7)).f0))))))) (wrap64 (((rd_T54 l0 x6_1).f0) - ((rd_T54 l0 (ji7)).f0))) t126 t127 _ A10.out).mono ?_); rintro e w' ⟨rfl, ⟨nd, rfl⟩⟩; refine ⟨_, rfl, ?_⟩))
         go_ret2
         exact ⟨by first | rfl | (simp [errW_none, errW_some] <;> rfl) | (simp only [← hji7]; first | rfl | (simp [errW_none, errW_some] <;> rfl)) | (simp [*, errW_none, errW_some] <;> rfl), lb2_ HB.out GE124.out GE125.out⟩
        ·
         rw [if_neg c9] at H
         exact absurd H (by simp)
       ·
        rw [if_neg c8] at H
        exact absurd H (by simp)
    ·
     rw [if_neg c4] at H
     exact absurd H (by simp)
   ·
    rw [if_neg c3] at H
    exact absurd H (by simp)
def spec_l23Open.f (k : Nat) (l0 : List (S54)) (a1_0 : Int) (a1_1 : Int) (a1_2 : Int) (a2 : Int) : Option (Bool) := (spec_l23In.f k l0 a2).bind fun bt129 => (some (decide (bt129.1 ≤ (wrap64 (a1_2 * bt129.2)))))
set_option maxHeartbeats 8000000 in
set_option maxRecDepth 100000 in
theorem spec_l23Open.calls (k : Nat) (A0 : Option Addr) (c0 : Nat) (l0 : List (S54)) (a1_0 : Int) (a1_1 : Int) (a1_2 : Int) (a2 : Int) (r : Bool) (w : World) (hr0 : Kd.C k54 w A0 l0.length l0) (hc0 : l0.length ≤ c0) (h : spec_l23Open.f k l0 a1_0 a1_1 a1_2 a2 = some r) :
  Calls Try.prog 56 #[.slice A0 l0.length c0, .agg #[.int .i64 a1_0, .int .i64 a1_1, .int .i64 a1_2], .int .i64 a2] w fun e w' => e = .returned (.bool r) ∧ Below w.heap.size w w' := by
 have hu30 := Try.underlying30
 have HR0 := Aside0.mk hr0
 have HC0 := Aside0.mk hc0
 clear hr0 hc0
 have HB := Aside0.mk (Below.refl w.heap.size w)
 have H : ((spec_l23In.f k l0 a2).bind fun bt129 => (some (decide (bt129.1 ≤ (wrap64 (a1_2 * bt129.2)))))) = some r := h
 clear h
 replace H := Option.bind_eq_some_iff.mp H
 obtain ⟨⟨t129, t130⟩, A40, H⟩ := H
 replace H : (some (decide (t129 ≤ (wrap64 (a1_2 * t130))))) = some r := H
 have A4 := Aside0.mk A40
 clear A40
 obtain rfl := Option.some.inj H
 go_enter Try.func56, Try.ntmps56
 go_wp2_with (first | ((with_reducible refine gate_dst (N := 4) rfl ?_); refine box_event ?hg (N := 4) ?hd (cs := #[.int .i64 a1_0, .int .i64 a1_1, .int .i64 a1_2]) (t := 30) ?hr ?_; (case hd => rfl); (case hg => rfl); (case hr => first | (go_simp; done) | (go_simp; rfl)); intro gb128 hg w5 hbox hb; have BK128 := Aside0.mk (hbox); have GW128 := Aside0.mk ((bz_ hg (lb0_ HB.out))); have GE128 := Aside0.mk ((bz_ hg (lb0_ HB.out))); replace HB := Aside0.mk (below_step (lb0_ HB.out) hb); clear hb hbox hg) | ((with_reducible refine gate_callee (f := 70) rfl ?_); refine ga_ (some 12) Try.func70 #[.slice A0 l0.length c0, .int .i64 a2] ?_; (with_reducible refine (spec_l23In.calls k _ _ l0 a2 t129 t130 _ ?side1 ?side2 A4.out).mono ?_); (case side1 => exact kc_ (Kd.C_below HR0.out HB.out)); (case side2 => exact HC0.out); rintro e w6 ⟨rfl, hb⟩; refine ⟨_, rfl, ?_⟩; replace BK128 := Aside0.mk (bb_ (bk_ BK128.out) hb); replace HB := Aside0.mk (below_step (lb1_ HB.out GE128.out) hb); (try clear hb); (try clear hb2); (try clear hk); (try clear hi); obtain ⟨hcz7_0, hcz7_1, hcz7_2⟩ := cz3_ BK128.out; obtain ⟨hfz7_0, hfz7_1, hfz7_2⟩ := fz3_ BK128.out))
 go_ret
 exact ⟨rr_, lb1_ HB.out GE128.out⟩
mutual
def spec_OpenSpans.j0 : Nat → List (S54) → List (List Int) → Bool → Int → Int → Int → Option ((List (List Int)) × Bool)
 | 0, _, _, _, _, _, _ => none
 | k + 1, x0, x6, x17, x473000, x473001, x473002 => if x17 = true then (some (x6, false)) else (spec_OpenSpans.l0 k x0 x6 0 x473000 x473001 x473002)
def spec_OpenSpans.l0 : Nat → List (S54) → List (List Int) → Int → Int → Int → Int → Option ((List (List Int)) × Bool)
 | 0, _, _, _, _, _, _ => none
 | k + 1, x0, x6, x7, x473000, x473001, x473002 => if x7 ≤ 999 then ((spec_l23Within.f k x0 x7).bind fun t478 => (if t478 = true then ((spec_l23Open.f k x0 x473000 x473001 x473002 x7).bind fun t479 => (spec_OpenSpans.j2 k x0 x6 x7 (!t479) x473000 x473001 x473002)) else (spec_OpenSpans.j2 k x0 x6 x7 true x473000 x473001 x473002))) else (some (x6, true))
def spec_OpenSpans.j2 : Nat → List (S54) → List (List Int) → Int → Bool → Int → Int → Int → Option ((List (List Int)) × Bool)
 | 0, _, _, _, _, _, _, _ => none
 | k + 1, x0, x6, x7, x33, x473000, x473001, x473002 => if x33 = true then (spec_OpenSpans.l0 k x0 x6 (wrap64 (x7 + 1)) x473000 x473001 x473002) else (if (x6.length : Int) > 0 then (if 0 ≤ (wrap64 ((x6.length : Int) - 1)) then (if (wrap64 ((x6.length : Int) - 1)) < (x6.length : Int) then (if 1 < ((rd_L9 x6 (wrap64 ((x6.length : Int) - 1))).length : Int) then (if (rd (rd_L9 x6 (wrap64 ((x6.length : Int) - 1))) 1) = (wrap64 (x7 - 1)) then (if 0 < ((rd_L9 x6 (wrap64 ((x6.length : Int) - 1))).length : Int) then (spec_OpenSpans.l0 k x0 (x6.set ((wrap64 ((x6.length : Int) - 1)) : Int).toNat (([rd (rd_L9 x6 (wrap64 ((x6.length : Int) - 1))) 0, x7] : List Int))) (wrap64 (x7 + 1)) x473000 x473001 x473002) else (none)) else (if x6.length < 5864062014805 then (spec_OpenSpans.l0 k x0 (x6 ++ [(([x7, x7] : List Int))]) (wrap64 (x7 + 1)) x473000 x473001 x473002) else (none))) else (none)) else (none)) else (none)) else (if x6.length < 5864062014805 then (spec_OpenSpans.l0 k x0 (x6 ++ [(([x7, x7] : List Int))]) (wrap64 (x7 + 1)) x473000 x473001 x473002) else (none)))
end
def spec_OpenSpans.f (k : Nat) (l0 : List (S54)) (a1_0 : Int) (a1_1 : Int) (a1_2 : Int) : Option ((List (List Int)) × Bool) := (some (([] : List (List Int)) : List (List Int))).bind fun y473 => ((spec_l23Good.f k l0).bind fun t476 => (if t476 = true then ((spec_l23Sump.f a1_0 a1_1 a1_2).bind fun t477 => (spec_OpenSpans.j0 k l0 y473 (!t477) a1_0 a1_1 a1_2)) else (spec_OpenSpans.j0 k l0 y473 true a1_0 a1_1 a1_2)))
set_option maxHeartbeats 8000000 in
set_option maxRecDepth 100000 in
theorem spec_OpenSpans.calls (k : Nat) (A0 : Option Addr) (c0 : Nat) (l0 : List (S54)) (a1_0 : Int) (a1_1 : Int) (a1_2 : Int) (r1 : List (List Int)) (r2 : Bool) (w : World) (hr0 : Kd.C k54 w A0 l0.length l0) (hc0 : l0.length ≤ c0) (h : spec_OpenSpans.f k l0 a1_0 a1_1 a1_2 = some (r1, r2)) :
  Calls Try.prog 36 #[.slice A0 l0.length c0, .agg #[.int .i64 a1_0, .int .i64 a1_1, .int .i64 a1_2]] w fun e w' => ∃ v0_ : Value, e = .returned (.tuple #[v0_, .bool r2]) ∧ Kd.S (Kd.slice 3 (Kd.int .i64)) 36 w' w.heap.size (fun _ => True) v0_ r1 ∧ Below w.heap.size w w' := by
 have hu30 := Try.underlying30
 have HR0 := Aside0.mk hr0
 have HC0 := Aside0.mk hc0
 clear hr0 hc0
 have HB := Aside0.mk (Below.refl w.heap.size w)
 have H : ((some (([] : List (List Int)) : List (List Int))).bind fun y473 => ((spec_l23Good.f k l0).bind fun t476 => (if t476 = true then ((spec_l23Sump.f a1_0 a1_1 a1_2).bind fun t477 => (spec_OpenSpans.j0 k l0 y473 (!t477) a1_0 a1_1 a1_2)) else (spec_OpenSpans.j0 k l0 y473 true a1_0 a1_1 a1_2)))) = some (r1, r2) := h
 clear h
 obtain ⟨y473, hy473⟩ : ∃ y_ : List (List Int), y_ = (([] : List (List Int))) := ⟨_, rfl⟩
 replace H : ((spec_l23Good.f k l0).bind fun t476 => (if t476 = true then ((spec_l23Sump.f a1_0 a1_1 a1_2).bind fun t477 => (spec_OpenSpans.j0 k l0 y473 (!t477) a1_0 a1_1 a1_2)) else (spec_OpenSpans.j0 k l0 y473 true a1_0 a1_1 a1_2))) = some (r1, r2) := by first | (rw [hy473]; with_reducible exact H) | (have H2_ := (Option.bind_some _ _).symm.trans H; rw [hy473]; with_reducible exact H2_) | (have H2_ := (Option.bind_some _ _).symm.trans H; with_reducible exact H2_) | with_reducible exact H | (rw [hy473]; exact H) | exact H
 have Ny473 := Aside0.mk hy473
 clear hy473
 have HC3 := Aside0.mk H
 clear H
 go_enter Try.func36, Try.ntmps36
 go_upto_region 2 with (first | ((with_reducible refine gate_dst (N := 3) rfl ?_); refine box_event ?hg (N := 3) ?hd (cs := #[.int .i64 a1_0, .int .i64 a1_1, .int .i64 a1_2]) (t := 30) ?hr ?_; (case hd => rfl); (case hg => rfl); (case hr => first | (go_simp; done) | (go_simp; rfl)); intro gb472 hg w4 hbox hb; have BK472 := Aside0.mk (hbox); have GW472 := Aside0.mk ((bz_ hg (lb0_ HB.out))); have GE472 := Aside0.mk ((bz_ hg (lb0_ HB.out))); replace HB := Aside0.mk (below_step (lb0_ HB.out) hb); clear hb hbox hg) | ((with_reducible refine gate_dst (N := 9) rfl ?_); refine Kd.S_lit (Kd.slice 3 (Kd.int .i64)) _ 36 ?hg (N := 9) ?hd (xs := ([] : List (List Int))) (inner := []) (ok := fun _ => True) (okp := fun _ => True) ?hr ?hp (fun _ hk => hk) trivial (Below.refl _ _) (Nat.le_refl _) (by simp) ?_; (case hd => rfl); (case hg => rfl); (case hr => first | (go_simp; done) | (go_simp; rfl)); (case hp => exact (Reps.none _ _)); intro v474 w5 ho6 hb hg_ hnew_; clear hg_ hnew_; (first | rw [← Ny473.out] at ho6 | (simp only [Int.reduceToNat] at ho6; rw [← Ny473.out] at ho6)); have HO475 := Aside0.mk (Kd.S_lower ho6 (below_size (lb1_ HB.out GE472.out))); replace BK472 := Aside0.mk (bb_ (bk_ BK472.out) hb); replace HB := Aside0.mk (below_step (lb1_ HB.out GE472.out) hb); clear hb ho6))
 (try simp only [Act.put, List.setIfInBounds_toArray, List.set_cons_zero, List.set_cons_succ])
 go_cut [17] (fun v17 wc => ∃ (kq : Nat) (x17_2 : Bool), v17 = .bool x17_2 ∧ Aside0 (spec_OpenSpans.j0 kq l0 y473 x17_2 a1_0 a1_1 a1_2 = some (r1, r2)) ∧ Aside0 (kq ≤ k) ∧ Aside0 (Kd.S (Kd.slice 3 (Kd.int .i64)) 36 wc w.heap.size (fun _ => True) v474 y473) ∧ Aside0 (wc.heap[gb472]? = some (.cells #[.int .i64 a1_0, .int .i64 a1_1, .int .i64 a1_2] 30 (0, 0))) ∧ Aside0 (Below w.heap.size w wc))
 case first =>
  have H := HC3.out
  clear HC3
  replace H := Option.bind_eq_some_iff.mp H
  obtain ⟨t476, A70, H⟩ := H
  replace H : (if t476 = true then ((spec_l23Sump.f a1_0 a1_1 a1_2).bind fun t477 => (spec_OpenSpans.j0 k l0 y473 (!t477) a1_0 a1_1 a1_2)) else (spec_OpenSpans.j0 k l0 y473 true a1_0 a1_1 a1_2)) = some (r1, r2) := H
  have A7 := Aside0.mk A70
  clear A70
  by_cases c8 : t476 = true
  ·
   subst c8
   have H1 : ((spec_l23Sump.f a1_0 a1_1 a1_2).bind fun t477 => (spec_OpenSpans.j0 k l0 y473 (!t477) a1_0 a1_1 a1_2)) = some (r1, r2) := by rw [if_pos rfl] at H; exact H
   clear H
   have H := H1
   clear H1
   replace H := Option.bind_eq_some_iff.mp H
   obtain ⟨t477, A90, H⟩ := H
   replace H : (spec_OpenSpans.j0 k l0 y473 (!t477) a1_0 a1_1 a1_2) = some (r1, r2) := H
   have A9 := Aside0.mk A90
   clear A90
   have H' := Aside0.mk H
   clear H
   go_wp2_with (first | ((with_reducible refine gate_callee (f := 62) rfl ?_); refine ga_ (some 11) Try.func62 #[.slice A0 l0.length c0] ?_; (with_reducible refine (spec_l23Good.calls k _ _ l0 true _ ?side1 ?side2 A7.out).mono ?_); (case side1 => exact kc_ (Kd.C_below HR0.out HB.out)); (case side2 => exact HC0.out); rintro e w10 ⟨rfl, hb⟩; refine ⟨_, rfl, ?_⟩; replace HO475 := Aside0.mk (Kd.S_below (by (with_reducible repeat (first | apply Kd.S_alloc | apply Kd.S_drewN | apply Kd.S_drew)); exact HO475.out) hb); replace BK472 := Aside0.mk (bb_ (bk_ BK472.out) hb); replace HB := Aside0.mk (below_step (lb1_ HB.out GE472.out) hb); (try clear hb); (try clear hb2); (try clear hk); (try clear hi); obtain ⟨hcz11_0, hcz11_1, hcz11_2⟩ := cz3_ BK472.out; obtain ⟨hfz11_0, hfz11_1, hfz11_2⟩ := fz3_ BK472.out) | (go_at_call 55; (with_reducible refine (spec_l23Sump.calls a1_0 a1_1 a1_2 t477 _ A9.out).mono ?_); rintro e w12 ⟨rfl, hb⟩; replace HO475 := Aside0.mk (Kd.S_below (by (with_reducible repeat (first | apply Kd.S_alloc | apply Kd.S_drewN | apply Kd.S_drew)); exact HO475.out) hb); replace BK472 := Aside0.mk (bb_ (bk_ BK472.out) hb); replace HB := Aside0.mk (below_step (lb1_ HB.out GE472.out) hb); (try clear hb); (try clear hb2); (try clear hk); (try clear hi)))
   go_meet
   case rel => exact ⟨_, (!t477), (by first | rfl | (simp; done) | (simp [*]; done)), H', ⟨by first | omega | exact Nat.le_refl _⟩, ⟨by (with_reducible repeat (first | apply Kd.S_alloc | apply Kd.S_drewN | apply Kd.S_drew)); exact HO475.out⟩, ⟨bk_ BK472.out⟩, ⟨lb1_ HB.out GE472.out⟩⟩
  ·
   replace c8 := Bool.eq_false_iff.mpr c8
   subst c8
   have H1 : (spec_OpenSpans.j0 k l0 y473 true a1_0 a1_1 a1_2) = some (r1, r2) := by rw [if_neg (show ¬ (false = true) by decide)] at H; exact H
   clear H
   have H := H1
   clear H1
   have H' := Aside0.mk H
   clear H
   go_wp2_with (first | ((with_reducible refine gate_callee (f := 62) rfl ?_); refine ga_ (some 11) Try.func62 #[.slice A0 l0.length c0] ?_; (with_reducible refine (spec_l23Good.calls k _ _ l0 false _ ?side1 ?side2 A7.out).mono ?_); (case side1 => exact kc_ (Kd.C_below HR0.out HB.out)); (case side2 => exact HC0.out); rintro e w13 ⟨rfl, hb⟩; refine ⟨_, rfl, ?_⟩; replace HO475 := Aside0.mk (Kd.S_below (by (with_reducible repeat (first | apply Kd.S_alloc | apply Kd.S_drewN | apply Kd.S_drew)); exact HO475.out) hb); replace BK472 := Aside0.mk (bb_ (bk_ BK472.out) hb); replace HB := Aside0.mk (below_step (lb1_ HB.out GE472.out) hb); (try clear hb); (try clear hb2); (try clear hk); (try clear hi)))
   go_meet
   case rel => exact ⟨_, (true), (by first | rfl | (simp; done) | (simp [*]; done)), H', ⟨by first | omega | exact Nat.le_refl _⟩, ⟨by (with_reducible repeat (first | apply Kd.S_alloc | apply Kd.S_drewN | apply Kd.S_drew)); exact HO475.out⟩, ⟨bk_ BK472.out⟩, ⟨lb1_ HB.out GE472.out⟩⟩
 case rest =>
  clear HC3
  try clear p2
  try clear c3
  try clear c6
  try clear c8
  try clear hcz11_0 hcz11_1 hcz11_2
  try clear hfz11_0 hfz11_1 hfz11_2
  obtain ⟨kq, x17_2, rfl, HA, HJ2, HO_6, BK472, HB⟩ := hcut
  cases kq with
  | zero => exact absurd HA.out (by simp [spec_OpenSpans.j0])
  | succ kj2 =>
   have H := HA.out
   clear HA
   simp only [spec_OpenSpans.j0] at H
   by_cases c14 : x17_2 = true
   ·
    subst c14
    have H1 : (some (y473, false)) = some (r1, r2) := by rw [if_pos rfl] at H; exact H
    clear H
    have H := H1
    clear H1
    simp only [Option.some.injEq, Prod.mk.injEq] at H
    obtain ⟨rfl, rfl⟩ := H
    go_wp2
    go_ret2
    exact ⟨_, rr_, by (with_reducible repeat (first | apply Kd.S_alloc | apply Kd.S_drewN | apply Kd.S_drew)); exact HO_6.out, lb1_ HB.out GE472.out⟩
   ·
    replace c14 := Bool.eq_false_iff.mpr c14
    subst c14
    have H1 : (spec_OpenSpans.l0 kj2 l0 y473 0 a1_0 a1_1 a1_2) = some (r1, r2) := by rw [if_neg (show ¬ (false = true) by decide)] at H; exact H
    clear H
    have H := H1
    clear H1
    have H' := Aside0.mk H
    clear H
    go_wp2
    go_loopg [6, 7] kj2 (fun kq v6 v7 w' => ∃ (x6_2 : List (List Int)) (x7_2 : Int), v7 = .int .i64 x7_2 ∧ Aside0 (spec_OpenSpans.l0 kq l0 x6_2 x7_2 a1_0 a1_1 a1_2 = some (r1, r2)) ∧ Aside0 (kq ≤ kj2) ∧ Aside0 (Kd.S (Kd.slice 3 (Kd.int .i64)) 36 w' w.heap.size (fun _ => True) v6 x6_2) ∧ Aside0 (w'.heap[gb472]? = some (.cells #[.int .i64 a1_0, .int .i64 a1_1, .int .i64 a1_2] 30 (0, 0))) ∧ Aside0 (Below w.heap.size w w'))
    case atStart => exact ⟨(y473), (0), (by first | rfl | (simp; done) | (simp [*]; done)), H', ⟨Nat.le_refl _⟩, ⟨by (with_reducible repeat (first | apply Kd.S_alloc | apply Kd.S_drewN | apply Kd.S_drew)); exact HO_6.out⟩, ⟨bk_ BK472.out⟩, ⟨lb1_ HB.out GE472.out⟩⟩
    case round =>
     clear H'
     try clear c1
     try clear p2
     try clear c3
     try clear c6
     try clear c8
     try clear c14
     try clear hcz11_0 hcz11_1 hcz11_2
     try clear hfz11_0 hfz11_1 hfz11_2
     try clear p2
     obtain ⟨x6_2, x7_2, rfl, HA, HK2, HO_6, BK472, HB⟩ := hrel
     cases gk with
     | zero => exact absurd HA.out (by simp [spec_OpenSpans.l0])
     | succ k2 =>
      have H := HA.out
      clear HA
      simp only [spec_OpenSpans.l0] at H
      by_cases c15 : x7_2 ≤ 999
      ·
       rw [if_pos c15] at H
       have c15b0 : decide (x7_2 ≤ 999) = true := decide_eq_true c15
       clear c15
       have HC16 := Aside0.mk H
       clear H
       go_upto_region 7 with (fail)
       go_cut [33] (fun v33 wc => ∃ (kq : Nat) (x33_15 : Bool), v33 = .bool x33_15 ∧ Aside0 (spec_OpenSpans.j2 kq l0 x6_2 x7_2 x33_15 a1_0 a1_1 a1_2 = some (r1, r2)) ∧ Aside0 (kq ≤ k2) ∧ Aside0 (Kd.S (Kd.slice 3 (Kd.int .i64)) 36 wc w.heap.size (fun _ => True) u6 x6_2) ∧ Aside0 (wc.heap[gb472]? = some (.cells #[.int .i64 a1_0, .int .i64 a1_1, .int .i64 a1_2] 30 (0, 0))) ∧ Aside0 (Below w.heap.size w wc))
       case first =>
        have H := HC16.out; clear HC16; replace H := Option.bind_eq_some_iff.mp H; obtain ⟨t478, A170, H⟩ := H; replace H : (if t478 = true then ((spec_l23Open.f k2 l0 a1_0 a1_1 a1_2 x7_2).bind fun t479 => (spec_OpenSpans.j2 k2 l0 x6_2 x7_2 (!t479) a1_0 a1_1 a1_2)) else (spec_OpenSpans.j2 k2 l0 x6_2 x7_2 true a1_0 a1_1 a1_2)) = some (r1, r2) := H; have A17 := Aside0.mk A170; clear A170
        by_cases c18 : t478 = true
        ·
         subst c18
         have H1 : ((spec_l23Open.f k2 l0 a1_0 a1_1 a1_2 x7_2).bind fun t479 => (spec_OpenSpans.j2 k2 l0 x6_2 x7_2 (!t479) a1_0 a1_1 a1_2)) = some (r1, r2) := by rw [if_pos rfl] at H; exact H
         clear H; have H := H1; clear H1; replace H := Option.bind_eq_some_iff.mp H; obtain ⟨t479, A190, H⟩ := H; replace H : (spec_OpenSpans.j2 k2 l0 x6_2 x7_2 (!t479) a1_0 a1_1 a1_2) = some (r1, r2) := H; have A19 := Aside0.mk A190; clear A190; have H' := Aside0.mk H; clear H
         go_wp2_with (first | ((with_reducible refine gate_callee (f := 54) rfl ?_); refine ga_ (some 25) Try.func54 #[.slice A0 l0.length c0, .int .i64 x7_2] ?_; (with_reducible refine (spec_l23Within.calls k2 _ _ l0 x7_2 true _ ?side1 ?side2 A17.out).mono ?_); (case side1 => exact kc_ (Kd.C_below HR0.out HB.out)); (case side2 => exact HC0.out); rintro e w20 ⟨rfl, hb⟩; refine ⟨_, rfl, ?_⟩; replace HO_6 := Aside0.mk (Kd.S_below (by (with_reducible repeat (first | apply Kd.S_alloc | apply Kd.S_drewN | apply Kd.S_drew)); exact HO_6.out) hb); replace BK472 := Aside0.mk (bb_ (bk_ BK472.out) hb); replace HB := Aside0.mk (below_step (lb1_ HB.out GE472.out) hb); (try clear hb); (try clear hb2); (try clear hk); (try clear hi); obtain ⟨hcz21_0, hcz21_1, hcz21_2⟩ := cz3_ BK472.out; obtain ⟨hfz21_0, hfz21_1, hfz21_2⟩ := fz3_ BK472.out) | (go_at_call 56; (with_reducible refine (spec_l23Open.calls k2 _ _ l0 a1_0 a1_1 a1_2 x7_2 t479 _ ?side1 ?side2 A19.out).mono ?_); (case side1 => exact kc_ (Kd.C_below HR0.out HB.out)); (case side2 => exact HC0.out); rintro e w22 ⟨rfl, hb⟩; replace HO_6 := Aside0.mk (Kd.S_below (by (with_reducible repeat (first | apply Kd.S_alloc | apply Kd.S_drewN | apply Kd.S_drew)); exact HO_6.out) hb); replace BK472 := Aside0.mk (bb_ (bk_ BK472.out) hb); replace HB := Aside0.mk (below_step (lb1_ HB.out GE472.out) hb); (try clear hb); (try clear hb2); (try clear hk); (try clear hi)))
         go_meet
         case rel => exact ⟨_, (!t479), (by first | rfl | (simp; done) | (simp [*]; done)), H', ⟨by have := HJ2.out; have := HK2.out; first | omega | exact Nat.le_refl _⟩, ⟨by (with_reducible repeat (first | apply Kd.S_alloc | apply Kd.S_drewN | apply Kd.S_drew)); exact HO_6.out⟩, ⟨bk_ BK472.out⟩, ⟨lb1_ HB.out GE472.out⟩⟩
        ·
         replace c18 := Bool.eq_false_iff.mpr c18; subst c18
         have H1 : (spec_OpenSpans.j2 k2 l0 x6_2 x7_2 true a1_0 a1_1 a1_2) = some (r1, r2) := by rw [if_neg (show ¬ (false = true) by decide)] at H; exact H
         clear H; have H := H1; clear H1; have H' := Aside0.mk H; clear H
         go_wp2_with (first | ((with_reducible refine gate_callee (f := 54) rfl ?_); refine ga_ (some 25) Try.func54 #[.slice A0 l0.length c0, .int .i64 x7_2] ?_; (with_reducible refine (spec_l23Within.calls k2 _ _ l0 x7_2 false _ ?side1 ?side2 A17.out).mono ?_); (case side1 => exact kc_ (Kd.C_below HR0.out HB.out)); (case side2 => exact HC0.out); rintro e w23 ⟨rfl, hb⟩; refine ⟨_, rfl, ?_⟩; replace HO_6 := Aside0.mk (Kd.S_below (by (with_reducible repeat (first | apply Kd.S_alloc | apply Kd.S_drewN | apply Kd.S_drew)); exact HO_6.out) hb); replace BK472 := Aside0.mk (bb_ (bk_ BK472.out) hb); replace HB := Aside0.mk (below_step (lb1_ HB.out GE472.out) hb); (try clear hb); (try clear hb2); (try clear hk); (try clear hi)))
         go_meet
         case rel => exact ⟨_, (true), (by first | rfl | (simp; done) | (simp [*]; done)), H', ⟨by have := HJ2.out; have := HK2.out; first | omega | exact Nat.le_refl _⟩, ⟨by (with_reducible repeat (first | apply Kd.S_alloc | apply Kd.S_drewN | apply Kd.S_drew)); exact HO_6.out⟩, ⟨bk_ BK472.out⟩, ⟨lb1_ HB.out GE472.out⟩⟩
       case rest =>
        clear HC16
        try clear c1
        try clear p2
        try clear c3
        try clear c5
        try clear c6
        try clear c8
        try clear c14
        try clear c15
        try clear c15b0
        try clear c18
        try clear hcz11_0 hcz11_1 hcz11_2
        try clear hcz21_0 hcz21_1 hcz21_2
        try clear hfz11_0 hfz11_1 hfz11_2
        try clear hfz21_0 hfz21_1 hfz21_2
        try clear p2
        obtain ⟨kq, x33_15, rfl, HA, HJ15, HO_6, BK472, HB⟩ := hcut
        cases kq with
        | zero => exact absurd HA.out (by simp [spec_OpenSpans.j2])
        | succ kj15 =>
         have H := HA.out; clear HA; simp only [spec_OpenSpans.j2] at H
         by_cases c24 : x33_15 = true
         ·
          subst c24
          have H1 : (spec_OpenSpans.l0 kj15 l0 x6_2 (wrap64 (x7_2 + 1)) a1_0 a1_1 a1_2) = some (r1, r2) := by rw [if_pos rfl] at H; exact H
          clear H; have H := H1; clear H1; have H' := Aside0.mk H; clear H
          go_wp2
          go_roundg kj15
          case measure => have := HJ2.out; have := HK2.out; have := HJ15.out; omega
          case rel => exact ⟨(x6_2), (wrap64 (x7_2 + 1)), (by first | rfl | (simp; done) | (simp [*]; done)), H', ⟨by have := HJ2.out; have := HK2.out; have := HJ15.out; omega⟩, ⟨by (with_reducible repeat (first | apply Kd.S_alloc | apply Kd.S_drewN | apply Kd.S_drew)); exact HO_6.out⟩, ⟨bk_ BK472.out⟩, ⟨lb1_ HB.out GE472.out⟩⟩
         ·
          replace c24 := Bool.eq_false_iff.mpr c24; subst c24
          have H1 : (if (x6_2.length : Int) > 0 then (if 0 ≤ (wrap64 ((x6_2.length : Int) - 1)) then (if (wrap64 ((x6_2.length : Int) - 1)) < (x6_2.length : Int) then (if 1 < ((rd_L9 x6_2 (wrap64 ((x6_2.length : Int) - 1))).length : Int) then (if (rd (rd_L9 x6_2 (wrap64 ((x6_2.length : Int) - 1))) 1) = (wrap64 (x7_2 - 1)) then (if 0 < ((rd_L9 x6_2 (wrap64 ((x6_2.length : Int) - 1))).length : Int) then (spec_OpenSpans.l0 kj15 l0 (x6_2.set ((wrap64 ((x6_2.length : Int) - 1)) : Int).toNat (([rd (rd_L9 x6_2 (wrap64 ((x6_2.length : Int) - 1))) 0, x7_2] : List Int))) (wrap64 (x7_2 + 1)) a1_0 a1_1 a1_2) else (none)) else (if x6_2.length < 5864062014805 then (spec_OpenSpans.l0 kj15 l0 (x6_2 ++ [(([x7_2, x7_2] : List Int))]) (wrap64 (x7_2 + 1)) a1_0 a1_1 a1_2) else (none))) else (none)) else (none)) else (none)) else (if x6_2.length < 5864062014805 then (spec_OpenSpans.l0 kj15 l0 (x6_2 ++ [(([x7_2, x7_2] : List Int))]) (wrap64 (x7_2 + 1)) a1_0 a1_1 a1_2) else (none))) = some (r1, r2) := by rw [if_neg (show ¬ (false = true) by decide)] at H; exact H
          clear H; have H := H1; clear H1
          by_cases c25 : (x6_2.length : Int) > 0
          ·
           rw [if_pos c25] at H
           have c25b0 : decide (0 < (x6_2.length : Int)) = true := decide_eq_true c25; have c25b1 : decide (0 < x6_2.length) = true := decide_eq_true (by omega); clear c25
           obtain ⟨ji26, hji26⟩ : ∃ j_ : Int, (wrap64 ((x6_2.length : Int) - 1)) = j_ := ⟨_, rfl⟩
           replace H : (if 0 ≤ (ji26) then (if (ji26) < (x6_2.length : Int) then (if 1 < ((rd_L9 x6_2 (ji26)).length : Int) then (if (rd (rd_L9 x6_2 (ji26)) 1) = (wrap64 (x7_2 - 1)) then (if 0 < ((rd_L9 x6_2 (ji26)).length : Int) then (spec_OpenSpans.l0 kj15 l0 (x6_2.set ((ji26) : Int).toNat (([rd (rd_L9 x6_2 (ji26)) 0, x7_2] : List Int))) (wrap64 (x7_2 + 1)) a1_0 a1_1 a1_2) else (none)) else (if x6_2.length < 5864062014805 then (spec_OpenSpans.l0 kj15 l0 (x6_2 ++ [(([x7_2, x7_2] : List Int))]) (wrap64 (x7_2 + 1)) a1_0 a1_1 a1_2) else (none))) else (none)) else (none)) else (none)) = some (r1, r2) := by first | (rw [hji26] at H; exact H) | (simp only [hji26] at H ⊢; exact H)
           have hji26w : (IntKind.i64.wrap ((x6_2.length : Int) - 1)) = ji26 := (i64_w _).trans hji26
           by_cases c27 : 0 ≤ (ji26)
           ·
            rw [if_pos c27] at H
            have c27b0 : decide (0 ≤ (ji26)) = true := decide_eq_true c27; clear c27
            by_cases c28 : (ji26) < (x6_2.length : Int)
            ·
             rw [if_pos c28] at H
             have c28b0 : decide ((ji26) < (x6_2.length : Int)) = true := decide_eq_true c28; clear c28
             by_cases c29 : 1 < ((rd_L9 x6_2 (ji26)).length : Int)
             ·
              rw [if_pos c29] at H
              have c29b0 : decide (1 < ((rd_L9 x6_2 (ji26)).length : Int)) = true := decide_eq_true c29; have c29b1 : decide (1 < (rd_L9 x6_2 (ji26)).length) = true := decide_eq_true (by omega); clear c29
              by_cases c30 : (rd (rd_L9 x6_2 (ji26)) 1) = (wrap64 (x7_2 - 1))
              ·
               rw [if_pos c30] at H
               have c30b0 : ((rd (rd_L9 x6_2 (ji26)) 1) == (wrap64 (x7_2 - 1))) = true := beq_iff_eq.mpr c30; have c30b1 : ((rd (rd_L9 x6_2 (ji26)) 1) != (wrap64 (x7_2 - 1))) = false := bne_eq_false_iff_eq.mpr c30; clear c30
               by_cases c31 : 0 < ((rd_L9 x6_2 (ji26)).length : Int)
               ·
                rw [if_pos c31] at H
                have c31b0 : decide (0 < ((rd_L9 x6_2 (ji26)).length : Int)) = true := decide_eq_true c31; have c31b1 : decide (0 < (rd_L9 x6_2 (ji26)).length) = true := decide_eq_true (by omega); clear c31
                obtain ⟨y484, hy484⟩ : ∃ y_ : List Int, y_ = (([rd (rd_L9 x6_2 (ji26)) 0, x7_2] : List Int)) := ⟨_, rfl⟩
                replace H : (spec_OpenSpans.l0 kj15 l0 (x6_2.set ((ji26) : Int).toNat y484) (wrap64 (x7_2 + 1)) a1_0 a1_1 a1_2) = some (r1, r2) := by first | (rw [hy484]; with_reducible exact H) | (have H2_ := (Option.bind_some _ _).symm.trans H; rw [hy484]; with_reducible exact H2_) | (have H2_ := (Option.bind_some _ _).symm.trans H; with_reducible exact H2_) | with_reducible exact H | (rw [hy484]; exact H) | exact H
                have Ny484 := Aside0.mk hy484; clear hy484
                obtain ⟨y487, hy487⟩ : ∃ y_ : List (List Int), y_ = (x6_2.set ((ji26) : Int).toNat y484) := ⟨_, rfl⟩
                replace H : (spec_OpenSpans.l0 kj15 l0 y487 (wrap64 (x7_2 + 1)) a1_0 a1_1 a1_2) = some (r1, r2) := by first | (rw [hy487]; with_reducible exact H) | (have H2_ := (Option.bind_some _ _).symm.trans H; rw [hy487]; with_reducible exact H2_) | (have H2_ := (Option.bind_some _ _).symm.trans H; with_reducible exact H2_) | with_reducible exact H | (rw [hy487]; exact H) | exact H
                have Ny487 := Aside0.mk hy487; clear hy487; have H' := Aside0.mk H; clear H; obtain ⟨Ao33, co33, eo33⟩ := Kd.S_slice HO_6.out; subst eo33; have p480 : 0 ≤ ((ji26) : Int) := dt_; have q480 : (ji26) < (x6_2.length : Int) := dt_; obtain ⟨ad480, A480_0, c480_0, e480, hx480_0, hl480_0, hi480_0⟩ := at_L9 (Kd.S_reads' HO_6.out).2.2 (ji26) p480 q480
                cases e480
                obtain ⟨ce480, hce480, hMe480, hcc480⟩ := Kd.S_get HO_6.out [] (ji26) p480 (by first | exact q480 | exact dt_ | (have e_ := (Kd.S_reads' HO_6.out).1; omega)); obtain ⟨ve480_0, rfl, ge480_0⟩ := hMe480; have hv480_0 := hcc480 0 _ rfl
                rw [Nat.add_zero, show ((Kd.slice 3 (Kd.int .i64))).sz = 1 from rfl, Nat.mul_one] at hv480_0
                replace hv480_0 := Option.some.inj (hv480_0.symm.trans hx480_0)
                rw [hv480_0] at ge480_0
                have HL480_0 := Aside0.mk (show Kd.R (Kd.int .i64) 3 _ _ _ _ (rd_L9 x6_2 (ji26)) from ge480_0); clear hv480_0 ge480_0; clear hcc480 hce480; have HR480_0 := Aside0.mk hi480_0; have HC480_0 := Aside0.mk hl480_0; clear hi480_0 hl480_0; replace p480 := eq_true p480; replace q480 := eq_true q480
                have p481 : 0 ≤ (1 : Int) := (by omega)
                have q481 : 1 < ((rd_L9 x6_2 (ji26)).length : Int) := dt_; obtain ⟨ad481, e481, hx481_0⟩ := Kd.at_int (by repeat (first | (with_reducible exact HR480_0.out) | (with_reducible refine Kd.C_alloc ?_ _) | (with_reducible refine Kd.C_drewN ?_ _) | (with_reducible refine Kd.C_drew ?_) | exact HR480_0.out)) 1 p481 q481
                cases e481
                (try simp only [show (1 : Int).toNat = 1 from rfl, Nat.reduceMul, Nat.reduceEqDiff, Go.Addr.add, ↓reduceIte] at hx481_0); have qi481 : (1 < (rd_L9 x6_2 (ji26)).length) = True := eq_true (by omega); (try rw [show ((1 : Int)).toNat = 1 from rfl] at hx481_0); replace p481 := eq_true p481; replace q481 := eq_true q481; have p482 : 0 ≤ ((ji26) : Int) := dt_; have q482 : (ji26) < (x6_2.length : Int) := dt_; obtain ⟨ad482, A482_0, c482_0, e482, hx482_0, hl482_0, hi482_0⟩ := at_L9 (Kd.S_reads' HO_6.out).2.2 (ji26) p482 q482
                obtain rfl : ad480 = ad482 := (by injection e482)
                obtain ⟨ce482, hce482, hMe482, hcc482⟩ := Kd.S_get HO_6.out [] (ji26) p482 (by first | exact q482 | exact dt_ | (have e_ := (Kd.S_reads' HO_6.out).1; omega)); obtain ⟨ve482_0, rfl, ge482_0⟩ := hMe482; have hv482_0 := hcc482 0 _ rfl
                rw [Nat.add_zero, show ((Kd.slice 3 (Kd.int .i64))).sz = 1 from rfl, Nat.mul_one] at hv482_0
                replace hv482_0 := Option.some.inj (hv482_0.symm.trans hx482_0)
                rw [hv482_0] at ge482_0
                have HL482_0 := Aside0.mk (show Kd.R (Kd.int .i64) 3 _ _ _ _ (rd_L9 x6_2 (ji26)) from ge482_0); clear hv482_0 ge482_0; clear hcc482 hce482; have HR482_0 := Aside0.mk hi482_0; have HC482_0 := Aside0.mk hl482_0; clear hi482_0 hl482_0; replace p482 := eq_true p482; replace q482 := eq_true q482; have ea_ := Option.some.inj (hx480_0.symm.trans hx482_0)
                injection ea_ with ea_ en_ ec_
                subst ea_; subst ec_; clear en_
                have p483 : 0 ≤ (0 : Int) := (by omega)
                have q483 : 0 < ((rd_L9 x6_2 (ji26)).length : Int) := dt_; obtain ⟨ad483, e483, hx483_0⟩ := Kd.at_int (by repeat (first | (with_reducible exact HR482_0.out) | (with_reducible refine Kd.C_alloc ?_ _) | (with_reducible refine Kd.C_drewN ?_ _) | (with_reducible refine Kd.C_drew ?_) | exact HR482_0.out)) 0 p483 q483
                cases e483
                have qi483 : (0 < (rd_L9 x6_2 (ji26)).length) = True := eq_true (by omega); (try rw [show ((0 : Int)).toNat = 0 from rfl] at hx483_0); (try rw [Addr.add_zero'] at hx483_0); replace p483 := eq_true p483; replace q483 := eq_true q483
                go_wp2_with (first | ((with_reducible refine gate_dst (N := 61) rfl ?_); refine Kd.R_lit (Kd.int .i64) _ 3 ?hg (N := 61) ?hd (xs := ([rd (rd_L9 x6_2 (ji26)) 0, x7_2] : List Int)) (inner := [.int .i64 (rd (rd_L9 x6_2 (ji26)) 0), .int .i64 x7_2]) (ok := fun _ => True) (okp := fun _ => True) ?hr ?hp (fun _ hk => hk) trivial (Below.refl _ _) (Nat.le_refl _) (by simp) ?_; (case hd => rfl); (case hg => rfl); (case hr => first | (go_simp; done) | (go_simp; rfl)); (case hp => exact (Reps.one (show Kd.M (Kd.int .i64) _ _ _ (rd (rd_L9 x6_2 (ji26)) 0) [.int .i64 (rd (rd_L9 x6_2 (ji26)) 0)] from rfl) (Reps.one (show Kd.M (Kd.int .i64) _ _ _ x7_2 [.int .i64 x7_2] from rfl) (Reps.none _ _)))); intro v485 w34 ho35 hb hg_ hnew_; clear hg_ hnew_; replace ho35 := ry_ Ny484.out ho35; replace HO_6 := Aside0.mk (Kd.S_elder' (by (with_reducible repeat (first | apply Kd.S_alloc | apply Kd.S_drewN | apply Kd.S_drew)); exact HO_6.out) (Kd.R_base ho35) hb); have HO486 := Aside0.mk (Kd.R_lower (Kd.R_new' (Kd.R_new' ho35 (Kd.R_lt (kr_ HL480_0.out))) (Kd.R_lt (kr_ HL482_0.out))) (below_size (lb1_ HB.out GE472.out))); replace HL480_0 := Aside0.mk (Kd.R_elder' (kr_ HL480_0.out) (Kd.R_base ho35) hb); replace HL482_0 := Aside0.mk (Kd.R_elder' (kr_ HL482_0.out) (Kd.R_base ho35) hb); replace BK472 := Aside0.mk (bb_ (bk_ BK472.out) hb); replace HR480_0 := Aside0.mk (Kd.C_below (by repeat (first | (with_reducible exact HR480_0.out) | (with_reducible refine Kd.C_alloc ?_ _) | (with_reducible refine Kd.C_drewN ?_ _) | (with_reducible refine Kd.C_drew ?_) | exact HR480_0.out)) hb); replace HR482_0 := Aside0.mk (Kd.C_below (by repeat (first | (with_reducible exact HR482_0.out) | (with_reducible refine Kd.C_alloc ?_ _) | (with_reducible refine Kd.C_drewN ?_ _) | (with_reducible refine Kd.C_drew ?_) | exact HR482_0.out)) hb); replace HB := Aside0.mk (below_step (lb1_ HB.out GE472.out) hb); clear hb ho35; have p32 : 0 ≤ ((ji26) : Int) := dt_; have q32 : ((ji26) : Int) < ((x6_2.length : Int) : Int) := dt_; obtain ⟨go32, co32, eo32, gb32, gl32, cl32, HG32⟩ := Kd.S_form HO_6.out (by omega); (first | cases eo32 | (injection eo32 with ea_ en_ ec_; (first | subst ea_ | (injection ea_ with ea_; subst ea_)); subst ec_; clear en_)); have GB32 := Aside0.mk gb32; have GG32 := Aside0.mk HG32; clear gb32 gl32 HG32; (first | simp only [add_plain] at hx480_0 | skip); (first | simp only [add_plain] at hx482_0 | skip); obtain ⟨_, ce32, hcl32, hM32, hcc32, hfr32, _, _⟩ := Kd.S_elem HO_6.out [] ((ji26) : Int) p32 q32; obtain ⟨ve32_0, rfl, ge32_0⟩ := hM32; have hx32_0 := hcc32 0 _ rfl; have hf32_0 := hfr32 0; (try simp only [show ((Kd.slice 3 (Kd.int .i64))).sz = 1 from rfl, Nat.mul_one, Nat.add_zero] at hx32_0); (try simp only [show ((Kd.slice 3 (Kd.int .i64))).sz = 1 from rfl, Nat.mul_one, Nat.add_zero] at hf32_0); clear hcl32 hcc32 hfr32; replace p32 := eq_true p32; replace q32 := eq_true q32; have n_ := Aside0.mk (Kd.S_mono (ok' := (fun k_ => some k_ ≠ (v485 : Value).ownBlock)) HO_6.out (fun k_ hk => hk.2)); clear HO_6; have HO_6 := n_; clear n_; have HX36 := Aside0.mk (show Kd.S (Kd.slice 3 (Kd.int .i64)) 36 w34 w.heap.size (fun k_ => ((fun _ => True)) k_ ∧ ¬ ((fun k_ => some k_ = (v485 : Value).ownBlock)) k_) (.slice (some ⟨go32, 0, none⟩) x6_2.length co33) x6_2 from (by (with_reducible repeat (first | apply Kd.S_alloc | apply Kd.S_drewN | apply Kd.S_drew)); exact Kd.S_mono HO_6.out (fun k_ hk => ⟨trivial, fun e_ => hk e_⟩))); obtain ⟨oki36, ce36, hcl36, hM36, hcc36, hfr36, hoki36, hH36⟩ := Kd.S_elem HX36.out [] ((ji26) : Int) (dt_) (by have h_ : ((ji26) : Int) < ((x6_2.length : Int) : Int) := dt_; first | exact h_ | (have e_ := (Kd.S_reads' HO_6.out).1; omega) | simpa using h_); obtain ⟨ve36_0, rfl, ge36_0⟩ := hM36; have HP36 := Kd.S_seg hH36 (dt_) (by have h_ : ((ji26) : Int) < ((x6_2.length : Int) : Int) := dt_; first | exact h_ | (have e_ := (Kd.S_reads' HO_6.out).1; omega) | simpa using h_) (seg := [v485]) (j := 0) (show 1 ≤ 1 from by decide) (x' := y484) (Kd.M_row (Kd.R_mono (Kd.R_tight rfl (Kd.R_mono (ok' := fun k_ => ((fun _ => True)) k_ ∧ k_ ≠ go32) (Kd.R_apart' (HO486.out) (Kd.S_typed HO_6.out) (by decide)) (fun k_ hk => ⟨trivial, fun e_ => (hk.2) (by rw [e_]; rfl)⟩))) (fun _ h_ => Or.inr (h_)))) (fun _ hk => hk) (fun k_ hk_ => ((Kd.R_mono (ok' := fun k_ => ((fun _ => True)) k_ ∧ k_ ≠ go32) (Kd.R_apart' (HO486.out) (Kd.S_typed HO_6.out) (by decide)) (fun k_ hk => ⟨trivial, fun e_ => (hk.2) (by rw [e_]; rfl)⟩))).1 k_ hk_.symm); have hx36_0 := hcc36 0 _ rfl; (try simp only [show ((Kd.slice 3 (Kd.int .i64))).sz = 1 from rfl, Nat.mul_one, Nat.add_zero] at hx36_0); have hf36_0 := hfr36 0; (try simp only [show ((Kd.slice 3 (Kd.int .i64))).sz = 1 from rfl, Nat.mul_one, Nat.add_zero] at hf36_0); clear hcl36 hcc36 hfr36 hoki36 hH36; (try simp only [show ((Kd.slice 3 (Kd.int .i64))).sz = 1 from rfl, Nat.mul_one, Nat.add_zero] at HP36)) | ((with_reducible refine gate_store (t := 36) (p := 62) rfl ?_); refine store_event (t := 36) (p := 62) (v := ?vo_w37) (w1 := (w34.setCell ⟨go32, ((ji26) : Int).toNat, none⟩ (v485))) ?hg ?ho ?hn ?hr ?_; (case ho => rfl); (case hg => rfl); (case hn => rfl); (case hr => first | (go_simp; done) | (go_simp; rfl) | (obtain ⟨A_, c_, e_⟩ := Kd.R_slice HO486.out; rw [e_]; go_simp; done) | (obtain ⟨A_, c_, e_⟩ := Kd.R_slice HO486.out; rw [e_]; go_simp; rfl)); intro w37 hw; have hg : w34.grownBy w37 (some go32) := (by rw [hw]; exact HP36.2); have hp_ : Kd.S (Kd.slice 3 (Kd.int .i64)) 36 w37 w.heap.size (fun _ => True) (.slice (some ⟨go32, 0, none⟩) x6_2.length co33) y487 := (by rw [hw, Ny487.out]; exact HP36.1); clear HP36; replace BK472 := Aside0.mk (blk_grown (g := gb472) (o := .cells #[.int .i64 a1_0, .int .i64 a1_1, .int .i64 a1_2] 30 (0, 0)) (bk_ BK472.out) hg (Kd.S_ne HO_6.out BK472.out (by decide))); replace HO_6 := Aside0.mk (hp_); replace HL480_0 := Aside0.mk (Kd.R_after (v := (.slice (some ⟨go32, 0, none⟩) x6_2.length co33)) (v1 := (.slice (some ⟨go32, 0, none⟩) x6_2.length co33)) (ok := (fun k_ => some k_ ≠ (v485 : Value).ownBlock)) (krm_ HL480_0.out (fun _ hk => ⟨hk.2, hk.1.2⟩)) hg (.inl rfl)); replace HL482_0 := Aside0.mk (Kd.R_after (v := (.slice (some ⟨go32, 0, none⟩) x6_2.length co33)) (v1 := (.slice (some ⟨go32, 0, none⟩) x6_2.length co33)) (ok := (fun k_ => some k_ ≠ (v485 : Value).ownBlock)) (krm_ HL482_0.out (fun _ hk => ⟨hk.2, hk.1.2⟩)) hg (.inl rfl)); replace HB := Aside0.mk ((by rw [hw]; exact below_set (HB.out) GB32.out : Below w.heap.size w w37)); clear HO486; clear hg hw hp_))
                go_roundg kj15
                case measure => have := HJ2.out; have := HK2.out; have := HJ15.out; omega
                case rel => exact ⟨(y487), (wrap64 (x7_2 + 1)), (by first | rfl | (simp; done) | (simp [*]; done)), H', ⟨by have := HJ2.out; have := HK2.out; have := HJ15.out; omega⟩, ⟨by (with_reducible repeat (first | apply Kd.S_alloc | apply Kd.S_drewN | apply Kd.S_drew)); first | exact HO_6.out | (rw [Ny487.out]; exact (Kd.R_putg (Kd.R_drewN HO_6.out _) _ _).1) | (rw [Ny487.out]; exact (Kd.R_putg HO_6.out _ _).1)⟩, ⟨bk_ BK472.out⟩, ⟨by repeat (first | (with_reducible first | exact HB.out | apply below_alloc | apply pw_below_drewN | apply below_drew1 | refine below_set ?_ GE472.out) | exact HB.out | (first | exact below_set (pw_below_drewN HB.out _) GB32.out | exact below_set HB.out GB32.out))⟩⟩
               ·
                rw [if_neg c31] at H
                exact absurd H (by simp)
              ·
               rw [if_neg c30] at H
               have c30b0 : ((rd (rd_L9 x6_2 (ji26)) 1) == (wrap64 (x7_2 - 1))) = false := beq_eq_false_iff_ne.mpr c30; have c30b1 : ((rd (rd_L9 x6_2 (ji26)) 1) != (wrap64 (x7_2 - 1))) = true := bne_iff_ne.mpr c30
               obtain ⟨y488, hy488⟩ : ∃ y_ : List Int, y_ = (([x7_2, x7_2] : List Int)) := ⟨_, rfl⟩
               replace H : (if x6_2.length < 5864062014805 then (spec_OpenSpans.l0 kj15 l0 (x6_2 ++ [y488]) (wrap64 (x7_2 + 1)) a1_0 a1_1 a1_2) else (none)) = some (r1, r2) := by first | (rw [hy488]; with_reducible exact H) | (have H2_ := (Option.bind_some _ _).symm.trans H; rw [hy488]; with_reducible exact H2_) | (have H2_ := (Option.bind_some _ _).symm.trans H; with_reducible exact H2_) | with_reducible exact H | (rw [hy488]; exact H) | exact H
               have Ny488 := Aside0.mk hy488; clear hy488
               by_cases c38 : x6_2.length < 5864062014805
               ·
                rw [if_pos c38] at H
                have LMc38 := Aside0.mk c38; clear c38
                obtain ⟨y491, hy491⟩ : ∃ y_ : List (List Int), y_ = (x6_2 ++ [y488]) := ⟨_, rfl⟩
                replace H : (spec_OpenSpans.l0 kj15 l0 y491 (wrap64 (x7_2 + 1)) a1_0 a1_1 a1_2) = some (r1, r2) := by first | (rw [hy491]; with_reducible exact H) | (have H2_ := (Option.bind_some _ _).symm.trans H; rw [hy491]; with_reducible exact H2_) | (have H2_ := (Option.bind_some _ _).symm.trans H; with_reducible exact H2_) | with_reducible exact H | (rw [hy491]; exact H) | exact H
                have Ny491 := Aside0.mk hy491; clear hy491; have H' := Aside0.mk H; clear H; obtain ⟨Ao39, co39, eo39⟩ := Kd.S_slice HO_6.out; subst eo39; have p480 : 0 ≤ ((ji26) : Int) := dt_; have q480 : (ji26) < (x6_2.length : Int) := dt_; obtain ⟨ad480, A480_0, c480_0, e480, hx480_0, hl480_0, hi480_0⟩ := at_L9 (Kd.S_reads' HO_6.out).2.2 (ji26) p480 q480
                cases e480
                obtain ⟨ce480, hce480, hMe480, hcc480⟩ := Kd.S_get HO_6.out [] (ji26) p480 (by first | exact q480 | exact dt_ | (have e_ := (Kd.S_reads' HO_6.out).1; omega)); obtain ⟨ve480_0, rfl, ge480_0⟩ := hMe480; have hv480_0 := hcc480 0 _ rfl
                rw [Nat.add_zero, show ((Kd.slice 3 (Kd.int .i64))).sz = 1 from rfl, Nat.mul_one] at hv480_0
                replace hv480_0 := Option.some.inj (hv480_0.symm.trans hx480_0)
                rw [hv480_0] at ge480_0
                have HL480_0 := Aside0.mk (show Kd.R (Kd.int .i64) 3 _ _ _ _ (rd_L9 x6_2 (ji26)) from ge480_0); clear hv480_0 ge480_0; clear hcc480 hce480; have HR480_0 := Aside0.mk hi480_0; have HC480_0 := Aside0.mk hl480_0; clear hi480_0 hl480_0; replace p480 := eq_true p480; replace q480 := eq_true q480
                have p481 : 0 ≤ (1 : Int) := (by omega)
                have q481 : 1 < ((rd_L9 x6_2 (ji26)).length : Int) := dt_; obtain ⟨ad481, e481, hx481_0⟩ := Kd.at_int (by repeat (first | (with_reducible exact HR480_0.out) | (with_reducible refine Kd.C_alloc ?_ _) | (with_reducible refine Kd.C_drewN ?_ _) | (with_reducible refine Kd.C_drew ?_) | exact HR480_0.out)) 1 p481 q481
                cases e481
                (try simp only [show (1 : Int).toNat = 1 from rfl, Nat.reduceMul, Nat.reduceEqDiff, Go.Addr.add, ↓reduceIte] at hx481_0); have qi481 : (1 < (rd_L9 x6_2 (ji26)).length) = True := eq_true (by omega); (try rw [show ((1 : Int)).toNat = 1 from rfl] at hx481_0); replace p481 := eq_true p481; replace q481 := eq_true q481
                go_wp2_with (first | ((with_reducible refine gate_dst (N := 66) rfl ?_); refine Kd.R_lit (Kd.int .i64) _ 3 ?hg (N := 66) ?hd (xs := ([x7_2, x7_2] : List Int)) (inner := [.int .i64 x7_2, .int .i64 x7_2]) (ok := fun _ => True) (okp := fun _ => True) ?hr ?hp (fun _ hk => hk) trivial (Below.refl _ _) (Nat.le_refl _) (by simp) ?_; (case hd => rfl); (case hg => rfl); (case hr => first | (go_simp; done) | (go_simp; rfl)); (case hp => exact (Reps.one (show Kd.M (Kd.int .i64) _ _ _ x7_2 [.int .i64 x7_2] from rfl) (Reps.one (show Kd.M (Kd.int .i64) _ _ _ x7_2 [.int .i64 x7_2] from rfl) (Reps.none _ _)))); intro v489 w40 ho41 hb hg_ hnew_; clear hg_ hnew_; replace ho41 := ry_ Ny488.out ho41; replace HO_6 := Aside0.mk (Kd.S_elder' (by (with_reducible repeat (first | apply Kd.S_alloc | apply Kd.S_drewN | apply Kd.S_drew)); exact HO_6.out) (Kd.R_base ho41) hb); have HO490 := Aside0.mk (Kd.R_lower (Kd.R_new' ho41 (Kd.R_lt (kr_ HL480_0.out))) (below_size (lb1_ HB.out GE472.out))); replace HL480_0 := Aside0.mk (Kd.R_elder' (kr_ HL480_0.out) (Kd.R_base ho41) hb); replace BK472 := Aside0.mk (bb_ (bk_ BK472.out) hb); replace HR480_0 := Aside0.mk (Kd.C_below (by repeat (first | (with_reducible exact HR480_0.out) | (with_reducible refine Kd.C_alloc ?_ _) | (with_reducible refine Kd.C_drewN ?_ _) | (with_reducible refine Kd.C_drew ?_) | exact HR480_0.out)) hb); replace HB := Aside0.mk (below_step (lb1_ HB.out GE472.out) hb); clear hb ho41; obtain ⟨Ao43, co43, eo43⟩ := Kd.R_slice HO490.out; subst eo43) | ((with_reducible refine gate_builtin (b := .append) (xs := #[.tmp 63, .tmp 67]) rfl ?_); at_builtin; refine Kd.S_append (Kd.slice 3 (Kd.int .i64)) (w0 := w) w.heap.size rfl (.tmp 63) (.tmp 67) 60 36 (.slice none 0 0) 24 rfl Try.underlying60 info36 rfl (by decide) (by omega) (.slice (some ad480) x6_2.length co39) x6_2 y488 [.slice Ao43 y488.length co43] (fun _ => True) (fun k_ => some k_ = (.slice Ao43 y488.length co43 : Value).ownBlock) rfl rfl ?aP (fun k_ hk_ => ((Kd.R_mono (ok' := fun k_ => ((fun _ => True)) k_ ∧ some k_ ≠ (.slice (some ad480) x6_2.length co39 : Value).ownBlock) (Kd.R_apart' (HO490.out) (Kd.S_typed HO_6.out) (by decide)) (fun k_ hk => ⟨trivial, hk.2⟩))).1 k_ hk_.symm) ?aF ?aO ?aB ?aS ?aL ?_; (case aP => exact Kd.M_row (Kd.R_mono (Kd.R_tight rfl (Kd.R_mono (ok' := fun k_ => ((fun _ => True)) k_ ∧ some k_ ≠ (.slice (some ad480) x6_2.length co39 : Value).ownBlock) (Kd.R_apart' (HO490.out) (Kd.S_typed HO_6.out) (by decide)) (fun k_ hk => ⟨trivial, hk.2⟩))) (fun _ h_ => h_))); (case aB => exact (lb1_ HB.out GE472.out)); (case aF => exact (fun _ _ => trivial)); (case aO => exact (by (with_reducible repeat (first | apply Kd.S_alloc | apply Kd.S_drewN | apply Kd.S_drew)); exact Kd.S_mono HO_6.out (fun k_ hk => ⟨trivial, fun e_ => hk.2 e_⟩))); (case aS => exact (below_size (lb1_ HB.out GE472.out))); (case aL => have := LMc38.out; omega); intro v492 w42 ho hb hg hat; rw [← Ny491.out] at ho; replace BK472 := Aside0.mk (blk_grown (g := gb472) (o := .cells #[.int .i64 a1_0, .int .i64 a1_1, .int .i64 a1_2] 30 (0, 0)) (bk_ BK472.out) hg (Kd.S_ne HO_6.out BK472.out (by decide))); replace HL480_0 := Aside0.mk (Kd.R_after (ok := (fun k_ => some k_ ≠ (.slice Ao43 y488.length co43 : Value).ownBlock)) (krm_ HL480_0.out (fun _ hk => ⟨hk.2, hk.1.2⟩)) hg hat); replace HB := Aside0.mk (hb); have HO493 := Aside0.mk (ho); clear HO_6 HO490; clear ho hb hg hat))
                go_roundg kj15
                case measure => have := HJ2.out; have := HK2.out; have := HJ15.out; omega
                case rel => exact ⟨(y491), (wrap64 (x7_2 + 1)), (by first | rfl | (simp; done) | (simp [*]; done)), H', ⟨by have := HJ2.out; have := HK2.out; have := HJ15.out; omega⟩, ⟨by (with_reducible repeat (first | apply Kd.S_alloc | apply Kd.S_drewN | apply Kd.S_drew)); exact HO493.out⟩, ⟨bk_ BK472.out⟩, ⟨lb1_ HB.out GE472.out⟩⟩
               ·
                rw [if_neg c38] at H
                exact absurd H (by simp)
             ·
              rw [if_neg c29] at H
              exact absurd H (by simp)
            ·
             rw [if_neg c28] at H
             exact absurd H (by simp)
           ·
            rw [if_neg c27] at H
            exact absurd H (by simp)
          ·
           rw [if_neg c25] at H
           have c25b0 : decide (0 < (x6_2.length : Int)) = false := decide_eq_false c25; have c25b1 : decide (0 < x6_2.length) = false := decide_eq_false (by omega); clear c25
           obtain ⟨y494, hy494⟩ : ∃ y_ : List Int, y_ = (([x7_2, x7_2] : List Int)) := ⟨_, rfl⟩
           replace H : (if x6_2.length < 5864062014805 then (spec_OpenSpans.l0 kj15 l0 (x6_2 ++ [y494]) (wrap64 (x7_2 + 1)) a1_0 a1_1 a1_2) else (none)) = some (r1, r2) := by first | (rw [hy494]; with_reducible exact H) | (have H2_ := (Option.bind_some _ _).symm.trans H; rw [hy494]; with_reducible exact H2_) | (have H2_ := (Option.bind_some _ _).symm.trans H; with_reducible exact H2_) | with_reducible exact H | (rw [hy494]; exact H) | exact H
           have Ny494 := Aside0.mk hy494; clear hy494
           by_cases c44 : x6_2.length < 5864062014805
           ·
            rw [if_pos c44] at H
            have LMc44 := Aside0.mk c44; clear c44
            obtain ⟨y497, hy497⟩ : ∃ y_ : List (List Int), y_ = (x6_2 ++ [y494]) := ⟨_, rfl⟩
            replace H : (spec_OpenSpans.l0 kj15 l0 y497 (wrap64 (x7_2 + 1)) a1_0 a1_1 a1_2) = some (r1, r2) := by first | (rw [hy497]; with_reducible exact H) | (have H2_ := (Option.bind_some _ _).symm.trans H; rw [hy497]; with_reducible exact H2_) | (have H2_ := (Option.bind_some _ _).symm.trans H; with_reducible exact H2_) | with_reducible exact H | (rw [hy497]; exact H) | exact H
            have Ny497 := Aside0.mk hy497; clear hy497; have H' := Aside0.mk H; clear H; obtain ⟨Ao45, co45, eo45⟩ := Kd.S_slice HO_6.out; subst eo45
            go_wp2_with (first | ((with_reducible refine gate_dst (N := 66) rfl ?_); refine Kd.R_lit (Kd.int .i64) _ 3 ?hg (N := 66) ?hd (xs := ([x7_2, x7_2] : List Int)) (inner := [.int .i64 x7_2, .int .i64 x7_2]) (ok := fun _ => True) (okp := fun _ => True) ?hr ?hp (fun _ hk => hk) trivial (Below.refl _ _) (Nat.le_refl _) (by simp) ?_; (case hd => rfl); (case hg => rfl); (case hr => first | (go_simp; done) | (go_simp; rfl)); (case hp => exact (Reps.one (show Kd.M (Kd.int .i64) _ _ _ x7_2 [.int .i64 x7_2] from rfl) (Reps.one (show Kd.M (Kd.int .i64) _ _ _ x7_2 [.int .i64 x7_2] from rfl) (Reps.none _ _)))); intro v495 w46 ho47 hb hg_ hnew_; clear hg_ hnew_; replace ho47 := ry_ Ny494.out ho47; replace HO_6 := Aside0.mk (Kd.S_elder' (by (with_reducible repeat (first | apply Kd.S_alloc | apply Kd.S_drewN | apply Kd.S_drew)); exact HO_6.out) (Kd.R_base ho47) hb); have HO496 := Aside0.mk (Kd.R_lower ho47 (below_size (lb1_ HB.out GE472.out))); replace BK472 := Aside0.mk (bb_ (bk_ BK472.out) hb); replace HB := Aside0.mk (below_step (lb1_ HB.out GE472.out) hb); clear hb ho47; obtain ⟨Ao49, co49, eo49⟩ := Kd.R_slice HO496.out; subst eo49) | ((with_reducible refine gate_builtin (b := .append) (xs := #[.tmp 63, .tmp 67]) rfl ?_); at_builtin; refine Kd.S_append (Kd.slice 3 (Kd.int .i64)) (w0 := w) w.heap.size rfl (.tmp 63) (.tmp 67) 60 36 (.slice none 0 0) 24 rfl Try.underlying60 info36 rfl (by decide) (by omega) (.slice Ao45 x6_2.length co45) x6_2 y494 [.slice Ao49 y494.length co49] (fun _ => True) (fun k_ => some k_ = (.slice Ao49 y494.length co49 : Value).ownBlock) rfl rfl ?aP (fun k_ hk_ => ((Kd.R_mono (ok' := fun k_ => ((fun _ => True)) k_ ∧ some k_ ≠ (.slice Ao45 x6_2.length co45 : Value).ownBlock) (Kd.R_apart' (HO496.out) (Kd.S_typed HO_6.out) (by decide)) (fun k_ hk => ⟨trivial, hk.2⟩))).1 k_ hk_.symm) ?aF ?aO ?aB ?aS ?aL ?_; (case aP => exact Kd.M_row (Kd.R_mono (Kd.R_tight rfl (Kd.R_mono (ok' := fun k_ => ((fun _ => True)) k_ ∧ some k_ ≠ (.slice Ao45 x6_2.length co45 : Value).ownBlock) (Kd.R_apart' (HO496.out) (Kd.S_typed HO_6.out) (by decide)) (fun k_ hk => ⟨trivial, hk.2⟩))) (fun _ h_ => h_))); (case aB => exact (lb1_ HB.out GE472.out)); (case aF => exact (fun _ _ => trivial)); (case aO => exact (by (with_reducible repeat (first | apply Kd.S_alloc | apply Kd.S_drewN | apply Kd.S_drew)); exact Kd.S_mono HO_6.out (fun k_ hk => ⟨trivial, fun e_ => hk.2 e_⟩))); (case aS => exact (below_size (lb1_ HB.out GE472.out))); (case aL => have := LMc44.out; omega); intro v498 w48 ho hb hg hat; rw [← Ny497.out] at ho; replace BK472 := Aside0.mk (blk_grown (g := gb472) (o := .cells #[.int .i64 a1_0, .int .i64 a1_1, .int .i64 a1_2] 30 (0, 0)) (bk_ BK472.out) hg (Kd.S_ne HO_6.out BK472.out (by decide))); replace HB := Aside0.mk (hb); have HO499 := Aside0.mk (ho); clear HO_6 HO496; clear ho hb hg hat))
            go_roundg kj15
            case measure => have := HJ2.out; have := HK2.out; have := HJ15.out; omega
            case rel => exact ⟨(y497), (wrap64 (x7_2 + 1)), (by first | rfl | (simp; done) | (simp [*]; done)), H', ⟨by have := HJ2.out; have := HK2.out; have := HJ15.out; omega⟩, ⟨by (with_reducible repeat (first | apply Kd.S_alloc | apply Kd.S_drewN | apply Kd.S_drew)); exact HO499.out⟩, ⟨bk_ BK472.out⟩, ⟨lb1_ HB.out GE472.out⟩⟩
           ·
            rw [if_neg c44] at H
            exact absurd H (by simp)
      ·
       rw [if_neg c15] at H
       have c15b0 : decide (x7_2 ≤ 999) = false := decide_eq_false c15
       clear c15
       simp only [Option.some.injEq, Prod.mk.injEq] at H
       obtain ⟨rfl, rfl⟩ := H
       go_wp2
       go_ret2
       exact ⟨_, rr_, by (with_reducible repeat (first | apply Kd.S_alloc | apply Kd.S_drewN | apply Kd.S_drew)); exact HO_6.out, lb1_ HB.out GE472.out⟩
def impl_within.f (a0 : Int) (a1 : Int) (a2 : Int) : Option (Bool) := if a0 ≥ a1 then (some (decide (a0 ≤ a2))) else (some false)
set_option maxHeartbeats 8000000 in
set_option maxRecDepth 100000 in
theorem impl_within.calls (a0 : Int) (a1 : Int) (a2 : Int) (r : Bool) (w : World) (h : impl_within.f a0 a1 a2 = some r) :
  Calls Try.prog 74 #[.int .i64 a0, .int .i64 a1, .int .i64 a2] w fun e w' => e = .returned (.bool r) ∧ Drawn0 w w' := by
 have H : (if a0 ≥ a1 then (some (decide (a0 ≤ a2))) else (some false)) = some r := h
 clear h
 by_cases c4 : a0 ≥ a1
 ·
  rw [if_pos c4] at H
  have c4b0 : decide (a1 ≤ a0) = true := decide_eq_true c4
  clear c4
  obtain rfl := Option.some.inj H
  go_enter Try.func74, Try.ntmps74
  go_wp2
  go_ret
  exact ⟨by first | rfl | (simp; done) | (simp [*]; done), by repeat (first | exact Drawn0.refl _ | apply Drawn0.step)⟩
 ·
  rw [if_neg c4] at H
  have c4b0 : decide (a1 ≤ a0) = false := decide_eq_false c4
  clear c4
  obtain rfl := Option.some.inj H
  go_enter Try.func74, Try.ntmps74
  go_wp2
  go_ret
  exact ⟨by first | rfl | (simp; done) | (simp [*]; done), by repeat (first | exact Drawn0.refl _ | apply Drawn0.step)⟩
def impl_isLevel.f (a0 : Int) : Option (Bool) := (impl_within.f a0 (-500) 500).bind fun t148 => (some t148)
set_option maxHeartbeats 8000000 in
set_option maxRecDepth 100000 in
theorem impl_isLevel.calls (a0 : Int) (r : Bool) (w : World) (h : impl_isLevel.f a0 = some r) :
  Calls Try.prog 75 #[.int .i64 a0] w fun e w' => e = .returned (.bool r) ∧ Drawn0 w w' := by
 have H : ((impl_within.f a0 (-500) 500).bind fun t148 => (some t148)) = some r := h
 clear h
 replace H := Option.bind_eq_some_iff.mp H
 obtain ⟨t148, A20, H⟩ := H
 replace H : (some t148) = some r := H
 have A2 := Aside0.mk A20
 clear A20
 obtain rfl := Option.some.inj H
 go_enter Try.func75, Try.ntmps75
 go_wp2_with (first | ((with_reducible refine gate_callee (f := 74) rfl ?_); refine ga_ (some 4) Try.func74 #[.int .i64 a0, .int .i64 (-500), .int .i64 500] ?_; (with_reducible refine (impl_within.calls a0 (-500) 500 t148 _ A2.out).mono ?_); rintro e w' ⟨rfl, ⟨nd, rfl⟩⟩; refine ⟨_, rfl, ?_⟩))
 go_ret
 exact ⟨by first | rfl | (simp; done) | (simp [*]; done), by repeat (first | exact Drawn0.refl _ | apply Drawn0.step)⟩
end Go.Proofs.Ytojaeidabmfajaa.Pr

