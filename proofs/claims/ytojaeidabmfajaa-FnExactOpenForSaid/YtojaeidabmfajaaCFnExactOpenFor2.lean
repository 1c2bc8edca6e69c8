/-
What is proved: parts of the law FnExactOpenFor: what the functions that it reaches compute, and the plain law.
Conditions: those of each theorem.
-/
import Derived.ChangeArms
import Derived.ChangeSlices
import Derived.Deep.Slices
import Derived.RowKit
import Derived.SizedLaws
import Derived.WideShapes
import Derived.Test.YtojaeidabmfajaaCFnExactOpenFor1
namespace Go.Proofs.Ytojaeidabmfajaa.Pr
open Go.RowKit Go.Proofs.YtojaeidabmfajaaW.PrintWords Go.Proofs.YtojaeidabmfajaaW.PrintLast Go.Proofs.YtojaeidabmfajaaW.PrintMore
attribute [local go_sem] max2_int min2_int max_two min_two max_three min_three max_four min_four   -- for this text's walks alone
set_option linter.unusedVariables false
set_option linter.unusedSimpArgs false
def stepS (acc : List (Int × Int)) (x : Int) : List (Int × Int) :=
 match acc.getLast? with
 | some s => if s.2 = x - 1 then acc.dropLast ++ [(s.1, x)] else acc ++ [(x, x)]
 | none => [(x, x)]
def spansB (p : Int → Bool) : Nat → Int → List (Int × Int) → List (Int × Int)
 | 0, _, acc => acc
 | n + 1, x, acc => spansB p n (x + 1) (if p x = true then stepS acc x else acc)
theorem stepS_ext (Q : List (Int × Int)) (a x : Int) : stepS (Q ++ [(a, x - 1)]) x = Q ++ [(a, x)] := by
 unfold stepS
 rw [List.getLast?_concat]
 simp
theorem stepS_new (acc : List (Int × Int)) (x : Int) (h : ∀ s, acc.getLast? = some s → s.2 ≠ x - 1) : stepS acc x = acc ++ [(x, x)] := by
 unfold stepS
 split
 ·
  rename_i s hs
  rw [if_neg (h s hs)]
 ·
  rename_i hs
  rw [List.getLast?_eq_none_iff.1 hs]
  rfl
def kref_ : Kd Nat := Kd.scalar (fun b => .slice (some ⟨b, 0, none⟩) 2 2) (fun _ => rfl)
structure SpS (w : World) (base : Nat) (v : Value) (P : List (Nat × Int × Int)) : Prop where
 row : kref_.R 36 w base (fun _ => True) v (P.map (·.1))
 cel : ∀ p ∈ P, base ≤ p.1 ∧ w.heap[p.1]? = some (.cells #[.int .i64 p.2.1, .int .i64 p.2.2] 3 (0, 0))
 nod : (P.map (·.1)).Nodup
namespace SpS
variable {w w1 : World} {base b : Nat} {v v1 : Value} {P Q : List (Nat × Int × Int)} {x y : Int}
theorem nil (w : World) (base : Nat) : SpS w base (.slice none 0 0) [] := ⟨Kd.R_nil _ _ _ _ _, fun p hp => absurd hp List.not_mem_nil, List.nodup_nil⟩
theorem below (h : SpS w base v P) (hb : Below w.heap.size w w1) : SpS w1 base v P :=
 ⟨Kd.R_below h.row hb, fun p hp => ⟨(h.cel p hp).1, blk_below (h.cel p hp).2 hb⟩, h.nod⟩
theorem put (h : SpS w base v (Q ++ [(b, x, y)])) (y' : Int) : SpS (w.setCell ⟨b, 1, none⟩ (.int .i64 y')) base v (Q ++ [(b, x, y')]) := by
 have hc := h.cel (b, x, y) (by simp)
 refine ⟨?_, fun p hp => ?_, ?_⟩
 ·
  have := Kd.R_set h.row hc.2 (fun q hq => by rw [List.mem_singleton.1 hq]; decide) 1 (.int .i64 y')
  simpa using this
 ·
  rcases List.mem_append.1 hp with hp | hp
  ·
   refine ⟨(h.cel p (List.mem_append_left _ hp)).1, blk_far (h.cel p (List.mem_append_left _ hp)).2 (fun e => ?_) _⟩
   have hn := h.nod
   rw [List.map_append, List.nodup_append] at hn
   exact hn.2.2 _ (List.mem_map_of_mem hp) _ (by simp) e
  ·
   obtain rfl := List.mem_singleton.1 hp
   exact ⟨hc.1, blk_put hc.2 1 _ rfl⟩
 ·
  have := h.nod
  simpa using this
theorem app (h : SpS w base v P) (h1 : kref_.R 36 w1 base (fun _ => True) v1 (P.map (·.1) ++ [b])) (hg : w.grownBy w1 v.ownBlock) (hbb : base ≤ b) (hb : w.heap[b]? = some (.cells #[.int .i64 x, .int .i64 y] 3 (0, 0))) (hn : ∀ p ∈ P, p.1 ≠ b) : SpS w1 base v1 (P ++ [(b, x, y)]) := by
 obtain ⟨inner, ho⟩ := Kd.R_own h.row
 refine ⟨by rw [List.map_append]; exact h1, fun p hp => ?_, ?_⟩
 ·
  rcases List.mem_append.1 hp with hp | hp
  ·
   exact ⟨(h.cel p hp).1, blk_grown (h.cel p hp).2 hg (own_ne ho (h.cel p hp).2 (by decide))⟩
  ·
   obtain rfl := List.mem_singleton.1 hp
   exact ⟨hbb, blk_grown hb hg (own_ne ho hb (by decide))⟩
 ·
  rw [List.map_append, List.nodup_append]
  refine ⟨h.nod, by simp, fun a ha c hc e => ?_⟩
  obtain ⟨p, hp, rfl⟩ := List.mem_map.1 ha
  obtain rfl := List.mem_singleton.1 hc
  exact hn p hp e
theorem rows (h : SpS w base v P) : (Kd.slice 3 (Kd.int .i64)).R 36 w base (fun _ => True) v (P.map fun p => [p.2.1, p.2.2]) := by
 obtain ⟨h0, inner, ho, hr⟩ := h.row
 have ho' : w.ownsRow base 36 1 v (P.map fun p => [p.2.1, p.2.2]).length inner := by
  rw [List.length_map] at ho ⊢
  exact ho
 refine ⟨fun _ _ => trivial, inner, ho', ?_, ?_⟩
 ·
  rw [hr.1, List.length_map, List.length_map]
  rfl
 ·
  intro j p hj
  rw [List.getElem?_map] at hj
  obtain ⟨q, hq, rfl⟩ := Option.map_eq_some_iff.1 hj
  have h1 := hr.2 j q.1 (by rw [List.getElem?_map, hq]; rfl)
  have hc := h.cel q (List.mem_of_getElem? hq)
  refine ⟨_, h1, Kd.R_of_own ⟨rfl, .inr ⟨q.1, 2, _, rfl, hc.1, hc.2, Nat.le_refl _, by decide, rfl, rfl⟩⟩ (fun k hk => ⟨trivial, fun he => ?_⟩)⟩
  have e : q.1 = k := by simpa [Value.ownBlock] using hk
  exact own_ne ho hc.2 (by decide) (by rw [e]; exact he)
theorem form (h : SpS w base v (Q ++ [(b, x, y)])) : ∃ ad c, v = .slice (some ad) (Q.length + 1) c ∧ w.cell? (ad.add Q.length) = some (.slice (some ⟨b, 0, none⟩) 2 2) ∧ w.cell? ⟨b, 1, none⟩ = some (.int .i64 y) ∧ w.frozen? ⟨b, 1, none⟩ = false := by
 obtain ⟨A, c, e, hl, hC⟩ := Kd.R_reads h.row
 obtain ⟨ad, rfl, hc⟩ := ReadsOf.at_ (Kd.reads_of_C (enc := fun b => Value.slice (some ⟨b, 0, none⟩) 2 2) (d := (0 : Nat)) (h1 := fun _ => rfl) hC) (Q.length : Int) (by omega) (by rw [List.length_map, List.length_append, List.length_singleton]; omega)
 have hb := (h.cel (b, x, y) (by simp)).2
 refine ⟨ad, c, by rw [e]; simp, ?_, (blk_cell hb 1).trans rfl, blk_frozen hb 1⟩
 rw [Int.toNat_natCast] at hc
 rw [hc]
 simp [rdOf]
theorem slice_ (h : SpS w base v P) : ∃ A c, v = .slice A P.length c ∧ P.length ≤ c := by
 obtain ⟨A, c, e, hl, hC⟩ := Kd.R_reads h.row
 rw [List.length_map] at e hl
 exact ⟨A, c, e, hl⟩
end SpS
theorem SpS.fresh_ {w : World} {base g : Nat} {v : Value} {P : List (Nat × Int × Int)} (h : SpS w base v P) (hg : g = w.heap.size) : ∀ p ∈ P, p.1 ≠ g := fun p hp e => by
 have := blk_lt (h.cel p hp).2
 omega
section
variable {P : Program} {ops : Array Oper} {rest : List Oper} {o : Oper} {a : Act} {Q : Exit → Act → World → Prop}
theorem lit_event {W : World} (hgd : o.guard = none) {N : Tmp} (_hd : o.dst = some N) {cs : Array Value} {t : TypeId} {n : Nat}
  (hrun : (execOp a.eval o).run P W = .ok (.value (.slice (some ⟨W.heap.size, 0, none⟩) n n)) (W.alloc (.cells cs t)))
  (h : ∀ g, g = W.heap.size → ∀ w1, w1.heap[g]? = some (.cells cs t (0, 0)) → Below W.heap.size W w1 → wpList P ops Q rest (a.put o.dst (.slice (some ⟨g, 0, none⟩) n n)) w1) : wpList P ops Q (o :: rest) a W :=
 Kd.event_run hgd hrun (h _ rfl _ (blk_new W _) (below_alloc (Below.refl _ _) _))
end
set_option maxHeartbeats 8000000 in
set_option maxRecDepth 100000 in
theorem spansS_.calls (p : Int → Bool) (g : Nat) (lb : Array Value) (eg : ∀ args w, (callFunc g args).run Try.prog w = .ok (.enter g args) w) (a0 a1 : Int) (w : World) (h0 : 0 ≤ a0) (h1 : a1 ≤ 1000000)
  (hp : ∀ (W : World) (x : Int), a0 ≤ x → x ≤ a1 → Below w.heap.size w W → Calls Try.prog g (#[.int .i64 x] ++ lb) W fun e w' => e = .returned (.bool (p x)) ∧ Below W.heap.size W w') :
  Calls Try.prog 77 #[.int .i64 a0, .int .i64 a1, .func (.func g) #[] lb] w fun e w' => ∃ (v0_ : Value) (P : List (Nat × Int × Int)), e = .returned v0_ ∧ SpS w' w.heap.size v0_ P ∧ P.map (·.2) = spansB p (a1 - a0 + 1).toNat a0 [] ∧ Below w.heap.size w w' := by
 have HP := Aside0.mk hp
 clear hp
 obtain ⟨n, hn⟩ : ∃ n, (a1 - a0 + 1).toNat = n := ⟨_, rfl⟩
 rw [hn]
 obtain ⟨R, hR⟩ : ∃ R, spansB p n a0 [] = R := ⟨_, rfl⟩
 rw [hR]
 have HR0 := Aside0.mk hR
 clear hR
 go_enter Try.func77, Try.ntmps77
 go_wp2
 go_loopg [7, 8] n (fun gg v7 v8 wr => ∃ (kk : Nat) (P : List (Nat × Int × Int)), kk ≤ n ∧ n - kk ≤ gg ∧ v8 = .int .i64 (a0 + kk) ∧ P.length ≤ kk ∧ Aside0 (spansB p (n - kk) (a0 + kk) (P.map (·.2)) = R) ∧ Aside0 (SpS wr w.heap.size v7 P) ∧ Aside0 (Below w.heap.size w wr))
 case atStart => exact ⟨0, [], Nat.zero_le _, by omega, by simp, Nat.le_refl _, ⟨by simpa using HR0.out⟩, ⟨SpS.nil _ _⟩, ⟨Below.refl _ _⟩⟩
 case round =>
  obtain ⟨kk, P, hkk, hgg, rfl, hPl, HA, HS, BW⟩ := hrel
  by_cases hlt : kk < n
  ·
   obtain ⟨x, hx⟩ : ∃ x, x = a0 + (kk : Int) := ⟨_, rfl⟩
   have hxa : a0 ≤ x := by omega
   have hx1 : x ≤ a1 := by omega
   have hcall := HP.out wr x hxa hx1 BW.out
   have hA := HA.out
   rw [show n - kk = (n - (kk + 1)) + 1 by omega] at hA
   unfold spansB at hA
   have hw1 : wrap64 (x + 1) = x + 1 := by
    unfold wrap64
    omega
   have hw2 : wrap64 (x - 1) = x - 1 := by
    unfold wrap64
    omega
   rw [← hx] at hA ⊢
   have hxn : a0 + ((kk + 1 : Nat) : Int) = x + 1 := by omega
   have HX := Aside0.mk hx
   have HN := Aside0.mk hn
   have HG := Aside0.mk hgg
   have HL := Aside0.mk hPl
   clear HA hx hn hgg hPl hxa
   cases hq : p x with
   | false =>
    rw [hq] at hcall hA
    simp only [Bool.false_eq_true, if_false] at hA
    have HC := Aside0.mk hcall
    have HA := Aside0.mk hA
    clear hcall hA hq
    go_wp2_with (go_at_fn g; refine HC.out.mono ?_; rintro e w3 ⟨rfl, hb3⟩; have BW3 := Aside0.mk (below_step BW.out hb3); have HS3 := Aside0.mk (HS.out.below hb3); clear hb3)
    go_roundg (n - (kk + 1))
    case measure => have := HG.out; omega
    case rel => exact ⟨kk + 1, P, by omega, by omega, by first | (rw [hxn]; done) | (rw [hxn]; go_num), by have := HL.out; omega, ⟨by rw [hxn]; exact HA.out⟩, HS3, BW3⟩
   | true =>
    rw [hq] at hcall hA
    simp only [if_true] at hA
    have HC := Aside0.mk hcall
    clear hcall hq
    rcases List.eq_nil_or_concat P with rfl | ⟨Q, ⟨b, a, y⟩, rfl⟩
    ·
     rw [stepS_new _ _ (fun s hs => by simp at hs)] at hA
     have HA := Aside0.mk hA
     clear hA
     obtain ⟨A, c, e7, hc⟩ := HS.out.slice_
     obtain ⟨m, hm⟩ : ∃ m, ([] : List (Nat × Int × Int)).length = m := ⟨_, rfl⟩
     rw [hm] at e7
     subst e7
     have hw3 : wrap64 ((m : Int) - 1) = -1 := by
      have h0 : m = 0 := hm.symm
      unfold wrap64
      omega
     clear hc hm
     go_wp2_with (first | (go_at_fn g; refine HC.out.mono ?_; rintro e w3 ⟨rfl, hb3⟩; have BW3 := Aside0.mk (below_step BW.out hb3); have HS3 := Aside0.mk (HS.out.below hb3); clear hb3) | ((with_reducible refine gate_dst (N := 45) rfl ?_); refine lit_event ?hg (N := 45) ?hd (cs := #[.int .i64 x, .int .i64 x]) (t := 3) (n := 2) ?hr ?_; (case hd => rfl); (case hg => rfl); (case hr => first | (go_simp; done) | (go_simp; rfl)); intro gn hgn w4 hbox hb4; have HGN := Aside0.mk hgn; have BX := Aside0.mk hbox; have BW4 := Aside0.mk (below_step BW3.out hb4); have HS4 := Aside0.mk (HS3.out.below hb4); have HGL := Aside0.mk (HS3.out.fresh_ hgn); have HBB := Aside0.mk (show w.heap.size ≤ gn from by rw [hgn]; exact below_size BW3.out); clear hgn hbox hb4) | ((with_reducible refine gate_builtin (b := .append) (xs := #[.tmp 42, .tmp 46]) rfl ?_); at_builtin; refine Kd.R_append kref_ (w0 := w) w.heap.size rfl (.tmp 42) (.tmp 46) 60 36 (.slice none 0 0) 24 rfl Try.underlying60 info36 rfl (by decide) (by omega) _ _ gn [.slice (some ⟨gn, 0, none⟩) 2 2] (fun _ => True) (fun _ => False) rfl (by first | (go_simp; done) | (go_simp; rfl)) ?aP (fun _ hk => hk.elim) (fun _ _ => trivial) HS4.out.row BW4.out (below_size BW4.out) ?aL ?_; (case aP => exact rfl); (case aL => exact (by have := HL.out; omega : (0 + 1) * 24 ≤ 140737488355328)); intro v9 w9 ho hb hg hat; have HS9 := Aside0.mk (HS4.out.app ho hg HBB.out BX.out HGL.out); have BW9 := Aside0.mk hb; clear ho hb hg hat))
     go_roundg (n - (kk + 1))
     case measure => have := HG.out; omega
     case rel => exact ⟨kk + 1, [] ++ [(gn, x, x)], by omega, by omega, by first | (rw [hxn]; done) | (rw [hxn]; go_num), by have := HL.out; simp, ⟨by rw [hxn]; exact HA.out⟩, HS9, BW9⟩
    ·
     rw [List.concat_eq_append] at HL hA HS
     obtain ⟨ad, c, e7, hx0, hx2, hfz⟩ := HS.out.form
     obtain ⟨m, hm⟩ : ∃ m, Q.length + 1 = m := ⟨_, rfl⟩
     rw [hm] at e7
     subst e7
     obtain ⟨q, hq⟩ : ∃ q, Q.length = q := ⟨_, rfl⟩
     rw [hq] at hx0
     have hw3 : wrap64 ((m : Int) - 1) = (q : Int) := by
      have := HL.out
      rw [List.length_append, List.length_singleton] at this
      unfold wrap64
      omega
     have hz0 : (0 : Int) ≤ (q : Int) := by omega
     have hz1 : (q : Int) < (m : Int) := by omega
     clear hm hq
     by_cases hy : y = x - 1
     ·
      subst hy
      rw [List.map_append, List.map_cons, List.map_nil, stepS_ext] at hA
      have HA := Aside0.mk hA
      clear hA
      go_wp2_with (go_at_fn g; refine HC.out.mono ?_; rintro e w3 ⟨rfl, hb3⟩; have BW3 := Aside0.mk (below_step BW.out hb3); have HS3 := Aside0.mk (HS.out.below hb3); replace hx0 := pw_cell_below hb3 hx0; replace hx2 := pw_cell_below hb3 hx2; replace hfz := blk_frozen (HS3.out.cel (b, a, x - 1) (by simp)).2 1; clear hb3)
      go_roundg (n - (kk + 1))
      case measure => have := HG.out; omega
      case rel => exact ⟨kk + 1, Q ++ [(b, a, x)], by omega, by omega, by first | (rw [hxn]; done) | (rw [hxn]; go_num), by have := HL.out; simp at this ⊢; omega, ⟨by rw [hxn]; simpa using HA.out⟩, ⟨HS3.out.put x⟩, ⟨below_set BW3.out (HS3.out.cel (b, a, x - 1) (by simp)).1⟩⟩
     ·
      rw [stepS_new _ _ (fun s hs => by rw [List.map_append, List.map_cons, List.map_nil, List.getLast?_concat] at hs; obtain rfl := Option.some.inj hs; exact hy)] at hA
      have n0 : (y == x - 1) = false := beq_eq_false_iff_ne.mpr hy
      have n1 : decide (y = x - 1) = false := decide_eq_false hy
      have HA := Aside0.mk hA
      clear hA hy
      go_wp2_with (first | (go_at_fn g; refine HC.out.mono ?_; rintro e w3 ⟨rfl, hb3⟩; have BW3 := Aside0.mk (below_step BW.out hb3); have HS3 := Aside0.mk (HS.out.below hb3); replace hx0 := pw_cell_below hb3 hx0; replace hx2 := pw_cell_below hb3 hx2; replace hfz := blk_frozen (HS3.out.cel (b, a, y) (by simp)).2 1; clear hb3) | ((with_reducible refine gate_dst (N := 45) rfl ?_); refine lit_event ?hg (N := 45) ?hd (cs := #[.int .i64 x, .int .i64 x]) (t := 3) (n := 2) ?hr ?_; (case hd => rfl); (case hg => rfl); (case hr => first | (go_simp; done) | (go_simp; rfl)); intro gn hgn w4 hbox hb4; have HGN := Aside0.mk hgn; have BX := Aside0.mk hbox; have BW4 := Aside0.mk (below_step BW3.out hb4); have HS4 := Aside0.mk (HS3.out.below hb4); have HGL := Aside0.mk (HS3.out.fresh_ hgn); have HBB := Aside0.mk (show w.heap.size ≤ gn from by rw [hgn]; exact below_size BW3.out); clear hgn hbox hb4) | ((with_reducible refine gate_builtin (b := .append) (xs := #[.tmp 42, .tmp 46]) rfl ?_); at_builtin; refine Kd.R_append kref_ (w0 := w) w.heap.size rfl (.tmp 42) (.tmp 46) 60 36 (.slice none 0 0) 24 rfl Try.underlying60 info36 rfl (by decide) (by omega) _ _ gn [.slice (some ⟨gn, 0, none⟩) 2 2] (fun _ => True) (fun _ => False) rfl (by first | (go_simp; done) | (go_simp; rfl)) ?aP (fun _ hk => hk.elim) (fun _ _ => trivial) HS4.out.row BW4.out (below_size BW4.out) ?aL ?_; (case aP => exact rfl); (case aL => have := HL.out; simp at this ⊢; omega); intro v9 w9 ho hb hg hat; have HS9 := Aside0.mk (HS4.out.app ho hg HBB.out BX.out HGL.out); have BW9 := Aside0.mk hb; clear ho hb hg hat))
      go_roundg (n - (kk + 1))
      case measure => have := HG.out; omega
      case rel => exact ⟨kk + 1, (Q ++ [(b, a, y)]) ++ [(gn, x, x)], by omega, by omega, by first | (rw [hxn]; done) | (rw [hxn]; go_num), by have := HL.out; simp at this ⊢; omega, ⟨by rw [hxn]; simpa using HA.out⟩, HS9, BW9⟩
  ·
   have hltz : ¬ a0 + (kk : Int) ≤ a1 := by omega
   have hA := HA.out
   rw [show n - kk = 0 by omega] at hA
   unfold spansB at hA
   go_wp2
   go_ret
   exact ⟨_, rfl, P, HS.out, hA, BW.out⟩
theorem spans_.calls (p : Int → Bool) (g : Nat) (lb : Array Value) (eg : ∀ args w, (callFunc g args).run Try.prog w = .ok (.enter g args) w) (a0 a1 : Int) (w : World) (h0 : 0 ≤ a0) (h1 : a1 ≤ 1000000)
  (hp : ∀ (W : World) (x : Int), a0 ≤ x → x ≤ a1 → Below w.heap.size w W → Calls Try.prog g (#[.int .i64 x] ++ lb) W fun e w' => e = .returned (.bool (p x)) ∧ Below W.heap.size W w') :
  Calls Try.prog 77 #[.int .i64 a0, .int .i64 a1, .func (.func g) #[] lb] w fun e w' => ∃ v0_ : Value, e = .returned v0_ ∧ (Kd.slice 3 (Kd.int .i64)).R 36 w' w.heap.size (fun _ => True) v0_ ((spansB p (a1 - a0 + 1).toNat a0 []).map fun s => [s.1, s.2]) ∧ Below w.heap.size w w' := by
 refine (spansS_.calls p g lb eg a0 a1 w h0 h1 hp).mono ?_
 rintro e w' ⟨v, P, rfl, hS, hP, hB⟩
 refine ⟨v, rfl, ?_, hB⟩
 rw [← hP, List.map_map]
 exact hS.rows
end Go.Proofs.Ytojaeidabmfajaa.Pr

namespace Go.Proofs.Ytojaeidabmfajaa.Pr
open Go.RowKit Go.Proofs.YtojaeidabmfajaaW.PrintWords Go.Proofs.YtojaeidabmfajaaW.PrintLast Go.Proofs.YtojaeidabmfajaaW.PrintMore
attribute [local go_sem] max2_int min2_int max_two min_two max_three min_three max_four min_four   -- for this text's walks alone
set_option linter.unusedVariables false
set_option linter.unusedSimpArgs false
def impl_within.f (a0 : Int) (a1 : Int) (a2 : Int) : Option (Bool) := if a0 ≥ a1 then (some (decide (a0 ≤ a2))) else (some false)
set_option maxHeartbeats 8000000 in
set_option maxRecDepth 100000 in
theorem impl_within.calls (a0 : Int) (a1 : Int) (a2 : Int) (r : Bool) (w : World) (h : impl_within.f a0 a1 a2 = some r) :
  Calls Try.prog 74 #[.int .i64 a0, .int .i64 a1, .int .i64 a2] w fun e w' => e = .returned (.bool r) ∧ Drawn0 w w' := by
 have H : (if a0 ≥ a1 then (some (decide (a0 ≤ a2))) else (some false)) = some r := h
 clear h
 by_cases c4 : a0 ≥ a1
 ·
  rw [if_pos c4] at H
  have c4b0 : decide (a1 ≤ a0) = true := decide_eq_true c4
  clear c4
  obtain rfl := Option.some.inj H
  go_enter Try.func74, Try.ntmps74
  go_wp2
  go_ret
  exact ⟨by first | rfl | (simp; done) | (simp [*]; done), by repeat (first | exact Drawn0.refl _ | apply Drawn0.step)⟩
 ·
  rw [if_neg c4] at H
  have c4b0 : decide (a1 ≤ a0) = false := decide_eq_false c4
  clear c4
  obtain rfl := Option.some.inj H
  go_enter Try.func74, Try.ntmps74
  go_wp2
  go_ret
  exact ⟨by first | rfl | (simp; done) | (simp [*]; done), by repeat (first | exact Drawn0.refl _ | apply Drawn0.step)⟩
def impl_isLevel.f (a0 : Int) : Option (Bool) := (impl_within.f a0 (-500) 500).bind fun t148 => (some t148)
set_option maxHeartbeats 8000000 in
set_option maxRecDepth 100000 in
theorem impl_isLevel.calls (a0 : Int) (r : Bool) (w : World) (h : impl_isLevel.f a0 = some r) :
  Calls Try.prog 75 #[.int .i64 a0] w fun e w' => e = .returned (.bool r) ∧ Drawn0 w w' := by
 have H : ((impl_within.f a0 (-500) 500).bind fun t148 => (some t148)) = some r := h
 clear h
 replace H := Option.bind_eq_some_iff.mp H
 obtain ⟨t148, A20, H⟩ := H
 replace H : (some t148) = some r := H
 have A2 := Aside0.mk A20
 clear A20
 obtain rfl := Option.some.inj H
 go_enter Try.func75, Try.ntmps75
 go_wp2_with (first | ((with_reducible refine gate_callee (f := 74) rfl ?_); refine ga_ (some 4) Try.func74 #[.int .i64 a0, .int .i64 (-500), .int .i64 500] ?_; (with_reducible refine (impl_within.calls a0 (-500) 500 t148 _ A2.out).mono ?_); rintro e w' ⟨rfl, ⟨nd, rfl⟩⟩; refine ⟨_, rfl, ?_⟩))
 go_ret
 exact ⟨by first | rfl | (simp; done) | (simp [*]; done), by repeat (first | exact Drawn0.refl _ | apply Drawn0.step)⟩
def impl_AreReadings.l0 : Nat → List (S54) → List (S54) → Int → Int → Option (Bool)
 | 0, _, _, _, _ => none
 | k + 1, x0, x5, x6, x7 => if x7 < x6 then (if 0 ≤ x7 then (if x7 < (x5.length : Int) then ((impl_within.f ((rd_T54 x5 x7).f0) 0 999).bind fun t151 => (if t151 = true then ((impl_isLevel.f ((rd_T54 x5 x7).f1)).bind fun t152 => (if t152 = true then (if x7 > 0 then (if 0 ≤ (wrap64 (x7 - 1)) then (if (wrap64 (x7 - 1)) < (x0.length : Int) then (if ((rd_T54 x0 (wrap64 (x7 - 1))).f0) ≥ ((rd_T54 x5 x7).f0) then (some false) else (impl_AreReadings.l0 k x0 x5 x6 (wrap64 (x7 + 1)))) else (none)) else (none)) else (impl_AreReadings.l0 k x0 x5 x6 (wrap64 (x7 + 1)))) else (some false))) else (some false))) else (none)) else (none)) else (some (decide ((x0.length : Int) ≤ 15)))
def impl_AreReadings.f (k : Nat) (l0 : List (S54)) : Option (Bool) := impl_AreReadings.l0 k l0 l0 (l0.length : Int) 0
set_option maxHeartbeats 8000000 in
set_option maxRecDepth 100000 in
theorem impl_AreReadings.calls (k : Nat) (A0 : Option Addr) (c0 : Nat) (l0 : List (S54)) (r : Bool) (w : World) (hr0 : Kd.C k54 w A0 l0.length l0) (hc0 : l0.length ≤ c0) (h : impl_AreReadings.f k l0 = some r) :
  Calls Try.prog 34 #[.slice A0 l0.length c0] w fun e w' => e = .returned (.bool r) ∧ Below w.heap.size w w' := by
 have hu54 := Try.underlying54
 have HR0 := Aside0.mk hr0
 have HC0 := Aside0.mk hc0
 clear hr0 hc0
 have HB := Aside0.mk (Below.refl w.heap.size w)
 have H : (impl_AreReadings.l0 k l0 l0 (l0.length : Int) 0) = some r := h
 clear h
 have H' := Aside0.mk H
 clear H
 go_enter Try.func34, Try.ntmps34
 go_wp2
 repeat (go_quiet (fail); try go_wp2)
 go_loopg [7] k (fun kq v7 w' => ∃ (x7_1 : Int), v7 = .int .i64 x7_1 ∧ Aside0 (impl_AreReadings.l0 kq l0 l0 (l0.length : Int) x7_1 = some r) ∧ Aside0 (kq ≤ k) ∧ Aside0 (Below w.heap.size w w'))
 case atStart => exact ⟨(0), (by first | rfl | (simp; done) | (simp [*]; done)), H', ⟨Nat.le_refl _⟩, ⟨lb0_ HB.out⟩⟩
 case round =>
  clear H'
  obtain ⟨x7_1, rfl, HA, HK1, HB⟩ := hrel
  cases gk with
  | zero => exact absurd HA.out (by simp [impl_AreReadings.l0])
  | succ k1 =>
   have H := HA.out
   clear HA
   simp only [impl_AreReadings.l0] at H
   by_cases c2 : x7_1 < (l0.length : Int)
   ·
    rw [if_pos c2] at H
    have c2b0 : decide (x7_1 < (l0.length : Int)) = true := decide_eq_true c2
    clear c2
    by_cases c3 : 0 ≤ x7_1
    ·
     rw [if_pos c3] at H
     have c3b0 : decide (0 ≤ x7_1) = true := decide_eq_true c3
     clear c3
     by_cases c4 : x7_1 < (l0.length : Int)
     ·
      rw [if_pos c4] at H
      have c4b0 : decide (x7_1 < (l0.length : Int)) = true := decide_eq_true c4
      clear c4
      replace H := Option.bind_eq_some_iff.mp H
      obtain ⟨t151, A50, H⟩ := H
      replace H : (if t151 = true then ((impl_isLevel.f ((rd_T54 l0 x7_1).f1)).bind fun t152 => (if t152 = true then (if x7_1 > 0 then (if 0 ≤ (wrap64 (x7_1 - 1)) then (if (wrap64 (x7_1 - 1)) < (l0.length : Int) then (if ((rd_T54 l0 (wrap64 (x7_1 - 1))).f0) ≥ ((rd_T54 l0 x7_1).f0) then (some false) else (impl_AreReadings.l0 k1 l0 l0 (l0.length : Int) (wrap64 (x7_1 + 1)))) else (none)) else (none)) else (impl_AreReadings.l0 k1 l0 l0 (l0.length : Int) (wrap64 (x7_1 + 1)))) else (some false))) else (some false)) = some r := H
      have A5 := Aside0.mk A50
      clear A50
      by_cases c6 : t151 = true
      ·
       subst c6
       have H1 : ((impl_isLevel.f ((rd_T54 l0 x7_1).f1)).bind fun t152 => (if t152 = true then (if x7_1 > 0 then (if 0 ≤ (wrap64 (x7_1 - 1)) then (if (wrap64 (x7_1 - 1)) < (l0.length : Int) then (if ((rd_T54 l0 (wrap64 (x7_1 - 1))).f0) ≥ ((rd_T54 l0 x7_1).f0) then (some false) else (impl_AreReadings.l0 k1 l0 l0 (l0.length : Int) (wrap64 (x7_1 + 1)))) else (none)) else (none)) else (impl_AreReadings.l0 k1 l0 l0 (l0.length : Int) (wrap64 (x7_1 + 1)))) else (some false))) = some r := by rw [if_pos rfl] at H; exact H
       clear H
       have H := H1
       clear H1
       replace H := Option.bind_eq_some_iff.mp H
       obtain ⟨t152, A70, H⟩ := H
       replace H : (if t152 = true then (if x7_1 > 0 then (if 0 ≤ (wrap64 (x7_1 - 1)) then (if (wrap64 (x7_1 - 1)) < (l0.length : Int) then (if ((rd_T54 l0 (wrap64 (x7_1 - 1))).f0) ≥ ((rd_T54 l0 x7_1).f0) then (some false) else (impl_AreReadings.l0 k1 l0 l0 (l0.length : Int) (wrap64 (x7_1 + 1)))) else (none)) else (none)) else (impl_AreReadings.l0 k1 l0 l0 (l0.length : Int) (wrap64 (x7_1 + 1)))) else (some false)) = some r := H
       have A7 := Aside0.mk A70
       clear A70
       by_cases c8 : t152 = true
       ·
        subst c8
        have H1 : (if x7_1 > 0 then (if 0 ≤ (wrap64 (x7_1 - 1)) then (if (wrap64 (x7_1 - 1)) < (l0.length : Int) then (if ((rd_T54 l0 (wrap64 (x7_1 - 1))).f0) ≥ ((rd_T54 l0 x7_1).f0) then (some false) else (impl_AreReadings.l0 k1 l0 l0 (l0.length : Int) (wrap64 (x7_1 + 1)))) else (none)) else (none)) else (impl_AreReadings.l0 k1 l0 l0 (l0.length : Int) (wrap64 (x7_1 + 1)))) = some r := by rw [if_pos rfl] at H; exact H
        clear H; have H := H1; clear H1
        by_cases c9 : x7_1 > 0
        ·
         rw [if_pos c9] at H
         have c9b0 : decide (0 < x7_1) = true := decide_eq_true c9; clear c9
         obtain ⟨ji10, hji10⟩ : ∃ j_ : Int, (wrap64 (x7_1 - 1)) = j_ := ⟨_, rfl⟩
         replace H : (if 0 ≤ (ji10) then (if (ji10) < (l0.length : Int) then (if ((rd_T54 l0 (ji10)).f0) ≥ ((rd_T54 l0 x7_1).f0) then (some false) else (impl_AreReadings.l0 k1 l0 l0 (l0.length : Int) (wrap64 (x7_1 + 1)))) else (none)) else (none)) = some r := by first | (rw [hji10] at H; exact H) | (simp only [hji10] at H ⊢; exact H)
         (try rw [hji10] at A5); (try rw [hji10] at A7); have hji10w : (IntKind.i64.wrap (x7_1 - 1)) = ji10 := (i64_w _).trans hji10
         by_cases c11 : 0 ≤ (ji10)
         ·
          rw [if_pos c11] at H
          have c11b0 : decide (0 ≤ (ji10)) = true := decide_eq_true c11; clear c11
          by_cases c12 : (ji10) < (l0.length : Int)
          ·
           rw [if_pos c12] at H
           have c12b0 : decide ((ji10) < (l0.length : Int)) = true := decide_eq_true c12; clear c12
           by_cases c13 : ((rd_T54 l0 (ji10)).f0) ≥ ((rd_T54 l0 x7_1).f0)
           ·
            rw [if_pos c13] at H
            have c13b0 : decide (((rd_T54 l0 x7_1).f0) ≤ ((rd_T54 l0 (ji10)).f0)) = true := decide_eq_true c13; clear c13; obtain rfl := Option.some.inj H; have p149 : 0 ≤ (x7_1 : Int) := dt_; have q149 : x7_1 < (l0.length : Int) := dt_; obtain ⟨ad149, e149, hx149_0, hx149_1⟩ := at_T54 HR0.out x7_1 p149 q149
            cases e149
            replace hx149_0 := bc_ HB.out hx149_0; replace hx149_1 := bc_ HB.out hx149_1; replace p149 := eq_true p149; replace q149 := eq_true q149
            go_wp2_with (first | ((with_reducible refine gate_dst (N := 4) rfl ?_); refine box_event ?hg (N := 4) ?hd (cs := #[.int .i64 0, .int .i64 0]) (t := 54) ?hr ?_; (case hd => rfl); (case hg => rfl); (case hr => first | (go_simp; done) | (go_simp; rfl)); intro gb150 hg w14 hbox hb; have BK150 := Aside0.mk (hbox); have GW150 := Aside0.mk ((bz_ hg (lb0_ HB.out))); have GE150 := Aside0.mk ((bz_ hg (lb0_ HB.out))); replace HB := Aside0.mk (below_step (lb0_ HB.out) hb); clear hb hbox hg; obtain ⟨hcz15_0, hcz15_1⟩ := cz2_ BK150.out; obtain ⟨hfz15_0, hfz15_1⟩ := fz2_ BK150.out) | (go_at_call 74; (with_reducible refine (impl_within.calls ((rd_T54 l0 x7_1).f0) 0 999 true _ A5.out).mono ?_); rintro e w' ⟨rfl, ⟨nd, rfl⟩⟩; (try first | exact ⟨rfl, _, World.drewN_drewN _ _ _⟩ | exact ⟨rfl, _, Eq.trans (World.drewN_drewN _ _ _) (congrArg (World.drewN _) (Nat.add_assoc _ _ _))⟩)) | (go_at_call 75; (with_reducible refine (impl_isLevel.calls ((rd_T54 l0 x7_1).f1) true _ A7.out).mono ?_); rintro e w' ⟨rfl, ⟨nd, rfl⟩⟩; (try first | exact ⟨rfl, _, World.drewN_drewN _ _ _⟩ | exact ⟨rfl, _, Eq.trans (World.drewN_drewN _ _ _) (congrArg (World.drewN _) (Nat.add_assoc _ _ _))⟩); have p153 : 0 ≤ ((ji10) : Int) := dt_; have q153 : (ji10) < (l0.length : Int) := dt_; obtain ⟨ad153, e153, hx153_0, hx153_1⟩ := at_T54 HR0.out (ji10) p153 q153; obtain rfl : ad149 = ad153 := (by injection e153); have hn153_0 : ad149.block ≠ gb150 := Nat.ne_of_lt (Nat.lt_of_lt_of_le (by have := World.block_lt_of_cell? _ _ hx153_0; first | rwa [add_block] at this | exact this) GW150.out); have hn153_1 : ad149.block ≠ gb150 := Nat.ne_of_lt (Nat.lt_of_lt_of_le (by have := World.block_lt_of_cell? _ _ hx153_0; first | rwa [add_block] at this | exact this) GW150.out); replace hx153_0 := bc_ HB.out hx153_0; replace hx153_1 := bc_ HB.out hx153_1; replace hx153_0 := (cell_far (p := ⟨gb150, 0, none⟩) (by first | (rw [add_block]; exact hn153_0) | (show (Addr.add _ _).block ≠ _; rw [add_block]; exact hn153_0) | exact hn153_0) (.int .i64 ((rd_T54 l0 x7_1).f0))).trans hx153_0; replace hx153_1 := (cell_far (p := ⟨gb150, 0, none⟩) (by first | (rw [add_block]; exact hn153_0) | (show (Addr.add _ _).block ≠ _; rw [add_block]; exact hn153_0) | exact hn153_0) (.int .i64 ((rd_T54 l0 x7_1).f0))).trans hx153_1; replace hx153_0 := (cell_far (p := ⟨gb150, 1, none⟩) (by first | (rw [add_block]; exact hn153_1) | (show (Addr.add _ _).block ≠ _; rw [add_block]; exact hn153_1) | exact hn153_1) (.int .i64 ((rd_T54 l0 x7_1).f1))).trans hx153_0; replace hx153_1 := (cell_far (p := ⟨gb150, 1, none⟩) (by first | (rw [add_block]; exact hn153_1) | (show (Addr.add _ _).block ≠ _; rw [add_block]; exact hn153_1) | exact hn153_1) (.int .i64 ((rd_T54 l0 x7_1).f1))).trans hx153_1; (try have hy153_0 := fun (n_ : Nat) => (show ((((w14.drewN n_).setCell ⟨gb150, 0, none⟩ (.int .i64 ((rd_T54 l0 x7_1).f0))).setCell ⟨gb150, 1, none⟩ (.int .i64 ((rd_T54 l0 x7_1).f1)))).cell? _ = some _ from hx153_0)); (try have hy153_1 := fun (n_ : Nat) => (show ((((w14.drewN n_).setCell ⟨gb150, 0, none⟩ (.int .i64 ((rd_T54 l0 x7_1).f0))).setCell ⟨gb150, 1, none⟩ (.int .i64 ((rd_T54 l0 x7_1).f1)))).cell? _ = some _ from hx153_1)); clear hn153_0; clear hn153_1; replace p153 := eq_true p153; replace q153 := eq_true q153))
            repeat (go_quiet (first | ((with_reducible refine gate_dst (N := 4) rfl ?_); refine box_event ?hg (N := 4) ?hd (cs := #[.int .i64 0, .int .i64 0]) (t := 54) ?hr ?_; (case hd => rfl); (case hg => rfl); (case hr => first | (go_simp; done) | (go_simp; rfl)); intro gb150 hg w14 hbox hb; have BK150 := Aside0.mk (hbox); have GW150 := Aside0.mk ((bz_ hg (lb0_ HB.out))); have GE150 := Aside0.mk ((bz_ hg (lb0_ HB.out))); replace HB := Aside0.mk (below_step (lb0_ HB.out) hb); clear hb hbox hg; obtain ⟨hcz15_0, hcz15_1⟩ := cz2_ BK150.out; obtain ⟨hfz15_0, hfz15_1⟩ := fz2_ BK150.out) | (go_at_call 74; (with_reducible refine (impl_within.calls ((rd_T54 l0 x7_1).f0) 0 999 true _ A5.out).mono ?_); rintro e w' ⟨rfl, ⟨nd, rfl⟩⟩; (try first | exact ⟨rfl, _, World.drewN_drewN _ _ _⟩ | exact ⟨rfl, _, Eq.trans (World.drewN_drewN _ _ _) (congrArg (World.drewN _) (Nat.add_assoc _ _ _))⟩)) | (go_at_call 75; (with_reducible refine (impl_isLevel.calls ((rd_T54 l0 x7_1).f1) true _ A7.out).mono ?_); rintro e w' ⟨rfl, ⟨nd, rfl⟩⟩; (try first | exact ⟨rfl, _, World.drewN_drewN _ _ _⟩ | exact ⟨rfl, _, Eq.trans (World.drewN_drewN _ _ _) (congrArg (World.drewN _) (Nat.add_assoc _ _ _))⟩); have p153 : 0 ≤ ((ji10) : Int) := dt_; have q153 : (ji10) < (l0.length : Int) := dt_; obtain ⟨ad153, e153, hx153_0, hx153_1⟩ := at_T54 HR0.out (ji10) p153 q153; obtain rfl : ad149 = ad153 := (by injection e153); have hn153_0 : ad149.block ≠ gb150 := Nat.ne_of_lt (Nat.lt_of_lt_of_le (by have := World.block_lt_of_cell? _ _ hx153_0; first | rwa [add_block] at this | exact this) GW150.out); have hn153_1 : ad149.block ≠ gb150 := Nat.ne_of_lt (Nat.lt_of_lt_of_le (by have := World.block_lt_of_cell? _ _ hx153_0; first | rwa [add_block] at this | exact this) GW150.out); replace hx153_0 := bc_ HB.out hx153_0; replace hx153_1 := bc_ HB.out hx153_1; replace hx153_0 := (cell_far (p := ⟨gb150, 0, none⟩) (by first | (rw [add_block]; exact hn153_0) | (show (Addr.add _ _).block ≠ _; rw [add_block]; exact hn153_0) | exact hn153_0) (.int .i64 ((rd_T54 l0 x7_1).f0))).trans hx153_0; replace hx153_1 := (cell_far (p := ⟨gb150, 0, none⟩) (by first | (rw [add_block]; exact hn153_0) | (show (Addr.add _ _).block ≠ _; rw [add_block]; exact hn153_0) | exact hn153_0) (.int .i64 ((rd_T54 l0 x7_1).f0))).trans hx153_1; replace hx153_0 := (cell_far (p := ⟨gb150, 1, none⟩) (by first | (rw [add_block]; exact hn153_1) | (show (Addr.add _ _).block ≠ _; rw [add_block]; exact hn153_1) | exact hn153_1) (.int .i64 ((rd_T54 l0 x7_1).f1))).trans hx153_0; replace hx153_1 := (cell_far (p := ⟨gb150, 1, none⟩) (by first | (rw [add_block]; exact hn153_1) | (show (Addr.add _ _).block ≠ _; rw [add_block]; exact hn153_1) | exact hn153_1) (.int .i64 ((rd_T54 l0 x7_1).f1))).trans hx153_1; (try have hy153_0 := fun (n_ : Nat) => (show ((((w14.drewN n_).setCell ⟨gb150, 0, none⟩ (.int .i64 ((rd_T54 l0 x7_1).f0))).setCell ⟨gb150, 1, none⟩ (.int .i64 ((rd_T54 l0 x7_1).f1)))).cell? _ = some _ from hx153_0)); (try have hy153_1 := fun (n_ : Nat) => (show ((((w14.drewN n_).setCell ⟨gb150, 0, none⟩ (.int .i64 ((rd_T54 l0 x7_1).f0))).setCell ⟨gb150, 1, none⟩ (.int .i64 ((rd_T54 l0 x7_1).f1)))).cell? _ = some _ from hx153_1)); clear hn153_0; clear hn153_1; replace p153 := eq_true p153; replace q153 := eq_true q153)); try go_wp2_with (first | ((with_reducible refine gate_dst (N := 4) rfl ?_); refine box_event ?hg (N := 4) ?hd (cs := #[.int .i64 0, .int .i64 0]) (t := 54) ?hr ?_; (case hd => rfl); (case hg => rfl); (case hr => first | (go_simp; done) | (go_simp; rfl)); intro gb150 hg w14 hbox hb; have BK150 := Aside0.mk (hbox); have GW150 := Aside0.mk ((bz_ hg (lb0_ HB.out))); have GE150 := Aside0.mk ((bz_ hg (lb0_ HB.out))); replace HB := Aside0.mk (below_step (lb0_ HB.out) hb); clear hb hbox hg; obtain ⟨hcz15_0, hcz15_1⟩ := cz2_ BK150.out; obtain ⟨hfz15_0, hfz15_1⟩ := fz2_ BK150.out) | (go_at_call 74; (with_reducible refine (impl_within.calls ((rd_T54 l0 x7_1).f0) 0 999 true _ A5.out).mono ?_); rintro e w' ⟨rfl, ⟨nd, rfl⟩⟩; (try first | exact ⟨rfl, _, World.drewN_drewN _ _ _⟩ | exact ⟨rfl, _, Eq.trans (World.drewN_drewN _ _ _) (congrArg (World.drewN _) (Nat.add_assoc _ _ _))⟩)) | (go_at_call 75; (with_reducible refine (impl_isLevel.calls ((rd_T54 l0 x7_1).f1) true _ A7.out).mono ?_); rintro e w' ⟨rfl, ⟨nd, rfl⟩⟩; (try first | exact ⟨rfl, _, World.drewN_drewN _ _ _⟩ | exact ⟨rfl, _, Eq.trans (World.drewN_drewN _ _ _) (congrArg (World.drewN _) (Nat.add_assoc _ _ _))⟩); have p153 : 0 ≤ ((ji10) : Int) := dt_; have q153 : (ji10) < (l0.length : Int) := dt_; obtain ⟨ad153, e153, hx153_0, hx153_1⟩ := at_T54 HR0.out (ji10) p153 q153; obtain rfl : ad149 = ad153 := (by injection e153); have hn153_0 : ad149.block ≠ gb150 := Nat.ne_of_lt (Nat.lt_of_lt_of_le (by have := World.block_lt_of_cell? _ _ hx153_0; first | rwa [add_block] at this | exact this) GW150.out); have hn153_1 : ad149.block ≠ gb150 := Nat.ne_of_lt (Nat.lt_of_lt_of_le (by have := World.block_lt_of_cell? _ _ hx153_0; first | rwa [add_block] at this | exact this) GW150.out); replace hx153_0 := bc_ HB.out hx153_0; replace hx153_1 := bc_ HB.out hx153_1; replace hx153_0 := (cell_far (p := ⟨gb150, 0, none⟩) (by first | (rw [add_block]; exact hn153_0) | (show (Addr.add _ _).block ≠ _; rw [add_block]; exact hn153_0) | exact hn153_0) (.int .i64 ((rd_T54 l0 x7_1).f0))).trans hx153_0; replace hx153_1 := (cell_far (p := ⟨gb150, 0, none⟩) (by first | (rw [add_block]; exact hn153_0) | (show (Addr.add _ _).block ≠ _; rw [add_block]; exact hn153_0) | exact hn153_0) (.int .i64 ((rd_T54 l0 x7_1).f0))).trans hx153_1; replace hx153_0 := (cell_far (p := ⟨gb150, 1, none⟩) (by first | (rw [add_block]; exact hn153_1) | (show (Addr.add _ _).block ≠ _; rw [add_block]; exact hn153_1) | exact hn153_1) (.int .i64 ((rd_T54 l0 x7_1).f1))).trans hx153_0; replace hx153_1 := (cell_far (p := ⟨gb150, 1, none⟩) (by first | (rw [add_block]; exact hn153_1) | (show (Addr.add _ _).block ≠ _; rw [add_block]; exact hn153_1) | exact hn153_1) (.int .i64 ((rd_T54 l0 x7_1).f1))).trans hx153_1; (try have hy153_0 := fun (n_ : Nat) => (show ((((w14.drewN n_).setCell ⟨gb150, 0, none⟩ (.int .i64 ((rd_T54 l0 x7_1).f0))).setCell ⟨gb150, 1, none⟩ (.int .i64 ((rd_T54 l0 x7_1).f1)))).cell? _ = some _ from hx153_0)); (try have hy153_1 := fun (n_ : Nat) => (show ((((w14.drewN n_).setCell ⟨gb150, 0, none⟩ (.int .i64 ((rd_T54 l0 x7_1).f0))).setCell ⟨gb150, 1, none⟩ (.int .i64 ((rd_T54 l0 x7_1).f1)))).cell? _ = some _ from hx153_1)); clear hn153_0; clear hn153_1; replace p153 := eq_true p153; replace q153 := eq_true q153)))
            go_ret
            exact ⟨by first | rfl | (simp [errW_none, errW_some] <;> rfl) | (simp only [← hji10]; first | rfl | (simp [errW_none, errW_some] <;> rfl)) | (simp [*, errW_none, errW_some] <;> rfl), lb1_ HB.out GE150.out⟩
           ·
            rw [if_neg c13] at H
            have c13b0 : decide (((rd_T54 l0 x7_1).f0) ≤ ((rd_T54 l0 (ji10)).f0)) = false := decide_eq_false c13; clear c13; have H' := Aside0.mk H; clear H; have p149 : 0 ≤ (x7_1 : Int) := dt_; have q149 : x7_1 < (l0.length : Int) := dt_; obtain ⟨ad149, e149, hx149_0, hx149_1⟩ := at_T54 HR0.out x7_1 p149 q149
            cases e149
            replace hx149_0 := bc_ HB.out hx149_0; replace hx149_1 := bc_ HB.out hx149_1; replace p149 := eq_true p149; replace q149 := eq_true q149
            go_wp2_with (first | ((with_reducible refine gate_dst (N := 4) rfl ?_); refine box_event ?hg (N := 4) ?hd (cs := #[.int .i64 0, .int .i64 0]) (t := 54) ?hr ?_; (case hd => rfl); (case hg => rfl); (case hr => first | (go_simp; done) | (go_simp; rfl)); intro gb150 hg w16 hbox hb; have BK150 := Aside0.mk (hbox); have GW150 := Aside0.mk ((bz_ hg (lb0_ HB.out))); have GE150 := Aside0.mk ((bz_ hg (lb0_ HB.out))); replace HB := Aside0.mk (below_step (lb0_ HB.out) hb); clear hb hbox hg; obtain ⟨hcz17_0, hcz17_1⟩ := cz2_ BK150.out; obtain ⟨hfz17_0, hfz17_1⟩ := fz2_ BK150.out) | (go_at_call 74; (with_reducible refine (impl_within.calls ((rd_T54 l0 x7_1).f0) 0 999 true _ A5.out).mono ?_); rintro e w' ⟨rfl, ⟨nd, rfl⟩⟩; (try first | exact ⟨rfl, _, World.drewN_drewN _ _ _⟩ | exact ⟨rfl, _, Eq.trans (World.drewN_drewN _ _ _) (congrArg (World.drewN _) (Nat.add_assoc _ _ _))⟩)) | (go_at_call 75; (with_reducible refine (impl_isLevel.calls ((rd_T54 l0 x7_1).f1) true _ A7.out).mono ?_); rintro e w' ⟨rfl, ⟨nd, rfl⟩⟩; (try first | exact ⟨rfl, _, World.drewN_drewN _ _ _⟩ | exact ⟨rfl, _, Eq.trans (World.drewN_drewN _ _ _) (congrArg (World.drewN _) (Nat.add_assoc _ _ _))⟩); have p153 : 0 ≤ ((ji10) : Int) := dt_; have q153 : (ji10) < (l0.length : Int) := dt_; obtain ⟨ad153, e153, hx153_0, hx153_1⟩ := at_T54 HR0.out (ji10) p153 q153; obtain rfl : ad149 = ad153 := (by injection e153); have hn153_0 : ad149.block ≠ gb150 := Nat.ne_of_lt (Nat.lt_of_lt_of_le (by have := World.block_lt_of_cell? _ _ hx153_0; first | rwa [add_block] at this | exact this) GW150.out); have hn153_1 : ad149.block ≠ gb150 := Nat.ne_of_lt (Nat.lt_of_lt_of_le (by have := World.block_lt_of_cell? _ _ hx153_0; first | rwa [add_block] at this | exact this) GW150.out); replace hx153_0 := bc_ HB.out hx153_0; replace hx153_1 := bc_ HB.out hx153_1; replace hx153_0 := (cell_far (p := ⟨gb150, 0, none⟩) (by first | (rw [add_block]; exact hn153_0) | (show (Addr.add _ _).block ≠ _; rw [add_block]; exact hn153_0) | exact hn153_0) (.int .i64 ((rd_T54 l0 x7_1).f0))).trans hx153_0; replace hx153_1 := (cell_far (p := ⟨gb150, 0, none⟩) (by first | (rw [add_block]; exact hn153_0) | (show (Addr.add _ _).block ≠ _; rw [add_block]; exact hn153_0) | exact hn153_0) (.int .i64 ((rd_T54 l0 x7_1).f0))).trans hx153_1; replace hx153_0 := (cell_far (p := ⟨gb150, 1, none⟩) (by first | (rw [add_block]; exact hn153_1) | (show (Addr.add _ _).block ≠ _; rw [add_block]; exact hn153_1) | exact hn153_1) (.int .i64 ((rd_T54 l0 x7_1).f1))).trans hx153_0; replace hx153_1 := (cell_far (p := ⟨gb150, 1, none⟩) (by first | (rw [add_block]; exact hn153_1) | (show (Addr.add _ _).block ≠ _; rw [add_block]; exact hn153_1) | exact hn153_1) (.int .i64 ((rd_T54 l0 x7_1).f1))).trans hx153_1; (try have hy153_0 := fun (n_ : Nat) => (show ((((w16.drewN n_).setCell ⟨gb150, 0, none⟩ (.int .i64 ((rd_T54 l0 x7_1).f0))).setCell ⟨gb150, 1, none⟩ (.int .i64 ((rd_T54 l0 x7_1).f1)))).cell? _ = some _ from hx153_0)); (try have hy153_1 := fun (n_ : Nat) => (show ((((w16.drewN n_).setCell ⟨gb150, 0, none⟩ (.int .i64 ((rd_T54 l0 x7_1).f0))).setCell ⟨gb150, 1, none⟩ (.int .i64 ((rd_T54 l0 x7_1).f1)))).cell? _ = some _ from hx153_1)); clear hn153_0; clear hn153_1; replace p153 := eq_true p153; replace q153 := eq_true q153))
            repeat (go_quiet (first | ((with_reducible refine gate_dst (N := 4) rfl ?_); refine box_event ?hg (N := 4) ?hd (cs := #[.int .i64 0, .int .i64 0]) (t := 54) ?hr ?_; (case hd => rfl); (case hg => rfl); (case hr => first | (go_simp; done) | (go_simp; rfl)); intro gb150 hg w16 hbox hb; have BK150 := Aside0.mk (hbox); have GW150 := Aside0.mk ((bz_ hg (lb0_ HB.out))); have GE150 := Aside0.mk ((bz_ hg (lb0_ HB.out))); replace HB := Aside0.mk (below_step (lb0_ HB.out) hb); clear hb hbox hg; obtain ⟨hcz17_0, hcz17_1⟩ := cz2_ BK150.out; obtain ⟨hfz17_0, hfz17_1⟩ := fz2_ BK150.out) | (go_at_call 74; (with_reducible refine (impl_within.calls ((rd_T54 l0 x7_1).f0) 0 999 true _ A5.out).mono ?_); rintro e w' ⟨rfl, ⟨nd, rfl⟩⟩; (try first | exact ⟨rfl, _, World.drewN_drewN _ _ _⟩ | exact ⟨rfl, _, Eq.trans (World.drewN_drewN _ _ _) (congrArg (World.drewN _) (Nat.add_assoc _ _ _))⟩)) | (go_at_call 75; (with_reducible refine (impl_isLevel.calls ((rd_T54 l0 x7_1).f1) true _ A7.out).mono ?_); rintro e w' ⟨rfl, ⟨nd, rfl⟩⟩; (try first | exact ⟨rfl, _, World.drewN_drewN _ _ _⟩ | exact ⟨rfl, _, Eq.trans (World.drewN_drewN _ _ _) (congrArg (World.drewN _) (Nat.add_assoc _ _ _))⟩); have p153 : 0 ≤ ((ji10) : Int) := dt_; have q153 : (ji10) < (l0.length : Int) := dt_; obtain ⟨ad153, e153, hx153_0, hx153_1⟩ := at_T54 HR0.out (ji10) p153 q153; obtain rfl : ad149 = ad153 := (by injection e153); have hn153_0 : ad149.block ≠ gb150 := Nat.ne_of_lt (Nat.lt_of_lt_of_le (by have := World.block_lt_of_cell? _ _ hx153_0; first | rwa [add_block] at this | exact this) GW150.out); have hn153_1 : ad149.block ≠ gb150 := Nat.ne_of_lt (Nat.lt_of_lt_of_le (by have := World.block_lt_of_cell? _ _ hx153_0; first | rwa [add_block] at this | exact this) GW150.out); replace hx153_0 := bc_ HB.out hx153_0; replace hx153_1 := bc_ HB.out hx153_1; replace hx153_0 := (cell_far (p := ⟨gb150, 0, none⟩) (by first | (rw [add_block]; exact hn153_0) | (show (Addr.add _ _).block ≠ _; rw [add_block]; exact hn153_0) | exact hn153_0) (.int .i64 ((rd_T54 l0 x7_1).f0))).trans hx153_0; replace hx153_1 := (cell_far (p := ⟨gb150, 0, none⟩) (by first | (rw [add_block]; exact hn153_0) | (show (Addr.add _ _).block ≠ _; rw [add_block]; exact hn153_0) | exact hn153_0) (.int .i64 ((rd_T54 l0 x7_1).f0))).trans hx153_1; replace hx153_0 := (cell_far (p := ⟨gb150, 1, none⟩) (by first | (rw [add_block]; exact hn153_1) | (show (Addr.add _ _).block ≠ _; rw [add_block]; exact hn153_1) | exact hn153_1) (.int .i64 ((rd_T54 l0 x7_1).f1))).trans hx153_0; replace hx153_1 := (cell_far (p := ⟨gb150, 1, none⟩) (by first | (rw [add_block]; exact hn153_1) | (show (Addr.add _ _).block ≠ _; rw [add_block]; exact hn153_1) | exact hn153_1) (.int .i64 ((rd_T54 l0 x7_1).f1))).trans hx153_1; (try have hy153_0 := fun (n_ : Nat) => (show ((((w16.drewN n_).setCell ⟨gb150, 0, none⟩ (.int .i64 ((rd_T54 l0 x7_1).f0))).setCell ⟨gb150, 1, none⟩ (.int .i64 ((rd_T54 l0 x7_1).f1)))).cell? _ = some _ from hx153_0)); (try have hy153_1 := fun (n_ : Nat) => (show ((((w16.drewN n_).setCell ⟨gb150, 0, none⟩ (.int .i64 ((rd_T54 l0 x7_1).f0))).setCell ⟨gb150, 1, none⟩ (.int .i64 ((rd_T54 l0 x7_1).f1)))).cell? _ = some _ from hx153_1)); clear hn153_0; clear hn153_1; replace p153 := eq_true p153; replace q153 := eq_true q153)); try go_wp2_with (first | ((with_reducible refine gate_dst (N := 4) rfl ?_); refine box_event ?hg (N := 4) ?hd (cs := #[.int .i64 0, .int .i64 0]) (t := 54) ?hr ?_; (case hd => rfl); (case hg => rfl); (case hr => first | (go_simp; done) | (go_simp; rfl)); intro gb150 hg w16 hbox hb; have BK150 := Aside0.mk (hbox); have GW150 := Aside0.mk ((bz_ hg (lb0_ HB.out))); have GE150 := Aside0.mk ((bz_ hg (lb0_ HB.out))); replace HB := Aside0.mk (below_step (lb0_ HB.out) hb); clear hb hbox hg; obtain ⟨hcz17_0, hcz17_1⟩ := cz2_ BK150.out; obtain ⟨hfz17_0, hfz17_1⟩ := fz2_ BK150.out) | (go_at_call 74; (with_reducible refine (impl_within.calls ((rd_T54 l0 x7_1).f0) 0 999 true _ A5.out).mono ?_); rintro e w' ⟨rfl, ⟨nd, rfl⟩⟩; (try first | exact ⟨rfl, _, World.drewN_drewN _ _ _⟩ | exact ⟨rfl, _, Eq.trans (World.drewN_drewN _ _ _) (congrArg (World.drewN _) (Nat.add_assoc _ _ _))⟩)) | (go_at_call 75; (with_reducible refine (impl_isLevel.calls ((rd_T54 l0 x7_1).f1) true _ A7.out).mono ?_); rintro e w' ⟨rfl, ⟨nd, rfl⟩⟩; (try first | exact ⟨rfl, _, World.drewN_drewN _ _ _⟩ | exact ⟨rfl, _, Eq.trans (World.drewN_drewN _ _ _) (congrArg (World.drewN _) (Nat.add_assoc _ _ _))⟩); have p153 : 0 ≤ ((ji10) : Int) := dt_; have q153 : (ji10) < (l0.length : Int) := dt_; obtain ⟨ad153, e153, hx153_0, hx153_1⟩ := at_T54 HR0.out (ji10) p153 q153; obtain rfl : ad149 = ad153 := (by injection e153); have hn153_0 : ad149.block ≠ gb150 := Nat.ne_of_lt (Nat.lt_of_lt_of_le (by have := World.block_lt_of_cell? _ _ hx153_0; first | rwa [add_block] at this | exact this) GW150.out); have hn153_1 : ad149.block ≠ gb150 := Nat.ne_of_lt (Nat.lt_of_lt_of_le (by have := World.block_lt_of_cell? _ _ hx153_0; first | rwa [add_block] at this | exact this) GW150.out); replace hx153_0 := bc_ HB.out hx153_0; replace hx153_1 := bc_ HB.out hx153_1; replace hx153_0 := (cell_far (p := ⟨gb150, 0, none⟩) (by first | (rw [add_block]; exact hn153_0) | (show (Addr.add _ _).block ≠ _; rw [add_block]; exact hn153_0) | exact hn153_0) (.int .i64 ((rd_T54 l0 x7_1).f0))).trans hx153_0; replace hx153_1 := (cell_far (p := ⟨gb150, 0, none⟩) (by first | (rw [add_block]; exact hn153_0) | (show (Addr.add _ _).block ≠ _; rw [add_block]; exact hn153_0) | exact hn153_0) (.int .i64 ((rd_T54 l0 x7_1).f0))).trans hx153_1; replace hx153_0 := (cell_far (p := ⟨gb150, 1, none⟩) (by first | (rw [add_block]; exact hn153_1) | (show (Addr.add _ _).block ≠ _; rw [add_block]; exact hn153_1) | exact hn153_1) (.int .i64 ((rd_T54 l0 x7_1).f1))).trans hx153_0; replace hx153_1 := (cell_far (p := ⟨gb150, 1, none⟩) (by first | (rw [add_block]; exact hn153_1) | (show (Addr.add _ _).block ≠ _; rw [add_block]; exact hn153_1) | exact hn153_1) (.int .i64 ((rd_T54 l0 x7_1).f1))).trans hx153_1; (try have hy153_0 := fun (n_ : Nat) => (show ((((w16.drewN n_).setCell ⟨gb150, 0, none⟩ (.int .i64 ((rd_T54 l0 x7_1).f0))).setCell ⟨gb150, 1, none⟩ (.int .i64 ((rd_T54 l0 x7_1).f1)))).cell? _ = some _ from hx153_0)); (try have hy153_1 := fun (n_ : Nat) => (show ((((w16.drewN n_).setCell ⟨gb150, 0, none⟩ (.int .i64 ((rd_T54 l0 x7_1).f0))).setCell ⟨gb150, 1, none⟩ (.int .i64 ((rd_T54 l0 x7_1).f1)))).cell? _ = some _ from hx153_1)); clear hn153_0; clear hn153_1; replace p153 := eq_true p153; replace q153 := eq_true q153)))
            go_roundg k1
            case measure => have := HK1.out; omega
            case rel => exact ⟨(wrap64 (x7_1 + 1)), (by first | rfl | (simp; done) | (simp [*]; done)), H', ⟨by have := HK1.out; omega⟩, ⟨lb1_ HB.out GE150.out⟩⟩
          ·
           rw [if_neg c12] at H
           exact absurd H (by simp)
         ·
          rw [if_neg c11] at H
          exact absurd H (by simp)
        ·
         rw [if_neg c9] at H
         have c9b0 : decide (0 < x7_1) = false := decide_eq_false c9; clear c9; have H' := Aside0.mk H; clear H; have p149 : 0 ≤ (x7_1 : Int) := dt_; have q149 : x7_1 < (l0.length : Int) := dt_; obtain ⟨ad149, e149, hx149_0, hx149_1⟩ := at_T54 HR0.out x7_1 p149 q149
         cases e149
         replace hx149_0 := bc_ HB.out hx149_0; replace hx149_1 := bc_ HB.out hx149_1; replace p149 := eq_true p149; replace q149 := eq_true q149
         go_wp2_with (first | ((with_reducible refine gate_dst (N := 4) rfl ?_); refine box_event ?hg (N := 4) ?hd (cs := #[.int .i64 0, .int .i64 0]) (t := 54) ?hr ?_; (case hd => rfl); (case hg => rfl); (case hr => first | (go_simp; done) | (go_simp; rfl)); intro gb150 hg w18 hbox hb; have BK150 := Aside0.mk (hbox); have GW150 := Aside0.mk ((bz_ hg (lb0_ HB.out))); have GE150 := Aside0.mk ((bz_ hg (lb0_ HB.out))); replace HB := Aside0.mk (below_step (lb0_ HB.out) hb); clear hb hbox hg; obtain ⟨hcz19_0, hcz19_1⟩ := cz2_ BK150.out; obtain ⟨hfz19_0, hfz19_1⟩ := fz2_ BK150.out) | (go_at_call 74; (with_reducible refine (impl_within.calls ((rd_T54 l0 x7_1).f0) 0 999 true _ A5.out).mono ?_); rintro e w' ⟨rfl, ⟨nd, rfl⟩⟩; (try first | exact ⟨rfl, _, World.drewN_drewN _ _ _⟩ | exact ⟨rfl, _, Eq.trans (World.drewN_drewN _ _ _) (congrArg (World.drewN _) (Nat.add_assoc _ _ _))⟩)) | (go_at_call 75; (with_reducible refine (impl_isLevel.calls ((rd_T54 l0 x7_1).f1) true _ A7.out).mono ?_); rintro e w' ⟨rfl, ⟨nd, rfl⟩⟩; (try first | exact ⟨rfl, _, World.drewN_drewN _ _ _⟩ | exact ⟨rfl, _, Eq.trans (World.drewN_drewN _ _ _) (congrArg (World.drewN _) (Nat.add_assoc _ _ _))⟩)))
         repeat (go_quiet (first | ((with_reducible refine gate_dst (N := 4) rfl ?_); refine box_event ?hg (N := 4) ?hd (cs := #[.int .i64 0, .int .i64 0]) (t := 54) ?hr ?_; (case hd => rfl); (case hg => rfl); (case hr => first | (go_simp; done) | (go_simp; rfl)); intro gb150 hg w18 hbox hb; have BK150 := Aside0.mk (hbox); have GW150 := Aside0.mk ((bz_ hg (lb0_ HB.out))); have GE150 := Aside0.mk ((bz_ hg (lb0_ HB.out))); replace HB := Aside0.mk (below_step (lb0_ HB.out) hb); clear hb hbox hg; obtain ⟨hcz19_0, hcz19_1⟩ := cz2_ BK150.out; obtain ⟨hfz19_0, hfz19_1⟩ := fz2_ BK150.out) | (go_at_call 74; (with_reducible refine (impl_within.calls ((rd_T54 l0 x7_1).f0) 0 999 true _ A5.out).mono ?_); rintro e w' ⟨rfl, ⟨nd, rfl⟩⟩; (try first | exact ⟨rfl, _, World.drewN_drewN _ _ _⟩ | exact ⟨rfl, _, Eq.trans (World.drewN_drewN _ _ _) (congrArg (World.drewN _) (Nat.add_assoc _ _ _))⟩)) | (go_at_call 75; (with_reducible refine (impl_isLevel.calls ((rd_T54 l0 x7_1).f1) true _ A7.out).mono ?_); rintro e w' ⟨rfl, ⟨nd, rfl⟩⟩; (try first | exact ⟨rfl, _, World.drewN_drewN _ _ _⟩ | exact ⟨rfl, _, Eq.trans (World.drewN_drewN _ _ _) (congrArg (World.drewN _) (Nat.add_assoc _ _ _))⟩))); try go_wp2_with (first | ((with_reducible refine gate_dst (N := 4) rfl ?_); refine box_event ?hg (N := 4) ?hd (cs := #[.int .i64 0, .int .i64 0]) (t := 54) ?hr ?_; (case hd => rfl); (case hg => rfl); (case hr => first | (go_simp; done) | (go_simp; rfl)); intro gb150 hg w18 hbox hb; have BK150 := Aside0.mk (hbox); have GW150 := Aside0.mk ((bz_ hg (lb0_ HB.out))); have GE150 := Aside0.mk ((bz_ hg (lb0_ HB.out))); replace HB := Aside0.mk (below_step (lb0_ HB.out) hb); clear hb hbox hg; obtain ⟨hcz19_0, hcz19_1⟩ := cz2_ BK150.out; obtain ⟨hfz19_0, hfz19_1⟩ := fz2_ BK150.out) | (go_at_call 74; (with_reducible refine (impl_within.calls ((rd_T54 l0 x7_1).f0) 0 999 true _ A5.out).mono ?_); rintro e w' ⟨rfl, ⟨nd, rfl⟩⟩; (try first | exact ⟨rfl, _, World.drewN_drewN _ _ _⟩ | exact ⟨rfl, _, Eq.trans (World.drewN_drewN _ _ _) (congrArg (World.drewN _) (Nat.add_assoc _ _ _))⟩)) | (go_at_call 75; (with_reducible refine (impl_isLevel.calls ((rd_T54 l0 x7_1).f1) true _ A7.out).mono ?_); rintro e w' ⟨rfl, ⟨nd, rfl⟩⟩; (try first | exact ⟨rfl, _, World.drewN_drewN _ _ _⟩ | exact ⟨rfl, _, Eq.trans (World.drewN_drewN _ _ _) (congrArg (World.drewN _) (Nat.add_assoc _ _ _))⟩))))
         go_roundg k1
         case measure => have := HK1.out; omega
         case rel => exact ⟨(wrap64 (x7_1 + 1)), (by first | rfl | (simp; done) | (simp [*]; done)), H', ⟨by have := HK1.out; omega⟩, ⟨lb1_ HB.out GE150.out⟩⟩
       ·
        replace c8 := Bool.eq_false_iff.mpr c8; subst c8
        have H1 : (some false) = some r := by rw [if_neg (show ¬ (false = true) by decide)] at H; exact H
        clear H; have H := H1; clear H1; obtain rfl := Option.some.inj H; have p149 : 0 ≤ (x7_1 : Int) := dt_; have q149 : x7_1 < (l0.length : Int) := dt_; obtain ⟨ad149, e149, hx149_0, hx149_1⟩ := at_T54 HR0.out x7_1 p149 q149
        cases e149
        replace hx149_0 := bc_ HB.out hx149_0; replace hx149_1 := bc_ HB.out hx149_1; replace p149 := eq_true p149; replace q149 := eq_true q149
        go_wp2_with (first | ((with_reducible refine gate_dst (N := 4) rfl ?_); refine box_event ?hg (N := 4) ?hd (cs := #[.int .i64 0, .int .i64 0]) (t := 54) ?hr ?_; (case hd => rfl); (case hg => rfl); (case hr => first | (go_simp; done) | (go_simp; rfl)); intro gb150 hg w20 hbox hb; have BK150 := Aside0.mk (hbox); have GW150 := Aside0.mk ((bz_ hg (lb0_ HB.out))); have GE150 := Aside0.mk ((bz_ hg (lb0_ HB.out))); replace HB := Aside0.mk (below_step (lb0_ HB.out) hb); clear hb hbox hg; obtain ⟨hcz21_0, hcz21_1⟩ := cz2_ BK150.out; obtain ⟨hfz21_0, hfz21_1⟩ := fz2_ BK150.out) | (go_at_call 74; (with_reducible refine (impl_within.calls ((rd_T54 l0 x7_1).f0) 0 999 true _ A5.out).mono ?_); rintro e w' ⟨rfl, ⟨nd, rfl⟩⟩; (try first | exact ⟨rfl, _, World.drewN_drewN _ _ _⟩ | exact ⟨rfl, _, Eq.trans (World.drewN_drewN _ _ _) (congrArg (World.drewN _) (Nat.add_assoc _ _ _))⟩)) | (go_at_call 75; (with_reducible refine (impl_isLevel.calls ((rd_T54 l0 x7_1).f1) false _ A7.out).mono ?_); rintro e w' ⟨rfl, ⟨nd, rfl⟩⟩; (try first | exact ⟨rfl, _, World.drewN_drewN _ _ _⟩ | exact ⟨rfl, _, Eq.trans (World.drewN_drewN _ _ _) (congrArg (World.drewN _) (Nat.add_assoc _ _ _))⟩)))
        repeat (go_quiet (first | ((with_reducible refine gate_dst (N := 4) rfl ?_); refine box_event ?hg (N := 4) ?hd (cs := #[.int .i64 0, .int .i64 0]) (t := 54) ?hr ?_; (case hd => rfl); (case hg => rfl); (case hr => first | (go_simp; done) | (go_simp; rfl)); intro gb150 hg w20 hbox hb; have BK150 := Aside0.mk (hbox); have GW150 := Aside0.mk ((bz_ hg (lb0_ HB.out))); have GE150 := Aside0.mk ((bz_ hg (lb0_ HB.out))); replace HB := Aside0.mk (below_step (lb0_ HB.out) hb); clear hb hbox hg; obtain ⟨hcz21_0, hcz21_1⟩ := cz2_ BK150.out; obtain ⟨hfz21_0, hfz21_1⟩ := fz2_ BK150.out) | (go_at_call 74; (with_reducible refine (impl_within.calls ((rd_T54 l0 x7_1).f0) 0 999 true _ A5.out).mono ?_); rintro e w' ⟨rfl, ⟨nd, rfl⟩⟩; (try first | exact ⟨rfl, _, World.drewN_drewN _ _ _⟩ | exact ⟨rfl, _, Eq.trans (World.drewN_drewN _ _ _) (congrArg (World.drewN _) (Nat.add_assoc _ _ _))⟩)) | (go_at_call 75; (with_reducible refine (impl_isLevel.calls ((rd_T54 l0 x7_1).f1) false _ A7.out).mono ?_); rintro e w' ⟨rfl, ⟨nd, rfl⟩⟩; (try first | exact ⟨rfl, _, World.drewN_drewN _ _ _⟩ | exact ⟨rfl, _, Eq.trans (World.drewN_drewN _ _ _) (congrArg (World.drewN _) (Nat.add_assoc _ _ _))⟩))); try go_wp2_with (first | ((with_reducible refine gate_dst (N := 4) rfl ?_); refine box_event ?hg (N := 4) ?hd (cs := #[.int .i64 0, .int .i64 0]) (t := 54) ?hr ?_; (case hd => rfl); (case hg => rfl); (case hr => first | (go_simp; done) | (go_simp; rfl)); intro gb150 hg w20 hbox hb; have BK150 := Aside0.mk (hbox); have GW150 := Aside0.mk ((bz_ hg (lb0_ HB.out))); have GE150 := Aside0.mk ((bz_ hg (lb0_ HB.out))); replace HB := Aside0.mk (below_step (lb0_ HB.out) hb); clear hb hbox hg; obtain ⟨hcz21_0, hcz21_1⟩ := cz2_ BK150.out; obtain ⟨hfz21_0, hfz21_1⟩ := fz2_ BK150.out) | (go_at_call 74; (with_reducible refine (impl_within.calls ((rd_T54 l0 x7_1).f0) 0 999 true _ A5.out).mono ?_); rintro e w' ⟨rfl, ⟨nd, rfl⟩⟩; (try first | exact ⟨rfl, _, World.drewN_drewN _ _ _⟩ | exact ⟨rfl, _, Eq.trans (World.drewN_drewN _ _ _) (congrArg (World.drewN _) (Nat.add_assoc _ _ _))⟩)) | (go_at_call 75; (with_reducible refine (impl_isLevel.calls ((rd_T54 l0 x7_1).f1) false _ A7.out).mono ?_); rintro e w' ⟨rfl, ⟨nd, rfl⟩⟩; (try first | exact ⟨rfl, _, World.drewN_drewN _ _ _⟩ | exact ⟨rfl, _, Eq.trans (World.drewN_drewN _ _ _) (congrArg (World.drewN _) (Nat.add_assoc _ _ _))⟩))))
        go_ret
        exact ⟨rr_, lb1_ HB.out GE150.out⟩
      ·
       replace c6 := Bool.eq_false_iff.mpr c6
       subst c6
       have H1 : (some false) = some r := by rw [if_neg (show ¬ (false = true) by decide)] at H; exact H
       clear H
       have H := H1
       clear H1
       obtain rfl := Option.some.inj H
       have p149 : 0 ≤ (x7_1 : Int) := dt_
       have q149 : x7_1 < (l0.length : Int) := dt_
       obtain ⟨ad149, e149, hx149_0, hx149_1⟩ := at_T54 HR0.out x7_1 p149 q149
       cases e149
       replace hx149_0 := bc_ HB.out hx149_0
       replace hx149_1 := bc_ HB.out hx149_1
       replace p149 := eq_true p149
       replace q149 := eq_true q149
       go_wp2_with (first | ((with_reducible refine gate_dst (N := 4) rfl ?_); refine box_event ?hg (N := 4) ?hd (cs := #[.int .i64 0, .int .i64 0]) (t := 54) ?hr ?_; (case hd => rfl); (case hg => rfl); (case hr => first | (go_simp; done) | (go_simp; rfl)); intro gb150 hg w22 hbox hb; have BK150 := Aside0.mk (hbox); have GW150 := Aside0.mk ((bz_ hg (lb0_ HB.out))); have GE150 := Aside0.mk ((bz_ hg (lb0_ HB.out))); replace HB := Aside0.mk (below_step (lb0_ HB.out) hb); clear hb hbox hg; obtain ⟨hcz23_0, hcz23_1⟩ := cz2_ BK150.out; obtain ⟨hfz23_0, hfz23_1⟩ := fz2_ BK150.out) | (go_at_call 74; (with_reducible refine (impl_within.calls ((rd_T54 l0 x7_1).f0) 0 999 false _ A5.out).mono ?_); rintro e w' ⟨rfl, ⟨nd, rfl⟩⟩; (try first | exact ⟨rfl, _, World.drewN_drewN _ _ _⟩ | exact ⟨rfl, _, Eq.trans (World.drewN_drewN _ _ _) (congrArg (World.drewN _) (Nat.add_assoc _ _ _))⟩)))
       repeat (go_quiet (first | ((with_reducible refine gate_dst (N := 4) rfl ?_); refine box_event ?hg (N := 4) ?hd (cs := #[.int .i64 0, .int .i64 0]) (t := 54) ?hr ?_; (case hd => rfl); (case hg => rfl); (case hr => first | (go_simp; done) | (go_simp; rfl)); intro gb150 hg w22 hbox hb; have BK150 := Aside0.mk (hbox); have GW150 := Aside0.mk ((bz_ hg (lb0_ HB.out))); have GE150 := Aside0.mk ((bz_ hg (lb0_ HB.out))); replace HB := Aside0.mk (below_step (lb0_ HB.out) hb); clear hb hbox hg; obtain ⟨hcz23_0, hcz23_1⟩ := cz2_ BK150.out; obtain ⟨hfz23_0, hfz23_1⟩ := fz2_ BK150.out) | (go_at_call 74; (with_reducible refine (impl_within.calls ((rd_T54 l0 x7_1).f0) 0 999 false _ A5.out).mono ?_); rintro e w' ⟨rfl, ⟨nd, rfl⟩⟩; (try first | exact ⟨rfl, _, World.drewN_drewN _ _ _⟩ | exact ⟨rfl, _, Eq.trans (World.drewN_drewN _ _ _) (congrArg (World.drewN _) (Nat.add_assoc _ _ _))⟩))); try go_wp2_with (first | ((with_reducible refine gate_dst (N := 4) rfl ?_); refine box_event ?hg (N := 4) ?hd (cs := #[.int .i64 0, .int .i64 0]) (t := 54) ?hr ?_; (case hd => rfl); (case hg => rfl); (case hr => first | (go_simp; done) | (go_simp; rfl)); intro gb150 hg w22 hbox hb; have BK150 := Aside0.mk (hbox); have GW150 := Aside0.mk ((bz_ hg (lb0_ HB.out))); have GE150 := Aside0.mk ((bz_ hg (lb0_ HB.out))); replace HB := Aside0.mk (below_step (lb0_ HB.out) hb); clear hb hbox hg; obtain ⟨hcz23_0, hcz23_1⟩ := cz2_ BK150.out; obtain ⟨hfz23_0, hfz23_1⟩ := fz2_ BK150.out) | (go_at_call 74; (with_reducible refine (impl_within.calls ((rd_T54 l0 x7_1).f0) 0 999 false _ A5.out).mono ?_); rintro e w' ⟨rfl, ⟨nd, rfl⟩⟩; (try first | exact ⟨rfl, _, World.drewN_drewN _ _ _⟩ | exact ⟨rfl, _, Eq.trans (World.drewN_drewN _ _ _) (congrArg (World.drewN _) (Nat.add_assoc _ _ _))⟩))))
       go_ret
       exact ⟨rr_, lb1_ HB.out GE150.out⟩
     ·
      rw [if_neg c4] at H
      exact absurd H (by simp)
    ·
     rw [if_neg c3] at H
     exact absurd H (by simp)
   ·
    rw [if_neg c2] at H
    have c2b0 : decide (x7_1 < (l0.length : Int)) = false := decide_eq_false c2
    clear c2
    obtain rfl := Option.some.inj H
    go_wp2
    repeat (go_quiet (fail); try go_wp2)
    go_ret
    exact ⟨rr_, lb0_ HB.out⟩
def impl_hours.f (l0 : List (S54)) : Option (Int × Int) := if (l0.length : Int) = 0 then (some (0, (-1))) else (if 0 < (l0.length : Int) then (if 0 ≤ (wrap64 ((l0.length : Int) - 1)) then (if (wrap64 ((l0.length : Int) - 1)) < (l0.length : Int) then (some ((rd_T54 l0 0).f0, (rd_T54 l0 (wrap64 ((l0.length : Int) - 1))).f0)) else (none)) else (none)) else (none))
set_option maxHeartbeats 8000000 in
set_option maxRecDepth 100000 in
theorem impl_hours.calls (A0 : Option Addr) (c0 : Nat) (l0 : List (S54)) (r1 : Int) (r2 : Int) (w : World) (hr0 : Kd.C k54 w A0 l0.length l0) (hc0 : l0.length ≤ c0) (h : impl_hours.f l0 = some (r1, r2)) :
  Calls Try.prog 76 #[.slice A0 l0.length c0] w fun e w' => e = .returned (.tuple #[.int .i64 r1, .int .i64 r2]) ∧ Drawn0 w w' := by
 have HR0 := Aside0.mk hr0
 have HC0 := Aside0.mk hc0
 clear hr0 hc0
 have H : (if (l0.length : Int) = 0 then (some (0, (-1))) else (if 0 < (l0.length : Int) then (if 0 ≤ (wrap64 ((l0.length : Int) - 1)) then (if (wrap64 ((l0.length : Int) - 1)) < (l0.length : Int) then (some ((rd_T54 l0 0).f0, (rd_T54 l0 (wrap64 ((l0.length : Int) - 1))).f0)) else (none)) else (none)) else (none))) = some (r1, r2) := h
 clear h
 by_cases c2 : (l0.length : Int) = 0
 ·
  rw [if_pos c2] at H
  have c2b0 : ((l0.length : Int) == 0) = true := beq_iff_eq.mpr c2
  have c2b1 : ((l0.length : Int) != 0) = false := bne_eq_false_iff_eq.mpr c2
  clear c2
  simp only [Option.some.injEq, Prod.mk.injEq] at H
  obtain ⟨rfl, rfl⟩ := H
  go_enter Try.func76, Try.ntmps76
  go_wp2
  repeat (go_quiet (fail); try go_wp2)
  go_ret2
  exact ⟨by first | rfl | (simp; done) | (simp [*]; done), by repeat (first | exact Drawn0.refl _ | apply Drawn0.step)⟩
 ·
  rw [if_neg c2] at H
  have c2b0 : ((l0.length : Int) == 0) = false := beq_eq_false_iff_ne.mpr c2
  have c2b1 : ((l0.length : Int) != 0) = true := bne_iff_ne.mpr c2
  have c2b2 : ¬ (l0 = []) := fun h_ => c2 (by rw [h_]; rfl)
  by_cases c3 : 0 < (l0.length : Int)
  ·
   rw [if_pos c3] at H
   have c3b0 : decide (0 < (l0.length : Int)) = true := decide_eq_true c3
   have c3b1 : decide (0 < l0.length) = true := decide_eq_true (by omega)
   clear c3
   obtain ⟨ji4, hji4⟩ : ∃ j_ : Int, (wrap64 ((l0.length : Int) - 1)) = j_ := ⟨_, rfl⟩
   replace H : (if 0 ≤ (ji4) then (if (ji4) < (l0.length : Int) then (some ((rd_T54 l0 0).f0, (rd_T54 l0 (ji4)).f0)) else (none)) else (none)) = some (r1, r2) := by first | (rw [hji4] at H; exact H) | (simp only [hji4] at H ⊢; exact H)
   have hji4w : (IntKind.i64.wrap ((l0.length : Int) - 1)) = ji4 := (i64_w _).trans hji4
   by_cases c5 : 0 ≤ (ji4)
   ·
    rw [if_pos c5] at H
    have c5b0 : decide (0 ≤ (ji4)) = true := decide_eq_true c5
    clear c5
    by_cases c6 : (ji4) < (l0.length : Int)
    ·
     rw [if_pos c6] at H
     have c6b0 : decide ((ji4) < (l0.length : Int)) = true := decide_eq_true c6
     clear c6
     simp only [Option.some.injEq, Prod.mk.injEq] at H
     obtain ⟨rfl, rfl⟩ := H
     have p154 : 0 ≤ (0 : Int) := (by omega)
     have q154 : 0 < (l0.length : Int) := dt_
     obtain ⟨ad154, e154, hx154_0, hx154_1⟩ := at_T54 HR0.out 0 p154 q154
     cases e154
     have qi154 : (0 < l0.length) = True := eq_true (by omega)
     (try rw [show ((0 : Int)).toNat = 0 from rfl] at hx154_0)
     (try rw [show 0 * 2 = 0 from rfl] at hx154_0)
     (try rw [Addr.add_zero'] at hx154_0)
     (try rw [show ((0 : Int)).toNat = 0 from rfl] at hx154_1)
     (try rw [show 0 * 2 = 0 from rfl] at hx154_1)
     (try rw [Addr.add_zero'] at hx154_1)
     replace p154 := eq_true p154
     replace q154 := eq_true q154
     have p155 : 0 ≤ ((ji4) : Int) := dt_
     have q155 : (ji4) < (l0.length : Int) := dt_
     obtain ⟨ad155, e155, hx155_0, hx155_1⟩ := at_T54 HR0.out (ji4) p155 q155
     obtain rfl : ad154 = ad155 := (by injection e155)
     replace p155 := eq_true p155
     replace q155 := eq_true q155
     go_enter Try.func76, Try.ntmps76
     go_wp2
     repeat (go_quiet (fail); try go_wp2)
     go_ret2
     exact ⟨by first | rfl | (simp; done) | (simp only [← hji4] <;> (first | rfl | simp)) | (simp [*]; done), by repeat (first | exact Drawn0.refl _ | apply Drawn0.step)⟩
    ·
     rw [if_neg c6] at H
     exact absurd H (by simp)
   ·
    rw [if_neg c5] at H
    exact absurd H (by simp)
  ·
   rw [if_neg c3] at H
   exact absurd H (by simp)
def impl_absolute.f (a0 : Int) : Option (Int) := some (mx a0 (wrap64 (-a0)))
set_option maxHeartbeats 8000000 in
set_option maxRecDepth 100000 in
theorem impl_absolute.calls (a0 : Int) (r : Int) (w : World) (h : impl_absolute.f a0 = some r) :
  Calls Try.prog 98 #[.int .i64 a0] w fun e w' => e = .returned (.int .i64 r) ∧ Below w.heap.size w w' := by
 have HB := Aside0.mk (Below.refl w.heap.size w)
 have H : (some (mx a0 (wrap64 (-a0)))) = some r := h
 clear h
 obtain ⟨ji2, hji2⟩ : ∃ j_ : Int, (mx a0 (wrap64 (-a0))) = j_ := ⟨_, rfl⟩
 replace H : (some ji2) = some r := by first | (rw [hji2] at H; exact H) | (simp only [hji2] at H ⊢; exact H)
 have hji2_ : (if a0 < (wrap64 (-a0)) then (wrap64 (-a0)) else a0) = ji2 := hji2
 obtain rfl := Option.some.inj H
 go_enter Try.func98, Try.ntmps98
 go_wp2
 go_ret
 exact ⟨by first | rfl | (simp [errW_none, errW_some] <;> rfl) | (simp only [← hji2]; first | rfl | (simp [errW_none, errW_some] <;> rfl)) | (simp [*, errW_none, errW_some] <;> rfl), lb0_ HB.out⟩
def impl_gcd.l0 : Nat → Int → Int → Option (Int)
 | 0, _, _ => none
 | k + 1, x0, x1 => if x1 = 0 then ((impl_absolute.f x0).bind fun t165 => (some t165)) else (impl_gcd.l0 k x1 (Int.tmod x0 x1))
def impl_gcd.f (k : Nat) (a0 : Int) (a1 : Int) : Option (Int) := impl_gcd.l0 k a0 a1
set_option maxHeartbeats 8000000 in
set_option maxRecDepth 100000 in
theorem impl_gcd.calls (k : Nat) (a0 : Int) (a1 : Int) (r : Int) (w : World) (h : impl_gcd.f k a0 a1 = some r) :
  Calls Try.prog 93 #[.int .i64 a0, .int .i64 a1] w fun e w' => e = .returned (.int .i64 r) ∧ Below w.heap.size w w' := by
 have HB := Aside0.mk (Below.refl w.heap.size w)
 have H : (impl_gcd.l0 k a0 a1) = some r := h
 clear h
 have H' := Aside0.mk H
 clear H
 go_enter Try.func93, Try.ntmps93
 go_wp2
 repeat (go_quiet (fail); try go_wp2)
 go_loopg [0, 1] k (fun kq v0 v1 w' => ∃ (x0_1 : Int) (x1_1 : Int), v0 = .int .i64 x0_1 ∧ v1 = .int .i64 x1_1 ∧ Aside0 (impl_gcd.l0 kq x0_1 x1_1 = some r) ∧ Aside0 (kq ≤ k) ∧ Aside0 (Below w.heap.size w w'))
 case atStart => exact ⟨(a0), (a1), (by first | rfl | (simp; done) | (simp [*]; done)), (by first | rfl | (simp; done) | (simp [*]; done)), H', ⟨Nat.le_refl _⟩, ⟨lb0_ HB.out⟩⟩
 case round =>
  clear H'
  try clear p2
  obtain ⟨x0_1, x1_1, rfl, rfl, HA, HK1, HB⟩ := hrel
  cases gk with
  | zero => exact absurd HA.out (by simp [impl_gcd.l0])
  | succ k1 =>
   have H := HA.out
   clear HA
   simp only [impl_gcd.l0] at H
   by_cases c3 : x1_1 = 0
   ·
    rw [if_pos c3] at H
    have c3b0 : (x1_1 == 0) = true := beq_iff_eq.mpr c3
    have c3b1 : (x1_1 != 0) = false := bne_eq_false_iff_eq.mpr c3
    clear c3
    replace H := Option.bind_eq_some_iff.mp H
    obtain ⟨t165, A40, H⟩ := H
    replace H : (some t165) = some r := H
    have A4 := Aside0.mk A40
    clear A40
    obtain rfl := Option.some.inj H
    go_wp2_with (first | (go_at_call 98; (with_reducible refine (impl_absolute.calls x0_1 t165 _ A4.out).mono ?_); rintro e w5 ⟨rfl, hb⟩; replace HB := Aside0.mk (below_step (lb0_ HB.out) hb); (try clear hb); (try clear hb2); (try clear hk); (try clear hi)))
    repeat (go_quiet (first | (go_at_call 98; (with_reducible refine (impl_absolute.calls x0_1 t165 _ A4.out).mono ?_); rintro e w5 ⟨rfl, hb⟩; replace HB := Aside0.mk (below_step (lb0_ HB.out) hb); (try clear hb); (try clear hb2); (try clear hk); (try clear hi))); try go_wp2_with (first | (go_at_call 98; (with_reducible refine (impl_absolute.calls x0_1 t165 _ A4.out).mono ?_); rintro e w5 ⟨rfl, hb⟩; replace HB := Aside0.mk (below_step (lb0_ HB.out) hb); (try clear hb); (try clear hb2); (try clear hk); (try clear hi))))
    go_ret
    exact ⟨rr_, lb0_ HB.out⟩
   ·
    rw [if_neg c3] at H
    have c3b0 : (x1_1 == 0) = false := beq_eq_false_iff_ne.mpr c3
    have c3b1 : (x1_1 != 0) = true := bne_iff_ne.mpr c3
    have H' := Aside0.mk H
    clear H
    go_wp2
    repeat (go_quiet (fail); try go_wp2)
    go_roundg k1
    case measure => have := HK1.out; omega
    case rel => exact ⟨(x1_1), (Int.tmod x0_1 x1_1), (by first | rfl | (simp; done) | (simp [*]; done)), (by first | rfl | (simp; done) | (simp [*]; done)), H', ⟨by have := HK1.out; omega⟩, ⟨lb0_ HB.out⟩⟩
def impl_reduced.f (k : Nat) (a0 : Int) (a1 : Int) : Option (Int × Int) := (impl_gcd.f k a0 a1).bind fun t166 => (if t166 = 0 then (none) else (some (wrap64 (Int.tdiv a0 t166), wrap64 (Int.tdiv a1 t166))))
set_option maxHeartbeats 8000000 in
set_option maxRecDepth 100000 in
theorem impl_reduced.calls (k : Nat) (a0 : Int) (a1 : Int) (r1 : Int) (r2 : Int) (w : World) (h : impl_reduced.f k a0 a1 = some (r1, r2)) :
  Calls Try.prog 71 #[.int .i64 a0, .int .i64 a1] w fun e w' => e = .returned (.tuple #[.int .i64 r1, .int .i64 r2]) ∧ Below w.heap.size w w' := by
 have HB := Aside0.mk (Below.refl w.heap.size w)
 have H : ((impl_gcd.f k a0 a1).bind fun t166 => (if t166 = 0 then (none) else (some (wrap64 (Int.tdiv a0 t166), wrap64 (Int.tdiv a1 t166))))) = some (r1, r2) := h
 clear h
 replace H := Option.bind_eq_some_iff.mp H
 obtain ⟨t166, A30, H⟩ := H
 replace H : (if t166 = 0 then (none) else (some (wrap64 (Int.tdiv a0 t166), wrap64 (Int.tdiv a1 t166)))) = some (r1, r2) := H
 have A3 := Aside0.mk A30
 clear A30
 by_cases c4 : t166 = 0
 ·
  rw [if_pos c4] at H
  exact absurd H (by simp)
 ·
  rw [if_neg c4] at H
  have c4b0 : (t166 == 0) = false := beq_eq_false_iff_ne.mpr c4
  have c4b1 : (t166 != 0) = true := bne_iff_ne.mpr c4
  simp only [Option.some.injEq, Prod.mk.injEq] at H
  obtain ⟨rfl, rfl⟩ := H
  go_enter Try.func71, Try.ntmps71
  go_wp2_with (first | (go_at_call 93; (with_reducible refine (impl_gcd.calls k a0 a1 t166 _ A3.out).mono ?_); rintro e w5 ⟨rfl, hb⟩; replace HB := Aside0.mk (below_step (lb0_ HB.out) hb); (try clear hb); (try clear hb2); (try clear hk); (try clear hi)))
  repeat (go_quiet (first | (go_at_call 93; (with_reducible refine (impl_gcd.calls k a0 a1 t166 _ A3.out).mono ?_); rintro e w5 ⟨rfl, hb⟩; replace HB := Aside0.mk (below_step (lb0_ HB.out) hb); (try clear hb); (try clear hb2); (try clear hk); (try clear hi))); try go_wp2_with (first | (go_at_call 93; (with_reducible refine (impl_gcd.calls k a0 a1 t166 _ A3.out).mono ?_); rintro e w5 ⟨rfl, hb⟩; replace HB := Aside0.mk (below_step (lb0_ HB.out) hb); (try clear hb); (try clear hb2); (try clear hk); (try clear hi))))
  go_ret2
  exact ⟨rr_, lb0_ HB.out⟩
def impl_levelIn.l0 : Nat → List (S54) → Int → Int → Option (Int × Int)
 | 0, _, _, _ => none
 | k + 1, x0, x1, x5 => if (wrap64 (x5 + 1)) < (x0.length : Int) then (if 0 ≤ (wrap64 (x5 + 1)) then (if ((rd_T54 x0 (wrap64 (x5 + 1))).f0) ≤ x1 then (impl_levelIn.l0 k x0 x1 (wrap64 (x5 + 1))) else (if 0 ≤ x5 then (if x5 < (x0.length : Int) then (if ((rd_T54 x0 x5).f0) = x1 then (some ((rd_T54 x0 x5).f1, 1)) else ((impl_reduced.f k (wrap64 ((wrap64 (((rd_T54 x0 x5).f1) * (wrap64 (((rd_T54 x0 (wrap64 (x5 + 1))).f0) - x1)))) + (wrap64 (((rd_T54 x0 (wrap64 (x5 + 1))).f1) * (wrap64 (x1 - ((rd_T54 x0 x5).f0))))))) (wrap64 (((rd_T54 x0 (wrap64 (x5 + 1))).f0) - ((rd_T54 x0 x5).f0)))).bind fun bt173 => (some (bt173.1, bt173.2)))) else (none)) else (none))) else (none)) else (if 0 ≤ x5 then (if x5 < (x0.length : Int) then (if ((rd_T54 x0 x5).f0) = x1 then (some ((rd_T54 x0 x5).f1, 1)) else (if 0 ≤ (wrap64 (x5 + 1)) then (none) else (none))) else (none)) else (none))
def impl_levelIn.f (k : Nat) (l0 : List (S54)) (a1 : Int) : Option (Int × Int) := impl_levelIn.l0 k l0 a1 0
set_option maxHeartbeats 8000000 in
set_option maxRecDepth 100000 in
theorem impl_levelIn.calls (k : Nat) (A0 : Option Addr) (c0 : Nat) (l0 : List (S54)) (a1 : Int) (r1 : Int) (r2 : Int) (w : World) (hr0 : Kd.C k54 w A0 l0.length l0) (hc0 : l0.length ≤ c0) (h : impl_levelIn.f k l0 a1 = some (r1, r2)) :
  Calls Try.prog 69 #[.slice A0 l0.length c0, .int .i64 a1] w fun e w' => e = .returned (.agg #[.int .i64 r1, .int .i64 r2]) ∧ Below w.heap.size w w' := by
 have hu94 := Try.underlying94
 have hu54 := Try.underlying54
 have HR0 := Aside0.mk hr0
 have HC0 := Aside0.mk hc0
 clear hr0 hc0
 have HB := Aside0.mk (Below.refl w.heap.size w)
 have H : (impl_levelIn.l0 k l0 a1 0) = some (r1, r2) := h
 clear h
 have H' := Aside0.mk H
 clear H
 go_enter Try.func69, Try.ntmps69
 go_wp2_with (first | ((with_reducible refine gate_dst (N := 4) rfl ?_); refine box_event ?hg (N := 4) ?hd (cs := #[.int .i64 0, .int .i64 0]) (t := 94) ?hr ?_; (case hd => rfl); (case hg => rfl); (case hr => first | (go_simp; done) | (go_simp; rfl)); intro gb167 hg w3 hbox hb; have BK167 := Aside0.mk (hbox); have GW167 := Aside0.mk ((bz_ hg (lb0_ HB.out))); have GE167 := Aside0.mk ((bz_ hg (lb0_ HB.out))); replace HB := Aside0.mk (below_step (lb0_ HB.out) hb); clear hb hbox hg))
 go_loopg [5] k (fun kq v5 w' => ∃ (x5_1 : Int), v5 = .int .i64 x5_1 ∧ Aside0 (impl_levelIn.l0 kq l0 a1 x5_1 = some (r1, r2)) ∧ Aside0 (kq ≤ k) ∧ Aside0 (w'.heap[gb167]? = some (.cells #[.int .i64 0, .int .i64 0] 94 (0, 0))) ∧ Aside0 (Below w.heap.size w w'))
 case atStart => exact ⟨(0), (by first | rfl | (simp; done) | (simp [*]; done)), H', ⟨Nat.le_refl _⟩, ⟨bk_ BK167.out⟩, ⟨lb1_ HB.out GE167.out⟩⟩
 case round =>
  clear H'
  try clear p2
  obtain ⟨x5_1, rfl, HA, HK1, BK167, HB⟩ := hrel
  cases gk with
  | zero => exact absurd HA.out (by simp [impl_levelIn.l0])
  | succ k1 =>
   have H := HA.out
   clear HA
   simp only [impl_levelIn.l0] at H
   by_cases c4 : (wrap64 (x5_1 + 1)) < (l0.length : Int)
   ·
    rw [if_pos c4] at H
    have c4b0 : decide ((wrap64 (x5_1 + 1)) < (l0.length : Int)) = true := decide_eq_true c4
    clear c4
    obtain ⟨ji5, hji5⟩ : ∃ j_ : Int, (wrap64 (x5_1 + 1)) = j_ := ⟨_, rfl⟩
    replace H : (if 0 ≤ (ji5) then (if ((rd_T54 l0 (ji5)).f0) ≤ a1 then (impl_levelIn.l0 k1 l0 a1 ji5) else (if 0 ≤ x5_1 then (if x5_1 < (l0.length : Int) then (if ((rd_T54 l0 x5_1).f0) = a1 then (some ((rd_T54 l0 x5_1).f1, 1)) else ((impl_reduced.f k1 (wrap64 ((wrap64 (((rd_T54 l0 x5_1).f1) * (wrap64 (((rd_T54 l0 (ji5)).f0) - a1)))) + (wrap64 (((rd_T54 l0 (ji5)).f1) * (wrap64 (a1 - ((rd_T54 l0 x5_1).f0))))))) (wrap64 (((rd_T54 l0 (ji5)).f0) - ((rd_T54 l0 x5_1).f0)))).bind fun bt173 => (some (bt173.1, bt173.2)))) else (none)) else (none))) else (none)) = some (r1, r2) := by first | (rw [hji5] at H; exact H) | (simp only [hji5] at H ⊢; exact H)
    (try rw [hji5] at c4b0)
    have hji5w : (IntKind.i64.wrap (x5_1 + 1)) = ji5 := (i64_w _).trans hji5
    by_cases c6 : 0 ≤ (ji5)
    ·
     rw [if_pos c6] at H
     have c6b0 : decide (0 ≤ (ji5)) = true := decide_eq_true c6
     clear c6
     by_cases c7 : ((rd_T54 l0 (ji5)).f0) ≤ a1
     ·
      rw [if_pos c7] at H
      have c7b0 : decide (((rd_T54 l0 (ji5)).f0) ≤ a1) = true := decide_eq_true c7
      clear c7
      have H' := Aside0.mk H
      clear H
      have p168 : 0 ≤ ((ji5) : Int) := dt_
      have q168 : (ji5) < (l0.length : Int) := dt_
      obtain ⟨ad168, e168, hx168_0, hx168_1⟩ := at_T54 HR0.out (ji5) p168 q168
      cases e168
      replace hx168_0 := bc_ HB.out hx168_0
      replace hx168_1 := bc_ HB.out hx168_1
      replace p168 := eq_true p168
      replace q168 := eq_true q168
      go_wp2
      go_roundg k1
      case measure => have := HK1.out; omega
      case rel => exact ⟨(ji5), (by first | rfl | (simp; done) | (simp only [← hji5] <;> (first | rfl | simp)) | (simp [*]; done)), H', ⟨by have := HK1.out; omega⟩, ⟨bk_ BK167.out⟩, ⟨lb1_ HB.out GE167.out⟩⟩
     ·
      rw [if_neg c7] at H
      have c7b0 : decide (((rd_T54 l0 (ji5)).f0) ≤ a1) = false := decide_eq_false c7
      clear c7
      by_cases c8 : 0 ≤ x5_1
      ·
       rw [if_pos c8] at H
       have c8b0 : decide (0 ≤ x5_1) = true := decide_eq_true c8
       clear c8
       by_cases c9 : x5_1 < (l0.length : Int)
       ·
        rw [if_pos c9] at H
        have c9b0 : decide (x5_1 < (l0.length : Int)) = true := decide_eq_true c9; clear c9
        by_cases c10 : ((rd_T54 l0 x5_1).f0) = a1
        ·
         rw [if_pos c10] at H
         have c10b0 : (((rd_T54 l0 x5_1).f0) == a1) = true := beq_iff_eq.mpr c10; have c10b1 : (((rd_T54 l0 x5_1).f0) != a1) = false := bne_eq_false_iff_eq.mpr c10; clear c10; simp only [Option.some.injEq, Prod.mk.injEq] at H; obtain ⟨rfl, rfl⟩ := H; have p168 : 0 ≤ ((ji5) : Int) := dt_; have q168 : (ji5) < (l0.length : Int) := dt_; obtain ⟨ad168, e168, hx168_0, hx168_1⟩ := at_T54 HR0.out (ji5) p168 q168
         cases e168
         replace hx168_0 := bc_ HB.out hx168_0; replace hx168_1 := bc_ HB.out hx168_1; replace p168 := eq_true p168; replace q168 := eq_true q168; have p169 : 0 ≤ (x5_1 : Int) := dt_; have q169 : x5_1 < (l0.length : Int) := dt_; obtain ⟨ad169, e169, hx169_0, hx169_1⟩ := at_T54 HR0.out x5_1 p169 q169
         obtain rfl : ad168 = ad169 := (by injection e169)
         replace hx169_0 := bc_ HB.out hx169_0; replace hx169_1 := bc_ HB.out hx169_1; replace p169 := eq_true p169; replace q169 := eq_true q169
         go_wp2_with (first | ((with_reducible refine gate_dst (N := 6) rfl ?_); refine box_event ?hg (N := 6) ?hd (cs := #[.int .i64 0, .int .i64 0]) (t := 54) ?hr ?_; (case hd => rfl); (case hg => rfl); (case hr => first | (go_simp; done) | (go_simp; rfl)); intro gb170 hg w11 hbox hb; have BK170 := Aside0.mk (hbox); have GW170 := Aside0.mk ((bz_ hg (lb1_ HB.out GE167.out))); have GE170 := Aside0.mk ((bz_ hg (lb1_ HB.out GE167.out))); replace HB := Aside0.mk (below_step (lb1_ HB.out GE167.out) hb); have NB167_170 := Aside0.mk (nl_ hg BK167.out); have NB170_167 := Aside0.mk (ng_ hg BK167.out); replace BK167 := Aside0.mk (bb_ (bk_ BK167.out) hb); clear hb hbox hg; have hnb12 := NB170_167.out; have hnc12 := NB167_170.out; obtain ⟨hcz13_0, hcz13_1⟩ := cz2_ BK170.out; obtain ⟨hfz13_0, hfz13_1⟩ := fz2_ BK170.out; obtain ⟨hcz14_0, hcz14_1⟩ := cz2_ BK167.out; obtain ⟨hfz14_0, hfz14_1⟩ := fz2_ BK167.out))
         refine bodyPost_ret (results_cell_row rfl _ _ gb167 94 #[.int .i64 ((rd_T54 l0 x5_1).f1), .int .i64 1] (0, 0) _ rfl (by (with_reducible repeat (first | refine blk_drewN ?_ _ | refine blk_drew ?_ | refine blk_alloc ?_ _)); refine blk_put (cs := #[.int .i64 ((rd_T54 l0 x5_1).f1), .int .i64 0]) ?_ 1 _ rfl; (with_reducible repeat (first | refine blk_drewN ?_ _ | refine blk_drew ?_ | refine blk_alloc ?_ _)); refine blk_put (cs := #[.int .i64 0, .int .i64 0]) ?_ 0 _ rfl; (with_reducible repeat (first | refine blk_drewN ?_ _ | refine blk_drew ?_ | refine blk_alloc ?_ _)); refine blk_far ?_ NB167_170.out _; (with_reducible repeat (first | refine blk_drewN ?_ _ | refine blk_drew ?_ | refine blk_alloc ?_ _)); refine blk_far ?_ NB167_170.out _; (with_reducible repeat (first | refine blk_drewN ?_ _ | refine blk_drew ?_ | refine blk_alloc ?_ _)); exact BK167.out) Try.underlying94 rfl (by kernel_rfl)) rfl ?_; exact ⟨by first | rfl | (simp [errW_none, errW_some] <;> rfl) | (simp only [← hji5]; first | rfl | (simp [errW_none, errW_some] <;> rfl)) | (simp [*, errW_none, errW_some] <;> rfl), lb2_ HB.out GE167.out GE170.out⟩
        ·
         rw [if_neg c10] at H
         have c10b0 : (((rd_T54 l0 x5_1).f0) == a1) = false := beq_eq_false_iff_ne.mpr c10; have c10b1 : (((rd_T54 l0 x5_1).f0) != a1) = true := bne_iff_ne.mpr c10; replace H := Option.bind_eq_some_iff.mp H; obtain ⟨⟨t173, t174⟩, A150, H⟩ := H; replace H : (some (t173, t174)) = some (r1, r2) := H; have A15 := Aside0.mk A150; clear A150; simp only [Option.some.injEq, Prod.mk.injEq] at H; obtain ⟨rfl, rfl⟩ := H; have p168 : 0 ≤ ((ji5) : Int) := dt_; have q168 : (ji5) < (l0.length : Int) := dt_; obtain ⟨ad168, e168, hx168_0, hx168_1⟩ := at_T54 HR0.out (ji5) p168 q168
         cases e168
         replace hx168_0 := bc_ HB.out hx168_0; replace hx168_1 := bc_ HB.out hx168_1; replace p168 := eq_true p168; replace q168 := eq_true q168; have p169 : 0 ≤ (x5_1 : Int) := dt_; have q169 : x5_1 < (l0.length : Int) := dt_; obtain ⟨ad169, e169, hx169_0, hx169_1⟩ := at_T54 HR0.out x5_1 p169 q169
         obtain rfl : ad168 = ad169 := (by injection e169)
         replace hx169_0 := bc_ HB.out hx169_0; replace hx169_1 := bc_ HB.out hx169_1; replace p169 := eq_true p169; replace q169 := eq_true q169
         go_wp2_with (first | ((with_reducible refine gate_dst (N := 6) rfl ?_); refine box_event ?hg (N := 6) ?hd (cs := #[.int .i64 0, .int .i64 0]) (t := 54) ?hr ?_; (case hd => rfl); (case hg => rfl); (case hr => first | (go_simp; done) | (go_simp; rfl)); intro gb170 hg w16 hbox hb; have BK170 := Aside0.mk (hbox); have GW170 := Aside0.mk ((bz_ hg (lb1_ HB.out GE167.out))); have GE170 := Aside0.mk ((bz_ hg (lb1_ HB.out GE167.out))); replace HB := Aside0.mk (below_step (lb1_ HB.out GE167.out) hb); have NB167_170 := Aside0.mk (nl_ hg BK167.out); have NB170_167 := Aside0.mk (ng_ hg BK167.out); replace BK167 := Aside0.mk (bb_ (bk_ BK167.out) hb); clear hb hbox hg; have hnb17 := NB170_167.out; have hnc17 := NB167_170.out; obtain ⟨hcz18_0, hcz18_1⟩ := cz2_ BK170.out; obtain ⟨hfz18_0, hfz18_1⟩ := fz2_ BK170.out; have p171 : 0 ≤ ((ji5) : Int) := dt_; have q171 : (ji5) < (l0.length : Int) := dt_; obtain ⟨ad171, e171, hx171_0, hx171_1⟩ := at_T54 HR0.out (ji5) p171 q171; obtain rfl : ad168 = ad171 := (by injection e171); have hn171_0 : ad168.block ≠ gb170 := Nat.ne_of_lt (Nat.lt_of_lt_of_le (by have := World.block_lt_of_cell? _ _ hx171_0; first | rwa [add_block] at this | exact this) GW170.out); have hn171_1 : ad168.block ≠ gb170 := Nat.ne_of_lt (Nat.lt_of_lt_of_le (by have := World.block_lt_of_cell? _ _ hx171_0; first | rwa [add_block] at this | exact this) GW170.out); replace hx171_0 := bc_ HB.out hx171_0; replace hx171_1 := bc_ HB.out hx171_1; replace hx171_0 := (cell_far (p := ⟨gb170, 0, none⟩) (by first | (rw [add_block]; exact hn171_0) | (show (Addr.add _ _).block ≠ _; rw [add_block]; exact hn171_0) | exact hn171_0) (.int .i64 ((rd_T54 l0 x5_1).f0))).trans hx171_0; replace hx171_1 := (cell_far (p := ⟨gb170, 0, none⟩) (by first | (rw [add_block]; exact hn171_0) | (show (Addr.add _ _).block ≠ _; rw [add_block]; exact hn171_0) | exact hn171_0) (.int .i64 ((rd_T54 l0 x5_1).f0))).trans hx171_1; replace hx171_0 := (cell_far (p := ⟨gb170, 1, none⟩) (by first | (rw [add_block]; exact hn171_1) | (show (Addr.add _ _).block ≠ _; rw [add_block]; exact hn171_1) | exact hn171_1) (.int .i64 ((rd_T54 l0 x5_1).f1))).trans hx171_0; replace hx171_1 := (cell_far (p := ⟨gb170, 1, none⟩) (by first | (rw [add_block]; exact hn171_1) | (show (Addr.add _ _).block ≠ _; rw [add_block]; exact hn171_1) | exact hn171_1) (.int .i64 ((rd_T54 l0 x5_1).f1))).trans hx171_1; clear hn171_0; clear hn171_1; replace p171 := eq_true p171; replace q171 := eq_true q171) | ((with_reducible refine gate_dst (N := 7) rfl ?_); refine box_event ?hg (N := 7) ?hd (cs := #[.int .i64 0, .int .i64 0]) (t := 54) ?hr ?_; (case hd => rfl); (case hg => rfl); (case hr => first | (go_simp; done) | (go_simp; rfl)); intro gb172 hg w19 hbox hb; have BK172 := Aside0.mk (hbox); have GW172 := Aside0.mk ((bz_ hg (lb2_ HB.out GE167.out GE170.out))); have GE172 := Aside0.mk ((bz_ hg (lb2_ HB.out GE167.out GE170.out))); replace HB := Aside0.mk (below_step (lb2_ HB.out GE167.out GE170.out) hb); have NB167_172 := Aside0.mk ((by rw [hg]; exact Nat.ne_of_lt (blk_lt (g := gb167) (o := .cells #[.int .i64 0, .int .i64 0] 94 (0, 0)) (by (with_reducible repeat (first | refine blk_drewN ?_ _ | refine blk_drew ?_ | refine blk_alloc ?_ _)); exact (f2_ BK167.out NB167_170.out _ _))) : gb167 ≠ gb172)); have NB172_167 := Aside0.mk ((by rw [hg]; exact Nat.ne_of_gt (blk_lt (g := gb167) (o := .cells #[.int .i64 0, .int .i64 0] 94 (0, 0)) (by (with_reducible repeat (first | refine blk_drewN ?_ _ | refine blk_drew ?_ | refine blk_alloc ?_ _)); exact (f2_ BK167.out NB167_170.out _ _))) : gb172 ≠ gb167)); replace BK167 := Aside0.mk (blk_below (g := gb167) (o := .cells #[.int .i64 0, .int .i64 0] 94 (0, 0)) (by (with_reducible repeat (first | refine blk_drewN ?_ _ | refine blk_drew ?_ | refine blk_alloc ?_ _)); exact (f2_ BK167.out NB167_170.out _ _)) hb); have NB170_172 := Aside0.mk ((by rw [hg]; exact Nat.ne_of_lt (blk_lt (g := gb170) (o := .cells #[.int .i64 ((rd_T54 l0 x5_1).f0), .int .i64 ((rd_T54 l0 x5_1).f1)] 54 (0, 0)) (by (with_reducible repeat (first | refine blk_drewN ?_ _ | refine blk_drew ?_ | refine blk_alloc ?_ _)); exact (p2_ BK170.out _ _))) : gb170 ≠ gb172)); have NB172_170 := Aside0.mk ((by rw [hg]; exact Nat.ne_of_gt (blk_lt (g := gb170) (o := .cells #[.int .i64 ((rd_T54 l0 x5_1).f0), .int .i64 ((rd_T54 l0 x5_1).f1)] 54 (0, 0)) (by (with_reducible repeat (first | refine blk_drewN ?_ _ | refine blk_drew ?_ | refine blk_alloc ?_ _)); exact (p2_ BK170.out _ _))) : gb172 ≠ gb170)); replace BK170 := Aside0.mk (blk_below (g := gb170) (o := .cells #[.int .i64 ((rd_T54 l0 x5_1).f0), .int .i64 ((rd_T54 l0 x5_1).f1)] 54 (0, 0)) (by (with_reducible repeat (first | refine blk_drewN ?_ _ | refine blk_drew ?_ | refine blk_alloc ?_ _)); exact (p2_ BK170.out _ _)) hb); clear hb hbox hg; have hnb20 := NB172_167.out; have hnc20 := NB167_172.out; have hnb21 := NB172_170.out; have hnc21 := NB170_172.out; obtain ⟨hcz22_0, hcz22_1⟩ := cz2_ BK172.out; obtain ⟨hfz22_0, hfz22_1⟩ := fz2_ BK172.out; obtain ⟨hcz23_0, hcz23_1⟩ := cz2_ BK170.out; obtain ⟨hfz23_0, hfz23_1⟩ := fz2_ BK170.out) | ((with_reducible refine gate_callee (f := 71) rfl ?_); refine goesL_ (some 64) rfl rfl Try.func71 (by kernel_rfl) rfl #[.int .i64 (wrap64 ((wrap64 (((rd_T54 l0 x5_1).f1) * (wrap64 (((rd_T54 l0 (ji5)).f0) - a1)))) + (wrap64 (((rd_T54 l0 (ji5)).f1) * (wrap64 (a1 - ((rd_T54 l0 x5_1).f0))))))), .int .i64 (wrap64 (((rd_T54 l0 (ji5)).f0) - ((rd_T54 l0 x5_1).f0)))] rfl (by (try simp only [List.map_toArray, List.map_cons, List.map_nil]); first | done | (simp only [hji5]; rfl) | rfl | (simp only [List.length_drop, List.length_take]; rfl)) ?_; (with_reducible refine (impl_reduced.calls k1 (wrap64 ((wrap64 (((rd_T54 l0 x5_1).f1) * (wrap64 (((rd_T54 l0 (ji5)).f0) - a1)))) + (wrap64 (((rd_T54 l0 (ji5)).f1) * (wrap64 (a1 - ((rd_T54 l0 x5_1).f0))))))) (wrap64 (((rd_T54 l0 (ji5)).f0) - ((rd_T54 l0 x5_1).f0))) t173 t174 _ A15.out).mono ?_); rintro e w24 ⟨rfl, hb⟩; refine ⟨_, rfl, ?_⟩; replace BK167 := Aside0.mk (blk_below (g := gb167) (o := .cells #[.int .i64 0, .int .i64 0] 94 (0, 0)) (by (with_reducible repeat (first | refine blk_drewN ?_ _ | refine blk_drew ?_ | refine blk_alloc ?_ _)); exact (f2_ BK167.out NB167_172.out _ _)) hb); replace BK170 := Aside0.mk (blk_below (g := gb170) (o := .cells #[.int .i64 ((rd_T54 l0 x5_1).f0), .int .i64 ((rd_T54 l0 x5_1).f1)] 54 (0, 0)) (by (with_reducible repeat (first | refine blk_drewN ?_ _ | refine blk_drew ?_ | refine blk_alloc ?_ _)); exact (f2_ BK170.out NB170_172.out _ _)) hb); replace BK172 := Aside0.mk (blk_below (g := gb172) (o := .cells #[.int .i64 ((rd_T54 l0 (ji5)).f0), .int .i64 ((rd_T54 l0 (ji5)).f1)] 54 (0, 0)) (by (with_reducible repeat (first | refine blk_drewN ?_ _ | refine blk_drew ?_ | refine blk_alloc ?_ _)); exact (p2_ BK172.out _ _)) hb); replace HB := Aside0.mk (below_step (lb3_ HB.out GE167.out GE170.out GE172.out) hb); (try clear hb); (try clear hb2); (try clear hk); (try clear hi); obtain ⟨hcz25_0, hcz25_1⟩ := cz2_ BK167.out; obtain ⟨hfz25_0, hfz25_1⟩ := fz2_ BK167.out))
         refine bodyPost_ret (results_cell_row rfl _ _ gb167 94 #[.int .i64 t173, .int .i64 t174] (0, 0) _ rfl (by (with_reducible repeat (first | refine blk_drewN ?_ _ | refine blk_drew ?_ | refine blk_alloc ?_ _)); refine blk_put (cs := #[.int .i64 t173, .int .i64 0]) ?_ 1 _ rfl; (with_reducible repeat (first | refine blk_drewN ?_ _ | refine blk_drew ?_ | refine blk_alloc ?_ _)); refine blk_put (cs := #[.int .i64 0, .int .i64 0]) ?_ 0 _ rfl; (with_reducible repeat (first | refine blk_drewN ?_ _ | refine blk_drew ?_ | refine blk_alloc ?_ _)); exact BK167.out) Try.underlying94 rfl (by kernel_rfl)) rfl ?_; exact ⟨by first | rfl | (simp [errW_none, errW_some] <;> rfl) | (simp only [← hji5]; first | rfl | (simp [errW_none, errW_some] <;> rfl)) | (simp [*, errW_none, errW_some] <;> rfl), lb3_ HB.out GE167.out GE170.out GE172.out⟩
       ·
        rw [if_neg c9] at H
        exact absurd H (by simp)
      ·
       rw [if_neg c8] at H
       exact absurd H (by simp)
    ·
     rw [if_neg c6] at H
     exact absurd H (by simp)
   ·
    rw [if_neg c4] at H
    have c4b0 : decide ((wrap64 (x5_1 + 1)) < (l0.length : Int)) = false := decide_eq_false c4
    clear c4
    by_cases c26 : 0 ≤ x5_1
    ·
     rw [if_pos c26] at H
     have c26b0 : decide (0 ≤ x5_1) = true := decide_eq_true c26
     clear c26
     by_cases c27 : x5_1 < (l0.length : Int)
     ·
      rw [if_pos c27] at H
      have c27b0 : decide (x5_1 < (l0.length : Int)) = true := decide_eq_true c27
      clear c27
      by_cases c28 : ((rd_T54 l0 x5_1).f0) = a1
      ·
       rw [if_pos c28] at H
       have c28b0 : (((rd_T54 l0 x5_1).f0) == a1) = true := beq_iff_eq.mpr c28
       have c28b1 : (((rd_T54 l0 x5_1).f0) != a1) = false := bne_eq_false_iff_eq.mpr c28
       clear c28
       simp only [Option.some.injEq, Prod.mk.injEq] at H
       obtain ⟨rfl, rfl⟩ := H
       have p175 : 0 ≤ (x5_1 : Int) := dt_
       have q175 : x5_1 < (l0.length : Int) := dt_
       obtain ⟨ad175, e175, hx175_0, hx175_1⟩ := at_T54 HR0.out x5_1 p175 q175
       cases e175
       replace hx175_0 := bc_ HB.out hx175_0
       replace hx175_1 := bc_ HB.out hx175_1
       replace p175 := eq_true p175
       replace q175 := eq_true q175
       go_wp2_with (first | ((with_reducible refine gate_dst (N := 6) rfl ?_); refine box_event ?hg (N := 6) ?hd (cs := #[.int .i64 0, .int .i64 0]) (t := 54) ?hr ?_; (case hd => rfl); (case hg => rfl); (case hr => first | (go_simp; done) | (go_simp; rfl)); intro gb176 hg w29 hbox hb; have BK176 := Aside0.mk (hbox); have GW176 := Aside0.mk ((bz_ hg (lb1_ HB.out GE167.out))); have GE176 := Aside0.mk ((bz_ hg (lb1_ HB.out GE167.out))); replace HB := Aside0.mk (below_step (lb1_ HB.out GE167.out) hb); have NB167_176 := Aside0.mk (nl_ hg BK167.out); have NB176_167 := Aside0.mk (ng_ hg BK167.out); replace BK167 := Aside0.mk (bb_ (bk_ BK167.out) hb); clear hb hbox hg; have hnb30 := NB176_167.out; have hnc30 := NB167_176.out; obtain ⟨hcz31_0, hcz31_1⟩ := cz2_ BK176.out; obtain ⟨hfz31_0, hfz31_1⟩ := fz2_ BK176.out; obtain ⟨hcz32_0, hcz32_1⟩ := cz2_ BK167.out; obtain ⟨hfz32_0, hfz32_1⟩ := fz2_ BK167.out))
       refine bodyPost_ret (results_cell_row rfl _ _ gb167 94 #[.int .i64 ((rd_T54 l0 x5_1).f1), .int .i64 1] (0, 0) _ rfl (by (with_reducible repeat (first | refine blk_drewN ?_ _ | refine blk_drew ?_ | refine blk_alloc ?_ _)); refine blk_put (cs := #[.int .i64 ((rd_T54 l0 x5_1).f1), .int .i64 0]) ?_ 1 _ rfl; (with_reducible repeat (first | refine blk_drewN ?_ _ | refine blk_drew ?_ | refine blk_alloc ?_ _)); refine blk_put (cs := #[.int .i64 0, .int .i64 0]) ?_ 0 _ rfl; (with_reducible repeat (first | refine blk_drewN ?_ _ | refine blk_drew ?_ | refine blk_alloc ?_ _)); refine blk_far ?_ NB167_176.out _; (with_reducible repeat (first | refine blk_drewN ?_ _ | refine blk_drew ?_ | refine blk_alloc ?_ _)); refine blk_far ?_ NB167_176.out _; (with_reducible repeat (first | refine blk_drewN ?_ _ | refine blk_drew ?_ | refine blk_alloc ?_ _)); exact BK167.out) Try.underlying94 rfl (by kernel_rfl)) rfl ?_
       exact ⟨rr_, lb2_ HB.out GE167.out GE176.out⟩
      ·
       rw [if_neg c28] at H
       have c28b0 : (((rd_T54 l0 x5_1).f0) == a1) = false := beq_eq_false_iff_ne.mpr c28
       have c28b1 : (((rd_T54 l0 x5_1).f0) != a1) = true := bne_iff_ne.mpr c28
       obtain ⟨ji33, hji33⟩ : ∃ j_ : Int, (wrap64 (x5_1 + 1)) = j_ := ⟨_, rfl⟩
       replace H : (if 0 ≤ (ji33) then (none) else (none)) = some (r1, r2) := by first | (rw [hji33] at H; exact H) | (simp only [hji33] at H ⊢; exact H)
       (try rw [hji33] at c4b0)
       have hji33w : (IntKind.i64.wrap (x5_1 + 1)) = ji33 := (i64_w _).trans hji33
       by_cases c34 : 0 ≤ (ji33)
       ·
        rw [if_pos c34] at H
        exact absurd H (by simp)
       ·
        rw [if_neg c34] at H
        exact absurd H (by simp)
     ·
      rw [if_neg c27] at H
      exact absurd H (by simp)
    ·
     rw [if_neg c26] at H
     exact absurd H (by simp)
def impl_Sump_open.f (k : Nat) (a0_0 : Int) (a0_1 : Int) (a0_2 : Int) (l1 : List (S54)) (a2 : Int) : Option (Bool) := (impl_levelIn.f k l1 a2).bind fun bt178 => (some (decide (bt178.1 ≤ (wrap64 (a0_2 * bt178.2)))))
set_option maxHeartbeats 8000000 in
set_option maxRecDepth 100000 in
theorem impl_Sump_open.calls (k : Nat) (a0_0 : Int) (a0_1 : Int) (a0_2 : Int) (A1 : Option Addr) (c1 : Nat) (l1 : List (S54)) (a2 : Int) (r : Bool) (w : World) (hr1 : Kd.C k54 w A1 l1.length l1) (hc1 : l1.length ≤ c1) (h : impl_Sump_open.f k a0_0 a0_1 a0_2 l1 a2 = some r) :
  Calls Try.prog 60 #[.agg #[.int .i64 a0_0, .int .i64 a0_1, .int .i64 a0_2], .slice A1 l1.length c1, .int .i64 a2] w fun e w' => e = .returned (.bool r) ∧ Below w.heap.size w w' := by
 have hu30 := Try.underlying30
 have hu94 := Try.underlying94
 have HR1 := Aside0.mk hr1
 have HC1 := Aside0.mk hc1
 clear hr1 hc1
 have HB := Aside0.mk (Below.refl w.heap.size w)
 have H : ((impl_levelIn.f k l1 a2).bind fun bt178 => (some (decide (bt178.1 ≤ (wrap64 (a0_2 * bt178.2)))))) = some r := h
 clear h
 replace H := Option.bind_eq_some_iff.mp H
 obtain ⟨⟨t178, t179⟩, A40, H⟩ := H
 replace H : (some (decide (t178 ≤ (wrap64 (a0_2 * t179))))) = some r := H
 have A4 := Aside0.mk A40
 clear A40
 obtain rfl := Option.some.inj H
 go_enter Try.func60, Try.ntmps60
 go_wp2_with (first | ((with_reducible refine gate_dst (N := 3) rfl ?_); refine box_event ?hg (N := 3) ?hd (cs := #[.int .i64 a0_0, .int .i64 a0_1, .int .i64 a0_2]) (t := 30) ?hr ?_; (case hd => rfl); (case hg => rfl); (case hr => first | (go_simp; done) | (go_simp; rfl)); intro gb177 hg w5 hbox hb; have BK177 := Aside0.mk (hbox); have GW177 := Aside0.mk ((bz_ hg (lb0_ HB.out))); have GE177 := Aside0.mk ((bz_ hg (lb0_ HB.out))); replace HB := Aside0.mk (below_step (lb0_ HB.out) hb); clear hb hbox hg) | ((with_reducible refine gate_callee (f := 69) rfl ?_); refine ga_ (some 10) Try.func69 #[.slice A1 l1.length c1, .int .i64 a2] ?_; (with_reducible refine (impl_levelIn.calls k _ _ l1 a2 t178 t179 _ ?side1 ?side2 A4.out).mono ?_); (case side1 => exact kc_ (Kd.C_below HR1.out HB.out)); (case side2 => exact HC1.out); rintro e w6 ⟨rfl, hb⟩; refine ⟨_, rfl, ?_⟩; replace BK177 := Aside0.mk (bb_ (bk_ BK177.out) hb); replace HB := Aside0.mk (below_step (lb1_ HB.out GE177.out) hb); (try clear hb); (try clear hb2); (try clear hk); (try clear hi)) | ((with_reducible refine gate_dst (N := 7) rfl ?_); refine box_event ?hg (N := 7) ?hd (cs := #[.int .i64 0, .int .i64 0]) (t := 94) ?hr ?_; (case hd => rfl); (case hg => rfl); (case hr => first | (go_simp; done) | (go_simp; rfl)); intro gb180 hg w7 hbox hb; have BK180 := Aside0.mk (hbox); have GW180 := Aside0.mk ((bz_ hg (lb1_ HB.out GE177.out))); have GE180 := Aside0.mk ((bz_ hg (lb1_ HB.out GE177.out))); replace HB := Aside0.mk (below_step (lb1_ HB.out GE177.out) hb); have NB177_180 := Aside0.mk (nl_ hg BK177.out); have NB180_177 := Aside0.mk (ng_ hg BK177.out); replace BK177 := Aside0.mk (bb_ (bk_ BK177.out) hb); clear hb hbox hg; have hnb8 := NB180_177.out; have hnc8 := NB177_180.out; obtain ⟨hcz9_0, hcz9_1⟩ := cz2_ BK180.out; obtain ⟨hfz9_0, hfz9_1⟩ := fz2_ BK180.out; obtain ⟨hcz10_0, hcz10_1, hcz10_2⟩ := cz3_ BK177.out; obtain ⟨hfz10_0, hfz10_1, hfz10_2⟩ := fz3_ BK177.out))
 go_ret
 exact ⟨rr_, lb2_ HB.out GE177.out GE180.out⟩
def impl_isStation.f (a0 : Int) : Option (Bool) := (impl_within.f a0 0 7).bind fun t160 => (some t160)
set_option maxHeartbeats 8000000 in
set_option maxRecDepth 100000 in
theorem impl_isStation.calls (a0 : Int) (r : Bool) (w : World) (h : impl_isStation.f a0 = some r) :
  Calls Try.prog 90 #[.int .i64 a0] w fun e w' => e = .returned (.bool r) ∧ Drawn0 w w' := by
 have H : ((impl_within.f a0 0 7).bind fun t160 => (some t160)) = some r := h
 clear h
 replace H := Option.bind_eq_some_iff.mp H
 obtain ⟨t160, A20, H⟩ := H
 replace H : (some t160) = some r := H
 have A2 := Aside0.mk A20
 clear A20
 obtain rfl := Option.some.inj H
 go_enter Try.func90, Try.ntmps90
 go_wp2_with (first | ((with_reducible refine gate_callee (f := 74) rfl ?_); refine ga_ (some 4) Try.func74 #[.int .i64 a0, .int .i64 0, .int .i64 7] ?_; (with_reducible refine (impl_within.calls a0 0 7 t160 _ A2.out).mono ?_); rintro e w' ⟨rfl, ⟨nd, rfl⟩⟩; refine ⟨_, rfl, ?_⟩))
 go_ret
 exact ⟨by first | rfl | (simp; done) | (simp [*]; done), by repeat (first | exact Drawn0.refl _ | apply Drawn0.step)⟩
def impl_isSump.f (a0_0 : Int) (a0_1 : Int) (a0_2 : Int) : Option (Bool) := (impl_isStation.f a0_0).bind fun t162 => (if t162 = true then ((impl_isLevel.f a0_1).bind fun t163 => (if t163 = true then ((impl_isLevel.f a0_2).bind fun t164 => (if t164 = true then (some (decide (a0_2 ≤ a0_1))) else (some false))) else (some false))) else (some false))
set_option maxHeartbeats 8000000 in
set_option maxRecDepth 100000 in
theorem impl_isSump.calls (a0_0 : Int) (a0_1 : Int) (a0_2 : Int) (r : Bool) (w : World) (h : impl_isSump.f a0_0 a0_1 a0_2 = some r) :
  Calls Try.prog 59 #[.agg #[.int .i64 a0_0, .int .i64 a0_1, .int .i64 a0_2]] w fun e w' => e = .returned (.bool r) ∧ Below w.heap.size w w' := by
 have hu30 := Try.underlying30
 have HB := Aside0.mk (Below.refl w.heap.size w)
 have H : ((impl_isStation.f a0_0).bind fun t162 => (if t162 = true then ((impl_isLevel.f a0_1).bind fun t163 => (if t163 = true then ((impl_isLevel.f a0_2).bind fun t164 => (if t164 = true then (some (decide (a0_2 ≤ a0_1))) else (some false))) else (some false))) else (some false))) = some r := h
 clear h
 replace H := Option.bind_eq_some_iff.mp H
 obtain ⟨t162, A20, H⟩ := H
 replace H : (if t162 = true then ((impl_isLevel.f a0_1).bind fun t163 => (if t163 = true then ((impl_isLevel.f a0_2).bind fun t164 => (if t164 = true then (some (decide (a0_2 ≤ a0_1))) else (some false))) else (some false))) else (some false)) = some r := H
 have A2 := Aside0.mk A20
 clear A20
 by_cases c3 : t162 = true
 ·
  subst c3
  have H1 : ((impl_isLevel.f a0_1).bind fun t163 => (if t163 = true then ((impl_isLevel.f a0_2).bind fun t164 => (if t164 = true then (some (decide (a0_2 ≤ a0_1))) else (some false))) else (some false))) = some r := by rw [if_pos rfl] at H; exact H
  clear H
  have H := H1
  clear H1
  replace H := Option.bind_eq_some_iff.mp H
  obtain ⟨t163, A40, H⟩ := H
  replace H : (if t163 = true then ((impl_isLevel.f a0_2).bind fun t164 => (if t164 = true then (some (decide (a0_2 ≤ a0_1))) else (some false))) else (some false)) = some r := H
  have A4 := Aside0.mk A40
  clear A40
  by_cases c5 : t163 = true
  ·
   subst c5
   have H1 : ((impl_isLevel.f a0_2).bind fun t164 => (if t164 = true then (some (decide (a0_2 ≤ a0_1))) else (some false))) = some r := by rw [if_pos rfl] at H; exact H
   clear H
   have H := H1
   clear H1
   replace H := Option.bind_eq_some_iff.mp H
   obtain ⟨t164, A60, H⟩ := H
   replace H : (if t164 = true then (some (decide (a0_2 ≤ a0_1))) else (some false)) = some r := H
   have A6 := Aside0.mk A60
   clear A60
   by_cases c7 : t164 = true
   ·
    subst c7
    have H1 : (some (decide (a0_2 ≤ a0_1))) = some r := by rw [if_pos rfl] at H; exact H
    clear H
    have H := H1
    clear H1
    obtain rfl := Option.some.inj H
    go_enter Try.func59, Try.ntmps59
    go_wp2_with (first | ((with_reducible refine gate_dst (N := 1) rfl ?_); refine box_event ?hg (N := 1) ?hd (cs := #[.int .i64 a0_0, .int .i64 a0_1, .int .i64 a0_2]) (t := 30) ?hr ?_; (case hd => rfl); (case hg => rfl); (case hr => first | (go_simp; done) | (go_simp; rfl)); intro gb161 hg w8 hbox hb; have BK161 := Aside0.mk (hbox); have GW161 := Aside0.mk ((bz_ hg (lb0_ HB.out))); have GE161 := Aside0.mk ((bz_ hg (lb0_ HB.out))); replace HB := Aside0.mk (below_step (lb0_ HB.out) hb); clear hb hbox hg; obtain ⟨hcz9_0, hcz9_1, hcz9_2⟩ := cz3_ BK161.out; obtain ⟨hfz9_0, hfz9_1, hfz9_2⟩ := fz3_ BK161.out) | ((with_reducible refine gate_callee (f := 90) rfl ?_); refine ga_ (some 5) Try.func90 #[.int .i64 a0_0] ?_; (with_reducible refine (impl_isStation.calls a0_0 true _ A2.out).mono ?_); rintro e w' ⟨rfl, ⟨nd, rfl⟩⟩; refine ⟨_, rfl, ?_⟩) | (go_at_call 75; (with_reducible refine (impl_isLevel.calls a0_1 true _ A4.out).mono ?_); rintro e w' ⟨rfl, ⟨nd, rfl⟩⟩) | (go_at_call 75; (with_reducible refine (impl_isLevel.calls a0_2 true _ A6.out).mono ?_); rintro e w' ⟨rfl, ⟨nd, rfl⟩⟩))
    go_ret
    exact ⟨rr_, lb1_ HB.out GE161.out⟩
   ·
    replace c7 := Bool.eq_false_iff.mpr c7
    subst c7
    have H1 : (some false) = some r := by rw [if_neg (show ¬ (false = true) by decide)] at H; exact H
    clear H
    have H := H1
    clear H1
    obtain rfl := Option.some.inj H
    go_enter Try.func59, Try.ntmps59
    go_wp2_with (first | ((with_reducible refine gate_dst (N := 1) rfl ?_); refine box_event ?hg (N := 1) ?hd (cs := #[.int .i64 a0_0, .int .i64 a0_1, .int .i64 a0_2]) (t := 30) ?hr ?_; (case hd => rfl); (case hg => rfl); (case hr => first | (go_simp; done) | (go_simp; rfl)); intro gb161 hg w10 hbox hb; have BK161 := Aside0.mk (hbox); have GW161 := Aside0.mk ((bz_ hg (lb0_ HB.out))); have GE161 := Aside0.mk ((bz_ hg (lb0_ HB.out))); replace HB := Aside0.mk (below_step (lb0_ HB.out) hb); clear hb hbox hg; obtain ⟨hcz11_0, hcz11_1, hcz11_2⟩ := cz3_ BK161.out; obtain ⟨hfz11_0, hfz11_1, hfz11_2⟩ := fz3_ BK161.out) | ((with_reducible refine gate_callee (f := 90) rfl ?_); refine ga_ (some 5) Try.func90 #[.int .i64 a0_0] ?_; (with_reducible refine (impl_isStation.calls a0_0 true _ A2.out).mono ?_); rintro e w' ⟨rfl, ⟨nd, rfl⟩⟩; refine ⟨_, rfl, ?_⟩) | (go_at_call 75; (with_reducible refine (impl_isLevel.calls a0_1 true _ A4.out).mono ?_); rintro e w' ⟨rfl, ⟨nd, rfl⟩⟩) | (go_at_call 75; (with_reducible refine (impl_isLevel.calls a0_2 false _ A6.out).mono ?_); rintro e w' ⟨rfl, ⟨nd, rfl⟩⟩))
    go_ret
    exact ⟨rr_, lb1_ HB.out GE161.out⟩
  ·
   replace c5 := Bool.eq_false_iff.mpr c5
   subst c5
   have H1 : (some false) = some r := by rw [if_neg (show ¬ (false = true) by decide)] at H; exact H
   clear H
   have H := H1
   clear H1
   obtain rfl := Option.some.inj H
   go_enter Try.func59, Try.ntmps59
   go_wp2_with (first | ((with_reducible refine gate_dst (N := 1) rfl ?_); refine box_event ?hg (N := 1) ?hd (cs := #[.int .i64 a0_0, .int .i64 a0_1, .int .i64 a0_2]) (t := 30) ?hr ?_; (case hd => rfl); (case hg => rfl); (case hr => first | (go_simp; done) | (go_simp; rfl)); intro gb161 hg w12 hbox hb; have BK161 := Aside0.mk (hbox); have GW161 := Aside0.mk ((bz_ hg (lb0_ HB.out))); have GE161 := Aside0.mk ((bz_ hg (lb0_ HB.out))); replace HB := Aside0.mk (below_step (lb0_ HB.out) hb); clear hb hbox hg; obtain ⟨hcz13_0, hcz13_1, hcz13_2⟩ := cz3_ BK161.out; obtain ⟨hfz13_0, hfz13_1, hfz13_2⟩ := fz3_ BK161.out) | ((with_reducible refine gate_callee (f := 90) rfl ?_); refine ga_ (some 5) Try.func90 #[.int .i64 a0_0] ?_; (with_reducible refine (impl_isStation.calls a0_0 true _ A2.out).mono ?_); rintro e w' ⟨rfl, ⟨nd, rfl⟩⟩; refine ⟨_, rfl, ?_⟩) | (go_at_call 75; (with_reducible refine (impl_isLevel.calls a0_1 false _ A4.out).mono ?_); rintro e w' ⟨rfl, ⟨nd, rfl⟩⟩))
   go_ret
   exact ⟨rr_, lb1_ HB.out GE161.out⟩
 ·
  replace c3 := Bool.eq_false_iff.mpr c3
  subst c3
  have H1 : (some false) = some r := by rw [if_neg (show ¬ (false = true) by decide)] at H; exact H
  clear H
  have H := H1
  clear H1
  obtain rfl := Option.some.inj H
  go_enter Try.func59, Try.ntmps59
  go_wp2_with (first | ((with_reducible refine gate_dst (N := 1) rfl ?_); refine box_event ?hg (N := 1) ?hd (cs := #[.int .i64 a0_0, .int .i64 a0_1, .int .i64 a0_2]) (t := 30) ?hr ?_; (case hd => rfl); (case hg => rfl); (case hr => first | (go_simp; done) | (go_simp; rfl)); intro gb161 hg w14 hbox hb; have BK161 := Aside0.mk (hbox); have GW161 := Aside0.mk ((bz_ hg (lb0_ HB.out))); have GE161 := Aside0.mk ((bz_ hg (lb0_ HB.out))); replace HB := Aside0.mk (below_step (lb0_ HB.out) hb); clear hb hbox hg; obtain ⟨hcz15_0, hcz15_1, hcz15_2⟩ := cz3_ BK161.out; obtain ⟨hfz15_0, hfz15_1, hfz15_2⟩ := fz3_ BK161.out) | ((with_reducible refine gate_callee (f := 90) rfl ?_); refine ga_ (some 5) Try.func90 #[.int .i64 a0_0] ?_; (with_reducible refine (impl_isStation.calls a0_0 false _ A2.out).mono ?_); rintro e w' ⟨rfl, ⟨nd, rfl⟩⟩; refine ⟨_, rfl, ?_⟩))
  go_ret
  exact ⟨rr_, lb1_ HB.out GE161.out⟩
def impl_AreSumps.l0 : Nat → List (S30) → List (S30) → Int → Int → Option (Bool)
 | 0, _, _, _, _ => none
 | k + 1, x0, x5, x6, x7 => if x7 < x6 then (if 0 ≤ x7 then (if x7 < (x5.length : Int) then ((impl_isSump.f ((rd_T30 x5 x7).f0) ((rd_T30 x5 x7).f1) ((rd_T30 x5 x7).f2)).bind fun t237 => (if t237 = true then (if x7 > 0 then (if 0 ≤ (wrap64 (x7 - 1)) then (if (wrap64 (x7 - 1)) < (x0.length : Int) then (if ((rd_T30 x0 (wrap64 (x7 - 1))).f0) ≥ ((rd_T30 x5 x7).f0) then (some false) else (impl_AreSumps.l0 k x0 x5 x6 (wrap64 (x7 + 1)))) else (none)) else (none)) else (impl_AreSumps.l0 k x0 x5 x6 (wrap64 (x7 + 1)))) else (some false))) else (none)) else (none)) else (some true)
def impl_AreSumps.f (k : Nat) (l0 : List (S30)) : Option (Bool) := impl_AreSumps.l0 k l0 l0 (l0.length : Int) 0
def impl_AreSumps.T4 : Bool × List (List Nat × List Nat) := (true, [([], []), ([0], [0]), ([1], [1]), ([2, 1], [2]), ([3], [3]), ([4, 3], [3, 4]), ([5, 3, 3], [3, 5]), ([6], [6]), ([6], [6]), ([8, 6], [6, 8]), ([7, 9, 6], [6, 7, 9]), ([10, 6], [6, 10]), ([11, 6], [6, 11]), ([6], [6]), ([13, 6], [6, 13]), ([12, 14, 6], [6, 12, 14]), ([6, 15, 3], [3, 6, 15]), ([3, 16], [3, 16])])
def impl_AreSumps.B4 : List Nat := [0, 1, 3, 7, 15, 31, 63, 127, 127, 383, 1023, 2047, 4095, 127, 8319, 32767, 65535, 131071]
theorem impl_AreSumps.tab4 : rtab .any (opsOf Try.f50 4) = impl_AreSumps.T4 := by kernel_rfl
theorem impl_AreSumps.bits4 : waitsOk impl_AreSumps.T4.2 impl_AreSumps.B4 = true := by kernel_rfl
abbrev impl_AreSumps.mk0 : Array Bool := #[fF,fF,fF,fF,fF,fF,fF,fF,fF,fF,fF,fF,fF,fF,fF,fF,fF,fF]
abbrev impl_AreSumps.mk1 : Array Bool := #[tT,fF,fF,fF,fF,fF,fF,fF,fF,fF,fF,fF,fF,fF,fF,fF,fF,fF]
abbrev impl_AreSumps.mk2 : Array Bool := #[tT,tT,fF,fF,fF,fF,fF,fF,fF,fF,fF,fF,fF,fF,fF,fF,fF,fF]
abbrev impl_AreSumps.mk3 : Array Bool := #[tT,tT,tT,fF,fF,fF,fF,fF,fF,fF,fF,fF,fF,fF,fF,fF,fF,fF]
abbrev impl_AreSumps.mk4 : Array Bool := #[tT,tT,tT,tT,fF,fF,fF,fF,fF,fF,fF,fF,fF,fF,fF,fF,fF,fF]
abbrev impl_AreSumps.mk5 : Array Bool := #[tT,tT,tT,tT,tT,fF,fF,fF,fF,fF,fF,fF,fF,fF,fF,fF,fF,fF]
abbrev impl_AreSumps.mk6 : Array Bool := #[tT,tT,tT,tT,tT,tT,fF,fF,fF,fF,fF,fF,fF,fF,fF,fF,fF,fF]
abbrev impl_AreSumps.mk7 : Array Bool := #[tT,tT,tT,tT,tT,tT,tT,fF,fF,fF,fF,fF,fF,fF,fF,fF,fF,fF]
abbrev impl_AreSumps.mk8 : Array Bool := #[tT,tT,tT,tT,tT,tT,tT,tT,fF,fF,fF,fF,fF,fF,fF,fF,fF,fF]
abbrev impl_AreSumps.mk9 : Array Bool := #[tT,tT,tT,tT,tT,tT,tT,tT,tT,fF,fF,fF,fF,fF,fF,fF,fF,fF]
abbrev impl_AreSumps.mk10 : Array Bool := #[tT,tT,tT,tT,tT,tT,tT,tT,tT,tT,fF,fF,fF,fF,fF,fF,fF,fF]
abbrev impl_AreSumps.mk11 : Array Bool := #[tT,tT,tT,tT,tT,tT,tT,tT,tT,tT,tT,fF,fF,fF,fF,fF,fF,fF]
abbrev impl_AreSumps.mk12 : Array Bool := #[tT,tT,tT,tT,tT,tT,tT,tT,tT,tT,tT,tT,fF,fF,fF,fF,fF,fF]
abbrev impl_AreSumps.mk13 : Array Bool := #[tT,tT,tT,tT,tT,tT,tT,tT,tT,tT,tT,tT,fF,tT,fF,fF,fF,fF]
abbrev impl_AreSumps.mk14 : Array Bool := #[tT,tT,tT,tT,tT,tT,tT,tT,tT,tT,tT,tT,tT,tT,fF,fF,fF,fF]
abbrev impl_AreSumps.mk15 : Array Bool := #[tT,tT,tT,tT,tT,tT,tT,tT,tT,tT,tT,tT,tT,tT,tT,fF,fF,fF]
abbrev impl_AreSumps.mk16 : Array Bool := #[tT,tT,tT,tT,tT,tT,tT,tT,tT,tT,tT,tT,tT,tT,tT,tT,fF,fF]
abbrev impl_AreSumps.mk17 : Array Bool := #[tT,tT,tT,tT,tT,tT,tT,tT,tT,tT,tT,tT,tT,tT,tT,tT,tT,fF]
abbrev impl_AreSumps.mk18 : Array Bool := #[tT,tT,tT,tT,tT,tT,tT,tT,tT,tT,tT,tT,tT,tT,tT,tT,tT,tT]
abbrev impl_AreSumps.mk19 : Array Bool := #[tT,tT,tT,tT,tT,tT,tT,tT,tT,tT,tT,tT,tT,fF,fF,fF,fF,fF]
set_option maxHeartbeats 8000000 in
set_option maxRecDepth 100000 in
theorem impl_AreSumps.calls (k : Nat) (A0 : Option Addr) (c0 : Nat) (l0 : List (S30)) (r : Bool) (w : World) (hr0 : Kd.C k30 w A0 l0.length l0) (hc0 : l0.length ≤ c0) (h : impl_AreSumps.f k l0 = some r) :
  Calls Try.prog 50 #[.slice A0 l0.length c0] w fun e w' => e = .returned (.bool r) ∧ Below w.heap.size w w' := by
 have hu30 := Try.underlying30
 have HR0 := Aside0.mk hr0
 have HC0 := Aside0.mk hc0
 clear hr0 hc0
 have HB := Aside0.mk (Below.refl w.heap.size w)
 have H : (impl_AreSumps.l0 k l0 l0 (l0.length : Int) 0) = some r := h
 clear h
 have H' := Aside0.mk H
 clear H
 go_enter Try.func50, Try.ntmps50
 go_wp2
 go_loopg [7] k (fun kq v7 w' => ∃ (x7_1 : Int), v7 = .int .i64 x7_1 ∧ Aside0 (impl_AreSumps.l0 kq l0 l0 (l0.length : Int) x7_1 = some r) ∧ Aside0 (kq ≤ k) ∧ Aside0 (Below w.heap.size w w'))
 case atStart => exact ⟨(0), (by first | rfl | (simp; done) | (simp [*]; done)), H', ⟨Nat.le_refl _⟩, ⟨lb0_ HB.out⟩⟩
 case round =>
  clear H'
  obtain ⟨x7_1, rfl, HA, HK1, HB⟩ := hrel
  cases gk with
  | zero => exact absurd HA.out (by simp [impl_AreSumps.l0])
  | succ k1 =>
   have H := HA.out
   clear HA
   simp only [impl_AreSumps.l0] at H
   by_cases c2 : x7_1 < (l0.length : Int)
   ·
    rw [if_pos c2] at H
    have c2b0 : decide (x7_1 < (l0.length : Int)) = true := decide_eq_true c2
    clear c2
    by_cases c3 : 0 ≤ x7_1
    ·
     rw [if_pos c3] at H
     have c3b0 : decide (0 ≤ x7_1) = true := decide_eq_true c3
     clear c3
     by_cases c4 : x7_1 < (l0.length : Int)
     ·
      rw [if_pos c4] at H
      have c4b0 : decide (x7_1 < (l0.length : Int)) = true := decide_eq_true c4
      clear c4
      replace H := Option.bind_eq_some_iff.mp H
      obtain ⟨t237, A50, H⟩ := H
      replace H : (if t237 = true then (if x7_1 > 0 then (if 0 ≤ (wrap64 (x7_1 - 1)) then (if (wrap64 (x7_1 - 1)) < (l0.length : Int) then (if ((rd_T30 l0 (wrap64 (x7_1 - 1))).f0) ≥ ((rd_T30 l0 x7_1).f0) then (some false) else (impl_AreSumps.l0 k1 l0 l0 (l0.length : Int) (wrap64 (x7_1 + 1)))) else (none)) else (none)) else (impl_AreSumps.l0 k1 l0 l0 (l0.length : Int) (wrap64 (x7_1 + 1)))) else (some false)) = some r := H
      have A5 := Aside0.mk A50
      clear A50
      by_cases c6 : t237 = true
      ·
       subst c6
       have H1 : (if x7_1 > 0 then (if 0 ≤ (wrap64 (x7_1 - 1)) then (if (wrap64 (x7_1 - 1)) < (l0.length : Int) then (if ((rd_T30 l0 (wrap64 (x7_1 - 1))).f0) ≥ ((rd_T30 l0 x7_1).f0) then (some false) else (impl_AreSumps.l0 k1 l0 l0 (l0.length : Int) (wrap64 (x7_1 + 1)))) else (none)) else (none)) else (impl_AreSumps.l0 k1 l0 l0 (l0.length : Int) (wrap64 (x7_1 + 1)))) = some r := by rw [if_pos rfl] at H; exact H
       clear H
       have H := H1
       clear H1
       by_cases c7 : x7_1 > 0
       ·
        rw [if_pos c7] at H
        have c7b0 : decide (0 < x7_1) = true := decide_eq_true c7; clear c7
        obtain ⟨ji8, hji8⟩ : ∃ j_ : Int, (wrap64 (x7_1 - 1)) = j_ := ⟨_, rfl⟩
        replace H : (if 0 ≤ (ji8) then (if (ji8) < (l0.length : Int) then (if ((rd_T30 l0 (ji8)).f0) ≥ ((rd_T30 l0 x7_1).f0) then (some false) else (impl_AreSumps.l0 k1 l0 l0 (l0.length : Int) (wrap64 (x7_1 + 1)))) else (none)) else (none)) = some r := by first | (rw [hji8] at H; exact H) | (simp only [hji8] at H ⊢; exact H)
        (try rw [hji8] at A5); have hji8w : (IntKind.i64.wrap (x7_1 - 1)) = ji8 := (i64_w _).trans hji8
        by_cases c9 : 0 ≤ (ji8)
        ·
         rw [if_pos c9] at H
         have c9b0 : decide (0 ≤ (ji8)) = true := decide_eq_true c9; clear c9
         by_cases c10 : (ji8) < (l0.length : Int)
         ·
          rw [if_pos c10] at H
          have c10b0 : decide ((ji8) < (l0.length : Int)) = true := decide_eq_true c10; clear c10
          by_cases c11 : ((rd_T30 l0 (ji8)).f0) ≥ ((rd_T30 l0 x7_1).f0)
          ·
           rw [if_pos c11] at H
           have c11b0 : decide (((rd_T30 l0 x7_1).f0) ≤ ((rd_T30 l0 (ji8)).f0)) = true := decide_eq_true c11; clear c11; obtain rfl := Option.some.inj H; have p235 : 0 ≤ (x7_1 : Int) := dt_; have q235 : x7_1 < (l0.length : Int) := dt_; obtain ⟨ad235, e235, hx235_0, hx235_1, hx235_2⟩ := at_T30 HR0.out x7_1 p235 q235
           cases e235
           replace hx235_0 := bc_ HB.out hx235_0; replace hx235_1 := bc_ HB.out hx235_1; replace hx235_2 := bc_ HB.out hx235_2; replace p235 := eq_true p235; replace q235 := eq_true q235
           try go_wp2_with (first | ((with_reducible refine gate_dst (N := 4) rfl ?_); refine box_event ?hg (N := 4) ?hd (cs := #[.int .i64 0, .int .i64 0, .int .i64 0]) (t := 30) ?hr ?_; (case hd => rfl); (case hg => rfl); (case hr => first | (go_simp; done) | (go_simp; rfl)); intro gb236 hg w12 hbox hb; have BK236 := Aside0.mk (hbox); have GW236 := Aside0.mk ((bz_ hg (lb0_ HB.out))); have GE236 := Aside0.mk ((bz_ hg (lb0_ HB.out))); replace HB := Aside0.mk (below_step (lb0_ HB.out) hb); clear hb hbox hg; obtain ⟨hcz13_0, hcz13_1, hcz13_2⟩ := cz3_ BK236.out; obtain ⟨hfz13_0, hfz13_1, hfz13_2⟩ := fz3_ BK236.out))
           have n0_ : Aside0 ((((w12.setCell ⟨gb236, 0, none⟩ (.int .i64 ((rd_T30 l0 x7_1).f0))).setCell ⟨gb236, 1, none⟩ (.int .i64 ((rd_T30 l0 x7_1).f1))).setCell ⟨gb236, 2, none⟩ (.int .i64 ((rd_T30 l0 x7_1).f2))).heap[gb236]? = some (.cells #[.int .i64 ((rd_T30 l0 x7_1).f0), .int .i64 ((rd_T30 l0 x7_1).f1), .int .i64 ((rd_T30 l0 x7_1).f2)] 30 (0, 0))) := ⟨by exact (p3_ BK236.out _ _ _)⟩
           have n1_ : Aside0 (Below w.heap.size w (((w12.setCell ⟨gb236, 0, none⟩ (.int .i64 ((rd_T30 l0 x7_1).f0))).setCell ⟨gb236, 1, none⟩ (.int .i64 ((rd_T30 l0 x7_1).f1))).setCell ⟨gb236, 2, none⟩ (.int .i64 ((rd_T30 l0 x7_1).f2)))) := ⟨lb1_ HB.out GE236.out⟩
           (try clear BK236); (try clear HB); generalize (((w12.setCell ⟨gb236, 0, none⟩ (.int .i64 ((rd_T30 l0 x7_1).f0))).setCell ⟨gb236, 1, none⟩ (.int .i64 ((rd_T30 l0 x7_1).f1))).setCell ⟨gb236, 2, none⟩ (.int .i64 ((rd_T30 l0 x7_1).f2))) = w14 at n0_ n1_ ⊢; have BK236 := n0_; have HB := n1_; clear n0_ n1_; replace BK236 := Aside0.mk (blk_drew BK236.out); replace HB := Aside0.mk (below_drew1 HB.out); have p238 : 0 ≤ ((ji8) : Int) := dt_; have q238 : (ji8) < (l0.length : Int) := dt_; obtain ⟨ad238, e238, hx238_0, hx238_1, hx238_2⟩ := at_T30 HR0.out (ji8) p238 q238; have hw238_2 := hx238_2; have hw238_1 := hx238_1; have hw238_0 := hx238_0
           obtain rfl : ad235 = ad238 := (by injection e238)
           replace hx238_0 := bc_ HB.out hx238_0; replace hx238_1 := bc_ HB.out hx238_1; replace hx238_2 := bc_ HB.out hx238_2; replace p238 := eq_true p238; replace q238 := eq_true q238; refine start_ (n := 18) (S := fun w' => w'.cell? ⟨gb236, 0, none⟩ = some (.int .i64 ((rd_T30 l0 x7_1).f0)) ∧ w'.cell? ⟨gb236, 1, none⟩ = some (.int .i64 ((rd_T30 l0 x7_1).f1)) ∧ w'.cell? ⟨gb236, 2, none⟩ = some (.int .i64 ((rd_T30 l0 x7_1).f2)) ∧ w'.cell? (ad235.add (((ji8)).toNat * 3)) = some (.int .i64 ((rd_T30 l0 (ji8)).f0)) ∧ w'.cell? ⟨(ad235.add (((ji8)).toNat * 3)).block, (ad235.add (((ji8)).toNat * 3)).off + 1, none⟩ = some (.int .i64 ((rd_T30 l0 (ji8)).f1)) ∧ w'.cell? ⟨(ad235.add (((ji8)).toNat * 3)).block, (ad235.add (((ji8)).toNat * 3)).off + 2, none⟩ = some (.int .i64 ((rd_T30 l0 (ji8)).f2))) (ds := []) impl_AreSumps.mk0 (by kernel_rfl) rfl rfl ⟨(blk_cell BK236.out 0).trans rfl, (blk_cell BK236.out 1).trans rfl, (blk_cell BK236.out 2).trans rfl, (bc_ HB.out hw238_0), (bc_ HB.out hw238_1), (bc_ HB.out hw238_2)⟩ (fun hHeld => ?_); refine with_tabW impl_AreSumps.tab4 impl_AreSumps.bits4 (fun HT_ HW_ => ?_); generalize w14.drew = w15 at BK236 HB hx238_0 hx238_1 hx238_2 hHeld ⊢; refine tk_ HT_ HW_ hHeld 0 (some 12) impl_AreSumps.mk1 ?_; refine one_ (i := 1) (N := some 13) impl_AreSumps.mk2 rfl rfl (one_of HT_.out (by kernel_rfl)) (by decide) (fun K hK => ?_); refine gs_ Try.func59 #[.agg #[.int .i64 ((rd_T30 l0 x7_1).f0), .int .i64 ((rd_T30 l0 x7_1).f1), .int .i64 ((rd_T30 l0 x7_1).f2)]] ?_; (with_reducible refine (impl_isSump.calls ((rd_T30 l0 x7_1).f0) ((rd_T30 l0 x7_1).f1) ((rd_T30 l0 x7_1).f2) true _ A5.out).mono ?_); rintro e w16 ⟨rfl, hb⟩; refine ⟨_, rfl, ?_⟩; replace BK236 := Aside0.mk (bb_ (bk_ BK236.out) hb); replace HB := Aside0.mk (below_step (lb1_ HB.out GE236.out) hb); (try clear hb); (try clear hb2); (try clear hk); (try clear hi); refine hK.out _ _ ⟨(blk_cell BK236.out 0).trans rfl, (blk_cell BK236.out 1).trans rfl, (blk_cell BK236.out 2).trans rfl, ((HB.out.cell (World.block_lt_of_cell? w _ hw238_0)).trans hw238_0), ((HB.out.cell (World.block_lt_of_cell? w _ hw238_1)).trans hw238_1), ((HB.out.cell (World.block_lt_of_cell? w _ hw238_2)).trans hw238_2)⟩ (fun hHeld => ?_); clear hK K; refine na_ ?_; refine pz_ HT_ 2 (some 14) impl_AreSumps.mk3 ?_; refine pz_ HT_ 3 (some 15) impl_AreSumps.mk4 ?_; refine pz_ HT_ 4 (some 16) impl_AreSumps.mk5 ?_; refine pz_ HT_ 5 (some 17) impl_AreSumps.mk6 ?_; refine pz_ HT_ 6 (some 18) impl_AreSumps.mk7 ?_; refine pz_ HT_ 7 (some 19) impl_AreSumps.mk8 ?_; refine pz_ HT_ 8 (some 20) impl_AreSumps.mk9 ?_; refine pz_ HT_ 9 (some 21) impl_AreSumps.mk10 ?_; refine pz_ HT_ 10 (some 22) impl_AreSumps.mk11 ?_; refine pz_ HT_ 11 (some 23) impl_AreSumps.mk12 ?_; refine pz_ HT_ 13 (some 25) impl_AreSumps.mk13 ?_; refine tk_ HT_ HW_ hHeld 12 (some 24) impl_AreSumps.mk14 ?_; refine tk_ HT_ HW_ hHeld 14 (some 26) impl_AreSumps.mk15 ?_; refine pz_ HT_ 15 (some 27) impl_AreSumps.mk16 ?_; refine pz_ HT_ 16 (some 28) impl_AreSumps.mk17 ?_; refine pz_ HT_ 17 (some 29) impl_AreSumps.mk18 ?_; refine done_ (done_of HT_.out (by kernel_rfl)) ?_
           try go_wp2
           go_ret
           exact ⟨by first | rfl | (simp [errW_none, errW_some] <;> rfl) | (simp only [← hji8]; first | rfl | (simp [errW_none, errW_some] <;> rfl)) | (simp [*, errW_none, errW_some] <;> rfl), lb1_ HB.out GE236.out⟩
          ·
           rw [if_neg c11] at H
           have c11b0 : decide (((rd_T30 l0 x7_1).f0) ≤ ((rd_T30 l0 (ji8)).f0)) = false := decide_eq_false c11; clear c11; have H' := Aside0.mk H; clear H; have p235 : 0 ≤ (x7_1 : Int) := dt_; have q235 : x7_1 < (l0.length : Int) := dt_; obtain ⟨ad235, e235, hx235_0, hx235_1, hx235_2⟩ := at_T30 HR0.out x7_1 p235 q235
           cases e235
           replace hx235_0 := bc_ HB.out hx235_0; replace hx235_1 := bc_ HB.out hx235_1; replace hx235_2 := bc_ HB.out hx235_2; replace p235 := eq_true p235; replace q235 := eq_true q235
           try go_wp2_with (first | ((with_reducible refine gate_dst (N := 4) rfl ?_); refine box_event ?hg (N := 4) ?hd (cs := #[.int .i64 0, .int .i64 0, .int .i64 0]) (t := 30) ?hr ?_; (case hd => rfl); (case hg => rfl); (case hr => first | (go_simp; done) | (go_simp; rfl)); intro gb236 hg w17 hbox hb; have BK236 := Aside0.mk (hbox); have GW236 := Aside0.mk ((bz_ hg (lb0_ HB.out))); have GE236 := Aside0.mk ((bz_ hg (lb0_ HB.out))); replace HB := Aside0.mk (below_step (lb0_ HB.out) hb); clear hb hbox hg; obtain ⟨hcz18_0, hcz18_1, hcz18_2⟩ := cz3_ BK236.out; obtain ⟨hfz18_0, hfz18_1, hfz18_2⟩ := fz3_ BK236.out))
           have n0_ : Aside0 ((((w17.setCell ⟨gb236, 0, none⟩ (.int .i64 ((rd_T30 l0 x7_1).f0))).setCell ⟨gb236, 1, none⟩ (.int .i64 ((rd_T30 l0 x7_1).f1))).setCell ⟨gb236, 2, none⟩ (.int .i64 ((rd_T30 l0 x7_1).f2))).heap[gb236]? = some (.cells #[.int .i64 ((rd_T30 l0 x7_1).f0), .int .i64 ((rd_T30 l0 x7_1).f1), .int .i64 ((rd_T30 l0 x7_1).f2)] 30 (0, 0))) := ⟨by exact (p3_ BK236.out _ _ _)⟩
           have n1_ : Aside0 (Below w.heap.size w (((w17.setCell ⟨gb236, 0, none⟩ (.int .i64 ((rd_T30 l0 x7_1).f0))).setCell ⟨gb236, 1, none⟩ (.int .i64 ((rd_T30 l0 x7_1).f1))).setCell ⟨gb236, 2, none⟩ (.int .i64 ((rd_T30 l0 x7_1).f2)))) := ⟨lb1_ HB.out GE236.out⟩
           (try clear BK236); (try clear HB); generalize (((w17.setCell ⟨gb236, 0, none⟩ (.int .i64 ((rd_T30 l0 x7_1).f0))).setCell ⟨gb236, 1, none⟩ (.int .i64 ((rd_T30 l0 x7_1).f1))).setCell ⟨gb236, 2, none⟩ (.int .i64 ((rd_T30 l0 x7_1).f2))) = w19 at n0_ n1_ ⊢; have BK236 := n0_; have HB := n1_; clear n0_ n1_; replace BK236 := Aside0.mk (blk_drew BK236.out); replace HB := Aside0.mk (below_drew1 HB.out); have p238 : 0 ≤ ((ji8) : Int) := dt_; have q238 : (ji8) < (l0.length : Int) := dt_; obtain ⟨ad238, e238, hx238_0, hx238_1, hx238_2⟩ := at_T30 HR0.out (ji8) p238 q238; have hw238_2 := hx238_2; have hw238_1 := hx238_1; have hw238_0 := hx238_0
           obtain rfl : ad235 = ad238 := (by injection e238)
           replace hx238_0 := bc_ HB.out hx238_0; replace hx238_1 := bc_ HB.out hx238_1; replace hx238_2 := bc_ HB.out hx238_2; replace p238 := eq_true p238; replace q238 := eq_true q238; refine start_ (n := 18) (S := fun w' => w'.cell? ⟨gb236, 0, none⟩ = some (.int .i64 ((rd_T30 l0 x7_1).f0)) ∧ w'.cell? ⟨gb236, 1, none⟩ = some (.int .i64 ((rd_T30 l0 x7_1).f1)) ∧ w'.cell? ⟨gb236, 2, none⟩ = some (.int .i64 ((rd_T30 l0 x7_1).f2)) ∧ w'.cell? (ad235.add (((ji8)).toNat * 3)) = some (.int .i64 ((rd_T30 l0 (ji8)).f0)) ∧ w'.cell? ⟨(ad235.add (((ji8)).toNat * 3)).block, (ad235.add (((ji8)).toNat * 3)).off + 1, none⟩ = some (.int .i64 ((rd_T30 l0 (ji8)).f1)) ∧ w'.cell? ⟨(ad235.add (((ji8)).toNat * 3)).block, (ad235.add (((ji8)).toNat * 3)).off + 2, none⟩ = some (.int .i64 ((rd_T30 l0 (ji8)).f2))) (ds := []) impl_AreSumps.mk0 (by kernel_rfl) rfl rfl ⟨(blk_cell BK236.out 0).trans rfl, (blk_cell BK236.out 1).trans rfl, (blk_cell BK236.out 2).trans rfl, (bc_ HB.out hw238_0), (bc_ HB.out hw238_1), (bc_ HB.out hw238_2)⟩ (fun hHeld => ?_); refine with_tabW impl_AreSumps.tab4 impl_AreSumps.bits4 (fun HT_ HW_ => ?_); generalize w19.drew = w20 at BK236 HB hx238_0 hx238_1 hx238_2 hHeld ⊢; refine tk_ HT_ HW_ hHeld 0 (some 12) impl_AreSumps.mk1 ?_; refine one_ (i := 1) (N := some 13) impl_AreSumps.mk2 rfl rfl (one_of HT_.out (by kernel_rfl)) (by decide) (fun K hK => ?_); refine gs_ Try.func59 #[.agg #[.int .i64 ((rd_T30 l0 x7_1).f0), .int .i64 ((rd_T30 l0 x7_1).f1), .int .i64 ((rd_T30 l0 x7_1).f2)]] ?_; (with_reducible refine (impl_isSump.calls ((rd_T30 l0 x7_1).f0) ((rd_T30 l0 x7_1).f1) ((rd_T30 l0 x7_1).f2) true _ A5.out).mono ?_); rintro e w21 ⟨rfl, hb⟩; refine ⟨_, rfl, ?_⟩; replace BK236 := Aside0.mk (bb_ (bk_ BK236.out) hb); replace HB := Aside0.mk (below_step (lb1_ HB.out GE236.out) hb); (try clear hb); (try clear hb2); (try clear hk); (try clear hi); refine hK.out _ _ ⟨(blk_cell BK236.out 0).trans rfl, (blk_cell BK236.out 1).trans rfl, (blk_cell BK236.out 2).trans rfl, ((HB.out.cell (World.block_lt_of_cell? w _ hw238_0)).trans hw238_0), ((HB.out.cell (World.block_lt_of_cell? w _ hw238_1)).trans hw238_1), ((HB.out.cell (World.block_lt_of_cell? w _ hw238_2)).trans hw238_2)⟩ (fun hHeld => ?_); clear hK K; refine na_ ?_; refine pz_ HT_ 2 (some 14) impl_AreSumps.mk3 ?_; refine pz_ HT_ 3 (some 15) impl_AreSumps.mk4 ?_; refine pz_ HT_ 4 (some 16) impl_AreSumps.mk5 ?_; refine pz_ HT_ 5 (some 17) impl_AreSumps.mk6 ?_; refine pz_ HT_ 6 (some 18) impl_AreSumps.mk7 ?_; refine pz_ HT_ 7 (some 19) impl_AreSumps.mk8 ?_; refine pz_ HT_ 8 (some 20) impl_AreSumps.mk9 ?_; refine pz_ HT_ 9 (some 21) impl_AreSumps.mk10 ?_; refine pz_ HT_ 10 (some 22) impl_AreSumps.mk11 ?_; refine pz_ HT_ 11 (some 23) impl_AreSumps.mk12 ?_; refine pz_ HT_ 13 (some 25) impl_AreSumps.mk13 ?_; refine tk_ HT_ HW_ hHeld 12 (some 24) impl_AreSumps.mk14 ?_; refine tk_ HT_ HW_ hHeld 14 (some 26) impl_AreSumps.mk15 ?_; refine pz_ HT_ 15 (some 27) impl_AreSumps.mk16 ?_; refine pz_ HT_ 16 (some 28) impl_AreSumps.mk17 ?_; refine pz_ HT_ 17 (some 29) impl_AreSumps.mk18 ?_; refine done_ (done_of HT_.out (by kernel_rfl)) ?_
           try go_wp2
           go_roundg k1
           case measure => have := HK1.out; omega
           case rel => exact ⟨(wrap64 (x7_1 + 1)), (by first | rfl | (simp; done) | (simp [*]; done)), H', ⟨by have := HK1.out; omega⟩, ⟨lb1_ HB.out GE236.out⟩⟩
         ·
          rw [if_neg c10] at H
          exact absurd H (by simp)
        ·
         rw [if_neg c9] at H
         exact absurd H (by simp)
       ·
        rw [if_neg c7] at H
        have c7b0 : decide (0 < x7_1) = false := decide_eq_false c7; clear c7; have H' := Aside0.mk H; clear H; have p235 : 0 ≤ (x7_1 : Int) := dt_; have q235 : x7_1 < (l0.length : Int) := dt_; obtain ⟨ad235, e235, hx235_0, hx235_1, hx235_2⟩ := at_T30 HR0.out x7_1 p235 q235
        cases e235
        replace hx235_0 := bc_ HB.out hx235_0; replace hx235_1 := bc_ HB.out hx235_1; replace hx235_2 := bc_ HB.out hx235_2; replace p235 := eq_true p235; replace q235 := eq_true q235
        try go_wp2_with (first | ((with_reducible refine gate_dst (N := 4) rfl ?_); refine box_event ?hg (N := 4) ?hd (cs := #[.int .i64 0, .int .i64 0, .int .i64 0]) (t := 30) ?hr ?_; (case hd => rfl); (case hg => rfl); (case hr => first | (go_simp; done) | (go_simp; rfl)); intro gb236 hg w22 hbox hb; have BK236 := Aside0.mk (hbox); have GW236 := Aside0.mk ((bz_ hg (lb0_ HB.out))); have GE236 := Aside0.mk ((bz_ hg (lb0_ HB.out))); replace HB := Aside0.mk (below_step (lb0_ HB.out) hb); clear hb hbox hg; obtain ⟨hcz23_0, hcz23_1, hcz23_2⟩ := cz3_ BK236.out; obtain ⟨hfz23_0, hfz23_1, hfz23_2⟩ := fz3_ BK236.out))
        have n0_ : Aside0 ((((w22.setCell ⟨gb236, 0, none⟩ (.int .i64 ((rd_T30 l0 x7_1).f0))).setCell ⟨gb236, 1, none⟩ (.int .i64 ((rd_T30 l0 x7_1).f1))).setCell ⟨gb236, 2, none⟩ (.int .i64 ((rd_T30 l0 x7_1).f2))).heap[gb236]? = some (.cells #[.int .i64 ((rd_T30 l0 x7_1).f0), .int .i64 ((rd_T30 l0 x7_1).f1), .int .i64 ((rd_T30 l0 x7_1).f2)] 30 (0, 0))) := ⟨by exact (p3_ BK236.out _ _ _)⟩
        have n1_ : Aside0 (Below w.heap.size w (((w22.setCell ⟨gb236, 0, none⟩ (.int .i64 ((rd_T30 l0 x7_1).f0))).setCell ⟨gb236, 1, none⟩ (.int .i64 ((rd_T30 l0 x7_1).f1))).setCell ⟨gb236, 2, none⟩ (.int .i64 ((rd_T30 l0 x7_1).f2)))) := ⟨lb1_ HB.out GE236.out⟩
        (try clear BK236); (try clear HB); generalize (((w22.setCell ⟨gb236, 0, none⟩ (.int .i64 ((rd_T30 l0 x7_1).f0))).setCell ⟨gb236, 1, none⟩ (.int .i64 ((rd_T30 l0 x7_1).f1))).setCell ⟨gb236, 2, none⟩ (.int .i64 ((rd_T30 l0 x7_1).f2))) = w24 at n0_ n1_ ⊢; have BK236 := n0_; have HB := n1_; clear n0_ n1_; replace BK236 := Aside0.mk (blk_drew BK236.out); replace HB := Aside0.mk (below_drew1 HB.out); refine start_ (n := 18) (S := fun w' => w'.cell? ⟨gb236, 0, none⟩ = some (.int .i64 ((rd_T30 l0 x7_1).f0)) ∧ w'.cell? ⟨gb236, 1, none⟩ = some (.int .i64 ((rd_T30 l0 x7_1).f1)) ∧ w'.cell? ⟨gb236, 2, none⟩ = some (.int .i64 ((rd_T30 l0 x7_1).f2))) (ds := []) impl_AreSumps.mk0 (by kernel_rfl) rfl rfl ⟨(blk_cell BK236.out 0).trans rfl, (blk_cell BK236.out 1).trans rfl, (blk_cell BK236.out 2).trans rfl⟩ (fun hHeld => ?_); refine with_tabW impl_AreSumps.tab4 impl_AreSumps.bits4 (fun HT_ HW_ => ?_); generalize w24.drew = w25 at BK236 HB hHeld ⊢; refine tk_ HT_ HW_ hHeld 0 (some 12) impl_AreSumps.mk1 ?_; refine one_ (i := 1) (N := some 13) impl_AreSumps.mk2 rfl rfl (one_of HT_.out (by kernel_rfl)) (by decide) (fun K hK => ?_); refine gs_ Try.func59 #[.agg #[.int .i64 ((rd_T30 l0 x7_1).f0), .int .i64 ((rd_T30 l0 x7_1).f1), .int .i64 ((rd_T30 l0 x7_1).f2)]] ?_; (with_reducible refine (impl_isSump.calls ((rd_T30 l0 x7_1).f0) ((rd_T30 l0 x7_1).f1) ((rd_T30 l0 x7_1).f2) true _ A5.out).mono ?_); rintro e w26 ⟨rfl, hb⟩; refine ⟨_, rfl, ?_⟩; replace BK236 := Aside0.mk (bb_ (bk_ BK236.out) hb); replace HB := Aside0.mk (below_step (lb1_ HB.out GE236.out) hb); (try clear hb); (try clear hb2); (try clear hk); (try clear hi); refine hK.out _ _ ⟨(blk_cell BK236.out 0).trans rfl, (blk_cell BK236.out 1).trans rfl, (blk_cell BK236.out 2).trans rfl⟩ (fun hHeld => ?_); clear hK K; refine na_ ?_; refine pz_ HT_ 2 (some 14) impl_AreSumps.mk3 ?_; refine pz_ HT_ 3 (some 15) impl_AreSumps.mk4 ?_; refine pz_ HT_ 4 (some 16) impl_AreSumps.mk5 ?_; refine pz_ HT_ 5 (some 17) impl_AreSumps.mk6 ?_; refine pz_ HT_ 6 (some 18) impl_AreSumps.mk7 ?_; refine pu_ HT_ 7 (some 19) impl_AreSumps.mk8 ?_; refine pu_ HT_ 8 (some 20) impl_AreSumps.mk9 ?_; refine pu_ HT_ 9 (some 21) impl_AreSumps.mk10 ?_; refine pu_ HT_ 10 (some 22) impl_AreSumps.mk11 ?_; refine pu_ HT_ 11 (some 23) impl_AreSumps.mk12 ?_; refine pu_ HT_ 12 (some 24) impl_AreSumps.mk19 ?_; refine pu_ HT_ 13 (some 25) impl_AreSumps.mk14 ?_; refine pu_ HT_ 14 (some 26) impl_AreSumps.mk15 ?_; refine pu_ HT_ 15 (some 27) impl_AreSumps.mk16 ?_; refine pz_ HT_ 16 (some 28) impl_AreSumps.mk17 ?_; refine pz_ HT_ 17 (some 29) impl_AreSumps.mk18 ?_; refine done_ (done_of HT_.out (by kernel_rfl)) ?_
        try go_wp2
        go_roundg k1
        case measure => have := HK1.out; omega
        case rel => exact ⟨(wrap64 (x7_1 + 1)), (by first | rfl | (simp; done) | (simp [*]; done)), H', ⟨by have := HK1.out; omega⟩, ⟨lb1_ HB.out GE236.out⟩⟩
      ·
       replace c6 := Bool.eq_false_iff.mpr c6
       subst c6
       have H1 : (some false) = some r := by rw [if_neg (show ¬ (false = true) by decide)] at H; exact H
       clear H
       have H := H1
       clear H1
       obtain rfl := Option.some.inj H
       have p235 : 0 ≤ (x7_1 : Int) := dt_
       have q235 : x7_1 < (l0.length : Int) := dt_
       obtain ⟨ad235, e235, hx235_0, hx235_1, hx235_2⟩ := at_T30 HR0.out x7_1 p235 q235
       cases e235
       replace hx235_0 := bc_ HB.out hx235_0
       replace hx235_1 := bc_ HB.out hx235_1
       replace hx235_2 := bc_ HB.out hx235_2
       replace p235 := eq_true p235
       replace q235 := eq_true q235
       try go_wp2_with (first | ((with_reducible refine gate_dst (N := 4) rfl ?_); refine box_event ?hg (N := 4) ?hd (cs := #[.int .i64 0, .int .i64 0, .int .i64 0]) (t := 30) ?hr ?_; (case hd => rfl); (case hg => rfl); (case hr => first | (go_simp; done) | (go_simp; rfl)); intro gb236 hg w27 hbox hb; have BK236 := Aside0.mk (hbox); have GW236 := Aside0.mk ((bz_ hg (lb0_ HB.out))); have GE236 := Aside0.mk ((bz_ hg (lb0_ HB.out))); replace HB := Aside0.mk (below_step (lb0_ HB.out) hb); clear hb hbox hg; obtain ⟨hcz28_0, hcz28_1, hcz28_2⟩ := cz3_ BK236.out; obtain ⟨hfz28_0, hfz28_1, hfz28_2⟩ := fz3_ BK236.out))
       have n0_ : Aside0 ((((w27.setCell ⟨gb236, 0, none⟩ (.int .i64 ((rd_T30 l0 x7_1).f0))).setCell ⟨gb236, 1, none⟩ (.int .i64 ((rd_T30 l0 x7_1).f1))).setCell ⟨gb236, 2, none⟩ (.int .i64 ((rd_T30 l0 x7_1).f2))).heap[gb236]? = some (.cells #[.int .i64 ((rd_T30 l0 x7_1).f0), .int .i64 ((rd_T30 l0 x7_1).f1), .int .i64 ((rd_T30 l0 x7_1).f2)] 30 (0, 0))) := ⟨by exact (p3_ BK236.out _ _ _)⟩
       have n1_ : Aside0 (Below w.heap.size w (((w27.setCell ⟨gb236, 0, none⟩ (.int .i64 ((rd_T30 l0 x7_1).f0))).setCell ⟨gb236, 1, none⟩ (.int .i64 ((rd_T30 l0 x7_1).f1))).setCell ⟨gb236, 2, none⟩ (.int .i64 ((rd_T30 l0 x7_1).f2)))) := ⟨lb1_ HB.out GE236.out⟩
       (try clear BK236)
       (try clear HB)
       generalize (((w27.setCell ⟨gb236, 0, none⟩ (.int .i64 ((rd_T30 l0 x7_1).f0))).setCell ⟨gb236, 1, none⟩ (.int .i64 ((rd_T30 l0 x7_1).f1))).setCell ⟨gb236, 2, none⟩ (.int .i64 ((rd_T30 l0 x7_1).f2))) = w29 at n0_ n1_ ⊢
       have BK236 := n0_
       have HB := n1_
       clear n0_ n1_
       replace BK236 := Aside0.mk (blk_drew BK236.out)
       replace HB := Aside0.mk (below_drew1 HB.out)
       refine start_ (n := 18) (S := fun w' => w'.cell? ⟨gb236, 0, none⟩ = some (.int .i64 ((rd_T30 l0 x7_1).f0)) ∧ w'.cell? ⟨gb236, 1, none⟩ = some (.int .i64 ((rd_T30 l0 x7_1).f1)) ∧ w'.cell? ⟨gb236, 2, none⟩ = some (.int .i64 ((rd_T30 l0 x7_1).f2))) (ds := []) impl_AreSumps.mk0 (by kernel_rfl) rfl rfl ⟨(blk_cell BK236.out 0).trans rfl, (blk_cell BK236.out 1).trans rfl, (blk_cell BK236.out 2).trans rfl⟩ (fun hHeld => ?_); refine with_tabW impl_AreSumps.tab4 impl_AreSumps.bits4 (fun HT_ HW_ => ?_)
       generalize w29.drew = w30 at BK236 HB hHeld ⊢
       refine tk_ HT_ HW_ hHeld 0 (some 12) impl_AreSumps.mk1 ?_
       refine one_ (i := 1) (N := some 13) impl_AreSumps.mk2 rfl rfl (one_of HT_.out (by kernel_rfl)) (by decide) (fun K hK => ?_)
       refine gs_ Try.func59 #[.agg #[.int .i64 ((rd_T30 l0 x7_1).f0), .int .i64 ((rd_T30 l0 x7_1).f1), .int .i64 ((rd_T30 l0 x7_1).f2)]] ?_
       with_reducible refine (impl_isSump.calls ((rd_T30 l0 x7_1).f0) ((rd_T30 l0 x7_1).f1) ((rd_T30 l0 x7_1).f2) false _ A5.out).mono ?_
       rintro e w31 ⟨rfl, hb⟩
       refine ⟨_, rfl, ?_⟩
       replace BK236 := Aside0.mk (bb_ (bk_ BK236.out) hb)
       replace HB := Aside0.mk (below_step (lb1_ HB.out GE236.out) hb)
       (try clear hb)
       (try clear hb2)
       (try clear hk)
       (try clear hi)
       refine hK.out _ _ ⟨(blk_cell BK236.out 0).trans rfl, (blk_cell BK236.out 1).trans rfl, (blk_cell BK236.out 2).trans rfl⟩ (fun hHeld => ?_)
       clear hK K
       refine na_ ?_
       refine pz_ HT_ 2 (some 14) impl_AreSumps.mk3 ?_
       refine pz_ HT_ 3 (some 15) impl_AreSumps.mk4 ?_
       refine pu_ HT_ 4 (some 16) impl_AreSumps.mk5 ?_
       refine pu_ HT_ 5 (some 17) impl_AreSumps.mk6 ?_
       refine pu_ HT_ 6 (some 18) impl_AreSumps.mk7 ?_
       refine pu_ HT_ 7 (some 19) impl_AreSumps.mk8 ?_
       refine pu_ HT_ 8 (some 20) impl_AreSumps.mk9 ?_
       refine pu_ HT_ 9 (some 21) impl_AreSumps.mk10 ?_
       refine pu_ HT_ 10 (some 22) impl_AreSumps.mk11 ?_
       refine pu_ HT_ 11 (some 23) impl_AreSumps.mk12 ?_
       refine pu_ HT_ 12 (some 24) impl_AreSumps.mk19 ?_
       refine pu_ HT_ 13 (some 25) impl_AreSumps.mk14 ?_
       refine pu_ HT_ 14 (some 26) impl_AreSumps.mk15 ?_
       refine pu_ HT_ 15 (some 27) impl_AreSumps.mk16 ?_
       refine pu_ HT_ 16 (some 28) impl_AreSumps.mk17 ?_
       refine pz_ HT_ 17 (some 29) impl_AreSumps.mk18 ?_
       refine done_ (done_of HT_.out (by kernel_rfl)) ?_
       try go_wp2
       go_ret
       exact ⟨rr_, lb1_ HB.out GE236.out⟩
     ·
      rw [if_neg c4] at H
      exact absurd H (by simp)
    ·
     rw [if_neg c3] at H
     exact absurd H (by simp)
   ·
    rw [if_neg c2] at H
    have c2b0 : decide (x7_1 < (l0.length : Int)) = false := decide_eq_false c2
    clear c2
    obtain rfl := Option.some.inj H
    go_wp2
    go_ret
    exact ⟨rr_, lb0_ HB.out⟩
def opS_ (k : Nat) (l : List S54) (s : List S30) (x : Int) : Option Bool := if s.all (fun y => (impl_Sump_open.f k y.f0 y.f1 y.f2 l x).isSome) = true then some (!s.any fun y => !(impl_Sump_open.f k y.f0 y.f1 y.f2 l x).getD false) else none
def firstS_ (c : Int) (l : List (Int × Int)) : Int × Bool := match l.find? (fun q => decide (c ≤ wrap64 (wrap64 (q.2 - q.1) + 1))) with
 | some q => (q.1, true)
 | none => (0, false)
def spanned_ (k : Nat) (l : List S54) (s : List S30) (a b : Int) : Prop := 0 ≤ a ∧ b ≤ 1000000 ∧ (List.range (b - a + 1).toNat).all (fun i => (opS_ k l s (a + i)).isSome) = true
instance (k : Nat) (l : List S54) (s : List S30) (a b : Int) : Decidable (spanned_ k l s a b) := by unfold spanned_; infer_instance
def impl_OpenFor.f (k : Nat) (l0 : List S54) (l1 : List S30) (a2 : Int) : Option (Int × Bool) :=
 (impl_AreReadings.f k l0).bind fun t1 => if t1 = true then (impl_AreSumps.f k l1).bind fun t2 => if t2 = true then (impl_within.f a2 1 100).bind fun t3 => if t3 = true then (impl_hours.f l0).bind fun h => if spanned_ k l0 l1 h.1 h.2 then some (firstS_ a2 (spansB (fun x => (opS_ k l0 l1 x).getD false) (h.2 - h.1 + 1).toNat h.1 [])) else none else some (0, false) else some (0, false) else some (0, false)
set_option maxHeartbeats 8000000 in
set_option maxRecDepth 100000 in
theorem openFor11_ (k : Nat) (gl gh : Nat) (A0 : Option Addr) (c0 : Nat) (l : List S54) (x : Int) (y : S30) (r : Bool) (w : World) (hl : w.cell? ⟨gl, 0, none⟩ = some (.slice A0 l.length c0)) (hh : w.cell? ⟨gh, 0, none⟩ = some (.int .i64 x)) (hr : Kd.C k54 w A0 l.length l) (hc : l.length ≤ c0) (h : impl_Sump_open.f k y.f0 y.f1 y.f2 l x = some r) :
  Calls Try.prog 83 (#[.agg #[.int .i64 y.f0, .int .i64 y.f1, .int .i64 y.f2]] ++ #[.pointer (some ⟨gl, 0, none⟩), .pointer (some ⟨gh, 0, none⟩)]) w fun e w' => e = .returned (.bool (!r)) ∧ Below w.heap.size w w' := by
 show Calls Try.prog 83 #[.agg #[.int .i64 y.f0, .int .i64 y.f1, .int .i64 y.f2], .pointer (some ⟨gl, 0, none⟩), .pointer (some ⟨gh, 0, none⟩)] w _
 have hu2 := Try.underlying30
 have hB := below_alloc (Below.refl w.heap.size w) (.cells #[.int .i64 y.f0, .int .i64 y.f1, .int .i64 y.f2] 30)
 replace hl := bc_ hB hl
 replace hh := bc_ hB hh
 have HB := Aside0.mk hB
 have HR := Aside0.mk (Kd.C_below hr hB)
 have HC := Aside0.mk hc
 have HF := Aside0.mk h
 clear hr hc h hB
 go_enter Try.func83, Try.ntmps83
 go_wp2_with (go_at_call 60; refine (impl_Sump_open.calls k y.f0 y.f1 y.f2 A0 c0 l x r _ HR.out HC.out HF.out).mono ?_; rintro e w' ⟨rfl, hb⟩; have HB2 := Aside0.mk (below_step HB.out hb); clear hb)
 go_ret
 exact ⟨rfl, HB2.out⟩
set_option maxHeartbeats 8000000 in
set_option maxRecDepth 100000 in
theorem openFor1_ (k : Nat) (gl gs : Nat) (A0 A1 : Option Addr) (c0 c1 : Nat) (l : List S54) (s : List S30) (x : Int) (r : Bool) (w : World) (hbl : w.heap[gl]? = some (.cells #[.slice A0 l.length c0] 28 (0, 0))) (hbs : w.heap[gs]? = some (.cells #[.slice A1 s.length c1] 39 (0, 0)))
  (hr0 : Kd.C k54 w A0 l.length l) (hc0 : l.length ≤ c0) (hr1 : Kd.C k30 w A1 s.length s) (hc1 : s.length ≤ c1) (h : opS_ k l s x = some r) :
  Calls Try.prog 81 (#[.int .i64 x] ++ #[.pointer (some ⟨gs, 0, none⟩), .pointer (some ⟨gl, 0, none⟩)]) w fun e w' => e = .returned (.bool r) ∧ Below w.heap.size w w' := by
 show Calls Try.prog 81 #[.int .i64 x, .pointer (some ⟨gs, 0, none⟩), .pointer (some ⟨gl, 0, none⟩)] w _
 unfold opS_ at h
 by_cases c5 : s.all (fun y => (impl_Sump_open.f k y.f0 y.f1 y.f2 l x).isSome) = true
 ·
  rw [if_pos c5] at h
  obtain rfl := Option.some.inj h
  have ALL := Aside0.mk c5
  have BL := Aside0.mk hbl
  have hl : w.cell? ⟨gl, 0, none⟩ = some (.slice A0 l.length c0) := (blk_cell hbl 0).trans rfl
  have hs : w.cell? ⟨gs, 0, none⟩ = some (.slice A1 s.length c1) := (blk_cell hbs 0).trans rfl
  have HR0 := Aside0.mk hr0
  have HC0 := Aside0.mk hc0
  have HR1 := Aside0.mk hr1
  have HC1 := Aside0.mk hc1
  clear c5 h hbl hbs hr0 hc0 hr1 hc1
  go_enter Try.func81, Try.ntmps81
  go_wp2_with (first | ((with_reducible refine gate_dst (N := 3) rfl ?_); refine box_event ?hg (N := 3) ?hd (cs := #[.int .i64 x]) (t := 3) ?hr ?_; (case hd => rfl); (case hg => rfl); (case hr => first | (go_simp; done) | (go_simp; rfl)); intro gh hg w2 hbox hb; have BH := Aside0.mk hbox; have BW := Aside0.mk hb; clear hg hbox hb; replace hl := bc_ BW.out hl; replace hs := bc_ BW.out hs) | (go_at_call 82; refine (cont_Sump.calls (fun y => !(impl_Sump_open.f k y.f0 y.f1 y.f2 l x).getD false) 83 #[.pointer (some ⟨gl, 0, none⟩), .pointer (some ⟨gh, 0, none⟩)] (fun _ _ => rfl) A1 c1 s _ (Kd.C_below HR1.out BW.out) HC1.out ?cl).mono ?_; (case cl => (intro W' y hy hW'; obtain ⟨b_, hb_⟩ := Option.isSome_iff_exists.1 (List.all_eq_true.1 ALL.out y hy); (rw [show (!(impl_Sump_open.f k y.f0 y.f1 y.f2 l x).getD false) = !b_ from by rw [hb_]; rfl]); refine (openFor11_ k gl gh A0 c0 l x y b_ W' ((blk_cell (blk_below (blk_below BL.out BW.out) hW') 0).trans rfl) ((blk_cell (blk_below BH.out hW') 0).trans rfl) (Kd.C_below HR0.out (below_step BW.out hW')) HC0.out hb_).mono ?_; rintro e w'' ⟨rfl, hb2⟩; exact ⟨rfl, below_step hW' hb2⟩)); rintro e w7 ⟨rfl, hb7⟩; have BW7 := Aside0.mk (below_step BW.out hb7); clear hb7))
  go_ret
  exact ⟨rfl, BW7.out⟩
 ·
  rw [if_neg c5] at h
  cases h
theorem all_at_ {p : Int → Bool} {a b : Int} (h : (List.range (b - a + 1).toNat).all (fun i => p (a + i)) = true) (z : Int) (h1 : a ≤ z) (h2 : z ≤ b) : p z = true := by
 have := List.all_eq_true.1 h (z - a).toNat (List.mem_range.2 (by omega))
 rw [show a + ((z - a).toNat : Int) = z by omega] at this
 exact this
theorem span_at_ {w : World} {A : Option Addr} {sp : List (Int × Int)} (h : (Kd.slice 3 (Kd.int .i64)).C w A sp.length (sp.map fun s => [s.1, s.2])) (kk : Nat) (hk : kk < sp.length) : ∃ ad A2 c2, A = some ad ∧ w.cell? (ad.add kk) = some (.slice A2 2 c2) ∧ (∀ ad2, A2 = some ad2 → w.cell? (ad2.add 0) = some (.int .i64 sp[kk].1)) ∧ (∀ ad2, A2 = some ad2 → w.cell? (ad2.add 1) = some (.int .i64 sp[kk].2)) ∧ ∃ ad2, A2 = some ad2 := by
 obtain ⟨ad, rfl, hc⟩ := h.2.2 (by omega)
 obtain ⟨cs, _, hK, hj⟩ := hc kk [sp[kk].1, sp[kk].2] (by rw [List.getElem?_map, List.getElem?_eq_getElem hk]; rfl)
 obtain ⟨A2, c2, rfl, hl2, hC⟩ := hK
 obtain ⟨ad2, rfl, e0⟩ := Kd.at_int hC 0 (by omega) (by simp)
 obtain ⟨ad3, e, e1⟩ := Kd.at_int hC 1 (by omega) (by simp)
 injection e with e
 subst e
 refine ⟨ad, some ad2, c2, rfl, ?_, fun z hz => ?_, fun z hz => ?_, ad2, rfl⟩
 ·
  have := hj 0 _ rfl
  rw [show kk * (Kd.slice 3 (Kd.int .i64)).sz + 0 = kk from Nat.mul_one kk] at this
  exact this
 ·
  injection hz with hz
  subst hz
  exact e0
 ·
  injection hz with hz
  subst hz
  exact e1
def openFor8.T : Bool × List (List Nat × List Nat) := (true, [([], []), ([0], [0]), ([1], [1]), ([], []), ([3], [3]), ([4], [4]), ([2, 5], [2, 5]), ([6], [6]), ([], []), ([7, 8], [7, 8])])
def openFor8.B : List Nat := [0, 1, 3, 0, 8, 24, 63, 127, 0, 511]
theorem openFor8.tab : rtab .any (opsOf Try.f42 8) = openFor8.T := by kernel_rfl
theorem openFor8.bits : waitsOk openFor8.T.2 openFor8.B = true := by kernel_rfl
abbrev openFor8.mk0 : Array Bool := #[fF,fF,fF,fF,fF,fF,fF,fF,fF,fF]
abbrev openFor8.mk1 : Array Bool := #[tT,fF,fF,fF,fF,fF,fF,fF,fF,fF]
abbrev openFor8.mk2 : Array Bool := #[tT,tT,fF,fF,fF,fF,fF,fF,fF,fF]
abbrev openFor8.mk3 : Array Bool := #[tT,tT,fF,tT,fF,fF,fF,fF,fF,fF]
abbrev openFor8.mk4 : Array Bool := #[tT,tT,fF,tT,tT,fF,fF,fF,fF,fF]
abbrev openFor8.mk5 : Array Bool := #[tT,tT,fF,tT,tT,fF,fF,fF,tT,fF]
abbrev openFor8.mk6 : Array Bool := #[tT,tT,tT,tT,tT,fF,fF,fF,tT,fF]
abbrev openFor8.mk7 : Array Bool := #[tT,tT,tT,tT,tT,tT,fF,fF,tT,fF]
abbrev openFor8.mk8 : Array Bool := #[tT,tT,tT,tT,tT,tT,tT,fF,tT,fF]
abbrev openFor8.mk9 : Array Bool := #[tT,tT,tT,tT,tT,tT,tT,tT,tT,fF]
abbrev openFor8.mk10 : Array Bool := #[tT,tT,tT,tT,tT,tT,tT,tT,tT,tT]
set_option maxHeartbeats 8000000 in
set_option maxRecDepth 100000 in
theorem impl_OpenFor.calls (k : Nat) (A0 : Option Addr) (c0 : Nat) (l0 : List S54) (A1 : Option Addr) (c1 : Nat) (l1 : List S30) (a2 : Int) (r1 : Int) (r2 : Bool) (w : World) (hr0 : Kd.C k54 w A0 l0.length l0) (hc0 : l0.length ≤ c0) (hr1 : Kd.C k30 w A1 l1.length l1) (hc1 : l1.length ≤ c1) (h : impl_OpenFor.f k l0 l1 a2 = some (r1, r2)) :
  Calls Try.prog 42 #[.slice A0 l0.length c0, .slice A1 l1.length c1, .int .i64 a2] w fun e w' => e = .returned (.tuple #[.int .i64 r1, .bool r2]) ∧ Below w.heap.size w w' := by
 unfold impl_OpenFor.f at h
 obtain ⟨t1, h1, h⟩ := Option.bind_eq_some_iff.mp h
 have HR0 := Aside0.mk hr0
 have HC0 := Aside0.mk hc0
 have HR1 := Aside0.mk hr1
 have HC1 := Aside0.mk hc1
 have E1 := Aside0.mk h1
 clear hr0 hc0 hr1 hc1 h1
 cases t1 with
 | false =>
  simp only [Bool.false_eq_true, if_false, Option.some.injEq, Prod.mk.injEq] at h
  obtain ⟨rfl, rfl⟩ := h
  go_enter Try.func42, Try.ntmps42
  go_wp2_with (first | ((with_reducible refine gate_dst (N := 3) rfl ?_); refine box_event ?hg (N := 3) ?hd (cs := #[.slice A0 l0.length c0]) (t := 28) ?hr ?_; (case hd => rfl); (case hg => rfl); (case hr => first | (go_simp; done) | (go_simp; rfl)); intro gl hg w2 hbox hb; have BL := Aside0.mk hbox; have BW := Aside0.mk hb; have hl : w2.cell? ⟨gl, 0, none⟩ = some (.slice A0 l0.length c0) := (blk_cell hbox 0).trans rfl; clear hg hbox hb) | ((with_reducible refine gate_dst (N := 4) rfl ?_); refine box_event ?hg (N := 4) ?hd (cs := #[.slice A1 l1.length c1]) (t := 39) ?hr ?_; (case hd => rfl); (case hg => rfl); (case hr => first | (go_simp; done) | (go_simp; rfl)); intro gs hg w3 hbox hb; have BS := Aside0.mk hbox; replace hl := bc_ hb hl; replace BL := Aside0.mk (blk_below BL.out hb); replace BW := Aside0.mk (below_step BW.out hb); have hs : w3.cell? ⟨gs, 0, none⟩ = some (.slice A1 l1.length c1) := (blk_cell hbox 0).trans rfl; clear hg hbox hb) | ((with_reducible refine gate_callee (f := 34) rfl ?_); refine ga_ (some 14) Try.func34 #[.slice A0 l0.length c0] ?_; refine (impl_AreReadings.calls k _ _ l0 false _ (Kd.C_below HR0.out BW.out) HC0.out E1.out).mono ?_; rintro e w4 ⟨rfl, hb⟩; refine ⟨_, rfl, ?_⟩; replace hl := bc_ hb hl; replace hs := bc_ hb hs; replace BL := Aside0.mk (blk_below BL.out hb); replace BS := Aside0.mk (blk_below BS.out hb); replace BW := Aside0.mk (below_step BW.out hb); clear hb))
  go_ret2
  exact ⟨rr_, BW.out⟩
 | true =>
  simp only [if_true] at h
  obtain ⟨t2, h2, h⟩ := Option.bind_eq_some_iff.mp h
  have E2 := Aside0.mk h2
  clear h2
  cases t2 with
  | false =>
   simp only [Bool.false_eq_true, if_false, Option.some.injEq, Prod.mk.injEq] at h
   obtain ⟨rfl, rfl⟩ := h
   go_enter Try.func42, Try.ntmps42
   go_wp2_with (first | ((with_reducible refine gate_dst (N := 3) rfl ?_); refine box_event ?hg (N := 3) ?hd (cs := #[.slice A0 l0.length c0]) (t := 28) ?hr ?_; (case hd => rfl); (case hg => rfl); (case hr => first | (go_simp; done) | (go_simp; rfl)); intro gl hg w2 hbox hb; have BL := Aside0.mk hbox; have BW := Aside0.mk hb; have hl : w2.cell? ⟨gl, 0, none⟩ = some (.slice A0 l0.length c0) := (blk_cell hbox 0).trans rfl; clear hg hbox hb) | ((with_reducible refine gate_dst (N := 4) rfl ?_); refine box_event ?hg (N := 4) ?hd (cs := #[.slice A1 l1.length c1]) (t := 39) ?hr ?_; (case hd => rfl); (case hg => rfl); (case hr => first | (go_simp; done) | (go_simp; rfl)); intro gs hg w3 hbox hb; have BS := Aside0.mk hbox; replace hl := bc_ hb hl; replace BL := Aside0.mk (blk_below BL.out hb); replace BW := Aside0.mk (below_step BW.out hb); have hs : w3.cell? ⟨gs, 0, none⟩ = some (.slice A1 l1.length c1) := (blk_cell hbox 0).trans rfl; clear hg hbox hb) | ((with_reducible refine gate_callee (f := 34) rfl ?_); refine ga_ (some 14) Try.func34 #[.slice A0 l0.length c0] ?_; refine (impl_AreReadings.calls k _ _ l0 true _ (Kd.C_below HR0.out BW.out) HC0.out E1.out).mono ?_; rintro e w4 ⟨rfl, hb⟩; refine ⟨_, rfl, ?_⟩; replace hl := bc_ hb hl; replace hs := bc_ hb hs; replace BL := Aside0.mk (blk_below BL.out hb); replace BS := Aside0.mk (blk_below BS.out hb); replace BW := Aside0.mk (below_step BW.out hb); clear hb) | (go_at_call 50; refine (impl_AreSumps.calls k _ _ l1 false _ (Kd.C_below HR1.out BW.out) HC1.out E2.out).mono ?_; rintro e w5 ⟨rfl, hb⟩; replace hl := bc_ hb hl; replace hs := bc_ hb hs; replace BL := Aside0.mk (blk_below BL.out hb); replace BS := Aside0.mk (blk_below BS.out hb); replace BW := Aside0.mk (below_step BW.out hb); clear hb))
   go_ret2
   exact ⟨rr_, BW.out⟩
  | true =>
   simp only [if_true] at h
   obtain ⟨t3, h3, h⟩ := Option.bind_eq_some_iff.mp h
   have E3 := Aside0.mk h3
   clear h3
   cases t3 with
   | false =>
    simp only [Bool.false_eq_true, if_false, Option.some.injEq, Prod.mk.injEq] at h
    obtain ⟨rfl, rfl⟩ := h
    go_enter Try.func42, Try.ntmps42
    go_wp2_with (first | ((with_reducible refine gate_dst (N := 3) rfl ?_); refine box_event ?hg (N := 3) ?hd (cs := #[.slice A0 l0.length c0]) (t := 28) ?hr ?_; (case hd => rfl); (case hg => rfl); (case hr => first | (go_simp; done) | (go_simp; rfl)); intro gl hg w2 hbox hb; have BL := Aside0.mk hbox; have BW := Aside0.mk hb; have hl : w2.cell? ⟨gl, 0, none⟩ = some (.slice A0 l0.length c0) := (blk_cell hbox 0).trans rfl; clear hg hbox hb) | ((with_reducible refine gate_dst (N := 4) rfl ?_); refine box_event ?hg (N := 4) ?hd (cs := #[.slice A1 l1.length c1]) (t := 39) ?hr ?_; (case hd => rfl); (case hg => rfl); (case hr => first | (go_simp; done) | (go_simp; rfl)); intro gs hg w3 hbox hb; have BS := Aside0.mk hbox; replace hl := bc_ hb hl; replace BL := Aside0.mk (blk_below BL.out hb); replace BW := Aside0.mk (below_step BW.out hb); have hs : w3.cell? ⟨gs, 0, none⟩ = some (.slice A1 l1.length c1) := (blk_cell hbox 0).trans rfl; clear hg hbox hb) | ((with_reducible refine gate_callee (f := 34) rfl ?_); refine ga_ (some 14) Try.func34 #[.slice A0 l0.length c0] ?_; refine (impl_AreReadings.calls k _ _ l0 true _ (Kd.C_below HR0.out BW.out) HC0.out E1.out).mono ?_; rintro e w4 ⟨rfl, hb⟩; refine ⟨_, rfl, ?_⟩; replace hl := bc_ hb hl; replace hs := bc_ hb hs; replace BL := Aside0.mk (blk_below BL.out hb); replace BS := Aside0.mk (blk_below BS.out hb); replace BW := Aside0.mk (below_step BW.out hb); clear hb) | (go_at_call 50; refine (impl_AreSumps.calls k _ _ l1 true _ (Kd.C_below HR1.out BW.out) HC1.out E2.out).mono ?_; rintro e w5 ⟨rfl, hb⟩; replace hl := bc_ hb hl; replace hs := bc_ hb hs; replace BL := Aside0.mk (blk_below BL.out hb); replace BS := Aside0.mk (blk_below BS.out hb); replace BW := Aside0.mk (below_step BW.out hb); clear hb) | (go_at_call 74; refine (impl_within.calls a2 1 100 false _ E3.out).mono ?_; rintro e w6 ⟨rfl, hd⟩; have hb := hd.below; clear hd; replace hl := bc_ hb hl; replace hs := bc_ hb hs; replace BL := Aside0.mk (blk_below BL.out hb); replace BS := Aside0.mk (blk_below BS.out hb); replace BW := Aside0.mk (below_step BW.out hb); clear hb))
    go_ret2
    exact ⟨rr_, BW.out⟩
   | true =>
    simp only [if_true] at h
    obtain ⟨⟨x, y⟩, h4, h⟩ := Option.bind_eq_some_iff.mp h
    have E4 := Aside0.mk h4
    clear h4
    simp only at h
    by_cases q : spanned_ k l0 l1 x y
    ·
     rw [if_pos q] at h
     have SP := Aside0.mk q
     obtain ⟨sp, hsp⟩ : ∃ sp, spansB (fun z => (opS_ k l0 l1 z).getD false) (y - x + 1).toNat x [] = sp := ⟨_, rfl⟩
     rw [hsp] at h
     have HSP := Aside0.mk hsp
     have hF := Aside0.mk (Option.some.inj h)
     clear h q hsp
     go_enter Try.func42, Try.ntmps42
     go_wp2_with (first | ((with_reducible refine gate_dst (N := 3) rfl ?_); refine box_event ?hg (N := 3) ?hd (cs := #[.slice A0 l0.length c0]) (t := 28) ?hr ?_; (case hd => rfl); (case hg => rfl); (case hr => first | (go_simp; done) | (go_simp; rfl)); intro gl hg w2 hbox hb; have BL := Aside0.mk hbox; have BW := Aside0.mk hb; have hl : w2.cell? ⟨gl, 0, none⟩ = some (.slice A0 l0.length c0) := (blk_cell hbox 0).trans rfl; clear hg hbox hb) | ((with_reducible refine gate_dst (N := 4) rfl ?_); refine box_event ?hg (N := 4) ?hd (cs := #[.slice A1 l1.length c1]) (t := 39) ?hr ?_; (case hd => rfl); (case hg => rfl); (case hr => first | (go_simp; done) | (go_simp; rfl)); intro gs hg w3 hbox hb; have BS := Aside0.mk hbox; replace hl := bc_ hb hl; replace BL := Aside0.mk (blk_below BL.out hb); replace BW := Aside0.mk (below_step BW.out hb); have hs : w3.cell? ⟨gs, 0, none⟩ = some (.slice A1 l1.length c1) := (blk_cell hbox 0).trans rfl; clear hg hbox hb) | ((with_reducible refine gate_callee (f := 34) rfl ?_); refine ga_ (some 14) Try.func34 #[.slice A0 l0.length c0] ?_; refine (impl_AreReadings.calls k _ _ l0 true _ (Kd.C_below HR0.out BW.out) HC0.out E1.out).mono ?_; rintro e w4 ⟨rfl, hb⟩; refine ⟨_, rfl, ?_⟩; replace hl := bc_ hb hl; replace hs := bc_ hb hs; replace BL := Aside0.mk (blk_below BL.out hb); replace BS := Aside0.mk (blk_below BS.out hb); replace BW := Aside0.mk (below_step BW.out hb); clear hb) | (go_at_call 50; refine (impl_AreSumps.calls k _ _ l1 true _ (Kd.C_below HR1.out BW.out) HC1.out E2.out).mono ?_; rintro e w5 ⟨rfl, hb⟩; replace hl := bc_ hb hl; replace hs := bc_ hb hs; replace BL := Aside0.mk (blk_below BL.out hb); replace BS := Aside0.mk (blk_below BS.out hb); replace BW := Aside0.mk (below_step BW.out hb); clear hb) | (go_at_call 74; refine (impl_within.calls a2 1 100 true _ E3.out).mono ?_; rintro e w6 ⟨rfl, hd⟩; have hb := hd.below; clear hd; replace hl := bc_ hb hl; replace hs := bc_ hb hs; replace BL := Aside0.mk (blk_below BL.out hb); replace BS := Aside0.mk (blk_below BS.out hb); replace BW := Aside0.mk (below_step BW.out hb); clear hb) | ((with_reducible refine gate_callee (f := 76) rfl ?_); refine ga_ (some 28) Try.func76 #[.slice A0 l0.length c0] ?_; refine (impl_hours.calls _ _ l0 x y _ (Kd.C_below HR0.out BW.out) HC0.out E4.out).mono ?_; rintro e w7 ⟨rfl, hd⟩; have hb := hd.below; clear hd; refine ⟨_, rfl, ?_⟩; replace hl := bc_ hb hl; replace hs := bc_ hb hs; replace BL := Aside0.mk (blk_below BL.out hb); replace BS := Aside0.mk (blk_below BS.out hb); replace BW := Aside0.mk (below_step BW.out hb); clear hb) | (go_at_call 77; refine (spans_.calls (fun z => (opS_ k l0 l1 z).getD false) 81 #[.pointer (some ⟨gs, 0, none⟩), .pointer (some ⟨gl, 0, none⟩)] (fun _ _ => rfl) x y _ SP.out.1 SP.out.2.1 ?cl).mono ?_; (case cl => (intro W' z hz1 hz2 hW'; obtain ⟨b_, hb_⟩ := Option.isSome_iff_exists.1 (all_at_ (p := fun z => (opS_ k l0 l1 z).isSome) SP.out.2.2 z hz1 hz2); (rw [show (opS_ k l0 l1 z).getD false = b_ from by rw [hb_]; rfl]); exact openFor1_ k gl gs A0 A1 c0 c1 l0 l1 z b_ W' (blk_below BL.out hW') (blk_below BS.out hW') (Kd.C_below HR0.out (below_step BW.out hW')) HC0.out (Kd.C_below HR1.out (below_step BW.out hW')) HC1.out hb_)); rintro e w8 ⟨v8, rfl, ho8, hb⟩; replace BW := Aside0.mk (below_step BW.out hb); rw [HSP.out] at ho8; obtain ⟨A, c, rfl, hc8, hC8⟩ := Kd.R_reads ho8; rw [List.length_map] at hC8 hc8 ⊢; have HL := Aside0.mk hC8; have hmx : sp.length ≤ 9223372036854775807 := hC8.2.1; clear hl hs hb ho8 hc8 hC8))
     go_loopg [12, 37] sp.length (fun gg v12 v37 wr => ∃ kk : Nat, kk ≤ sp.length ∧ sp.length - kk ≤ gg ∧ v37 = .int .i64 kk ∧ Aside0 (firstS_ a2 (sp.drop kk) = (r1, r2)) ∧ Aside0 (Below w8.heap.size w8 wr))
     case atStart => exact ⟨0, Nat.zero_le _, by omega, rfl, hF, ⟨Below.refl _ _⟩⟩
     case round =>
      obtain ⟨kk, hkk, hgg, rfl, HA, BR⟩ := hrel
      by_cases hlt : kk < sp.length
      ·
       have hltz : (kk : Int) < (sp.length : Int) := by omega
       have hk0 : (0 : Int) ≤ (kk : Int) := by omega
       have hA := HA.out
       rw [List.drop_eq_getElem_cons hlt] at hA
       obtain ⟨ad, A2, c2, rfl, hx0, hx1, hx2, hd⟩ := span_at_ HL.out kk hlt
       obtain ⟨ad2, rfl⟩ := hd
       replace hx0 := bc_ BR.out hx0
       replace hx1 := bc_ BR.out (hx1 _ rfl)
       replace hx2 := bc_ BR.out (hx2 _ rfl)
       generalize sp[kk] = q at hA hx0 hx1 hx2
       obtain ⟨a, b⟩ := q
       simp only at hx0 hx1 hx2
       unfold firstS_ at hA
       have HG := Aside0.mk hgg
       clear hgg HA
       by_cases hq : a2 ≤ wrap64 (wrap64 (b - a) + 1)
       ·
        rw [List.find?_cons_of_pos (by simp only [decide_eq_true_eq]; exact hq)] at hA
        simp only [Prod.mk.injEq] at hA; obtain ⟨rfl, rfl⟩ := hA
        go_wp2
        refine start_ (n := 10) (S := fun w' => w'.cell? ad2 = some (.int .i64 a) ∧ w'.cell? ⟨ad2.block, ad2.off + 1, none⟩ = some (.int .i64 b)) (ds := []) openFor8.mk0 (by kernel_rfl) rfl rfl ⟨hx1, hx2⟩ (fun hHeld => ?_); refine with_tabW openFor8.tab openFor8.bits (fun HT_ HW_ => ?_); replace BR := Aside0.mk (below_drew1 BR.out); generalize wr.drew = w9 at BR hHeld ⊢; refine pz_ HT_ 0 (some 41) openFor8.mk1 ?_; refine pz_ HT_ 1 (some 42) openFor8.mk2 ?_; refine pz_ HT_ 3 (some 44) openFor8.mk3 ?_; refine pz_ HT_ 4 (some 45) openFor8.mk4 ?_; refine pz_ HT_ 8 (some 49) openFor8.mk5 ?_; refine tk_ HT_ HW_ hHeld 2 (some 43) openFor8.mk6 ?_; refine tk_ HT_ HW_ hHeld 5 (some 46) openFor8.mk7 ?_; refine pz_ HT_ 6 (some 47) openFor8.mk8 ?_; refine pz_ HT_ 7 (some 48) openFor8.mk9 ?_; refine pz_ HT_ 9 (some 50) openFor8.mk10 ?_; refine done_ (done_of HT_.out (by kernel_rfl)) ?_
        go_wp2
        go_ret2
        exact ⟨rr_, below_step BW.out BR.out⟩
       ·
        rw [List.find?_cons_of_neg (by simp only [decide_eq_true_eq]; exact hq)] at hA
        have HA := Aside0.mk hA; clear hA
        go_wp2
        refine start_ (n := 10) (S := fun w' => w'.cell? ad2 = some (.int .i64 a) ∧ w'.cell? ⟨ad2.block, ad2.off + 1, none⟩ = some (.int .i64 b)) (ds := []) openFor8.mk0 (by kernel_rfl) rfl rfl ⟨hx1, hx2⟩ (fun hHeld => ?_); refine with_tabW openFor8.tab openFor8.bits (fun HT_ HW_ => ?_); replace BR := Aside0.mk (below_drew1 BR.out); generalize wr.drew = w9 at BR hHeld ⊢; refine pz_ HT_ 0 (some 41) openFor8.mk1 ?_; refine pz_ HT_ 1 (some 42) openFor8.mk2 ?_; refine pz_ HT_ 3 (some 44) openFor8.mk3 ?_; refine pz_ HT_ 4 (some 45) openFor8.mk4 ?_; refine pz_ HT_ 8 (some 49) openFor8.mk5 ?_; refine tk_ HT_ HW_ hHeld 2 (some 43) openFor8.mk6 ?_; refine tk_ HT_ HW_ hHeld 5 (some 46) openFor8.mk7 ?_; refine pz_ HT_ 6 (some 47) openFor8.mk8 ?_; refine pz_ HT_ 7 (some 48) openFor8.mk9 ?_; refine pz_ HT_ 9 (some 50) openFor8.mk10 ?_; refine done_ (done_of HT_.out (by kernel_rfl)) ?_
        go_wp2
        go_roundg (sp.length - (kk + 1))
        case measure => have := HG.out; omega
        case rel => exact ⟨kk + 1, by omega, by omega, by go_num, HA, BR⟩
      ·
       have hltz : ¬ (kk : Int) < (sp.length : Int) := by omega
       have hA := HA.out
       rw [List.drop_of_length_le (by omega)] at hA
       simp only [firstS_, List.find?_nil, Prod.mk.injEq] at hA
       obtain ⟨rfl, rfl⟩ := hA
       go_wp2
       go_ret2
       exact ⟨rr_, below_step BW.out BR.out⟩
    ·
     rw [if_neg q] at h
     cases h
def laws_FnExactOpenFor.j0 : Nat → List (S82) → List (S24) → List (S54) → List (S30) → Bool → Option (Bool)
 | 0, _, _, _, _, _ => none
 | k + 1, x0, x1, x10, x11, x51 => if x51 = true then (none) else ((laws_toReadingS.f k x0).bind fun t570 => ((laws_eqReadingS.f k x10 t570).bind fun t573 => (if t573 = true then ((laws_toSumpS.f k x1).bind fun t574 => ((laws_eqSumpS.f k x11 t574).bind fun t577 => (if t577 = true then (some true) else (none)))) else (none))))
def laws_FnExactOpenFor.f (k : Nat) (l0 : List (S82)) (l1 : List (S24)) (a2 : Int) : Option (Bool) := (laws_szReadingS.f l0 1048576).bind fun t552 => (if t552 < 0 then (some true) else ((laws_szSumpS.f l1 t552).bind fun t553 => (if t553 < 0 then (some true) else ((laws_toReadingS.f k l0).bind fun t554 => ((laws_toSumpS.f k l1).bind fun t557 => ((spec_OpenFor.f k t554 t557 a2).bind fun bt560 => ((laws_toReadingS.f k l0).bind fun t562 => ((laws_toSumpS.f k l1).bind fun t565 => ((impl_OpenFor.f k t562 t565 a2).bind fun bt568 => (if bt568.1 = bt560.1 then (laws_FnExactOpenFor.j0 k l0 l1 t562 t565 (bt568.2 != bt560.2)) else (laws_FnExactOpenFor.j0 k l0 l1 t562 t565 true)))))))))))
set_option maxHeartbeats 64000000 in
set_option maxRecDepth 100000 in
theorem laws_FnExactOpenFor.calls (k : Nat) (A0 : Option Addr) (c0 : Nat) (l0 : List (S82)) (A1 : Option Addr) (c1 : Nat) (l1 : List (S24)) (a2 : Int) (r : Bool) (w : World) (hr0 : Kd.C k82 w A0 l0.length l0) (hc0 : l0.length ≤ c0) (hr1 : Kd.C k24 w A1 l1.length l1) (hc1 : l1.length ≤ c1) (h : laws_FnExactOpenFor.f k l0 l1 a2 = some r) :
  Calls Try.prog 7 #[.slice A0 l0.length c0, .slice A1 l1.length c1, .int .i64 a2] w fun e w' => e = .returned (.bool r) ∧ Below w.heap.size w w' := by
 have HR0 := Aside0.mk hr0
 have HC0 := Aside0.mk hc0
 clear hr0 hc0
 have HR1 := Aside0.mk hr1
 have HC1 := Aside0.mk hc1
 clear hr1 hc1
 have HB := Aside0.mk (Below.refl w.heap.size w)
 have H : ((laws_szReadingS.f l0 1048576).bind fun t552 => (if t552 < 0 then (some true) else ((laws_szSumpS.f l1 t552).bind fun t553 => (if t553 < 0 then (some true) else ((laws_toReadingS.f k l0).bind fun t554 => ((laws_toSumpS.f k l1).bind fun t557 => ((spec_OpenFor.f k t554 t557 a2).bind fun bt560 => ((laws_toReadingS.f k l0).bind fun t562 => ((laws_toSumpS.f k l1).bind fun t565 => ((impl_OpenFor.f k t562 t565 a2).bind fun bt568 => (if bt568.1 = bt560.1 then (laws_FnExactOpenFor.j0 k l0 l1 t562 t565 (bt568.2 != bt560.2)) else (laws_FnExactOpenFor.j0 k l0 l1 t562 t565 true)))))))))))) = some r := h
 clear h
 replace H := Option.bind_eq_some_iff.mp H
 obtain ⟨t552, A40, H⟩ := H
 replace H : (if t552 < 0 then (some true) else ((laws_szSumpS.f l1 t552).bind fun t553 => (if t553 < 0 then (some true) else ((laws_toReadingS.f k l0).bind fun t554 => ((laws_toSumpS.f k l1).bind fun t557 => ((spec_OpenFor.f k t554 t557 a2).bind fun bt560 => ((laws_toReadingS.f k l0).bind fun t562 => ((laws_toSumpS.f k l1).bind fun t565 => ((impl_OpenFor.f k t562 t565 a2).bind fun bt568 => (if bt568.1 = bt560.1 then (laws_FnExactOpenFor.j0 k l0 l1 t562 t565 (bt568.2 != bt560.2)) else (laws_FnExactOpenFor.j0 k l0 l1 t562 t565 true))))))))))) = some r := H
 have A4 := Aside0.mk A40
 clear A40
 by_cases c5 : t552 < 0
 ·
  rw [if_pos c5] at H
  have c5b0 : decide (t552 < 0) = true := decide_eq_true c5
  clear c5
  obtain rfl := Option.some.inj H
  go_enter Try.func7, Try.ntmps7
  go_wp2_with (first | ((with_reducible refine gate_callee (f := 10) rfl ?_); refine ga_ (some 16) Try.func10 #[.slice A0 l0.length c0, .int .i64 1048576] ?_; (with_reducible refine (laws_szReadingS.calls _ _ l0 1048576 t552 _ ?side1 ?side2 A4.out).mono ?_); (case side1 => exact kc_ HR0.out); (case side2 => exact HC0.out); rintro e w' ⟨rfl, ⟨nd, rfl⟩⟩; refine ⟨_, rfl, ?_⟩))
  go_ret
  exact ⟨rr_, lb0_ HB.out⟩
 ·
  rw [if_neg c5] at H
  have c5b0 : decide (t552 < 0) = false := decide_eq_false c5
  clear c5
  replace H := Option.bind_eq_some_iff.mp H
  obtain ⟨t553, A60, H⟩ := H
  replace H : (if t553 < 0 then (some true) else ((laws_toReadingS.f k l0).bind fun t554 => ((laws_toSumpS.f k l1).bind fun t557 => ((spec_OpenFor.f k t554 t557 a2).bind fun bt560 => ((laws_toReadingS.f k l0).bind fun t562 => ((laws_toSumpS.f k l1).bind fun t565 => ((impl_OpenFor.f k t562 t565 a2).bind fun bt568 => (if bt568.1 = bt560.1 then (laws_FnExactOpenFor.j0 k l0 l1 t562 t565 (bt568.2 != bt560.2)) else (laws_FnExactOpenFor.j0 k l0 l1 t562 t565 true))))))))) = some r := H
  have A6 := Aside0.mk A60
  clear A60
  by_cases c7 : t553 < 0
  ·
   rw [if_pos c7] at H
   have c7b0 : decide (t553 < 0) = true := decide_eq_true c7
   clear c7
   obtain rfl := Option.some.inj H
   go_enter Try.func7, Try.ntmps7
   go_wp2_with (first | ((with_reducible refine gate_callee (f := 10) rfl ?_); refine ga_ (some 16) Try.func10 #[.slice A0 l0.length c0, .int .i64 1048576] ?_; (with_reducible refine (laws_szReadingS.calls _ _ l0 1048576 t552 _ ?side1 ?side2 A4.out).mono ?_); (case side1 => exact kc_ HR0.out); (case side2 => exact HC0.out); rintro e w' ⟨rfl, ⟨nd, rfl⟩⟩; refine ⟨_, rfl, ?_⟩) | ((with_reducible refine gate_callee (f := 16) rfl ?_); refine ga_ (some 21) Try.func16 #[.slice A1 l1.length c1, .int .i64 t552] ?_; (with_reducible refine (laws_szSumpS.calls _ _ l1 t552 t553 _ ?side1 ?side2 A6.out).mono ?_); (case side1 => exact kc_ HR1.out); (case side2 => exact HC1.out); rintro e w' ⟨rfl, ⟨nd, rfl⟩⟩; refine ⟨_, rfl, ?_⟩))
   go_ret
   exact ⟨rr_, lb0_ HB.out⟩
  ·
   rw [if_neg c7] at H
   have c7b0 : decide (t553 < 0) = false := decide_eq_false c7
   clear c7
   replace H := Option.bind_eq_some_iff.mp H
   obtain ⟨t554, A80, H⟩ := H
   replace H : ((laws_toSumpS.f k l1).bind fun t557 => ((spec_OpenFor.f k t554 t557 a2).bind fun bt560 => ((laws_toReadingS.f k l0).bind fun t562 => ((laws_toSumpS.f k l1).bind fun t565 => ((impl_OpenFor.f k t562 t565 a2).bind fun bt568 => (if bt568.1 = bt560.1 then (laws_FnExactOpenFor.j0 k l0 l1 t562 t565 (bt568.2 != bt560.2)) else (laws_FnExactOpenFor.j0 k l0 l1 t562 t565 true))))))) = some r := H
   have A8 := Aside0.mk A80
   clear A80
   replace H := Option.bind_eq_some_iff.mp H
   obtain ⟨t557, A90, H⟩ := H
   replace H : ((spec_OpenFor.f k t554 t557 a2).bind fun bt560 => ((laws_toReadingS.f k l0).bind fun t562 => ((laws_toSumpS.f k l1).bind fun t565 => ((impl_OpenFor.f k t562 t565 a2).bind fun bt568 => (if bt568.1 = bt560.1 then (laws_FnExactOpenFor.j0 k l0 l1 t562 t565 (bt568.2 != bt560.2)) else (laws_FnExactOpenFor.j0 k l0 l1 t562 t565 true)))))) = some r := H
   have A9 := Aside0.mk A90
   clear A90
   replace H := Option.bind_eq_some_iff.mp H
   obtain ⟨⟨t560, t561⟩, A100, H⟩ := H
   replace H : ((laws_toReadingS.f k l0).bind fun t562 => ((laws_toSumpS.f k l1).bind fun t565 => ((impl_OpenFor.f k t562 t565 a2).bind fun bt568 => (if bt568.1 = t560 then (laws_FnExactOpenFor.j0 k l0 l1 t562 t565 (bt568.2 != t561)) else (laws_FnExactOpenFor.j0 k l0 l1 t562 t565 true))))) = some r := H
   have A10 := Aside0.mk A100
   clear A100
   replace H := Option.bind_eq_some_iff.mp H
   obtain ⟨t562, A110, H⟩ := H
   replace H : ((laws_toSumpS.f k l1).bind fun t565 => ((impl_OpenFor.f k t562 t565 a2).bind fun bt568 => (if bt568.1 = t560 then (laws_FnExactOpenFor.j0 k l0 l1 t562 t565 (bt568.2 != t561)) else (laws_FnExactOpenFor.j0 k l0 l1 t562 t565 true)))) = some r := H
   have A11 := Aside0.mk A110
   clear A110
   replace H := Option.bind_eq_some_iff.mp H
   obtain ⟨t565, A120, H⟩ := H
   replace H : ((impl_OpenFor.f k t562 t565 a2).bind fun bt568 => (if bt568.1 = t560 then (laws_FnExactOpenFor.j0 k l0 l1 t562 t565 (bt568.2 != t561)) else (laws_FnExactOpenFor.j0 k l0 l1 t562 t565 true))) = some r := H
   have A12 := Aside0.mk A120
   clear A120
   replace H := Option.bind_eq_some_iff.mp H
   obtain ⟨⟨t568, t569⟩, A130, H⟩ := H
   replace H : (if t568 = t560 then (laws_FnExactOpenFor.j0 k l0 l1 t562 t565 (t569 != t561)) else (laws_FnExactOpenFor.j0 k l0 l1 t562 t565 true)) = some r := H
   have A13 := Aside0.mk A130
   clear A130
   have HC14 := Aside0.mk H
   clear H
   go_enter Try.func7, Try.ntmps7
   go_upto_region 12 with (first | ((with_reducible refine gate_callee (f := 10) rfl ?_); refine ga_ (some 16) Try.func10 #[.slice A0 l0.length c0, .int .i64 1048576] ?_; (with_reducible refine (laws_szReadingS.calls _ _ l0 1048576 t552 _ ?side1 ?side2 A4.out).mono ?_); (case side1 => exact kc_ HR0.out); (case side2 => exact HC0.out); rintro e w' ⟨rfl, ⟨nd, rfl⟩⟩; refine ⟨_, rfl, ?_⟩) | ((with_reducible refine gate_callee (f := 16) rfl ?_); refine ga_ (some 21) Try.func16 #[.slice A1 l1.length c1, .int .i64 t552] ?_; (with_reducible refine (laws_szSumpS.calls _ _ l1 t552 t553 _ ?side1 ?side2 A6.out).mono ?_); (case side1 => exact kc_ HR1.out); (case side2 => exact HC1.out); rintro e w' ⟨rfl, ⟨nd, rfl⟩⟩; refine ⟨_, rfl, ?_⟩) | ((with_reducible refine gate_callee (f := 12) rfl ?_); refine ga_ (some 26) Try.func12 #[.slice A0 l0.length c0] ?_; (with_reducible refine (laws_toReadingS.calls k _ _ l0 t554 _ ?side1 ?side2 A8.out).mono ?_); (case side1 => exact kc_ HR0.out); (case side2 => exact HC0.out); rintro e w15 ⟨v555, rfl, ho0, hb⟩; refine ⟨_, rfl, ?_⟩; have HO556 := Aside0.mk (Kd.R_lower ho0 (below_size (lb0_ HB.out))); replace HB := Aside0.mk (below_step (lb0_ HB.out) hb); (try clear hb); (try clear hb2); (try clear hk); (try clear hi); (try clear ho0)) | ((with_reducible refine gate_callee (f := 18) rfl ?_); refine ga_ (some 28) Try.func18 #[.slice A1 l1.length c1] ?_; (with_reducible refine (laws_toSumpS.calls k _ _ l1 t557 _ ?side1 ?side2 A9.out).mono ?_); (case side1 => exact kc_ (Kd.C_below HR1.out HB.out)); (case side2 => exact HC1.out); rintro e w16 ⟨v558, rfl, ho0, hb⟩; refine ⟨_, rfl, ?_⟩; replace HO556 := Aside0.mk (Kd.R_below (kr_ HO556.out) hb); have HO559 := Aside0.mk (Kd.R_lower ho0 (below_size (lb0_ HB.out))); replace HB := Aside0.mk (below_step (lb0_ HB.out) hb); (try clear hb); (try clear hb2); (try clear hk); (try clear hi); (try clear ho0); obtain ⟨Ao17, co17, eo17⟩ := Kd.R_slice HO556.out; subst eo17; obtain ⟨Ao18, co18, eo18⟩ := Kd.R_slice HO559.out; subst eo18) | ((with_reducible refine gate_callee (f := 41) rfl ?_); refine ga_ (some 30) Try.func41 #[.slice Ao17 t554.length co17, .slice Ao18 t557.length co18, .int .i64 a2] ?_; (with_reducible refine (spec_OpenFor.calls k _ _ t554 _ _ t557 a2 t560 t561 _ ?side1 ?side2 ?side3 ?side4 A10.out).mono ?_); (case side1 => exact kc_ (Kd.R_reads' HO556.out).2.2); (case side2 => exact (Kd.R_reads' HO556.out).2.1); (case side3 => exact kc_ (Kd.R_reads' HO559.out).2.2); (case side4 => exact (Kd.R_reads' HO559.out).2.1); rintro e w19 ⟨rfl, hb⟩; refine ⟨_, rfl, ?_⟩; replace HO556 := Aside0.mk (Kd.R_below (kr_ HO556.out) hb); replace HO559 := Aside0.mk (Kd.R_below (kr_ HO559.out) hb); replace HB := Aside0.mk (below_step (lb0_ HB.out) hb); (try clear hb); (try clear hb2); (try clear hk); (try clear hi)) | ((with_reducible refine gate_callee (f := 12) rfl ?_); refine ga_ (some 34) Try.func12 #[.slice A0 l0.length c0] ?_; (with_reducible refine (laws_toReadingS.calls k _ _ l0 t562 _ ?side1 ?side2 A11.out).mono ?_); (case side1 => exact kc_ (Kd.C_below HR0.out HB.out)); (case side2 => exact HC0.out); rintro e w20 ⟨v563, rfl, ho0, hb⟩; refine ⟨_, rfl, ?_⟩; replace HO559 := Aside0.mk (Kd.R_below (kr_ HO559.out) hb); have HO564 := Aside0.mk (Kd.R_lower (Kd.R_new' ho0 (Kd.R_lt (kr_ HO556.out))) (below_size (lb0_ HB.out))); replace HO556 := Aside0.mk (Kd.R_elder' (kr_ HO556.out) (Kd.R_base ho0) hb); replace HB := Aside0.mk (below_step (lb0_ HB.out) hb); (try clear hb); (try clear hb2); (try clear hk); (try clear hi); (try clear ho0)) | ((with_reducible refine gate_callee (f := 18) rfl ?_); refine ga_ (some 36) Try.func18 #[.slice A1 l1.length c1] ?_; (with_reducible refine (laws_toSumpS.calls k _ _ l1 t565 _ ?side1 ?side2 A12.out).mono ?_); (case side1 => exact kc_ (Kd.C_below HR1.out HB.out)); (case side2 => exact HC1.out); rintro e w21 ⟨v566, rfl, ho0, hb⟩; refine ⟨_, rfl, ?_⟩; replace HO556 := Aside0.mk (Kd.R_below (kr_ HO556.out) hb); replace HO564 := Aside0.mk (Kd.R_below (kr_ HO564.out) hb); have HO567 := Aside0.mk (Kd.R_lower (Kd.R_new' ho0 (Kd.R_lt (kr_ HO559.out))) (below_size (lb0_ HB.out))); replace HO559 := Aside0.mk (Kd.R_elder' (kr_ HO559.out) (Kd.R_base ho0) hb); replace HB := Aside0.mk (below_step (lb0_ HB.out) hb); (try clear hb); (try clear hb2); (try clear hk); (try clear hi); (try clear ho0); obtain ⟨Ao22, co22, eo22⟩ := Kd.R_slice HO564.out; subst eo22; obtain ⟨Ao23, co23, eo23⟩ := Kd.R_slice HO567.out; subst eo23) | ((with_reducible refine gate_callee (f := 42) rfl ?_); refine ga_ (some 41) Try.func42 #[.slice Ao22 t562.length co22, .slice Ao23 t565.length co23, .int .i64 a2] ?_; (with_reducible refine (impl_OpenFor.calls k _ _ t562 _ _ t565 a2 t568 t569 _ ?side1 ?side2 ?side3 ?side4 A13.out).mono ?_); (case side1 => exact kc_ (Kd.R_reads' HO564.out).2.2); (case side2 => exact (Kd.R_reads' HO564.out).2.1); (case side3 => exact kc_ (Kd.R_reads' HO567.out).2.2); (case side4 => exact (Kd.R_reads' HO567.out).2.1); rintro e w24 ⟨rfl, hb⟩; refine ⟨_, rfl, ?_⟩; replace HO556 := Aside0.mk (Kd.R_below (kr_ HO556.out) hb); replace HO559 := Aside0.mk (Kd.R_below (kr_ HO559.out) hb); replace HO564 := Aside0.mk (Kd.R_below (kr_ HO564.out) hb); replace HO567 := Aside0.mk (Kd.R_below (kr_ HO567.out) hb); replace HB := Aside0.mk (below_step (lb0_ HB.out) hb); (try clear hb); (try clear hb2); (try clear hk); (try clear hi)))
   (try simp only [Act.put, List.setIfInBounds_toArray, List.set_cons_zero, List.set_cons_succ])
   go_cut [51] (fun v51 wc => ∃ (kq : Nat) (x51_13 : Bool), v51 = .bool x51_13 ∧ Aside0 (laws_FnExactOpenFor.j0 kq l0 l1 t562 t565 x51_13 = some r) ∧ Aside0 (kq ≤ k) ∧ Aside0 (Kd.R k54 54 wc w.heap.size (fun _ => True) (.slice Ao22 t562.length co22) t562) ∧ Aside0 (Kd.R k30 30 wc w.heap.size (fun _ => True) (.slice Ao23 t565.length co23) t565) ∧ Aside0 (Below w.heap.size w wc))
   case first =>
    have H := HC14.out
    clear HC14
    by_cases c25 : t568 = t560
    ·
     rw [if_pos c25] at H
     have c25b0 : (t568 == t560) = true := beq_iff_eq.mpr c25
     have c25b1 : (t568 != t560) = false := bne_eq_false_iff_eq.mpr c25
     clear c25
     (first | rw [c25b0] | (simp only [i64_w, i32_w]; rw [c25b0]) | skip)
     have H' := Aside0.mk H
     clear H
     go_wp2
     go_meet
     case rel => exact ⟨_, ((t569 != t561)), (by first | rfl | (simp; done) | (simp [*]; done)), H', ⟨by first | omega | exact Nat.le_refl _⟩, ⟨krm_ HO564.out (fun _ hk => trivial)⟩, ⟨krm_ HO567.out (fun _ hk => trivial)⟩, ⟨lb0_ HB.out⟩⟩
    ·
     rw [if_neg c25] at H
     have c25b0 : (t568 == t560) = false := beq_eq_false_iff_ne.mpr c25
     have c25b1 : (t568 != t560) = true := bne_iff_ne.mpr c25
     (first | rw [c25b0] | (simp only [i64_w, i32_w]; rw [c25b0]) | skip)
     have H' := Aside0.mk H
     clear H
     go_wp2
     go_meet
     case rel => exact ⟨_, (true), (by first | rfl | (simp; done) | (simp [*]; done)), H', ⟨by first | omega | exact Nat.le_refl _⟩, ⟨krm_ HO564.out (fun _ hk => trivial)⟩, ⟨krm_ HO567.out (fun _ hk => trivial)⟩, ⟨lb0_ HB.out⟩⟩
   case rest =>
    clear HC14
    try clear c1
    try clear c2
    try clear p2
    try clear c4
    try clear c5
    try clear c5b0
    try clear c7
    try clear c7b0
    try clear c10
    try clear c12
    try clear c16
    try clear c18
    try clear c25
    try clear c25b0
    try clear c25b1
    obtain ⟨kq, x51_13, rfl, HA, HJ13, HO_10, HO_11, HB⟩ := hcut
    cases kq with
    | zero => exact absurd HA.out (by simp [laws_FnExactOpenFor.j0])
    | succ kj13 =>
     have H := HA.out
     clear HA
     simp only [laws_FnExactOpenFor.j0] at H
     by_cases c26 : x51_13 = true
     ·
      subst c26
      have H1 : (none) = some r := by rw [if_pos rfl] at H; exact H
      clear H
      have H := H1
      clear H1
      exact absurd H (by simp)
     ·
      replace c26 := Bool.eq_false_iff.mpr c26
      subst c26
      have H1 : ((laws_toReadingS.f kj13 l0).bind fun t570 => ((laws_eqReadingS.f kj13 t562 t570).bind fun t573 => (if t573 = true then ((laws_toSumpS.f kj13 l1).bind fun t574 => ((laws_eqSumpS.f kj13 t565 t574).bind fun t577 => (if t577 = true then (some true) else (none)))) else (none)))) = some r := by rw [if_neg (show ¬ (false = true) by decide)] at H; exact H
      clear H
      have H := H1
      clear H1
      replace H := Option.bind_eq_some_iff.mp H
      obtain ⟨t570, A270, H⟩ := H
      replace H : ((laws_eqReadingS.f kj13 t562 t570).bind fun t573 => (if t573 = true then ((laws_toSumpS.f kj13 l1).bind fun t574 => ((laws_eqSumpS.f kj13 t565 t574).bind fun t577 => (if t577 = true then (some true) else (none)))) else (none))) = some r := H
      have A27 := Aside0.mk A270
      clear A270
      replace H := Option.bind_eq_some_iff.mp H
      obtain ⟨t573, A280, H⟩ := H
      replace H : (if t573 = true then ((laws_toSumpS.f kj13 l1).bind fun t574 => ((laws_eqSumpS.f kj13 t565 t574).bind fun t577 => (if t577 = true then (some true) else (none)))) else (none)) = some r := H
      have A28 := Aside0.mk A280
      clear A280
      by_cases c29 : t573 = true
      ·
       subst c29
       have H1 : ((laws_toSumpS.f kj13 l1).bind fun t574 => ((laws_eqSumpS.f kj13 t565 t574).bind fun t577 => (if t577 = true then (some true) else (none)))) = some r := by rw [if_pos rfl] at H; exact H
       clear H
       have H := H1
       clear H1
       replace H := Option.bind_eq_some_iff.mp H
       obtain ⟨t574, A300, H⟩ := H
       replace H : ((laws_eqSumpS.f kj13 t565 t574).bind fun t577 => (if t577 = true then (some true) else (none))) = some r := H
       have A30 := Aside0.mk A300
       clear A300
       replace H := Option.bind_eq_some_iff.mp H
       obtain ⟨t577, A310, H⟩ := H
       replace H : (if t577 = true then (some true) else (none)) = some r := H
       have A31 := Aside0.mk A310
       clear A310
       by_cases c32 : t577 = true
       ·
        subst c32
        have H1 : (some true) = some r := by rw [if_pos rfl] at H; exact H
        clear H; have H := H1; clear H1; obtain rfl := Option.some.inj H
        go_wp2_with (first | ((with_reducible refine gate_callee (f := 12) rfl ?_); refine ga_ (some 54) Try.func12 #[.slice A0 l0.length c0] ?_; (with_reducible refine (laws_toReadingS.calls kj13 _ _ l0 t570 _ ?side1 ?side2 A27.out).mono ?_); (case side1 => exact kc_ (Kd.C_below HR0.out HB.out)); (case side2 => exact HC0.out); rintro e w33 ⟨v571, rfl, ho0, hb⟩; refine ⟨_, rfl, ?_⟩; replace HO_11 := Aside0.mk (Kd.R_below (kr_ HO_11.out) hb); have HO572 := Aside0.mk (Kd.R_lower (Kd.R_new' ho0 (Kd.R_lt (kr_ HO_10.out))) (below_size (lb0_ HB.out))); replace HO_10 := Aside0.mk (Kd.R_elder' (kr_ HO_10.out) (Kd.R_base ho0) hb); replace HB := Aside0.mk (below_step (lb0_ HB.out) hb); (try clear hb); (try clear hb2); (try clear hk); (try clear hi); (try clear ho0); obtain ⟨Ao34, co34, eo34⟩ := Kd.R_slice HO572.out; subst eo34) | ((with_reducible refine gate_callee (f := 15) rfl ?_); refine ga_ (some 55) Try.func15 #[.slice Ao22 t562.length co22, .slice Ao34 t570.length co34] ?_; (with_reducible refine (laws_eqReadingS.calls kj13 _ _ t562 _ _ t570 true _ ?side1 ?side2 ?side3 ?side4 A28.out).mono ?_); (case side1 => exact kc_ (Kd.R_reads' HO_10.out).2.2); (case side2 => exact (Kd.R_reads' HO_10.out).2.1); (case side3 => exact kc_ (Kd.R_reads' HO572.out).2.2); (case side4 => exact (Kd.R_reads' HO572.out).2.1); rintro e w35 ⟨rfl, hb⟩; refine ⟨_, rfl, ?_⟩; replace HO_10 := Aside0.mk (Kd.R_below (kr_ HO_10.out) hb); replace HO_11 := Aside0.mk (Kd.R_below (kr_ HO_11.out) hb); replace HO572 := Aside0.mk (Kd.R_below (kr_ HO572.out) hb); replace HB := Aside0.mk (below_step (lb0_ HB.out) hb); (try clear hb); (try clear hb2); (try clear hk); (try clear hi)) | ((with_reducible refine gate_callee (f := 18) rfl ?_); refine ga_ (some 59) Try.func18 #[.slice A1 l1.length c1] ?_; (with_reducible refine (laws_toSumpS.calls kj13 _ _ l1 t574 _ ?side1 ?side2 A30.out).mono ?_); (case side1 => exact kc_ (Kd.C_below HR1.out HB.out)); (case side2 => exact HC1.out); rintro e w36 ⟨v575, rfl, ho0, hb⟩; refine ⟨_, rfl, ?_⟩; replace HO_10 := Aside0.mk (Kd.R_below (kr_ HO_10.out) hb); replace HO572 := Aside0.mk (Kd.R_below (kr_ HO572.out) hb); have HO576 := Aside0.mk (Kd.R_lower (Kd.R_new' ho0 (Kd.R_lt (kr_ HO_11.out))) (below_size (lb0_ HB.out))); replace HO_11 := Aside0.mk (Kd.R_elder' (kr_ HO_11.out) (Kd.R_base ho0) hb); replace HB := Aside0.mk (below_step (lb0_ HB.out) hb); (try clear hb); (try clear hb2); (try clear hk); (try clear hi); (try clear ho0); obtain ⟨Ao37, co37, eo37⟩ := Kd.R_slice HO576.out; subst eo37) | ((with_reducible refine gate_callee (f := 21) rfl ?_); refine ga_ (some 60) Try.func21 #[.slice Ao23 t565.length co23, .slice Ao37 t574.length co37] ?_; (with_reducible refine (laws_eqSumpS.calls kj13 _ _ t565 _ _ t574 true _ ?side1 ?side2 ?side3 ?side4 A31.out).mono ?_); (case side1 => exact kc_ (Kd.R_reads' HO_11.out).2.2); (case side2 => exact (Kd.R_reads' HO_11.out).2.1); (case side3 => exact kc_ (Kd.R_reads' HO576.out).2.2); (case side4 => exact (Kd.R_reads' HO576.out).2.1); rintro e w38 ⟨rfl, hb⟩; refine ⟨_, rfl, ?_⟩; replace HO_10 := Aside0.mk (Kd.R_below (kr_ HO_10.out) hb); replace HO_11 := Aside0.mk (Kd.R_below (kr_ HO_11.out) hb); replace HO572 := Aside0.mk (Kd.R_below (kr_ HO572.out) hb); replace HO576 := Aside0.mk (Kd.R_below (kr_ HO576.out) hb); replace HB := Aside0.mk (below_step (lb0_ HB.out) hb); (try clear hb); (try clear hb2); (try clear hk); (try clear hi)))
        go_ret
        exact ⟨rr_, lb0_ HB.out⟩
       ·
        replace c32 := Bool.eq_false_iff.mpr c32; subst c32
        have H1 : (none) = some r := by rw [if_neg (show ¬ (false = true) by decide)] at H; exact H
        clear H; have H := H1; clear H1; exact absurd H (by simp)
      ·
       replace c29 := Bool.eq_false_iff.mpr c29
       subst c29
       have H1 : (none) = some r := by rw [if_neg (show ¬ (false = true) by decide)] at H; exact H
       clear H
       have H := H1
       clear H1
       exact absurd H (by simp)
end Go.Proofs.Ytojaeidabmfajaa.Pr

namespace Go.Proofs.YtojaeidabmfajaaW.Opens
open Go.ChangeShapes Go.WideShapes Go.RowKit
open Go.Deep (open_slice choose_lt)
open Go.Proofs.YtojaeidabmfajaaW.PrintWords
set_option linter.unusedVariables false
set_option linter.unusedSimpArgs false
def Opn {α : Type} (P : Program) (t : TypeId) (d : Kd α) (wf : α → Prop) : Prop :=
 P.cellsOf t = d.sz ∧ ∀ (H : Type) (enc : TypeId × Value → H) (W : World) (fuel : Nat) (cs : List Value) (x : DataW H × List MemPlace),
  DataW.trod enc P W 0 (fun _ => true) true fuel t cs = some x → (∀ n ∈ x.1.weights P t, n ≤ reachBytes) → ∃ y, d.K W y cs ∧ wf y
theorem Opn.int {P : Program} {t : TypeId} {k : IntKind} (hc : P.cellsOf t = 1) (ht : P.underlying t = some (.int k)) : Opn P t (Kd.int k) (fun n => (Lit.int k n).wf = true) :=
 ⟨hc, fun H enc W fuel cs x h _ => by
  obtain ⟨m, rfl, rfl, hw⟩ := DataW.trod_int ht h
  exact ⟨m, rfl, hw⟩⟩
theorem Opn.bool {P : Program} {t : TypeId} (hc : P.cellsOf t = 1) (ht : P.underlying t = some .bool) : Opn P t Kd.bool (fun _ => True) :=
 ⟨hc, fun H enc W fuel cs x h _ => by
  obtain ⟨m, rfl, rfl⟩ := DataW.trod_bool ht h
  exact ⟨m, rfl, trivial⟩⟩
theorem weightsAll_mem {H : Type} {P : Program} {e : TypeId} : ∀ {l : List (DataW H)} {d : DataW H}, d ∈ l → ∀ n ∈ d.weights P e, n ∈ DataW.weightsAll P e l
 | _ :: r, d, h, n, hn => by
  simp only [DataW.weightsAll, List.mem_append]
  rcases List.mem_cons.1 h with rfl | h
  ·
   exact .inl hn
  ·
   exact .inr (weightsAll_mem h n hn)
theorem Opn.slice {α : Type} (z : α) {P : Program} {t e : TypeId} {d : Kd α} {wf : α → Prop} {B : Nat} (hc : P.cellsOf t = 1) (ht : P.underlying t = some (.slice e)) (hB : P.bytesOf e = B) (h : Opn P e d wf) :
  Opn P t (Kd.slice e d) (fun xs => xs.length ≤ maxLen ∧ xs.length * B ≤ 140737488351232 ∧ ∀ y ∈ xs, wf y) :=
 ⟨hc, fun H enc W fuel cs x hf hw => by
  haveI : Inhabited α := ⟨z⟩
  rcases open_slice ht hf with ⟨rfl, rfl⟩ | ⟨a, len, cap, m, n, D, Pl, rfl, _, hl, hm, hmm, rfl, each⟩
  ·
   exact ⟨[], ⟨none, 0, rfl, Nat.le_refl _, rfl, by simp, fun h => absurd h (Nat.lt_irrefl 0)⟩, by simp, by simp, by simp⟩
  ·
   rw [if_pos rfl] at hmm
   subst hmm
   have hw0 : ∀ n ∈ DataW.weights P t (DataW.slice (H := H) ((List.range len).map D) ((List.range (m - len)).map fun j => D (len + j))), n ≤ reachBytes := hw
   have hww : ∀ i, i < len → ∀ n ∈ (D i).weights P e, n ≤ reachBytes := by
    intro i hi n hn
    refine hw0 n ?_
    simp only [DataW.weights, ht, List.mem_cons, List.mem_append]
    exact .inr (.inl (weightsAll_mem (List.mem_map.2 ⟨i, List.mem_range.2 hi, rfl⟩) n hn))
   have hB2 : len * B ≤ 140737488351232 := by
    have := hw0 ((len + (m - len)) * B) (by simp [DataW.weights, ht, hB])
    refine Nat.le_trans (Nat.mul_le_mul_right _ (by omega)) this
   have hx : ∀ i, i < len → ∃ y, ∃ c : List Value, c.length = d.sz ∧ d.K W y c ∧ wf y ∧ ∀ j u, c[j]? = some u → W.cell? (a.add (i * d.sz + j)) = some u := by
    intro i hi
    obtain ⟨cs', h1, h2⟩ := each i (by omega)
    obtain ⟨y, hy, hwy⟩ := h.2 H enc W n cs' _ h2 (hww i hi)
    obtain ⟨_, hlen, hcell⟩ := World.cells?_some h1
    rw [h.1] at hlen hcell
    refine ⟨y, cs', hlen, hy, hwy, fun j u hu => ?_⟩
    have hj : j < d.sz := by
     have := (List.getElem?_eq_some_iff.1 hu).1
     omega
    have := hcell j hj
    rw [add_add] at this
    exact this.trans hu
   obtain ⟨f, hf'⟩ := choose_lt hx
   refine ⟨(List.range len).map f, ⟨some a, m, by simp, by simpa using hl, by simp, by simp only [maxLen] at hm; simp; omega, fun _ => ⟨a, rfl, fun j p hj => ?_⟩⟩, ?_, ?_, ?_⟩
   ·
    rw [List.getElem?_map] at hj
    have hj' : j < len := by
     by_cases hjl : j < len
     ·
      exact hjl
     ·
      rw [List.getElem?_eq_none (by simp; omega)] at hj
      cases hj
    rw [List.getElem?_range hj'] at hj
    obtain rfl := Option.some.inj hj
    obtain ⟨c, h1, h2, _, h3⟩ := hf' j hj'
    exact ⟨c, h1, h2, h3⟩
   ·
    simp; omega
   ·
    simpa using hB2
   ·
    intro y hy
    obtain ⟨i, hi, rfl⟩ := List.mem_map.1 hy
    obtain ⟨c, _, _, h2, _⟩ := hf' i (List.mem_range.1 hi)
    exact h2⟩
def FOpn {α : Type} (P : Program) (fs : List Field) (off : Nat) (d : Kd α) (wf : α → Prop) : Prop :=
 ∀ (H : Type) (enc : TypeId × Value → H) (W : World) (fuel : Nat) (cs : List Value) (xs : List (DataW H × List MemPlace)),
  xs.length = fs.length → (∀ (i : Nat) (f : Field), fs[i]? = some f → DataW.trod enc P W 0 (fun _ => true) true fuel f.type ((cs.drop f.offset).take (P.cellsOf f.type)) = xs[i]?) →
  (∀ n ∈ DataW.weightsEach P (fs.map (·.type)) (xs.map (·.1)), n ≤ reachBytes) → ∃ y, d.K W y ((cs.drop off).take d.sz) ∧ wf y
theorem FOpn.one {α : Type} {P : Program} {f : Field} {off : Nat} {d : Kd α} {wf : α → Prop} (ho : f.offset = off) (h : Opn P f.type d wf) : FOpn P [f] off d wf := by
 intro H enc W fuel cs xs hl hx hw
 match xs, hl with
 | [x], _ =>
  have h0 := hx 0 f rfl
  rw [ho, h.1] at h0
  exact h.2 H enc W fuel _ x h0 (fun n hn => hw n (by simp only [List.map, DataW.weightsEach, List.mem_append]; exact .inl hn))
theorem FOpn.cons {α β : Type} {P : Program} {f : Field} {fs : List Field} {off : Nat} {d : Kd α} {d' : Kd β} {wf : α → Prop} {wf' : β → Prop} (ho : f.offset = off) (h : Opn P f.type d wf) (h' : FOpn P fs (off + d.sz) d' wf') :
  FOpn P (f :: fs) off (Kd.pair d d') (fun x => wf x.1 ∧ wf' x.2) := by
 intro H enc W fuel cs xs hl hx hw
 match xs, hl with
 | x :: xs, hl =>
  have h0 := hx 0 f rfl
  rw [ho, h.1] at h0
  have hw' : ∀ n ∈ x.1.weights P f.type ++ DataW.weightsEach P (fs.map (·.type)) (xs.map (·.1)), n ≤ reachBytes := hw
  obtain ⟨y, hy, hwy⟩ := h.2 H enc W fuel _ x h0 (fun n hn => hw' n (List.mem_append_left _ hn))
  obtain ⟨y', hy', hwy'⟩ := h' H enc W fuel cs xs (by simpa using hl) (fun i f' hf' => hx (i + 1) f' (by simpa using hf')) (fun n hn => hw' n (List.mem_append_right _ hn))
  refine ⟨(y, y'), ⟨_, _, ?_, hy, hy'⟩, hwy, hwy'⟩
  show (cs.drop off).take (d.sz + d'.sz) = _
  rw [List.take_add, List.drop_drop]
theorem Opn.struct {α β : Type} {P : Program} {t : TypeId} {fs : Array Field} {d : Kd α} {wf : α → Prop} (f : β → α) (g : α → β) (hfg : ∀ x, f (g x) = x) (hc : P.cellsOf t = d.sz) (ht : P.underlying t = some (.struct fs)) (h : FOpn P fs.toList 0 d wf) :
  Opn P t (Kd.iso d f) (fun x => wf (f x)) :=
 ⟨hc, fun H enc W fuel cs x hf hw => by
  obtain ⟨xs, n, rfl, rfl, hl, hxs, each⟩ := DataW.trod_struct ht hf
  obtain ⟨y, hy, hwy⟩ := h H enc W n cs xs (by simpa using hxs) (fun i f' hf' => each i f' (by simpa using hf')) (fun n hn => hw n (by simp only [DataW.weights, ht]; exact hn))
  rw [List.drop_zero, List.take_of_length_le (by rw [hl, hc]; exact Nat.le_refl _)] at hy
  exact ⟨g y, (by rw [← hfg y] at hy; exact hy), (by rw [← hfg y] at hwy; exact hwy)⟩⟩
theorem par_weights {H : Type} {P : Program} {ts : List TypeId} {ds : List (DataW H)} {j : Nat} {t : TypeId} {d : DataW H} (h : (DataW.weightsEach P ts ds).all (· ≤ reachBytes) = true) (ht : ts[j]? = some t) (hd : ds[j]? = some d) :
  ∀ n ∈ d.weights P t, n ≤ reachBytes := fun n hn => of_decide_eq_true (List.all_eq_true.1 h n (DataW.weights_mem_each ht hd n hn))
theorem par_slice {α : Type} {H : Type} {enc : TypeId × Value → H} {P : Program} {W : World} {r : Reach} {b0 : Nat} {t e : TypeId} {d : Kd α} {wf : List α → Prop} {v : Value} {D : DataW H} {ps : List MemPlace}
  (ht : P.underlying t = some (.slice e)) (ho : Opn P t (Kd.slice e d) wf) (hv : Value.okWide P W r b0 t v) (hd : DataW.Trod enc P W 0 (fun _ => true) true t v D ps) (hw : ∀ n ∈ D.weights P t, n ≤ reachBytes) :
  ∃ (A : Option Addr) (l : List α) (c : Nat), v = .slice A l.length c ∧ l.length ≤ c ∧ d.C W A l.length l ∧ wf l := by
 obtain ⟨A, len, cap, rfl⟩ := okWide_slice ht hv
 obtain ⟨fuel, hf⟩ := hd
 obtain ⟨l, ⟨A', c, he, hl, hC⟩, hwl⟩ := ho.2 H enc W fuel _ _ hf hw
 have he' : [Value.slice A len cap] = [.slice A' l.length c] := he
 simp only [List.cons.injEq, Value.slice.injEq, and_true] at he'
 obtain ⟨rfl, rfl, rfl⟩ := he'
 exact ⟨_, l, _, rfl, hl, hC, hwl⟩
end Go.Proofs.YtojaeidabmfajaaW.Opens

namespace Go.Proofs.Ytojaeidabmfajaa.Pr
open Go.RowKit Go.Proofs.YtojaeidabmfajaaW.PrintWords Go.Proofs.YtojaeidabmfajaaW.PrintLast Go.Proofs.YtojaeidabmfajaaW.Opens
set_option linter.unusedVariables false
def wf82 (x : S82) : Prop := (Lit.int .i64 x.f0).wf = true ∧ (Lit.int .i64 x.f1).wf = true
theorem opn82 : Opn Try.prog 82 k82 wf82 := Opn.struct (fun x : S82 => (x.f0, x.f1)) (fun p => ⟨p.1, p.2⟩) (fun _ => rfl) (by kernel_rfl) Try.underlying82 (FOpn.cons rfl (Opn.int (by kernel_rfl) Try.underlying3) (FOpn.one rfl (Opn.int (by kernel_rfl) Try.underlying3)))
def wfL82 (l : List S82) : Prop := l.length ≤ maxLen ∧ l.length * 16 ≤ 140737488351232 ∧ ∀ y ∈ l, wf82 y
theorem opnL22 : Opn Try.prog 22 (Kd.slice 82 k82) wfL82 := Opn.slice z82 (by kernel_rfl) Try.underlying22 (by kernel_rfl) opn82
def wf24 (x : S24) : Prop := (Lit.int .i64 x.f0).wf = true ∧ (Lit.int .i64 x.f1).wf = true ∧ (Lit.int .i64 x.f2).wf = true
theorem opn24 : Opn Try.prog 24 k24 wf24 := Opn.struct (fun x : S24 => (x.f0, x.f1, x.f2)) (fun p => ⟨p.1, p.2.1, p.2.2⟩) (fun _ => rfl) (by kernel_rfl) Try.underlying24 (FOpn.cons rfl (Opn.int (by kernel_rfl) Try.underlying3) (FOpn.cons rfl (Opn.int (by kernel_rfl) Try.underlying3) (FOpn.one rfl (Opn.int (by kernel_rfl) Try.underlying3))))
def wfL24 (l : List S24) : Prop := l.length ≤ maxLen ∧ l.length * 24 ≤ 140737488351232 ∧ ∀ y ∈ l, wf24 y
theorem opnL34 : Opn Try.prog 34 (Kd.slice 24 k24) wfL24 := Opn.slice z24 (by kernel_rfl) Try.underlying34 (by kernel_rfl) opn24
def FnExactOpenFor.Pure : Prop := ∀ (x0 : (List S82)) (x1 : (List S24)) (x2 : Int), wfL82 x0 → wfL24 x1 → (Lit.int .i64 x2).wf = true → ∃ k, laws_FnExactOpenFor.f k x0 x1 x2 = some true
end Go.Proofs.Ytojaeidabmfajaa.Pr

namespace Go.Proofs.Ytojaeidabmfajaa.Pr
open Go.RowKit Go.Proofs.YtojaeidabmfajaaW.PrintWords Go.Proofs.YtojaeidabmfajaaW.PrintLast Go.Proofs.YtojaeidabmfajaaW.PrintMore
attribute [local go_sem] max2_int min2_int max_two min_two max_three min_three max_four min_four   -- for this text's walks alone
set_option linter.unusedVariables false
set_option linter.unusedSimpArgs false
mutual
def impl_ClosedSumps.j0 : Nat → List (S54) → List (S30) → Int → Bool → Option (List Int × Bool)
 | 0, _, _, _, _ => none
 | k + 1, x0, x1, x2, x19 => if x19 = true then (some (([] : List Int), false)) else (impl_ClosedSumps.l0 k x0 x2 ([] : List Int) x1 (x1.length : Int) 0)
def impl_ClosedSumps.l0 : Nat → List (S54) → Int → List Int → List (S30) → Int → Int → Option (List Int × Bool)
 | 0, _, _, _, _, _, _ => none
 | k + 1, x0, x2, x8, x20, x21, x22 => if x22 < x21 then (if 0 ≤ x22 then (if x22 < (x20.length : Int) then ((impl_Sump_open.f k ((rd_T30 x20 x22).f0) ((rd_T30 x20 x22).f1) ((rd_T30 x20 x22).f2) x0 x2).bind fun t593 => (if t593 = true then (impl_ClosedSumps.l0 k x0 x2 x8 x20 x21 (wrap64 (x22 + 1))) else (if x8.length < 17592186044416 then (impl_ClosedSumps.l0 k x0 x2 (x8 ++ [(rd_T30 x20 x22).f0]) x20 x21 (wrap64 (x22 + 1))) else (none)))) else (none)) else (none)) else (some (x8, true))
end
end Go.Proofs.Ytojaeidabmfajaa.Pr

namespace Go.Proofs.Ytojaeidabmfajaa.Pr.Pure
open Go.RowKit Go.Proofs.YtojaeidabmfajaaW.PrintWords Go.Proofs.YtojaeidabmfajaaW.PrintLast Go.Proofs.YtojaeidabmfajaaW.PrintMore
set_option linter.unusedVariables false
set_option linter.unusedSimpArgs false
theorem w64 {x : Int} (h1 : -9223372036854775808 ≤ x) (h2 : x ≤ 9223372036854775807) : wrap64 x = x := by
 unfold wrap64
 omega
theorem set_map_step {α β : Type} (f : α → β) (l : List α) (z : β) (i : Nat) (hi : i < l.length) (a : α) (ha : l[i]? = some a) :
  ((l.take i).map f ++ List.replicate (l.length - i) z).set i (f a) = (l.take (i + 1)).map f ++ List.replicate (l.length - (i + 1)) z := by
 have h1 : ((l.take i).map f).length = i := by simp; omega
 rw [List.set_append_right _ _ (by omega), h1, Nat.sub_self]
 obtain ⟨m, hm⟩ : ∃ m, l.length - i = m + 1 := ⟨l.length - i - 1, by omega⟩
 rw [hm, show l.length - (i + 1) = m by omega, List.replicate_succ, List.set_cons_zero, List.take_add_one, ha]
 simp
theorem getD_some {α : Type} (l : List α) (z : α) (i : Nat) (h : i < l.length) : l[i]? = some (l.getD i z) := by
 rw [List.getD_eq_getElem?_getD, List.getElem?_eq_getElem h]
 rfl
theorem obs {α β : Type} (a : α) (f : α → Option β) : (some a).bind f = f a := id (Option.bind_some a f)
def cvReading (x : S82) : S54 := ⟨x.f0, x.f1⟩
theorem toReadingS_l0 (l : List S82) (hl : l.length ≤ 4611686018427387904) (d : Nat) : ∀ (k i : Nat), i + d = l.length → d < k →
  laws_toReadingS.l0 k l ((l.take i).map cvReading ++ List.replicate (l.length - i) z54) i = some (l.map cvReading) := by
 induction d with
 | zero =>
  intro k i hd hk
  obtain ⟨k, rfl⟩ : ∃ m, k = m + 1 := ⟨k - 1, by omega⟩
  simp only [laws_toReadingS.l0]
  rw [if_neg (by omega), List.take_of_length_le (by omega), show l.length - i = 0 by omega]
  simp
 | succ d ih =>
  intro k i hd hk
  obtain ⟨k, rfl⟩ : ∃ m, k = m + 1 := ⟨k - 1, by omega⟩
  simp only [laws_toReadingS.l0, laws_toReading.f, Option.bind_some]
  rw [if_pos (by omega), if_pos (by omega), if_pos (by simp; omega), w64 (by omega) (by omega)]
  have ha : l[i]? = some (rd_T82 l i) := getD_some l z82 i (by omega)
  rw [Int.toNat_natCast]
  have := set_map_step cvReading l z54 i (by omega) _ ha
  rw [show (⟨(rd_T82 l i).f0, (rd_T82 l i).f1⟩ : S54) = cvReading (rd_T82 l i) from rfl, this]
  exact ih k (i + 1) (by omega) (by omega)
theorem toReadingS_eq {l : List S82} (hl : l.length * 16 ≤ 140737488351232) {k : Nat} (hk : l.length < k) : laws_toReadingS.f k l = some (l.map cvReading) := by
 unfold laws_toReadingS.f
 rw [if_pos (by omega), if_pos (by omega), Int.toNat_natCast]
 have := toReadingS_l0 l (by omega) l.length k 0 (by omega) hk
 simpa using this
theorem eqReadingS_self (l : List S54) (hl : l.length ≤ 4611686018427387904) (d : Nat) : ∀ (k : Nat) (i : Int), 0 ≤ i → i + d = l.length → d < k → laws_eqReadingS.l0 k l l i = some true := by
 induction d with
 | zero =>
  intro k i h0 hd hk
  obtain ⟨k, rfl⟩ : ∃ m, k = m + 1 := ⟨k - 1, by omega⟩
  simp only [laws_eqReadingS.l0]
  rw [if_neg (by omega)]
 | succ d ih =>
  intro k i h0 hd hk
  obtain ⟨k, rfl⟩ : ∃ m, k = m + 1 := ⟨k - 1, by omega⟩
  simp only [laws_eqReadingS.l0, laws_eqReading.f, if_true, Option.bind_some]
  rw [if_pos (by omega), if_pos (by omega), if_pos (by omega), w64 (by omega) (by omega)]
  exact ih k (i + 1) (by omega) (by omega) (by omega)
theorem eqReadingS_eq {l : List S54} (hl : l.length ≤ 4611686018427387904) {k : Nat} (hk : l.length < k) : laws_eqReadingS.f k l l = some true := by
 unfold laws_eqReadingS.f
 rw [if_pos rfl]
 exact eqReadingS_self l hl l.length k 0 (by omega) (by omega) hk
def cvSump (x : S24) : S30 := ⟨x.f0, x.f1, x.f2⟩
theorem toSumpS_l0 (l : List S24) (hl : l.length ≤ 4611686018427387904) (d : Nat) : ∀ (k i : Nat), i + d = l.length → d < k →
  laws_toSumpS.l0 k l ((l.take i).map cvSump ++ List.replicate (l.length - i) z30) i = some (l.map cvSump) := by
 induction d with
 | zero =>
  intro k i hd hk
  obtain ⟨k, rfl⟩ : ∃ m, k = m + 1 := ⟨k - 1, by omega⟩
  simp only [laws_toSumpS.l0]
  rw [if_neg (by omega), List.take_of_length_le (by omega), show l.length - i = 0 by omega]
  simp
 | succ d ih =>
  intro k i hd hk
  obtain ⟨k, rfl⟩ : ∃ m, k = m + 1 := ⟨k - 1, by omega⟩
  simp only [laws_toSumpS.l0, laws_toSump.f, Option.bind_some]
  rw [if_pos (by omega), if_pos (by omega), if_pos (by simp; omega), w64 (by omega) (by omega)]
  have ha : l[i]? = some (rd_T24 l i) := getD_some l z24 i (by omega)
  rw [Int.toNat_natCast]
  have := set_map_step cvSump l z30 i (by omega) _ ha
  rw [show (⟨(rd_T24 l i).f0, (rd_T24 l i).f1, (rd_T24 l i).f2⟩ : S30) = cvSump (rd_T24 l i) from rfl, this]
  exact ih k (i + 1) (by omega) (by omega)
theorem toSumpS_eq {l : List S24} (hl : l.length * 24 ≤ 140737488351232) {k : Nat} (hk : l.length < k) : laws_toSumpS.f k l = some (l.map cvSump) := by
 unfold laws_toSumpS.f
 rw [if_pos (by omega), if_pos (by omega), Int.toNat_natCast]
 have := toSumpS_l0 l (by omega) l.length k 0 (by omega) hk
 simpa using this
theorem eqSumpS_self (l : List S30) (hl : l.length ≤ 4611686018427387904) (d : Nat) : ∀ (k : Nat) (i : Int), 0 ≤ i → i + d = l.length → d < k → laws_eqSumpS.l0 k l l i = some true := by
 induction d with
 | zero =>
  intro k i h0 hd hk
  obtain ⟨k, rfl⟩ : ∃ m, k = m + 1 := ⟨k - 1, by omega⟩
  simp only [laws_eqSumpS.l0]
  rw [if_neg (by omega)]
 | succ d ih =>
  intro k i h0 hd hk
  obtain ⟨k, rfl⟩ : ∃ m, k = m + 1 := ⟨k - 1, by omega⟩
  simp only [laws_eqSumpS.l0, laws_eqSump.f, if_true, Option.bind_some]
  rw [if_pos (by omega), if_pos (by omega), if_pos (by omega), w64 (by omega) (by omega)]
  exact ih k (i + 1) (by omega) (by omega) (by omega)
theorem eqSumpS_eq {l : List S30} (hl : l.length ≤ 4611686018427387904) {k : Nat} (hk : l.length < k) : laws_eqSumpS.f k l l = some true := by
 unfold laws_eqSumpS.f
 rw [if_pos rfl]
 exact eqSumpS_self l hl l.length k 0 (by omega) (by omega) hk
theorem l1In_eq (a b c : Int) : spec_l1In.f a b c = some (decide (b ≤ a ∧ a ≤ c)) := by
 unfold spec_l1In.f
 by_cases h : a ≥ b
 ·
  rw [if_pos h]; simp [show b ≤ a from h]
 ·
  rw [if_neg h]; simp [show ¬ b ≤ a from h]
theorem within_eq (a b c : Int) : impl_within.f a b c = some (decide (b ≤ a ∧ a ≤ c)) := by
 unfold impl_within.f
 by_cases h : a ≥ b
 ·
  rw [if_pos h]; simp [show b ≤ a from h]
 ·
  rw [if_neg h]; simp [show ¬ b ≤ a from h]
theorem level_eq (a : Int) : spec_l23Level.f a = some (decide (-500 ≤ a ∧ a ≤ 500)) := by
 unfold spec_l23Level.f; rw [l1In_eq]; rfl
theorem isLevel_eq (a : Int) : impl_isLevel.f a = some (decide (-500 ≤ a ∧ a ≤ 500)) := by
 unfold impl_isLevel.f; rw [within_eq]; rfl
def Vr (l : List S54) (i : Int) : Prop := (0 ≤ (rd_T54 l i).f0 ∧ (rd_T54 l i).f0 ≤ 999) ∧ (-500 ≤ (rd_T54 l i).f1 ∧ (rd_T54 l i).f1 ≤ 500) ∧ (0 < i → (rd_T54 l (i - 1)).f0 < (rd_T54 l i).f0)
theorem good_spec (l : List S54) (hl : l.length ≤ 4611686018427387904) (d : Nat) : ∀ (k : Nat) (i : Int), 0 ≤ i → i + d = l.length → d < k →
  ∃ b, spec_l23Good.l0 k l i = some b ∧ (b = true ↔ (∀ j : Int, i ≤ j → j < l.length → Vr l j) ∧ l.length ≤ 15) := by
 induction d with
 | zero =>
  intro k i h0 hd hk
  obtain ⟨k, rfl⟩ : ∃ m, k = m + 1 := ⟨k - 1, by omega⟩
  refine ⟨_, by simp only [spec_l23Good.l0]; rw [if_neg (by omega)], ?_⟩
  rw [decide_eq_true_eq]
  constructor
  ·
   intro h
   exact ⟨fun j h1 h2 => by omega, by omega⟩
  ·
   intro h
   omega
 | succ d ih =>
  intro k i h0 hd hk
  obtain ⟨k, rfl⟩ : ∃ m, k = m + 1 := ⟨k - 1, by omega⟩
  obtain ⟨b, hb, hiff⟩ := ih k (i + 1) (by omega) (by omega) (by omega)
  have hw : wrap64 (i + 1) = i + 1 := w64 (by omega) (by omega)
  have hw' : wrap64 (i - 1) = i - 1 := w64 (by omega) (by omega)
  simp only [spec_l23Good.l0, l1In_eq, level_eq, Option.bind_some, decide_eq_true_eq, hw, hw']
  rw [if_pos (show i < (l.length : Int) by omega), if_pos h0]
  have hno : ¬ Vr l i → (false = true ↔ (∀ j : Int, i ≤ j → j < l.length → Vr l j) ∧ l.length ≤ 15) := fun hn => ⟨fun h => (by cases h), fun h => absurd (h.1 i (by omega) (by omega)) hn⟩
  have hyes : Vr l i → (b = true ↔ (∀ j : Int, i ≤ j → j < l.length → Vr l j) ∧ l.length ≤ 15) := fun hy => by
   rw [hiff]
   refine ⟨fun h => ⟨fun j h1 h2 => ?_, h.2⟩, fun h => ⟨fun j h1 h2 => h.1 j (by omega) h2, h.2⟩⟩
   by_cases e : j = i
   ·
    rw [e]; exact hy
   ·
    exact h.1 j (by omega) h2
  by_cases h1 : 0 ≤ (rd_T54 l i).f0 ∧ (rd_T54 l i).f0 ≤ 999
  ·
   rw [if_pos h1]
   by_cases h2 : -500 ≤ (rd_T54 l i).f1 ∧ (rd_T54 l i).f1 ≤ 500
   ·
    rw [if_pos h2]
    by_cases h3 : i > 0
    ·
     rw [if_pos h3, if_pos (by omega), if_pos (by omega)]
     by_cases h4 : (rd_T54 l (i - 1)).f0 ≥ (rd_T54 l i).f0
     ·
      rw [if_pos h4]
      exact ⟨_, rfl, hno (fun h => by have := h.2.2 h3; omega)⟩
     ·
      rw [if_neg h4]
      exact ⟨_, hb, hyes ⟨h1, h2, fun _ => by omega⟩⟩
    ·
     rw [if_neg h3]
     exact ⟨_, hb, hyes ⟨h1, h2, fun h => absurd h h3⟩⟩
   ·
    rw [if_neg h2]
    exact ⟨_, rfl, hno (fun h => h2 h.2.1)⟩
  ·
   rw [if_neg h1]
   exact ⟨_, rfl, hno (fun h => h1 h.1)⟩
theorem good_impl (l : List S54) : ∀ (k : Nat) (i : Int), impl_AreReadings.l0 k l l (l.length : Int) i = spec_l23Good.l0 k l i
 | 0, i => by simp only [impl_AreReadings.l0, spec_l23Good.l0]
 | k + 1, i => by
  simp only [impl_AreReadings.l0, spec_l23Good.l0, l1In_eq, level_eq, within_eq, isLevel_eq, good_impl l k]
  by_cases h1 : i < (l.length : Int)
  ·
   simp only [if_pos h1]
  ·
   simp only [if_neg h1]
theorem gcd_impl : ∀ (k : Nat) (a b : Int), b.natAbs < k → -9223372036854775807 ≤ a → a ≤ 9223372036854775807 → -9223372036854775807 ≤ b → b ≤ 9223372036854775807 → impl_gcd.l0 k a b = some (Int.gcd a b : Int)
 | 0, _, _, h, _, _, _, _ => by omega
 | k + 1, a, b, h, ha, ha', hb, hb' => by
  simp only [impl_gcd.l0]
  by_cases e : b = 0
  ·
   rw [if_pos e]
   subst e
   simp only [impl_absolute.f, Option.bind_some]
   rw [w64 (by omega) (by omega), Int.gcd_zero_right]
   unfold mx
   split <;> (congr 1; omega)
  ·
   rw [if_neg e]
   have hm : (Int.tmod a b).natAbs = a.natAbs % b.natAbs := Int.natAbs_tmod a b
   have hlt : a.natAbs % b.natAbs < b.natAbs := Nat.mod_lt _ (by omega)
   rw [gcd_impl k b (Int.tmod a b) (by omega) hb hb' (by omega) (by omega)]
   congr 2
   rw [Int.gcd_comm a b]
   show Nat.gcd b.natAbs (Int.tmod a b).natAbs = Nat.gcd b.natAbs a.natAbs
   rw [hm, Nat.gcd_comm, ← Nat.gcd_rec]
theorem gcd_spec : ∀ (k : Nat) (a b : Int), b.toNat < k → 0 ≤ a → 0 ≤ b → spec_l23Common.l0 k a b = some (Int.gcd a b : Int)
 | 0, _, _, h, _, _ => by omega
 | k + 1, a, b, h, ha, hb => by
  simp only [spec_l23Common.l0]
  by_cases e : b > 0
  ·
   rw [if_pos e, if_neg (by omega)]
   have h1 : 0 ≤ Int.tmod a b := Int.tmod_nonneg b ha
   have h2 : Int.tmod a b < b := Int.tmod_lt_of_pos a e
   rw [gcd_spec k b (Int.tmod a b) (by omega) hb h1]
   congr 2
   rw [Int.gcd_comm a b]
   show Nat.gcd b.natAbs (Int.tmod a b).natAbs = Nat.gcd b.natAbs a.natAbs
   rw [Int.natAbs_tmod, Nat.gcd_comm, ← Nat.gcd_rec]
  ·
   rw [if_neg e]
   obtain rfl : b = 0 := by omega
   rw [Int.gcd_zero_right]
   congr 1
   omega
def red (a b : Int) : Int × Int := (Int.tdiv a (Int.gcd a b), Int.tdiv b (Int.gcd a b))
theorem tdiv_bd (a : Int) (g : Int) (hg : 1 ≤ g) {B : Int} (h1 : -B ≤ a) (h2 : a ≤ B) : -B ≤ Int.tdiv a g ∧ Int.tdiv a g ≤ B := by
 have h3 : (Int.tdiv a g).natAbs ≤ a.natAbs := by
  rw [Int.natAbs_tdiv]
  exact Nat.div_le_self _ _
 omega
theorem red_impl {k : Nat} {a b : Int} (hk : b.natAbs < k) (ha : -1000000000000 ≤ a) (ha' : a ≤ 1000000000000) (hb : 1 ≤ b) (hb' : b ≤ 1000000000000) : impl_reduced.f k a b = some (red a b) := by
 have hg : 1 ≤ (Int.gcd a b : Int) := by
  have : 0 < Int.gcd a b := Int.gcd_pos_of_ne_zero_right a (by omega)
  omega
 have h1 := tdiv_bd a _ hg ha ha'
 have h2 := tdiv_bd b _ hg (B := 1000000000000) (by omega) hb'
 unfold impl_reduced.f impl_gcd.f
 rw [gcd_impl k a b hk (by omega) (by omega) (by omega) (by omega)]
 simp only [Option.bind_some]
 rw [if_neg (by omega), w64 (by omega) (by omega), w64 (by omega) (by omega)]
 rfl
theorem red_spec {k : Nat} {a b : Int} (hk : b.natAbs < k) (ha : -1000000000000 ≤ a) (ha' : a ≤ 1000000000000) (hb : 1 ≤ b) (hb' : b ≤ 1000000000000) : spec_l23Reduce.f k a b = some (red a b) := by
 have hg : 1 ≤ (Int.gcd a b : Int) := by
  have : 0 < Int.gcd a b := Int.gcd_pos_of_ne_zero_right a (by omega)
  omega
 have h1 := tdiv_bd a _ hg ha ha'
 have h2 := tdiv_bd b _ hg (B := 1000000000000) (by omega) hb'
 have hm : spec_l1Most.f a (wrap64 (-a)) = some (a.natAbs : Int) := by
  unfold spec_l1Most.f
  rw [w64 (by omega) (by omega)]
  split <;> (congr 1; omega)
 unfold spec_l23Reduce.f spec_l23Common.f
 rw [hm]
 simp only [Option.bind_some]
 rw [gcd_spec k _ b (by omega) (by omega) (by omega)]
 have e : Int.gcd (a.natAbs : Int) b = Int.gcd a b := by
  show Nat.gcd (a.natAbs : Int).natAbs b.natAbs = Nat.gcd a.natAbs b.natAbs
  rw [Int.natAbs_natCast]
 rw [e]
 simp only [Option.bind_some]
 rw [if_neg (by omega), w64 (by omega) (by omega), w64 (by omega) (by omega)]
 rfl
def Good (l : List S54) : Prop := (∀ j : Int, 0 ≤ j → j < l.length → Vr l j) ∧ l.length ≤ 15
theorem Good.mono {l : List S54} (h : Good l) (d : Nat) : ∀ i j : Int, 0 ≤ i → i + d = j → j < l.length → (rd_T54 l i).f0 + d ≤ (rd_T54 l j).f0 := by
 induction d with
 | zero =>
  intro i j h0 hd hj
  obtain rfl : i = j := by omega
  omega
 | succ d ih =>
  intro i j h0 hd hj
  have h1 := ih i (j - 1) h0 (by omega) (by omega)
  have h2 := (h.1 j (by omega) hj).2.2 (by omega)
  omega
def levelAt (l : List S54) (hour : Int) (i : Int) : Int × Int :=
 if (rd_T54 l i).f0 = hour then ((rd_T54 l i).f1, 1)
 else red ((rd_T54 l (i - 1)).f1 * ((rd_T54 l i).f0 - hour) + (rd_T54 l i).f1 * (hour - (rd_T54 l (i - 1)).f0)) ((rd_T54 l i).f0 - (rd_T54 l (i - 1)).f0)
def First (l : List S54) (hour : Int) (i : Int) : Prop := 0 ≤ i ∧ i < l.length ∧ hour ≤ (rd_T54 l i).f0 ∧ (0 < i → (rd_T54 l (i - 1)).f0 < hour)
theorem prod_bd {a b : Int} (h1 : -500 ≤ a) (h2 : a ≤ 500) (h3 : 0 ≤ b) (h4 : b ≤ 999) : -499500 ≤ a * b ∧ a * b ≤ 499500 := by
 constructor
 ·
  have : (-500) * b ≤ a * b := Int.mul_le_mul_of_nonneg_right h1 h3
  omega
 ·
  have : a * b ≤ 500 * b := Int.mul_le_mul_of_nonneg_right h2 h3
  omega
theorem in_spec {l : List S54} (hg : Good l) {hour n : Int} (hn : First l hour n) (hf : (rd_T54 l 0).f0 ≤ hour) (d : Nat) : ∀ (k : Nat) (i : Int), 0 ≤ i → i + d = n → d + 1001 < k →
  spec_l23In.l0 k l hour i = some (levelAt l hour n) := by
 obtain ⟨n0, n1, n2, n3⟩ := hn
 induction d with
 | zero =>
  intro k i h0 hd hk
  obtain ⟨k, rfl⟩ : ∃ m, k = m + 1 := ⟨k - 1, by omega⟩
  obtain rfl : i = n := by omega
  have hl := hg.2
  simp only [spec_l23In.l0]
  rw [if_pos h0, if_pos n1, if_neg (by omega)]
  unfold levelAt
  by_cases e : (rd_T54 l i).f0 = hour
  ·
   rw [if_pos e, if_pos e]
  ·
   have hi : 0 < i := by
    rcases Int.lt_or_le 0 i with h | h
    ·
     exact h
    ·
     obtain rfl : i = 0 := by omega
     omega
   obtain ⟨⟨v1, v2⟩, ⟨v3, v4⟩, v5⟩ := hg.1 i h0 n1
   obtain ⟨⟨u1, u2⟩, ⟨u3, u4⟩, _⟩ := hg.1 (i - 1) (by omega) (by omega)
   have hp := n3 hi
   have b1 := prod_bd u3 u4 (b := (rd_T54 l i).f0 - hour) (by omega) (by omega)
   have b2 := prod_bd v3 v4 (b := hour - (rd_T54 l (i - 1)).f0) (by omega) (by omega)
   rw [if_neg e, if_neg e, w64 (x := i - 1) (by omega) (by omega), if_pos (by omega), if_pos (by omega)]
   rw [w64 (x := (rd_T54 l i).f0 - hour) (by omega) (by omega), w64 (x := hour - (rd_T54 l (i - 1)).f0) (by omega) (by omega), w64 (x := (rd_T54 l (i - 1)).f1 * _) (by omega) (by omega), w64 (x := (rd_T54 l i).f1 * _) (by omega) (by omega), w64 (by omega) (by omega), w64 (by omega) (by omega)]
   rw [red_spec (by omega) (by omega) (by omega) (by omega) (by omega)]
   rfl
 | succ d ih =>
  intro k i h0 hd hk
  obtain ⟨k, rfl⟩ : ∃ m, k = m + 1 := ⟨k - 1, by omega⟩
  have hl := hg.2
  have hm := Good.mono hg d i (n - 1) h0 (by omega) (by omega)
  have hp := n3 (by omega)
  simp only [spec_l23In.l0]
  rw [if_pos h0, if_pos (by omega), if_pos (by omega), w64 (x := i + 1) (by omega) (by omega)]
  exact ih k (i + 1) (by omega) (by omega) (by omega)
theorem in_impl {l : List S54} (hg : Good l) {hour n : Int} (hn : First l hour n) (hf : (rd_T54 l 0).f0 ≤ hour) (d : Nat) : ∀ (k : Nat) (i : Int), 0 ≤ i → (rd_T54 l i).f0 ≤ hour → i + d = n → d + 1001 < k →
  impl_levelIn.l0 k l hour i = some (levelAt l hour n) := by
 obtain ⟨n0, n1, n2, n3⟩ := hn
 have hl := hg.2
 induction d with
 | zero =>
  intro k i h0 hle hd hk
  obtain ⟨k, rfl⟩ : ∃ m, k = m + 1 := ⟨k - 1, by omega⟩
  obtain rfl : i = n := by omega
  have e : (rd_T54 l i).f0 = hour := by omega
  simp only [impl_levelIn.l0]
  rw [w64 (x := i + 1) (by omega) (by omega)]
  unfold levelAt
  by_cases h1 : i + 1 < (l.length : Int)
  ·
   have := (hg.1 (i + 1) (by omega) h1).2.2 (by omega)
   rw [show i + 1 - 1 = i by omega] at this
   rw [if_pos h1, if_pos (by omega), if_neg (by omega), if_pos h0, if_pos n1, if_pos e, if_pos e]
  ·
   rw [if_neg h1, if_pos h0, if_pos n1, if_pos e, if_pos e]
 | succ d ih =>
  intro k i h0 hle hd hk
  obtain ⟨k, rfl⟩ : ∃ m, k = m + 1 := ⟨k - 1, by omega⟩
  simp only [impl_levelIn.l0]
  rw [w64 (x := i + 1) (by omega) (by omega), if_pos (by omega), if_pos (by omega)]
  by_cases h1 : (rd_T54 l (i + 1)).f0 ≤ hour
  ·
   rw [if_pos h1]
   exact ih k (i + 1) (by omega) h1 (by omega) (by omega)
  ·
   have hd0 : d = 0 := by
    rcases Nat.eq_zero_or_pos d with h | h
    ·
     exact h
    ·
     have hm := Good.mono hg (d - 1) (i + 1) (n - 1) (by omega) (by omega) (by omega)
     have hp := n3 (by omega)
     omega
   subst hd0
   obtain rfl : n = i + 1 := by omega
   have hp := n3 (by omega)
   rw [show i + 1 - 1 = i by omega] at hp
   unfold levelAt
   rw [show i + 1 - 1 = i by omega]
   obtain ⟨⟨v1, v2⟩, ⟨v3, v4⟩, v5⟩ := hg.1 (i + 1) (by omega) n1
   obtain ⟨⟨u1, u2⟩, ⟨u3, u4⟩, _⟩ := hg.1 i (by omega) (by omega)
   have b1 := prod_bd u3 u4 (b := (rd_T54 l (i + 1)).f0 - hour) (by omega) (by omega)
   have b2 := prod_bd v3 v4 (b := hour - (rd_T54 l i).f0) (by omega) (by omega)
   rw [if_neg h1, if_pos h0, if_pos (by omega), if_neg (by omega), if_neg (by omega)]
   rw [w64 (x := (rd_T54 l (i + 1)).f0 - hour) (by omega) (by omega), w64 (x := hour - (rd_T54 l i).f0) (by omega) (by omega), w64 (x := (rd_T54 l i).f1 * _) (by omega) (by omega), w64 (x := (rd_T54 l (i + 1)).f1 * _) (by omega) (by omega), w64 (by omega) (by omega), w64 (by omega) (by omega)]
   rw [red_impl (by omega) (by omega) (by omega) (by omega) (by omega)]
   rfl
theorem first_ex {l : List S54} {hour : Int} (h2 : hour ≤ (rd_T54 l ((l.length : Int) - 1)).f0) (d : Nat) : ∀ i : Int, 0 ≤ i → i + d + 1 = l.length → (0 < i → (rd_T54 l (i - 1)).f0 < hour) → ∃ n, First l hour n := by
 induction d with
 | zero =>
  intro i h0 hd h3
  refine ⟨i, h0, by omega, ?_, h3⟩
  rw [show i = (l.length : Int) - 1 by omega]
  exact h2
 | succ d ih =>
  intro i h0 hd h3
  by_cases h4 : hour ≤ (rd_T54 l i).f0
  ·
   exact ⟨i, h0, by omega, h4, h3⟩
  ·
   exact ih (i + 1) (by omega) (by omega) (fun _ => by rw [show i + 1 - 1 = i by omega]; omega)
theorem sump_eq (a b c : Int) : impl_isSump.f a b c = spec_l23Sump.f a b c := by
 unfold impl_isSump.f spec_l23Sump.f impl_isStation.f spec_l4Station.f
 simp only [within_eq, l1In_eq, level_eq, isLevel_eq, Option.bind_some, decide_eq_true_eq]
 by_cases h1 : 0 ≤ a ∧ a ≤ 7
 ·
  rw [if_pos h1, if_pos h1]
  by_cases h2 : -500 ≤ b ∧ b ≤ 500
  ·
   rw [if_pos h2, if_pos h2]
   by_cases h3 : -500 ≤ c ∧ c ≤ 500
   ·
    rw [if_pos h3]
    congr 1
    simp [h3.1]
   ·
    rw [if_neg h3]
    congr 1
    symm
    rw [decide_eq_false_iff_not]
    omega
  ·
   rw [if_neg h2, if_neg h2]
 ·
  rw [if_neg h1, if_neg h1]
def SumpOk (a b c : Int) : Prop := (0 ≤ a ∧ a ≤ 7) ∧ (-500 ≤ b ∧ b ≤ 500) ∧ (-500 ≤ c ∧ c ≤ b)
theorem sump_spec (a b c : Int) : ∃ r, spec_l23Sump.f a b c = some r ∧ (r = true ↔ SumpOk a b c) := by
 unfold spec_l23Sump.f spec_l4Station.f SumpOk
 simp only [l1In_eq, level_eq, Option.bind_some, decide_eq_true_eq]
 by_cases h1 : 0 ≤ a ∧ a ≤ 7
 ·
  rw [if_pos h1]
  by_cases h2 : -500 ≤ b ∧ b ≤ 500
  ·
   rw [if_pos h2]
   exact ⟨_, rfl, by simp [h1, h2]⟩
  ·
   rw [if_neg h2]
   exact ⟨_, rfl, by simp; intro _ _ h3 h4; exact absurd ⟨h3, h4⟩ h2⟩
 ·
  rw [if_neg h1]
  exact ⟨_, rfl, by simp; intro h3 h4; exact absurd ⟨h3, h4⟩ h1⟩
theorem within_spec {l : List S54} (hl : l.length ≤ 4611686018427387904) {k : Nat} (hk : l.length < k) (hour : Int) :
  ∃ b, spec_l23Within.f k l hour = some b ∧ (b = true ↔ Good l ∧ 0 < l.length ∧ (rd_T54 l 0).f0 ≤ hour ∧ hour ≤ (rd_T54 l ((l.length : Int) - 1)).f0) := by
 obtain ⟨b, hb, hi⟩ := good_spec l hl l.length k 0 (by omega) (by omega) hk
 unfold spec_l23Within.f spec_l23Good.f
 rw [hb]
 simp only [Option.bind_some, l1In_eq]
 cases b with
 | false =>
  refine ⟨false, by rw [if_neg (by decide)], ?_⟩
  simp only [Bool.false_eq_true, false_iff]
  intro h
  exact absurd (hi.2 h.1) (by decide)
 | true =>
  have hg : Good l := hi.1 rfl
  rw [if_pos rfl]
  by_cases h : (l.length : Int) > 0
  ·
   rw [if_pos h, if_pos h, w64 (by omega) (by omega), if_pos (by omega), if_pos (by omega)]
   refine ⟨_, rfl, ?_⟩
   rw [decide_eq_true_eq]
   exact ⟨fun h' => ⟨hg, by omega, h'.1, h'.2⟩, fun h' => ⟨h'.2.2.1, h'.2.2.2⟩⟩
  ·
   rw [if_neg h]
   refine ⟨false, rfl, ?_⟩
   simp only [Bool.false_eq_true, false_iff]
   intro h'
   omega
theorem open_fn {l : List S54} (hg : Good l) {hour : Int} (h0 : 0 < l.length) (h1 : (rd_T54 l 0).f0 ≤ hour) (h2 : hour ≤ (rd_T54 l ((l.length : Int) - 1)).f0) :
  ∃ F : Int → Int → Int → Bool, ∀ (k : Nat), 1020 < k → ∀ a b c, spec_l23Open.f k l a b c hour = some (F a b c) ∧ impl_Sump_open.f k a b c l hour = some (F a b c) := by
 obtain ⟨n, hn⟩ := first_ex h2 (l.length - 1) 0 (by omega) (by omega) (fun h => by omega)
 have hl := hg.2
 have hn0 := hn.1
 have hn1 := hn.2.1
 refine ⟨fun a b c => decide ((levelAt l hour n).1 ≤ wrap64 (c * (levelAt l hour n).2)), fun k hk a b c => ?_⟩
 have e1 := in_spec hg hn h1 n.toNat k 0 (by omega) (by omega) (by omega)
 have e2 := in_impl hg hn h1 n.toNat k 0 (by omega) h1 (by omega) (by omega)
 unfold spec_l23Open.f impl_Sump_open.f spec_l23In.f impl_levelIn.f
 rw [e1, e2]
 exact ⟨rfl, rfl⟩
def Vs (l : List S30) (i : Int) : Prop := SumpOk (rd_T30 l i).f0 (rd_T30 l i).f1 (rd_T30 l i).f2 ∧ (0 < i → (rd_T30 l (i - 1)).f0 < (rd_T30 l i).f0)
theorem sumps_spec (l : List S30) (hl : l.length ≤ 4611686018427387904) (d : Nat) : ∀ (k : Nat) (i : Int), 0 ≤ i → i + d = l.length → d < k →
  ∃ b, spec_l23Sumps.l0 k l i = some b ∧ (b = true ↔ ∀ j : Int, i ≤ j → j < l.length → Vs l j) := by
 induction d with
 | zero =>
  intro k i h0 hd hk
  obtain ⟨k, rfl⟩ : ∃ m, k = m + 1 := ⟨k - 1, by omega⟩
  refine ⟨true, by simp only [spec_l23Sumps.l0]; rw [if_neg (by omega)], ?_⟩
  exact ⟨fun _ j h1 h2 => by omega, fun _ => rfl⟩
 | succ d ih =>
  intro k i h0 hd hk
  obtain ⟨k, rfl⟩ : ∃ m, k = m + 1 := ⟨k - 1, by omega⟩
  obtain ⟨b, hb, hiff⟩ := ih k (i + 1) (by omega) (by omega) (by omega)
  have hw : wrap64 (i + 1) = i + 1 := w64 (by omega) (by omega)
  have hw' : wrap64 (i - 1) = i - 1 := w64 (by omega) (by omega)
  obtain ⟨y, hy, hyi⟩ := sump_spec (rd_T30 l i).f0 (rd_T30 l i).f1 (rd_T30 l i).f2
  simp only [spec_l23Sumps.l0, hy, Option.bind_some, hw, hw']
  rw [if_pos (show i < (l.length : Int) by omega), if_pos h0]
  have hno : ¬ Vs l i → (false = true ↔ ∀ j : Int, i ≤ j → j < l.length → Vs l j) := fun hn => ⟨fun h => (by cases h), fun h => absurd (h i (by omega) (by omega)) hn⟩
  have hyes : Vs l i → (b = true ↔ ∀ j : Int, i ≤ j → j < l.length → Vs l j) := fun hy => by
   rw [hiff]
   refine ⟨fun h => fun j h1 h2 => ?_, fun h => fun j h1 h2 => h j (by omega) h2⟩
   by_cases e : j = i
   ·
    rw [e]; exact hy
   ·
    exact h j (by omega) h2
  cases y with
  | false =>
   rw [if_neg (by decide)]
   exact ⟨_, rfl, hno (fun h => by have := hyi.2 h.1; cases this)⟩
  | true =>
   rw [if_pos rfl]
   have h1 := hyi.1 rfl
   by_cases h3 : i > 0
   ·
    rw [if_pos h3, if_pos (by omega), if_pos (by omega)]
    by_cases h4 : (rd_T30 l (i - 1)).f0 ≥ (rd_T30 l i).f0
    ·
     rw [if_pos h4]
     exact ⟨_, rfl, hno (fun h => by have := h.2 h3; omega)⟩
    ·
     rw [if_neg h4]
     exact ⟨_, hb, hyes ⟨h1, fun _ => by omega⟩⟩
   ·
    rw [if_neg h3]
    exact ⟨_, hb, hyes ⟨h1, fun h => absurd h h3⟩⟩
theorem sumps_impl (l : List S30) : ∀ (k : Nat) (i : Int), impl_AreSumps.l0 k l l (l.length : Int) i = spec_l23Sumps.l0 k l i
 | 0, i => by simp only [impl_AreSumps.l0, spec_l23Sumps.l0]
 | k + 1, i => by
  simp only [impl_AreSumps.l0, spec_l23Sumps.l0, sump_eq, sumps_impl l k]
  by_cases h1 : i < (l.length : Int)
  ·
   simp only [if_pos h1]
  ·
   simp only [if_neg h1]
def Sumps (l : List S30) : Prop := ∀ j : Int, 0 ≤ j → j < l.length → Vs l j
theorem areSumps {l : List S30} (hl : l.length ≤ 4611686018427387904) {k : Nat} (hk : l.length < k) : ∃ b, spec_l23Sumps.f k l = some b ∧ impl_AreSumps.f k l = some b ∧ (b = true ↔ Sumps l) := by
 obtain ⟨b, hb, hi⟩ := sumps_spec l hl l.length k 0 (by omega) (by omega) hk
 exact ⟨b, hb, (sumps_impl l k 0).trans hb, hi⟩
def closedOf (F : Int → Int → Int → Bool) (s : List S30) : List Int := (s.filter fun x => !F x.f0 x.f1 x.f2).map (·.f0)
theorem closedOf_cons (F : Int → Int → Int → Bool) (x : S30) (s : List S30) : closedOf F (x :: s) = if F x.f0 x.f1 x.f2 = true then closedOf F s else x.f0 :: closedOf F s := by
 unfold closedOf
 cases h : F x.f0 x.f1 x.f2
 ·
  simp [List.filter_cons, h]
 ·
  simp [List.filter_cons, h]
theorem drop_rd (s : List S30) (i : Nat) (h : i < s.length) : s.drop i = rd_T30 s (i : Int) :: s.drop (i + 1) := by
 rw [List.drop_eq_getElem_cons h]
 congr 1
 show _ = s.getD (i : Int).toNat _
 rw [Int.toNat_natCast, List.getD_eq_getElem?_getD, List.getElem?_eq_getElem h]
 rfl
theorem closed_l0 {l : List S54} {hour : Int} {F : Int → Int → Int → Bool} (hF : ∀ (k : Nat), 1020 < k → ∀ a b c, spec_l23Open.f k l a b c hour = some (F a b c) ∧ impl_Sump_open.f k a b c l hour = some (F a b c))
  (s : List S30) (hs : s.length ≤ 17592186044416) (d : Nat) : ∀ (k i : Nat) (acc : List Int), i + d = s.length → d + 1020 < k → acc.length ≤ i →
  spec_l23Closed.l0 k l s hour acc i = some (acc ++ closedOf F (s.drop i)) ∧ impl_ClosedSumps.l0 k l hour acc s (s.length : Int) i = some (acc ++ closedOf F (s.drop i), true) := by
 induction d with
 | zero =>
  intro k i acc hd hk ha
  obtain ⟨k, rfl⟩ : ∃ m, k = m + 1 := ⟨k - 1, by omega⟩
  simp only [spec_l23Closed.l0, impl_ClosedSumps.l0]
  rw [if_neg (by omega), if_neg (by omega), List.drop_eq_nil_of_le (by omega)]
  simp [closedOf]
 | succ d ih =>
  intro k i acc hd hk ha
  obtain ⟨k, rfl⟩ : ∃ m, k = m + 1 := ⟨k - 1, by omega⟩
  simp only [spec_l23Closed.l0, impl_ClosedSumps.l0]
  obtain ⟨e1, e2⟩ := hF k (by omega) (rd_T30 s (i : Int)).f0 (rd_T30 s (i : Int)).f1 (rd_T30 s (i : Int)).f2
  have c1 : (i : Int) < (s.length : Int) := by omega
  have c2 : (0 : Int) ≤ (i : Int) := by omega
  have c3 : acc.length < 17592186044416 := by omega
  rw [e1, e2, w64 (by omega) (by omega), drop_rd s i (by omega), closedOf_cons]
  simp only [Option.bind_some, if_pos c1, if_pos c2, if_pos c3]
  cases hq : F (rd_T30 s (i : Int)).f0 (rd_T30 s (i : Int)).f1 (rd_T30 s (i : Int)).f2 with
  | true =>
   simp only [if_true]
   exact ih k (i + 1) acc (by omega) (by omega) (by omega)
  | false =>
   simp only [Bool.false_eq_true, if_false]
   have := ih k (i + 1) (acc ++ [(rd_T30 s (i : Int)).f0]) (by omega) (by omega) (by simp; omega)
   simpa using this
end Go.Proofs.Ytojaeidabmfajaa.Pr.Pure

namespace Go.Proofs.Ytojaeidabmfajaa.Pr.Pure
open Go.RowKit Go.Proofs.YtojaeidabmfajaaW.PrintWords Go.Proofs.YtojaeidabmfajaaW.PrintLast Go.Proofs.YtojaeidabmfajaaW.PrintMore
set_option linter.unusedVariables false
def runF (p : Int → Bool) (c : Int) : Nat → Int → Int → Option Int
 | 0, _, _ => none
 | n + 1, x, run => if p x = true then (if run + 1 = c then some (x - c + 1) else runF p c n (x + 1) (run + 1)) else runF p c n (x + 1) 0
theorem spansB_ext (p : Int → Bool) : ∀ (n : Nat) (x : Int) (Q : List (Int × Int)) (a b : Int) (T : List (Int × Int)), ∃ y U, b ≤ y ∧ spansB p n x (Q ++ (a, b) :: T) = Q ++ (a, y) :: U := by
 intro n
 induction n with
 | zero => intro x Q a b T; exact ⟨b, T, Int.le_refl _, rfl⟩
 | succ n ih =>
  intro x Q a b T
  unfold spansB
  by_cases h : p x = true
  ·
   rw [if_pos h]
   rcases List.eq_nil_or_concat T with rfl | ⟨T', s, rfl⟩
   ·
    by_cases e : b = x - 1
    ·
     subst e
     rw [stepS_ext]
     obtain ⟨y, U, h1, h2⟩ := ih (x + 1) Q a x []
     exact ⟨y, U, by omega, h2⟩
    ·
     rw [stepS_new _ _ (fun s hs => by rw [List.getLast?_concat] at hs; obtain rfl := Option.some.inj hs; exact e)]
     rw [List.append_assoc]
     exact ih (x + 1) Q a b [(x, x)]
   ·
    have e1 : Q ++ (a, b) :: T'.concat s = (Q ++ (a, b) :: T') ++ [s] := by simp
    rw [e1]
    by_cases e : s.2 = x - 1
    ·
     obtain ⟨s1, s2⟩ := s
     simp only at e
     subst e
     rw [stepS_ext, List.append_assoc, List.cons_append]
     exact ih (x + 1) Q a b _
    ·
     rw [stepS_new _ _ (fun s' hs => by rw [List.getLast?_concat] at hs; obtain rfl := Option.some.inj hs; exact e)]
     rw [List.append_assoc, List.append_assoc, List.cons_append]
     exact ih (x + 1) Q a b _
  ·
   rw [if_neg h]
   exact ih (x + 1) Q a b T
theorem find_ext (p : Int → Bool) (c : Int) (n : Nat) (x : Int) (Q : List (Int × Int)) (a b : Int) (hQ : ∀ s ∈ Q, s.2 - s.1 + 1 < c) (hb : c ≤ b - a + 1) : ((spansB p n x (Q ++ [(a, b)])).find? (fun s => decide (c ≤ s.2 - s.1 + 1))).map (·.1) = some a := by
 obtain ⟨y, U, h1, h2⟩ := spansB_ext p n x Q a b []
 rw [h2, List.find?_append]
 have : Q.find? (fun s => decide (c ≤ s.2 - s.1 + 1)) = none := by
  rw [List.find?_eq_none]
  intro s hs
  have := hQ s hs
  simp only [decide_eq_true_eq]
  omega
 rw [this]
 simp only [Option.none_or]
 rw [List.find?_cons_of_pos (by simp only [decide_eq_true_eq]; omega)]
 rfl
theorem find_run (p : Int → Bool) (c : Int) (hc : 1 ≤ c) : ∀ (n : Nat) (x run : Int) (acc : List (Int × Int)), (∀ s ∈ acc, s.2 - s.1 + 1 < c ∧ s.2 < x) → run < c → ((run = 0 ∧ ∀ s ∈ acc, s.2 ≠ x - 1) ∨ (0 < run ∧ ∃ Q, acc = Q ++ [(x - run, x - 1)])) →
  ((spansB p n x acc).find? (fun s => decide (c ≤ s.2 - s.1 + 1))).map (·.1) = runF p c n x run := by
 intro n
 induction n with
 | zero =>
  intro x run acc h hr hrel
  unfold spansB runF
  rw [List.find?_eq_none.2 (fun s hs => by have := (h s hs).1; simp only [decide_eq_true_eq]; omega)]
  rfl
 | succ n ih =>
  intro x run acc h hr hrel
  unfold spansB runF
  by_cases hp : p x = true
  ·
   rw [if_pos hp, if_pos hp]
   rcases hrel with ⟨rfl, hl⟩ | ⟨hr0, Q, rfl⟩
   ·
    rw [stepS_new _ _ (fun s hs => hl s (List.mem_of_getLast? hs))]
    by_cases e : (0 : Int) + 1 = c
    ·
     rw [if_pos e, find_ext p c n (x + 1) acc x x (fun s hs => (h s hs).1) (by omega)]
     congr 1
     omega
    ·
     rw [if_neg e]
     refine ih (x + 1) (0 + 1) _ (fun s hs => ?_) (by omega) (.inr ⟨by omega, acc, ?_⟩)
     ·
      rcases List.mem_append.1 hs with hs | hs
      ·
       have := h s hs
       exact ⟨this.1, by omega⟩
      ·
       obtain rfl := List.mem_singleton.1 hs
       constructor <;> simp only <;> omega
     ·
      rw [show x + 1 - (0 + 1) = x by omega, show x + 1 - 1 = x by omega]
   ·
    rw [stepS_ext]
    have hQ : ∀ s ∈ Q, s.2 - s.1 + 1 < c ∧ s.2 < x := fun s hs => h s (List.mem_append_left _ hs)
    by_cases e : run + 1 = c
    ·
     rw [if_pos e, find_ext p c n (x + 1) Q (x - run) x (fun s hs => (hQ s hs).1) (by omega)]
     congr 1
     omega
    ·
     rw [if_neg e]
     refine ih (x + 1) (run + 1) _ (fun s hs => ?_) (by omega) (.inr ⟨by omega, Q, ?_⟩)
     ·
      rcases List.mem_append.1 hs with hs | hs
      ·
       have := hQ s hs
       exact ⟨this.1, by omega⟩
      ·
       obtain rfl := List.mem_singleton.1 hs
       constructor <;> simp only <;> omega
     ·
      rw [show x + 1 - (run + 1) = x - run by omega, show x + 1 - 1 = x by omega]
  ·
   rw [if_neg hp, if_neg hp]
   refine ih (x + 1) 0 acc (fun s hs => ?_) (by omega) (.inl ⟨rfl, fun s hs => ?_⟩)
   ·
    have := h s hs
    exact ⟨this.1, by omega⟩
   ·
    have := (h s hs).2
    omega
theorem spansB_skip (p : Int → Bool) : ∀ (n : Nat) (x : Int) (acc : List (Int × Int)), (∀ y, x ≤ y → y < x + n → p y = false) → spansB p n x acc = acc := by
 intro n
 induction n with
 | zero => intro x acc _; rfl
 | succ n ih =>
  intro x acc h
  unfold spansB
  rw [if_neg (by rw [h x (Int.le_refl _) (by omega)]; decide)]
  exact ih (x + 1) acc (fun y h1 h2 => h y (by omega) (by omega))
theorem spansB_add (p : Int → Bool) : ∀ (n m : Nat) (x : Int) (acc : List (Int × Int)), spansB p (n + m) x acc = spansB p m (x + n) (spansB p n x acc) := by
 intro n
 induction n with
 | zero => intro m x acc; simp [spansB]
 | succ n ih =>
  intro m x acc
  rw [show n + 1 + m = (n + m) + 1 by omega]
  simp only [spansB]
  rw [ih]
  congr 1
  omega
theorem spansB_congr (p q : Int → Bool) : ∀ (n : Nat) (x : Int) (acc : List (Int × Int)), (∀ y, x ≤ y → y < x + n → p y = q y) → spansB p n x acc = spansB q n x acc := by
 intro n
 induction n with
 | zero => intro x acc _; rfl
 | succ n ih =>
  intro x acc h
  simp only [spansB]
  rw [h x (Int.le_refl _) (by omega)]
  exact ih (x + 1) _ (fun y h1 h2 => h y (by omega) (by omega))
def Wi (l : List S54) (x : Int) : Prop := 0 < l.length ∧ (rd_T54 l 0).f0 ≤ x ∧ x ≤ (rd_T54 l ((l.length : Int) - 1)).f0
instance (l : List S54) (x : Int) : Decidable (Wi l x) := by unfold Wi; infer_instance
def Op (l : List S54) (x a b c : Int) : Bool := (impl_Sump_open.f 2000 a b c l x).getD false
theorem op_both {l : List S54} (hg : Good l) {x : Int} (hw : Wi l x) {k : Nat} (hk : 1020 < k) (a b c : Int) : spec_l23Open.f k l a b c x = some (Op l x a b c) ∧ impl_Sump_open.f k a b c l x = some (Op l x a b c) := by
 obtain ⟨F, hF⟩ := open_fn hg hw.1 hw.2.1 hw.2.2
 have e := (hF 2000 (by decide) a b c).2
 have e2 := hF k hk a b c
 have : Op l x a b c = F a b c := by
  unfold Op
  rw [e]
  rfl
 rw [this]
 exact e2
theorem wi_spec {l : List S54} (hg : Good l) {k : Nat} (hk : 1000 < k) (x : Int) : spec_l23Within.f k l x = some (decide (Wi l x)) := by
 have hl := hg.2
 obtain ⟨b, hb, hi⟩ := within_spec (l := l) (by omega) (k := k) (by omega) x
 rw [hb]
 congr 1
 rw [Bool.eq_iff_iff, hi, decide_eq_true_eq]
 exact ⟨fun h => h.2, fun h => ⟨hg, h⟩⟩
theorem spansB_bd (p : Int → Bool) (A : Int) : ∀ (n : Nat) (x : Int) (acc : List (Int × Int)), A ≤ x → (∀ s ∈ acc, A ≤ s.1 ∧ s.1 ≤ s.2 ∧ s.2 < x) → ∀ s ∈ spansB p n x acc, A ≤ s.1 ∧ s.1 ≤ s.2 ∧ s.2 < x + n := by
 intro n
 induction n with
 | zero => intro x acc _ h s hs; have := h s hs; omega
 | succ n ih =>
  intro x acc hA h s hs
  simp only [spansB] at hs
  have h2 : ∀ s ∈ (if p x = true then stepS acc x else acc), A ≤ s.1 ∧ s.1 ≤ s.2 ∧ s.2 < x + 1 := by
   intro s hs
   by_cases hp : p x = true
   ·
    rw [if_pos hp] at hs
    rcases List.eq_nil_or_concat acc with rfl | ⟨Q, t, rfl⟩
    ·
     rw [stepS_new _ _ (fun s hs => by simp at hs)] at hs
     obtain rfl := List.mem_singleton.1 (by simpa using hs)
     simp only
     omega
    ·
     rw [List.concat_eq_append] at hs h
     obtain ⟨a, b⟩ := t
     have ht := h (a, b) (by simp)
     simp only at ht
     by_cases e : b = x - 1
     ·
      subst e
      rw [stepS_ext] at hs
      rcases List.mem_append.1 hs with hs | hs
      ·
       have := h s (List.mem_append_left _ hs)
       omega
      ·
       obtain rfl := List.mem_singleton.1 hs
       simp only
       omega
     ·
      rw [stepS_new _ _ (fun s hs => by rw [List.getLast?_concat] at hs; obtain rfl := Option.some.inj hs; exact e)] at hs
      rcases List.mem_append.1 hs with hs | hs
      ·
       have := h s hs
       omega
      ·
       obtain rfl := List.mem_singleton.1 hs
       simp only
       omega
   ·
    rw [if_neg hp] at hs
    have := h s hs
    omega
  have := ih (x + 1) _ (by omega) h2 s hs
  omega
theorem spansB_wi {l : List S54} (hg : Good l) (h0 : 0 < l.length) (p : Int → Bool) (hp : ∀ x, p x = true → Wi l x) :
  spansB p 1000 0 [] = spansB p ((rd_T54 l ((l.length : Int) - 1)).f0 - (rd_T54 l 0).f0 + 1).toNat (rd_T54 l 0).f0 [] := by
 have a := (hg.1 0 (Int.le_refl 0) (by omega)).1
 have b := (hg.1 ((l.length : Int) - 1) (by omega) (by omega)).1
 have m := Good.mono hg (l.length - 1) 0 ((l.length : Int) - 1) (Int.le_refl 0) (by omega) (by omega)
 have hn : ∀ y, ¬ Wi l y → p y = false := fun y hy => by
  cases h : p y with
  | false => rfl
  | true => exact absurd (hp y h) hy
 obtain ⟨f, hf⟩ : ∃ f, (rd_T54 l 0).f0 = f := ⟨_, rfl⟩
 obtain ⟨L, hL⟩ : ∃ L, (rd_T54 l ((l.length : Int) - 1)).f0 = L := ⟨_, rfl⟩
 rw [hf] at a m ⊢
 rw [hL] at b m ⊢
 obtain ⟨n1, e1⟩ : ∃ n1 : Nat, f = n1 := ⟨f.toNat, by omega⟩
 obtain ⟨n2, e2⟩ : ∃ n2 : Nat, L - f + 1 = n2 := ⟨(L - f + 1).toNat, by omega⟩
 rw [show (1000 : Nat) = n1 + (n2 + (1000 - n1 - n2)) by omega, spansB_add, spansB_skip p n1 0 [] (fun y h1 h2 => hn y (fun hw => by have := hw.2.1; omega)), spansB_add]
 rw [show (0 : Int) + (n1 : Int) = f by omega, show (L - f + 1).toNat = n2 by omega]
 exact spansB_skip p _ _ _ (fun y h1 h2 => hn y (fun hw => by have := hw.2.2; omega))
theorem find_same {α : Type} (p q : α → Bool) : ∀ (L : List α), (∀ s ∈ L, p s = q s) → L.find? p = L.find? q
 | [], _ => rfl
 | a :: L, h => by
  rw [List.find?_cons, List.find?_cons, h a List.mem_cons_self, find_same p q L (fun s hs => h s (List.mem_cons_of_mem _ hs))]
theorem runF_holds (p : Int → Bool) (c : Int) : ∀ (n : Nat) (x run a : Int), 0 ≤ run → (∀ y, x - run ≤ y → y < x → p y = true) → runF p c n x run = some a → ∀ y, a ≤ y → y < a + c → p y = true := by
 intro n
 induction n with
 | zero => intro x run a _ _ h; cases h
 | succ n ih =>
  intro x run a h0 h h1
  unfold runF at h1
  by_cases hp : p x = true
  ·
   rw [if_pos hp] at h1
   by_cases e : run + 1 = c
   ·
    rw [if_pos e] at h1
    injection h1 with h1
    intro y y1 y2
    by_cases ey : y = x
    ·
     rw [ey]; exact hp
    ·
     exact h y (by omega) (by omega)
   ·
    rw [if_neg e] at h1
    exact ih (x + 1) (run + 1) a (by omega) (fun y y1 y2 => by
     by_cases ey : y = x
     ·
      rw [ey]; exact hp
     ·
      exact h y (by omega) (by omega)) h1
  ·
   rw [if_neg hp] at h1
   exact ih (x + 1) 0 a (Int.le_refl 0) (fun y y1 y2 => by omega) h1
def AllOp (l : List S54) (s : List S30) (x : Int) : Bool := decide (Wi l x) && s.all (fun y => Op l x y.f0 y.f1 y.f2)
theorem closedOf_nil (F : Int → Int → Int → Bool) (s : List S30) : ((closedOf F s).length : Int) > 0 ↔ ¬ s.all (fun y => F y.f0 y.f1 y.f2) = true := by
 induction s with
 | nil => simp [closedOf]
 | cons y s ih =>
  rw [closedOf_cons, List.all_cons]
  cases h : F y.f0 y.f1 y.f2 with
  | true => rw [if_pos rfl, ih]; simp
  | false =>
   rw [if_neg (by decide), List.length_cons]
   simp only [Bool.false_and]
   exact ⟨fun _ h => (by cases h), fun _ => (by omega)⟩
theorem closedSpec {l : List S54} (hg : Good l) {x : Int} (hw : Wi l x) (s : List S30) (hs : s.length ≤ 17592186044416) {k : Nat} (hk : s.length + 1020 < k) : spec_l23Closed.f k l s x = some (closedOf (fun a b c => Op l x a b c) s) := by
 have h := (closed_l0 (F := fun a b c => Op l x a b c) (fun k hk a b c => op_both hg hw hk a b c) s hs s.length k 0 [] (by omega) (by omega) (by simp)).1
 unfold spec_l23Closed.f
 rw [show ((0 : Nat) : Int) = 0 from rfl] at h
 rw [h]
 simp
def resF (o : Option Int) : Int × Bool := match o with
 | some a => (a, true)
 | none => (0, false)
theorem openFor_l0 {l : List S54} (hg : Good l) (s : List S30) (hs : s.length ≤ 17592186044416) {c : Int} (hc : 1 ≤ c) (hc' : c ≤ 100) (n : Nat) : ∀ (K : Nat) (x run : Int), x + n = 1000 → 0 ≤ x → 0 ≤ run → run < c → 2 * n + s.length + 1100 < K →
  spec_OpenFor.l0 K l s c run x = some (resF (runF (AllOp l s) c n x run)) := by
 induction n with
 | zero =>
  intro K x run hx h0 r0 r1 hK
  obtain ⟨K, rfl⟩ : ∃ m, K = m + 1 := ⟨K - 1, by omega⟩
  simp only [spec_OpenFor.l0]
  rw [if_neg (by omega)]
  rfl
 | succ n ih =>
  intro K x run hx h0 r0 r1 hK
  obtain ⟨K, rfl⟩ : ∃ m, K = m + 2 := ⟨K - 2, by omega⟩
  have hw1 : wrap64 (run + 1) = run + 1 := w64 (by omega) (by omega)
  have hw2 : wrap64 (x + 1) = x + 1 := w64 (by omega) (by omega)
  have hw3 : wrap64 (wrap64 (x - c) + 1) = x - c + 1 := by rw [w64 (x := x - c) (by omega) (by omega), w64 (by omega) (by omega)]
  simp only [spec_OpenFor.l0]
  rw [if_pos (show x ≤ 999 by omega), wi_spec hg (by omega), obs]
  unfold runF
  have hno : AllOp l s x = false → spec_OpenFor.j2 (K + 1) l s c (run + 1) x true = some (resF (if AllOp l s x = true then if run + 1 = c then some (x - c + 1) else runF (AllOp l s) c n (x + 1) (run + 1) else runF (AllOp l s) c n (x + 1) 0)) := by
   intro h
   simp only [spec_OpenFor.j2, if_true]
   rw [if_neg (by omega), h, if_neg (by decide), hw2]
   exact ih K (x + 1) 0 (by omega) (by omega) (by omega) (by omega) (by omega)
  by_cases hw : Wi l x
  ·
   rw [decide_eq_true hw, if_pos rfl, closedSpec hg hw s hs (by omega), obs, hw1]
   by_cases ha : s.all (fun y => Op l x y.f0 y.f1 y.f2) = true
   ·
    rw [decide_eq_false (fun h => (closedOf_nil _ s).1 h ha)]
    have hA : AllOp l s x = true := by unfold AllOp; rw [decide_eq_true hw, ha]; rfl
    simp only [spec_OpenFor.j2, Bool.false_eq_true, if_false]
    rw [hA, if_pos rfl]
    by_cases e : run + 1 = c
    ·
     rw [if_pos e, if_pos e, hw3]
     rfl
    ·
     rw [if_neg e, if_neg e, hw2]
     exact ih K (x + 1) (run + 1) (by omega) (by omega) (by omega) (by omega) (by omega)
   ·
    rw [decide_eq_true ((closedOf_nil _ s).2 ha)]
    exact hno (by unfold AllOp; rw [Bool.eq_false_iff.mpr ha, Bool.and_false])
  ·
   rw [decide_eq_false hw, if_neg (by decide), hw1]
   exact hno (by unfold AllOp; rw [decide_eq_false hw]; rfl)
theorem opS_eq {l : List S54} (hg : Good l) (s : List S30) {x : Int} (hw : Wi l x) {k : Nat} (hk : 1020 < k) : opS_ k l s x = some (AllOp l s x) := by
 unfold opS_ AllOp
 have e : ∀ y : S30, impl_Sump_open.f k y.f0 y.f1 y.f2 l x = some (Op l x y.f0 y.f1 y.f2) := fun y => (op_both hg hw hk y.f0 y.f1 y.f2).2
 simp only [e, Option.isSome_some, Option.getD_some]
 rw [if_pos (by simp), decide_eq_true hw, Bool.true_and]
 congr 1
 rw [List.not_any_eq_all_not]
 simp
theorem hours_eq {l : List S54} (h0 : 0 < l.length) (hl : l.length ≤ 1000) : impl_hours.f l = some ((rd_T54 l 0).f0, (rd_T54 l ((l.length : Int) - 1)).f0) := by
 unfold impl_hours.f
 have hw : wrap64 ((l.length : Int) - 1) = (l.length : Int) - 1 := w64 (by omega) (by omega)
 rw [hw, if_neg (by omega), if_pos (by omega), if_pos (by omega), if_pos (by omega)]
theorem openFor_both {l : List S54} (hl : l.length ≤ 4611686018427387904) {s : List S30} (hs : s.length ≤ 17592186044416) {k : Nat} (hk : l.length + s.length + 4000 < k) (c : Int) :
  ∃ a b, spec_OpenFor.f k l s c = some (a, b) ∧ impl_OpenFor.f k l s c = some (a, b) ∧ (b = true → Good l ∧ Sumps s ∧ 1 ≤ c ∧ c ≤ 100 ∧ ∀ y, a ≤ y → y < a + c → AllOp l s y = true) := by
 obtain ⟨k, rfl⟩ : ∃ m, k = m + 1 := ⟨k - 1, by omega⟩
 obtain ⟨b1, h1, hi1⟩ := good_spec l hl l.length (k + 1) 0 (by omega) (by omega) (by omega)
 have h1' := (good_impl l (k + 1) 0).trans h1
 obtain ⟨b2, h2, h2', hi2⟩ := areSumps (l := s) (by omega) (k := k + 1) (by omega)
 unfold spec_OpenFor.f impl_OpenFor.f spec_l23Good.f impl_AreReadings.f
 rw [h1, h1', obs, obs]
 cases b1 with
 | false =>
  rw [if_neg (by decide), if_neg (by decide)]
  simp only [spec_OpenFor.j0, if_true]
  exact ⟨0, false, rfl, rfl, fun h => (by cases h)⟩
 | true =>
  rw [if_pos rfl, if_pos rfl, h2, h2', obs, obs]
  cases b2 with
  | false =>
   rw [if_neg (by decide), if_neg (by decide)]
   simp only [spec_OpenFor.j0, if_true]
   exact ⟨0, false, rfl, rfl, fun h => (by cases h)⟩
  | true =>
   have hg : Good l := hi1.1 rfl
   have hl := hg.2
   rw [if_pos rfl, if_pos rfl, l1In_eq, within_eq, obs, obs]
   by_cases hc : 1 ≤ c ∧ c ≤ 100
   ·
    rw [decide_eq_true hc, if_pos rfl]
    simp only [Bool.not_true, spec_OpenFor.j0, Bool.false_eq_true, if_false]
    rw [openFor_l0 hg s hs hc.1 hc.2 1000 k 0 0 (by decide) (by decide) (by decide) (by omega) (by omega)]
    have hfr := find_run (AllOp l s) c hc.1 1000 0 0 [] (fun s hs => by cases hs) (by omega) (.inl ⟨rfl, fun s hs => by cases hs⟩)
    refine ⟨(resF (runF (AllOp l s) c 1000 0 0)).1, (resF (runF (AllOp l s) c 1000 0 0)).2, rfl, ?_, fun hb => ⟨hg, hi2.1 rfl, hc.1, hc.2, ?_⟩⟩
    ·
     have hfs : ∀ L : List (Int × Int), (∀ q ∈ L, (0 : Int) ≤ q.1 ∧ q.1 ≤ q.2 ∧ q.2 < 1000) → firstS_ c L = resF ((L.find? (fun s => decide (c ≤ s.2 - s.1 + 1))).map (·.1)) := by
      intro L hL
      unfold firstS_
      rw [find_same _ (fun s => decide (c ≤ s.2 - s.1 + 1)) L (fun q hq => by
       have := hL q hq
       rw [w64 (x := q.2 - q.1) (by omega) (by omega), w64 (by omega) (by omega)])]
      cases L.find? (fun s => decide (c ≤ s.2 - s.1 + 1)) <;> rfl
     by_cases h0 : 0 < l.length
     ·
      have a := (hg.1 0 (Int.le_refl 0) (by omega)).1
      have b := (hg.1 ((l.length : Int) - 1) (by omega) (by omega)).1
      rw [hours_eq h0 (by omega), obs]
      simp only
      have hop : ∀ x, (rd_T54 l 0).f0 ≤ x → x ≤ (rd_T54 l ((l.length : Int) - 1)).f0 → opS_ (k + 1) l s x = some (AllOp l s x) := fun x x1 x2 => opS_eq hg s ⟨h0, x1, x2⟩ (by omega)
      rw [if_pos ⟨a.1, by omega, List.all_eq_true.2 (fun i hi => by
       have := List.mem_range.1 hi
       rw [hop _ (by omega) (by omega)]
       rfl)⟩]
      rw [spansB_congr (fun x => (opS_ (k + 1) l s x).getD false) (AllOp l s) _ _ _ (fun y y1 y2 => by rw [hop y y1 (by omega)]; rfl)]
      rw [← spansB_wi hg h0 (AllOp l s) (fun x hx => by
       unfold AllOp at hx
       rw [Bool.and_eq_true] at hx
       exact of_decide_eq_true hx.1)]
      rw [hfs _ (fun q hq => by
       have := spansB_bd (AllOp l s) 0 1000 0 [] (Int.le_refl 0) (fun s hs => by cases hs) q hq
       omega), hfr]
     ·
      have hz : l.length = 0 := by omega
      unfold impl_hours.f
      rw [if_pos (by omega), obs]
      simp only
      rw [if_pos ⟨by decide, by decide, by rfl⟩]
      rw [show spansB (fun x => (opS_ (k + 1) l s x).getD false) (-1 - 0 + 1 : Int).toNat 0 [] = [] from rfl]
      rw [← hfr, spansB_skip (AllOp l s) 1000 0 [] (fun y _ _ => by
       unfold AllOp
       rw [decide_eq_false (fun hw => by have := hw.1; omega)]
       rfl)]
      rfl
    ·
     cases hr : runF (AllOp l s) c 1000 0 0 with
     | none => rw [hr] at hb; cases hb
     | some a => exact runF_holds (AllOp l s) c 1000 0 0 a (Int.le_refl 0) (fun y y1 y2 => by omega) hr
   ·
    rw [decide_eq_false hc, if_neg (by decide)]
    simp only [Bool.not_false, spec_OpenFor.j0, if_true]
    exact ⟨0, false, rfl, rfl, fun h => (by cases h)⟩
end Go.Proofs.Ytojaeidabmfajaa.Pr.Pure

namespace Go.Proofs.Ytojaeidabmfajaa.Pr.Pure
open Go.RowKit Go.Proofs.YtojaeidabmfajaaW.PrintWords Go.Proofs.YtojaeidabmfajaaW.PrintLast Go.Proofs.YtojaeidabmfajaaW.PrintMore Go.Proofs.YtojaeidabmfajaaW.Opens
set_option linter.unusedVariables false
set_option linter.unusedSimpArgs false
theorem FnExactOpenFor : FnExactOpenFor.Pure := by
 intro l s c hl hs hh
 obtain ⟨_, hlb, _⟩ := hl
 obtain ⟨_, hsb, _⟩ := hs
 have hlm : (l.map cvReading).length = l.length := List.length_map _
 have hsm : (s.map cvSump).length = s.length := List.length_map _
 obtain ⟨a, b, e1, e2, _⟩ := openFor_both (l := l.map cvReading) (by omega) (s := s.map cvSump) (by omega) (k := l.length + s.length + 5001) (by omega) c
 refine ⟨l.length + s.length + 5001, ?_⟩
 have t1 : ∀ k, l.length < k → laws_toReadingS.f k l = some (l.map cvReading) := fun k hk => toReadingS_eq hlb hk
 have t2 : ∀ k, s.length < k → laws_toSumpS.f k s = some (s.map cvSump) := fun k hk => toSumpS_eq hsb hk
 unfold laws_FnExactOpenFor.f laws_szReadingS.f laws_szSumpS.f
 have g1 : ∀ k, l.length < k → laws_eqReadingS.f k (l.map cvReading) (l.map cvReading) = some true := fun k hk => eqReadingS_eq (by omega) (by omega)
 have g2 : ∀ k, s.length < k → laws_eqSumpS.f k (s.map cvSump) (s.map cvSump) = some true := fun k hk => eqSumpS_eq (by omega) (by omega)
 have hj0 : laws_FnExactOpenFor.j0 (l.length + s.length + 5001) l s (l.map cvReading) (s.map cvSump) false = some true := by
  rw [show l.length + s.length + 5001 = (l.length + s.length + 5000) + 1 from rfl]
  simp only [laws_FnExactOpenFor.j0, Bool.false_eq_true, if_false, t1 _ (show l.length < l.length + s.length + 5000 by omega), t2 _ (show s.length < l.length + s.length + 5000 by omega), g1 _ (show l.length < l.length + s.length + 5000 by omega), g2 _ (show s.length < l.length + s.length + 5000 by omega), Option.bind_some, if_true]
 by_cases hs1 : wrap64 (1048576 - (l.length : Int)) < 0
 ·
  rw [if_pos hs1]
  simp
 ·
  rw [if_neg hs1]
  simp only [Option.bind_some]
  rw [if_neg hs1]
  by_cases hs2 : wrap64 (wrap64 (1048576 - (l.length : Int)) - (s.length : Int)) < 0
  ·
   rw [if_pos hs2]
   simp
  ·
   rw [if_neg hs2]
   simp only [Option.bind_some]
   rw [if_neg hs2, t1 _ (by omega), t2 _ (by omega)]
   simp only [Option.bind_some, e1, e2, if_true, bne_self_eq_false]
   exact hj0
end Go.Proofs.Ytojaeidabmfajaa.Pr.Pure

