/-
What is proved: parts of the law FnCaveRanks: what the functions that it reaches compute, and the plain law.
Conditions: those of each theorem.
-/
import Derived.Test.YteepnlofbfccgaaDoorCFnCaveRanks1
namespace Go.Proofs.YteepnlofbfccgaaDoor.Pr
open Go.RowKit Go.Proofs.YteepnlofbfccgaaDoorW.PrintWords Go.Proofs.YteepnlofbfccgaaDoorW.PrintLast Go.Proofs.YteepnlofbfccgaaDoorW.PrintMore
attribute [local go_sem] max2_int min2_int max_two min_two max_three min_three max_four min_four   -- for this text's walks alone
set_option linter.unusedVariables false
set_option linter.unusedSimpArgs false
theorem heap_new_ (w : World) (cs : Array Value) (t : TypeId) : (w.alloc (.cells cs t)).heap[w.heap.size]? = some (.cells cs t (0, 0)) := by
 show (w.heap.push _)[w.heap.size]? = _
 simp
theorem heap_size_ (w : World) (o : Obj) : (w.alloc o).heap.size = w.heap.size + 1 := by
 show (w.heap.push o).size = _
 simp
def idxP {α : Type} (p : α → Bool) (l : List α) : Int := if l.any p then (l.findIdx p : Int) else -1
theorem idxP_hit {α : Type} (p : α → Bool) (z : α) (l : List α) (k : Nat) (hk : k < l.length) (h : p (l.getD k z) = true) (hb : ∀ j, j < k → p (l.getD j z) = false) : idxP p l = k := by
 have hf : l.findIdx p = k := by
  rw [List.findIdx_eq hk]
  refine ⟨by rw [List.getD_eq_getElem?_getD, List.getElem?_eq_getElem hk] at h; exact h, fun j hj => ?_⟩
  have := hb j hj
  rw [List.getD_eq_getElem?_getD, List.getElem?_eq_getElem (by omega)] at this
  exact this
 unfold idxP
 rw [if_pos, hf]
 rw [List.any_eq_true]
 refine ⟨l[k], List.getElem_mem hk, ?_⟩
 rw [List.getD_eq_getElem?_getD, List.getElem?_eq_getElem hk] at h
 exact h
theorem idxP_miss {α : Type} (p : α → Bool) (z : α) (l : List α) (hb : ∀ j, j < l.length → p (l.getD j z) = false) : idxP p l = -1 := by
 unfold idxP
 rw [if_neg]
 rw [List.any_eq_true]
 rintro ⟨x, hx, hp⟩
 obtain ⟨j, hj, rfl⟩ := List.mem_iff_getElem.1 hx
 have := hb j hj
 rw [List.getD_eq_getElem?_getD, List.getElem?_eq_getElem hj] at this
 rw [show (some l[j]).getD z = l[j] from rfl, hp] at this
 cases this
set_option maxHeartbeats 4000000 in
theorem idx_CaveRow.calls (p : S26 → Bool) (g : Nat) (lb : Array Value) (eg : ∀ args w, (callFunc g args).run Tryd.prog w = .ok (.enter g args) w) (A0 : Option Addr) (c0 : Nat) (l0 : List S26) (w : World) (hr0 : Kd.C k26 w A0 l0.length l0) (hc0 : l0.length ≤ c0)
  (hp : ∀ (W : World) (x : S26), x ∈ l0 → Below w.heap.size w W → Calls Tryd.prog g (#[.agg #[.string x.f0, .int .i64 x.f1, .int .i64 x.f2, .int .i64 x.f3]] ++ lb) W fun e w' => e = .returned (.bool (p x)) ∧ Below w.heap.size w w') :
  Calls Tryd.prog 91 #[.slice A0 l0.length c0, .func (.func g) #[] lb] w fun e w' => e = .returned (.int .i64 (idxP p l0)) ∧ Below w.heap.size w w' := by
 have hL : l0.length ≤ 9223372036854775807 := hr0.2.1
 have HP := Aside0.mk hp
 have HR := Aside0.mk hr0
 clear hp hr0
 go_enter Tryd.func91, Tryd.ntmps91
 go_wp2
 go_loopg [5, 8] l0.length (fun gg _ s8 wr => ∃ kk : Nat, kk ≤ l0.length ∧ l0.length - kk ≤ gg ∧ s8 = .int .i64 kk ∧ Aside0 (Below w.heap.size w wr) ∧ Aside0 (∀ j, j < kk → p (l0.getD j z26) = false))
 case atStart => exact ⟨0, Nat.zero_le _, by omega, rfl, ⟨Below.refl _ w⟩, ⟨fun j hj => absurd hj (Nat.not_lt_zero _)⟩⟩
 case round =>
  obtain ⟨kk, hkk, hg, rfl, BW, AA⟩ := hrel
  by_cases hlt : kk < l0.length
  ·
   have hltz : (kk : Int) < (l0.length : Int) := by omega
   have hk0 : (0 : Int) ≤ (kk : Int) := by omega
   obtain ⟨ad, e0, hx0, hx1, hx2, hx3⟩ := at_T26 HR.out (kk : Int) hk0 hltz
   replace hx0 := (BW.out.cell (World.block_lt_of_cell? w _ hx0)).trans hx0
   replace hx1 := (BW.out.cell (World.block_lt_of_cell? w _ hx1)).trans hx1
   replace hx2 := (BW.out.cell (World.block_lt_of_cell? w _ hx2)).trans hx2
   replace hx3 := (BW.out.cell (World.block_lt_of_cell? w _ hx3)).trans hx3
   have hm : rd_T26 l0 (kk : Int) ∈ l0 := by
    show l0.getD (kk : Int).toNat _ ∈ l0
    rw [Int.toNat_natCast, List.getD_eq_getElem?_getD, List.getElem?_eq_getElem hlt]
    exact List.getElem_mem hlt
   have hcall := HP.out wr (rd_T26 l0 (kk : Int)) hm BW.out
   have hpk : Aside0 (p (rd_T26 l0 (kk : Int)) = p (l0.getD kk z26)) := ⟨rfl⟩
   clear hm
   generalize rd_T26 l0 (kk : Int) = y at hx0 hx1 hx2 hx3 hcall hpk
   subst e0
   rw [Int.toNat_natCast] at hx0 hx1 hx2 hx3
   cases hq : p y with
   | true =>
    rw [hq] at hcall
    go_wp2_with (go_at_fn g; refine hcall.mono ?_; rintro e w' ⟨rfl, hb'⟩)
    go_ret
    refine ⟨?_, hb'⟩
    rw [idxP_hit p z26 l0 kk hlt (hpk.out.symm.trans hq) AA.out]
    rfl
   | false =>
    rw [hq] at hcall
    go_wp2_with (go_at_fn g; refine hcall.mono ?_; rintro e w' ⟨rfl, hb'⟩)
    go_roundg (l0.length - (kk + 1))
    case measure => omega
    case rel =>
     refine ⟨kk + 1, by omega, by omega, by go_num, ⟨hb'⟩, ⟨fun j hj => ?_⟩⟩
     by_cases e : j = kk
     ·
      subst e
      exact hpk.out.symm.trans hq
     ·
      exact AA.out j (by omega)
  ·
   have hltz : ¬ (kk : Int) < (l0.length : Int) := by omega
   have hkl : kk = l0.length := by omega
   go_wp2
   go_ret
   refine ⟨?_, BW.out⟩
   rw [idxP_miss p z26 l0 (fun j hj => AA.out j (by omega))]
   rfl
def atP_ (n : ByteArray) (x : S26) : Bool := x.f0.toList == n.toList
set_option maxHeartbeats 4000000 in
theorem caveAt1_ (gb : Nat) (n : ByteArray) (x : S26) (w : World) (hb : w.heap[gb]? = some (.cells #[.string n] 9 (0, 0))) :
  Calls Tryd.prog 92 (#[.agg #[.string x.f0, .int .i64 x.f1, .int .i64 x.f2, .int .i64 x.f3]] ++ #[.pointer (some ⟨gb, 0, none⟩)]) w fun e w' => e = .returned (.bool (atP_ n x)) ∧ Below w.heap.size w w' := by
 show Calls Tryd.prog 92 #[.agg #[.string x.f0, .int .i64 x.f1, .int .i64 x.f2, .int .i64 x.f3], .pointer (some ⟨gb, 0, none⟩)] w _
 have h0 : w.cell? ⟨gb, 0, none⟩ = some (.string n) := (blk_cell hb 0).trans rfl
 have hB := below_alloc (Below.refl w.heap.size w) (.cells #[.string x.f0, .int .i64 x.f1, .int .i64 x.f2, .int .i64 x.f3] 26)
 replace h0 := (hB.cell (World.block_lt_of_cell? w _ h0)).trans h0
 clear hb
 go_enter Tryd.func92, Tryd.ntmps92
 go_wp2
 go_ret
 exact ⟨rfl, hB⟩
def impl_caveAt.f (k : Nat) (l0 : List S26) (a1 : ByteArray) : Option (Int × Bool) :=
 if 0 ≤ idxP (atP_ a1) l0 then (impl_AreCaves.f k l0).bind fun t => some (idxP (atP_ a1) l0, t) else some (idxP (atP_ a1) l0, false)
set_option maxHeartbeats 4000000 in
set_option maxRecDepth 100000 in
theorem impl_caveAt.calls (k : Nat) (A0 : Option Addr) (c0 : Nat) (l0 : List S26) (a1 : ByteArray) (r1 : Int) (r2 : Bool) (w : World) (hr0 : Kd.C k26 w A0 l0.length l0) (hc0 : l0.length ≤ c0) (h : impl_caveAt.f k l0 a1 = some (r1, r2)) :
  Calls Tryd.prog 66 #[.slice A0 l0.length c0, .string a1] w fun e w' => e = .returned (.tuple #[.int .i64 r1, .bool r2]) ∧ Below w.heap.size w w' := by
 unfold impl_caveAt.f at h
 have hB := below_alloc (Below.refl w.heap.size w) (.cells #[.string a1] 9)
 have hg := heap_new_ w #[.string a1] 9
 have hcall := fun W (hW : Below (w.alloc (.cells #[.string a1] 9)).heap.size (w.alloc (.cells #[.string a1] 9)) W) => idx_CaveRow.calls (atP_ a1) 92 #[.pointer (some ⟨w.heap.size, 0, none⟩)] (fun _ _ => rfl) A0 c0 l0 W (Kd.C_below (Kd.C_below hr0 hB) hW) hc0 (fun W' x hx hW' => by
  refine (caveAt1_ w.heap.size a1 x W' (blk_below (blk_below hg hW) hW')).mono ?_
  rintro e w'' ⟨rfl, hb2⟩
  exact ⟨rfl, below_step hW' hb2⟩)
 have HR := Aside0.mk hr0
 clear hr0
 generalize idxP (atP_ a1) l0 = q at h hcall
 have HC := Aside0.mk hcall
 clear hcall
 by_cases c : 0 ≤ q
 ·
  rw [if_pos c] at h
  obtain ⟨t, e1, h⟩ := Option.bind_eq_some_iff.mp h
  simp only [Option.some.injEq, Prod.mk.injEq] at h
  obtain ⟨rfl, rfl⟩ := h
  have cb : decide (0 ≤ q) = true := decide_eq_true c
  have E1 := Aside0.mk e1
  clear c e1 hg
  go_enter Tryd.func66, Tryd.ntmps66
  go_wp2_with (first | (go_at_call 91; refine (HC.out _ (Below.refl _ _)).mono ?_; rintro e w1 ⟨rfl, hb1⟩; have HB1 := Aside0.mk hb1; clear hb1) | (go_at_call 22; refine (impl_AreCaves.calls k A0 c0 l0 t _ (Kd.C_below (Kd.C_below HR.out hB) HB1.out) hc0 E1.out).mono ?_; rintro e w2 ⟨rfl, hb2⟩))
  go_ret2
  exact ⟨rfl, below_step (below_step hB HB1.out) hb2⟩
 ·
  rw [if_neg c] at h
  simp only [Option.some.injEq, Prod.mk.injEq] at h
  obtain ⟨rfl, rfl⟩ := h
  have cb : decide (0 ≤ q) = false := decide_eq_false c
  clear c hg
  go_enter Tryd.func66, Tryd.ntmps66
  go_wp2_with (go_at_call 91; refine (HC.out _ (Below.refl _ _)).mono ?_; rintro e w1 ⟨rfl, hb1⟩)
  go_ret2
  exact ⟨rfl, below_step hB hb1⟩
def impl_CaveRow_67.f (l0 : List S26) : Option (List S26) := if l0.length ≤ 3518437208883 then some l0 else none
set_option maxHeartbeats 4000000 in
set_option maxRecDepth 100000 in
theorem impl_CaveRow_67.calls (A0 : Option Addr) (c0 : Nat) (l0 : List S26) (r : List S26) (w : World) (hr0 : Kd.C k26 w A0 l0.length l0) (hc0 : l0.length ≤ c0) (h : impl_CaveRow_67.f l0 = some r) :
  Calls Tryd.prog 67 #[.slice A0 l0.length c0] w fun e w' => ∃ v0_ : Value, e = .returned (v0_) ∧ Kd.R k26 26 w' w.heap.size (fun _ => True) v0_ r ∧ Below w.heap.size w w' := by
 unfold impl_CaveRow_67.f at h
 by_cases hl : l0.length ≤ 3518437208883
 ·
  rw [if_pos hl] at h
  obtain rfl := Option.some.inj h
  have HR := Aside0.mk hr0
  clear hr0
  cases A0 with
  | none =>
   have hn : l0 = [] := by
    rcases Nat.eq_zero_or_pos l0.length with h0 | h0
    ·
     exact List.length_eq_zero_iff.1 h0
    ·
     obtain ⟨ad, e, _⟩ := HR.out.2.2 h0
     cases e
   subst hn
   have hq : ∀ w, Sem.run Tryd.prog (binOp .eql 32 (.slice none 0 c0) (.slice none 0 0)) w = .ok (.bool true) w := fun w => by rfl
   go_enter Tryd.func67, Tryd.ntmps67
   go_wp2
   go_ret
   exact ⟨_, rfl, Kd.R_nil _ _ _ _ _, Below.refl _ _⟩
  | some ad =>
   have hq : ∀ w, Sem.run Tryd.prog (binOp .eql 32 (.slice (some ad) l0.length c0) (.slice none 0 0)) w = .ok (.bool false) w := fun w => by rfl
   go_enter Tryd.func67, Tryd.ntmps67
   go_wp2_with (first | ((with_reducible refine gate_dst (N := 5) rfl ?_); refine Kd.R_lit k26 _ 26 ?hg (N := 5) ?hd (xs := []) (inner := []) (ok := fun _ => True) (okp := fun _ => True) ?hr ?hp (fun _ hk => hk) trivial (Below.refl _ _) (Nat.le_refl _) (by simp) ?_; (case hd => rfl); (case hg => rfl); (case hr => first | (go_simp; done) | (go_simp; rfl)); (case hp => exact (Reps.none _ _)); intro v5 w4 ho5 hb5 hg_ hnew_; clear hg_ hnew_; have HO5 := Aside0.mk ho5; have HB5 := Aside0.mk hb5; clear ho5 hb5) | ((with_reducible refine gate_builtin (b := .append) (xs := #[.tmp 5, .tmp 6]) rfl ?_); at_builtin; refine Kd.R_append_rows k26 (w0 := w) w.heap.size rfl (.tmp 5) (.tmp 6) 32 26 (.agg #[(.string (⟨#[]⟩ : ByteArray)), (.int .i64 0), (.int .i64 0), (.int .i64 0)]) 40 rfl Tryd.underlying32 info26 rfl (by decide) (by omega) v5 [] l0 (some ad) _ _ (fun _ => True) (fun _ => False) rfl rfl HO5.out (Kd.C_below HR.out HB5.out) (fun _ _ h => h) (fun _ h => h.elim) (fun _ _ => trivial) HB5.out (below_size HB5.out) (by simp; omega) ?_; intro v7 w7 ho7 hb7 hg7 hat7; have HO7 := Aside0.mk ho7; have HB7 := Aside0.mk hb7; clear ho7 hb7 hg7 hat7))
   go_ret
   exact ⟨_, rfl, HO7.out, HB7.out⟩
 ·
  rw [if_neg hl] at h
  cases h
def impl_AddSurvey.j0 : Nat → List (S26) → Int → Int → Int → Int → Bool → Option ((List (S26)) × Bool)
 | 0, _, _, _, _, _, _ => none
 | k + 1, x0, x2, x3, x4, x12, x37 => if x37 = true then (some (([] : List (S26)), false)) else ((impl_CaveRow_67.f x0).bind fun t296 => (if 0 ≤ x12 then (if x12 < (t296.length : Int) then ((some (t296.set (x12 : Int).toNat (⟨(rd_T26 t296 x12).f0, wrap64 (((rd_T26 t296 x12).f1) + x2), (rd_T26 t296 x12).f2, (rd_T26 t296 x12).f3⟩ : S26) : List (S26))).bind fun y300 => ((some (y300.set (x12 : Int).toNat (⟨(rd_T26 y300 x12).f0, (rd_T26 y300 x12).f1, (rd_T26 y300 x12).f2, wrap64 (((rd_T26 y300 x12).f3) + x3)⟩ : S26) : List (S26))).bind fun y302 => ((some (y302.set (x12 : Int).toNat (⟨(rd_T26 y302 x12).f0, (rd_T26 y302 x12).f1, mx ((rd_T26 y302 x12).f2) x4, (rd_T26 y302 x12).f3⟩ : S26) : List (S26))).bind fun y304 => ((impl_AreCaves.f k y304).bind fun t305 => (if t305 = true then (some (y304, true)) else (some (([] : List (S26)), false))))))) else (none)) else (none)))
def impl_AddSurvey.f (k : Nat) (l0 : List (S26)) (a1 : ByteArray) (a2 : Int) (a3 : Int) (a4 : Int) : Option ((List (S26)) × Bool) := (impl_caveAt.f k l0 a1).bind fun bt291 => (if bt291.2 = true then ((impl_within.f a2 1 1000000).bind fun t293 => (if t293 = true then ((impl_within.f a3 1 9999).bind fun t294 => (if t294 = true then ((impl_within.f a4 0 20000).bind fun t295 => (impl_AddSurvey.j0 k l0 a2 a3 a4 bt291.1 (!t295))) else (impl_AddSurvey.j0 k l0 a2 a3 a4 bt291.1 true))) else (impl_AddSurvey.j0 k l0 a2 a3 a4 bt291.1 true))) else (impl_AddSurvey.j0 k l0 a2 a3 a4 bt291.1 true))
set_option maxHeartbeats 8000000 in
set_option maxRecDepth 100000 in
theorem impl_AddSurvey.calls (k : Nat) (A0 : Option Addr) (c0 : Nat) (l0 : List (S26)) (a1 : ByteArray) (a2 : Int) (a3 : Int) (a4 : Int) (r1 : List (S26)) (r2 : Bool) (w : World) (hr0 : Kd.C k26 w A0 l0.length l0) (hc0 : l0.length ≤ c0) (h : impl_AddSurvey.f k l0 a1 a2 a3 a4 = some (r1, r2)) :
  Calls Tryd.prog 33 #[.slice A0 l0.length c0, .string a1, .int .i64 a2, .int .i64 a3, .int .i64 a4] w fun e w' => ∃ v0_ : Value, e = .returned (.tuple #[v0_, .bool r2]) ∧ Kd.R k26 26 w' w.heap.size (fun _ => True) v0_ r1 ∧ Below w.heap.size w w' := by
 have HR0 := Aside0.mk hr0
 have HC0 := Aside0.mk hc0
 clear hr0 hc0
 have HB := Aside0.mk (Below.refl w.heap.size w)
 have H : ((impl_caveAt.f k l0 a1).bind fun bt291 => (if bt291.2 = true then ((impl_within.f a2 1 1000000).bind fun t293 => (if t293 = true then ((impl_within.f a3 1 9999).bind fun t294 => (if t294 = true then ((impl_within.f a4 0 20000).bind fun t295 => (impl_AddSurvey.j0 k l0 a2 a3 a4 bt291.1 (!t295))) else (impl_AddSurvey.j0 k l0 a2 a3 a4 bt291.1 true))) else (impl_AddSurvey.j0 k l0 a2 a3 a4 bt291.1 true))) else (impl_AddSurvey.j0 k l0 a2 a3 a4 bt291.1 true))) = some (r1, r2) := h
 clear h
 replace H := Option.bind_eq_some_iff.mp H
 obtain ⟨⟨t291, t292⟩, A60, H⟩ := H
 replace H : (if t292 = true then ((impl_within.f a2 1 1000000).bind fun t293 => (if t293 = true then ((impl_within.f a3 1 9999).bind fun t294 => (if t294 = true then ((impl_within.f a4 0 20000).bind fun t295 => (impl_AddSurvey.j0 k l0 a2 a3 a4 t291 (!t295))) else (impl_AddSurvey.j0 k l0 a2 a3 a4 t291 true))) else (impl_AddSurvey.j0 k l0 a2 a3 a4 t291 true))) else (impl_AddSurvey.j0 k l0 a2 a3 a4 t291 true)) = some (r1, r2) := H
 have A6 := Aside0.mk A60
 clear A60
 have HC7 := Aside0.mk H
 clear H
 go_enter Tryd.func33, Tryd.ntmps33
 go_upto_region 2 with (first | ((with_reducible refine gate_callee (f := 66) rfl ?_); refine ga_ (some 18) Tryd.func66 #[.slice A0 l0.length c0, .string a1] ?_; (with_reducible refine (impl_caveAt.calls k _ _ l0 a1 t291 t292 _ ?side1 ?side2 A6.out).mono ?_); (case side1 => exact kc_ HR0.out); (case side2 => exact HC0.out); rintro e w8 ⟨rfl, hb⟩; refine ⟨_, rfl, ?_⟩; have n0_ := Aside0.mk (below_step (lb0_ HB.out) hb); clear HB; have HB := n0_; clear n0_; (try clear hb); (try clear hb2); (try clear hk); (try clear hi)))
 (try simp only [Act.put, List.setIfInBounds_toArray, List.set_cons_zero, List.set_cons_succ])
 go_cut [37] (fun v37 wc => ∃ (kq : Nat) (x37_6 : Bool), v37 = .bool x37_6 ∧ Aside0 (impl_AddSurvey.j0 kq l0 a2 a3 a4 t291 x37_6 = some (r1, r2)) ∧ Aside0 (kq ≤ k) ∧ Aside0 (Below w.heap.size w wc))
 case first =>
  have H := HC7.out
  clear HC7
  by_cases c9 : t292 = true
  ·
   subst c9
   have H1 : ((impl_within.f a2 1 1000000).bind fun t293 => (if t293 = true then ((impl_within.f a3 1 9999).bind fun t294 => (if t294 = true then ((impl_within.f a4 0 20000).bind fun t295 => (impl_AddSurvey.j0 k l0 a2 a3 a4 t291 (!t295))) else (impl_AddSurvey.j0 k l0 a2 a3 a4 t291 true))) else (impl_AddSurvey.j0 k l0 a2 a3 a4 t291 true))) = some (r1, r2) := by rw [if_pos rfl] at H; exact H
   clear H
   have H := H1
   clear H1
   replace H := Option.bind_eq_some_iff.mp H
   obtain ⟨t293, A100, H⟩ := H
   replace H : (if t293 = true then ((impl_within.f a3 1 9999).bind fun t294 => (if t294 = true then ((impl_within.f a4 0 20000).bind fun t295 => (impl_AddSurvey.j0 k l0 a2 a3 a4 t291 (!t295))) else (impl_AddSurvey.j0 k l0 a2 a3 a4 t291 true))) else (impl_AddSurvey.j0 k l0 a2 a3 a4 t291 true)) = some (r1, r2) := H
   have A10 := Aside0.mk A100
   clear A100
   by_cases c11 : t293 = true
   ·
    subst c11
    have H1 : ((impl_within.f a3 1 9999).bind fun t294 => (if t294 = true then ((impl_within.f a4 0 20000).bind fun t295 => (impl_AddSurvey.j0 k l0 a2 a3 a4 t291 (!t295))) else (impl_AddSurvey.j0 k l0 a2 a3 a4 t291 true))) = some (r1, r2) := by rw [if_pos rfl] at H; exact H
    clear H
    have H := H1
    clear H1
    replace H := Option.bind_eq_some_iff.mp H
    obtain ⟨t294, A120, H⟩ := H
    replace H : (if t294 = true then ((impl_within.f a4 0 20000).bind fun t295 => (impl_AddSurvey.j0 k l0 a2 a3 a4 t291 (!t295))) else (impl_AddSurvey.j0 k l0 a2 a3 a4 t291 true)) = some (r1, r2) := H
    have A12 := Aside0.mk A120
    clear A120
    by_cases c13 : t294 = true
    ·
     subst c13
     have H1 : ((impl_within.f a4 0 20000).bind fun t295 => (impl_AddSurvey.j0 k l0 a2 a3 a4 t291 (!t295))) = some (r1, r2) := by rw [if_pos rfl] at H; exact H
     clear H
     have H := H1
     clear H1
     replace H := Option.bind_eq_some_iff.mp H
     obtain ⟨t295, A140, H⟩ := H
     replace H : (impl_AddSurvey.j0 k l0 a2 a3 a4 t291 (!t295)) = some (r1, r2) := H
     have A14 := Aside0.mk A140
     clear A140
     have H' := Aside0.mk H
     clear H
     go_wp2_with (first | (go_at_call 57; (with_reducible refine (impl_within.calls a2 1 1000000 true _ A10.out).mono ?_); rintro e w' ⟨rfl, ⟨nd, rfl⟩⟩) | (go_at_call 57; (with_reducible refine (impl_within.calls a3 1 9999 true _ A12.out).mono ?_); rintro e w' ⟨rfl, ⟨nd, rfl⟩⟩) | (go_at_call 57; (with_reducible refine (impl_within.calls a4 0 20000 t295 _ A14.out).mono ?_); rintro e w' ⟨rfl, ⟨nd, rfl⟩⟩))
     go_meet
     case rel => exact ⟨_, (!t295), (by first | rfl | (simp; done) | (simp [*]; done)), H', ⟨by first | omega | exact Nat.le_refl _⟩, ⟨lb0_ HB.out⟩⟩
    ·
     replace c13 := Bool.eq_false_iff.mpr c13
     subst c13
     have H1 : (impl_AddSurvey.j0 k l0 a2 a3 a4 t291 true) = some (r1, r2) := by rw [if_neg (show ¬ (false = true) by decide)] at H; exact H
     clear H
     have H := H1
     clear H1
     have H' := Aside0.mk H
     clear H
     go_wp2_with (first | (go_at_call 57; (with_reducible refine (impl_within.calls a2 1 1000000 true _ A10.out).mono ?_); rintro e w' ⟨rfl, ⟨nd, rfl⟩⟩) | (go_at_call 57; (with_reducible refine (impl_within.calls a3 1 9999 false _ A12.out).mono ?_); rintro e w' ⟨rfl, ⟨nd, rfl⟩⟩))
     go_meet
     case rel => exact ⟨_, (true), (by first | rfl | (simp; done) | (simp [*]; done)), H', ⟨by first | omega | exact Nat.le_refl _⟩, ⟨lb0_ HB.out⟩⟩
   ·
    replace c11 := Bool.eq_false_iff.mpr c11
    subst c11
    have H1 : (impl_AddSurvey.j0 k l0 a2 a3 a4 t291 true) = some (r1, r2) := by rw [if_neg (show ¬ (false = true) by decide)] at H; exact H
    clear H
    have H := H1
    clear H1
    have H' := Aside0.mk H
    clear H
    go_wp2_with (first | (go_at_call 57; (with_reducible refine (impl_within.calls a2 1 1000000 false _ A10.out).mono ?_); rintro e w' ⟨rfl, ⟨nd, rfl⟩⟩))
    go_meet
    case rel => exact ⟨_, (true), (by first | rfl | (simp; done) | (simp [*]; done)), H', ⟨by first | omega | exact Nat.le_refl _⟩, ⟨lb0_ HB.out⟩⟩
  ·
   replace c9 := Bool.eq_false_iff.mpr c9
   subst c9
   have H1 : (impl_AddSurvey.j0 k l0 a2 a3 a4 t291 true) = some (r1, r2) := by rw [if_neg (show ¬ (false = true) by decide)] at H; exact H
   clear H
   have H := H1
   clear H1
   have H' := Aside0.mk H
   clear H
   go_wp2
   go_meet
   case rel => exact ⟨_, (true), (by first | rfl | (simp; done) | (simp [*]; done)), H', ⟨by first | omega | exact Nat.le_refl _⟩, ⟨lb0_ HB.out⟩⟩
 case rest =>
  clear HC7
  try clear c1
  try clear p2
  try clear c3
  try clear c6
  try clear c9
  try clear c11
  try clear c13
  obtain ⟨kq, x37_6, rfl, HA, HJ6, HB⟩ := hcut
  cases kq with
  | zero => exact absurd HA.out (by simp [impl_AddSurvey.j0])
  | succ kj6 =>
   have H := HA.out
   clear HA
   simp only [impl_AddSurvey.j0] at H
   by_cases c15 : x37_6 = true
   ·
    subst c15
    have H1 : (some (([] : List (S26)), false)) = some (r1, r2) := by rw [if_pos rfl] at H; exact H
    clear H
    have H := H1
    clear H1
    simp only [Option.some.injEq, Prod.mk.injEq] at H
    obtain ⟨rfl, rfl⟩ := H
    go_wp2
    go_ret2
    exact ⟨_, rr_, by first | exact Kd.R_nil _ _ _ _ _ | exact Kd.N_nil _ _ _ _ _ | exact Kd.V_nil _ _ _ _ _ | exact Kd.Q_nil _ _ _ _ _ | exact Kd.S_nil _ _ _ _ _, lb0_ HB.out⟩
   ·
    replace c15 := Bool.eq_false_iff.mpr c15
    subst c15
    have H1 : ((impl_CaveRow_67.f l0).bind fun t296 => (if 0 ≤ t291 then (if t291 < (t296.length : Int) then ((some (t296.set (t291 : Int).toNat (⟨(rd_T26 t296 t291).f0, wrap64 (((rd_T26 t296 t291).f1) + a2), (rd_T26 t296 t291).f2, (rd_T26 t296 t291).f3⟩ : S26) : List (S26))).bind fun y300 => ((some (y300.set (t291 : Int).toNat (⟨(rd_T26 y300 t291).f0, (rd_T26 y300 t291).f1, (rd_T26 y300 t291).f2, wrap64 (((rd_T26 y300 t291).f3) + a3)⟩ : S26) : List (S26))).bind fun y302 => ((some (y302.set (t291 : Int).toNat (⟨(rd_T26 y302 t291).f0, (rd_T26 y302 t291).f1, mx ((rd_T26 y302 t291).f2) a4, (rd_T26 y302 t291).f3⟩ : S26) : List (S26))).bind fun y304 => ((impl_AreCaves.f kj6 y304).bind fun t305 => (if t305 = true then (some (y304, true)) else (some (([] : List (S26)), false))))))) else (none)) else (none))) = some (r1, r2) := by rw [if_neg (show ¬ (false = true) by decide)] at H; exact H
    clear H
    have H := H1
    clear H1
    replace H := Option.bind_eq_some_iff.mp H
    obtain ⟨t296, A160, H⟩ := H
    replace H : (if 0 ≤ t291 then (if t291 < (t296.length : Int) then ((some (t296.set (t291 : Int).toNat (⟨(rd_T26 t296 t291).f0, wrap64 (((rd_T26 t296 t291).f1) + a2), (rd_T26 t296 t291).f2, (rd_T26 t296 t291).f3⟩ : S26) : List (S26))).bind fun y300 => ((some (y300.set (t291 : Int).toNat (⟨(rd_T26 y300 t291).f0, (rd_T26 y300 t291).f1, (rd_T26 y300 t291).f2, wrap64 (((rd_T26 y300 t291).f3) + a3)⟩ : S26) : List (S26))).bind fun y302 => ((some (y302.set (t291 : Int).toNat (⟨(rd_T26 y302 t291).f0, (rd_T26 y302 t291).f1, mx ((rd_T26 y302 t291).f2) a4, (rd_T26 y302 t291).f3⟩ : S26) : List (S26))).bind fun y304 => ((impl_AreCaves.f kj6 y304).bind fun t305 => (if t305 = true then (some (y304, true)) else (some (([] : List (S26)), false))))))) else (none)) else (none)) = some (r1, r2) := H
    have A16 := Aside0.mk A160
    clear A160
    by_cases c17 : 0 ≤ t291
    ·
     rw [if_pos c17] at H
     have c17b0 : decide (0 ≤ t291) = true := decide_eq_true c17
     clear c17
     by_cases c18 : t291 < (t296.length : Int)
     ·
      rw [if_pos c18] at H
      have c18b0 : decide (t291 < (t296.length : Int)) = true := decide_eq_true c18
      clear c18
      obtain ⟨y300, hy300⟩ : ∃ y_ : List (S26), y_ = (t296.set (t291 : Int).toNat (⟨(rd_T26 t296 t291).f0, wrap64 (((rd_T26 t296 t291).f1) + a2), (rd_T26 t296 t291).f2, (rd_T26 t296 t291).f3⟩ : S26)) := ⟨_, rfl⟩
      replace H : ((some (y300.set (t291 : Int).toNat (⟨(rd_T26 y300 t291).f0, (rd_T26 y300 t291).f1, (rd_T26 y300 t291).f2, wrap64 (((rd_T26 y300 t291).f3) + a3)⟩ : S26) : List (S26))).bind fun y302 => ((some (y302.set (t291 : Int).toNat (⟨(rd_T26 y302 t291).f0, (rd_T26 y302 t291).f1, mx ((rd_T26 y302 t291).f2) a4, (rd_T26 y302 t291).f3⟩ : S26) : List (S26))).bind fun y304 => ((impl_AreCaves.f kj6 y304).bind fun t305 => (if t305 = true then (some (y304, true)) else (some (([] : List (S26)), false)))))) = some (r1, r2) := by first | (rw [hy300]; with_reducible exact H) | (have H2_ := (Option.bind_some _ _).symm.trans H; rw [hy300]; with_reducible exact H2_) | (have H2_ := (Option.bind_some _ _).symm.trans H; with_reducible exact H2_) | with_reducible exact H | (rw [hy300]; exact H) | exact H
      have Ny300 := Aside0.mk hy300
      clear hy300
      obtain ⟨y302, hy302⟩ : ∃ y_ : List (S26), y_ = (y300.set (t291 : Int).toNat (⟨(rd_T26 y300 t291).f0, (rd_T26 y300 t291).f1, (rd_T26 y300 t291).f2, wrap64 (((rd_T26 y300 t291).f3) + a3)⟩ : S26)) := ⟨_, rfl⟩
      replace H : ((some (y302.set (t291 : Int).toNat (⟨(rd_T26 y302 t291).f0, (rd_T26 y302 t291).f1, mx ((rd_T26 y302 t291).f2) a4, (rd_T26 y302 t291).f3⟩ : S26) : List (S26))).bind fun y304 => ((impl_AreCaves.f kj6 y304).bind fun t305 => (if t305 = true then (some (y304, true)) else (some (([] : List (S26)), false))))) = some (r1, r2) := by first | (rw [hy302]; with_reducible exact H) | (have H2_ := (Option.bind_some _ _).symm.trans H; rw [hy302]; with_reducible exact H2_) | (have H2_ := (Option.bind_some _ _).symm.trans H; with_reducible exact H2_) | with_reducible exact H | (rw [hy302]; exact H) | exact H
      have Ny302 := Aside0.mk hy302
      clear hy302
      obtain ⟨ji21, hji21⟩ : ∃ j_ : Int, (mx ((rd_T26 y302 t291).f2) a4) = j_ := ⟨_, rfl⟩
      replace H : ((some (y302.set (t291 : Int).toNat (⟨(rd_T26 y302 t291).f0, (rd_T26 y302 t291).f1, ji21, (rd_T26 y302 t291).f3⟩ : S26) : List (S26))).bind fun y304 => ((impl_AreCaves.f kj6 y304).bind fun t305 => (if t305 = true then (some (y304, true)) else (some (([] : List (S26)), false))))) = some (r1, r2) := by first | (rw [hji21] at H; exact H) | (simp only [hji21] at H ⊢; exact H)
      (try rw [hji21] at A16)
      have hji21_ : (if ((rd_T26 y302 t291).f2) < a4 then a4 else ((rd_T26 y302 t291).f2)) = ji21 := hji21
      obtain ⟨y304, hy304⟩ : ∃ y_ : List (S26), y_ = (y302.set (t291 : Int).toNat (⟨(rd_T26 y302 t291).f0, (rd_T26 y302 t291).f1, ji21, (rd_T26 y302 t291).f3⟩ : S26)) := ⟨_, rfl⟩
      replace H : ((impl_AreCaves.f kj6 y304).bind fun t305 => (if t305 = true then (some (y304, true)) else (some (([] : List (S26)), false)))) = some (r1, r2) := by first | (rw [hy304]; with_reducible exact H) | (have H2_ := (Option.bind_some _ _).symm.trans H; rw [hy304]; with_reducible exact H2_) | (have H2_ := (Option.bind_some _ _).symm.trans H; with_reducible exact H2_) | with_reducible exact H | (rw [hy304]; exact H) | exact H
      have Ny304 := Aside0.mk hy304
      clear hy304
      replace H := Option.bind_eq_some_iff.mp H
      obtain ⟨t305, A230, H⟩ := H
      replace H : (if t305 = true then (some (y304, true)) else (some (([] : List (S26)), false))) = some (r1, r2) := H
      have A23 := Aside0.mk A230
      clear A230
      by_cases c24 : t305 = true
      ·
       subst c24
       have H1 : (some (y304, true)) = some (r1, r2) := by rw [if_pos rfl] at H; exact H
       clear H
       have H := H1
       clear H1
       simp only [Option.some.injEq, Prod.mk.injEq] at H
       obtain ⟨rfl, rfl⟩ := H
       go_wp2_with (first | ((with_reducible refine gate_callee (f := 67) rfl ?_); refine ga_ (some 39) Tryd.func67 #[.slice A0 l0.length c0] ?_; (with_reducible refine (impl_CaveRow_67.calls _ _ l0 t296 _ ?side1 ?side2 A16.out).mono ?_); (case side1 => exact kc_ (Kd.C_below HR0.out HB.out)); (case side2 => exact HC0.out); rintro e w25 ⟨v297, rfl, ho0, hb⟩; refine ⟨_, rfl, ?_⟩; have n0_ := Aside0.mk (Kd.R_lower ho0 (below_size (lb0_ HB.out))); have n1_ := Aside0.mk (below_step (lb0_ HB.out) hb); clear HB; have HO298 := n0_; have HB := n1_; clear n0_ n1_; (try clear hb); (try clear hb2); (try clear hk); (try clear hi); (try clear ho0); obtain ⟨Ao26, co26, eo26⟩ := Kd.R_slice HO298.out; subst eo26; have p299 : 0 ≤ (t291 : Int) := dt_; have q299 : t291 < (t296.length : Int) := dt_; obtain ⟨ad299, e299, hx299_0, hx299_1, hx299_2, hx299_3⟩ := at_T26 (Kd.R_reads' HO298.out).2.2 t291 p299 q299; cases e299; replace p299 := eq_true p299; replace q299 := eq_true q299; have p19 : 0 ≤ (t291 : Int) := dt_; have q19 : (t291 : Int) < ((t296.length : Int) : Int) := dt_; obtain ⟨go19, co19, eo19, gb19, gl19, cl19, HG19⟩ := Kd.R_form HO298.out (by omega); (first | cases eo19 | (injection eo19 with ea_ en_ ec_; (first | subst ea_ | (injection ea_ with ea_; subst ea_)); subst ec_; clear en_)); have GB19 := Aside0.mk gb19; have GG19 := Aside0.mk HG19; clear gb19 gl19 HG19; (first | simp only [add_plain] at hx299_0 | skip); (first | simp only [add_plain] at hx299_1 | skip); (first | simp only [add_plain] at hx299_2 | skip); (first | simp only [add_plain] at hx299_3 | skip); obtain ⟨ce19, hcl19, hM19, hcc19, hfr19⟩ := Kd.R_elem HO298.out z26 (t291 : Int) p19 q19; obtain rfl := k26_openM hM19; have hx19_0 : w25.cell? ⟨go19, (t291 : Int).toNat * 4, none⟩ = some (.string ((rd_T26 t296 t291).f0)) := hcc19 0 _ rfl; have hx19_1 : w25.cell? ⟨go19, (t291 : Int).toNat * 4 + 1, none⟩ = some (.int .i64 ((rd_T26 t296 t291).f1)) := hcc19 1 _ rfl; have hx19_2 : w25.cell? ⟨go19, (t291 : Int).toNat * 4 + 2, none⟩ = some (.int .i64 ((rd_T26 t296 t291).f2)) := hcc19 2 _ rfl; have hx19_3 : w25.cell? ⟨go19, (t291 : Int).toNat * 4 + 3, none⟩ = some (.int .i64 ((rd_T26 t296 t291).f3)) := hcc19 3 _ rfl; have hf19_0 : w25.frozen? ⟨go19, (t291 : Int).toNat * 4, none⟩ = false := hfr19 0; have hf19_1 : w25.frozen? ⟨go19, (t291 : Int).toNat * 4 + 1, none⟩ = false := hfr19 1; have hf19_2 : w25.frozen? ⟨go19, (t291 : Int).toNat * 4 + 2, none⟩ = false := hfr19 2; have hf19_3 : w25.frozen? ⟨go19, (t291 : Int).toNat * 4 + 3, none⟩ = false := hfr19 3; clear hcl19 hcc19 hfr19 hM19; replace p19 := eq_true p19; replace q19 := eq_true q19; have HX27 := Aside0.mk (show Kd.R k26 26 w25 w.heap.size (fun _ => True) (.slice (some ⟨go19, 0, none⟩) t296.length co26) t296 from (kr_ HO298.out)); obtain ⟨ce27, hcl27, hM27, hcc27, hfr27⟩ := Kd.R_elem HX27.out z26 (t291 : Int) (dt_) (by have h_ : (t291 : Int) < ((t296.length : Int) : Int) := dt_; first | exact h_ | (have e_ := (Kd.R_reads' HO298.out).1; omega) | simpa using h_); obtain rfl := k26_openM hM27; have HP27 := Kd.R_seg HX27.out (t291 : Int) (dt_) (by have h_ : (t291 : Int) < ((t296.length : Int) : Int) := dt_; first | exact h_ | (have e_ := (Kd.R_reads' HO298.out).1; omega) | simpa using h_) (seg := [.int .i64 (wrap64 (((rd_T26 t296 t291).f1) + a2))]) (j := 1) hcl27 hcc27 (show 2 ≤ 4 from by decide) (x' := (⟨(rd_T26 t296 t291).f0, wrap64 (((rd_T26 t296 t291).f1) + a2), (rd_T26 t296 t291).f2, (rd_T26 t296 t291).f3⟩ : S26)) (k26_mkM _ _ _ (⟨(rd_T26 t296 t291).f0, wrap64 (((rd_T26 t296 t291).f1) + a2), (rd_T26 t296 t291).f2, (rd_T26 t296 t291).f3⟩ : S26) ) (fun _ hk => hk); have hx27_1 := hcc27 1 _ rfl; (try simp only [show (k26).sz = 4 from rfl, Nat.mul_one, Nat.add_zero] at hx27_1); have hf27_1 := hfr27 1; (try simp only [show (k26).sz = 4 from rfl, Nat.mul_one, Nat.add_zero] at hf27_1); clear hcl27 hcc27 hfr27 hM27) | ((with_reducible refine gate_store (t := 3) (p := 48) rfl ?_); refine store_event (t := 3) (p := 48) (v := ?vo_w28) (w1 := (w25.setCell ⟨go19, (t291 : Int).toNat * 4 + 1, none⟩ (.int .i64 (wrap64 (((rd_T26 t296 t291).f1) + a2))))) ?hg ?ho ?hn ?hr ?_; (case ho => rfl); (case hg => rfl); (case hn => rfl); (case hr => first | (go_simp; done) | (go_simp; rfl)); intro w28 hw; have hg : w25.grownBy w28 (some go19) := (by rw [hw]; exact HP27.2); have hp_ : Kd.R k26 26 w28 w.heap.size (fun _ => True) (.slice (some ⟨go19, 0, none⟩) t296.length co26) y300 := (by rw [hw, Ny300.out]; exact HP27.1); clear HP27; have n0_ := Aside0.mk (hp_); have n1_ := Aside0.mk ((by rw [hw]; exact below_set (HB.out) GB19.out : Below w.heap.size w w28)); clear HO298; clear HB; have HO298 := n0_; have HB := n1_; clear n0_ n1_; clear hg hw hp_; have p301 : 0 ≤ (t291 : Int) := dt_; have q301 : t291 < (y300.length : Int) := (by have h_ : (t291 : Int) < ((t296.length : Int) : Int) := dt_; first | (have e_ := (Kd.R_reads' HO298.out).1; omega) | simpa only [Ny300.out, List.length_set] using h_); have ql301 : ((t291 : Int) < ((t296.length : Int) : Int)) = True := eq_true (dt_); obtain ⟨ad301, e301, hx301_0, hx301_1, hx301_2, hx301_3⟩ := at_T26 (Kd.R_reads' HO298.out).2.2 t291 p301 q301; obtain rfl : (⟨go19, 0, none⟩ : Addr) = ad301 := (by injection e301); (first | simp only [add_plain] at hx301_0 | simp only [add_at] at hx301_0 | simp only [Addr.add, Nat.zero_add] at hx301_0 | skip); (first | simp only [add_plain] at hx301_1 | simp only [add_at] at hx301_1 | simp only [Addr.add, Nat.zero_add] at hx301_1 | skip); (first | simp only [add_plain] at hx301_2 | simp only [add_at] at hx301_2 | simp only [Addr.add, Nat.zero_add] at hx301_2 | skip); (first | simp only [add_plain] at hx301_3 | simp only [add_at] at hx301_3 | simp only [Addr.add, Nat.zero_add] at hx301_3 | skip); replace p301 := eq_true p301; replace q301 := eq_true q301; have p20 : 0 ≤ (t291 : Int) := dt_; have q20 : (t291 : Int) < ((t296.length : Int) : Int) := dt_; obtain ⟨ce20, hcl20, hM20, hcc20, hfr20⟩ := Kd.R_elem HO298.out z26 (t291 : Int) p20 q20; obtain rfl := k26_openM hM20; have hx20_0 : w28.cell? ⟨go19, (t291 : Int).toNat * 4, none⟩ = some (.string ((rd_T26 y300 t291).f0)) := hcc20 0 _ rfl; have hx20_1 : w28.cell? ⟨go19, (t291 : Int).toNat * 4 + 1, none⟩ = some (.int .i64 ((rd_T26 y300 t291).f1)) := hcc20 1 _ rfl; have hx20_2 : w28.cell? ⟨go19, (t291 : Int).toNat * 4 + 2, none⟩ = some (.int .i64 ((rd_T26 y300 t291).f2)) := hcc20 2 _ rfl; have hx20_3 : w28.cell? ⟨go19, (t291 : Int).toNat * 4 + 3, none⟩ = some (.int .i64 ((rd_T26 y300 t291).f3)) := hcc20 3 _ rfl; have hf20_0 : w28.frozen? ⟨go19, (t291 : Int).toNat * 4, none⟩ = false := hfr20 0; have hf20_1 : w28.frozen? ⟨go19, (t291 : Int).toNat * 4 + 1, none⟩ = false := hfr20 1; have hf20_2 : w28.frozen? ⟨go19, (t291 : Int).toNat * 4 + 2, none⟩ = false := hfr20 2; have hf20_3 : w28.frozen? ⟨go19, (t291 : Int).toNat * 4 + 3, none⟩ = false := hfr20 3; clear hcl20 hcc20 hfr20 hM20; replace p20 := eq_true p20; replace q20 := eq_true q20; have HX29 := Aside0.mk (show Kd.R k26 26 w28 w.heap.size (fun _ => True) (.slice (some ⟨go19, 0, none⟩) t296.length co26) y300 from (kr_ HO298.out)); obtain ⟨ce29, hcl29, hM29, hcc29, hfr29⟩ := Kd.R_elem HX29.out z26 (t291 : Int) (dt_) (by have h_ : (t291 : Int) < ((t296.length : Int) : Int) := dt_; first | exact h_ | (have e_ := (Kd.R_reads' HO298.out).1; omega) | simpa using h_); obtain rfl := k26_openM hM29; have HP29 := Kd.R_seg HX29.out (t291 : Int) (dt_) (by have h_ : (t291 : Int) < ((t296.length : Int) : Int) := dt_; first | exact h_ | (have e_ := (Kd.R_reads' HO298.out).1; omega) | simpa using h_) (seg := [.int .i64 (wrap64 (((rd_T26 y300 t291).f3) + a3))]) (j := 3) hcl29 hcc29 (show 4 ≤ 4 from by decide) (x' := (⟨(rd_T26 y300 t291).f0, (rd_T26 y300 t291).f1, (rd_T26 y300 t291).f2, wrap64 (((rd_T26 y300 t291).f3) + a3)⟩ : S26)) (k26_mkM _ _ _ (⟨(rd_T26 y300 t291).f0, (rd_T26 y300 t291).f1, (rd_T26 y300 t291).f2, wrap64 (((rd_T26 y300 t291).f3) + a3)⟩ : S26) ) (fun _ hk => hk); have hx29_3 := hcc29 3 _ rfl; (try simp only [show (k26).sz = 4 from rfl, Nat.mul_one, Nat.add_zero] at hx29_3); have hf29_3 := hfr29 3; (try simp only [show (k26).sz = 4 from rfl, Nat.mul_one, Nat.add_zero] at hf29_3); clear hcl29 hcc29 hfr29 hM29) | ((with_reducible refine gate_store (t := 3) (p := 57) rfl ?_); refine store_event (t := 3) (p := 57) (v := ?vo_w30) (w1 := (w28.setCell ⟨go19, (t291 : Int).toNat * 4 + 3, none⟩ (.int .i64 (wrap64 (((rd_T26 y300 t291).f3) + a3))))) ?hg ?ho ?hn ?hr ?_; (case ho => rfl); (case hg => rfl); (case hn => rfl); (case hr => first | (go_simp; done) | (go_simp; rfl)); intro w30 hw; have hg : w28.grownBy w30 (some go19) := (by rw [hw]; exact HP29.2); have hp_ : Kd.R k26 26 w30 w.heap.size (fun _ => True) (.slice (some ⟨go19, 0, none⟩) t296.length co26) y302 := (by rw [hw, Ny302.out]; exact HP29.1); clear HP29; have n0_ := Aside0.mk (hp_); have n1_ := Aside0.mk ((by rw [hw]; exact below_set (HB.out) GB19.out : Below w.heap.size w w30)); clear HO298; clear HB; have HO298 := n0_; have HB := n1_; clear n0_ n1_; clear hg hw hp_; have p303 : 0 ≤ (t291 : Int) := dt_; have q303 : t291 < (y302.length : Int) := (by have h_ : (t291 : Int) < ((t296.length : Int) : Int) := dt_; first | (have e_ := (Kd.R_reads' HO298.out).1; omega) | simpa only [Ny300.out, Ny302.out, List.length_set] using h_); have ql303 : ((t291 : Int) < ((t296.length : Int) : Int)) = True := eq_true (dt_); obtain ⟨ad303, e303, hx303_0, hx303_1, hx303_2, hx303_3⟩ := at_T26 (Kd.R_reads' HO298.out).2.2 t291 p303 q303; obtain rfl : (⟨go19, 0, none⟩ : Addr) = ad303 := (by injection e303); (first | simp only [add_plain] at hx303_0 | simp only [add_at] at hx303_0 | simp only [Addr.add, Nat.zero_add] at hx303_0 | skip); (first | simp only [add_plain] at hx303_1 | simp only [add_at] at hx303_1 | simp only [Addr.add, Nat.zero_add] at hx303_1 | skip); (first | simp only [add_plain] at hx303_2 | simp only [add_at] at hx303_2 | simp only [Addr.add, Nat.zero_add] at hx303_2 | skip); (first | simp only [add_plain] at hx303_3 | simp only [add_at] at hx303_3 | simp only [Addr.add, Nat.zero_add] at hx303_3 | skip); replace p303 := eq_true p303; replace q303 := eq_true q303; have p22 : 0 ≤ (t291 : Int) := dt_; have q22 : (t291 : Int) < ((t296.length : Int) : Int) := dt_; obtain ⟨ce22, hcl22, hM22, hcc22, hfr22⟩ := Kd.R_elem HO298.out z26 (t291 : Int) p22 q22; obtain rfl := k26_openM hM22; have hx22_0 : w30.cell? ⟨go19, (t291 : Int).toNat * 4, none⟩ = some (.string ((rd_T26 y302 t291).f0)) := hcc22 0 _ rfl; have hx22_1 : w30.cell? ⟨go19, (t291 : Int).toNat * 4 + 1, none⟩ = some (.int .i64 ((rd_T26 y302 t291).f1)) := hcc22 1 _ rfl; have hx22_2 : w30.cell? ⟨go19, (t291 : Int).toNat * 4 + 2, none⟩ = some (.int .i64 ((rd_T26 y302 t291).f2)) := hcc22 2 _ rfl; have hx22_3 : w30.cell? ⟨go19, (t291 : Int).toNat * 4 + 3, none⟩ = some (.int .i64 ((rd_T26 y302 t291).f3)) := hcc22 3 _ rfl; have hf22_0 : w30.frozen? ⟨go19, (t291 : Int).toNat * 4, none⟩ = false := hfr22 0; have hf22_1 : w30.frozen? ⟨go19, (t291 : Int).toNat * 4 + 1, none⟩ = false := hfr22 1; have hf22_2 : w30.frozen? ⟨go19, (t291 : Int).toNat * 4 + 2, none⟩ = false := hfr22 2; have hf22_3 : w30.frozen? ⟨go19, (t291 : Int).toNat * 4 + 3, none⟩ = false := hfr22 3; clear hcl22 hcc22 hfr22 hM22; replace p22 := eq_true p22; replace q22 := eq_true q22; have HX31 := Aside0.mk (show Kd.R k26 26 w30 w.heap.size (fun _ => True) (.slice (some ⟨go19, 0, none⟩) t296.length co26) y302 from (kr_ HO298.out)); obtain ⟨ce31, hcl31, hM31, hcc31, hfr31⟩ := Kd.R_elem HX31.out z26 (t291 : Int) (dt_) (by have h_ : (t291 : Int) < ((t296.length : Int) : Int) := dt_; first | exact h_ | (have e_ := (Kd.R_reads' HO298.out).1; omega) | simpa using h_); obtain rfl := k26_openM hM31; have HP31 := Kd.R_seg HX31.out (t291 : Int) (dt_) (by have h_ : (t291 : Int) < ((t296.length : Int) : Int) := dt_; first | exact h_ | (have e_ := (Kd.R_reads' HO298.out).1; omega) | simpa using h_) (seg := [.int .i64 ji21]) (j := 2) hcl31 hcc31 (show 3 ≤ 4 from by decide) (x' := (⟨(rd_T26 y302 t291).f0, (rd_T26 y302 t291).f1, ji21, (rd_T26 y302 t291).f3⟩ : S26)) (k26_mkM _ _ _ (⟨(rd_T26 y302 t291).f0, (rd_T26 y302 t291).f1, ji21, (rd_T26 y302 t291).f3⟩ : S26) ) (fun _ hk => hk); have hx31_2 := hcc31 2 _ rfl; (try simp only [show (k26).sz = 4 from rfl, Nat.mul_one, Nat.add_zero] at hx31_2); have hf31_2 := hfr31 2; (try simp only [show (k26).sz = 4 from rfl, Nat.mul_one, Nat.add_zero] at hf31_2); clear hcl31 hcc31 hfr31 hM31) | ((with_reducible refine gate_store (t := 3) (p := 68) rfl ?_); refine store_event (t := 3) (p := 68) (v := ?vo_w32) (w1 := (w30.setCell ⟨go19, (t291 : Int).toNat * 4 + 2, none⟩ (.int .i64 ji21))) ?hg ?ho ?hn ?hr ?_; (case ho => rfl); (case hg => rfl); (case hn => rfl); (case hr => first | (go_simp; done) | (go_simp; rfl)); intro w32 hw; have hg : w30.grownBy w32 (some go19) := (by rw [hw]; exact HP31.2); have hp_ : Kd.R k26 26 w32 w.heap.size (fun _ => True) (.slice (some ⟨go19, 0, none⟩) t296.length co26) y304 := (by rw [hw, Ny304.out]; exact HP31.1); clear HP31; have n0_ := Aside0.mk (hp_); have n1_ := Aside0.mk ((by rw [hw]; exact below_set (HB.out) GB19.out : Below w.heap.size w w32)); clear HO298; clear HB; have HO298 := n0_; have HB := n1_; clear n0_ n1_; clear hg hw hp_) | ((with_reducible refine gate_callee (f := 22) rfl ?_); refine goesL_ (some 70) rfl rfl Tryd.func22 (by kernel_rfl) rfl #[.slice (some ⟨go19, 0, none⟩) y304.length co26] rfl (by (try simp only [List.map_toArray, List.map_cons, List.map_nil]); first | done | (rw [show y304.length = t296.length from (Kd.R_reads' HO298.out).1.symm] <;> rfl) | rfl | (simp only [List.length_drop, List.length_take]; rfl)) ?_; (with_reducible refine (impl_AreCaves.calls kj6 _ _ y304 true _ ?side1 ?side2 A23.out).mono ?_); (case side1 => exact kc_ (Kd.R_reads' HO298.out).2.2); (case side2 => rw [show y304.length = t296.length from (Kd.R_reads' HO298.out).1.symm]; exact (Kd.R_reads' HO298.out).2.1); rintro e w33 ⟨rfl, hb⟩; refine ⟨_, rfl, ?_⟩; have n0_ := Aside0.mk (Kd.R_below (kr_ HO298.out) hb); have n1_ := Aside0.mk (below_step (lb0_ HB.out) hb); clear HO298; clear HB; have HO298 := n0_; have HB := n1_; clear n0_ n1_; (try clear hb); (try clear hb2); (try clear hk); (try clear hi)))
       go_ret2
       exact ⟨_, by first | rfl | (simp [errW_none, errW_some] <;> rfl) | (simp only [← hji21]; first | rfl | (simp [errW_none, errW_some] <;> rfl)) | (simp [*, errW_none, errW_some] <;> rfl), kr_ HO298.out, lb0_ HB.out⟩
      ·
       replace c24 := Bool.eq_false_iff.mpr c24
       subst c24
       have H1 : (some (([] : List (S26)), false)) = some (r1, r2) := by rw [if_neg (show ¬ (false = true) by decide)] at H; exact H
       clear H
       have H := H1
       clear H1
       simp only [Option.some.injEq, Prod.mk.injEq] at H
       obtain ⟨rfl, rfl⟩ := H
       go_wp2_with (first | ((with_reducible refine gate_callee (f := 67) rfl ?_); refine ga_ (some 39) Tryd.func67 #[.slice A0 l0.length c0] ?_; (with_reducible refine (impl_CaveRow_67.calls _ _ l0 t296 _ ?side1 ?side2 A16.out).mono ?_); (case side1 => exact kc_ (Kd.C_below HR0.out HB.out)); (case side2 => exact HC0.out); rintro e w34 ⟨v297, rfl, ho0, hb⟩; refine ⟨_, rfl, ?_⟩; have n0_ := Aside0.mk (Kd.R_lower ho0 (below_size (lb0_ HB.out))); have n1_ := Aside0.mk (below_step (lb0_ HB.out) hb); clear HB; have HO298 := n0_; have HB := n1_; clear n0_ n1_; (try clear hb); (try clear hb2); (try clear hk); (try clear hi); (try clear ho0); obtain ⟨Ao35, co35, eo35⟩ := Kd.R_slice HO298.out; subst eo35; have p299 : 0 ≤ (t291 : Int) := dt_; have q299 : t291 < (t296.length : Int) := dt_; obtain ⟨ad299, e299, hx299_0, hx299_1, hx299_2, hx299_3⟩ := at_T26 (Kd.R_reads' HO298.out).2.2 t291 p299 q299; cases e299; replace p299 := eq_true p299; replace q299 := eq_true q299; have p19 : 0 ≤ (t291 : Int) := dt_; have q19 : (t291 : Int) < ((t296.length : Int) : Int) := dt_; obtain ⟨go19, co19, eo19, gb19, gl19, cl19, HG19⟩ := Kd.R_form HO298.out (by omega); (first | cases eo19 | (injection eo19 with ea_ en_ ec_; (first | subst ea_ | (injection ea_ with ea_; subst ea_)); subst ec_; clear en_)); have GB19 := Aside0.mk gb19; have GG19 := Aside0.mk HG19; clear gb19 gl19 HG19; (first | simp only [add_plain] at hx299_0 | skip); (first | simp only [add_plain] at hx299_1 | skip); (first | simp only [add_plain] at hx299_2 | skip); (first | simp only [add_plain] at hx299_3 | skip); obtain ⟨ce19, hcl19, hM19, hcc19, hfr19⟩ := Kd.R_elem HO298.out z26 (t291 : Int) p19 q19; obtain rfl := k26_openM hM19; have hx19_0 : w34.cell? ⟨go19, (t291 : Int).toNat * 4, none⟩ = some (.string ((rd_T26 t296 t291).f0)) := hcc19 0 _ rfl; have hx19_1 : w34.cell? ⟨go19, (t291 : Int).toNat * 4 + 1, none⟩ = some (.int .i64 ((rd_T26 t296 t291).f1)) := hcc19 1 _ rfl; have hx19_2 : w34.cell? ⟨go19, (t291 : Int).toNat * 4 + 2, none⟩ = some (.int .i64 ((rd_T26 t296 t291).f2)) := hcc19 2 _ rfl; have hx19_3 : w34.cell? ⟨go19, (t291 : Int).toNat * 4 + 3, none⟩ = some (.int .i64 ((rd_T26 t296 t291).f3)) := hcc19 3 _ rfl; have hf19_0 : w34.frozen? ⟨go19, (t291 : Int).toNat * 4, none⟩ = false := hfr19 0; have hf19_1 : w34.frozen? ⟨go19, (t291 : Int).toNat * 4 + 1, none⟩ = false := hfr19 1; have hf19_2 : w34.frozen? ⟨go19, (t291 : Int).toNat * 4 + 2, none⟩ = false := hfr19 2; have hf19_3 : w34.frozen? ⟨go19, (t291 : Int).toNat * 4 + 3, none⟩ = false := hfr19 3; clear hcl19 hcc19 hfr19 hM19; replace p19 := eq_true p19; replace q19 := eq_true q19; have HX36 := Aside0.mk (show Kd.R k26 26 w34 w.heap.size (fun _ => True) (.slice (some ⟨go19, 0, none⟩) t296.length co35) t296 from (kr_ HO298.out)); obtain ⟨ce36, hcl36, hM36, hcc36, hfr36⟩ := Kd.R_elem HX36.out z26 (t291 : Int) (dt_) (by have h_ : (t291 : Int) < ((t296.length : Int) : Int) := dt_; first | exact h_ | (have e_ := (Kd.R_reads' HO298.out).1; omega) | simpa using h_); obtain rfl := k26_openM hM36; have HP36 := Kd.R_seg HX36.out (t291 : Int) (dt_) (by have h_ : (t291 : Int) < ((t296.length : Int) : Int) := dt_; first | exact h_ | (have e_ := (Kd.R_reads' HO298.out).1; omega) | simpa using h_) (seg := [.int .i64 (wrap64 (((rd_T26 t296 t291).f1) + a2))]) (j := 1) hcl36 hcc36 (show 2 ≤ 4 from by decide) (x' := (⟨(rd_T26 t296 t291).f0, wrap64 (((rd_T26 t296 t291).f1) + a2), (rd_T26 t296 t291).f2, (rd_T26 t296 t291).f3⟩ : S26)) (k26_mkM _ _ _ (⟨(rd_T26 t296 t291).f0, wrap64 (((rd_T26 t296 t291).f1) + a2), (rd_T26 t296 t291).f2, (rd_T26 t296 t291).f3⟩ : S26) ) (fun _ hk => hk); have hx36_1 := hcc36 1 _ rfl; (try simp only [show (k26).sz = 4 from rfl, Nat.mul_one, Nat.add_zero] at hx36_1); have hf36_1 := hfr36 1; (try simp only [show (k26).sz = 4 from rfl, Nat.mul_one, Nat.add_zero] at hf36_1); clear hcl36 hcc36 hfr36 hM36) | ((with_reducible refine gate_store (t := 3) (p := 48) rfl ?_); refine store_event (t := 3) (p := 48) (v := ?vo_w37) (w1 := (w34.setCell ⟨go19, (t291 : Int).toNat * 4 + 1, none⟩ (.int .i64 (wrap64 (((rd_T26 t296 t291).f1) + a2))))) ?hg ?ho ?hn ?hr ?_; (case ho => rfl); (case hg => rfl); (case hn => rfl); (case hr => first | (go_simp; done) | (go_simp; rfl)); intro w37 hw; have hg : w34.grownBy w37 (some go19) := (by rw [hw]; exact HP36.2); have hp_ : Kd.R k26 26 w37 w.heap.size (fun _ => True) (.slice (some ⟨go19, 0, none⟩) t296.length co35) y300 := (by rw [hw, Ny300.out]; exact HP36.1); clear HP36; have n0_ := Aside0.mk (hp_); have n1_ := Aside0.mk ((by rw [hw]; exact below_set (HB.out) GB19.out : Below w.heap.size w w37)); clear HO298; clear HB; have HO298 := n0_; have HB := n1_; clear n0_ n1_; clear hg hw hp_; have p301 : 0 ≤ (t291 : Int) := dt_; have q301 : t291 < (y300.length : Int) := (by have h_ : (t291 : Int) < ((t296.length : Int) : Int) := dt_; first | (have e_ := (Kd.R_reads' HO298.out).1; omega) | simpa only [Ny300.out, List.length_set] using h_); have ql301 : ((t291 : Int) < ((t296.length : Int) : Int)) = True := eq_true (dt_); obtain ⟨ad301, e301, hx301_0, hx301_1, hx301_2, hx301_3⟩ := at_T26 (Kd.R_reads' HO298.out).2.2 t291 p301 q301; obtain rfl : (⟨go19, 0, none⟩ : Addr) = ad301 := (by injection e301); (first | simp only [add_plain] at hx301_0 | simp only [add_at] at hx301_0 | simp only [Addr.add, Nat.zero_add] at hx301_0 | skip); (first | simp only [add_plain] at hx301_1 | simp only [add_at] at hx301_1 | simp only [Addr.add, Nat.zero_add] at hx301_1 | skip); (first | simp only [add_plain] at hx301_2 | simp only [add_at] at hx301_2 | simp only [Addr.add, Nat.zero_add] at hx301_2 | skip); (first | simp only [add_plain] at hx301_3 | simp only [add_at] at hx301_3 | simp only [Addr.add, Nat.zero_add] at hx301_3 | skip); replace p301 := eq_true p301; replace q301 := eq_true q301; have p20 : 0 ≤ (t291 : Int) := dt_; have q20 : (t291 : Int) < ((t296.length : Int) : Int) := dt_; obtain ⟨ce20, hcl20, hM20, hcc20, hfr20⟩ := Kd.R_elem HO298.out z26 (t291 : Int) p20 q20; obtain rfl := k26_openM hM20; have hx20_0 : w37.cell? ⟨go19, (t291 : Int).toNat * 4, none⟩ = some (.string ((rd_T26 y300 t291).f0)) := hcc20 0 _ rfl; have hx20_1 : w37.cell? ⟨go19, (t291 : Int).toNat * 4 + 1, none⟩ = some (.int .i64 ((rd_T26 y300 t291).f1)) := hcc20 1 _ rfl; have hx20_2 : w37.cell? ⟨go19, (t291 : Int).toNat * 4 + 2, none⟩ = some (.int .i64 ((rd_T26 y300 t291).f2)) := hcc20 2 _ rfl; have hx20_3 : w37.cell? ⟨go19, (t291 : Int).toNat * 4 + 3, none⟩ = some (.int .i64 ((rd_T26 y300 t291).f3)) := hcc20 3 _ rfl; have hf20_0 : w37.frozen? ⟨go19, (t291 : Int).toNat * 4, none⟩ = false := hfr20 0; have hf20_1 : w37.frozen? ⟨go19, (t291 : Int).toNat * 4 + 1, none⟩ = false := hfr20 1; have hf20_2 : w37.frozen? ⟨go19, (t291 : Int).toNat * 4 + 2, none⟩ = false := hfr20 2; have hf20_3 : w37.frozen? ⟨go19, (t291 : Int).toNat * 4 + 3, none⟩ = false := hfr20 3; clear hcl20 hcc20 hfr20 hM20; replace p20 := eq_true p20; replace q20 := eq_true q20; have HX38 := Aside0.mk (show Kd.R k26 26 w37 w.heap.size (fun _ => True) (.slice (some ⟨go19, 0, none⟩) t296.length co35) y300 from (kr_ HO298.out)); obtain ⟨ce38, hcl38, hM38, hcc38, hfr38⟩ := Kd.R_elem HX38.out z26 (t291 : Int) (dt_) (by have h_ : (t291 : Int) < ((t296.length : Int) : Int) := dt_; first | exact h_ | (have e_ := (Kd.R_reads' HO298.out).1; omega) | simpa using h_); obtain rfl := k26_openM hM38; have HP38 := Kd.R_seg HX38.out (t291 : Int) (dt_) (by have h_ : (t291 : Int) < ((t296.length : Int) : Int) := dt_; first | exact h_ | (have e_ := (Kd.R_reads' HO298.out).1; omega) | simpa using h_) (seg := [.int .i64 (wrap64 (((rd_T26 y300 t291).f3) + a3))]) (j := 3) hcl38 hcc38 (show 4 ≤ 4 from by decide) (x' := (⟨(rd_T26 y300 t291).f0, (rd_T26 y300 t291).f1, (rd_T26 y300 t291).f2, wrap64 (((rd_T26 y300 t291).f3) + a3)⟩ : S26)) (k26_mkM _ _ _ (⟨(rd_T26 y300 t291).f0, (rd_T26 y300 t291).f1, (rd_T26 y300 t291).f2, wrap64 (((rd_T26 y300 t291).f3) + a3)⟩ : S26) ) (fun _ hk => hk); have hx38_3 := hcc38 3 _ rfl; (try simp only [show (k26).sz = 4 from rfl, Nat.mul_one, Nat.add_zero] at hx38_3); have hf38_3 := hfr38 3; (try simp only [show (k26).sz = 4 from rfl, Nat.mul_one, Nat.add_zero] at hf38_3); clear hcl38 hcc38 hfr38 hM38) | ((with_reducible refine gate_store (t := 3) (p := 57) rfl ?_); refine store_event (t := 3) (p := 57) (v := ?vo_w39) (w1 := (w37.setCell ⟨go19, (t291 : Int).toNat * 4 + 3, none⟩ (.int .i64 (wrap64 (((rd_T26 y300 t291).f3) + a3))))) ?hg ?ho ?hn ?hr ?_; (case ho => rfl); (case hg => rfl); (case hn => rfl); (case hr => first | (go_simp; done) | (go_simp; rfl)); intro w39 hw; have hg : w37.grownBy w39 (some go19) := (by rw [hw]; exact HP38.2); have hp_ : Kd.R k26 26 w39 w.heap.size (fun _ => True) (.slice (some ⟨go19, 0, none⟩) t296.length co35) y302 := (by rw [hw, Ny302.out]; exact HP38.1); clear HP38; have n0_ := Aside0.mk (hp_); have n1_ := Aside0.mk ((by rw [hw]; exact below_set (HB.out) GB19.out : Below w.heap.size w w39)); clear HO298; clear HB; have HO298 := n0_; have HB := n1_; clear n0_ n1_; clear hg hw hp_; have p303 : 0 ≤ (t291 : Int) := dt_; have q303 : t291 < (y302.length : Int) := (by have h_ : (t291 : Int) < ((t296.length : Int) : Int) := dt_; first | (have e_ := (Kd.R_reads' HO298.out).1; omega) | simpa only [Ny300.out, Ny302.out, List.length_set] using h_); have ql303 : ((t291 : Int) < ((t296.length : Int) : Int)) = True := eq_true (dt_); obtain ⟨ad303, e303, hx303_0, hx303_1, hx303_2, hx303_3⟩ := at_T26 (Kd.R_reads' HO298.out).2.2 t291 p303 q303; obtain rfl : (⟨go19, 0, none⟩ : Addr) = ad303 := (by injection e303); (first | simp only [add_plain] at hx303_0 | simp only [add_at] at hx303_0 | simp only [Addr.add, Nat.zero_add] at hx303_0 | skip); (first | simp only [add_plain] at hx303_1 | simp only [add_at] at hx303_1 | simp only [Addr.add, Nat.zero_add] at hx303_1 | skip); (first | simp only [add_plain] at hx303_2 | simp only [add_at] at hx303_2 | simp only [Addr.add, Nat.zero_add] at hx303_2 | skip); (first | simp only [add_plain] at hx303_3 | simp only [add_at] at hx303_3 | simp only [Addr.add, Nat.zero_add] at hx303_3 | skip); replace p303 := eq_true p303; replace q303 := eq_true q303; have p22 : 0 ≤ (t291 : Int) := dt_; have q22 : (t291 : Int) < ((t296.length : Int) : Int) := dt_; obtain ⟨ce22, hcl22, hM22, hcc22, hfr22⟩ := Kd.R_elem HO298.out z26 (t291 : Int) p22 q22; obtain rfl := k26_openM hM22; have hx22_0 : w39.cell? ⟨go19, (t291 : Int).toNat * 4, none⟩ = some (.string ((rd_T26 y302 t291).f0)) := hcc22 0 _ rfl; have hx22_1 : w39.cell? ⟨go19, (t291 : Int).toNat * 4 + 1, none⟩ = some (.int .i64 ((rd_T26 y302 t291).f1)) := hcc22 1 _ rfl; have hx22_2 : w39.cell? ⟨go19, (t291 : Int).toNat * 4 + 2, none⟩ = some (.int .i64 ((rd_T26 y302 t291).f2)) := hcc22 2 _ rfl; have hx22_3 : w39.cell? ⟨go19, (t291 : Int).toNat * 4 + 3, none⟩ = some (.int .i64 ((rd_T26 y302 t291).f3)) := hcc22 3 _ rfl; have hf22_0 : w39.frozen? ⟨go19, (t291 : Int).toNat * 4, none⟩ = false := hfr22 0; have hf22_1 : w39.frozen? ⟨go19, (t291 : Int).toNat * 4 + 1, none⟩ = false := hfr22 1; have hf22_2 : w39.frozen? ⟨go19, (t291 : Int).toNat * 4 + 2, none⟩ = false := hfr22 2; have hf22_3 : w39.frozen? ⟨go19, (t291 : Int).toNat * 4 + 3, none⟩ = false := hfr22 3; clear hcl22 hcc22 hfr22 hM22; replace p22 := eq_true p22; replace q22 := eq_true q22; have HX40 := Aside0.mk (show Kd.R k26 26 w39 w.heap.size (fun _ => True) (.slice (some ⟨go19, 0, none⟩) t296.length co35) y302 from (kr_ HO298.out)); obtain ⟨ce40, hcl40, hM40, hcc40, hfr40⟩ := Kd.R_elem HX40.out z26 (t291 : Int) (dt_) (by have h_ : (t291 : Int) < ((t296.length : Int) : Int) := dt_; first | exact h_ | (have e_ := (Kd.R_reads' HO298.out).1; omega) | simpa using h_); obtain rfl := k26_openM hM40; have HP40 := Kd.R_seg HX40.out (t291 : Int) (dt_) (by have h_ : (t291 : Int) < ((t296.length : Int) : Int) := dt_; first | exact h_ | (have e_ := (Kd.R_reads' HO298.out).1; omega) | simpa using h_) (seg := [.int .i64 ji21]) (j := 2) hcl40 hcc40 (show 3 ≤ 4 from by decide) (x' := (⟨(rd_T26 y302 t291).f0, (rd_T26 y302 t291).f1, ji21, (rd_T26 y302 t291).f3⟩ : S26)) (k26_mkM _ _ _ (⟨(rd_T26 y302 t291).f0, (rd_T26 y302 t291).f1, ji21, (rd_T26 y302 t291).f3⟩ : S26) ) (fun _ hk => hk); have hx40_2 := hcc40 2 _ rfl; (try simp only [show (k26).sz = 4 from rfl, Nat.mul_one, Nat.add_zero] at hx40_2); have hf40_2 := hfr40 2; (try simp only [show (k26).sz = 4 from rfl, Nat.mul_one, Nat.add_zero] at hf40_2); clear hcl40 hcc40 hfr40 hM40) | ((with_reducible refine gate_store (t := 3) (p := 68) rfl ?_); refine store_event (t := 3) (p := 68) (v := ?vo_w41) (w1 := (w39.setCell ⟨go19, (t291 : Int).toNat * 4 + 2, none⟩ (.int .i64 ji21))) ?hg ?ho ?hn ?hr ?_; (case ho => rfl); (case hg => rfl); (case hn => rfl); (case hr => first | (go_simp; done) | (go_simp; rfl)); intro w41 hw; have hg : w39.grownBy w41 (some go19) := (by rw [hw]; exact HP40.2); have hp_ : Kd.R k26 26 w41 w.heap.size (fun _ => True) (.slice (some ⟨go19, 0, none⟩) t296.length co35) y304 := (by rw [hw, Ny304.out]; exact HP40.1); clear HP40; have n0_ := Aside0.mk (hp_); have n1_ := Aside0.mk ((by rw [hw]; exact below_set (HB.out) GB19.out : Below w.heap.size w w41)); clear HO298; clear HB; have HO298 := n0_; have HB := n1_; clear n0_ n1_; clear hg hw hp_) | ((with_reducible refine gate_callee (f := 22) rfl ?_); refine goesL_ (some 70) rfl rfl Tryd.func22 (by kernel_rfl) rfl #[.slice (some ⟨go19, 0, none⟩) y304.length co35] rfl (by (try simp only [List.map_toArray, List.map_cons, List.map_nil]); first | done | (rw [show y304.length = t296.length from (Kd.R_reads' HO298.out).1.symm] <;> rfl) | rfl | (simp only [List.length_drop, List.length_take]; rfl)) ?_; (with_reducible refine (impl_AreCaves.calls kj6 _ _ y304 false _ ?side1 ?side2 A23.out).mono ?_); (case side1 => exact kc_ (Kd.R_reads' HO298.out).2.2); (case side2 => rw [show y304.length = t296.length from (Kd.R_reads' HO298.out).1.symm]; exact (Kd.R_reads' HO298.out).2.1); rintro e w42 ⟨rfl, hb⟩; refine ⟨_, rfl, ?_⟩; have n0_ := Aside0.mk (Kd.R_below (kr_ HO298.out) hb); have n1_ := Aside0.mk (below_step (lb0_ HB.out) hb); clear HO298; clear HB; have HO298 := n0_; have HB := n1_; clear n0_ n1_; (try clear hb); (try clear hb2); (try clear hk); (try clear hi)))
       go_ret2
       exact ⟨_, by first | rfl | (simp [errW_none, errW_some] <;> rfl) | (simp only [← hji21]; first | rfl | (simp [errW_none, errW_some] <;> rfl)) | (simp [*, errW_none, errW_some] <;> rfl), by first | exact Kd.R_nil _ _ _ _ _ | exact Kd.N_nil _ _ _ _ _ | exact Kd.V_nil _ _ _ _ _ | exact Kd.Q_nil _ _ _ _ _ | exact Kd.S_nil _ _ _ _ _, lb0_ HB.out⟩
     ·
      rw [if_neg c18] at H
      exact absurd H (by simp)
    ·
     rw [if_neg c17] at H
     exact absurd H (by simp)
def spec_ConnectCaves.j0 : Nat → List (S26) → Int → Int → Int → Bool → Option ((List (S26)) × Bool)
 | 0, _, _, _, _, _ => none
 | k + 1, x0, x3, x10, x11, x43 => if x43 = true then (some ((([] : List (S26))), false)) else ((spec_l1Least.f x10 x11).bind fun t353 => ((spec_l1Most.f x10 x11).bind fun t354 => (if 0 ≤ t353 then (if t353 < (x0.length : Int) then (if 0 ≤ t354 then (if t354 < (x0.length : Int) then ((some (([] : List (S26)) : List (S26))).bind fun y359 => (if t354 ≤ (x0.length : Int) then ((some (x0.take (t354 : Int).toNat : List (S26))).bind fun y362 => (if y359.length + y362.length < 3518437208883 then ((some (y359 ++ y362 : List (S26))).bind fun y366 => (if 0 ≤ (wrap64 (t354 + 1)) then (if (wrap64 (t354 + 1)) ≤ (x0.length : Int) then ((some (x0.drop ((wrap64 (t354 + 1)) : Int).toNat : List (S26))).bind fun y369 => (if y366.length + y369.length < 3518437208883 then ((some (y366 ++ y369 : List (S26))).bind fun y373 => ((spec_l1Most.f ((rd_T26 x0 t353).f2) ((rd_T26 x0 t354).f2)).bind fun t376 => (if t353 < (y373.length : Int) then ((some (y373.set (t353 : Int).toNat (⟨(rd_T26 x0 t353).f0, wrap64 ((wrap64 (((rd_T26 x0 t353).f1) + ((rd_T26 x0 t354).f1))) + x3), t376, wrap64 ((wrap64 (((rd_T26 x0 t353).f3) + ((rd_T26 x0 t354).f3))) + 1)⟩ : S26) : List (S26))).bind fun y377 => ((spec_l26Good.f k y377).bind fun t378 => (if t378 = true then (some (y377, true)) else (some ((([] : List (S26))), false))))) else (none)))) else (none))) else (none)) else (none))) else (none))) else (none))) else (none)) else (none)) else (none)) else (none))))
def spec_ConnectCaves.f (k : Nat) (l0 : List (S26)) (a1 : ByteArray) (a2 : ByteArray) (a3 : Int) : Option ((List (S26)) × Bool) := (spec_l26Find.f k l0 a1).bind fun t346 => ((spec_l26Find.f k l0 a2).bind fun t347 => ((spec_l26Good.f k l0).bind fun t348 => (if t348 = true then (if t346 < 0 then (spec_ConnectCaves.j0 k l0 a3 t346 t347 true) else (if t347 < 0 then (spec_ConnectCaves.j0 k l0 a3 t346 t347 true) else (if t346 = t347 then (spec_ConnectCaves.j0 k l0 a3 t346 t347 true) else ((spec_l1In.f a3 1 500).bind fun t349 => (spec_ConnectCaves.j0 k l0 a3 t346 t347 (!t349)))))) else (spec_ConnectCaves.j0 k l0 a3 t346 t347 true))))
def spec_ConnectCaves.T5 : Bool × List (List Nat × List Nat) := (true, [([], []), ([], []), ([0, 1], [0, 1]), ([2], [2]), ([], []), ([], []), ([4, 5], [4, 5]), ([6], [6]), ([], []), ([], []), ([8, 3, 0, 1, 2, 3, 8, 9], [3, 8]), ([9, 7, 10, 0, 1, 2, 3, 4, 5, 6, 7, 8, 9, 10], [7, 9])])
def spec_ConnectCaves.B5 : List Nat := [0, 0, 3, 7, 0, 0, 48, 112, 0, 0, 783, 2047]
theorem spec_ConnectCaves.tab5 : rtab .any (opsOf Tryd.f35 5) = spec_ConnectCaves.T5 := by kernel_rfl
theorem spec_ConnectCaves.bits5 : waitsOk spec_ConnectCaves.T5.2 spec_ConnectCaves.B5 = true := by kernel_rfl
def spec_ConnectCaves.T6 : Bool × List (List Nat × List Nat) := (true, [([], []), ([], []), ([], []), ([1, 2], [1, 2]), ([0, 3], [0, 3]), ([], []), ([], []), ([6], [6]), ([5, 7], [5, 7]), ([4, 8, 4], [4, 8]), ([9, 9, 0, 1, 2, 3, 4, 5, 6, 7, 8, 9], [9])])
def spec_ConnectCaves.B6 : List Nat := [0, 0, 0, 6, 15, 0, 0, 64, 224, 511, 1023]
theorem spec_ConnectCaves.tab6 : rtab .any (opsOf Tryd.f35 6) = spec_ConnectCaves.T6 := by kernel_rfl
theorem spec_ConnectCaves.bits6 : waitsOk spec_ConnectCaves.T6.2 spec_ConnectCaves.B6 = true := by kernel_rfl
def spec_ConnectCaves.T7 : Bool × List (List Nat × List Nat) := (true, [([], []), ([], []), ([], []), ([2], [2]), ([], []), ([4], [4]), ([], []), ([6], [6]), ([5, 7], [5, 7]), ([], []), ([8, 9], [8, 9]), ([], []), ([11], [11]), ([], []), ([13], [13]), ([12, 14], [12, 14]), ([], []), ([16], [16]), ([], []), ([18], [18]), ([17, 19], [17, 19]), ([20], [20]), ([3, 10, 15, 21], [3, 10, 15, 21]), ([0, 1, 0, 1, 2, 3, 4, 5, 6, 7, 8, 9, 10, 11, 12, 13, 14, 15, 16, 17, 18, 19, 20, 21, 22], [0, 1]), ([23, 22, 15, 0, 1, 2, 3, 4, 5, 6, 7, 8, 9, 10, 11, 12, 13, 14, 15, 16, 17, 18, 19, 20, 21, 22], [22, 23])])
def spec_ConnectCaves.B7 : List Nat := [0, 0, 0, 4, 0, 16, 0, 64, 240, 0, 1008, 0, 2048, 0, 8192, 30720, 0, 65536, 0, 262144, 983040, 2031616, 4194300, 8388607, 16777215]
theorem spec_ConnectCaves.tab7 : rtab .any (opsOf Tryd.f35 7) = spec_ConnectCaves.T7 := by kernel_rfl
theorem spec_ConnectCaves.bits7 : waitsOk spec_ConnectCaves.T7.2 spec_ConnectCaves.B7 = true := by kernel_rfl
abbrev spec_ConnectCaves.mk0 : Array Bool := #[false, false, false, false, false, false, false, false, false, false, false, false]
abbrev spec_ConnectCaves.mk1 : Array Bool := #[true, false, false, false, false, false, false, false, false, false, false, false]
abbrev spec_ConnectCaves.mk2 : Array Bool := #[true, true, false, false, false, false, false, false, false, false, false, false]
abbrev spec_ConnectCaves.mk3 : Array Bool := #[true, true, true, false, false, false, false, false, false, false, false, false]
abbrev spec_ConnectCaves.mk4 : Array Bool := #[true, true, true, false, true, false, false, false, false, false, false, false]
abbrev spec_ConnectCaves.mk5 : Array Bool := #[true, true, true, false, true, true, false, false, false, false, false, false]
abbrev spec_ConnectCaves.mk6 : Array Bool := #[true, true, true, false, true, true, true, false, false, false, false, false]
abbrev spec_ConnectCaves.mk7 : Array Bool := #[true, true, true, true, true, true, true, false, false, false, false, false]
abbrev spec_ConnectCaves.mk8 : Array Bool := #[true, true, true, true, true, true, true, true, false, false, false, false]
abbrev spec_ConnectCaves.mk9 : Array Bool := #[true, true, true, true, true, true, true, true, true, true, false, false]
abbrev spec_ConnectCaves.mk10 : Array Bool := #[true, true, true, true, true, true, true, true, true, false, false, false]
abbrev spec_ConnectCaves.mk11 : Array Bool := #[true, true, true, true, true, true, true, true, false, true, false, false]
abbrev spec_ConnectCaves.mk12 : Array Bool := #[true, true, true, true, true, true, true, true, true, true, true, false]
abbrev spec_ConnectCaves.mk13 : Array Bool := #[true, true, true, true, true, true, true, true, true, true, true, true]
abbrev spec_ConnectCaves.mk14 : Array Bool := #[false, false, false, false, false, false, false, false, false, false, false]
abbrev spec_ConnectCaves.mk15 : Array Bool := #[false, true, false, false, false, false, false, false, false, false, false]
abbrev spec_ConnectCaves.mk16 : Array Bool := #[false, true, true, false, false, false, false, false, false, false, false]
abbrev spec_ConnectCaves.mk17 : Array Bool := #[false, true, true, true, false, false, false, false, false, false, false]
abbrev spec_ConnectCaves.mk18 : Array Bool := #[false, true, true, true, false, true, false, false, false, false, false]
abbrev spec_ConnectCaves.mk19 : Array Bool := #[false, true, true, true, false, true, true, false, false, false, false]
abbrev spec_ConnectCaves.mk20 : Array Bool := #[false, true, true, true, false, true, true, true, false, false, false]
abbrev spec_ConnectCaves.mk21 : Array Bool := #[false, true, true, true, false, true, true, true, true, false, false]
abbrev spec_ConnectCaves.mk22 : Array Bool := #[true, true, true, true, false, true, true, true, true, false, false]
abbrev spec_ConnectCaves.mk23 : Array Bool := #[true, true, true, true, true, true, true, true, true, false, false]
abbrev spec_ConnectCaves.mk24 : Array Bool := #[true, true, true, true, true, true, true, true, true, true, false]
abbrev spec_ConnectCaves.mk25 : Array Bool := #[true, true, true, true, true, true, true, true, true, true, true]
abbrev spec_ConnectCaves.mk26 : Array Bool := #[false, false, false, false, false, false, false, false, false, false, false, false, false, false, false, false, false, false, false, false, false, false, false, false, false]
abbrev spec_ConnectCaves.mk27 : Array Bool := #[true, false, false, false, false, false, false, false, false, false, false, false, false, false, false, false, false, false, false, false, false, false, false, false, false]
abbrev spec_ConnectCaves.mk28 : Array Bool := #[true, true, false, false, false, false, false, false, false, false, false, false, false, false, false, false, false, false, false, false, false, false, false, false, false]
abbrev spec_ConnectCaves.mk29 : Array Bool := #[true, true, true, false, false, false, false, false, false, false, false, false, false, false, false, false, false, false, false, false, false, false, false, false, false]
abbrev spec_ConnectCaves.mk30 : Array Bool := #[true, true, true, false, true, false, false, false, false, false, false, false, false, false, false, false, false, false, false, false, false, false, false, false, false]
abbrev spec_ConnectCaves.mk31 : Array Bool := #[true, true, true, false, true, false, true, false, false, false, false, false, false, false, false, false, false, false, false, false, false, false, false, false, false]
abbrev spec_ConnectCaves.mk32 : Array Bool := #[true, true, true, false, true, false, true, false, false, true, false, false, false, false, false, false, false, false, false, false, false, false, false, false, false]
abbrev spec_ConnectCaves.mk33 : Array Bool := #[true, true, true, false, true, false, true, false, false, true, false, true, false, false, false, false, false, false, false, false, false, false, false, false, false]
abbrev spec_ConnectCaves.mk34 : Array Bool := #[true, true, true, false, true, false, true, false, false, true, false, true, false, true, false, false, false, false, false, false, false, false, false, false, false]
abbrev spec_ConnectCaves.mk35 : Array Bool := #[true, true, true, false, true, false, true, false, false, true, false, true, false, true, false, false, true, false, false, false, false, false, false, false, false]
abbrev spec_ConnectCaves.mk36 : Array Bool := #[true, true, true, false, true, false, true, false, false, true, false, true, false, true, false, false, true, false, true, false, false, false, false, false, false]
abbrev spec_ConnectCaves.mk37 : Array Bool := #[true, true, true, true, true, false, true, false, false, true, false, true, false, true, false, false, true, false, true, false, false, false, false, false, false]
abbrev spec_ConnectCaves.mk38 : Array Bool := #[true, true, true, true, true, true, true, false, false, true, false, true, false, true, false, false, true, false, true, false, false, false, false, false, false]
abbrev spec_ConnectCaves.mk39 : Array Bool := #[true, true, true, true, true, true, true, true, false, true, false, true, false, true, false, false, true, false, true, false, false, false, false, false, false]
abbrev spec_ConnectCaves.mk40 : Array Bool := #[true, true, true, true, true, true, true, true, true, true, false, true, false, true, false, false, true, false, true, false, false, false, false, false, false]
abbrev spec_ConnectCaves.mk41 : Array Bool := #[true, true, true, true, true, true, true, true, true, true, true, true, false, true, false, false, true, false, true, false, false, false, false, false, false]
abbrev spec_ConnectCaves.mk42 : Array Bool := #[true, true, true, true, true, true, true, true, true, true, true, true, true, true, false, false, true, false, true, false, false, false, false, false, false]
abbrev spec_ConnectCaves.mk43 : Array Bool := #[true, true, true, true, true, true, true, true, true, true, true, true, true, true, true, false, true, false, true, false, false, false, false, false, false]
abbrev spec_ConnectCaves.mk44 : Array Bool := #[true, true, true, true, true, true, true, true, true, true, true, true, true, true, true, false, true, true, true, false, false, false, false, false, false]
abbrev spec_ConnectCaves.mk45 : Array Bool := #[true, true, true, true, true, true, true, true, true, true, true, true, true, true, true, false, true, true, true, true, false, false, false, false, false]
abbrev spec_ConnectCaves.mk46 : Array Bool := #[true, true, true, true, true, true, true, true, true, true, true, true, true, true, true, false, true, true, true, true, true, false, false, false, false]
abbrev spec_ConnectCaves.mk47 : Array Bool := #[true, true, true, true, true, true, true, true, true, true, true, true, true, true, true, false, true, true, true, true, true, true, false, false, false]
abbrev spec_ConnectCaves.mk48 : Array Bool := #[true, true, true, true, true, true, true, true, true, true, true, true, true, true, true, true, true, true, true, true, true, true, false, false, false]
abbrev spec_ConnectCaves.mk49 : Array Bool := #[true, true, true, true, true, true, true, true, true, true, true, true, true, true, true, true, true, true, true, true, true, true, true, false, false]
abbrev spec_ConnectCaves.mk50 : Array Bool := #[true, true, true, true, true, true, true, true, true, true, true, true, true, true, true, true, true, true, true, true, true, true, true, true, false]
abbrev spec_ConnectCaves.mk51 : Array Bool := #[true, true, true, true, true, true, true, true, true, true, true, true, true, true, true, true, true, true, true, true, true, true, true, true, true]
set_option maxHeartbeats 8000000 in
set_option maxRecDepth 100000 in
theorem spec_ConnectCaves.calls (k : Nat) (A0 : Option Addr) (c0 : Nat) (l0 : List (S26)) (a1 : ByteArray) (a2 : ByteArray) (a3 : Int) (r1 : List (S26)) (r2 : Bool) (w : World) (hr0 : Kd.C k26 w A0 l0.length l0) (hc0 : l0.length ≤ c0) (h : spec_ConnectCaves.f k l0 a1 a2 a3 = some (r1, r2)) :
  Calls Tryd.prog 35 #[.slice A0 l0.length c0, .string a1, .string a2, .int .i64 a3] w fun e w' => ∃ v0_ : Value, e = .returned (.tuple #[v0_, .bool r2]) ∧ Kd.R k26 26 w' w.heap.size (fun _ => True) v0_ r1 ∧ Below w.heap.size w w' := by
 have hu26 := Tryd.underlying26
 have HR0 := Aside0.mk hr0
 have HC0 := Aside0.mk hc0
 clear hr0 hc0
 have HB := Aside0.mk (Below.refl w.heap.size w)
 have H : ((spec_l26Find.f k l0 a1).bind fun t346 => ((spec_l26Find.f k l0 a2).bind fun t347 => ((spec_l26Good.f k l0).bind fun t348 => (if t348 = true then (if t346 < 0 then (spec_ConnectCaves.j0 k l0 a3 t346 t347 true) else (if t347 < 0 then (spec_ConnectCaves.j0 k l0 a3 t346 t347 true) else (if t346 = t347 then (spec_ConnectCaves.j0 k l0 a3 t346 t347 true) else ((spec_l1In.f a3 1 500).bind fun t349 => (spec_ConnectCaves.j0 k l0 a3 t346 t347 (!t349)))))) else (spec_ConnectCaves.j0 k l0 a3 t346 t347 true))))) = some (r1, r2) := h
 clear h
 replace H := Option.bind_eq_some_iff.mp H
 obtain ⟨t346, A50, H⟩ := H
 replace H : ((spec_l26Find.f k l0 a2).bind fun t347 => ((spec_l26Good.f k l0).bind fun t348 => (if t348 = true then (if t346 < 0 then (spec_ConnectCaves.j0 k l0 a3 t346 t347 true) else (if t347 < 0 then (spec_ConnectCaves.j0 k l0 a3 t346 t347 true) else (if t346 = t347 then (spec_ConnectCaves.j0 k l0 a3 t346 t347 true) else ((spec_l1In.f a3 1 500).bind fun t349 => (spec_ConnectCaves.j0 k l0 a3 t346 t347 (!t349)))))) else (spec_ConnectCaves.j0 k l0 a3 t346 t347 true)))) = some (r1, r2) := H
 have A5 := Aside0.mk A50
 clear A50
 replace H := Option.bind_eq_some_iff.mp H
 obtain ⟨t347, A60, H⟩ := H
 replace H : ((spec_l26Good.f k l0).bind fun t348 => (if t348 = true then (if t346 < 0 then (spec_ConnectCaves.j0 k l0 a3 t346 t347 true) else (if t347 < 0 then (spec_ConnectCaves.j0 k l0 a3 t346 t347 true) else (if t346 = t347 then (spec_ConnectCaves.j0 k l0 a3 t346 t347 true) else ((spec_l1In.f a3 1 500).bind fun t349 => (spec_ConnectCaves.j0 k l0 a3 t346 t347 (!t349)))))) else (spec_ConnectCaves.j0 k l0 a3 t346 t347 true))) = some (r1, r2) := H
 have A6 := Aside0.mk A60
 clear A60
 have HC7 := Aside0.mk H
 clear H
 go_enter Tryd.func35, Tryd.ntmps35
 go_upto_region 2 with (first | ((with_reducible refine gate_callee (f := 64) rfl ?_); refine ga_ (some 19) Tryd.func64 #[.slice A0 l0.length c0, .string a1] ?_; (with_reducible refine (spec_l26Find.calls k _ _ l0 a1 t346 _ ?side1 ?side2 A5.out).mono ?_); (case side1 => exact kc_ HR0.out); (case side2 => exact HC0.out); rintro e w' ⟨rfl, ⟨nd, rfl⟩⟩; refine ⟨_, rfl, ?_⟩) | ((with_reducible refine gate_callee (f := 64) rfl ?_); refine ga_ (some 22) Tryd.func64 #[.slice A0 l0.length c0, .string a2] ?_; (with_reducible refine (spec_l26Find.calls k _ _ l0 a2 t347 _ ?side1 ?side2 A6.out).mono ?_); (case side1 => exact kc_ HR0.out); (case side2 => exact HC0.out); rintro e w' ⟨rfl, ⟨nd, rfl⟩⟩; refine ⟨_, rfl, ?_⟩))
 (try simp only [Act.put, List.setIfInBounds_toArray, List.set_cons_zero, List.set_cons_succ])
 go_cut [43] (fun v43 wc => ∃ (kq : Nat) (x43_6 : Bool), v43 = .bool x43_6 ∧ Aside0 (spec_ConnectCaves.j0 kq l0 a3 t346 t347 x43_6 = some (r1, r2)) ∧ Aside0 (kq ≤ k) ∧ Aside0 (Below w.heap.size w wc))
 case first =>
  have H := HC7.out
  clear HC7
  replace H := Option.bind_eq_some_iff.mp H
  obtain ⟨t348, A80, H⟩ := H
  replace H : (if t348 = true then (if t346 < 0 then (spec_ConnectCaves.j0 k l0 a3 t346 t347 true) else (if t347 < 0 then (spec_ConnectCaves.j0 k l0 a3 t346 t347 true) else (if t346 = t347 then (spec_ConnectCaves.j0 k l0 a3 t346 t347 true) else ((spec_l1In.f a3 1 500).bind fun t349 => (spec_ConnectCaves.j0 k l0 a3 t346 t347 (!t349)))))) else (spec_ConnectCaves.j0 k l0 a3 t346 t347 true)) = some (r1, r2) := H
  have A8 := Aside0.mk A80
  clear A80
  by_cases c9 : t348 = true
  ·
   subst c9
   have H1 : (if t346 < 0 then (spec_ConnectCaves.j0 k l0 a3 t346 t347 true) else (if t347 < 0 then (spec_ConnectCaves.j0 k l0 a3 t346 t347 true) else (if t346 = t347 then (spec_ConnectCaves.j0 k l0 a3 t346 t347 true) else ((spec_l1In.f a3 1 500).bind fun t349 => (spec_ConnectCaves.j0 k l0 a3 t346 t347 (!t349)))))) = some (r1, r2) := by rw [if_pos rfl] at H; exact H
   clear H
   have H := H1
   clear H1
   by_cases c10 : t346 < 0
   ·
    rw [if_pos c10] at H
    have c10b0 : decide (t346 < 0) = true := decide_eq_true c10
    clear c10
    (first | rw [c10b0] | (simp only [i64_w, i32_w]; rw [c10b0]) | skip)
    have H' := Aside0.mk H
    clear H
    go_wp2_with (first | ((with_reducible refine gate_callee (f := 58) rfl ?_); refine ga_ (some 24) Tryd.func58 #[.slice A0 l0.length c0] ?_; (with_reducible refine (spec_l26Good.calls k _ _ l0 true _ ?side1 ?side2 A8.out).mono ?_); (case side1 => exact kc_ (Kd.C_below HR0.out HB.out)); (case side2 => exact HC0.out); rintro e w11 ⟨rfl, hb⟩; refine ⟨_, rfl, ?_⟩; have n0_ := Aside0.mk (below_step (lb0_ HB.out) hb); clear HB; have HB := n0_; clear n0_; (try clear hb); (try clear hb2); (try clear hk); (try clear hi)))
    go_meet
    case rel => exact ⟨_, (true), (by first | rfl | (simp; done) | (simp [*]; done)), H', ⟨by first | omega | exact Nat.le_refl _⟩, ⟨lb0_ HB.out⟩⟩
   ·
    rw [if_neg c10] at H
    have c10b0 : decide (t346 < 0) = false := decide_eq_false c10
    clear c10
    (first | rw [c10b0] | (simp only [i64_w, i32_w]; rw [c10b0]) | skip)
    by_cases c12 : t347 < 0
    ·
     rw [if_pos c12] at H
     have c12b0 : decide (t347 < 0) = true := decide_eq_true c12
     clear c12
     have H' := Aside0.mk H
     clear H
     go_wp2_with (first | ((with_reducible refine gate_callee (f := 58) rfl ?_); refine ga_ (some 24) Tryd.func58 #[.slice A0 l0.length c0] ?_; (with_reducible refine (spec_l26Good.calls k _ _ l0 true _ ?side1 ?side2 A8.out).mono ?_); (case side1 => exact kc_ (Kd.C_below HR0.out HB.out)); (case side2 => exact HC0.out); rintro e w13 ⟨rfl, hb⟩; refine ⟨_, rfl, ?_⟩; have n0_ := Aside0.mk (below_step (lb0_ HB.out) hb); clear HB; have HB := n0_; clear n0_; (try clear hb); (try clear hb2); (try clear hk); (try clear hi)))
     go_meet
     case rel => exact ⟨_, (true), (by first | rfl | (simp; done) | (simp [*]; done)), H', ⟨by first | omega | exact Nat.le_refl _⟩, ⟨lb0_ HB.out⟩⟩
    ·
     rw [if_neg c12] at H
     have c12b0 : decide (t347 < 0) = false := decide_eq_false c12
     clear c12
     by_cases c14 : t346 = t347
     ·
      rw [if_pos c14] at H
      have c14b0 : (t346 == t347) = true := beq_iff_eq.mpr c14
      have c14b1 : (t346 != t347) = false := bne_eq_false_iff_eq.mpr c14
      clear c14
      have H' := Aside0.mk H
      clear H
      go_wp2_with (first | ((with_reducible refine gate_callee (f := 58) rfl ?_); refine ga_ (some 24) Tryd.func58 #[.slice A0 l0.length c0] ?_; (with_reducible refine (spec_l26Good.calls k _ _ l0 true _ ?side1 ?side2 A8.out).mono ?_); (case side1 => exact kc_ (Kd.C_below HR0.out HB.out)); (case side2 => exact HC0.out); rintro e w15 ⟨rfl, hb⟩; refine ⟨_, rfl, ?_⟩; have n0_ := Aside0.mk (below_step (lb0_ HB.out) hb); clear HB; have HB := n0_; clear n0_; (try clear hb); (try clear hb2); (try clear hk); (try clear hi)))
      go_meet
      case rel => exact ⟨_, (true), (by first | rfl | (simp; done) | (simp [*]; done)), H', ⟨by first | omega | exact Nat.le_refl _⟩, ⟨lb0_ HB.out⟩⟩
     ·
      rw [if_neg c14] at H
      have c14b0 : (t346 == t347) = false := beq_eq_false_iff_ne.mpr c14
      have c14b1 : (t346 != t347) = true := bne_iff_ne.mpr c14
      replace H := Option.bind_eq_some_iff.mp H
      obtain ⟨t349, A160, H⟩ := H
      replace H : (spec_ConnectCaves.j0 k l0 a3 t346 t347 (!t349)) = some (r1, r2) := H
      have A16 := Aside0.mk A160
      clear A160
      have H' := Aside0.mk H
      clear H
      go_wp2_with (first | ((with_reducible refine gate_callee (f := 58) rfl ?_); refine ga_ (some 24) Tryd.func58 #[.slice A0 l0.length c0] ?_; (with_reducible refine (spec_l26Good.calls k _ _ l0 true _ ?side1 ?side2 A8.out).mono ?_); (case side1 => exact kc_ (Kd.C_below HR0.out HB.out)); (case side2 => exact HC0.out); rintro e w17 ⟨rfl, hb⟩; refine ⟨_, rfl, ?_⟩; have n0_ := Aside0.mk (below_step (lb0_ HB.out) hb); clear HB; have HB := n0_; clear n0_; (try clear hb); (try clear hb2); (try clear hk); (try clear hi)) | (go_at_call 62; (with_reducible refine (spec_l1In.calls a3 1 500 t349 _ A16.out).mono ?_); rintro e w' ⟨rfl, ⟨nd, rfl⟩⟩))
      go_meet
      case rel => exact ⟨_, (!t349), (by first | rfl | (simp; done) | (simp [*]; done)), H', ⟨by first | omega | exact Nat.le_refl _⟩, ⟨lb0_ HB.out⟩⟩
  ·
   replace c9 := Bool.eq_false_iff.mpr c9
   subst c9
   have H1 : (spec_ConnectCaves.j0 k l0 a3 t346 t347 true) = some (r1, r2) := by rw [if_neg (show ¬ (false = true) by decide)] at H; exact H
   clear H
   have H := H1
   clear H1
   have H' := Aside0.mk H
   clear H
   go_wp2_with (first | ((with_reducible refine gate_callee (f := 58) rfl ?_); refine ga_ (some 24) Tryd.func58 #[.slice A0 l0.length c0] ?_; (with_reducible refine (spec_l26Good.calls k _ _ l0 false _ ?side1 ?side2 A8.out).mono ?_); (case side1 => exact kc_ (Kd.C_below HR0.out HB.out)); (case side2 => exact HC0.out); rintro e w18 ⟨rfl, hb⟩; refine ⟨_, rfl, ?_⟩; have n0_ := Aside0.mk (below_step (lb0_ HB.out) hb); clear HB; have HB := n0_; clear n0_; (try clear hb); (try clear hb2); (try clear hk); (try clear hi)))
   go_meet
   case rel => exact ⟨_, (true), (by first | rfl | (simp; done) | (simp [*]; done)), H', ⟨by first | omega | exact Nat.le_refl _⟩, ⟨lb0_ HB.out⟩⟩
 case rest =>
  clear HC7
  try clear c1
  try clear p2
  try clear c3
  try clear c5
  try clear c6
  try clear c9
  try clear c10
  try clear c10b0
  try clear c12
  try clear c12b0
  try clear c14
  try clear c14b0
  try clear c14b1
  obtain ⟨kq, x43_6, rfl, HA, HJ6, HB⟩ := hcut
  cases kq with
  | zero => exact absurd HA.out (by simp [spec_ConnectCaves.j0])
  | succ kj6 =>
   have H := HA.out
   clear HA
   simp only [spec_ConnectCaves.j0] at H
   by_cases c19 : x43_6 = true
   ·
    subst c19
    have H1 : (some ((([] : List (S26))), false)) = some (r1, r2) := by rw [if_pos rfl] at H; exact H
    clear H
    have H := H1
    clear H1
    obtain ⟨y350, hy350⟩ : ∃ y_ : List (S26), y_ = (([] : List (S26))) := ⟨_, rfl⟩
    replace H : (some (y350, false)) = some (r1, r2) := by first | (rw [hy350]; with_reducible exact H) | (have H2_ := (Option.bind_some _ _).symm.trans H; rw [hy350]; with_reducible exact H2_) | (have H2_ := (Option.bind_some _ _).symm.trans H; with_reducible exact H2_) | with_reducible exact H | (rw [hy350]; exact H) | exact H
    have Ny350 := Aside0.mk hy350
    clear hy350
    simp only [Option.some.injEq, Prod.mk.injEq] at H
    obtain ⟨rfl, rfl⟩ := H
    go_wp2_with (first | ((with_reducible refine gate_dst (N := 44) rfl ?_); refine Kd.R_lit k26 _ 26 ?hg (N := 44) ?hd (xs := ([] : List (S26))) (inner := []) (ok := fun _ => True) (okp := fun _ => True) ?hr ?hp (fun _ hk => hk) trivial (Below.refl _ _) (Nat.le_refl _) (by simp) ?_; (case hd => rfl); (case hg => rfl); (case hr => first | (go_simp; done) | (go_simp; rfl)); (case hp => exact (Reps.none _ _)); intro v351 w20 ho21 hb hg_ hnew_; clear hg_ hnew_; (first | rw [← Ny350.out] at ho21 | (simp only [Int.reduceToNat] at ho21; rw [← Ny350.out] at ho21)); have n0_ := Aside0.mk (Kd.R_lower ho21 (below_size (lb0_ HB.out))); have n1_ := Aside0.mk (below_step (lb0_ HB.out) hb); clear HB; have HO352 := n0_; have HB := n1_; clear n0_ n1_; clear hb ho21))
    go_ret2
    exact ⟨_, rr_, kr_ HO352.out, lb0_ HB.out⟩
   ·
    replace c19 := Bool.eq_false_iff.mpr c19
    subst c19
    have H1 : ((spec_l1Least.f t346 t347).bind fun t353 => ((spec_l1Most.f t346 t347).bind fun t354 => (if 0 ≤ t353 then (if t353 < (l0.length : Int) then (if 0 ≤ t354 then (if t354 < (l0.length : Int) then ((some (([] : List (S26)) : List (S26))).bind fun y359 => (if t354 ≤ (l0.length : Int) then ((some (l0.take (t354 : Int).toNat : List (S26))).bind fun y362 => (if y359.length + y362.length < 3518437208883 then ((some (y359 ++ y362 : List (S26))).bind fun y366 => (if 0 ≤ (wrap64 (t354 + 1)) then (if (wrap64 (t354 + 1)) ≤ (l0.length : Int) then ((some (l0.drop ((wrap64 (t354 + 1)) : Int).toNat : List (S26))).bind fun y369 => (if y366.length + y369.length < 3518437208883 then ((some (y366 ++ y369 : List (S26))).bind fun y373 => ((spec_l1Most.f ((rd_T26 l0 t353).f2) ((rd_T26 l0 t354).f2)).bind fun t376 => (if t353 < (y373.length : Int) then ((some (y373.set (t353 : Int).toNat (⟨(rd_T26 l0 t353).f0, wrap64 ((wrap64 (((rd_T26 l0 t353).f1) + ((rd_T26 l0 t354).f1))) + a3), t376, wrap64 ((wrap64 (((rd_T26 l0 t353).f3) + ((rd_T26 l0 t354).f3))) + 1)⟩ : S26) : List (S26))).bind fun y377 => ((spec_l26Good.f kj6 y377).bind fun t378 => (if t378 = true then (some (y377, true)) else (some ((([] : List (S26))), false))))) else (none)))) else (none))) else (none)) else (none))) else (none))) else (none))) else (none)) else (none)) else (none)) else (none)))) = some (r1, r2) := by rw [if_neg (show ¬ (false = true) by decide)] at H; exact H
    clear H
    have H := H1
    clear H1
    replace H := Option.bind_eq_some_iff.mp H
    obtain ⟨t353, A220, H⟩ := H
    replace H : ((spec_l1Most.f t346 t347).bind fun t354 => (if 0 ≤ t353 then (if t353 < (l0.length : Int) then (if 0 ≤ t354 then (if t354 < (l0.length : Int) then ((some (([] : List (S26)) : List (S26))).bind fun y359 => (if t354 ≤ (l0.length : Int) then ((some (l0.take (t354 : Int).toNat : List (S26))).bind fun y362 => (if y359.length + y362.length < 3518437208883 then ((some (y359 ++ y362 : List (S26))).bind fun y366 => (if 0 ≤ (wrap64 (t354 + 1)) then (if (wrap64 (t354 + 1)) ≤ (l0.length : Int) then ((some (l0.drop ((wrap64 (t354 + 1)) : Int).toNat : List (S26))).bind fun y369 => (if y366.length + y369.length < 3518437208883 then ((some (y366 ++ y369 : List (S26))).bind fun y373 => ((spec_l1Most.f ((rd_T26 l0 t353).f2) ((rd_T26 l0 t354).f2)).bind fun t376 => (if t353 < (y373.length : Int) then ((some (y373.set (t353 : Int).toNat (⟨(rd_T26 l0 t353).f0, wrap64 ((wrap64 (((rd_T26 l0 t353).f1) + ((rd_T26 l0 t354).f1))) + a3), t376, wrap64 ((wrap64 (((rd_T26 l0 t353).f3) + ((rd_T26 l0 t354).f3))) + 1)⟩ : S26) : List (S26))).bind fun y377 => ((spec_l26Good.f kj6 y377).bind fun t378 => (if t378 = true then (some (y377, true)) else (some ((([] : List (S26))), false))))) else (none)))) else (none))) else (none)) else (none))) else (none))) else (none))) else (none)) else (none)) else (none)) else (none))) = some (r1, r2) := H
    have A22 := Aside0.mk A220
    clear A220
    replace H := Option.bind_eq_some_iff.mp H
    obtain ⟨t354, A230, H⟩ := H
    replace H : (if 0 ≤ t353 then (if t353 < (l0.length : Int) then (if 0 ≤ t354 then (if t354 < (l0.length : Int) then ((some (([] : List (S26)) : List (S26))).bind fun y359 => (if t354 ≤ (l0.length : Int) then ((some (l0.take (t354 : Int).toNat : List (S26))).bind fun y362 => (if y359.length + y362.length < 3518437208883 then ((some (y359 ++ y362 : List (S26))).bind fun y366 => (if 0 ≤ (wrap64 (t354 + 1)) then (if (wrap64 (t354 + 1)) ≤ (l0.length : Int) then ((some (l0.drop ((wrap64 (t354 + 1)) : Int).toNat : List (S26))).bind fun y369 => (if y366.length + y369.length < 3518437208883 then ((some (y366 ++ y369 : List (S26))).bind fun y373 => ((spec_l1Most.f ((rd_T26 l0 t353).f2) ((rd_T26 l0 t354).f2)).bind fun t376 => (if t353 < (y373.length : Int) then ((some (y373.set (t353 : Int).toNat (⟨(rd_T26 l0 t353).f0, wrap64 ((wrap64 (((rd_T26 l0 t353).f1) + ((rd_T26 l0 t354).f1))) + a3), t376, wrap64 ((wrap64 (((rd_T26 l0 t353).f3) + ((rd_T26 l0 t354).f3))) + 1)⟩ : S26) : List (S26))).bind fun y377 => ((spec_l26Good.f kj6 y377).bind fun t378 => (if t378 = true then (some (y377, true)) else (some ((([] : List (S26))), false))))) else (none)))) else (none))) else (none)) else (none))) else (none))) else (none))) else (none)) else (none)) else (none)) else (none)) = some (r1, r2) := H
    have A23 := Aside0.mk A230
    clear A230
    by_cases c24 : 0 ≤ t353
    ·
     rw [if_pos c24] at H
     have c24b0 : decide (0 ≤ t353) = true := decide_eq_true c24
     clear c24
     by_cases c25 : t353 < (l0.length : Int)
     ·
      rw [if_pos c25] at H
      have c25b0 : decide (t353 < (l0.length : Int)) = true := decide_eq_true c25
      clear c25
      by_cases c26 : 0 ≤ t354
      ·
       rw [if_pos c26] at H
       have c26b0 : decide (0 ≤ t354) = true := decide_eq_true c26
       clear c26
       by_cases c27 : t354 < (l0.length : Int)
       ·
        rw [if_pos c27] at H
        have c27b0 : decide (t354 < (l0.length : Int)) = true := decide_eq_true c27
        clear c27
        obtain ⟨y359, hy359⟩ : ∃ y_ : List (S26), y_ = (([] : List (S26))) := ⟨_, rfl⟩
        replace H : (if t354 ≤ (l0.length : Int) then ((some (l0.take (t354 : Int).toNat : List (S26))).bind fun y362 => (if y359.length + y362.length < 3518437208883 then ((some (y359 ++ y362 : List (S26))).bind fun y366 => (if 0 ≤ (wrap64 (t354 + 1)) then (if (wrap64 (t354 + 1)) ≤ (l0.length : Int) then ((some (l0.drop ((wrap64 (t354 + 1)) : Int).toNat : List (S26))).bind fun y369 => (if y366.length + y369.length < 3518437208883 then ((some (y366 ++ y369 : List (S26))).bind fun y373 => ((spec_l1Most.f ((rd_T26 l0 t353).f2) ((rd_T26 l0 t354).f2)).bind fun t376 => (if t353 < (y373.length : Int) then ((some (y373.set (t353 : Int).toNat (⟨(rd_T26 l0 t353).f0, wrap64 ((wrap64 (((rd_T26 l0 t353).f1) + ((rd_T26 l0 t354).f1))) + a3), t376, wrap64 ((wrap64 (((rd_T26 l0 t353).f3) + ((rd_T26 l0 t354).f3))) + 1)⟩ : S26) : List (S26))).bind fun y377 => ((spec_l26Good.f kj6 y377).bind fun t378 => (if t378 = true then (some (y377, true)) else (some ((([] : List (S26))), false))))) else (none)))) else (none))) else (none)) else (none))) else (none))) else (none)) = some (r1, r2) := by first | (rw [hy359]; with_reducible exact H) | (have H2_ := (Option.bind_some _ _).symm.trans H; rw [hy359]; with_reducible exact H2_) | (have H2_ := (Option.bind_some _ _).symm.trans H; with_reducible exact H2_) | with_reducible exact H | (rw [hy359]; exact H) | exact H
        have Ny359 := Aside0.mk hy359
        clear hy359
        have c28b0 := eq_true (dt_ : 0 ≤ t354)
        by_cases c29 : t354 ≤ (l0.length : Int)
        ·
         rw [if_pos c29] at H
         have c29b0 := eq_true c29
         have c29b1 : decide (t354 ≤ (l0.length : Int)) = true := decide_eq_true c29
         clear c29
         obtain ⟨y362, hy362⟩ : ∃ y_ : List (S26), y_ = (l0.take (t354 : Int).toNat) := ⟨_, rfl⟩
         replace H : (if y359.length + y362.length < 3518437208883 then ((some (y359 ++ y362 : List (S26))).bind fun y366 => (if 0 ≤ (wrap64 (t354 + 1)) then (if (wrap64 (t354 + 1)) ≤ (l0.length : Int) then ((some (l0.drop ((wrap64 (t354 + 1)) : Int).toNat : List (S26))).bind fun y369 => (if y366.length + y369.length < 3518437208883 then ((some (y366 ++ y369 : List (S26))).bind fun y373 => ((spec_l1Most.f ((rd_T26 l0 t353).f2) ((rd_T26 l0 t354).f2)).bind fun t376 => (if t353 < (y373.length : Int) then ((some (y373.set (t353 : Int).toNat (⟨(rd_T26 l0 t353).f0, wrap64 ((wrap64 (((rd_T26 l0 t353).f1) + ((rd_T26 l0 t354).f1))) + a3), t376, wrap64 ((wrap64 (((rd_T26 l0 t353).f3) + ((rd_T26 l0 t354).f3))) + 1)⟩ : S26) : List (S26))).bind fun y377 => ((spec_l26Good.f kj6 y377).bind fun t378 => (if t378 = true then (some (y377, true)) else (some ((([] : List (S26))), false))))) else (none)))) else (none))) else (none)) else (none))) else (none)) = some (r1, r2) := by first | (rw [hy362]; with_reducible exact H) | (have H2_ := (Option.bind_some _ _).symm.trans H; rw [hy362]; with_reducible exact H2_) | (have H2_ := (Option.bind_some _ _).symm.trans H; with_reducible exact H2_) | with_reducible exact H | (rw [hy362]; exact H) | exact H
         have Ny362 := Aside0.mk hy362
         clear hy362
         by_cases c30 : y359.length + y362.length < 3518437208883
         ·
          rw [if_pos c30] at H
          have LMc30 := Aside0.mk c30
          clear c30
          obtain ⟨y366, hy366⟩ : ∃ y_ : List (S26), y_ = (y359 ++ y362) := ⟨_, rfl⟩
          replace H : (if 0 ≤ (wrap64 (t354 + 1)) then (if (wrap64 (t354 + 1)) ≤ (l0.length : Int) then ((some (l0.drop ((wrap64 (t354 + 1)) : Int).toNat : List (S26))).bind fun y369 => (if y366.length + y369.length < 3518437208883 then ((some (y366 ++ y369 : List (S26))).bind fun y373 => ((spec_l1Most.f ((rd_T26 l0 t353).f2) ((rd_T26 l0 t354).f2)).bind fun t376 => (if t353 < (y373.length : Int) then ((some (y373.set (t353 : Int).toNat (⟨(rd_T26 l0 t353).f0, wrap64 ((wrap64 (((rd_T26 l0 t353).f1) + ((rd_T26 l0 t354).f1))) + a3), t376, wrap64 ((wrap64 (((rd_T26 l0 t353).f3) + ((rd_T26 l0 t354).f3))) + 1)⟩ : S26) : List (S26))).bind fun y377 => ((spec_l26Good.f kj6 y377).bind fun t378 => (if t378 = true then (some (y377, true)) else (some ((([] : List (S26))), false))))) else (none)))) else (none))) else (none)) else (none)) = some (r1, r2) := by first | (rw [hy366]; with_reducible exact H) | (have H2_ := (Option.bind_some _ _).symm.trans H; rw [hy366]; with_reducible exact H2_) | (have H2_ := (Option.bind_some _ _).symm.trans H; with_reducible exact H2_) | with_reducible exact H | (rw [hy366]; exact H) | exact H
          have Ny366 := Aside0.mk hy366
          clear hy366
          obtain ⟨ji31, hji31⟩ : ∃ j_ : Int, (wrap64 (t354 + 1)) = j_ := ⟨_, rfl⟩
          replace H : (if 0 ≤ (ji31) then (if (ji31) ≤ (l0.length : Int) then ((some (l0.drop ((ji31) : Int).toNat : List (S26))).bind fun y369 => (if y366.length + y369.length < 3518437208883 then ((some (y366 ++ y369 : List (S26))).bind fun y373 => ((spec_l1Most.f ((rd_T26 l0 t353).f2) ((rd_T26 l0 t354).f2)).bind fun t376 => (if t353 < (y373.length : Int) then ((some (y373.set (t353 : Int).toNat (⟨(rd_T26 l0 t353).f0, wrap64 ((wrap64 (((rd_T26 l0 t353).f1) + ((rd_T26 l0 t354).f1))) + a3), t376, wrap64 ((wrap64 (((rd_T26 l0 t353).f3) + ((rd_T26 l0 t354).f3))) + 1)⟩ : S26) : List (S26))).bind fun y377 => ((spec_l26Good.f kj6 y377).bind fun t378 => (if t378 = true then (some (y377, true)) else (some ((([] : List (S26))), false))))) else (none)))) else (none))) else (none)) else (none)) = some (r1, r2) := by first | (rw [hji31] at H; exact H) | (simp only [hji31] at H ⊢; exact H)
          (try rw [hji31] at A22)
          (try rw [hji31] at A23)
          have hji31w : (IntKind.i64.wrap (t354 + 1)) = ji31 := (i64_w _).trans hji31
          by_cases c32 : 0 ≤ (ji31)
          ·
           rw [if_pos c32] at H
           have c32b0 := eq_true c32
           have c32b1 : decide (0 ≤ (ji31)) = true := decide_eq_true c32
           clear c32
           by_cases c33 : (ji31) ≤ (l0.length : Int)
           ·
            rw [if_pos c33] at H
            have c33b0 := eq_true c33
            have c33b1 : decide ((ji31) ≤ (l0.length : Int)) = true := decide_eq_true c33
            clear c33
            obtain ⟨y369, hy369⟩ : ∃ y_ : List (S26), y_ = (l0.drop ((ji31) : Int).toNat) := ⟨_, rfl⟩
            replace H : (if y366.length + y369.length < 3518437208883 then ((some (y366 ++ y369 : List (S26))).bind fun y373 => ((spec_l1Most.f ((rd_T26 l0 t353).f2) ((rd_T26 l0 t354).f2)).bind fun t376 => (if t353 < (y373.length : Int) then ((some (y373.set (t353 : Int).toNat (⟨(rd_T26 l0 t353).f0, wrap64 ((wrap64 (((rd_T26 l0 t353).f1) + ((rd_T26 l0 t354).f1))) + a3), t376, wrap64 ((wrap64 (((rd_T26 l0 t353).f3) + ((rd_T26 l0 t354).f3))) + 1)⟩ : S26) : List (S26))).bind fun y377 => ((spec_l26Good.f kj6 y377).bind fun t378 => (if t378 = true then (some (y377, true)) else (some ((([] : List (S26))), false))))) else (none)))) else (none)) = some (r1, r2) := by first | (rw [hy369]; with_reducible exact H) | (have H2_ := (Option.bind_some _ _).symm.trans H; rw [hy369]; with_reducible exact H2_) | (have H2_ := (Option.bind_some _ _).symm.trans H; with_reducible exact H2_) | with_reducible exact H | (rw [hy369]; exact H) | exact H
            have Ny369 := Aside0.mk hy369
            clear hy369
            by_cases c34 : y366.length + y369.length < 3518437208883
            ·
             rw [if_pos c34] at H
             have LMc34 := Aside0.mk c34
             clear c34
             obtain ⟨y373, hy373⟩ : ∃ y_ : List (S26), y_ = (y366 ++ y369) := ⟨_, rfl⟩
             replace H : ((spec_l1Most.f ((rd_T26 l0 t353).f2) ((rd_T26 l0 t354).f2)).bind fun t376 => (if t353 < (y373.length : Int) then ((some (y373.set (t353 : Int).toNat (⟨(rd_T26 l0 t353).f0, wrap64 ((wrap64 (((rd_T26 l0 t353).f1) + ((rd_T26 l0 t354).f1))) + a3), t376, wrap64 ((wrap64 (((rd_T26 l0 t353).f3) + ((rd_T26 l0 t354).f3))) + 1)⟩ : S26) : List (S26))).bind fun y377 => ((spec_l26Good.f kj6 y377).bind fun t378 => (if t378 = true then (some (y377, true)) else (some ((([] : List (S26))), false))))) else (none))) = some (r1, r2) := by first | (rw [hy373]; with_reducible exact H) | (have H2_ := (Option.bind_some _ _).symm.trans H; rw [hy373]; with_reducible exact H2_) | (have H2_ := (Option.bind_some _ _).symm.trans H; with_reducible exact H2_) | with_reducible exact H | (rw [hy373]; exact H) | exact H
             have Ny373 := Aside0.mk hy373
             clear hy373
             replace H := Option.bind_eq_some_iff.mp H
             obtain ⟨t376, A350, H⟩ := H
             replace H : (if t353 < (y373.length : Int) then ((some (y373.set (t353 : Int).toNat (⟨(rd_T26 l0 t353).f0, wrap64 ((wrap64 (((rd_T26 l0 t353).f1) + ((rd_T26 l0 t354).f1))) + a3), t376, wrap64 ((wrap64 (((rd_T26 l0 t353).f3) + ((rd_T26 l0 t354).f3))) + 1)⟩ : S26) : List (S26))).bind fun y377 => ((spec_l26Good.f kj6 y377).bind fun t378 => (if t378 = true then (some (y377, true)) else (some ((([] : List (S26))), false))))) else (none)) = some (r1, r2) := H
             have A35 := Aside0.mk A350
             clear A350
             by_cases c36 : t353 < (y373.length : Int)
             ·
              rw [if_pos c36] at H
              have c36b0 : decide (t353 < (y373.length : Int)) = true := decide_eq_true c36
              clear c36
              obtain ⟨y377, hy377⟩ : ∃ y_ : List (S26), y_ = (y373.set (t353 : Int).toNat (⟨(rd_T26 l0 t353).f0, wrap64 ((wrap64 (((rd_T26 l0 t353).f1) + ((rd_T26 l0 t354).f1))) + a3), t376, wrap64 ((wrap64 (((rd_T26 l0 t353).f3) + ((rd_T26 l0 t354).f3))) + 1)⟩ : S26)) := ⟨_, rfl⟩
              replace H : ((spec_l26Good.f kj6 y377).bind fun t378 => (if t378 = true then (some (y377, true)) else (some ((([] : List (S26))), false)))) = some (r1, r2) := by first | (rw [hy377]; with_reducible exact H) | (have H2_ := (Option.bind_some _ _).symm.trans H; rw [hy377]; with_reducible exact H2_) | (have H2_ := (Option.bind_some _ _).symm.trans H; with_reducible exact H2_) | with_reducible exact H | (rw [hy377]; exact H) | exact H
              have Ny377 := Aside0.mk hy377
              clear hy377
              replace H := Option.bind_eq_some_iff.mp H
              obtain ⟨t378, A380, H⟩ := H
              replace H : (if t378 = true then (some (y377, true)) else (some ((([] : List (S26))), false))) = some (r1, r2) := H
              have A38 := Aside0.mk A380
              clear A380
              by_cases c39 : t378 = true
              ·
               subst c39
               have H1 : (some (y377, true)) = some (r1, r2) := by rw [if_pos rfl] at H; exact H
               clear H
               have H := H1
               clear H1
               simp only [Option.some.injEq, Prod.mk.injEq] at H
               obtain ⟨rfl, rfl⟩ := H
               try go_wp2_with (first | ((with_reducible refine gate_callee (f := 68) rfl ?_); refine ga_ (some 47) Tryd.func68 #[.int .i64 t346, .int .i64 t347] ?_; (with_reducible refine (spec_l1Least.calls t346 t347 t353 _ A22.out).mono ?_); rintro e w' ⟨rfl, ⟨nd, rfl⟩⟩; refine ⟨_, rfl, ?_⟩; (try (rw [drewN_self wc]; generalize hq_ : World.drewN wc _ = wc; have n0_ : Aside0 (Below w.heap.size w wc) := ⟨by rw [← hq_]; exact (lb0_ HB.out)⟩; clear HB hq_; have HB := n0_; clear n0_))) | ((with_reducible refine gate_callee (f := 65) rfl ?_); refine ga_ (some 50) Tryd.func65 #[.int .i64 t346, .int .i64 t347] ?_; (with_reducible refine (spec_l1Most.calls t346 t347 t354 _ A23.out).mono ?_); rintro e w' ⟨rfl, ⟨nd, rfl⟩⟩; refine ⟨_, rfl, ?_⟩; (try (rw [drewN_self wc]; generalize hq_ : World.drewN wc _ = wc; have n0_ : Aside0 (Below w.heap.size w wc) := ⟨by rw [← hq_]; exact (lb0_ HB.out)⟩; clear HB hq_; have HB := n0_; clear n0_))))
               have n0_ := Aside0.mk (below_drew1 HB.out)
               clear HB
               have HB := n0_
               clear n0_
               have p355 : 0 ≤ (t353 : Int) := dt_
               have q355 : t353 < (l0.length : Int) := dt_
               obtain ⟨ad355, e355, hx355_0, hx355_1, hx355_2, hx355_3⟩ := at_T26 HR0.out t353 p355 q355
               have hw355_3 := hx355_3
               have hw355_2 := hx355_2
               have hw355_1 := hx355_1
               have hw355_0 := hx355_0
               cases e355
               replace hx355_0 := bc_ HB.out hx355_0
               replace hx355_1 := bc_ HB.out hx355_1
               replace hx355_2 := bc_ HB.out hx355_2
               replace hx355_3 := bc_ HB.out hx355_3
               replace p355 := eq_true p355
               replace q355 := eq_true q355
               have p356 : 0 ≤ (t354 : Int) := dt_
               have q356 : t354 < (l0.length : Int) := dt_
               obtain ⟨ad356, e356, hx356_0, hx356_1, hx356_2, hx356_3⟩ := at_T26 HR0.out t354 p356 q356
               have hw356_3 := hx356_3
               have hw356_2 := hx356_2
               have hw356_1 := hx356_1
               have hw356_0 := hx356_0
               obtain rfl : ad355 = ad356 := (by injection e356)
               replace hx356_0 := bc_ HB.out hx356_0
               replace hx356_1 := bc_ HB.out hx356_1
               replace hx356_2 := bc_ HB.out hx356_2
               replace hx356_3 := bc_ HB.out hx356_3
               replace p356 := eq_true p356
               replace q356 := eq_true q356
               refine start_ (n := 12) (S := fun w' => w'.cell? (ad355.add ((t353).toNat * 4)) = some (.string ((rd_T26 l0 t353).f0)) ∧ w'.cell? ⟨(ad355.add ((t353).toNat * 4)).block, (ad355.add ((t353).toNat * 4)).off + 1, none⟩ = some (.int .i64 ((rd_T26 l0 t353).f1)) ∧ w'.cell? ⟨(ad355.add ((t353).toNat * 4)).block, (ad355.add ((t353).toNat * 4)).off + 2, none⟩ = some (.int .i64 ((rd_T26 l0 t353).f2)) ∧ w'.cell? ⟨(ad355.add ((t353).toNat * 4)).block, (ad355.add ((t353).toNat * 4)).off + 3, none⟩ = some (.int .i64 ((rd_T26 l0 t353).f3)) ∧ w'.cell? (ad355.add ((t354).toNat * 4)) = some (.string ((rd_T26 l0 t354).f0)) ∧ w'.cell? ⟨(ad355.add ((t354).toNat * 4)).block, (ad355.add ((t354).toNat * 4)).off + 1, none⟩ = some (.int .i64 ((rd_T26 l0 t354).f1)) ∧ w'.cell? ⟨(ad355.add ((t354).toNat * 4)).block, (ad355.add ((t354).toNat * 4)).off + 2, none⟩ = some (.int .i64 ((rd_T26 l0 t354).f2)) ∧ w'.cell? ⟨(ad355.add ((t354).toNat * 4)).block, (ad355.add ((t354).toNat * 4)).off + 3, none⟩ = some (.int .i64 ((rd_T26 l0 t354).f3))) (ds := []) spec_ConnectCaves.mk0 (by kernel_rfl) rfl rfl ⟨(bc_ HB.out hw355_0), (bc_ HB.out hw355_1), (bc_ HB.out hw355_2), (bc_ HB.out hw355_3), (bc_ HB.out hw356_0), (bc_ HB.out hw356_1), (bc_ HB.out hw356_2), (bc_ HB.out hw356_3)⟩ (fun hHeld => ?_); refine with_tabW spec_ConnectCaves.tab5 spec_ConnectCaves.bits5 (fun HT_ HW_ => ?_)
               generalize wc.drew = w40 at HB hx355_0 hx355_1 hx355_2 hx355_3 hx356_0 hx356_1 hx356_2 hx356_3 hHeld ⊢
               refine pz_ HT_ 0 (some 51) spec_ConnectCaves.mk1 ?_
               refine pz_ HT_ 1 (some 52) spec_ConnectCaves.mk2 ?_
               refine pz_ HT_ 2 (some 53) spec_ConnectCaves.mk3 ?_
               refine pz_ HT_ 4 (some 55) spec_ConnectCaves.mk4 ?_
               refine pz_ HT_ 5 (some 56) spec_ConnectCaves.mk5 ?_
               refine pz_ HT_ 6 (some 57) spec_ConnectCaves.mk6 ?_
               refine take_ (i := 3) (N := some 54) (v := ?_) (a' := ?_) spec_ConnectCaves.mk7 rfl rfl (take_ofW HT_.out HW_.out (by kernel_rfl)) (fun _ _ _ h => h) (Or.inl ⟨by rfl, ?_⟩) hHeld ?_ ?_
               rotate_left
               ·
                rintro w' ⟨s0, s1, s2, s3, s4, s5, s6, s7⟩
                go_simp
                with_reducible rfl
               rotate_left
               ·
                simp only [Act.put, List.setIfInBounds_toArray, List.set_cons_zero, List.set_cons_succ, i64_w, i32_w]
                rfl
               refine take_ (i := 7) (N := some 58) (v := ?_) (a' := ?_) spec_ConnectCaves.mk8 rfl rfl (take_ofW HT_.out HW_.out (by kernel_rfl)) (fun _ _ _ h => h) (Or.inl ⟨by rfl, ?_⟩) hHeld ?_ ?_
               rotate_left
               ·
                rintro w' ⟨s0, s1, s2, s3, s4, s5, s6, s7⟩
                go_simp
                with_reducible rfl
               rotate_left
               ·
                simp only [Act.put, List.setIfInBounds_toArray, List.set_cons_zero, List.set_cons_succ, i64_w, i32_w]
                rfl
               refine join_ (σ := Nat × Nat) 2 spec_ConnectCaves.mk9 (fun s_ => [(14, .pointer (some ⟨s_.1, 0, none⟩)), (15, .pointer (some ⟨s_.2, 0, none⟩))]) (fun s_ w' => (w'.cell? (ad355.add ((t353).toNat * 4)) = some (.string ((rd_T26 l0 t353).f0)) ∧ w'.cell? ⟨(ad355.add ((t353).toNat * 4)).block, (ad355.add ((t353).toNat * 4)).off + 1, none⟩ = some (.int .i64 ((rd_T26 l0 t353).f1)) ∧ w'.cell? ⟨(ad355.add ((t353).toNat * 4)).block, (ad355.add ((t353).toNat * 4)).off + 2, none⟩ = some (.int .i64 ((rd_T26 l0 t353).f2)) ∧ w'.cell? ⟨(ad355.add ((t353).toNat * 4)).block, (ad355.add ((t353).toNat * 4)).off + 3, none⟩ = some (.int .i64 ((rd_T26 l0 t353).f3)) ∧ w'.cell? (ad355.add ((t354).toNat * 4)) = some (.string ((rd_T26 l0 t354).f0)) ∧ w'.cell? ⟨(ad355.add ((t354).toNat * 4)).block, (ad355.add ((t354).toNat * 4)).off + 1, none⟩ = some (.int .i64 ((rd_T26 l0 t354).f1)) ∧ w'.cell? ⟨(ad355.add ((t354).toNat * 4)).block, (ad355.add ((t354).toNat * 4)).off + 2, none⟩ = some (.int .i64 ((rd_T26 l0 t354).f2)) ∧ w'.cell? ⟨(ad355.add ((t354).toNat * 4)).block, (ad355.add ((t354).toNat * 4)).off + 3, none⟩ = some (.int .i64 ((rd_T26 l0 t354).f3))) ∧ (w'.heap[s_.1]? = some (.cells #[.string (⟨#[]⟩ : ByteArray), .int .i64 0, .int .i64 0, .int .i64 0] 26 (0, 0))) ∧ (w'.heap[s_.2]? = some (.cells #[.string (⟨#[]⟩ : ByteArray), .int .i64 0, .int .i64 0, .int .i64 0] 26 (0, 0))) ∧ (w.heap.size ≤ s_.1) ∧ (w.heap.size ≤ s_.1) ∧ (s_.2 ≠ s_.1) ∧ (s_.1 ≠ s_.2) ∧ (w.heap.size ≤ s_.2) ∧ (w.heap.size ≤ s_.2) ∧ (Below w.heap.size w w')) ?_ ?_
               rotate_left
               ·
                intro hCont
                refine two_ (i := 8) (j := 9) (Ni := some 14) (Nj := some 15) spec_ConnectCaves.mk10 spec_ConnectCaves.mk11 rfl rfl rfl rfl (two_of HT_.out (by kernel_rfl)) (by decide) (by decide) (fun K hK => ?_) (fun K hK => ?_)
                ·
                 skip
                 refine box_step ?hg (N := 14) ?hd (cs := #[.string (⟨#[]⟩ : ByteArray), .int .i64 0, .int .i64 0, .int .i64 0]) (t := 26) ?hr ?_; (case hd => rfl); (case hg => rfl); (case hr => first | (go_simp; done) | (go_simp; rfl))
                 intro gb357 hg w41 hbox hb
                 have n0_ := Aside0.mk (below_step (lb0_ HB.out) hb)
                 have n1_ := Aside0.mk (hbox)
                 have n2_ := Aside0.mk ((by rw [hg]; exact (below_size (lb0_ HB.out)) : w.heap.size ≤ gb357))
                 have n3_ := Aside0.mk ((by rw [hg]; exact (below_size (lb0_ HB.out)) : w.heap.size ≤ gb357))
                 clear HB
                 have HB := n0_
                 have BK357 := n1_
                 have GW357 := n2_
                 have GE357 := n3_
                 clear n0_ n1_ n2_ n3_
                 clear hb hbox hg
                 refine hK.out _ _ ⟨(bc_ HB.out hw355_0), (bc_ HB.out hw355_1), (bc_ HB.out hw355_2), (bc_ HB.out hw355_3), (bc_ HB.out hw356_0), (bc_ HB.out hw356_1), (bc_ HB.out hw356_2), (bc_ HB.out hw356_3)⟩ (fun hHeld => ?_)
                 clear hK K
                 refine norm_ (a' := ?_) ?_ ?_
                 rotate_left
                 ·
                  show Act.put _ (some 14) _ = _
                  simp only [Act.put, List.setIfInBounds_toArray, List.set_cons_zero, List.set_cons_succ, i64_w, i32_w]
                  rfl
                 refine one_ (i := 9) (N := some 15) spec_ConnectCaves.mk9 rfl rfl (one_of HT_.out (by kernel_rfl)) (by decide) (fun K hK => ?_)
                 refine box_step ?hg (N := 15) ?hd (cs := #[.string (⟨#[]⟩ : ByteArray), .int .i64 0, .int .i64 0, .int .i64 0]) (t := 26) ?hr ?_; (case hd => rfl); (case hg => rfl); (case hr => first | (go_simp; done) | (go_simp; rfl))
                 intro gb358 hg w42 hbox hb
                 have n0_ := Aside0.mk (blk_below (g := gb357) (o := .cells #[.string (⟨#[]⟩ : ByteArray), .int .i64 0, .int .i64 0, .int .i64 0] 26 (0, 0)) (bk_ BK357.out) hb)
                 have n1_ := Aside0.mk (below_step (lb1_ HB.out GE357.out) hb)
                 have n2_ := Aside0.mk (hbox)
                 have n3_ := Aside0.mk ((by rw [hg]; exact (below_size (lb1_ HB.out GE357.out)) : w.heap.size ≤ gb358))
                 have n4_ := Aside0.mk ((by rw [hg]; exact (below_size (lb1_ HB.out GE357.out)) : w.heap.size ≤ gb358))
                 have n5_ := Aside0.mk ((by rw [hg]; exact Nat.ne_of_lt (blk_lt (g := gb357) (o := .cells #[.string (⟨#[]⟩ : ByteArray), .int .i64 0, .int .i64 0, .int .i64 0] 26 (0, 0)) (bk_ BK357.out)) : gb357 ≠ gb358))
                 have n6_ := Aside0.mk ((by rw [hg]; exact Nat.ne_of_gt (blk_lt (g := gb357) (o := .cells #[.string (⟨#[]⟩ : ByteArray), .int .i64 0, .int .i64 0, .int .i64 0] 26 (0, 0)) (bk_ BK357.out)) : gb358 ≠ gb357))
                 clear BK357
                 clear HB
                 have BK357 := n0_
                 have HB := n1_
                 have BK358 := n2_
                 have GW358 := n3_
                 have GE358 := n4_
                 have NB357_358 := n5_
                 have NB358_357 := n6_
                 clear n0_ n1_ n2_ n3_ n4_ n5_ n6_
                 clear hb hbox hg
                 refine hK.out _ _ ⟨(bc_ HB.out hw355_0), (bc_ HB.out hw355_1), (bc_ HB.out hw355_2), (bc_ HB.out hw355_3), (bc_ HB.out hw356_0), (bc_ HB.out hw356_1), (bc_ HB.out hw356_2), (bc_ HB.out hw356_3)⟩ (fun hHeld => ?_)
                 clear hK K
                 refine norm_ (a' := ?_) ?_ ?_
                 rotate_left
                 ·
                  show Act.put _ (some 15) _ = _
                  simp only [Act.put, List.setIfInBounds_toArray, List.set_cons_zero, List.set_cons_succ, i64_w, i32_w]
                  rfl
                 exact norm_ (by simp only [putAll, Act.put, List.setIfInBounds_toArray, List.set_cons_zero, List.set_cons_succ]) (hCont (gb357, gb358) _ ⟨hHeld, (bk_ BK357.out), (bk_ BK358.out), GW357.out, GE357.out, NB358_357.out, NB357_358.out, GW358.out, GE358.out, (lb2_ HB.out GE357.out GE358.out)⟩)
                ·
                 skip
                 refine box_step ?hg (N := 15) ?hd (cs := #[.string (⟨#[]⟩ : ByteArray), .int .i64 0, .int .i64 0, .int .i64 0]) (t := 26) ?hr ?_; (case hd => rfl); (case hg => rfl); (case hr => first | (go_simp; done) | (go_simp; rfl))
                 intro gb358 hg w41 hbox hb
                 have n0_ := Aside0.mk (below_step (lb0_ HB.out) hb)
                 have n1_ := Aside0.mk (hbox)
                 have n2_ := Aside0.mk ((by rw [hg]; exact (below_size (lb0_ HB.out)) : w.heap.size ≤ gb358))
                 have n3_ := Aside0.mk ((by rw [hg]; exact (below_size (lb0_ HB.out)) : w.heap.size ≤ gb358))
                 clear HB
                 have HB := n0_
                 have BK358 := n1_
                 have GW358 := n2_
                 have GE358 := n3_
                 clear n0_ n1_ n2_ n3_
                 clear hb hbox hg
                 refine hK.out _ _ ⟨(bc_ HB.out hw355_0), (bc_ HB.out hw355_1), (bc_ HB.out hw355_2), (bc_ HB.out hw355_3), (bc_ HB.out hw356_0), (bc_ HB.out hw356_1), (bc_ HB.out hw356_2), (bc_ HB.out hw356_3)⟩ (fun hHeld => ?_)
                 clear hK K
                 refine norm_ (a' := ?_) ?_ ?_
                 rotate_left
                 ·
                  show Act.put _ (some 15) _ = _
                  simp only [Act.put, List.setIfInBounds_toArray, List.set_cons_zero, List.set_cons_succ, i64_w, i32_w]
                  rfl
                 refine one_ (i := 8) (N := some 14) spec_ConnectCaves.mk9 rfl rfl (one_of HT_.out (by kernel_rfl)) (by decide) (fun K hK => ?_)
                 refine box_step ?hg (N := 14) ?hd (cs := #[.string (⟨#[]⟩ : ByteArray), .int .i64 0, .int .i64 0, .int .i64 0]) (t := 26) ?hr ?_; (case hd => rfl); (case hg => rfl); (case hr => first | (go_simp; done) | (go_simp; rfl))
                 intro gb357 hg w42 hbox hb
                 have n0_ := Aside0.mk (blk_below (g := gb358) (o := .cells #[.string (⟨#[]⟩ : ByteArray), .int .i64 0, .int .i64 0, .int .i64 0] 26 (0, 0)) (bk_ BK358.out) hb)
                 have n1_ := Aside0.mk (below_step (lb1_ HB.out GE358.out) hb)
                 have n2_ := Aside0.mk (hbox)
                 have n3_ := Aside0.mk ((by rw [hg]; exact (below_size (lb1_ HB.out GE358.out)) : w.heap.size ≤ gb357))
                 have n4_ := Aside0.mk ((by rw [hg]; exact (below_size (lb1_ HB.out GE358.out)) : w.heap.size ≤ gb357))
                 have n5_ := Aside0.mk ((by rw [hg]; exact Nat.ne_of_lt (blk_lt (g := gb358) (o := .cells #[.string (⟨#[]⟩ : ByteArray), .int .i64 0, .int .i64 0, .int .i64 0] 26 (0, 0)) (bk_ BK358.out)) : gb358 ≠ gb357))
                 have n6_ := Aside0.mk ((by rw [hg]; exact Nat.ne_of_gt (blk_lt (g := gb358) (o := .cells #[.string (⟨#[]⟩ : ByteArray), .int .i64 0, .int .i64 0, .int .i64 0] 26 (0, 0)) (bk_ BK358.out)) : gb357 ≠ gb358))
                 clear BK358
                 clear HB
                 have BK358 := n0_
                 have HB := n1_
                 have BK357 := n2_
                 have GW357 := n3_
                 have GE357 := n4_
                 have NB358_357 := n5_
                 have NB357_358 := n6_
                 clear n0_ n1_ n2_ n3_ n4_ n5_ n6_
                 clear hb hbox hg
                 refine hK.out _ _ ⟨(bc_ HB.out hw355_0), (bc_ HB.out hw355_1), (bc_ HB.out hw355_2), (bc_ HB.out hw355_3), (bc_ HB.out hw356_0), (bc_ HB.out hw356_1), (bc_ HB.out hw356_2), (bc_ HB.out hw356_3)⟩ (fun hHeld => ?_)
                 clear hK K
                 refine norm_ (a' := ?_) ?_ ?_
                 rotate_left
                 ·
                  show Act.put _ (some 14) _ = _
                  simp only [Act.put, List.setIfInBounds_toArray, List.set_cons_zero, List.set_cons_succ, i64_w, i32_w]
                  rfl
                 exact norm_ (by simp only [putAll, Act.put, List.setIfInBounds_toArray, List.set_cons_zero, List.set_cons_succ]) (hCont (gb357, gb358) _ ⟨hHeld, (bk_ BK357.out), (bk_ BK358.out), GW357.out, GE357.out, NB358_357.out, NB357_358.out, GW358.out, GE358.out, (lb2_ HB.out GE358.out GE357.out)⟩)
               rintro ⟨gb357, gb358⟩ w43 ⟨hS_, h0_, h1_, h2_, h3_, h4_, h5_, h6_, h7_, h8_⟩
               have n0_ : Aside0 (w43.heap[gb357]? = some (.cells #[.string (⟨#[]⟩ : ByteArray), .int .i64 0, .int .i64 0, .int .i64 0] 26 (0, 0))) := ⟨h0_⟩
               have n1_ : Aside0 (w43.heap[gb358]? = some (.cells #[.string (⟨#[]⟩ : ByteArray), .int .i64 0, .int .i64 0, .int .i64 0] 26 (0, 0))) := ⟨h1_⟩
               have n2_ : Aside0 (w.heap.size ≤ gb357) := ⟨h2_⟩
               have n3_ : Aside0 (w.heap.size ≤ gb357) := ⟨h3_⟩
               have n4_ : Aside0 (gb358 ≠ gb357) := ⟨h4_⟩
               have n5_ : Aside0 (gb357 ≠ gb358) := ⟨h5_⟩
               have n6_ : Aside0 (w.heap.size ≤ gb358) := ⟨h6_⟩
               have n7_ : Aside0 (w.heap.size ≤ gb358) := ⟨h7_⟩
               have n8_ : Aside0 (Below w.heap.size w w43) := ⟨h8_⟩
               clear HB
               clear h0_ h1_ h2_ h3_ h4_ h5_ h6_ h7_ h8_
               have BK357 := n0_
               have BK358 := n1_
               have GW357 := n2_
               have GE357 := n3_
               have NB358_357 := n4_
               have NB357_358 := n5_
               have GW358 := n6_
               have GE358 := n7_
               have HB := n8_
               clear n0_ n1_ n2_ n3_ n4_ n5_ n6_ n7_ n8_
               have hHeld : w43.cell? (ad355.add ((t353).toNat * 4)) = some (.string ((rd_T26 l0 t353).f0)) ∧ w43.cell? ⟨(ad355.add ((t353).toNat * 4)).block, (ad355.add ((t353).toNat * 4)).off + 1, none⟩ = some (.int .i64 ((rd_T26 l0 t353).f1)) ∧ w43.cell? ⟨(ad355.add ((t353).toNat * 4)).block, (ad355.add ((t353).toNat * 4)).off + 2, none⟩ = some (.int .i64 ((rd_T26 l0 t353).f2)) ∧ w43.cell? ⟨(ad355.add ((t353).toNat * 4)).block, (ad355.add ((t353).toNat * 4)).off + 3, none⟩ = some (.int .i64 ((rd_T26 l0 t353).f3)) ∧ w43.cell? (ad355.add ((t354).toNat * 4)) = some (.string ((rd_T26 l0 t354).f0)) ∧ w43.cell? ⟨(ad355.add ((t354).toNat * 4)).block, (ad355.add ((t354).toNat * 4)).off + 1, none⟩ = some (.int .i64 ((rd_T26 l0 t354).f1)) ∧ w43.cell? ⟨(ad355.add ((t354).toNat * 4)).block, (ad355.add ((t354).toNat * 4)).off + 2, none⟩ = some (.int .i64 ((rd_T26 l0 t354).f2)) ∧ w43.cell? ⟨(ad355.add ((t354).toNat * 4)).block, (ad355.add ((t354).toNat * 4)).off + 3, none⟩ = some (.int .i64 ((rd_T26 l0 t354).f3)) := hS_
               refine norm_ (a' := ?_) ?_ ?_
               rotate_left
               ·
                simp only [putAll, Act.put, List.setIfInBounds_toArray, List.set_cons_zero, List.set_cons_succ]
                rfl
               refine one_ (i := 10) (N := none) spec_ConnectCaves.mk12 rfl rfl (one_of HT_.out (by kernel_rfl)) (by decide) (fun K hK => ?_)
               have hs44 : w43.cell? ⟨gb357, 0, none⟩ = some (.string (⟨#[]⟩ : ByteArray)) := (blk_cell BK357.out 0).trans rfl
               have hfs44 := blk_frozen BK357.out 0
               have hns44_1 := NB358_357.out
               have hms44_1 := NB357_358.out
               have hs45 : w43.cell? ⟨gb357, 1, none⟩ = some (.int .i64 0) := (blk_cell BK357.out 1).trans rfl
               have hfs45 := blk_frozen BK357.out 1
               have hns45_1 := NB358_357.out
               have hms45_1 := NB357_358.out
               have hs46 : w43.cell? ⟨gb357, 2, none⟩ = some (.int .i64 0) := (blk_cell BK357.out 2).trans rfl
               have hfs46 := blk_frozen BK357.out 2
               have hns46_1 := NB358_357.out
               have hms46_1 := NB357_358.out
               have hs47 : w43.cell? ⟨gb357, 3, none⟩ = some (.int .i64 0) := (blk_cell BK357.out 3).trans rfl
               have hfs47 := blk_frozen BK357.out 3
               have hns47_1 := NB358_357.out
               have hms47_1 := NB357_358.out
               refine skip_ (w1 := ?_) (by rfl) rfl ?_ ?_
               rotate_left
               ·
                go_simp
                rfl
               refine hK.out _ _ ⟨((cell_far (p := ⟨gb357, _, none⟩) (Nat.ne_of_lt (Nat.lt_of_lt_of_le (World.block_lt_of_cell? _ _ hw355_0) GW357.out)) _).trans (((cell_far (p := ⟨gb357, _, none⟩) (Nat.ne_of_lt (Nat.lt_of_lt_of_le (World.block_lt_of_cell? _ _ hw355_0) GW357.out)) _).trans (((cell_far (p := ⟨gb357, _, none⟩) (Nat.ne_of_lt (Nat.lt_of_lt_of_le (World.block_lt_of_cell? _ _ hw355_0) GW357.out)) _).trans (((cell_far (p := ⟨gb357, _, none⟩) (Nat.ne_of_lt (Nat.lt_of_lt_of_le (World.block_lt_of_cell? _ _ hw355_0) GW357.out)) _).trans (hHeld.1)))))))), ((cell_far (p := ⟨gb357, _, none⟩) (Nat.ne_of_lt (Nat.lt_of_lt_of_le (World.block_lt_of_cell? _ _ hw355_1) GW357.out)) _).trans (((cell_far (p := ⟨gb357, _, none⟩) (Nat.ne_of_lt (Nat.lt_of_lt_of_le (World.block_lt_of_cell? _ _ hw355_1) GW357.out)) _).trans (((cell_far (p := ⟨gb357, _, none⟩) (Nat.ne_of_lt (Nat.lt_of_lt_of_le (World.block_lt_of_cell? _ _ hw355_1) GW357.out)) _).trans (((cell_far (p := ⟨gb357, _, none⟩) (Nat.ne_of_lt (Nat.lt_of_lt_of_le (World.block_lt_of_cell? _ _ hw355_1) GW357.out)) _).trans (hHeld.2.1)))))))), ((cell_far (p := ⟨gb357, _, none⟩) (Nat.ne_of_lt (Nat.lt_of_lt_of_le (World.block_lt_of_cell? _ _ hw355_2) GW357.out)) _).trans (((cell_far (p := ⟨gb357, _, none⟩) (Nat.ne_of_lt (Nat.lt_of_lt_of_le (World.block_lt_of_cell? _ _ hw355_2) GW357.out)) _).trans (((cell_far (p := ⟨gb357, _, none⟩) (Nat.ne_of_lt (Nat.lt_of_lt_of_le (World.block_lt_of_cell? _ _ hw355_2) GW357.out)) _).trans (((cell_far (p := ⟨gb357, _, none⟩) (Nat.ne_of_lt (Nat.lt_of_lt_of_le (World.block_lt_of_cell? _ _ hw355_2) GW357.out)) _).trans (hHeld.2.2.1)))))))), ((cell_far (p := ⟨gb357, _, none⟩) (Nat.ne_of_lt (Nat.lt_of_lt_of_le (World.block_lt_of_cell? _ _ hw355_3) GW357.out)) _).trans (((cell_far (p := ⟨gb357, _, none⟩) (Nat.ne_of_lt (Nat.lt_of_lt_of_le (World.block_lt_of_cell? _ _ hw355_3) GW357.out)) _).trans (((cell_far (p := ⟨gb357, _, none⟩) (Nat.ne_of_lt (Nat.lt_of_lt_of_le (World.block_lt_of_cell? _ _ hw355_3) GW357.out)) _).trans (((cell_far (p := ⟨gb357, _, none⟩) (Nat.ne_of_lt (Nat.lt_of_lt_of_le (World.block_lt_of_cell? _ _ hw355_3) GW357.out)) _).trans (hHeld.2.2.2.1)))))))), ((cell_far (p := ⟨gb357, _, none⟩) (Nat.ne_of_lt (Nat.lt_of_lt_of_le (World.block_lt_of_cell? _ _ hw356_0) GW357.out)) _).trans (((cell_far (p := ⟨gb357, _, none⟩) (Nat.ne_of_lt (Nat.lt_of_lt_of_le (World.block_lt_of_cell? _ _ hw356_0) GW357.out)) _).trans (((cell_far (p := ⟨gb357, _, none⟩) (Nat.ne_of_lt (Nat.lt_of_lt_of_le (World.block_lt_of_cell? _ _ hw356_0) GW357.out)) _).trans (((cell_far (p := ⟨gb357, _, none⟩) (Nat.ne_of_lt (Nat.lt_of_lt_of_le (World.block_lt_of_cell? _ _ hw356_0) GW357.out)) _).trans (hHeld.2.2.2.2.1)))))))), ((cell_far (p := ⟨gb357, _, none⟩) (Nat.ne_of_lt (Nat.lt_of_lt_of_le (World.block_lt_of_cell? _ _ hw356_1) GW357.out)) _).trans (((cell_far (p := ⟨gb357, _, none⟩) (Nat.ne_of_lt (Nat.lt_of_lt_of_le (World.block_lt_of_cell? _ _ hw356_1) GW357.out)) _).trans (((cell_far (p := ⟨gb357, _, none⟩) (Nat.ne_of_lt (Nat.lt_of_lt_of_le (World.block_lt_of_cell? _ _ hw356_1) GW357.out)) _).trans (((cell_far (p := ⟨gb357, _, none⟩) (Nat.ne_of_lt (Nat.lt_of_lt_of_le (World.block_lt_of_cell? _ _ hw356_1) GW357.out)) _).trans (hHeld.2.2.2.2.2.1)))))))), ((cell_far (p := ⟨gb357, _, none⟩) (Nat.ne_of_lt (Nat.lt_of_lt_of_le (World.block_lt_of_cell? _ _ hw356_2) GW357.out)) _).trans (((cell_far (p := ⟨gb357, _, none⟩) (Nat.ne_of_lt (Nat.lt_of_lt_of_le (World.block_lt_of_cell? _ _ hw356_2) GW357.out)) _).trans (((cell_far (p := ⟨gb357, _, none⟩) (Nat.ne_of_lt (Nat.lt_of_lt_of_le (World.block_lt_of_cell? _ _ hw356_2) GW357.out)) _).trans (((cell_far (p := ⟨gb357, _, none⟩) (Nat.ne_of_lt (Nat.lt_of_lt_of_le (World.block_lt_of_cell? _ _ hw356_2) GW357.out)) _).trans (hHeld.2.2.2.2.2.2.1)))))))), ((cell_far (p := ⟨gb357, _, none⟩) (Nat.ne_of_lt (Nat.lt_of_lt_of_le (World.block_lt_of_cell? _ _ hw356_3) GW357.out)) _).trans (((cell_far (p := ⟨gb357, _, none⟩) (Nat.ne_of_lt (Nat.lt_of_lt_of_le (World.block_lt_of_cell? _ _ hw356_3) GW357.out)) _).trans (((cell_far (p := ⟨gb357, _, none⟩) (Nat.ne_of_lt (Nat.lt_of_lt_of_le (World.block_lt_of_cell? _ _ hw356_3) GW357.out)) _).trans (((cell_far (p := ⟨gb357, _, none⟩) (Nat.ne_of_lt (Nat.lt_of_lt_of_le (World.block_lt_of_cell? _ _ hw356_3) GW357.out)) _).trans (hHeld.2.2.2.2.2.2.2))))))))⟩ (fun hHeld => ?_)
               clear hK K
               refine one_ (i := 11) (N := none) spec_ConnectCaves.mk13 rfl rfl (one_of HT_.out (by kernel_rfl)) (by decide) (fun K hK => ?_)
               have hs48 : w43.cell? ⟨gb358, 0, none⟩ = some (.string (⟨#[]⟩ : ByteArray)) := (blk_cell BK358.out 0).trans rfl
               have hfs48 := blk_frozen BK358.out 0
               have hns48_0 := NB357_358.out
               have hms48_0 := NB358_357.out
               have hs49 : w43.cell? ⟨gb358, 1, none⟩ = some (.int .i64 0) := (blk_cell BK358.out 1).trans rfl
               have hfs49 := blk_frozen BK358.out 1
               have hns49_0 := NB357_358.out
               have hms49_0 := NB358_357.out
               have hs50 : w43.cell? ⟨gb358, 2, none⟩ = some (.int .i64 0) := (blk_cell BK358.out 2).trans rfl
               have hfs50 := blk_frozen BK358.out 2
               have hns50_0 := NB357_358.out
               have hms50_0 := NB358_357.out
               have hs51 : w43.cell? ⟨gb358, 3, none⟩ = some (.int .i64 0) := (blk_cell BK358.out 3).trans rfl
               have hfs51 := blk_frozen BK358.out 3
               have hns51_0 := NB357_358.out
               have hms51_0 := NB358_357.out
               refine skip_ (w1 := ?_) (by rfl) rfl ?_ ?_
               rotate_left
               ·
                go_simp
                rfl
               refine hK.out _ _ ⟨((cell_far (p := ⟨gb358, _, none⟩) (Nat.ne_of_lt (Nat.lt_of_lt_of_le (World.block_lt_of_cell? _ _ hw355_0) GW358.out)) _).trans (((cell_far (p := ⟨gb358, _, none⟩) (Nat.ne_of_lt (Nat.lt_of_lt_of_le (World.block_lt_of_cell? _ _ hw355_0) GW358.out)) _).trans (((cell_far (p := ⟨gb358, _, none⟩) (Nat.ne_of_lt (Nat.lt_of_lt_of_le (World.block_lt_of_cell? _ _ hw355_0) GW358.out)) _).trans (((cell_far (p := ⟨gb358, _, none⟩) (Nat.ne_of_lt (Nat.lt_of_lt_of_le (World.block_lt_of_cell? _ _ hw355_0) GW358.out)) _).trans (hHeld.1)))))))), ((cell_far (p := ⟨gb358, _, none⟩) (Nat.ne_of_lt (Nat.lt_of_lt_of_le (World.block_lt_of_cell? _ _ hw355_1) GW358.out)) _).trans (((cell_far (p := ⟨gb358, _, none⟩) (Nat.ne_of_lt (Nat.lt_of_lt_of_le (World.block_lt_of_cell? _ _ hw355_1) GW358.out)) _).trans (((cell_far (p := ⟨gb358, _, none⟩) (Nat.ne_of_lt (Nat.lt_of_lt_of_le (World.block_lt_of_cell? _ _ hw355_1) GW358.out)) _).trans (((cell_far (p := ⟨gb358, _, none⟩) (Nat.ne_of_lt (Nat.lt_of_lt_of_le (World.block_lt_of_cell? _ _ hw355_1) GW358.out)) _).trans (hHeld.2.1)))))))), ((cell_far (p := ⟨gb358, _, none⟩) (Nat.ne_of_lt (Nat.lt_of_lt_of_le (World.block_lt_of_cell? _ _ hw355_2) GW358.out)) _).trans (((cell_far (p := ⟨gb358, _, none⟩) (Nat.ne_of_lt (Nat.lt_of_lt_of_le (World.block_lt_of_cell? _ _ hw355_2) GW358.out)) _).trans (((cell_far (p := ⟨gb358, _, none⟩) (Nat.ne_of_lt (Nat.lt_of_lt_of_le (World.block_lt_of_cell? _ _ hw355_2) GW358.out)) _).trans (((cell_far (p := ⟨gb358, _, none⟩) (Nat.ne_of_lt (Nat.lt_of_lt_of_le (World.block_lt_of_cell? _ _ hw355_2) GW358.out)) _).trans (hHeld.2.2.1)))))))), ((cell_far (p := ⟨gb358, _, none⟩) (Nat.ne_of_lt (Nat.lt_of_lt_of_le (World.block_lt_of_cell? _ _ hw355_3) GW358.out)) _).trans (((cell_far (p := ⟨gb358, _, none⟩) (Nat.ne_of_lt (Nat.lt_of_lt_of_le (World.block_lt_of_cell? _ _ hw355_3) GW358.out)) _).trans (((cell_far (p := ⟨gb358, _, none⟩) (Nat.ne_of_lt (Nat.lt_of_lt_of_le (World.block_lt_of_cell? _ _ hw355_3) GW358.out)) _).trans (((cell_far (p := ⟨gb358, _, none⟩) (Nat.ne_of_lt (Nat.lt_of_lt_of_le (World.block_lt_of_cell? _ _ hw355_3) GW358.out)) _).trans (hHeld.2.2.2.1)))))))), ((cell_far (p := ⟨gb358, _, none⟩) (Nat.ne_of_lt (Nat.lt_of_lt_of_le (World.block_lt_of_cell? _ _ hw356_0) GW358.out)) _).trans (((cell_far (p := ⟨gb358, _, none⟩) (Nat.ne_of_lt (Nat.lt_of_lt_of_le (World.block_lt_of_cell? _ _ hw356_0) GW358.out)) _).trans (((cell_far (p := ⟨gb358, _, none⟩) (Nat.ne_of_lt (Nat.lt_of_lt_of_le (World.block_lt_of_cell? _ _ hw356_0) GW358.out)) _).trans (((cell_far (p := ⟨gb358, _, none⟩) (Nat.ne_of_lt (Nat.lt_of_lt_of_le (World.block_lt_of_cell? _ _ hw356_0) GW358.out)) _).trans (hHeld.2.2.2.2.1)))))))), ((cell_far (p := ⟨gb358, _, none⟩) (Nat.ne_of_lt (Nat.lt_of_lt_of_le (World.block_lt_of_cell? _ _ hw356_1) GW358.out)) _).trans (((cell_far (p := ⟨gb358, _, none⟩) (Nat.ne_of_lt (Nat.lt_of_lt_of_le (World.block_lt_of_cell? _ _ hw356_1) GW358.out)) _).trans (((cell_far (p := ⟨gb358, _, none⟩) (Nat.ne_of_lt (Nat.lt_of_lt_of_le (World.block_lt_of_cell? _ _ hw356_1) GW358.out)) _).trans (((cell_far (p := ⟨gb358, _, none⟩) (Nat.ne_of_lt (Nat.lt_of_lt_of_le (World.block_lt_of_cell? _ _ hw356_1) GW358.out)) _).trans (hHeld.2.2.2.2.2.1)))))))), ((cell_far (p := ⟨gb358, _, none⟩) (Nat.ne_of_lt (Nat.lt_of_lt_of_le (World.block_lt_of_cell? _ _ hw356_2) GW358.out)) _).trans (((cell_far (p := ⟨gb358, _, none⟩) (Nat.ne_of_lt (Nat.lt_of_lt_of_le (World.block_lt_of_cell? _ _ hw356_2) GW358.out)) _).trans (((cell_far (p := ⟨gb358, _, none⟩) (Nat.ne_of_lt (Nat.lt_of_lt_of_le (World.block_lt_of_cell? _ _ hw356_2) GW358.out)) _).trans (((cell_far (p := ⟨gb358, _, none⟩) (Nat.ne_of_lt (Nat.lt_of_lt_of_le (World.block_lt_of_cell? _ _ hw356_2) GW358.out)) _).trans (hHeld.2.2.2.2.2.2.1)))))))), ((cell_far (p := ⟨gb358, _, none⟩) (Nat.ne_of_lt (Nat.lt_of_lt_of_le (World.block_lt_of_cell? _ _ hw356_3) GW358.out)) _).trans (((cell_far (p := ⟨gb358, _, none⟩) (Nat.ne_of_lt (Nat.lt_of_lt_of_le (World.block_lt_of_cell? _ _ hw356_3) GW358.out)) _).trans (((cell_far (p := ⟨gb358, _, none⟩) (Nat.ne_of_lt (Nat.lt_of_lt_of_le (World.block_lt_of_cell? _ _ hw356_3) GW358.out)) _).trans (((cell_far (p := ⟨gb358, _, none⟩) (Nat.ne_of_lt (Nat.lt_of_lt_of_le (World.block_lt_of_cell? _ _ hw356_3) GW358.out)) _).trans (hHeld.2.2.2.2.2.2.2))))))))⟩ (fun hHeld => ?_)
               clear hK K
               refine done_ (done_of HT_.out (by kernel_rfl)) ?_
               try go_wp2
               have n0_ : Aside0 (((((((((w43.setCell ⟨gb357, 0, none⟩ (.string ((rd_T26 l0 t353).f0))).setCell ⟨gb357, 1, none⟩ (.int .i64 ((rd_T26 l0 t353).f1))).setCell ⟨gb357, 2, none⟩ (.int .i64 ((rd_T26 l0 t353).f2))).setCell ⟨gb357, 3, none⟩ (.int .i64 ((rd_T26 l0 t353).f3))).setCell ⟨gb358, 0, none⟩ (.string ((rd_T26 l0 t354).f0))).setCell ⟨gb358, 1, none⟩ (.int .i64 ((rd_T26 l0 t354).f1))).setCell ⟨gb358, 2, none⟩ (.int .i64 ((rd_T26 l0 t354).f2))).setCell ⟨gb358, 3, none⟩ (.int .i64 ((rd_T26 l0 t354).f3))).heap[gb357]? = some (.cells #[.string ((rd_T26 l0 t353).f0), .int .i64 ((rd_T26 l0 t353).f1), .int .i64 ((rd_T26 l0 t353).f2), .int .i64 ((rd_T26 l0 t353).f3)] 26 (0, 0))) := ⟨by (with_reducible repeat (first | refine blk_drewN ?_ _ | refine blk_drew ?_ | refine blk_alloc ?_ _)); refine blk_far ?_ NB357_358.out _; (with_reducible repeat (first | refine blk_drewN ?_ _ | refine blk_drew ?_ | refine blk_alloc ?_ _)); refine blk_far ?_ NB357_358.out _; (with_reducible repeat (first | refine blk_drewN ?_ _ | refine blk_drew ?_ | refine blk_alloc ?_ _)); refine blk_far ?_ NB357_358.out _; (with_reducible repeat (first | refine blk_drewN ?_ _ | refine blk_drew ?_ | refine blk_alloc ?_ _)); refine blk_far ?_ NB357_358.out _; (with_reducible repeat (first | refine blk_drewN ?_ _ | refine blk_drew ?_ | refine blk_alloc ?_ _)); refine blk_put (cs := #[.string ((rd_T26 l0 t353).f0), .int .i64 ((rd_T26 l0 t353).f1), .int .i64 ((rd_T26 l0 t353).f2), .int .i64 0]) ?_ 3 _ rfl; (with_reducible repeat (first | refine blk_drewN ?_ _ | refine blk_drew ?_ | refine blk_alloc ?_ _)); refine blk_put (cs := #[.string ((rd_T26 l0 t353).f0), .int .i64 ((rd_T26 l0 t353).f1), .int .i64 0, .int .i64 0]) ?_ 2 _ rfl; (with_reducible repeat (first | refine blk_drewN ?_ _ | refine blk_drew ?_ | refine blk_alloc ?_ _)); refine blk_put (cs := #[.string ((rd_T26 l0 t353).f0), .int .i64 0, .int .i64 0, .int .i64 0]) ?_ 1 _ rfl; (with_reducible repeat (first | refine blk_drewN ?_ _ | refine blk_drew ?_ | refine blk_alloc ?_ _)); refine blk_put (cs := #[.string (⟨#[]⟩ : ByteArray), .int .i64 0, .int .i64 0, .int .i64 0]) ?_ 0 _ rfl; (with_reducible repeat (first | refine blk_drewN ?_ _ | refine blk_drew ?_ | refine blk_alloc ?_ _)); exact BK357.out⟩
               have n1_ : Aside0 (((((((((w43.setCell ⟨gb357, 0, none⟩ (.string ((rd_T26 l0 t353).f0))).setCell ⟨gb357, 1, none⟩ (.int .i64 ((rd_T26 l0 t353).f1))).setCell ⟨gb357, 2, none⟩ (.int .i64 ((rd_T26 l0 t353).f2))).setCell ⟨gb357, 3, none⟩ (.int .i64 ((rd_T26 l0 t353).f3))).setCell ⟨gb358, 0, none⟩ (.string ((rd_T26 l0 t354).f0))).setCell ⟨gb358, 1, none⟩ (.int .i64 ((rd_T26 l0 t354).f1))).setCell ⟨gb358, 2, none⟩ (.int .i64 ((rd_T26 l0 t354).f2))).setCell ⟨gb358, 3, none⟩ (.int .i64 ((rd_T26 l0 t354).f3))).heap[gb358]? = some (.cells #[.string ((rd_T26 l0 t354).f0), .int .i64 ((rd_T26 l0 t354).f1), .int .i64 ((rd_T26 l0 t354).f2), .int .i64 ((rd_T26 l0 t354).f3)] 26 (0, 0))) := ⟨by (with_reducible repeat (first | refine blk_drewN ?_ _ | refine blk_drew ?_ | refine blk_alloc ?_ _)); refine blk_put (cs := #[.string ((rd_T26 l0 t354).f0), .int .i64 ((rd_T26 l0 t354).f1), .int .i64 ((rd_T26 l0 t354).f2), .int .i64 0]) ?_ 3 _ rfl; (with_reducible repeat (first | refine blk_drewN ?_ _ | refine blk_drew ?_ | refine blk_alloc ?_ _)); refine blk_put (cs := #[.string ((rd_T26 l0 t354).f0), .int .i64 ((rd_T26 l0 t354).f1), .int .i64 0, .int .i64 0]) ?_ 2 _ rfl; (with_reducible repeat (first | refine blk_drewN ?_ _ | refine blk_drew ?_ | refine blk_alloc ?_ _)); refine blk_put (cs := #[.string ((rd_T26 l0 t354).f0), .int .i64 0, .int .i64 0, .int .i64 0]) ?_ 1 _ rfl; (with_reducible repeat (first | refine blk_drewN ?_ _ | refine blk_drew ?_ | refine blk_alloc ?_ _)); refine blk_put (cs := #[.string (⟨#[]⟩ : ByteArray), .int .i64 0, .int .i64 0, .int .i64 0]) ?_ 0 _ rfl; (with_reducible repeat (first | refine blk_drewN ?_ _ | refine blk_drew ?_ | refine blk_alloc ?_ _)); refine blk_far ?_ NB358_357.out _; (with_reducible repeat (first | refine blk_drewN ?_ _ | refine blk_drew ?_ | refine blk_alloc ?_ _)); refine blk_far ?_ NB358_357.out _; (with_reducible repeat (first | refine blk_drewN ?_ _ | refine blk_drew ?_ | refine blk_alloc ?_ _)); refine blk_far ?_ NB358_357.out _; (with_reducible repeat (first | refine blk_drewN ?_ _ | refine blk_drew ?_ | refine blk_alloc ?_ _)); refine blk_far ?_ NB358_357.out _; (with_reducible repeat (first | refine blk_drewN ?_ _ | refine blk_drew ?_ | refine blk_alloc ?_ _)); exact BK358.out⟩
               have n2_ : Aside0 (Below w.heap.size w ((((((((w43.setCell ⟨gb357, 0, none⟩ (.string ((rd_T26 l0 t353).f0))).setCell ⟨gb357, 1, none⟩ (.int .i64 ((rd_T26 l0 t353).f1))).setCell ⟨gb357, 2, none⟩ (.int .i64 ((rd_T26 l0 t353).f2))).setCell ⟨gb357, 3, none⟩ (.int .i64 ((rd_T26 l0 t353).f3))).setCell ⟨gb358, 0, none⟩ (.string ((rd_T26 l0 t354).f0))).setCell ⟨gb358, 1, none⟩ (.int .i64 ((rd_T26 l0 t354).f1))).setCell ⟨gb358, 2, none⟩ (.int .i64 ((rd_T26 l0 t354).f2))).setCell ⟨gb358, 3, none⟩ (.int .i64 ((rd_T26 l0 t354).f3)))) := ⟨lb2_ HB.out GE357.out GE358.out⟩
               (try clear BK357)
               (try clear BK358)
               (try clear HB)
               generalize ((((((((w43.setCell ⟨gb357, 0, none⟩ (.string ((rd_T26 l0 t353).f0))).setCell ⟨gb357, 1, none⟩ (.int .i64 ((rd_T26 l0 t353).f1))).setCell ⟨gb357, 2, none⟩ (.int .i64 ((rd_T26 l0 t353).f2))).setCell ⟨gb357, 3, none⟩ (.int .i64 ((rd_T26 l0 t353).f3))).setCell ⟨gb358, 0, none⟩ (.string ((rd_T26 l0 t354).f0))).setCell ⟨gb358, 1, none⟩ (.int .i64 ((rd_T26 l0 t354).f1))).setCell ⟨gb358, 2, none⟩ (.int .i64 ((rd_T26 l0 t354).f2))).setCell ⟨gb358, 3, none⟩ (.int .i64 ((rd_T26 l0 t354).f3))) = w52 at n0_ n1_ n2_ ⊢
               have BK357 := n0_
               have BK358 := n1_
               have HB := n2_
               clear n0_ n1_ n2_
               have n0_ := Aside0.mk (blk_drew BK357.out)
               have n1_ := Aside0.mk (blk_drew BK358.out)
               have n2_ := Aside0.mk (below_drew1 HB.out)
               clear BK357
               clear BK358
               clear HB
               have BK357 := n0_
               have BK358 := n1_
               have HB := n2_
               clear n0_ n1_ n2_
               have q54 : (t354 : Int) ≤ ((l0.length : Int) : Int) := dt_
               obtain ⟨i054, hi054, _, hsz54, _⟩ := info_parts info26
               have hroom54 : l0.length ≤ c0 := HC0.out
               have hC54 : Kd.C k26 _ (some ad355) l0.length l0 := HR0.out
               have hcut54 := cut_to (P := Tryd.prog) 32 26 .i64 Tryd.underlying32 hi054 (some ad355) l0.length c0 t354 (dt_) q54 hroom54
               have hr54 := Kd.C_take (m := (t354 : Int).toNat) hC54 (by omega)
               have hy54 : y362.length = (t354 : Int).toNat := (by rw [Ny362.out, List.length_take]; omega)
               rw [← Ny362.out] at hr54
               rw [← hy54] at hcut54
               have HR365 := Aside0.mk hr54
               have HC365 := Aside0.mk (show y362.length ≤ c0 from by omega)
               clear hr54 hC54 hroom54 hi054 hsz54
               have KY54 := Aside0.mk hy54
               clear hy54
               replace q54 := eq_true q54
               have q55 : ((ji31) : Int) ≤ ((l0.length : Int) : Int) := dt_
               obtain ⟨i055, hi055, _, hsz55, _⟩ := info_parts info26
               have hroom55 : l0.length ≤ c0 := HC0.out
               have hC55 : Kd.C k26 _ (some ad355) l0.length l0 := HR0.out
               have q055 : (0 : Int) ≤ ((ji31) : Int) := dt_
               have hcut55 := cut_from (P := Tryd.prog) 32 26 .i64 Tryd.underlying32 hi055 4 hsz55 (some ad355) l0.length c0 (ji31) q055 q55
               have hr55 := Kd.C_drop (m := ((ji31) : Int).toNat) (c := c0) hC55 (by omega) hroom55
               obtain ⟨A55, hA55⟩ : ∃ A1, A1 = (if c0 = ((ji31) : Int).toNat then (some ad355) else ((some ad355) : Option Addr).map (·.add (((ji31) : Int).toNat * 4))) := ⟨_, rfl⟩
               obtain ⟨c55, hc55⟩ : ∃ c1, c1 = c0 - ((ji31) : Int).toNat := ⟨_, rfl⟩
               have hy55 : y369.length = l0.length - ((ji31) : Int).toNat := (by rw [Ny369.out, List.length_drop] <;> omega)
               rw [show (l0).drop ((ji31) : Int).toNat = y369 from Ny369.out.symm] at hr55
               replace hr55 : Kd.C k26 _ A55 y369.length y369 := (by rw [hA55]; exact hr55)
               rw [← hy55, ← hA55, ← hc55] at hcut55
               have HR372 := Aside0.mk hr55
               have HC372 := Aside0.mk (show y369.length ≤ c55 from by rw [hy55, hc55]; exact Nat.sub_le_sub_right hroom55 _)
               clear hr55 hC55 hroom55 hi055 hsz55 hc55
               have KY55 := Aside0.mk hy55
               have KA55 := Aside0.mk hA55
               clear hy55 hA55
               replace q55 := eq_true q55
               refine start_ (n := 11) (S := fun w' => True) (ds := []) spec_ConnectCaves.mk14 (by kernel_rfl) rfl rfl trivial (fun hHeld => ?_); refine with_tabW spec_ConnectCaves.tab6 spec_ConnectCaves.bits6 (fun HT_ HW_ => ?_)
               generalize w52.drew = w53 at BK357 BK358 HB HR365 HR372 hHeld ⊢
               refine pz_ HT_ 1 (some 60) spec_ConnectCaves.mk15 ?_
               refine pz_ HT_ 2 (some 61) spec_ConnectCaves.mk16 ?_
               refine pz_ HT_ 3 (some 62) spec_ConnectCaves.mk17 ?_
               refine pz_ HT_ 5 (some 64) spec_ConnectCaves.mk18 ?_
               refine pz_ HT_ 6 (some 65) spec_ConnectCaves.mk19 ?_
               refine pz_ HT_ 7 (some 66) spec_ConnectCaves.mk20 ?_
               refine pz_ HT_ 8 (some 67) spec_ConnectCaves.mk21 ?_
               refine one_ (i := 0) (N := some 59) spec_ConnectCaves.mk22 rfl rfl (one_of HT_.out (by kernel_rfl)) (by decide) (fun K hK => ?_)
               refine Kd.R_lit_step k26 _ 26 ?hg (N := 59) ?hd (xs := ([] : List (S26))) (inner := []) (ok := fun _ => True) (okp := fun _ => True) ?hr ?hp (fun _ hk => hk) trivial (Below.refl _ _) (Nat.le_refl _) (by simp) ?_; (case hd => rfl); (case hg => rfl); (case hr => first | (go_simp; done) | (go_simp; rfl)); (case hp => exact (Reps.none _ _))
               intro v360 w56 ho57 hb hg_ hnew_
               clear hg_ hnew_
               (first | rw [← Ny359.out] at ho57 | (simp only [Int.reduceToNat] at ho57; rw [← Ny359.out] at ho57))
               have n0_ := Aside0.mk (Kd.R_lower (Kd.R_newB (Kd.R_newB ho57 (g := gb357) (o := .cells #[.string ((rd_T26 l0 t353).f0), .int .i64 ((rd_T26 l0 t353).f1), .int .i64 ((rd_T26 l0 t353).f2), .int .i64 ((rd_T26 l0 t353).f3)] 26 (0, 0)) (bk_ BK357.out)) (g := gb358) (o := .cells #[.string ((rd_T26 l0 t354).f0), .int .i64 ((rd_T26 l0 t354).f1), .int .i64 ((rd_T26 l0 t354).f2), .int .i64 ((rd_T26 l0 t354).f3)] 26 (0, 0)) (bk_ BK358.out)) (below_size (lb2_ HB.out GE357.out GE358.out)))
               have n1_ := Aside0.mk (blk_below (g := gb357) (o := .cells #[.string ((rd_T26 l0 t353).f0), .int .i64 ((rd_T26 l0 t353).f1), .int .i64 ((rd_T26 l0 t353).f2), .int .i64 ((rd_T26 l0 t353).f3)] 26 (0, 0)) (bk_ BK357.out) hb)
               have n2_ := Aside0.mk (blk_below (g := gb358) (o := .cells #[.string ((rd_T26 l0 t354).f0), .int .i64 ((rd_T26 l0 t354).f1), .int .i64 ((rd_T26 l0 t354).f2), .int .i64 ((rd_T26 l0 t354).f3)] 26 (0, 0)) (bk_ BK358.out) hb)
               have n3_ := Aside0.mk (below_step (lb2_ HB.out GE357.out GE358.out) hb)
               clear BK357
               clear BK358
               clear HB
               have HO361 := n0_
               have BK357 := n1_
               have BK358 := n2_
               have HB := n3_
               clear n0_ n1_ n2_ n3_
               clear hb ho57
               refine hK.out _ _ trivial (fun hHeld => ?_)
               clear hK K
               refine norm_ (a' := ?_) ?_ ?_
               rotate_left
               ·
                show Act.put _ (some 59) _ = _
                simp only [Act.put, List.setIfInBounds_toArray, List.set_cons_zero, List.set_cons_succ, i64_w, i32_w]
                rfl
               refine one_ (i := 4) (N := some 63) spec_ConnectCaves.mk23 rfl rfl (one_of HT_.out (by kernel_rfl)) (by decide) (fun K hK => ?_)
               refine Kd.R_append_rows_step k26 (w0 := w) w.heap.size (by rfl) (.tmp 59) (.tmp 62) 32 26 (.agg #[(.string ⟨#[]⟩), (.int .i64 0), (.int .i64 0), (.int .i64 0)]) 40 rfl Tryd.underlying32 info26 rfl (by decide) (by omega) v360 y359 y362 _ _ _ (fun k_ => k_ ≠ gb357 ∧ k_ ≠ gb358) (fun _ => False) rfl rfl ?aO ?aR (fun _ _ h => h) (fun _ h => h.elim) ?aF ?aB ?aS ?aL ?_
               (case aR => exact kc_ (Kd.C_below HR365.out HB.out))
               (case aB => exact (lb2_ HB.out GE357.out GE358.out))
               (case aF => exact (fun k_ hk => ⟨Kd.freshB (g := gb357) (o := .cells #[.string ((rd_T26 l0 t353).f0), .int .i64 ((rd_T26 l0 t353).f1), .int .i64 ((rd_T26 l0 t353).f2), .int .i64 ((rd_T26 l0 t353).f3)] 26 (0, 0)) (bk_ BK357.out) k_ hk, Kd.freshB (g := gb358) (o := .cells #[.string ((rd_T26 l0 t354).f0), .int .i64 ((rd_T26 l0 t354).f1), .int .i64 ((rd_T26 l0 t354).f2), .int .i64 ((rd_T26 l0 t354).f3)] 26 (0, 0)) (bk_ BK358.out) k_ hk⟩))
               (case aO => exact (by (with_reducible repeat (first | apply Kd.R_alloc | apply Kd.R_drewN | apply Kd.R_drew)); exact Kd.R_mono HO361.out (fun _ hk => ⟨hk.1.2, hk.2⟩)))
               (case aS => exact (below_size (lb2_ HB.out GE357.out GE358.out)))
               (case aL => have := LMc30.out; omega)
               intro v367 w58 ho hb hg hat
               rw [← Ny366.out] at ho
               have n0_ := Aside0.mk (blk_grown (g := gb357) (o := .cells #[.string ((rd_T26 l0 t353).f0), .int .i64 ((rd_T26 l0 t353).f1), .int .i64 ((rd_T26 l0 t353).f2), .int .i64 ((rd_T26 l0 t353).f3)] 26 (0, 0)) (bk_ BK357.out) hg (Kd.R_away HO361.out (fun _ hk => hk.1.2)))
               have n1_ := Aside0.mk (blk_grown (g := gb358) (o := .cells #[.string ((rd_T26 l0 t354).f0), .int .i64 ((rd_T26 l0 t354).f1), .int .i64 ((rd_T26 l0 t354).f2), .int .i64 ((rd_T26 l0 t354).f3)] 26 (0, 0)) (bk_ BK358.out) hg (Kd.R_away HO361.out (fun _ hk => hk.2)))
               have n2_ := Aside0.mk (hb)
               have n3_ := Aside0.mk (ho)
               clear BK357
               clear BK358
               clear HB
               clear HO361
               have BK357 := n0_
               have BK358 := n1_
               have HB := n2_
               have HO368 := n3_
               clear n0_ n1_ n2_ n3_
               clear ho hb hg hat
               refine hK.out _ _ trivial (fun hHeld => ?_)
               clear hK K
               refine norm_ (a' := ?_) ?_ ?_
               rotate_left
               ·
                show Act.put _ (some 63) _ = _
                simp only [Act.put, List.setIfInBounds_toArray, List.set_cons_zero, List.set_cons_succ, i64_w, i32_w]
                rfl
               refine one_ (i := 9) (N := some 68) spec_ConnectCaves.mk24 rfl rfl (one_of HT_.out (by kernel_rfl)) (by decide) (fun K hK => ?_)
               refine Kd.R_append_rows_step k26 (w0 := w) w.heap.size (by rfl) (.tmp 63) (.tmp 67) 32 26 (.agg #[(.string ⟨#[]⟩), (.int .i64 0), (.int .i64 0), (.int .i64 0)]) 40 rfl Tryd.underlying32 info26 rfl (by decide) (by omega) v367 y366 y369 _ _ _ (fun k_ => k_ ≠ gb357 ∧ k_ ≠ gb358) (fun _ => False) rfl rfl ?aO ?aR (fun _ _ h => h) (fun _ h => h.elim) ?aF ?aB ?aS ?aL ?_
               (case aR => exact kc_ (Kd.C_below HR372.out HB.out))
               (case aB => exact (lb2_ HB.out GE357.out GE358.out))
               (case aF => exact (fun k_ hk => ⟨Kd.freshB (g := gb357) (o := .cells #[.string ((rd_T26 l0 t353).f0), .int .i64 ((rd_T26 l0 t353).f1), .int .i64 ((rd_T26 l0 t353).f2), .int .i64 ((rd_T26 l0 t353).f3)] 26 (0, 0)) (bk_ BK357.out) k_ hk, Kd.freshB (g := gb358) (o := .cells #[.string ((rd_T26 l0 t354).f0), .int .i64 ((rd_T26 l0 t354).f1), .int .i64 ((rd_T26 l0 t354).f2), .int .i64 ((rd_T26 l0 t354).f3)] 26 (0, 0)) (bk_ BK358.out) k_ hk⟩))
               (case aO => exact (kr_ HO368.out))
               (case aS => exact (below_size (lb2_ HB.out GE357.out GE358.out)))
               (case aL => have := LMc34.out; omega)
               intro v374 w59 ho hb hg hat
               rw [← Ny373.out] at ho
               have n0_ := Aside0.mk (blk_grown (g := gb357) (o := .cells #[.string ((rd_T26 l0 t353).f0), .int .i64 ((rd_T26 l0 t353).f1), .int .i64 ((rd_T26 l0 t353).f2), .int .i64 ((rd_T26 l0 t353).f3)] 26 (0, 0)) (bk_ BK357.out) hg (Kd.R_away HO368.out (fun _ hk => hk.1)))
               have n1_ := Aside0.mk (blk_grown (g := gb358) (o := .cells #[.string ((rd_T26 l0 t354).f0), .int .i64 ((rd_T26 l0 t354).f1), .int .i64 ((rd_T26 l0 t354).f2), .int .i64 ((rd_T26 l0 t354).f3)] 26 (0, 0)) (bk_ BK358.out) hg (Kd.R_away HO368.out (fun _ hk => hk.2)))
               have n2_ := Aside0.mk (hb)
               have n3_ := Aside0.mk (ho)
               clear BK357
               clear BK358
               clear HB
               clear HO368
               have BK357 := n0_
               have BK358 := n1_
               have HB := n2_
               have HO375 := n3_
               clear n0_ n1_ n2_ n3_
               clear ho hb hg hat
               refine hK.out _ _ trivial (fun hHeld => ?_)
               clear hK K
               refine norm_ (a' := ?_) ?_ ?_
               rotate_left
               ·
                show Act.put _ (some 68) _ = _
                simp only [Act.put, List.setIfInBounds_toArray, List.set_cons_zero, List.set_cons_succ, i64_w, i32_w]
                rfl
               refine pz_ HT_ 10 (some 16) spec_ConnectCaves.mk25 ?_
               refine done_ (done_of HT_.out (by kernel_rfl)) ?_
               try go_wp2
               have n0_ := Aside0.mk (Kd.R_drew HO375.out)
               have n1_ := Aside0.mk (blk_drew BK357.out)
               have n2_ := Aside0.mk (blk_drew BK358.out)
               have n3_ := Aside0.mk (below_drew1 HB.out)
               clear HO375
               clear BK357
               clear BK358
               clear HB
               have HO375 := n0_
               have BK357 := n1_
               have BK358 := n2_
               have HB := n3_
               clear n0_ n1_ n2_ n3_
               refine start_ (n := 25) (S := fun w' => w'.cell? ⟨gb357, 0, none⟩ = some (.string ((rd_T26 l0 t353).f0)) ∧ w'.cell? ⟨gb357, 1, none⟩ = some (.int .i64 ((rd_T26 l0 t353).f1)) ∧ w'.cell? ⟨gb357, 2, none⟩ = some (.int .i64 ((rd_T26 l0 t353).f2)) ∧ w'.cell? ⟨gb357, 3, none⟩ = some (.int .i64 ((rd_T26 l0 t353).f3)) ∧ w'.cell? ⟨gb358, 0, none⟩ = some (.string ((rd_T26 l0 t354).f0)) ∧ w'.cell? ⟨gb358, 1, none⟩ = some (.int .i64 ((rd_T26 l0 t354).f1)) ∧ w'.cell? ⟨gb358, 2, none⟩ = some (.int .i64 ((rd_T26 l0 t354).f2)) ∧ w'.cell? ⟨gb358, 3, none⟩ = some (.int .i64 ((rd_T26 l0 t354).f3))) (ds := [24]) spec_ConnectCaves.mk26 (by kernel_rfl) rfl rfl ⟨(blk_cell BK357.out 0).trans rfl, (blk_cell BK357.out 1).trans rfl, (blk_cell BK357.out 2).trans rfl, (blk_cell BK357.out 3).trans rfl, (blk_cell BK358.out 0).trans rfl, (blk_cell BK358.out 1).trans rfl, (blk_cell BK358.out 2).trans rfl, (blk_cell BK358.out 3).trans rfl⟩ (fun hHeld => ?_); refine with_tabW spec_ConnectCaves.tab7 spec_ConnectCaves.bits7 (fun HT_ HW_ => ?_)
               generalize w59.drew = w60 at HO375 BK357 BK358 HB hHeld ⊢
               refine pz_ HT_ 0 (some 69) spec_ConnectCaves.mk27 ?_
               refine pz_ HT_ 1 (some 70) spec_ConnectCaves.mk28 ?_
               refine pz_ HT_ 2 (some 71) spec_ConnectCaves.mk29 ?_
               refine pz_ HT_ 4 (some 73) spec_ConnectCaves.mk30 ?_
               refine pz_ HT_ 6 (some 75) spec_ConnectCaves.mk31 ?_
               refine pz_ HT_ 9 (some 78) spec_ConnectCaves.mk32 ?_
               refine pz_ HT_ 11 (some 80) spec_ConnectCaves.mk33 ?_
               refine pz_ HT_ 13 (some 82) spec_ConnectCaves.mk34 ?_
               refine pz_ HT_ 16 (some 85) spec_ConnectCaves.mk35 ?_
               refine pz_ HT_ 18 (some 87) spec_ConnectCaves.mk36 ?_
               refine take_ (i := 3) (N := some 72) (v := ?_) (a' := ?_) spec_ConnectCaves.mk37 rfl rfl (take_ofW HT_.out HW_.out (by kernel_rfl)) (fun _ _ _ h => h) (Or.inl ⟨by rfl, ?_⟩) hHeld ?_ ?_
               rotate_left
               ·
                rintro w' ⟨s0, s1, s2, s3, s4, s5, s6, s7⟩
                go_simp
                with_reducible rfl
               rotate_left
               ·
                simp only [Act.put, List.setIfInBounds_toArray, List.set_cons_zero, List.set_cons_succ, i64_w, i32_w]
                rfl
               refine take_ (i := 5) (N := some 74) (v := ?_) (a' := ?_) spec_ConnectCaves.mk38 rfl rfl (take_ofW HT_.out HW_.out (by kernel_rfl)) (fun _ _ _ h => h) (Or.inl ⟨by rfl, ?_⟩) hHeld ?_ ?_
               rotate_left
               ·
                rintro w' ⟨s0, s1, s2, s3, s4, s5, s6, s7⟩
                go_simp
                with_reducible rfl
               rotate_left
               ·
                simp only [Act.put, List.setIfInBounds_toArray, List.set_cons_zero, List.set_cons_succ, i64_w, i32_w]
                rfl
               refine take_ (i := 7) (N := some 76) (v := ?_) (a' := ?_) spec_ConnectCaves.mk39 rfl rfl (take_ofW HT_.out HW_.out (by kernel_rfl)) (fun _ _ _ h => h) (Or.inl ⟨by rfl, ?_⟩) hHeld ?_ ?_
               rotate_left
               ·
                rintro w' ⟨s0, s1, s2, s3, s4, s5, s6, s7⟩
                go_simp
                with_reducible rfl
               rotate_left
               ·
                simp only [Act.put, List.setIfInBounds_toArray, List.set_cons_zero, List.set_cons_succ, i64_w, i32_w]
                rfl
               refine pz_ HT_ 8 (some 77) spec_ConnectCaves.mk40 ?_
               refine pz_ HT_ 10 (some 79) spec_ConnectCaves.mk41 ?_
               refine take_ (i := 12) (N := some 81) (v := ?_) (a' := ?_) spec_ConnectCaves.mk42 rfl rfl (take_ofW HT_.out HW_.out (by kernel_rfl)) (fun _ _ _ h => h) (Or.inl ⟨by rfl, ?_⟩) hHeld ?_ ?_
               rotate_left
               ·
                rintro w' ⟨s0, s1, s2, s3, s4, s5, s6, s7⟩
                go_simp
                with_reducible rfl
               rotate_left
               ·
                simp only [Act.put, List.setIfInBounds_toArray, List.set_cons_zero, List.set_cons_succ, i64_w, i32_w]
                rfl
               refine take_ (i := 14) (N := some 83) (v := ?_) (a' := ?_) spec_ConnectCaves.mk43 rfl rfl (take_ofW HT_.out HW_.out (by kernel_rfl)) (fun _ _ _ h => h) (Or.inl ⟨by rfl, ?_⟩) hHeld ?_ ?_
               rotate_left
               ·
                rintro w' ⟨s0, s1, s2, s3, s4, s5, s6, s7⟩
                go_simp
                with_reducible rfl
               rotate_left
               ·
                simp only [Act.put, List.setIfInBounds_toArray, List.set_cons_zero, List.set_cons_succ, i64_w, i32_w]
                rfl
               refine take_ (i := 17) (N := some 86) (v := ?_) (a' := ?_) spec_ConnectCaves.mk44 rfl rfl (take_ofW HT_.out HW_.out (by kernel_rfl)) (fun _ _ _ h => h) (Or.inl ⟨by rfl, ?_⟩) hHeld ?_ ?_
               rotate_left
               ·
                rintro w' ⟨s0, s1, s2, s3, s4, s5, s6, s7⟩
                go_simp
                with_reducible rfl
               rotate_left
               ·
                simp only [Act.put, List.setIfInBounds_toArray, List.set_cons_zero, List.set_cons_succ, i64_w, i32_w]
                rfl
               refine take_ (i := 19) (N := some 88) (v := ?_) (a' := ?_) spec_ConnectCaves.mk45 rfl rfl (take_ofW HT_.out HW_.out (by kernel_rfl)) (fun _ _ _ h => h) (Or.inl ⟨by rfl, ?_⟩) hHeld ?_ ?_
               rotate_left
               ·
                rintro w' ⟨s0, s1, s2, s3, s4, s5, s6, s7⟩
                go_simp
                with_reducible rfl
               rotate_left
               ·
                simp only [Act.put, List.setIfInBounds_toArray, List.set_cons_zero, List.set_cons_succ, i64_w, i32_w]
                rfl
               refine pz_ HT_ 20 (some 89) spec_ConnectCaves.mk46 ?_
               refine pz_ HT_ 21 (some 90) spec_ConnectCaves.mk47 ?_
               refine one_ (i := 15) (N := some 84) spec_ConnectCaves.mk48 rfl rfl (one_of HT_.out (by kernel_rfl)) (by decide) (fun K hK => ?_)
               refine goes_ Tryd.func65 (by kernel_rfl) rfl #[.int .i64 ((rd_T26 l0 t353).f2), .int .i64 ((rd_T26 l0 t354).f2)] (by rfl) rfl rfl (by (try simp only [List.map_toArray, List.map_cons, List.map_nil]); first | done | rfl | (simp only [List.length_drop, List.length_take]; rfl)) ?_
               with_reducible refine (spec_l1Most.calls ((rd_T26 l0 t353).f2) ((rd_T26 l0 t354).f2) t376 _ A35.out).mono ?_
               rintro e w' ⟨rfl, ⟨nd, rfl⟩⟩
               refine ⟨_, rfl, ?_⟩
               have p37 : 0 ≤ (t353 : Int) := dt_
               have q37 : (t353 : Int) < ((y373.length : Int) : Int) := dt_
               obtain ⟨go37, co37, eo37, gb37, gl37, cl37, HG37⟩ := Kd.R_form HO375.out (by omega)
               (first | cases eo37 | (injection eo37 with ea_ en_ ec_; (first | subst ea_ | (injection ea_ with ea_; subst ea_)); subst ec_; clear en_))
               have GB37 := Aside0.mk gb37
               have GG37 := Aside0.mk HG37
               clear gb37 gl37 HG37
               obtain ⟨ce37, hcl37, hM37, hcc37, hfr37⟩ := Kd.R_elem HO375.out z26 (t353 : Int) p37 q37
               obtain rfl := k26_openM hM37
               have hx37_0 : World.cell? _ ⟨go37, (t353 : Int).toNat * 4, none⟩ = some (.string ((rd_T26 y373 t353).f0)) := hcc37 0 _ rfl
               have hx37_1 : World.cell? _ ⟨go37, (t353 : Int).toNat * 4 + 1, none⟩ = some (.int .i64 ((rd_T26 y373 t353).f1)) := hcc37 1 _ rfl
               have hx37_2 : World.cell? _ ⟨go37, (t353 : Int).toNat * 4 + 2, none⟩ = some (.int .i64 ((rd_T26 y373 t353).f2)) := hcc37 2 _ rfl
               have hx37_3 : World.cell? _ ⟨go37, (t353 : Int).toNat * 4 + 3, none⟩ = some (.int .i64 ((rd_T26 y373 t353).f3)) := hcc37 3 _ rfl
               have hf37_0 : World.frozen? _ ⟨go37, (t353 : Int).toNat * 4, none⟩ = false := hfr37 0
               have hf37_1 : World.frozen? _ ⟨go37, (t353 : Int).toNat * 4 + 1, none⟩ = false := hfr37 1
               have hf37_2 : World.frozen? _ ⟨go37, (t353 : Int).toNat * 4 + 2, none⟩ = false := hfr37 2
               have hf37_3 : World.frozen? _ ⟨go37, (t353 : Int).toNat * 4 + 3, none⟩ = false := hfr37 3
               clear hcl37 hcc37 hfr37 hM37
               replace p37 := eq_true p37
               replace q37 := eq_true q37
               obtain ⟨ce61, hcl61, hM61, hcc61, hfr61⟩ := Kd.R_elem HO375.out z26 (t353 : Int) (dt_) (by have h_ : (t353 : Int) < ((y373.length : Int) : Int) := dt_; first | exact h_ | (have e_ := (Kd.R_reads' HO375.out).1; omega) | simpa using h_)
               obtain rfl := k26_openM hM61
               have HP61 := (Kd.R_seg HO375.out (t353 : Int) (dt_) (by have h_ : (t353 : Int) < ((y373.length : Int) : Int) := dt_; first | exact h_ | (have e_ := (Kd.R_reads' HO375.out).1; omega) | simpa using h_) (seg := [.string ((rd_T26 l0 t353).f0), .int .i64 (wrap64 ((wrap64 (((rd_T26 l0 t353).f1) + ((rd_T26 l0 t354).f1))) + a3)), .int .i64 t376, .int .i64 (wrap64 ((wrap64 (((rd_T26 l0 t353).f3) + ((rd_T26 l0 t354).f3))) + 1))]) (j := 0) hcl61 hcc61 (show 4 ≤ 4 from by decide) (x' := (⟨(rd_T26 l0 t353).f0, wrap64 ((wrap64 (((rd_T26 l0 t353).f1) + ((rd_T26 l0 t354).f1))) + a3), t376, wrap64 ((wrap64 (((rd_T26 l0 t353).f3) + ((rd_T26 l0 t354).f3))) + 1)⟩ : S26)) (k26_mkM _ _ _ (⟨(rd_T26 l0 t353).f0, wrap64 ((wrap64 (((rd_T26 l0 t353).f1) + ((rd_T26 l0 t354).f1))) + a3), t376, wrap64 ((wrap64 (((rd_T26 l0 t353).f3) + ((rd_T26 l0 t354).f3))) + 1)⟩ : S26) ) (fun _ hk => hk)).1
               rw [← Ny377.out] at HP61
               have HQ61 := Aside0.mk HP61
               clear hcl61 hcc61 hfr61 hM61 HP61
               refine hK.out _ _ ⟨(blk_cell BK357.out 0).trans rfl, (blk_cell BK357.out 1).trans rfl, (blk_cell BK357.out 2).trans rfl, (blk_cell BK357.out 3).trans rfl, (blk_cell BK358.out 0).trans rfl, (blk_cell BK358.out 1).trans rfl, (blk_cell BK358.out 2).trans rfl, (blk_cell BK358.out 3).trans rfl⟩ (fun hHeld => ?_)
               clear hK K
               refine norm_ (a' := ?_) ?_ ?_
               rotate_left
               ·
                show Act.put _ (some 84) _ = _
                simp only [Act.put, List.setIfInBounds_toArray, List.set_cons_zero, List.set_cons_succ, i64_w, i32_w]
                rfl
               refine pz_ HT_ 22 (some 91) spec_ConnectCaves.mk49 ?_
               refine pz_ HT_ 23 (some 92) spec_ConnectCaves.mk50 ?_
               refine last_ (i := 24) (N := none) spec_ConnectCaves.mk51 rfl rfl (one_of HT_.out (by kernel_rfl)) (by decide) (fun K hK => ?_)
               refine skip_ (w1 := ?_) (by rfl) rfl ?_ ?_
               rotate_left
               ·
                go_simp
                rfl
               refine hK.out _ _ ?_
               clear hK K
               refine done_ (done_of HT_.out (by kernel_rfl)) ?_
               try go_wp2_with (first | ((with_reducible refine gate_callee (f := 58) rfl ?_); refine goesL_ (some 94) rfl rfl Tryd.func58 (by kernel_rfl) rfl #[.slice (some ⟨go37, 0, none⟩) y377.length co37] rfl (by (try simp only [List.map_toArray, List.map_cons, List.map_nil]); first | done | (rw [show y377.length = y373.length from (Kd.R_reads' HQ61.out).1.symm] <;> rfl) | rfl | (simp only [List.length_drop, List.length_take]; rfl)) ?_; (with_reducible refine (spec_l26Good.calls kj6 _ _ y377 true _ ?side1 ?side2 A38.out).mono ?_); (case side1 => refine (Kd.R_reads' (e := 26) (base := w.heap.size) (ok := fun k_ => (k_ ≠ gb357 ∧ k_ ≠ gb358)) (n := y373.length) (c := co37) ?_).2.2; exact (kr_ HQ61.out)); (case side2 => rw [show y377.length = y373.length from (Kd.R_reads' HQ61.out).1.symm]; exact (Kd.R_reads' HO375.out).2.1); rintro e w62 ⟨rfl, hb⟩; refine ⟨_, rfl, ?_⟩; have n0_ := Aside0.mk (Kd.R_below (kr_ HQ61.out) hb); have n1_ := Aside0.mk (blk_below (g := gb357) (o := .cells #[.string ((rd_T26 l0 t353).f0), .int .i64 ((rd_T26 l0 t353).f1), .int .i64 ((rd_T26 l0 t353).f2), .int .i64 ((rd_T26 l0 t353).f3)] 26 (0, 0)) (by (with_reducible repeat (first | refine blk_drewN ?_ _ | refine blk_drew ?_ | refine blk_alloc ?_ _)); refine blk_far ?_ (by have h_ := Kd.R_away HO375.out (fun _ hk => hk.1); intro e_; exact h_ (by rw [e_]; rfl)) _; (with_reducible repeat (first | refine blk_drewN ?_ _ | refine blk_drew ?_ | refine blk_alloc ?_ _)); refine blk_far ?_ (by have h_ := Kd.R_away HO375.out (fun _ hk => hk.1); intro e_; exact h_ (by rw [e_]; rfl)) _; (with_reducible repeat (first | refine blk_drewN ?_ _ | refine blk_drew ?_ | refine blk_alloc ?_ _)); refine blk_far ?_ (by have h_ := Kd.R_away HO375.out (fun _ hk => hk.1); intro e_; exact h_ (by rw [e_]; rfl)) _; (with_reducible repeat (first | refine blk_drewN ?_ _ | refine blk_drew ?_ | refine blk_alloc ?_ _)); refine blk_far ?_ (by have h_ := Kd.R_away HO375.out (fun _ hk => hk.1); intro e_; exact h_ (by rw [e_]; rfl)) _; (with_reducible repeat (first | refine blk_drewN ?_ _ | refine blk_drew ?_ | refine blk_alloc ?_ _)); exact BK357.out) hb); have n2_ := Aside0.mk (blk_below (g := gb358) (o := .cells #[.string ((rd_T26 l0 t354).f0), .int .i64 ((rd_T26 l0 t354).f1), .int .i64 ((rd_T26 l0 t354).f2), .int .i64 ((rd_T26 l0 t354).f3)] 26 (0, 0)) (by (with_reducible repeat (first | refine blk_drewN ?_ _ | refine blk_drew ?_ | refine blk_alloc ?_ _)); refine blk_far ?_ (by have h_ := Kd.R_away HO375.out (fun _ hk => hk.2); intro e_; exact h_ (by rw [e_]; rfl)) _; (with_reducible repeat (first | refine blk_drewN ?_ _ | refine blk_drew ?_ | refine blk_alloc ?_ _)); refine blk_far ?_ (by have h_ := Kd.R_away HO375.out (fun _ hk => hk.2); intro e_; exact h_ (by rw [e_]; rfl)) _; (with_reducible repeat (first | refine blk_drewN ?_ _ | refine blk_drew ?_ | refine blk_alloc ?_ _)); refine blk_far ?_ (by have h_ := Kd.R_away HO375.out (fun _ hk => hk.2); intro e_; exact h_ (by rw [e_]; rfl)) _; (with_reducible repeat (first | refine blk_drewN ?_ _ | refine blk_drew ?_ | refine blk_alloc ?_ _)); refine blk_far ?_ (by have h_ := Kd.R_away HO375.out (fun _ hk => hk.2); intro e_; exact h_ (by rw [e_]; rfl)) _; (with_reducible repeat (first | refine blk_drewN ?_ _ | refine blk_drew ?_ | refine blk_alloc ?_ _)); exact BK358.out) hb); have n3_ := Aside0.mk (below_step (by repeat (first | (with_reducible first | exact HB.out | apply below_alloc | apply pw_below_drewN | apply below_drew1 | refine below_set ?_ GB37.out | refine below_set ?_ GB37.out | refine below_set ?_ GB37.out | refine below_set ?_ GB37.out | refine below_set ?_ GE357.out | refine below_set ?_ GE358.out) | exact HB.out)) hb); clear HO375; clear BK357; clear BK358; clear HB; have HO375 := n0_; have BK357 := n1_; have BK358 := n2_; have HB := n3_; clear n0_ n1_ n2_ n3_; (try clear hb); (try clear hb2); (try clear hk); (try clear hi)))
               go_ret2
               exact ⟨_, by first | rfl | (simp [errW_none, errW_some] <;> rfl) | (simp only [← hji31]; first | rfl | (simp [errW_none, errW_some] <;> rfl)) | (simp [*, errW_none, errW_some] <;> rfl), by (with_reducible repeat (first | apply Kd.R_alloc | apply Kd.R_drewN | apply Kd.R_drew)); exact Kd.R_mono HO375.out (fun _ hk => trivial), lb2_ HB.out GE357.out GE358.out⟩
              ·
               replace c39 := Bool.eq_false_iff.mpr c39
               subst c39
               have H1 : (some ((([] : List (S26))), false)) = some (r1, r2) := by rw [if_neg (show ¬ (false = true) by decide)] at H; exact H
               clear H
               have H := H1
               clear H1
               obtain ⟨y379, hy379⟩ : ∃ y_ : List (S26), y_ = (([] : List (S26))) := ⟨_, rfl⟩
               replace H : (some (y379, false)) = some (r1, r2) := by first | (rw [hy379]; with_reducible exact H) | (have H2_ := (Option.bind_some _ _).symm.trans H; rw [hy379]; with_reducible exact H2_) | (have H2_ := (Option.bind_some _ _).symm.trans H; with_reducible exact H2_) | with_reducible exact H | (rw [hy379]; exact H) | exact H
               have Ny379 := Aside0.mk hy379
               clear hy379
               simp only [Option.some.injEq, Prod.mk.injEq] at H
               obtain ⟨rfl, rfl⟩ := H
               try go_wp2_with (first | ((with_reducible refine gate_callee (f := 68) rfl ?_); refine ga_ (some 47) Tryd.func68 #[.int .i64 t346, .int .i64 t347] ?_; (with_reducible refine (spec_l1Least.calls t346 t347 t353 _ A22.out).mono ?_); rintro e w' ⟨rfl, ⟨nd, rfl⟩⟩; refine ⟨_, rfl, ?_⟩; (try (rw [drewN_self wc]; generalize hq_ : World.drewN wc _ = wc; have n0_ : Aside0 (Below w.heap.size w wc) := ⟨by rw [← hq_]; exact (lb0_ HB.out)⟩; clear HB hq_; have HB := n0_; clear n0_))) | ((with_reducible refine gate_callee (f := 65) rfl ?_); refine ga_ (some 50) Tryd.func65 #[.int .i64 t346, .int .i64 t347] ?_; (with_reducible refine (spec_l1Most.calls t346 t347 t354 _ A23.out).mono ?_); rintro e w' ⟨rfl, ⟨nd, rfl⟩⟩; refine ⟨_, rfl, ?_⟩; (try (rw [drewN_self wc]; generalize hq_ : World.drewN wc _ = wc; have n0_ : Aside0 (Below w.heap.size w wc) := ⟨by rw [← hq_]; exact (lb0_ HB.out)⟩; clear HB hq_; have HB := n0_; clear n0_))))
               have n0_ := Aside0.mk (below_drew1 HB.out)
               clear HB
               have HB := n0_
               clear n0_
               have p355 : 0 ≤ (t353 : Int) := dt_
               have q355 : t353 < (l0.length : Int) := dt_
               obtain ⟨ad355, e355, hx355_0, hx355_1, hx355_2, hx355_3⟩ := at_T26 HR0.out t353 p355 q355
               have hw355_3 := hx355_3
               have hw355_2 := hx355_2
               have hw355_1 := hx355_1
               have hw355_0 := hx355_0
               cases e355
               replace hx355_0 := bc_ HB.out hx355_0
               replace hx355_1 := bc_ HB.out hx355_1
               replace hx355_2 := bc_ HB.out hx355_2
               replace hx355_3 := bc_ HB.out hx355_3
               replace p355 := eq_true p355
               replace q355 := eq_true q355
               have p356 : 0 ≤ (t354 : Int) := dt_
               have q356 : t354 < (l0.length : Int) := dt_
               obtain ⟨ad356, e356, hx356_0, hx356_1, hx356_2, hx356_3⟩ := at_T26 HR0.out t354 p356 q356
               have hw356_3 := hx356_3
               have hw356_2 := hx356_2
               have hw356_1 := hx356_1
               have hw356_0 := hx356_0
               obtain rfl : ad355 = ad356 := (by injection e356)
               replace hx356_0 := bc_ HB.out hx356_0
               replace hx356_1 := bc_ HB.out hx356_1
               replace hx356_2 := bc_ HB.out hx356_2
               replace hx356_3 := bc_ HB.out hx356_3
               replace p356 := eq_true p356
               replace q356 := eq_true q356
               refine start_ (n := 12) (S := fun w' => w'.cell? (ad355.add ((t353).toNat * 4)) = some (.string ((rd_T26 l0 t353).f0)) ∧ w'.cell? ⟨(ad355.add ((t353).toNat * 4)).block, (ad355.add ((t353).toNat * 4)).off + 1, none⟩ = some (.int .i64 ((rd_T26 l0 t353).f1)) ∧ w'.cell? ⟨(ad355.add ((t353).toNat * 4)).block, (ad355.add ((t353).toNat * 4)).off + 2, none⟩ = some (.int .i64 ((rd_T26 l0 t353).f2)) ∧ w'.cell? ⟨(ad355.add ((t353).toNat * 4)).block, (ad355.add ((t353).toNat * 4)).off + 3, none⟩ = some (.int .i64 ((rd_T26 l0 t353).f3)) ∧ w'.cell? (ad355.add ((t354).toNat * 4)) = some (.string ((rd_T26 l0 t354).f0)) ∧ w'.cell? ⟨(ad355.add ((t354).toNat * 4)).block, (ad355.add ((t354).toNat * 4)).off + 1, none⟩ = some (.int .i64 ((rd_T26 l0 t354).f1)) ∧ w'.cell? ⟨(ad355.add ((t354).toNat * 4)).block, (ad355.add ((t354).toNat * 4)).off + 2, none⟩ = some (.int .i64 ((rd_T26 l0 t354).f2)) ∧ w'.cell? ⟨(ad355.add ((t354).toNat * 4)).block, (ad355.add ((t354).toNat * 4)).off + 3, none⟩ = some (.int .i64 ((rd_T26 l0 t354).f3))) (ds := []) spec_ConnectCaves.mk0 (by kernel_rfl) rfl rfl ⟨(bc_ HB.out hw355_0), (bc_ HB.out hw355_1), (bc_ HB.out hw355_2), (bc_ HB.out hw355_3), (bc_ HB.out hw356_0), (bc_ HB.out hw356_1), (bc_ HB.out hw356_2), (bc_ HB.out hw356_3)⟩ (fun hHeld => ?_); refine with_tabW spec_ConnectCaves.tab5 spec_ConnectCaves.bits5 (fun HT_ HW_ => ?_)
               generalize wc.drew = w63 at HB hx355_0 hx355_1 hx355_2 hx355_3 hx356_0 hx356_1 hx356_2 hx356_3 hHeld ⊢
               refine pz_ HT_ 0 (some 51) spec_ConnectCaves.mk1 ?_
               refine pz_ HT_ 1 (some 52) spec_ConnectCaves.mk2 ?_
               refine pz_ HT_ 2 (some 53) spec_ConnectCaves.mk3 ?_
               refine pz_ HT_ 4 (some 55) spec_ConnectCaves.mk4 ?_
               refine pz_ HT_ 5 (some 56) spec_ConnectCaves.mk5 ?_
               refine pz_ HT_ 6 (some 57) spec_ConnectCaves.mk6 ?_
               refine take_ (i := 3) (N := some 54) (v := ?_) (a' := ?_) spec_ConnectCaves.mk7 rfl rfl (take_ofW HT_.out HW_.out (by kernel_rfl)) (fun _ _ _ h => h) (Or.inl ⟨by rfl, ?_⟩) hHeld ?_ ?_
               rotate_left
               ·
                rintro w' ⟨s0, s1, s2, s3, s4, s5, s6, s7⟩
                go_simp
                with_reducible rfl
               rotate_left
               ·
                simp only [Act.put, List.setIfInBounds_toArray, List.set_cons_zero, List.set_cons_succ, i64_w, i32_w]
                rfl
               refine take_ (i := 7) (N := some 58) (v := ?_) (a' := ?_) spec_ConnectCaves.mk8 rfl rfl (take_ofW HT_.out HW_.out (by kernel_rfl)) (fun _ _ _ h => h) (Or.inl ⟨by rfl, ?_⟩) hHeld ?_ ?_
               rotate_left
               ·
                rintro w' ⟨s0, s1, s2, s3, s4, s5, s6, s7⟩
                go_simp
                with_reducible rfl
               rotate_left
               ·
                simp only [Act.put, List.setIfInBounds_toArray, List.set_cons_zero, List.set_cons_succ, i64_w, i32_w]
                rfl
               refine join_ (σ := Nat × Nat) 2 spec_ConnectCaves.mk9 (fun s_ => [(14, .pointer (some ⟨s_.1, 0, none⟩)), (15, .pointer (some ⟨s_.2, 0, none⟩))]) (fun s_ w' => (w'.cell? (ad355.add ((t353).toNat * 4)) = some (.string ((rd_T26 l0 t353).f0)) ∧ w'.cell? ⟨(ad355.add ((t353).toNat * 4)).block, (ad355.add ((t353).toNat * 4)).off + 1, none⟩ = some (.int .i64 ((rd_T26 l0 t353).f1)) ∧ w'.cell? ⟨(ad355.add ((t353).toNat * 4)).block, (ad355.add ((t353).toNat * 4)).off + 2, none⟩ = some (.int .i64 ((rd_T26 l0 t353).f2)) ∧ w'.cell? ⟨(ad355.add ((t353).toNat * 4)).block, (ad355.add ((t353).toNat * 4)).off + 3, none⟩ = some (.int .i64 ((rd_T26 l0 t353).f3)) ∧ w'.cell? (ad355.add ((t354).toNat * 4)) = some (.string ((rd_T26 l0 t354).f0)) ∧ w'.cell? ⟨(ad355.add ((t354).toNat * 4)).block, (ad355.add ((t354).toNat * 4)).off + 1, none⟩ = some (.int .i64 ((rd_T26 l0 t354).f1)) ∧ w'.cell? ⟨(ad355.add ((t354).toNat * 4)).block, (ad355.add ((t354).toNat * 4)).off + 2, none⟩ = some (.int .i64 ((rd_T26 l0 t354).f2)) ∧ w'.cell? ⟨(ad355.add ((t354).toNat * 4)).block, (ad355.add ((t354).toNat * 4)).off + 3, none⟩ = some (.int .i64 ((rd_T26 l0 t354).f3))) ∧ (w'.heap[s_.1]? = some (.cells #[.string (⟨#[]⟩ : ByteArray), .int .i64 0, .int .i64 0, .int .i64 0] 26 (0, 0))) ∧ (w'.heap[s_.2]? = some (.cells #[.string (⟨#[]⟩ : ByteArray), .int .i64 0, .int .i64 0, .int .i64 0] 26 (0, 0))) ∧ (w.heap.size ≤ s_.1) ∧ (w.heap.size ≤ s_.1) ∧ (s_.2 ≠ s_.1) ∧ (s_.1 ≠ s_.2) ∧ (w.heap.size ≤ s_.2) ∧ (w.heap.size ≤ s_.2) ∧ (Below w.heap.size w w')) ?_ ?_
               rotate_left
               ·
                intro hCont
                refine two_ (i := 8) (j := 9) (Ni := some 14) (Nj := some 15) spec_ConnectCaves.mk10 spec_ConnectCaves.mk11 rfl rfl rfl rfl (two_of HT_.out (by kernel_rfl)) (by decide) (by decide) (fun K hK => ?_) (fun K hK => ?_)
                ·
                 skip
                 refine box_step ?hg (N := 14) ?hd (cs := #[.string (⟨#[]⟩ : ByteArray), .int .i64 0, .int .i64 0, .int .i64 0]) (t := 26) ?hr ?_; (case hd => rfl); (case hg => rfl); (case hr => first | (go_simp; done) | (go_simp; rfl))
                 intro gb357 hg w64 hbox hb
                 have n0_ := Aside0.mk (below_step (lb0_ HB.out) hb)
                 have n1_ := Aside0.mk (hbox)
                 have n2_ := Aside0.mk ((by rw [hg]; exact (below_size (lb0_ HB.out)) : w.heap.size ≤ gb357))
                 have n3_ := Aside0.mk ((by rw [hg]; exact (below_size (lb0_ HB.out)) : w.heap.size ≤ gb357))
                 clear HB
                 have HB := n0_
                 have BK357 := n1_
                 have GW357 := n2_
                 have GE357 := n3_
                 clear n0_ n1_ n2_ n3_
                 clear hb hbox hg
                 refine hK.out _ _ ⟨(bc_ HB.out hw355_0), (bc_ HB.out hw355_1), (bc_ HB.out hw355_2), (bc_ HB.out hw355_3), (bc_ HB.out hw356_0), (bc_ HB.out hw356_1), (bc_ HB.out hw356_2), (bc_ HB.out hw356_3)⟩ (fun hHeld => ?_)
                 clear hK K
                 refine norm_ (a' := ?_) ?_ ?_
                 rotate_left
                 ·
                  show Act.put _ (some 14) _ = _
                  simp only [Act.put, List.setIfInBounds_toArray, List.set_cons_zero, List.set_cons_succ, i64_w, i32_w]
                  rfl
                 refine one_ (i := 9) (N := some 15) spec_ConnectCaves.mk9 rfl rfl (one_of HT_.out (by kernel_rfl)) (by decide) (fun K hK => ?_)
                 refine box_step ?hg (N := 15) ?hd (cs := #[.string (⟨#[]⟩ : ByteArray), .int .i64 0, .int .i64 0, .int .i64 0]) (t := 26) ?hr ?_; (case hd => rfl); (case hg => rfl); (case hr => first | (go_simp; done) | (go_simp; rfl))
                 intro gb358 hg w65 hbox hb
                 have n0_ := Aside0.mk (blk_below (g := gb357) (o := .cells #[.string (⟨#[]⟩ : ByteArray), .int .i64 0, .int .i64 0, .int .i64 0] 26 (0, 0)) (bk_ BK357.out) hb)
                 have n1_ := Aside0.mk (below_step (lb1_ HB.out GE357.out) hb)
                 have n2_ := Aside0.mk (hbox)
                 have n3_ := Aside0.mk ((by rw [hg]; exact (below_size (lb1_ HB.out GE357.out)) : w.heap.size ≤ gb358))
                 have n4_ := Aside0.mk ((by rw [hg]; exact (below_size (lb1_ HB.out GE357.out)) : w.heap.size ≤ gb358))
                 have n5_ := Aside0.mk ((by rw [hg]; exact Nat.ne_of_lt (blk_lt (g := gb357) (o := .cells #[.string (⟨#[]⟩ : ByteArray), .int .i64 0, .int .i64 0, .int .i64 0] 26 (0, 0)) (bk_ BK357.out)) : gb357 ≠ gb358))
                 have n6_ := Aside0.mk ((by rw [hg]; exact Nat.ne_of_gt (blk_lt (g := gb357) (o := .cells #[.string (⟨#[]⟩ : ByteArray), .int .i64 0, .int .i64 0, .int .i64 0] 26 (0, 0)) (bk_ BK357.out)) : gb358 ≠ gb357))
                 clear BK357
                 clear HB
                 have BK357 := n0_
                 have HB := n1_
                 have BK358 := n2_
                 have GW358 := n3_
                 have GE358 := n4_
                 have NB357_358 := n5_
                 have NB358_357 := n6_
                 clear n0_ n1_ n2_ n3_ n4_ n5_ n6_
                 clear hb hbox hg
                 refine hK.out _ _ ⟨(bc_ HB.out hw355_0), (bc_ HB.out hw355_1), (bc_ HB.out hw355_2), (bc_ HB.out hw355_3), (bc_ HB.out hw356_0), (bc_ HB.out hw356_1), (bc_ HB.out hw356_2), (bc_ HB.out hw356_3)⟩ (fun hHeld => ?_)
                 clear hK K
                 refine norm_ (a' := ?_) ?_ ?_
                 rotate_left
                 ·
                  show Act.put _ (some 15) _ = _
                  simp only [Act.put, List.setIfInBounds_toArray, List.set_cons_zero, List.set_cons_succ, i64_w, i32_w]
                  rfl
                 exact norm_ (by simp only [putAll, Act.put, List.setIfInBounds_toArray, List.set_cons_zero, List.set_cons_succ]) (hCont (gb357, gb358) _ ⟨hHeld, (bk_ BK357.out), (bk_ BK358.out), GW357.out, GE357.out, NB358_357.out, NB357_358.out, GW358.out, GE358.out, (lb2_ HB.out GE357.out GE358.out)⟩)
                ·
                 skip
                 refine box_step ?hg (N := 15) ?hd (cs := #[.string (⟨#[]⟩ : ByteArray), .int .i64 0, .int .i64 0, .int .i64 0]) (t := 26) ?hr ?_; (case hd => rfl); (case hg => rfl); (case hr => first | (go_simp; done) | (go_simp; rfl))
                 intro gb358 hg w64 hbox hb
                 have n0_ := Aside0.mk (below_step (lb0_ HB.out) hb)
                 have n1_ := Aside0.mk (hbox)
                 have n2_ := Aside0.mk ((by rw [hg]; exact (below_size (lb0_ HB.out)) : w.heap.size ≤ gb358))
                 have n3_ := Aside0.mk ((by rw [hg]; exact (below_size (lb0_ HB.out)) : w.heap.size ≤ gb358))
                 clear HB
                 have HB := n0_
                 have BK358 := n1_
                 have GW358 := n2_
                 have GE358 := n3_
                 clear n0_ n1_ n2_ n3_
                 clear hb hbox hg
                 refine hK.out _ _ ⟨(bc_ HB.out hw355_0), (bc_ HB.out hw355_1), (bc_ HB.out hw355_2), (bc_ HB.out hw355_3), (bc_ HB.out hw356_0), (bc_ HB.out hw356_1), (bc_ HB.out hw356_2), (bc_ HB.out hw356_3)⟩ (fun hHeld => ?_)
                 clear hK K
                 refine norm_ (a' := ?_) ?_ ?_
                 rotate_left
                 ·
                  show Act.put _ (some 15) _ = _
                  simp only [Act.put, List.setIfInBounds_toArray, List.set_cons_zero, List.set_cons_succ, i64_w, i32_w]
                  rfl
                 refine one_ (i := 8) (N := some 14) spec_ConnectCaves.mk9 rfl rfl (one_of HT_.out (by kernel_rfl)) (by decide) (fun K hK => ?_)
                 refine box_step ?hg (N := 14) ?hd (cs := #[.string (⟨#[]⟩ : ByteArray), .int .i64 0, .int .i64 0, .int .i64 0]) (t := 26) ?hr ?_; (case hd => rfl); (case hg => rfl); (case hr => first | (go_simp; done) | (go_simp; rfl))
                 intro gb357 hg w65 hbox hb
                 have n0_ := Aside0.mk (blk_below (g := gb358) (o := .cells #[.string (⟨#[]⟩ : ByteArray), .int .i64 0, .int .i64 0, .int .i64 0] 26 (0, 0)) (bk_ BK358.out) hb)
                 have n1_ := Aside0.mk (below_step (lb1_ HB.out GE358.out) hb)
                 have n2_ := Aside0.mk (hbox)
                 have n3_ := Aside0.mk ((by rw [hg]; exact (below_size (lb1_ HB.out GE358.out)) : w.heap.size ≤ gb357))
                 have n4_ := Aside0.mk ((by rw [hg]; exact (below_size (lb1_ HB.out GE358.out)) : w.heap.size ≤ gb357))
                 have n5_ := Aside0.mk ((by rw [hg]; exact Nat.ne_of_lt (blk_lt (g := gb358) (o := .cells #[.string (⟨#[]⟩ : ByteArray), .int .i64 0, .int .i64 0, .int .i64 0] 26 (0, 0)) (bk_ BK358.out)) : gb358 ≠ gb357))
                 have n6_ := Aside0.mk ((by rw [hg]; exact Nat.ne_of_gt (blk_lt (g := gb358) (o := .cells #[.string (⟨#[]⟩ : ByteArray), .int .i64 0, .int .i64 0, .int .i64 0] 26 (0, 0)) (bk_ BK358.out)) : gb357 ≠ gb358))
                 clear BK358
                 clear HB
                 have BK358 := n0_
                 have HB := n1_
                 have BK357 := n2_
                 have GW357 := n3_
                 have GE357 := n4_
                 have NB358_357 := n5_
                 have NB357_358 := n6_
                 clear n0_ n1_ n2_ n3_ n4_ n5_ n6_
                 clear hb hbox hg
                 refine hK.out _ _ ⟨(bc_ HB.out hw355_0), (bc_ HB.out hw355_1), (bc_ HB.out hw355_2), (bc_ HB.out hw355_3), (bc_ HB.out hw356_0), (bc_ HB.out hw356_1), (bc_ HB.out hw356_2), (bc_ HB.out hw356_3)⟩ (fun hHeld => ?_)
                 clear hK K
                 refine norm_ (a' := ?_) ?_ ?_
                 rotate_left
                 ·
                  show Act.put _ (some 14) _ = _
                  simp only [Act.put, List.setIfInBounds_toArray, List.set_cons_zero, List.set_cons_succ, i64_w, i32_w]
                  rfl
                 exact norm_ (by simp only [putAll, Act.put, List.setIfInBounds_toArray, List.set_cons_zero, List.set_cons_succ]) (hCont (gb357, gb358) _ ⟨hHeld, (bk_ BK357.out), (bk_ BK358.out), GW357.out, GE357.out, NB358_357.out, NB357_358.out, GW358.out, GE358.out, (lb2_ HB.out GE358.out GE357.out)⟩)
               rintro ⟨gb357, gb358⟩ w66 ⟨hS_, h0_, h1_, h2_, h3_, h4_, h5_, h6_, h7_, h8_⟩
               have n0_ : Aside0 (w66.heap[gb357]? = some (.cells #[.string (⟨#[]⟩ : ByteArray), .int .i64 0, .int .i64 0, .int .i64 0] 26 (0, 0))) := ⟨h0_⟩
               have n1_ : Aside0 (w66.heap[gb358]? = some (.cells #[.string (⟨#[]⟩ : ByteArray), .int .i64 0, .int .i64 0, .int .i64 0] 26 (0, 0))) := ⟨h1_⟩
               have n2_ : Aside0 (w.heap.size ≤ gb357) := ⟨h2_⟩
               have n3_ : Aside0 (w.heap.size ≤ gb357) := ⟨h3_⟩
               have n4_ : Aside0 (gb358 ≠ gb357) := ⟨h4_⟩
               have n5_ : Aside0 (gb357 ≠ gb358) := ⟨h5_⟩
               have n6_ : Aside0 (w.heap.size ≤ gb358) := ⟨h6_⟩
               have n7_ : Aside0 (w.heap.size ≤ gb358) := ⟨h7_⟩
               have n8_ : Aside0 (Below w.heap.size w w66) := ⟨h8_⟩
               clear HB
               clear h0_ h1_ h2_ h3_ h4_ h5_ h6_ h7_ h8_
               have BK357 := n0_
               have BK358 := n1_
               have GW357 := n2_
               have GE357 := n3_
               have NB358_357 := n4_
               have NB357_358 := n5_
               have GW358 := n6_
               have GE358 := n7_
               have HB := n8_
               clear n0_ n1_ n2_ n3_ n4_ n5_ n6_ n7_ n8_
               have hHeld : w66.cell? (ad355.add ((t353).toNat * 4)) = some (.string ((rd_T26 l0 t353).f0)) ∧ w66.cell? ⟨(ad355.add ((t353).toNat * 4)).block, (ad355.add ((t353).toNat * 4)).off + 1, none⟩ = some (.int .i64 ((rd_T26 l0 t353).f1)) ∧ w66.cell? ⟨(ad355.add ((t353).toNat * 4)).block, (ad355.add ((t353).toNat * 4)).off + 2, none⟩ = some (.int .i64 ((rd_T26 l0 t353).f2)) ∧ w66.cell? ⟨(ad355.add ((t353).toNat * 4)).block, (ad355.add ((t353).toNat * 4)).off + 3, none⟩ = some (.int .i64 ((rd_T26 l0 t353).f3)) ∧ w66.cell? (ad355.add ((t354).toNat * 4)) = some (.string ((rd_T26 l0 t354).f0)) ∧ w66.cell? ⟨(ad355.add ((t354).toNat * 4)).block, (ad355.add ((t354).toNat * 4)).off + 1, none⟩ = some (.int .i64 ((rd_T26 l0 t354).f1)) ∧ w66.cell? ⟨(ad355.add ((t354).toNat * 4)).block, (ad355.add ((t354).toNat * 4)).off + 2, none⟩ = some (.int .i64 ((rd_T26 l0 t354).f2)) ∧ w66.cell? ⟨(ad355.add ((t354).toNat * 4)).block, (ad355.add ((t354).toNat * 4)).off + 3, none⟩ = some (.int .i64 ((rd_T26 l0 t354).f3)) := hS_
               refine norm_ (a' := ?_) ?_ ?_
               rotate_left
               ·
                simp only [putAll, Act.put, List.setIfInBounds_toArray, List.set_cons_zero, List.set_cons_succ]
                rfl
               refine one_ (i := 10) (N := none) spec_ConnectCaves.mk12 rfl rfl (one_of HT_.out (by kernel_rfl)) (by decide) (fun K hK => ?_)
               have hs67 : w66.cell? ⟨gb357, 0, none⟩ = some (.string (⟨#[]⟩ : ByteArray)) := (blk_cell BK357.out 0).trans rfl
               have hfs67 := blk_frozen BK357.out 0
               have hns67_1 := NB358_357.out
               have hms67_1 := NB357_358.out
               have hs68 : w66.cell? ⟨gb357, 1, none⟩ = some (.int .i64 0) := (blk_cell BK357.out 1).trans rfl
               have hfs68 := blk_frozen BK357.out 1
               have hns68_1 := NB358_357.out
               have hms68_1 := NB357_358.out
               have hs69 : w66.cell? ⟨gb357, 2, none⟩ = some (.int .i64 0) := (blk_cell BK357.out 2).trans rfl
               have hfs69 := blk_frozen BK357.out 2
               have hns69_1 := NB358_357.out
               have hms69_1 := NB357_358.out
               have hs70 : w66.cell? ⟨gb357, 3, none⟩ = some (.int .i64 0) := (blk_cell BK357.out 3).trans rfl
               have hfs70 := blk_frozen BK357.out 3
               have hns70_1 := NB358_357.out
               have hms70_1 := NB357_358.out
               refine skip_ (w1 := ?_) (by rfl) rfl ?_ ?_
               rotate_left
               ·
                go_simp
                rfl
               refine hK.out _ _ ⟨((cell_far (p := ⟨gb357, _, none⟩) (Nat.ne_of_lt (Nat.lt_of_lt_of_le (World.block_lt_of_cell? _ _ hw355_0) GW357.out)) _).trans (((cell_far (p := ⟨gb357, _, none⟩) (Nat.ne_of_lt (Nat.lt_of_lt_of_le (World.block_lt_of_cell? _ _ hw355_0) GW357.out)) _).trans (((cell_far (p := ⟨gb357, _, none⟩) (Nat.ne_of_lt (Nat.lt_of_lt_of_le (World.block_lt_of_cell? _ _ hw355_0) GW357.out)) _).trans (((cell_far (p := ⟨gb357, _, none⟩) (Nat.ne_of_lt (Nat.lt_of_lt_of_le (World.block_lt_of_cell? _ _ hw355_0) GW357.out)) _).trans (hHeld.1)))))))), ((cell_far (p := ⟨gb357, _, none⟩) (Nat.ne_of_lt (Nat.lt_of_lt_of_le (World.block_lt_of_cell? _ _ hw355_1) GW357.out)) _).trans (((cell_far (p := ⟨gb357, _, none⟩) (Nat.ne_of_lt (Nat.lt_of_lt_of_le (World.block_lt_of_cell? _ _ hw355_1) GW357.out)) _).trans (((cell_far (p := ⟨gb357, _, none⟩) (Nat.ne_of_lt (Nat.lt_of_lt_of_le (World.block_lt_of_cell? _ _ hw355_1) GW357.out)) _).trans (((cell_far (p := ⟨gb357, _, none⟩) (Nat.ne_of_lt (Nat.lt_of_lt_of_le (World.block_lt_of_cell? _ _ hw355_1) GW357.out)) _).trans (hHeld.2.1)))))))), ((cell_far (p := ⟨gb357, _, none⟩) (Nat.ne_of_lt (Nat.lt_of_lt_of_le (World.block_lt_of_cell? _ _ hw355_2) GW357.out)) _).trans (((cell_far (p := ⟨gb357, _, none⟩) (Nat.ne_of_lt (Nat.lt_of_lt_of_le (World.block_lt_of_cell? _ _ hw355_2) GW357.out)) _).trans (((cell_far (p := ⟨gb357, _, none⟩) (Nat.ne_of_lt (Nat.lt_of_lt_of_le (World.block_lt_of_cell? _ _ hw355_2) GW357.out)) _).trans (((cell_far (p := ⟨gb357, _, none⟩) (Nat.ne_of_lt (Nat.lt_of_lt_of_le (World.block_lt_of_cell? _ _ hw355_2) GW357.out)) _).trans (hHeld.2.2.1)))))))), ((cell_far (p := ⟨gb357, _, none⟩) (Nat.ne_of_lt (Nat.lt_of_lt_of_le (World.block_lt_of_cell? _ _ hw355_3) GW357.out)) _).trans (((cell_far (p := ⟨gb357, _, none⟩) (Nat.ne_of_lt (Nat.lt_of_lt_of_le (World.block_lt_of_cell? _ _ hw355_3) GW357.out)) _).trans (((cell_far (p := ⟨gb357, _, none⟩) (Nat.ne_of_lt (Nat.lt_of_lt_of_le (World.block_lt_of_cell? _ _ hw355_3) GW357.out)) _).trans (((cell_far (p := ⟨gb357, _, none⟩) (Nat.ne_of_lt (Nat.lt_of_lt_of_le (World.block_lt_of_cell? _ _ hw355_3) GW357.out)) _).trans (hHeld.2.2.2.1)))))))), ((cell_far (p := ⟨gb357, _, none⟩) (Nat.ne_of_lt (Nat.lt_of_lt_of_le (World.block_lt_of_cell? _ _ hw356_0) GW357.out)) _).trans (((cell_far (p := ⟨gb357, _, none⟩) (Nat.ne_of_lt (Nat.lt_of_lt_of_le (World.block_lt_of_cell? _ _ hw356_0) GW357.out)) _).trans (((cell_far (p := ⟨gb357, _, none⟩) (Nat.ne_of_lt (Nat.lt_of_lt_of_le (World.block_lt_of_cell? _ _ hw356_0) GW357.out)) _).trans (((cell_far (p := ⟨gb357, _, none⟩) (Nat.ne_of_lt (Nat.lt_of_lt_of_le (World.block_lt_of_cell? _ _ hw356_0) GW357.out)) _).trans (hHeld.2.2.2.2.1)))))))), ((cell_far (p := ⟨gb357, _, none⟩) (Nat.ne_of_lt (Nat.lt_of_lt_of_le (World.block_lt_of_cell? _ _ hw356_1) GW357.out)) _).trans (((cell_far (p := ⟨gb357, _, none⟩) (Nat.ne_of_lt (Nat.lt_of_lt_of_le (World.block_lt_of_cell? _ _ hw356_1) GW357.out)) _).trans (((cell_far (p := ⟨gb357, _, none⟩) (Nat.ne_of_lt (Nat.lt_of_lt_of_le (World.block_lt_of_cell? _ _ hw356_1) GW357.out)) _).trans (((cell_far (p := ⟨gb357, _, none⟩) (Nat.ne_of_lt (Nat.lt_of_lt_of_le (World.block_lt_of_cell? _ _ hw356_1) GW357.out)) _).trans (hHeld.2.2.2.2.2.1)))))))), ((cell_far (p := ⟨gb357, _, none⟩) (Nat.ne_of_lt (Nat.lt_of_lt_of_le (World.block_lt_of_cell? _ _ hw356_2) GW357.out)) _).trans (((cell_far (p := ⟨gb357, _, none⟩) (Nat.ne_of_lt (Nat.lt_of_lt_of_le (World.block_lt_of_cell? _ _ hw356_2) GW357.out)) _).trans (((cell_far (p := ⟨gb357, _, none⟩) (Nat.ne_of_lt (Nat.lt_of_lt_of_le (World.block_lt_of_cell? _ _ hw356_2) GW357.out)) _).trans (((cell_far (p := ⟨gb357, _, none⟩) (Nat.ne_of_lt (Nat.lt_of_lt_of_le (World.block_lt_of_cell? _ _ hw356_2) GW357.out)) _).trans (hHeld.2.2.2.2.2.2.1)))))))), ((cell_far (p := ⟨gb357, _, none⟩) (Nat.ne_of_lt (Nat.lt_of_lt_of_le (World.block_lt_of_cell? _ _ hw356_3) GW357.out)) _).trans (((cell_far (p := ⟨gb357, _, none⟩) (Nat.ne_of_lt (Nat.lt_of_lt_of_le (World.block_lt_of_cell? _ _ hw356_3) GW357.out)) _).trans (((cell_far (p := ⟨gb357, _, none⟩) (Nat.ne_of_lt (Nat.lt_of_lt_of_le (World.block_lt_of_cell? _ _ hw356_3) GW357.out)) _).trans (((cell_far (p := ⟨gb357, _, none⟩) (Nat.ne_of_lt (Nat.lt_of_lt_of_le (World.block_lt_of_cell? _ _ hw356_3) GW357.out)) _).trans (hHeld.2.2.2.2.2.2.2))))))))⟩ (fun hHeld => ?_)
               clear hK K
               refine one_ (i := 11) (N := none) spec_ConnectCaves.mk13 rfl rfl (one_of HT_.out (by kernel_rfl)) (by decide) (fun K hK => ?_)
               have hs71 : w66.cell? ⟨gb358, 0, none⟩ = some (.string (⟨#[]⟩ : ByteArray)) := (blk_cell BK358.out 0).trans rfl
               have hfs71 := blk_frozen BK358.out 0
               have hns71_0 := NB357_358.out
               have hms71_0 := NB358_357.out
               have hs72 : w66.cell? ⟨gb358, 1, none⟩ = some (.int .i64 0) := (blk_cell BK358.out 1).trans rfl
               have hfs72 := blk_frozen BK358.out 1
               have hns72_0 := NB357_358.out
               have hms72_0 := NB358_357.out
               have hs73 : w66.cell? ⟨gb358, 2, none⟩ = some (.int .i64 0) := (blk_cell BK358.out 2).trans rfl
               have hfs73 := blk_frozen BK358.out 2
               have hns73_0 := NB357_358.out
               have hms73_0 := NB358_357.out
               have hs74 : w66.cell? ⟨gb358, 3, none⟩ = some (.int .i64 0) := (blk_cell BK358.out 3).trans rfl
               have hfs74 := blk_frozen BK358.out 3
               have hns74_0 := NB357_358.out
               have hms74_0 := NB358_357.out
               refine skip_ (w1 := ?_) (by rfl) rfl ?_ ?_
               rotate_left
               ·
                go_simp
                rfl
               refine hK.out _ _ ⟨((cell_far (p := ⟨gb358, _, none⟩) (Nat.ne_of_lt (Nat.lt_of_lt_of_le (World.block_lt_of_cell? _ _ hw355_0) GW358.out)) _).trans (((cell_far (p := ⟨gb358, _, none⟩) (Nat.ne_of_lt (Nat.lt_of_lt_of_le (World.block_lt_of_cell? _ _ hw355_0) GW358.out)) _).trans (((cell_far (p := ⟨gb358, _, none⟩) (Nat.ne_of_lt (Nat.lt_of_lt_of_le (World.block_lt_of_cell? _ _ hw355_0) GW358.out)) _).trans (((cell_far (p := ⟨gb358, _, none⟩) (Nat.ne_of_lt (Nat.lt_of_lt_of_le (World.block_lt_of_cell? _ _ hw355_0) GW358.out)) _).trans (hHeld.1)))))))), ((cell_far (p := ⟨gb358, _, none⟩) (Nat.ne_of_lt (Nat.lt_of_lt_of_le (World.block_lt_of_cell? _ _ hw355_1) GW358.out)) _).trans (((cell_far (p := ⟨gb358, _, none⟩) (Nat.ne_of_lt (Nat.lt_of_lt_of_le (World.block_lt_of_cell? _ _ hw355_1) GW358.out)) _).trans (((cell_far (p := ⟨gb358, _, none⟩) (Nat.ne_of_lt (Nat.lt_of_lt_of_le (World.block_lt_of_cell? _ _ hw355_1) GW358.out)) _).trans (((cell_far (p := ⟨gb358, _, none⟩) (Nat.ne_of_lt (Nat.lt_of_lt_of_le (World.block_lt_of_cell? _ _ hw355_1) GW358.out)) _).trans (hHeld.2.1)))))))), ((cell_far (p := ⟨gb358, _, none⟩) (Nat.ne_of_lt (Nat.lt_of_lt_of_le (World.block_lt_of_cell? _ _ hw355_2) GW358.out)) _).trans (((cell_far (p := ⟨gb358, _, none⟩) (Nat.ne_of_lt (Nat.lt_of_lt_of_le (World.block_lt_of_cell? _ _ hw355_2) GW358.out)) _).trans (((cell_far (p := ⟨gb358, _, none⟩) (Nat.ne_of_lt (Nat.lt_of_lt_of_le (World.block_lt_of_cell? _ _ hw355_2) GW358.out)) _).trans (((cell_far (p := ⟨gb358, _, none⟩) (Nat.ne_of_lt (Nat.lt_of_lt_of_le (World.block_lt_of_cell? _ _ hw355_2) GW358.out)) _).trans (hHeld.2.2.1)))))))), ((cell_far (p := ⟨gb358, _, none⟩) (Nat.ne_of_lt (Nat.lt_of_lt_of_le (World.block_lt_of_cell? _ _ hw355_3) GW358.out)) _).trans (((cell_far (p := ⟨gb358, _, none⟩) (Nat.ne_of_lt (Nat.lt_of_lt_of_le (World.block_lt_of_cell? _ _ hw355_3) GW358.out)) _).trans (((cell_far (p := ⟨gb358, _, none⟩) (Nat.ne_of_lt (Nat.lt_of_lt_of_le (World.block_lt_of_cell? _ _ hw355_3) GW358.out)) _).trans (((cell_far (p := ⟨gb358, _, none⟩) (Nat.ne_of_lt (Nat.lt_of_lt_of_le (World.block_lt_of_cell? _ _ hw355_3) GW358.out)) _).trans (hHeld.2.2.2.1)))))))), ((cell_far (p := ⟨gb358, _, none⟩) (Nat.ne_of_lt (Nat.lt_of_lt_of_le (World.block_lt_of_cell? _ _ hw356_0) GW358.out)) _).trans (((cell_far (p := ⟨gb358, _, none⟩) (Nat.ne_of_lt (Nat.lt_of_lt_of_le (World.block_lt_of_cell? _ _ hw356_0) GW358.out)) _).trans (((cell_far (p := ⟨gb358, _, none⟩) (Nat.ne_of_lt (Nat.lt_of_lt_of_le (World.block_lt_of_cell? _ _ hw356_0) GW358.out)) _).trans (((cell_far (p := ⟨gb358, _, none⟩) (Nat.ne_of_lt (Nat.lt_of_lt_of_le (World.block_lt_of_cell? _ _ hw356_0) GW358.out)) _).trans (hHeld.2.2.2.2.1)))))))), ((cell_far (p := ⟨gb358, _, none⟩) (Nat.ne_of_lt (Nat.lt_of_lt_of_le (World.block_lt_of_cell? _ _ hw356_1) GW358.out)) _).trans (((cell_far (p := ⟨gb358, _, none⟩) (Nat.ne_of_lt (Nat.lt_of_lt_of_le (World.block_lt_of_cell? _ _ hw356_1) GW358.out)) _).trans (((cell_far (p := ⟨gb358, _, none⟩) (Nat.ne_of_lt (Nat.lt_of_lt_of_le (World.block_lt_of_cell? _ _ hw356_1) GW358.out)) _).trans (((cell_far (p := ⟨gb358, _, none⟩) (Nat.ne_of_lt (Nat.lt_of_lt_of_le (World.block_lt_of_cell? _ _ hw356_1) GW358.out)) _).trans (hHeld.2.2.2.2.2.1)))))))), ((cell_far (p := ⟨gb358, _, none⟩) (Nat.ne_of_lt (Nat.lt_of_lt_of_le (World.block_lt_of_cell? _ _ hw356_2) GW358.out)) _).trans (((cell_far (p := ⟨gb358, _, none⟩) (Nat.ne_of_lt (Nat.lt_of_lt_of_le (World.block_lt_of_cell? _ _ hw356_2) GW358.out)) _).trans (((cell_far (p := ⟨gb358, _, none⟩) (Nat.ne_of_lt (Nat.lt_of_lt_of_le (World.block_lt_of_cell? _ _ hw356_2) GW358.out)) _).trans (((cell_far (p := ⟨gb358, _, none⟩) (Nat.ne_of_lt (Nat.lt_of_lt_of_le (World.block_lt_of_cell? _ _ hw356_2) GW358.out)) _).trans (hHeld.2.2.2.2.2.2.1)))))))), ((cell_far (p := ⟨gb358, _, none⟩) (Nat.ne_of_lt (Nat.lt_of_lt_of_le (World.block_lt_of_cell? _ _ hw356_3) GW358.out)) _).trans (((cell_far (p := ⟨gb358, _, none⟩) (Nat.ne_of_lt (Nat.lt_of_lt_of_le (World.block_lt_of_cell? _ _ hw356_3) GW358.out)) _).trans (((cell_far (p := ⟨gb358, _, none⟩) (Nat.ne_of_lt (Nat.lt_of_lt_of_le (World.block_lt_of_cell? _ _ hw356_3) GW358.out)) _).trans (((cell_far (p := ⟨gb358, _, none⟩) (Nat.ne_of_lt (Nat.lt_of_lt_of_le (World.block_lt_of_cell? _ _ hw356_3) GW358.out)) _).trans (hHeld.2.2.2.2.2.2.2))))))))⟩ (fun hHeld => ?_)
               clear hK K
               refine done_ (done_of HT_.out (by kernel_rfl)) ?_
               try go_wp2
               have n0_ : Aside0 (((((((((w66.setCell ⟨gb357, 0, none⟩ (.string ((rd_T26 l0 t353).f0))).setCell ⟨gb357, 1, none⟩ (.int .i64 ((rd_T26 l0 t353).f1))).setCell ⟨gb357, 2, none⟩ (.int .i64 ((rd_T26 l0 t353).f2))).setCell ⟨gb357, 3, none⟩ (.int .i64 ((rd_T26 l0 t353).f3))).setCell ⟨gb358, 0, none⟩ (.string ((rd_T26 l0 t354).f0))).setCell ⟨gb358, 1, none⟩ (.int .i64 ((rd_T26 l0 t354).f1))).setCell ⟨gb358, 2, none⟩ (.int .i64 ((rd_T26 l0 t354).f2))).setCell ⟨gb358, 3, none⟩ (.int .i64 ((rd_T26 l0 t354).f3))).heap[gb357]? = some (.cells #[.string ((rd_T26 l0 t353).f0), .int .i64 ((rd_T26 l0 t353).f1), .int .i64 ((rd_T26 l0 t353).f2), .int .i64 ((rd_T26 l0 t353).f3)] 26 (0, 0))) := ⟨by (with_reducible repeat (first | refine blk_drewN ?_ _ | refine blk_drew ?_ | refine blk_alloc ?_ _)); refine blk_far ?_ NB357_358.out _; (with_reducible repeat (first | refine blk_drewN ?_ _ | refine blk_drew ?_ | refine blk_alloc ?_ _)); refine blk_far ?_ NB357_358.out _; (with_reducible repeat (first | refine blk_drewN ?_ _ | refine blk_drew ?_ | refine blk_alloc ?_ _)); refine blk_far ?_ NB357_358.out _; (with_reducible repeat (first | refine blk_drewN ?_ _ | refine blk_drew ?_ | refine blk_alloc ?_ _)); refine blk_far ?_ NB357_358.out _; (with_reducible repeat (first | refine blk_drewN ?_ _ | refine blk_drew ?_ | refine blk_alloc ?_ _)); refine blk_put (cs := #[.string ((rd_T26 l0 t353).f0), .int .i64 ((rd_T26 l0 t353).f1), .int .i64 ((rd_T26 l0 t353).f2), .int .i64 0]) ?_ 3 _ rfl; (with_reducible repeat (first | refine blk_drewN ?_ _ | refine blk_drew ?_ | refine blk_alloc ?_ _)); refine blk_put (cs := #[.string ((rd_T26 l0 t353).f0), .int .i64 ((rd_T26 l0 t353).f1), .int .i64 0, .int .i64 0]) ?_ 2 _ rfl; (with_reducible repeat (first | refine blk_drewN ?_ _ | refine blk_drew ?_ | refine blk_alloc ?_ _)); refine blk_put (cs := #[.string ((rd_T26 l0 t353).f0), .int .i64 0, .int .i64 0, .int .i64 0]) ?_ 1 _ rfl; (with_reducible repeat (first | refine blk_drewN ?_ _ | refine blk_drew ?_ | refine blk_alloc ?_ _)); refine blk_put (cs := #[.string (⟨#[]⟩ : ByteArray), .int .i64 0, .int .i64 0, .int .i64 0]) ?_ 0 _ rfl; (with_reducible repeat (first | refine blk_drewN ?_ _ | refine blk_drew ?_ | refine blk_alloc ?_ _)); exact BK357.out⟩
               have n1_ : Aside0 (((((((((w66.setCell ⟨gb357, 0, none⟩ (.string ((rd_T26 l0 t353).f0))).setCell ⟨gb357, 1, none⟩ (.int .i64 ((rd_T26 l0 t353).f1))).setCell ⟨gb357, 2, none⟩ (.int .i64 ((rd_T26 l0 t353).f2))).setCell ⟨gb357, 3, none⟩ (.int .i64 ((rd_T26 l0 t353).f3))).setCell ⟨gb358, 0, none⟩ (.string ((rd_T26 l0 t354).f0))).setCell ⟨gb358, 1, none⟩ (.int .i64 ((rd_T26 l0 t354).f1))).setCell ⟨gb358, 2, none⟩ (.int .i64 ((rd_T26 l0 t354).f2))).setCell ⟨gb358, 3, none⟩ (.int .i64 ((rd_T26 l0 t354).f3))).heap[gb358]? = some (.cells #[.string ((rd_T26 l0 t354).f0), .int .i64 ((rd_T26 l0 t354).f1), .int .i64 ((rd_T26 l0 t354).f2), .int .i64 ((rd_T26 l0 t354).f3)] 26 (0, 0))) := ⟨by (with_reducible repeat (first | refine blk_drewN ?_ _ | refine blk_drew ?_ | refine blk_alloc ?_ _)); refine blk_put (cs := #[.string ((rd_T26 l0 t354).f0), .int .i64 ((rd_T26 l0 t354).f1), .int .i64 ((rd_T26 l0 t354).f2), .int .i64 0]) ?_ 3 _ rfl; (with_reducible repeat (first | refine blk_drewN ?_ _ | refine blk_drew ?_ | refine blk_alloc ?_ _)); refine blk_put (cs := #[.string ((rd_T26 l0 t354).f0), .int .i64 ((rd_T26 l0 t354).f1), .int .i64 0, .int .i64 0]) ?_ 2 _ rfl; (with_reducible repeat (first | refine blk_drewN ?_ _ | refine blk_drew ?_ | refine blk_alloc ?_ _)); refine blk_put (cs := #[.string ((rd_T26 l0 t354).f0), .int .i64 0, .int .i64 0, .int .i64 0]) ?_ 1 _ rfl; (with_reducible repeat (first | refine blk_drewN ?_ _ | refine blk_drew ?_ | refine blk_alloc ?_ _)); refine blk_put (cs := #[.string (⟨#[]⟩ : ByteArray), .int .i64 0, .int .i64 0, .int .i64 0]) ?_ 0 _ rfl; (with_reducible repeat (first | refine blk_drewN ?_ _ | refine blk_drew ?_ | refine blk_alloc ?_ _)); refine blk_far ?_ NB358_357.out _; (with_reducible repeat (first | refine blk_drewN ?_ _ | refine blk_drew ?_ | refine blk_alloc ?_ _)); refine blk_far ?_ NB358_357.out _; (with_reducible repeat (first | refine blk_drewN ?_ _ | refine blk_drew ?_ | refine blk_alloc ?_ _)); refine blk_far ?_ NB358_357.out _; (with_reducible repeat (first | refine blk_drewN ?_ _ | refine blk_drew ?_ | refine blk_alloc ?_ _)); refine blk_far ?_ NB358_357.out _; (with_reducible repeat (first | refine blk_drewN ?_ _ | refine blk_drew ?_ | refine blk_alloc ?_ _)); exact BK358.out⟩
               have n2_ : Aside0 (Below w.heap.size w ((((((((w66.setCell ⟨gb357, 0, none⟩ (.string ((rd_T26 l0 t353).f0))).setCell ⟨gb357, 1, none⟩ (.int .i64 ((rd_T26 l0 t353).f1))).setCell ⟨gb357, 2, none⟩ (.int .i64 ((rd_T26 l0 t353).f2))).setCell ⟨gb357, 3, none⟩ (.int .i64 ((rd_T26 l0 t353).f3))).setCell ⟨gb358, 0, none⟩ (.string ((rd_T26 l0 t354).f0))).setCell ⟨gb358, 1, none⟩ (.int .i64 ((rd_T26 l0 t354).f1))).setCell ⟨gb358, 2, none⟩ (.int .i64 ((rd_T26 l0 t354).f2))).setCell ⟨gb358, 3, none⟩ (.int .i64 ((rd_T26 l0 t354).f3)))) := ⟨lb2_ HB.out GE357.out GE358.out⟩
               (try clear BK357)
               (try clear BK358)
               (try clear HB)
               generalize ((((((((w66.setCell ⟨gb357, 0, none⟩ (.string ((rd_T26 l0 t353).f0))).setCell ⟨gb357, 1, none⟩ (.int .i64 ((rd_T26 l0 t353).f1))).setCell ⟨gb357, 2, none⟩ (.int .i64 ((rd_T26 l0 t353).f2))).setCell ⟨gb357, 3, none⟩ (.int .i64 ((rd_T26 l0 t353).f3))).setCell ⟨gb358, 0, none⟩ (.string ((rd_T26 l0 t354).f0))).setCell ⟨gb358, 1, none⟩ (.int .i64 ((rd_T26 l0 t354).f1))).setCell ⟨gb358, 2, none⟩ (.int .i64 ((rd_T26 l0 t354).f2))).setCell ⟨gb358, 3, none⟩ (.int .i64 ((rd_T26 l0 t354).f3))) = w75 at n0_ n1_ n2_ ⊢
               have BK357 := n0_
               have BK358 := n1_
               have HB := n2_
               clear n0_ n1_ n2_
               have n0_ := Aside0.mk (blk_drew BK357.out)
               have n1_ := Aside0.mk (blk_drew BK358.out)
               have n2_ := Aside0.mk (below_drew1 HB.out)
               clear BK357
               clear BK358
               clear HB
               have BK357 := n0_
               have BK358 := n1_
               have HB := n2_
               clear n0_ n1_ n2_
               have q77 : (t354 : Int) ≤ ((l0.length : Int) : Int) := dt_
               obtain ⟨i077, hi077, _, hsz77, _⟩ := info_parts info26
               have hroom77 : l0.length ≤ c0 := HC0.out
               have hC77 : Kd.C k26 _ (some ad355) l0.length l0 := HR0.out
               have hcut77 := cut_to (P := Tryd.prog) 32 26 .i64 Tryd.underlying32 hi077 (some ad355) l0.length c0 t354 (dt_) q77 hroom77
               have hr77 := Kd.C_take (m := (t354 : Int).toNat) hC77 (by omega)
               have hy77 : y362.length = (t354 : Int).toNat := (by rw [Ny362.out, List.length_take]; omega)
               rw [← Ny362.out] at hr77
               rw [← hy77] at hcut77
               have HR365 := Aside0.mk hr77
               have HC365 := Aside0.mk (show y362.length ≤ c0 from by omega)
               clear hr77 hC77 hroom77 hi077 hsz77
               have KY77 := Aside0.mk hy77
               clear hy77
               replace q77 := eq_true q77
               have q78 : ((ji31) : Int) ≤ ((l0.length : Int) : Int) := dt_
               obtain ⟨i078, hi078, _, hsz78, _⟩ := info_parts info26
               have hroom78 : l0.length ≤ c0 := HC0.out
               have hC78 : Kd.C k26 _ (some ad355) l0.length l0 := HR0.out
               have q078 : (0 : Int) ≤ ((ji31) : Int) := dt_
               have hcut78 := cut_from (P := Tryd.prog) 32 26 .i64 Tryd.underlying32 hi078 4 hsz78 (some ad355) l0.length c0 (ji31) q078 q78
               have hr78 := Kd.C_drop (m := ((ji31) : Int).toNat) (c := c0) hC78 (by omega) hroom78
               obtain ⟨A78, hA78⟩ : ∃ A1, A1 = (if c0 = ((ji31) : Int).toNat then (some ad355) else ((some ad355) : Option Addr).map (·.add (((ji31) : Int).toNat * 4))) := ⟨_, rfl⟩
               obtain ⟨c78, hc78⟩ : ∃ c1, c1 = c0 - ((ji31) : Int).toNat := ⟨_, rfl⟩
               have hy78 : y369.length = l0.length - ((ji31) : Int).toNat := (by rw [Ny369.out, List.length_drop] <;> omega)
               rw [show (l0).drop ((ji31) : Int).toNat = y369 from Ny369.out.symm] at hr78
               replace hr78 : Kd.C k26 _ A78 y369.length y369 := (by rw [hA78]; exact hr78)
               rw [← hy78, ← hA78, ← hc78] at hcut78
               have HR372 := Aside0.mk hr78
               have HC372 := Aside0.mk (show y369.length ≤ c78 from by rw [hy78, hc78]; exact Nat.sub_le_sub_right hroom78 _)
               clear hr78 hC78 hroom78 hi078 hsz78 hc78
               have KY78 := Aside0.mk hy78
               have KA78 := Aside0.mk hA78
               clear hy78 hA78
               replace q78 := eq_true q78
               refine start_ (n := 11) (S := fun w' => True) (ds := []) spec_ConnectCaves.mk14 (by kernel_rfl) rfl rfl trivial (fun hHeld => ?_); refine with_tabW spec_ConnectCaves.tab6 spec_ConnectCaves.bits6 (fun HT_ HW_ => ?_)
               generalize w75.drew = w76 at BK357 BK358 HB HR365 HR372 hHeld ⊢
               refine pz_ HT_ 1 (some 60) spec_ConnectCaves.mk15 ?_
               refine pz_ HT_ 2 (some 61) spec_ConnectCaves.mk16 ?_
               refine pz_ HT_ 3 (some 62) spec_ConnectCaves.mk17 ?_
               refine pz_ HT_ 5 (some 64) spec_ConnectCaves.mk18 ?_
               refine pz_ HT_ 6 (some 65) spec_ConnectCaves.mk19 ?_
               refine pz_ HT_ 7 (some 66) spec_ConnectCaves.mk20 ?_
               refine pz_ HT_ 8 (some 67) spec_ConnectCaves.mk21 ?_
               refine one_ (i := 0) (N := some 59) spec_ConnectCaves.mk22 rfl rfl (one_of HT_.out (by kernel_rfl)) (by decide) (fun K hK => ?_)
               refine Kd.R_lit_step k26 _ 26 ?hg (N := 59) ?hd (xs := ([] : List (S26))) (inner := []) (ok := fun _ => True) (okp := fun _ => True) ?hr ?hp (fun _ hk => hk) trivial (Below.refl _ _) (Nat.le_refl _) (by simp) ?_; (case hd => rfl); (case hg => rfl); (case hr => first | (go_simp; done) | (go_simp; rfl)); (case hp => exact (Reps.none _ _))
               intro v360 w79 ho80 hb hg_ hnew_
               clear hg_ hnew_
               (first | rw [← Ny359.out] at ho80 | (simp only [Int.reduceToNat] at ho80; rw [← Ny359.out] at ho80))
               have n0_ := Aside0.mk (Kd.R_lower (Kd.R_newB (Kd.R_newB ho80 (g := gb357) (o := .cells #[.string ((rd_T26 l0 t353).f0), .int .i64 ((rd_T26 l0 t353).f1), .int .i64 ((rd_T26 l0 t353).f2), .int .i64 ((rd_T26 l0 t353).f3)] 26 (0, 0)) (bk_ BK357.out)) (g := gb358) (o := .cells #[.string ((rd_T26 l0 t354).f0), .int .i64 ((rd_T26 l0 t354).f1), .int .i64 ((rd_T26 l0 t354).f2), .int .i64 ((rd_T26 l0 t354).f3)] 26 (0, 0)) (bk_ BK358.out)) (below_size (lb2_ HB.out GE357.out GE358.out)))
               have n1_ := Aside0.mk (blk_below (g := gb357) (o := .cells #[.string ((rd_T26 l0 t353).f0), .int .i64 ((rd_T26 l0 t353).f1), .int .i64 ((rd_T26 l0 t353).f2), .int .i64 ((rd_T26 l0 t353).f3)] 26 (0, 0)) (bk_ BK357.out) hb)
               have n2_ := Aside0.mk (blk_below (g := gb358) (o := .cells #[.string ((rd_T26 l0 t354).f0), .int .i64 ((rd_T26 l0 t354).f1), .int .i64 ((rd_T26 l0 t354).f2), .int .i64 ((rd_T26 l0 t354).f3)] 26 (0, 0)) (bk_ BK358.out) hb)
               have n3_ := Aside0.mk (below_step (lb2_ HB.out GE357.out GE358.out) hb)
               clear BK357
               clear BK358
               clear HB
               have HO361 := n0_
               have BK357 := n1_
               have BK358 := n2_
               have HB := n3_
               clear n0_ n1_ n2_ n3_
               clear hb ho80
               refine hK.out _ _ trivial (fun hHeld => ?_)
               clear hK K
               refine norm_ (a' := ?_) ?_ ?_
               rotate_left
               ·
                show Act.put _ (some 59) _ = _
                simp only [Act.put, List.setIfInBounds_toArray, List.set_cons_zero, List.set_cons_succ, i64_w, i32_w]
                rfl
               refine one_ (i := 4) (N := some 63) spec_ConnectCaves.mk23 rfl rfl (one_of HT_.out (by kernel_rfl)) (by decide) (fun K hK => ?_)
               refine Kd.R_append_rows_step k26 (w0 := w) w.heap.size (by rfl) (.tmp 59) (.tmp 62) 32 26 (.agg #[(.string ⟨#[]⟩), (.int .i64 0), (.int .i64 0), (.int .i64 0)]) 40 rfl Tryd.underlying32 info26 rfl (by decide) (by omega) v360 y359 y362 _ _ _ (fun k_ => k_ ≠ gb357 ∧ k_ ≠ gb358) (fun _ => False) rfl rfl ?aO ?aR (fun _ _ h => h) (fun _ h => h.elim) ?aF ?aB ?aS ?aL ?_
               (case aR => exact kc_ (Kd.C_below HR365.out HB.out))
               (case aB => exact (lb2_ HB.out GE357.out GE358.out))
               (case aF => exact (fun k_ hk => ⟨Kd.freshB (g := gb357) (o := .cells #[.string ((rd_T26 l0 t353).f0), .int .i64 ((rd_T26 l0 t353).f1), .int .i64 ((rd_T26 l0 t353).f2), .int .i64 ((rd_T26 l0 t353).f3)] 26 (0, 0)) (bk_ BK357.out) k_ hk, Kd.freshB (g := gb358) (o := .cells #[.string ((rd_T26 l0 t354).f0), .int .i64 ((rd_T26 l0 t354).f1), .int .i64 ((rd_T26 l0 t354).f2), .int .i64 ((rd_T26 l0 t354).f3)] 26 (0, 0)) (bk_ BK358.out) k_ hk⟩))
               (case aO => exact (by (with_reducible repeat (first | apply Kd.R_alloc | apply Kd.R_drewN | apply Kd.R_drew)); exact Kd.R_mono HO361.out (fun _ hk => ⟨hk.1.2, hk.2⟩)))
               (case aS => exact (below_size (lb2_ HB.out GE357.out GE358.out)))
               (case aL => have := LMc30.out; omega)
               intro v367 w81 ho hb hg hat
               rw [← Ny366.out] at ho
               have n0_ := Aside0.mk (blk_grown (g := gb357) (o := .cells #[.string ((rd_T26 l0 t353).f0), .int .i64 ((rd_T26 l0 t353).f1), .int .i64 ((rd_T26 l0 t353).f2), .int .i64 ((rd_T26 l0 t353).f3)] 26 (0, 0)) (bk_ BK357.out) hg (Kd.R_away HO361.out (fun _ hk => hk.1.2)))
               have n1_ := Aside0.mk (blk_grown (g := gb358) (o := .cells #[.string ((rd_T26 l0 t354).f0), .int .i64 ((rd_T26 l0 t354).f1), .int .i64 ((rd_T26 l0 t354).f2), .int .i64 ((rd_T26 l0 t354).f3)] 26 (0, 0)) (bk_ BK358.out) hg (Kd.R_away HO361.out (fun _ hk => hk.2)))
               have n2_ := Aside0.mk (hb)
               have n3_ := Aside0.mk (ho)
               clear BK357
               clear BK358
               clear HB
               clear HO361
               have BK357 := n0_
               have BK358 := n1_
               have HB := n2_
               have HO368 := n3_
               clear n0_ n1_ n2_ n3_
               clear ho hb hg hat
               refine hK.out _ _ trivial (fun hHeld => ?_)
               clear hK K
               refine norm_ (a' := ?_) ?_ ?_
               rotate_left
               ·
                show Act.put _ (some 63) _ = _
                simp only [Act.put, List.setIfInBounds_toArray, List.set_cons_zero, List.set_cons_succ, i64_w, i32_w]
                rfl
               refine one_ (i := 9) (N := some 68) spec_ConnectCaves.mk24 rfl rfl (one_of HT_.out (by kernel_rfl)) (by decide) (fun K hK => ?_)
               refine Kd.R_append_rows_step k26 (w0 := w) w.heap.size (by rfl) (.tmp 63) (.tmp 67) 32 26 (.agg #[(.string ⟨#[]⟩), (.int .i64 0), (.int .i64 0), (.int .i64 0)]) 40 rfl Tryd.underlying32 info26 rfl (by decide) (by omega) v367 y366 y369 _ _ _ (fun k_ => k_ ≠ gb357 ∧ k_ ≠ gb358) (fun _ => False) rfl rfl ?aO ?aR (fun _ _ h => h) (fun _ h => h.elim) ?aF ?aB ?aS ?aL ?_
               (case aR => exact kc_ (Kd.C_below HR372.out HB.out))
               (case aB => exact (lb2_ HB.out GE357.out GE358.out))
               (case aF => exact (fun k_ hk => ⟨Kd.freshB (g := gb357) (o := .cells #[.string ((rd_T26 l0 t353).f0), .int .i64 ((rd_T26 l0 t353).f1), .int .i64 ((rd_T26 l0 t353).f2), .int .i64 ((rd_T26 l0 t353).f3)] 26 (0, 0)) (bk_ BK357.out) k_ hk, Kd.freshB (g := gb358) (o := .cells #[.string ((rd_T26 l0 t354).f0), .int .i64 ((rd_T26 l0 t354).f1), .int .i64 ((rd_T26 l0 t354).f2), .int .i64 ((rd_T26 l0 t354).f3)] 26 (0, 0)) (bk_ BK358.out) k_ hk⟩))
               (case aO => exact (kr_ HO368.out))
               (case aS => exact (below_size (lb2_ HB.out GE357.out GE358.out)))
               (case aL => have := LMc34.out; omega)
               intro v374 w82 ho hb hg hat
               rw [← Ny373.out] at ho
               have n0_ := Aside0.mk (blk_grown (g := gb357) (o := .cells #[.string ((rd_T26 l0 t353).f0), .int .i64 ((rd_T26 l0 t353).f1), .int .i64 ((rd_T26 l0 t353).f2), .int .i64 ((rd_T26 l0 t353).f3)] 26 (0, 0)) (bk_ BK357.out) hg (Kd.R_away HO368.out (fun _ hk => hk.1)))
               have n1_ := Aside0.mk (blk_grown (g := gb358) (o := .cells #[.string ((rd_T26 l0 t354).f0), .int .i64 ((rd_T26 l0 t354).f1), .int .i64 ((rd_T26 l0 t354).f2), .int .i64 ((rd_T26 l0 t354).f3)] 26 (0, 0)) (bk_ BK358.out) hg (Kd.R_away HO368.out (fun _ hk => hk.2)))
               have n2_ := Aside0.mk (hb)
               have n3_ := Aside0.mk (ho)
               clear BK357
               clear BK358
               clear HB
               clear HO368
               have BK357 := n0_
               have BK358 := n1_
               have HB := n2_
               have HO375 := n3_
               clear n0_ n1_ n2_ n3_
               clear ho hb hg hat
               refine hK.out _ _ trivial (fun hHeld => ?_)
               clear hK K
               refine norm_ (a' := ?_) ?_ ?_
               rotate_left
               ·
                show Act.put _ (some 68) _ = _
                simp only [Act.put, List.setIfInBounds_toArray, List.set_cons_zero, List.set_cons_succ, i64_w, i32_w]
                rfl
               refine pz_ HT_ 10 (some 16) spec_ConnectCaves.mk25 ?_
               refine done_ (done_of HT_.out (by kernel_rfl)) ?_
               try go_wp2
               have n0_ := Aside0.mk (Kd.R_drew HO375.out)
               have n1_ := Aside0.mk (blk_drew BK357.out)
               have n2_ := Aside0.mk (blk_drew BK358.out)
               have n3_ := Aside0.mk (below_drew1 HB.out)
               clear HO375
               clear BK357
               clear BK358
               clear HB
               have HO375 := n0_
               have BK357 := n1_
               have BK358 := n2_
               have HB := n3_
               clear n0_ n1_ n2_ n3_
               refine start_ (n := 25) (S := fun w' => w'.cell? ⟨gb357, 0, none⟩ = some (.string ((rd_T26 l0 t353).f0)) ∧ w'.cell? ⟨gb357, 1, none⟩ = some (.int .i64 ((rd_T26 l0 t353).f1)) ∧ w'.cell? ⟨gb357, 2, none⟩ = some (.int .i64 ((rd_T26 l0 t353).f2)) ∧ w'.cell? ⟨gb357, 3, none⟩ = some (.int .i64 ((rd_T26 l0 t353).f3)) ∧ w'.cell? ⟨gb358, 0, none⟩ = some (.string ((rd_T26 l0 t354).f0)) ∧ w'.cell? ⟨gb358, 1, none⟩ = some (.int .i64 ((rd_T26 l0 t354).f1)) ∧ w'.cell? ⟨gb358, 2, none⟩ = some (.int .i64 ((rd_T26 l0 t354).f2)) ∧ w'.cell? ⟨gb358, 3, none⟩ = some (.int .i64 ((rd_T26 l0 t354).f3))) (ds := [24]) spec_ConnectCaves.mk26 (by kernel_rfl) rfl rfl ⟨(blk_cell BK357.out 0).trans rfl, (blk_cell BK357.out 1).trans rfl, (blk_cell BK357.out 2).trans rfl, (blk_cell BK357.out 3).trans rfl, (blk_cell BK358.out 0).trans rfl, (blk_cell BK358.out 1).trans rfl, (blk_cell BK358.out 2).trans rfl, (blk_cell BK358.out 3).trans rfl⟩ (fun hHeld => ?_); refine with_tabW spec_ConnectCaves.tab7 spec_ConnectCaves.bits7 (fun HT_ HW_ => ?_)
               generalize w82.drew = w83 at HO375 BK357 BK358 HB hHeld ⊢
               refine pz_ HT_ 0 (some 69) spec_ConnectCaves.mk27 ?_
               refine pz_ HT_ 1 (some 70) spec_ConnectCaves.mk28 ?_
               refine pz_ HT_ 2 (some 71) spec_ConnectCaves.mk29 ?_
               refine pz_ HT_ 4 (some 73) spec_ConnectCaves.mk30 ?_
               refine pz_ HT_ 6 (some 75) spec_ConnectCaves.mk31 ?_
               refine pz_ HT_ 9 (some 78) spec_ConnectCaves.mk32 ?_
               refine pz_ HT_ 11 (some 80) spec_ConnectCaves.mk33 ?_
               refine pz_ HT_ 13 (some 82) spec_ConnectCaves.mk34 ?_
               refine pz_ HT_ 16 (some 85) spec_ConnectCaves.mk35 ?_
               refine pz_ HT_ 18 (some 87) spec_ConnectCaves.mk36 ?_
               refine take_ (i := 3) (N := some 72) (v := ?_) (a' := ?_) spec_ConnectCaves.mk37 rfl rfl (take_ofW HT_.out HW_.out (by kernel_rfl)) (fun _ _ _ h => h) (Or.inl ⟨by rfl, ?_⟩) hHeld ?_ ?_
               rotate_left
               ·
                rintro w' ⟨s0, s1, s2, s3, s4, s5, s6, s7⟩
                go_simp
                with_reducible rfl
               rotate_left
               ·
                simp only [Act.put, List.setIfInBounds_toArray, List.set_cons_zero, List.set_cons_succ, i64_w, i32_w]
                rfl
               refine take_ (i := 5) (N := some 74) (v := ?_) (a' := ?_) spec_ConnectCaves.mk38 rfl rfl (take_ofW HT_.out HW_.out (by kernel_rfl)) (fun _ _ _ h => h) (Or.inl ⟨by rfl, ?_⟩) hHeld ?_ ?_
               rotate_left
               ·
                rintro w' ⟨s0, s1, s2, s3, s4, s5, s6, s7⟩
                go_simp
                with_reducible rfl
               rotate_left
               ·
                simp only [Act.put, List.setIfInBounds_toArray, List.set_cons_zero, List.set_cons_succ, i64_w, i32_w]
                rfl
               refine take_ (i := 7) (N := some 76) (v := ?_) (a' := ?_) spec_ConnectCaves.mk39 rfl rfl (take_ofW HT_.out HW_.out (by kernel_rfl)) (fun _ _ _ h => h) (Or.inl ⟨by rfl, ?_⟩) hHeld ?_ ?_
               rotate_left
               ·
                rintro w' ⟨s0, s1, s2, s3, s4, s5, s6, s7⟩
                go_simp
                with_reducible rfl
               rotate_left
               ·
                simp only [Act.put, List.setIfInBounds_toArray, List.set_cons_zero, List.set_cons_succ, i64_w, i32_w]
                rfl
               refine pz_ HT_ 8 (some 77) spec_ConnectCaves.mk40 ?_
               refine pz_ HT_ 10 (some 79) spec_ConnectCaves.mk41 ?_
               refine take_ (i := 12) (N := some 81) (v := ?_) (a' := ?_) spec_ConnectCaves.mk42 rfl rfl (take_ofW HT_.out HW_.out (by kernel_rfl)) (fun _ _ _ h => h) (Or.inl ⟨by rfl, ?_⟩) hHeld ?_ ?_
               rotate_left
               ·
                rintro w' ⟨s0, s1, s2, s3, s4, s5, s6, s7⟩
                go_simp
                with_reducible rfl
               rotate_left
               ·
                simp only [Act.put, List.setIfInBounds_toArray, List.set_cons_zero, List.set_cons_succ, i64_w, i32_w]
                rfl
               refine take_ (i := 14) (N := some 83) (v := ?_) (a' := ?_) spec_ConnectCaves.mk43 rfl rfl (take_ofW HT_.out HW_.out (by kernel_rfl)) (fun _ _ _ h => h) (Or.inl ⟨by rfl, ?_⟩) hHeld ?_ ?_
               rotate_left
               ·
                rintro w' ⟨s0, s1, s2, s3, s4, s5, s6, s7⟩
                go_simp
                with_reducible rfl
               rotate_left
               ·
                simp only [Act.put, List.setIfInBounds_toArray, List.set_cons_zero, List.set_cons_succ, i64_w, i32_w]
                rfl
               refine take_ (i := 17) (N := some 86) (v := ?_) (a' := ?_) spec_ConnectCaves.mk44 rfl rfl (take_ofW HT_.out HW_.out (by kernel_rfl)) (fun _ _ _ h => h) (Or.inl ⟨by rfl, ?_⟩) hHeld ?_ ?_
               rotate_left
               ·
                rintro w' ⟨s0, s1, s2, s3, s4, s5, s6, s7⟩
                go_simp
                with_reducible rfl
               rotate_left
               ·
                simp only [Act.put, List.setIfInBounds_toArray, List.set_cons_zero, List.set_cons_succ, i64_w, i32_w]
                rfl
               refine take_ (i := 19) (N := some 88) (v := ?_) (a' := ?_) spec_ConnectCaves.mk45 rfl rfl (take_ofW HT_.out HW_.out (by kernel_rfl)) (fun _ _ _ h => h) (Or.inl ⟨by rfl, ?_⟩) hHeld ?_ ?_
               rotate_left
               ·
                rintro w' ⟨s0, s1, s2, s3, s4, s5, s6, s7⟩
                go_simp
                with_reducible rfl
               rotate_left
               ·
                simp only [Act.put, List.setIfInBounds_toArray, List.set_cons_zero, List.set_cons_succ, i64_w, i32_w]
                rfl
               refine pz_ HT_ 20 (some 89) spec_ConnectCaves.mk46 ?_
               refine pz_ HT_ 21 (some 90) spec_ConnectCaves.mk47 ?_
               refine one_ (i := 15) (N := some 84) spec_ConnectCaves.mk48 rfl rfl (one_of HT_.out (by kernel_rfl)) (by decide) (fun K hK => ?_)
               refine goes_ Tryd.func65 (by kernel_rfl) rfl #[.int .i64 ((rd_T26 l0 t353).f2), .int .i64 ((rd_T26 l0 t354).f2)] (by rfl) rfl rfl (by (try simp only [List.map_toArray, List.map_cons, List.map_nil]); first | done | rfl | (simp only [List.length_drop, List.length_take]; rfl)) ?_
               with_reducible refine (spec_l1Most.calls ((rd_T26 l0 t353).f2) ((rd_T26 l0 t354).f2) t376 _ A35.out).mono ?_
               rintro e w' ⟨rfl, ⟨nd, rfl⟩⟩
               refine ⟨_, rfl, ?_⟩
               have p37 : 0 ≤ (t353 : Int) := dt_
               have q37 : (t353 : Int) < ((y373.length : Int) : Int) := dt_
               obtain ⟨go37, co37, eo37, gb37, gl37, cl37, HG37⟩ := Kd.R_form HO375.out (by omega)
               (first | cases eo37 | (injection eo37 with ea_ en_ ec_; (first | subst ea_ | (injection ea_ with ea_; subst ea_)); subst ec_; clear en_))
               have GB37 := Aside0.mk gb37
               have GG37 := Aside0.mk HG37
               clear gb37 gl37 HG37
               obtain ⟨ce37, hcl37, hM37, hcc37, hfr37⟩ := Kd.R_elem HO375.out z26 (t353 : Int) p37 q37
               obtain rfl := k26_openM hM37
               have hx37_0 : World.cell? _ ⟨go37, (t353 : Int).toNat * 4, none⟩ = some (.string ((rd_T26 y373 t353).f0)) := hcc37 0 _ rfl
               have hx37_1 : World.cell? _ ⟨go37, (t353 : Int).toNat * 4 + 1, none⟩ = some (.int .i64 ((rd_T26 y373 t353).f1)) := hcc37 1 _ rfl
               have hx37_2 : World.cell? _ ⟨go37, (t353 : Int).toNat * 4 + 2, none⟩ = some (.int .i64 ((rd_T26 y373 t353).f2)) := hcc37 2 _ rfl
               have hx37_3 : World.cell? _ ⟨go37, (t353 : Int).toNat * 4 + 3, none⟩ = some (.int .i64 ((rd_T26 y373 t353).f3)) := hcc37 3 _ rfl
               have hf37_0 : World.frozen? _ ⟨go37, (t353 : Int).toNat * 4, none⟩ = false := hfr37 0
               have hf37_1 : World.frozen? _ ⟨go37, (t353 : Int).toNat * 4 + 1, none⟩ = false := hfr37 1
               have hf37_2 : World.frozen? _ ⟨go37, (t353 : Int).toNat * 4 + 2, none⟩ = false := hfr37 2
               have hf37_3 : World.frozen? _ ⟨go37, (t353 : Int).toNat * 4 + 3, none⟩ = false := hfr37 3
               clear hcl37 hcc37 hfr37 hM37
               replace p37 := eq_true p37
               replace q37 := eq_true q37
               obtain ⟨ce84, hcl84, hM84, hcc84, hfr84⟩ := Kd.R_elem HO375.out z26 (t353 : Int) (dt_) (by have h_ : (t353 : Int) < ((y373.length : Int) : Int) := dt_; first | exact h_ | (have e_ := (Kd.R_reads' HO375.out).1; omega) | simpa using h_)
               obtain rfl := k26_openM hM84
               have HP84 := (Kd.R_seg HO375.out (t353 : Int) (dt_) (by have h_ : (t353 : Int) < ((y373.length : Int) : Int) := dt_; first | exact h_ | (have e_ := (Kd.R_reads' HO375.out).1; omega) | simpa using h_) (seg := [.string ((rd_T26 l0 t353).f0), .int .i64 (wrap64 ((wrap64 (((rd_T26 l0 t353).f1) + ((rd_T26 l0 t354).f1))) + a3)), .int .i64 t376, .int .i64 (wrap64 ((wrap64 (((rd_T26 l0 t353).f3) + ((rd_T26 l0 t354).f3))) + 1))]) (j := 0) hcl84 hcc84 (show 4 ≤ 4 from by decide) (x' := (⟨(rd_T26 l0 t353).f0, wrap64 ((wrap64 (((rd_T26 l0 t353).f1) + ((rd_T26 l0 t354).f1))) + a3), t376, wrap64 ((wrap64 (((rd_T26 l0 t353).f3) + ((rd_T26 l0 t354).f3))) + 1)⟩ : S26)) (k26_mkM _ _ _ (⟨(rd_T26 l0 t353).f0, wrap64 ((wrap64 (((rd_T26 l0 t353).f1) + ((rd_T26 l0 t354).f1))) + a3), t376, wrap64 ((wrap64 (((rd_T26 l0 t353).f3) + ((rd_T26 l0 t354).f3))) + 1)⟩ : S26) ) (fun _ hk => hk)).1
               rw [← Ny377.out] at HP84
               have HQ84 := Aside0.mk HP84
               clear hcl84 hcc84 hfr84 hM84 HP84
               refine hK.out _ _ ⟨(blk_cell BK357.out 0).trans rfl, (blk_cell BK357.out 1).trans rfl, (blk_cell BK357.out 2).trans rfl, (blk_cell BK357.out 3).trans rfl, (blk_cell BK358.out 0).trans rfl, (blk_cell BK358.out 1).trans rfl, (blk_cell BK358.out 2).trans rfl, (blk_cell BK358.out 3).trans rfl⟩ (fun hHeld => ?_)
               clear hK K
               refine norm_ (a' := ?_) ?_ ?_
               rotate_left
               ·
                show Act.put _ (some 84) _ = _
                simp only [Act.put, List.setIfInBounds_toArray, List.set_cons_zero, List.set_cons_succ, i64_w, i32_w]
                rfl
               refine pz_ HT_ 22 (some 91) spec_ConnectCaves.mk49 ?_
               refine pz_ HT_ 23 (some 92) spec_ConnectCaves.mk50 ?_
               refine last_ (i := 24) (N := none) spec_ConnectCaves.mk51 rfl rfl (one_of HT_.out (by kernel_rfl)) (by decide) (fun K hK => ?_)
               refine skip_ (w1 := ?_) (by rfl) rfl ?_ ?_
               rotate_left
               ·
                go_simp
                rfl
               refine hK.out _ _ ?_
               clear hK K
               refine done_ (done_of HT_.out (by kernel_rfl)) ?_
               try go_wp2_with (first | ((with_reducible refine gate_callee (f := 58) rfl ?_); refine goesL_ (some 94) rfl rfl Tryd.func58 (by kernel_rfl) rfl #[.slice (some ⟨go37, 0, none⟩) y377.length co37] rfl (by (try simp only [List.map_toArray, List.map_cons, List.map_nil]); first | done | (rw [show y377.length = y373.length from (Kd.R_reads' HQ84.out).1.symm] <;> rfl) | rfl | (simp only [List.length_drop, List.length_take]; rfl)) ?_; (with_reducible refine (spec_l26Good.calls kj6 _ _ y377 false _ ?side1 ?side2 A38.out).mono ?_); (case side1 => refine (Kd.R_reads' (e := 26) (base := w.heap.size) (ok := fun k_ => (k_ ≠ gb357 ∧ k_ ≠ gb358)) (n := y373.length) (c := co37) ?_).2.2; exact (kr_ HQ84.out)); (case side2 => rw [show y377.length = y373.length from (Kd.R_reads' HQ84.out).1.symm]; exact (Kd.R_reads' HO375.out).2.1); rintro e w85 ⟨rfl, hb⟩; refine ⟨_, rfl, ?_⟩; have n0_ := Aside0.mk (Kd.R_below (kr_ HQ84.out) hb); have n1_ := Aside0.mk (blk_below (g := gb357) (o := .cells #[.string ((rd_T26 l0 t353).f0), .int .i64 ((rd_T26 l0 t353).f1), .int .i64 ((rd_T26 l0 t353).f2), .int .i64 ((rd_T26 l0 t353).f3)] 26 (0, 0)) (by (with_reducible repeat (first | refine blk_drewN ?_ _ | refine blk_drew ?_ | refine blk_alloc ?_ _)); refine blk_far ?_ (by have h_ := Kd.R_away HO375.out (fun _ hk => hk.1); intro e_; exact h_ (by rw [e_]; rfl)) _; (with_reducible repeat (first | refine blk_drewN ?_ _ | refine blk_drew ?_ | refine blk_alloc ?_ _)); refine blk_far ?_ (by have h_ := Kd.R_away HO375.out (fun _ hk => hk.1); intro e_; exact h_ (by rw [e_]; rfl)) _; (with_reducible repeat (first | refine blk_drewN ?_ _ | refine blk_drew ?_ | refine blk_alloc ?_ _)); refine blk_far ?_ (by have h_ := Kd.R_away HO375.out (fun _ hk => hk.1); intro e_; exact h_ (by rw [e_]; rfl)) _; (with_reducible repeat (first | refine blk_drewN ?_ _ | refine blk_drew ?_ | refine blk_alloc ?_ _)); refine blk_far ?_ (by have h_ := Kd.R_away HO375.out (fun _ hk => hk.1); intro e_; exact h_ (by rw [e_]; rfl)) _; (with_reducible repeat (first | refine blk_drewN ?_ _ | refine blk_drew ?_ | refine blk_alloc ?_ _)); exact BK357.out) hb); have n2_ := Aside0.mk (blk_below (g := gb358) (o := .cells #[.string ((rd_T26 l0 t354).f0), .int .i64 ((rd_T26 l0 t354).f1), .int .i64 ((rd_T26 l0 t354).f2), .int .i64 ((rd_T26 l0 t354).f3)] 26 (0, 0)) (by (with_reducible repeat (first | refine blk_drewN ?_ _ | refine blk_drew ?_ | refine blk_alloc ?_ _)); refine blk_far ?_ (by have h_ := Kd.R_away HO375.out (fun _ hk => hk.2); intro e_; exact h_ (by rw [e_]; rfl)) _; (with_reducible repeat (first | refine blk_drewN ?_ _ | refine blk_drew ?_ | refine blk_alloc ?_ _)); refine blk_far ?_ (by have h_ := Kd.R_away HO375.out (fun _ hk => hk.2); intro e_; exact h_ (by rw [e_]; rfl)) _; (with_reducible repeat (first | refine blk_drewN ?_ _ | refine blk_drew ?_ | refine blk_alloc ?_ _)); refine blk_far ?_ (by have h_ := Kd.R_away HO375.out (fun _ hk => hk.2); intro e_; exact h_ (by rw [e_]; rfl)) _; (with_reducible repeat (first | refine blk_drewN ?_ _ | refine blk_drew ?_ | refine blk_alloc ?_ _)); refine blk_far ?_ (by have h_ := Kd.R_away HO375.out (fun _ hk => hk.2); intro e_; exact h_ (by rw [e_]; rfl)) _; (with_reducible repeat (first | refine blk_drewN ?_ _ | refine blk_drew ?_ | refine blk_alloc ?_ _)); exact BK358.out) hb); have n3_ := Aside0.mk (below_step (by repeat (first | (with_reducible first | exact HB.out | apply below_alloc | apply pw_below_drewN | apply below_drew1 | refine below_set ?_ GB37.out | refine below_set ?_ GB37.out | refine below_set ?_ GB37.out | refine below_set ?_ GB37.out | refine below_set ?_ GE357.out | refine below_set ?_ GE358.out) | exact HB.out)) hb); clear HO375; clear BK357; clear BK358; clear HB; have HO375 := n0_; have BK357 := n1_; have BK358 := n2_; have HB := n3_; clear n0_ n1_ n2_ n3_; (try clear hb); (try clear hb2); (try clear hk); (try clear hi)) | ((with_reducible refine gate_dst (N := 96) rfl ?_); refine Kd.R_lit k26 _ 26 ?hg (N := 96) ?hd (xs := ([] : List (S26))) (inner := []) (ok := fun _ => True) (okp := fun _ => True) ?hr ?hp (fun _ hk => hk) trivial (Below.refl _ _) (Nat.le_refl _) (by simp) ?_; (case hd => rfl); (case hg => rfl); (case hr => first | (go_simp; done) | (go_simp; rfl)); (case hp => exact (Reps.none _ _)); intro v380 w86 ho87 hb hg_ hnew_; clear hg_ hnew_; (first | rw [← Ny379.out] at ho87 | (simp only [Int.reduceToNat] at ho87; rw [← Ny379.out] at ho87)); have n0_ := Aside0.mk (Kd.R_elder' (kr_ HO375.out) (Kd.R_base ho87) hb); have n1_ := Aside0.mk (Kd.R_lower (Kd.R_newB (Kd.R_newB (Kd.R_new' ho87 (Kd.R_lt (kr_ HO375.out))) (g := gb357) (o := .cells #[.string ((rd_T26 l0 t353).f0), .int .i64 ((rd_T26 l0 t353).f1), .int .i64 ((rd_T26 l0 t353).f2), .int .i64 ((rd_T26 l0 t353).f3)] 26 (0, 0)) (bk_ BK357.out)) (g := gb358) (o := .cells #[.string ((rd_T26 l0 t354).f0), .int .i64 ((rd_T26 l0 t354).f1), .int .i64 ((rd_T26 l0 t354).f2), .int .i64 ((rd_T26 l0 t354).f3)] 26 (0, 0)) (bk_ BK358.out)) (below_size (lb2_ HB.out GE357.out GE358.out))); have n2_ := Aside0.mk (blk_below (g := gb357) (o := .cells #[.string ((rd_T26 l0 t353).f0), .int .i64 ((rd_T26 l0 t353).f1), .int .i64 ((rd_T26 l0 t353).f2), .int .i64 ((rd_T26 l0 t353).f3)] 26 (0, 0)) (bk_ BK357.out) hb); have n3_ := Aside0.mk (blk_below (g := gb358) (o := .cells #[.string ((rd_T26 l0 t354).f0), .int .i64 ((rd_T26 l0 t354).f1), .int .i64 ((rd_T26 l0 t354).f2), .int .i64 ((rd_T26 l0 t354).f3)] 26 (0, 0)) (bk_ BK358.out) hb); have n4_ := Aside0.mk (below_step (lb2_ HB.out GE357.out GE358.out) hb); clear HO375; clear BK357; clear BK358; clear HB; have HO375 := n0_; have HO381 := n1_; have BK357 := n2_; have BK358 := n3_; have HB := n4_; clear n0_ n1_ n2_ n3_ n4_; clear hb ho87))
               go_ret2
               exact ⟨_, by first | rfl | (simp [errW_none, errW_some] <;> rfl) | (simp only [← hji31]; first | rfl | (simp [errW_none, errW_some] <;> rfl)) | (simp [*, errW_none, errW_some] <;> rfl), by (with_reducible repeat (first | apply Kd.R_alloc | apply Kd.R_drewN | apply Kd.R_drew)); exact Kd.R_mono HO381.out (fun _ hk => trivial), lb2_ HB.out GE357.out GE358.out⟩
             ·
              rw [if_neg c36] at H
              exact absurd H (by simp)
            ·
             rw [if_neg c34] at H
             exact absurd H (by simp)
           ·
            rw [if_neg c33] at H
            exact absurd H (by simp)
          ·
           rw [if_neg c32] at H
           exact absurd H (by simp)
         ·
          rw [if_neg c30] at H
          exact absurd H (by simp)
        ·
         rw [if_neg c29] at H
         exact absurd H (by simp)
       ·
        rw [if_neg c27] at H
        exact absurd H (by simp)
      ·
       rw [if_neg c26] at H
       exact absurd H (by simp)
     ·
      rw [if_neg c25] at H
      exact absurd H (by simp)
    ·
     rw [if_neg c24] at H
     exact absurd H (by simp)
theorem below_cells_ {B : Nat} {a W : World} {g : Nat} (hg : B ≤ g) (o : Nat) (vs : List Value) (h : Below B a W) : Below B a (W.setCells g o vs) := by
 obtain ⟨h1, h2, h3, h4⟩ := setCells_same g vs o W
 exact ⟨h1.trans h.os, h2.trans h.tape, h3.trans h.output, by rw [h4]; exact h.size, fun k hk => (setCells_far vs o k (by omega)).trans (h.block k hk)⟩
theorem clear_one_ (W : World) (ty : TypeId) (g o c : Nat) (hc : ∀ j, j < 4 → (W.cell? ⟨g, o + j, none⟩).isSome = true) (hf : ∀ j, j < 4 → W.frozen? ⟨g, o + j, none⟩ = false) :
  (Builtin.clear_ #[32] ty #[.slice (some ⟨g, o, none⟩) 1 c]).run Tryd.prog W = .ok (.tuple #[]) (W.setCells g o [.string (⟨#[]⟩ : ByteArray), .int .i64 0, .int .i64 0, .int .i64 0]) := by
 have hst := run_storeCells_cells (P := Tryd.prog) g o [.string (⟨#[]⟩ : ByteArray), .int .i64 0, .int .i64 0, .int .i64 0] 0 W (by simpa using hc) (by simpa using hf) (by intro v hv'; simp at hv'; rcases hv' with rfl | rfl | rfl | rfl <;> rfl)
 simp only [Nat.add_zero] at hst
 have hz : ∀ w, (zeroValue 26).run Tryd.prog w = .ok (.agg #[(.string (⟨#[]⟩ : ByteArray)), (.int .i64 0), (.int .i64 0), (.int .i64 0)]) w := Tryd.zeroValue26
 have hzc : (Builtin.zeroCells (Value.agg #[(.string (⟨#[]⟩ : ByteArray)), (.int .i64 0), (.int .i64 0), (.int .i64 0)]).cells 1).toList = [.string (⟨#[]⟩ : ByteArray), .int .i64 0, .int .i64 0, .int .i64 0] := by first | rfl | (simp [Builtin.zeroCells, Value.cells]; done) | kernel_rfl
 simp [Builtin.clear_, run_underlying Tryd.underlying32, hz, hzc, hst]
set_option maxHeartbeats 4000000 in
set_option maxRecDepth 100000 in
theorem del_c (gv cap m q base : Nat) (l : List S26) (hq : l.length = m + 1 + q) (hq10 : l.length ≤ 1000000) (w : World) (hR : Kd.R k26 26 w base (fun _ => True) (.slice (some ⟨gv, 0, none⟩) l.length cap) l) :
  Calls Tryd.prog 69 #[.slice (some ⟨gv, 0, none⟩) l.length cap, .int .i64 m, .int .i64 ((m : Int) + 1)] w fun e w' => e = .returned (.slice (some ⟨gv, 0, none⟩) (m + q) cap) ∧ Kd.R k26 26 w' base (fun _ => True) (.slice (some ⟨gv, 0, none⟩) (m + q) cap) (l.take m ++ l.drop (m + 1)) ∧ Below base w w' := by
 obtain ⟨i0, hi0, hz0, hsz, hz2⟩ := info_parts info26
 obtain ⟨_, inner, ho, hr⟩ := hR
 rcases ho.2 with ⟨h0, _⟩ | ⟨g, cap', cur, e, hb, hg, hn, hmx, hs, ht⟩
 ·
  cases h0
 ·
  injection e with e1 e2 e3
  injection e1 with e1
  injection e1 with e1
  subst e1
  subst e3
  have hs4 : cur.size = cap * 4 := hs
  have ht4 : cur.toList.take (l.length * 4) = inner := ht
  have hcl : cur.toList.length = cap * 4 := by rw [Array.length_toList]; exact hs4
  rw [hq] at ht4 hn ⊢
  obtain ⟨news, hnews⟩ : ∃ news, news = inner.drop ((m + 1) * 4) := ⟨_, rfl⟩
  have hil : inner.length = (m + 1 + q) * 4 := by
   rw [← ht4, List.length_take, hcl]
   omega
  have hlen : news.length = q * 4 := by
   rw [hnews, List.length_drop, hil]
   omega
  have hget : ∀ t u, news[t]? = some u → cur[(m + 1) * 4 + t]? = some u := by
   intro t u hu
   have ht2 : t < q * 4 := by rw [← hlen]; exact (List.getElem?_eq_some_iff.1 hu).1
   rw [hnews, List.getElem?_drop, ← ht4, List.getElem?_take_of_lt (by omega), Array.getElem?_toList] at hu
   exact hu
  have hone : ∀ u, u ∈ inner → u.oneCell' = true := by
   intro u hu
   obtain ⟨t, ht2, rfl⟩ := List.mem_iff_getElem.1 hu
   have hjl : t / 4 < l.length := by omega
   have hp := hr.2 (t / 4) l[t / 4] (List.getElem?_eq_getElem hjl)
   have hc := k26_openM hp
   have hk : inner[t] ∈ (inner.drop (t / 4 * k26.sz)).take k26.sz := by
    show inner[t] ∈ (inner.drop (t / 4 * 4)).take 4
    rw [List.mem_iff_getElem?]
    exact ⟨t % 4, by rw [List.getElem?_take_of_lt (by omega), List.getElem?_drop, show t / 4 * 4 + t % 4 = t by omega]; exact List.getElem?_eq_getElem ht2⟩
   rw [hc] at hk
   simp at hk
   rcases hk with e | e | e | e <;> rw [e] <;> rfl
  obtain ⟨ad, hA, hsrc⟩ : ∃ ad : Addr, (if cap = m + 1 then (some (⟨gv, 0, none⟩ : Addr)) else (some (⟨gv, 0, none⟩ : Addr)).map (·.add ((m + 1) * 4))) = some ad ∧ ∀ t u, news[t]? = some u → w.drew.cell? (ad.add t) = some u := by
   by_cases h : cap = m + 1
   ·
    refine ⟨_, by rw [if_pos h], fun t u hu => ?_⟩
    have ht2 : t < q * 4 := by rw [← hlen]; exact (List.getElem?_eq_some_iff.1 hu).1
    omega
   ·
    refine ⟨_, by rw [if_neg h]; rfl, fun t u hu => ?_⟩
    show w.cell? (Addr.add (Addr.add ⟨gv, 0, none⟩ ((m + 1) * 4)) t) = _
    rw [Addr.add_lit, Addr.add_lit]
    rw [blk_cell hg, show 0 + (m + 1) * 4 + t = (m + 1) * 4 + t by omega]
    exact hget t u hu
  have hm0 : (0 : Int) ≤ (m : Int) := by omega
  have hm1 : (m : Int) ≤ ((m + 1 + q : Nat) : Int) := by omega
  have hm2 : (m : Int) + 1 ≤ ((m + 1 + q : Nat) : Int) := by omega
  have hm3 : (m : Int) + 1 ≤ (m : Int) + 1 + (q : Int) := by omega
  have hne : ¬ (m : Int) = (m : Int) + 1 := by omega
  have hlc : ((m + 1 + q : Nat) : Int) ≤ (cap : Int) := by omega
  have hcut1 := cut_to (P := Tryd.prog) 32 26 .i64 Tryd.underlying32 hi0 (some ⟨gv, 0, none⟩) (m + 1 + q) cap (m : Int) hm0 hm1 hn
  have hcut2 := cut_from (P := Tryd.prog) 32 26 .i64 Tryd.underlying32 hi0 4 hsz (some ⟨gv, 0, none⟩) (m + 1 + q) cap ((m : Int) + 1) (by omega) hm2
  rw [Int.toNat_natCast] at hcut1
  rw [show ((m : Int) + 1).toNat = m + 1 by omega, hA, show m + 1 + q - (m + 1) = q by omega] at hcut2
  -- the worlds behind the append and the clear
  obtain ⟨W1, hW1⟩ : ∃ W1, W1 = w.drew.setCells gv (0 + m * 4) news := ⟨_, rfl⟩
  obtain ⟨cur1, hg1, hs1, ht1⟩ := setCells_row news (0 + m * 4) w.drew cur hg (by omega)
  rw [← hW1] at hg1
  have hcl1 := fun ty => clear_one_ W1 ty gv ((m + q) * 4) (cap - (m + q)) (fun j hj => by rw [blk_cell hg1, Array.getElem?_eq_getElem (by omega)]; rfl) (fun j hj => blk_frozen hg1 _)
  obtain ⟨W2, hW2⟩ : ∃ W2, W2 = W1.setCells gv ((m + q) * 4) [.string (⟨#[]⟩ : ByteArray), .int .i64 0, .int .i64 0, .int .i64 0] := ⟨_, rfl⟩
  obtain ⟨cur2, hg2, hs2, ht2⟩ := setCells_row [.string (⟨#[]⟩ : ByteArray), .int .i64 0, .int .i64 0, .int .i64 0] ((m + q) * 4) W1 cur1 hg1 (by show (m + q) * 4 + 4 ≤ _; omega)
  rw [← hW2] at hg2
  have hcl2 : ∀ ty, (Builtin.clear_ #[32] ty #[.slice (some ⟨gv, (m + q) * 4, none⟩) (m + 1 + q - (m + q)) (cap - (m + q))]).run Tryd.prog W1 = .ok (.tuple #[]) W2 := fun ty => by rw [hW2, show m + 1 + q - (m + q) = 1 by omega]; exact hcl1 ty
  have HFIN : Aside0 (Kd.R k26 26 W2 base (fun _ => True) (.slice (some ⟨gv, 0, none⟩) (m + q) cap) (l.take m ++ l.drop (m + 1)) ∧ Below base w W2) := by
   have hzl : [.string (⟨#[]⟩ : ByteArray), Value.int .i64 0, Value.int .i64 0, Value.int .i64 0].length = 4 := rfl
   have hct : cur2.toList.take ((m + q) * 4) = inner.take (m * 4) ++ news := by
    rw [ht2, List.append_assoc, List.take_append_of_le_length (by rw [List.length_take, Array.length_toList]; omega), List.take_take, Nat.min_self, ht1, Nat.zero_add, List.append_assoc]
    have h1 : (cur.toList.take (m * 4)).length = m * 4 := by rw [List.length_take, hcl]; omega
    rw [List.take_append, List.take_of_length_le (by omega), h1, show (m + q) * 4 - m * 4 = news.length by omega, List.take_append_of_le_length (Nat.le_refl _), List.take_length, ← ht4, List.take_take, show min (m * 4) ((m + 1 + q) * 4) = m * 4 by omega]
   refine ⟨⟨fun _ _ => trivial, inner.take (m * 4) ++ news, ⟨?_, .inr ⟨gv, cap, cur2, by congr 1; rw [List.length_append, List.length_take, List.length_drop]; omega, hb, hg2, ?_, hmx, ?_, ?_⟩⟩, ?_, fun j p hj => ?_⟩, ?_⟩
   ·
    rw [List.length_append, List.length_take, hil, hlen, List.length_append, List.length_take, List.length_drop]
    show _ = _ * 4
    omega
   ·
    rw [List.length_append, List.length_take, List.length_drop]
    omega
   ·
    show _ = _ * 4
    omega
   ·
    rw [List.length_append, List.length_take, List.length_drop]
    show cur2.toList.take (_ * 4) = _
    rw [← hct]
    congr 1
    omega
   ·
    rw [List.length_append, List.length_take, hil, hlen, List.length_append, List.length_take, List.length_drop]
    show _ = _ * 4
    omega
   ·
    show k26.M W2 base _ p (((inner.take (m * 4) ++ news).drop (j * 4)).take 4)
    have htl : (l.take m).length = m := by rw [List.length_take]; omega
    have hil4 : (inner.take (m * 4)).length = m * 4 := by rw [List.length_take, hil]; omega
    have hjl : j < (l.take m ++ l.drop (m + 1)).length := (List.getElem?_eq_some_iff.1 hj).1
    rw [List.length_append, htl, List.length_drop] at hjl
    by_cases hjm : j < m
    ·
     rw [List.getElem?_append_left (by omega), List.getElem?_take_of_lt hjm] at hj
     have hc := k26_openM (hr.2 j p hj)
     replace hc : (inner.drop (j * 4)).take 4 = _ := hc
     rw [List.drop_append_of_le_length (by omega), List.take_append_of_le_length (by rw [List.length_drop]; omega), List.drop_take, List.take_take, show min 4 (m * 4 - j * 4) = 4 by omega, hc]
     exact k26_mkM W2 base _ p
    ·
     rw [List.getElem?_append_right (by omega), List.getElem?_drop, htl] at hj
     have hc := k26_openM (hr.2 _ p hj)
     replace hc : (inner.drop ((m + 1 + (j - m)) * 4)).take 4 = _ := hc
     rw [List.drop_append, List.drop_of_length_le (by omega), List.nil_append, hil4, hnews, List.drop_drop, show (m + 1) * 4 + (j * 4 - m * 4) = (m + 1 + (j - m)) * 4 by omega, hc]
     exact k26_mkM W2 base _ p
   ·
    rw [hW2, hW1]
    exact below_cells_ hb _ _ (below_cells_ hb _ _ (below_drew (Below.refl _ _)))
  have HS1 := Aside0.mk hlen
  have HS2 := Aside0.mk hsrc
  have HS3 := Aside0.mk (show ∀ u ∈ news, u.oneCell' = true from fun u hu => hone u (by rw [hnews] at hu; exact List.mem_of_mem_drop hu))
  have HS4 := Aside0.mk (show ∀ j, j < news.length → (w.drew.cell? ⟨gv, 0 + m * 4 + j, none⟩).isSome = true ∧ w.drew.frozen? ⟨gv, 0 + m * 4 + j, none⟩ = false from fun j hj => ⟨by show (w.cell? _).isSome = true; rw [blk_cell hg, Array.getElem?_eq_getElem (by omega)]; rfl, blk_frozen hg _⟩)
  have HW := Aside0.mk hW1
  clear hW1 hW2 hg hg1 hg2 hs1 hs2 ht1 ht2 hcl1 hget hone hsrc hA hr ho ht hs
  go_enter Tryd.func69, Tryd.ntmps69
  go_wp2_with fail
  go_region_law (refine step_append_room rfl (.tmp 22) (.tmp 25) 32 rfl 26 i0 4 Tryd.underlying32 hi0 hsz gv 0 m cap rfl ad q (cap - (m + 1)) news rfl HS1.out HS2.out HS3.out (by omega) HS4.out ?_; rw [← HW.out])
  go_wp2
  go_ret
  exact ⟨rfl, HFIN.out⟩
theorem cc_new_ {w : World} {cs : Array Value} {t g : Nat} (hg : w.heap.size = g) : (w.alloc (.cells cs t)).heap[g]? = some (.cells cs t (0, 0)) := by
 subst hg
 exact heap_new_ w cs t
theorem cc_own_ {w : World} {base : Nat} {ok : Nat → Prop} {v : Value} {l : List S26} (h : Kd.R k26 26 w base ok v l) (hl : 0 < l.length) : ∃ gv cap, v = .slice (some ⟨gv, 0, none⟩) l.length cap ∧ l.length ≤ cap ∧ base ≤ gv := by
 obtain ⟨inner, ho⟩ := Kd.R_own h
 rcases ho.2 with ⟨_, h0⟩ | ⟨gv, cap, cur, rfl, hb, _, hc, _⟩
 ·
  omega
 ·
  exact ⟨gv, cap, rfl, hc, hb⟩
theorem del_n (gv cap m q base n : Nat) (l : List S26) (hn : l.length = n) (hq : n = m + 1 + q) (hq10 : n ≤ 1000000) (w : World) (hR : Kd.R k26 26 w base (fun _ => True) (.slice (some ⟨gv, 0, none⟩) n cap) l) :
  Calls Tryd.prog 69 #[.slice (some ⟨gv, 0, none⟩) n cap, .int .i64 m, .int .i64 ((m : Int) + 1)] w fun e w' => ∃ L : List S26, e = .returned (.slice (some ⟨gv, 0, none⟩) L.length cap) ∧ L = l.take m ++ l.drop (m + 1) ∧ Kd.R k26 26 w' base (fun _ => True) (.slice (some ⟨gv, 0, none⟩) L.length cap) L ∧ Below base w w' := by
 subst hn
 refine (del_c gv cap m q base l hq hq10 w hR).mono ?_
 rintro e w' ⟨rfl, h1, h2⟩
 have hl : (l.take m ++ l.drop (m + 1)).length = m + q := by rw [List.length_append, List.length_take, List.length_drop]; omega
 exact ⟨_, by rw [hl], rfl, by rw [hl]; exact h1, h2⟩
def connR_ (l : List S26) (p q leg : Int) : List S26 :=
 (l.set p.toNat ⟨(rd_T26 l p).f0, wrap64 (wrap64 ((rd_T26 l p).f1 + (rd_T26 l q).f1) + leg), mx (rd_T26 l p).f2 (rd_T26 l q).f2, wrap64 (wrap64 ((rd_T26 l p).f3 + (rd_T26 l q).f3) + 1)⟩).take q.toNat ++ (l.set p.toNat ⟨(rd_T26 l p).f0, wrap64 (wrap64 ((rd_T26 l p).f1 + (rd_T26 l q).f1) + leg), mx (rd_T26 l p).f2 (rd_T26 l q).f2, wrap64 (wrap64 ((rd_T26 l p).f3 + (rd_T26 l q).f3) + 1)⟩).drop (q.toNat + 1)
def impl_ConnectCaves.f (k : Nat) (l0 : List S26) (a1 a2 : ByteArray) (a3 : Int) : Option (List S26 × Bool) :=
 (impl_caveAt.f k l0 a1).bind fun t => (impl_caveAt.f k l0 a2).bind fun s =>
  if t.2 = true ∧ s.2 = true ∧ t.1 ≠ s.1 ∧ (1 ≤ a3 ∧ a3 ≤ 500) then
   (if 0 ≤ mn t.1 s.1 ∧ mn t.1 s.1 < mx t.1 s.1 ∧ mx t.1 s.1 < (l0.length : Int) ∧ l0.length ≤ 1000000 then
    (impl_AreCaves.f k (connR_ l0 (mn t.1 s.1) (mx t.1 s.1) a3)).bind fun u => if u = true then some (connR_ l0 (mn t.1 s.1) (mx t.1 s.1) a3, true) else some ([], false)
   else none)
  else some ([], false)
theorem within_leg_ (x : Int) : impl_within.f x 1 500 = some (decide (1 ≤ x ∧ x ≤ 500)) := by
 unfold impl_within.f
 by_cases z : x ≥ 1
 ·
  rw [if_pos z]
  simp [show 1 ≤ x from z]
 ·
  rw [if_neg z]
  simp [show ¬ 1 ≤ x from z]
set_option maxHeartbeats 8000000 in
set_option maxRecDepth 100000 in
theorem impl_ConnectCaves.calls (k : Nat) (A0 : Option Addr) (c0 : Nat) (l0 : List S26) (a1 a2 : ByteArray) (a3 : Int) (r1 : List S26) (r2 : Bool) (w : World) (hr0 : Kd.C k26 w A0 l0.length l0) (hc0 : l0.length ≤ c0) (h : impl_ConnectCaves.f k l0 a1 a2 a3 = some (r1, r2)) :
  Calls Tryd.prog 36 #[.slice A0 l0.length c0, .string a1, .string a2, .int .i64 a3] w fun e w' => ∃ v0_ : Value, e = .returned (.tuple #[v0_, .bool r2]) ∧ Kd.R k26 26 w' w.heap.size (fun _ => True) v0_ r1 ∧ Below w.heap.size w w' := by
 unfold impl_ConnectCaves.f at h
 obtain ⟨⟨i, one⟩, e1, h⟩ := Option.bind_eq_some_iff.mp h
 obtain ⟨⟨j, two⟩, e2, h⟩ := Option.bind_eq_some_iff.mp h
 have HR := Aside0.mk hr0
 have E1 := Aside0.mk e1
 have E2 := Aside0.mk e2
 clear hr0 e1 e2
 simp only at h
 cases one with
 | false =>
  rw [if_neg (by intro z; exact absurd z.1 (by decide))] at h
  simp only [Option.some.injEq, Prod.mk.injEq] at h
  obtain ⟨rfl, rfl⟩ := h
  go_enter Tryd.func36, Tryd.ntmps36
  go_wp2_with (first | (go_at_call 66; (with_reducible refine (impl_caveAt.calls k A0 c0 l0 a1 i false _ HR.out hc0 E1.out).mono ?_); rintro e w1 ⟨rfl, hb1⟩; have HB1 := Aside0.mk hb1; clear hb1) | (go_at_call 66; (with_reducible refine (impl_caveAt.calls k A0 c0 l0 a2 j two _ (Kd.C_below HR.out HB1.out) hc0 E2.out).mono ?_); rintro e w2 ⟨rfl, hb2⟩; have HB2 := Aside0.mk (below_step HB1.out hb2); clear hb2))
  go_ret2
  exact ⟨_, rfl, Kd.R_nil _ _ _ _ _, HB2.out⟩
 | true =>
  cases two with
  | false =>
   rw [if_neg (by intro z; exact absurd z.2.1 (by decide))] at h
   simp only [Option.some.injEq, Prod.mk.injEq] at h
   obtain ⟨rfl, rfl⟩ := h
   go_enter Tryd.func36, Tryd.ntmps36
   go_wp2_with (first | (go_at_call 66; (with_reducible refine (impl_caveAt.calls k A0 c0 l0 a1 i true _ HR.out hc0 E1.out).mono ?_); rintro e w1 ⟨rfl, hb1⟩; have HB1 := Aside0.mk hb1; clear hb1) | (go_at_call 66; (with_reducible refine (impl_caveAt.calls k A0 c0 l0 a2 j false _ (Kd.C_below HR.out HB1.out) hc0 E2.out).mono ?_); rintro e w2 ⟨rfl, hb2⟩; have HB2 := Aside0.mk (below_step HB1.out hb2); clear hb2))
   go_ret2
   exact ⟨_, rfl, Kd.R_nil _ _ _ _ _, HB2.out⟩
  | true =>
   by_cases hij : i = j
   ·
    subst hij
    rw [if_neg (by intro z; exact z.2.2.1 rfl)] at h
    simp only [Option.some.injEq, Prod.mk.injEq] at h
    obtain ⟨rfl, rfl⟩ := h
    go_enter Tryd.func36, Tryd.ntmps36
    go_wp2_with (first | (go_at_call 66; (with_reducible refine (impl_caveAt.calls k A0 c0 l0 a1 i true _ HR.out hc0 E1.out).mono ?_); rintro e w1 ⟨rfl, hb1⟩; have HB1 := Aside0.mk hb1; clear hb1) | (go_at_call 66; (with_reducible refine (impl_caveAt.calls k A0 c0 l0 a2 i true _ (Kd.C_below HR.out HB1.out) hc0 E2.out).mono ?_); rintro e w2 ⟨rfl, hb2⟩; have HB2 := Aside0.mk (below_step HB1.out hb2); clear hb2))
    go_ret2
    exact ⟨_, rfl, Kd.R_nil _ _ _ _ _, HB2.out⟩
   ·
    by_cases hleg : 1 ≤ a3 ∧ a3 ≤ 500
    ·
     rw [if_pos ⟨rfl, rfl, hij, hleg⟩] at h
     have hwi := within_leg_ a3
     rw [decide_eq_true hleg] at hwi
     by_cases hb : 0 ≤ mn i j ∧ mn i j < mx i j ∧ mx i j < (l0.length : Int) ∧ l0.length ≤ 1000000
     ·
      rw [if_pos hb] at h
      obtain ⟨u, e3, hu⟩ := Option.bind_eq_some_iff.mp h
      go_enter Tryd.func36, Tryd.ntmps36
      go_upto_region 5 with (first | (go_at_call 66; (with_reducible refine (impl_caveAt.calls k A0 c0 l0 a1 i true _ HR.out hc0 E1.out).mono ?_); rintro e w1 ⟨rfl, hb1⟩; have HB1 := Aside0.mk hb1; clear hb1) | (go_at_call 66; (with_reducible refine (impl_caveAt.calls k A0 c0 l0 a2 j true _ (Kd.C_below HR.out HB1.out) hc0 E2.out).mono ?_); rintro e w2 ⟨rfl, hb2⟩; have HB2 := Aside0.mk (below_step HB1.out hb2); clear hb2) | (go_at_call 57; refine (impl_within.calls a3 1 500 true _ hwi).mono ?_; rintro e w3 ⟨rfl, ⟨n3, rfl⟩⟩; have HB3 := Aside0.mk (pw_below_drewN HB2.out n3)))
      obtain ⟨P, hP⟩ : ∃ P : Nat, mn i j = (P : Int) := ⟨(mn i j).toNat, by omega⟩
      obtain ⟨Q, hQ⟩ : ∃ Q : Nat, mx i j = (Q : Int) := ⟨(mx i j).toNat, by omega⟩
      rw [hP, hQ] at hb
      rw [hP, hQ] at hu e3
      obtain ⟨hb0, hb1, hb2, hb3⟩ := hb
      have hmin : (if j < i then j else i) = (P : Int) := hP
      have hmax : (if i < j then j else i) = (Q : Int) := hQ
      have hPQ : P < Q := by omega
      have hQl : Q < l0.length := by omega
      have hP0 : (0 : Int) ≤ (P : Int) := by omega
      have hP1 : (P : Int) < (l0.length : Int) := by omega
      have hQ0 : (0 : Int) ≤ (Q : Int) := by omega
      have hQ1 : (Q : Int) < (l0.length : Int) := by omega
      clear hb0 hb1 hb2 hwi hleg
      have E3 := Aside0.mk e3
      have HH := Aside0.mk hu
      have HL3 := Aside0.mk hb3
      clear e3 hu hb3
      generalize w2.drewN n3 = W5 at HB3 ⊢
      obtain ⟨ad, e0, hx0, hx1, hx2, hx3⟩ := at_T26 HR.out (P : Int) hP0 hP1
      obtain ⟨ad', e0', hy0, hy1, hy2, hy3⟩ := at_T26 HR.out (Q : Int) hQ0 hQ1
      rw [e0] at e0'
      injection e0' with e0'
      subst e0'
      subst e0
      rw [Int.toNat_natCast] at hx0 hx1 hx2 hx3 hy0 hy1 hy2 hy3
      obtain ⟨X, hX⟩ : ∃ X, X = rd_T26 l0 (P : Int) := ⟨_, rfl⟩
      obtain ⟨Y, hY⟩ : ∃ Y, Y = rd_T26 l0 (Q : Int) := ⟨_, rfl⟩
      rw [← hX] at hx0 hx1 hx2 hx3
      rw [← hY] at hy0 hy1 hy2 hy3
      have HX := Aside0.mk hX
      have HY := Aside0.mk hY
      clear hX hY
      replace hx0 := (HB3.out.cell (World.block_lt_of_cell? w _ hx0)).trans hx0
      replace hx1 := (HB3.out.cell (World.block_lt_of_cell? w _ hx1)).trans hx1
      replace hx2 := (HB3.out.cell (World.block_lt_of_cell? w _ hx2)).trans hx2
      replace hx3 := (HB3.out.cell (World.block_lt_of_cell? w _ hx3)).trans hx3
      replace hy0 := (HB3.out.cell (World.block_lt_of_cell? w _ hy0)).trans hy0
      replace hy1 := (HB3.out.cell (World.block_lt_of_cell? w _ hy1)).trans hy1
      replace hy2 := (HB3.out.cell (World.block_lt_of_cell? w _ hy2)).trans hy2
      replace hy3 := (HB3.out.cell (World.block_lt_of_cell? w _ hy3)).trans hy3
      go_cut [14, 15] (fun v14 v15 wc => ∃ g14 g15 : Nat, v14 = .pointer (some ⟨g14, 0, none⟩) ∧ v15 = .pointer (some ⟨g15, 0, none⟩) ∧ Aside0 (wc.heap[g14]? = some (.cells #[.string X.f0, .int .i64 X.f1, .int .i64 X.f2, .int .i64 X.f3] 26 (0, 0))) ∧ Aside0 (wc.heap[g15]? = some (.cells #[.string Y.f0, .int .i64 Y.f1, .int .i64 Y.f2, .int .i64 Y.f3] 26 (0, 0))) ∧ Aside0 (Below w.heap.size w wc))
      case first =>
       rename_i J0 K0 hJ0 hK0
       have ax0 : ∀ o : Obj, (W5.alloc o).cell? (ad.add (P * 4)) = some (.string X.f0) := fun o => ((below_alloc (Below.refl W5.heap.size W5) o).cell (World.block_lt_of_cell? W5 _ hx0)).trans hx0
       have ax1 : ∀ o : Obj, (W5.alloc o).cell? ⟨(ad.add (P * 4)).block, (ad.add (P * 4)).off + 1, none⟩ = some (.int .i64 X.f1) := fun o => ((below_alloc (Below.refl W5.heap.size W5) o).cell (World.block_lt_of_cell? W5 _ hx1)).trans hx1
       have ax2 : ∀ o : Obj, (W5.alloc o).cell? ⟨(ad.add (P * 4)).block, (ad.add (P * 4)).off + 2, none⟩ = some (.int .i64 X.f2) := fun o => ((below_alloc (Below.refl W5.heap.size W5) o).cell (World.block_lt_of_cell? W5 _ hx2)).trans hx2
       have ax3 : ∀ o : Obj, (W5.alloc o).cell? ⟨(ad.add (P * 4)).block, (ad.add (P * 4)).off + 3, none⟩ = some (.int .i64 X.f3) := fun o => ((below_alloc (Below.refl W5.heap.size W5) o).cell (World.block_lt_of_cell? W5 _ hx3)).trans hx3
       have ay0 : ∀ o : Obj, (W5.alloc o).cell? (ad.add (Q * 4)) = some (.string Y.f0) := fun o => ((below_alloc (Below.refl W5.heap.size W5) o).cell (World.block_lt_of_cell? W5 _ hy0)).trans hy0
       have ay1 : ∀ o : Obj, (W5.alloc o).cell? ⟨(ad.add (Q * 4)).block, (ad.add (Q * 4)).off + 1, none⟩ = some (.int .i64 Y.f1) := fun o => ((below_alloc (Below.refl W5.heap.size W5) o).cell (World.block_lt_of_cell? W5 _ hy1)).trans hy1
       have ay2 : ∀ o : Obj, (W5.alloc o).cell? ⟨(ad.add (Q * 4)).block, (ad.add (Q * 4)).off + 2, none⟩ = some (.int .i64 Y.f2) := fun o => ((below_alloc (Below.refl W5.heap.size W5) o).cell (World.block_lt_of_cell? W5 _ hy2)).trans hy2
       have ay3 : ∀ o : Obj, (W5.alloc o).cell? ⟨(ad.add (Q * 4)).block, (ad.add (Q * 4)).off + 3, none⟩ = some (.int .i64 Y.f3) := fun o => ((below_alloc (Below.refl W5.heap.size W5) o).cell (World.block_lt_of_cell? W5 _ hy3)).trans hy3
       have hb2 : ∀ o o' : Obj, Below W5.heap.size W5 ((W5.alloc o).alloc o') := fun o o' => below_alloc (below_alloc (Below.refl W5.heap.size W5) o) o'
       have bx0 : ∀ o o' : Obj, ((W5.alloc o).alloc o').cell? (ad.add (P * 4)) = some (.string X.f0) := fun o o' => ((hb2 o o').cell (World.block_lt_of_cell? W5 _ hx0)).trans hx0
       have bx1 : ∀ o o' : Obj, ((W5.alloc o).alloc o').cell? ⟨(ad.add (P * 4)).block, (ad.add (P * 4)).off + 1, none⟩ = some (.int .i64 X.f1) := fun o o' => ((hb2 o o').cell (World.block_lt_of_cell? W5 _ hx1)).trans hx1
       have bx2 : ∀ o o' : Obj, ((W5.alloc o).alloc o').cell? ⟨(ad.add (P * 4)).block, (ad.add (P * 4)).off + 2, none⟩ = some (.int .i64 X.f2) := fun o o' => ((hb2 o o').cell (World.block_lt_of_cell? W5 _ hx2)).trans hx2
       have bx3 : ∀ o o' : Obj, ((W5.alloc o).alloc o').cell? ⟨(ad.add (P * 4)).block, (ad.add (P * 4)).off + 3, none⟩ = some (.int .i64 X.f3) := fun o o' => ((hb2 o o').cell (World.block_lt_of_cell? W5 _ hx3)).trans hx3
       have by0 : ∀ o o' : Obj, ((W5.alloc o).alloc o').cell? (ad.add (Q * 4)) = some (.string Y.f0) := fun o o' => ((hb2 o o').cell (World.block_lt_of_cell? W5 _ hy0)).trans hy0
       have by1 : ∀ o o' : Obj, ((W5.alloc o).alloc o').cell? ⟨(ad.add (Q * 4)).block, (ad.add (Q * 4)).off + 1, none⟩ = some (.int .i64 Y.f1) := fun o o' => ((hb2 o o').cell (World.block_lt_of_cell? W5 _ hy1)).trans hy1
       have by2 : ∀ o o' : Obj, ((W5.alloc o).alloc o').cell? ⟨(ad.add (Q * 4)).block, (ad.add (Q * 4)).off + 2, none⟩ = some (.int .i64 Y.f2) := fun o o' => ((hb2 o o').cell (World.block_lt_of_cell? W5 _ hy2)).trans hy2
       have by3 : ∀ o o' : Obj, ((W5.alloc o).alloc o').cell? ⟨(ad.add (Q * 4)).block, (ad.add (Q * 4)).off + 3, none⟩ = some (.int .i64 Y.f3) := fun o o' => ((hb2 o o').cell (World.block_lt_of_cell? W5 _ hy3)).trans hy3
       clear hb2
       go_region_held3 (fun W_ => W_.cell? (ad.add (P * 4)) = some (.string X.f0) ∧ W_.cell? ⟨(ad.add (P * 4)).block, (ad.add (P * 4)).off + 1, none⟩ = some (.int .i64 X.f1) ∧ W_.cell? ⟨(ad.add (P * 4)).block, (ad.add (P * 4)).off + 2, none⟩ = some (.int .i64 X.f2) ∧ W_.cell? ⟨(ad.add (P * 4)).block, (ad.add (P * 4)).off + 3, none⟩ = some (.int .i64 X.f3) ∧ W_.cell? (ad.add (Q * 4)) = some (.string Y.f0) ∧ W_.cell? ⟨(ad.add (Q * 4)).block, (ad.add (Q * 4)).off + 1, none⟩ = some (.int .i64 Y.f1) ∧ W_.cell? ⟨(ad.add (Q * 4)).block, (ad.add (Q * 4)).off + 2, none⟩ = some (.int .i64 Y.f2) ∧ W_.cell? ⟨(ad.add (Q * 4)).block, (ad.add (Q * 4)).off + 3, none⟩ = some (.int .i64 Y.f3)) (first | exact ⟨hx0, hx1, hx2, hx3, hy0, hy1, hy2, hy3⟩ | exact ⟨ax0 _, ax1 _, ax2 _, ax3 _, ay0 _, ay1 _, ay2 _, ay3 _⟩ | exact ⟨bx0 _ _, bx1 _ _, bx2 _ _, bx3 _ _, by0 _ _, by1 _ _, by2 _ _, by3 _ _⟩) (first | fail)
       all_goals (change K0 _ _; refine hK0 _ _ (Met.intro (hJ0 _ _ ?_)); (repeat apply Exists.intro); refine ⟨?_, rfl⟩; first | exact ⟨_, _, rfl, rfl, ⟨blk_alloc (cc_new_ rfl) _⟩, ⟨cc_new_ (heap_size_ _ _)⟩, ⟨below_drew (below_alloc (below_alloc HB3.out _) _)⟩⟩ | exact ⟨_, _, rfl, rfl, ⟨cc_new_ (heap_size_ _ _)⟩, ⟨blk_alloc (cc_new_ rfl) _⟩, ⟨below_drew (below_alloc (below_alloc HB3.out _) _)⟩⟩)
      case rest =>
       obtain ⟨g14, g15, rfl, rfl, B14, B15, BC⟩ := hcut
       obtain ⟨q, hq⟩ : ∃ q, l0.length = Q + 1 + q := ⟨l0.length - (Q + 1), by omega⟩
       have hcl : impl_CaveRow_67.f l0 = some l0 := by
        unfold impl_CaveRow_67.f
        rw [if_pos (by have := HL3.out; omega)]
       have HCL := Aside0.mk hcl
       have HQL := Aside0.mk hQl
       have HPQ := Aside0.mk hPQ
       have HQQ := Aside0.mk hq
       have HPL := Aside0.mk (show P < l0.length from by omega)
       clear hcl hq hQl hPQ hx0 hx1 hx2 hx3 hy0 hy1 hy2 hy3 hij
       obtain ⟨Z, hZ⟩ : ∃ Z, (if X.f2 < Y.f2 then Y.f2 else X.f2) = Z := ⟨_, rfl⟩
       have HZ := Aside0.mk hZ
       have hwq : IntKind.i64.wrap ((Q : Int) + 1) = (Q : Int) + 1 := by rw [i64_w]; have h1 := HL3.out; have h2 := HQL.out; unfold wrap64; omega
       go_wp2_with (first | (go_at_call 67; (with_reducible refine (impl_CaveRow_67.calls (some ad) c0 l0 l0 _ (Kd.C_below HR.out BC.out) hc0 HCL.out).mono ?_); rintro e w6 ⟨v, rfl, hR6, hb6⟩; obtain ⟨gv, cap, hv, hcap, hgv⟩ := cc_own_ hR6 (by have := HPL.out; omega); subst hv; obtain ⟨ce, hcel, hM, hcc, hfr⟩ := Kd.R_elem hR6 z26 (P : Int) hP0 hP1; obtain rfl := k26_openM hM; have hseg := (Kd.R_seg hR6 (P : Int) hP0 hP1 (seg := [.string X.f0, .int .i64 (wrap64 (wrap64 (X.f1 + Y.f1) + a3)), .int .i64 Z, .int .i64 (wrap64 (wrap64 (X.f3 + Y.f3) + 1))]) (j := 0) hcel hcc (show 4 ≤ 4 from by decide) (x' := (⟨X.f0, wrap64 (wrap64 (X.f1 + Y.f1) + a3), Z, wrap64 (wrap64 (X.f3 + Y.f3) + 1)⟩ : S26)) (k26_mkM _ _ _ (⟨X.f0, wrap64 (wrap64 (X.f1 + Y.f1) + a3), Z, wrap64 (wrap64 (X.f3 + Y.f3) + 1)⟩ : S26)) (fun _ hk => hk)).1; rw [Int.toNat_natCast] at hcc hfr hseg; have HSEG : Aside0 (Kd.R k26 26 ((((w6.setCell ⟨gv, P * 4, none⟩ (.string X.f0)).setCell ⟨gv, P * 4 + 1, none⟩ (.int .i64 (wrap64 (wrap64 (X.f1 + Y.f1) + a3)))).setCell ⟨gv, P * 4 + 2, none⟩ (.int .i64 Z)).setCell ⟨gv, P * 4 + 3, none⟩ (.int .i64 (wrap64 (wrap64 (X.f3 + Y.f3) + 1)))) wc.heap.size (fun _ => True) (.slice (some ⟨gv, 0, none⟩) l0.length cap) (l0.set P (⟨X.f0, wrap64 (wrap64 (X.f1 + Y.f1) + a3), Z, wrap64 (wrap64 (X.f3 + Y.f3) + 1)⟩ : S26))) := ⟨hseg⟩; clear hseg; have m0 : w6.cell? ⟨gv, P * 4, none⟩ = _ := hcc 0 _ rfl; have m1 : w6.cell? ⟨gv, P * 4 + 1, none⟩ = _ := hcc 1 _ rfl; have m2 : w6.cell? ⟨gv, P * 4 + 2, none⟩ = _ := hcc 2 _ rfl; have m3 : w6.cell? ⟨gv, P * 4 + 3, none⟩ = _ := hcc 3 _ rfl; have n0 : w6.frozen? ⟨gv, P * 4, none⟩ = false := hfr 0; have n1 : w6.frozen? ⟨gv, P * 4 + 1, none⟩ = false := hfr 1; have n2 : w6.frozen? ⟨gv, P * 4 + 2, none⟩ = false := hfr 2; have n3' : w6.frozen? ⟨gv, P * 4 + 3, none⟩ = false := hfr 3; have b14 := blk_below B14.out hb6; have b15 := blk_below B15.out hb6; have s0 : w6.cell? ⟨g14, 0, none⟩ = some (.string X.f0) := (blk_cell b14 0).trans rfl; have s1 : w6.cell? ⟨g14, 1, none⟩ = some (.int .i64 X.f1) := (blk_cell b14 1).trans rfl; have s2 : w6.cell? ⟨g14, 2, none⟩ = some (.int .i64 X.f2) := (blk_cell b14 2).trans rfl; have s3 : w6.cell? ⟨g14, 3, none⟩ = some (.int .i64 X.f3) := (blk_cell b14 3).trans rfl; have u1 : w6.cell? ⟨g15, 1, none⟩ = some (.int .i64 Y.f1) := (blk_cell b15 1).trans rfl; have u2 : w6.cell? ⟨g15, 2, none⟩ = some (.int .i64 Y.f2) := (blk_cell b15 2).trans rfl; have u3 : w6.cell? ⟨g15, 3, none⟩ = some (.int .i64 Y.f3) := (blk_cell b15 3).trans rfl; have HR6 := Aside0.mk hR6; have HB6 := Aside0.mk (below_step BC.out hb6); have HG6 := Aside0.mk (Nat.le_trans BC.out.size hgv); clear hcc hfr hM hcel hR6 hb6 hgv b14 b15) | (go_at_call 69; (with_reducible refine (del_n gv cap Q q wc.heap.size l0.length (l0.set P (⟨X.f0, wrap64 (wrap64 (X.f1 + Y.f1) + a3), Z, wrap64 (wrap64 (X.f3 + Y.f3) + 1)⟩ : S26)) (List.length_set ..) HQQ.out HL3.out _ HSEG.out).mono ?_); rintro e w8 ⟨L, rfl, hL, hR8, hb8⟩; have HL8 := Aside0.mk hL; have HR8 := Aside0.mk hR8; have HB8 := Aside0.mk (((below_set (below_set (below_set (below_set HB6.out HG6.out) HG6.out) HG6.out) HG6.out : Below w.heap.size w ((((w6.setCell ⟨gv, P * 4, none⟩ (.string X.f0)).setCell ⟨gv, P * 4 + 1, none⟩ (.int .i64 (wrap64 (wrap64 (X.f1 + Y.f1) + a3)))).setCell ⟨gv, P * 4 + 2, none⟩ (.int .i64 Z)).setCell ⟨gv, P * 4 + 3, none⟩ (.int .i64 (wrap64 (wrap64 (X.f3 + Y.f3) + 1)))))).trans (hb8.mono BC.out.size)); have E8 : Aside0 (impl_AreCaves.f k L = some u) := ⟨by rw [hL]; have e3 := E3.out; unfold connR_ at e3; rw [Int.toNat_natCast, Int.toNat_natCast, ← HX.out, ← HY.out] at e3; rw [← HZ.out]; exact e3⟩; clear hL hR8 hb8) | (go_at_call 22; (with_reducible refine (impl_AreCaves.calls k (some ⟨gv, 0, none⟩) cap L u _ (Kd.R_reads' HR8.out).2.2 (Kd.R_reads' HR8.out).2.1 E8.out).mono ?_); rintro e w9 ⟨rfl, hb9⟩; have HR9 := Aside0.mk (Kd.R_below HR8.out hb9); have HB9 := Aside0.mk (below_step HB8.out hb9); clear hb9))
       all_goals (have hh := HH.out; have hLc : L = connR_ l0 (P : Int) (Q : Int) a3 := (by rw [HL8.out]; unfold connR_; rw [Int.toNat_natCast, Int.toNat_natCast, ← HX.out, ← HY.out, ← HZ.out]; rfl))
       all_goals cases u
       all_goals first | (exfalso; simp_all; done) | (rw [if_pos rfl] at hh; simp only [Option.some.injEq, Prod.mk.injEq] at hh; obtain ⟨rfl, rfl⟩ := hh; go_ret2; exact ⟨_, rfl, by rw [← hLc]; exact Kd.R_lower HR9.out BC.out.size, HB9.out⟩) | (rw [if_neg (by decide)] at hh; simp only [Option.some.injEq, Prod.mk.injEq] at hh; obtain ⟨rfl, rfl⟩ := hh; go_ret2; exact ⟨_, rfl, Kd.R_nil _ _ _ _ _, HB9.out⟩)
     ·
      rw [if_neg hb] at h
      cases h
    ·
     rw [if_neg (by intro z; exact hleg z.2.2.2)] at h
     have hwi := within_leg_ a3
     rw [decide_eq_false hleg] at hwi
     simp only [Option.some.injEq, Prod.mk.injEq] at h
     obtain ⟨rfl, rfl⟩ := h
     go_enter Tryd.func36, Tryd.ntmps36
     go_wp2_with (first | (go_at_call 66; (with_reducible refine (impl_caveAt.calls k A0 c0 l0 a1 i true _ HR.out hc0 E1.out).mono ?_); rintro e w1 ⟨rfl, hb1⟩; have HB1 := Aside0.mk hb1; clear hb1) | (go_at_call 66; (with_reducible refine (impl_caveAt.calls k A0 c0 l0 a2 j true _ (Kd.C_below HR.out HB1.out) hc0 E2.out).mono ?_); rintro e w2 ⟨rfl, hb2⟩; have HB2 := Aside0.mk (below_step HB1.out hb2); clear hb2) | (go_at_call 57; refine (impl_within.calls a3 1 500 false _ hwi).mono ?_; rintro e w3 ⟨rfl, ⟨n3, rfl⟩⟩; have HB3 := Aside0.mk (pw_below_drewN HB2.out n3)))
     go_ret2
     exact ⟨_, rfl, Kd.R_nil _ _ _ _ _, HB3.out⟩
def insB {α : Type} (lt : α → α → Bool) (x : α) : List α → List α
 | [] => [x]
 | y :: ys => if lt x y = true then y :: insB lt x ys else x :: y :: ys
theorem insB_len {α : Type} (lt : α → α → Bool) (x : α) : ∀ R : List α, (insB lt x R).length = R.length + 1
 | [] => rfl
 | y :: ys => by
  unfold insB
  split
  ·
   rw [List.length_cons, insB_len lt x ys, List.length_cons]
  ·
   rfl
theorem insB_mem {α : Type} {lt : α → α → Bool} {x z : α} : ∀ {R : List α}, z ∈ insB lt x R ↔ z = x ∨ z ∈ R
 | [] => by simp [insB]
 | y :: ys => by
  unfold insB
  split
  ·
   rw [List.mem_cons, insB_mem, List.mem_cons]
   constructor
   ·
    rintro (h | h | h)
    ·
     exact .inr (.inl h)
    ·
     exact .inl h
    ·
     exact .inr (.inr h)
   ·
    rintro (h | h | h)
    ·
     exact .inr (.inl h)
    ·
     exact .inl h
    ·
     exact .inr (.inr h)
  ·
   rw [List.mem_cons]
theorem insB_congr {α : Type} {lt lt' : α → α → Bool} {x : α} : ∀ {R : List α}, (∀ y, y ∈ R → lt x y = lt' x y) → insB lt x R = insB lt' x R
 | [], _ => rfl
 | y :: ys, h => by
  unfold insB
  rw [h y (List.mem_cons_self ..), insB_congr (fun z hz => h z (List.mem_cons_of_mem _ hz))]
theorem arr_get {α : Type} [Inhabited α] (pre post : List α) (x : α) (i : Nat) (h : pre.length = i) : (pre ++ x :: post).toArray[i]! = x := by
 simp [← h]
theorem arr_swp {α : Type} [Inhabited α] (pre post : List α) (x y : α) (i : Nat) (h : pre.length = i) : Sort.swp (pre ++ y :: x :: post).toArray (i + 1) i = (pre ++ x :: y :: post).toArray := by
 unfold Sort.swp
 have e1 : (pre ++ y :: x :: post).toArray[i]! = y := arr_get pre (x :: post) y i h
 have e2 : (pre ++ y :: x :: post).toArray[i + 1]! = x := by
  have := arr_get (pre ++ [y]) post x (i + 1) (by simp [h])
  simpa using this
 rw [e1, e2]
 subst h
 simp
theorem insInner_eq {α : Type} [Inhabited α] (lt : α → α → Bool) : ∀ (R : List α) (x : α) (post : List α), Sort.insInner lt 0 R.length (R.reverse ++ x :: post).toArray = ((insB lt x R).reverse ++ post).toArray
 | [], x, post => by simp [Sort.insInner, insB]
 | y :: ys, x, post => by
  have hd : (y :: ys).reverse ++ x :: post = ys.reverse ++ y :: x :: post := by simp
  have e1 : (ys.reverse ++ y :: x :: post).toArray[ys.length]! = y := arr_get ys.reverse (x :: post) y _ (by simp)
  have e2 : (ys.reverse ++ y :: x :: post).toArray[ys.length + 1]! = x := by
   simp
  rw [hd, List.length_cons]
  simp only [Sort.insInner]
  rw [e1, e2]
  unfold insB
  by_cases c : lt x y = true
  ·
   rw [if_pos (by simp [c]), if_pos c, arr_swp ys.reverse post x y ys.length (by simp), insInner_eq lt ys x (y :: post)]
   simp
  ·
   rw [if_neg (by simp [c]), if_neg c]
   simp
theorem insOuter_eq {α : Type} [Inhabited α] (lt : α → α → Bool) : ∀ (todo R : List α), Sort.insOuter lt 0 (R.length + todo.length) R.length (R.reverse ++ todo).toArray = ((todo.foldl (fun R x => insB lt x R) R).reverse).toArray
 | [], R => by
  unfold Sort.insOuter
  rw [if_neg (by simp)]
  simp
 | x :: xs, R => by
  unfold Sort.insOuter
  rw [if_pos (by simp), insInner_eq lt R x xs]
  have := insOuter_eq lt xs (insB lt x R)
  rw [insB_len] at this
  rw [List.foldl_cons, ← this, List.length_cons]
  congr 1
  omega
def ranked {α : Type} (lt : α → α → Bool) (l : List α) : List α := (l.foldl (fun R x => insB lt x R) []).reverse
theorem insertionSort_eq {α : Type} [Inhabited α] (lt : α → α → Bool) (l : List α) : Sort.insertionSort lt l.toArray 0 l.length = (ranked lt l).toArray := by
 unfold Sort.insertionSort ranked
 cases l with
 | nil =>
  unfold Sort.insOuter
  rw [if_neg (by simp)]
  rfl
 | cons x xs =>
  have := insOuter_eq lt xs [x]
  rw [List.length_singleton] at this
  rw [List.length_cons, Nat.add_comm xs.length 1]
  simpa [insB] using this
theorem foldB_len {α : Type} (lt : α → α → Bool) : ∀ (l R : List α), (l.foldl (fun R x => insB lt x R) R).length = R.length + l.length
 | [], R => rfl
 | x :: xs, R => by
  rw [List.foldl_cons, foldB_len lt xs, insB_len, List.length_cons]
  omega
theorem ranked_len {α : Type} (lt : α → α → Bool) (l : List α) : (ranked lt l).length = l.length := by
 unfold ranked
 rw [List.length_reverse, foldB_len]
 simp
theorem foldB_mem {α : Type} {lt : α → α → Bool} {z : α} : ∀ {l R : List α}, z ∈ l.foldl (fun R x => insB lt x R) R ↔ z ∈ R ∨ z ∈ l
 | [], R => by simp
 | x :: xs, R => by
  rw [List.foldl_cons, foldB_mem, insB_mem, List.mem_cons]
  constructor
  ·
   rintro ((h | h) | h)
   ·
    exact .inr (.inl h)
   ·
    exact .inl h
   ·
    exact .inr (.inr h)
  ·
   rintro (h | h | h)
   ·
    exact .inl (.inr h)
   ·
    exact .inl (.inl h)
   ·
    exact .inr h
theorem ranked_mem {α : Type} {lt : α → α → Bool} {z : α} {l : List α} : z ∈ ranked lt l ↔ z ∈ l := by
 unfold ranked
 rw [List.mem_reverse, foldB_mem]
 simp
def posB {α : Type} (lt : α → α → Bool) (x : α) : List α → Nat
 | [] => 0
 | y :: ys => if lt x y = true then posB lt x ys else ys.length + 1
theorem posB_ins {α : Type} (lt : α → α → Bool) (x : α) : ∀ (R tail : List α), (R.reverse ++ tail).take (posB lt x R) ++ x :: (R.reverse ++ tail).drop (posB lt x R) = (insB lt x R).reverse ++ tail
 | [], tail => by simp [posB, insB]
 | y :: ys, tail => by
  have hd : (y :: ys).reverse ++ tail = ys.reverse ++ y :: tail := by simp
  unfold posB insB
  by_cases c : lt x y = true
  ·
   rw [if_pos c, if_pos c, hd, posB_ins lt x ys (y :: tail)]
   simp
  ·
   rw [if_neg c, if_neg c]
   have hl : ((y :: ys).reverse).length = ys.length + 1 := by simp
   rw [List.take_append_of_le_length (by omega), List.take_of_length_le (by omega), List.drop_append_of_le_length (by omega), List.drop_of_length_le (by omega)]
   simp
end Go.Proofs.YteepnlofbfccgaaDoor.Pr

