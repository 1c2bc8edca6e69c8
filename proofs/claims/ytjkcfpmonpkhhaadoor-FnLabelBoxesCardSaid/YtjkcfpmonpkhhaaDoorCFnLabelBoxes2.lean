/-
What is proved: parts of the law FnLabelBoxes: what the functions that it reaches compute, and the plain law.
Conditions: those of each theorem.
-/
import Derived.Test.YtjkcfpmonpkhhaaDoorCFnLabelBoxes1
namespace Go.Proofs.YtjkcfpmonpkhhaaDoor.Pr
open Go.RowKit Go.Proofs.YtjkcfpmonpkhhaaDoorW.PrintWords Go.Proofs.YtjkcfpmonpkhhaaDoorW.PrintLast Go.Proofs.YtjkcfpmonpkhhaaDoorW.PrintMore
attribute [local go_sem] max2_int min2_int max_two min_two max_three min_three max_four min_four   -- for this text's walks alone
set_option linter.unusedVariables false
set_option linter.unusedSimpArgs false
def slices_CloneInt.f (l0 : List Int) : Option (List Int) := if l0.length ≤ 1000000 then some l0 else none
set_option maxHeartbeats 4000000 in
set_option maxRecDepth 100000 in
theorem slices_CloneInt.calls (A0 : Option Addr) (c0 : Nat) (l0 : List Int) (r : List Int) (w : World) (hr0 : Kd.C (Kd.int .i64) w A0 l0.length l0) (hc0 : l0.length ≤ c0) (h : slices_CloneInt.f l0 = some r) :
  Calls Tryd.prog 103 #[.slice A0 l0.length c0] w fun e w' => ∃ v0_ : Value, e = .returned (v0_) ∧ Kd.R (Kd.int .i64) 3 w' w.heap.size (fun _ => True) v0_ r ∧ Below w.heap.size w w' := by
 unfold slices_CloneInt.f at h
 by_cases hl : l0.length ≤ 1000000
 ·
  rw [if_pos hl] at h
  obtain rfl := Option.some.inj h
  have HR := Aside0.mk hr0
  clear hr0
  cases A0 with
  | none =>
   have hn : l0 = [] := by
    rcases Nat.eq_zero_or_pos l0.length with h0 | h0
    ·
     exact List.length_eq_zero_iff.1 h0
    ·
     obtain ⟨ad, e, _⟩ := HR.out.2.2 h0
     cases e
   subst hn
   have hq : ∀ w, Sem.run Tryd.prog (binOp .eql 40 (.slice none 0 c0) (.slice none 0 0)) w = .ok (.bool true) w := fun w => by rfl
   go_enter Tryd.func103, Tryd.ntmps103
   go_wp2
   go_ret
   exact ⟨_, rfl, Kd.R_nil _ _ _ _ _, Below.refl _ _⟩
  | some ad =>
   have hq : ∀ w, Sem.run Tryd.prog (binOp .eql 40 (.slice (some ad) l0.length c0) (.slice none 0 0)) w = .ok (.bool false) w := fun w => by rfl
   go_enter Tryd.func103, Tryd.ntmps103
   go_wp2_with (first | ((with_reducible refine gate_dst (N := 5) rfl ?_); refine Kd.R_lit (Kd.int .i64) _ 3 ?hg (N := 5) ?hd (xs := []) (inner := []) (ok := fun _ => True) (okp := fun _ => True) ?hr ?hp (fun _ hk => hk) trivial (Below.refl _ _) (Nat.le_refl _) (by simp) ?_; (case hd => rfl); (case hg => rfl); (case hr => first | (go_simp; done) | (go_simp; rfl)); (case hp => exact (Reps.none _ _)); intro v5 w4 ho5 hb5 hg_ hnew_; clear hg_ hnew_; have HO5 := Aside0.mk ho5; have HB5 := Aside0.mk hb5; clear ho5 hb5) | ((with_reducible refine gate_builtin (b := .append) (xs := #[.tmp 5, .tmp 6]) rfl ?_); at_builtin; refine Kd.R_append_rows (Kd.int .i64) (w0 := w) w.heap.size rfl (.tmp 5) (.tmp 6) 40 3 (.int .i64 0) 8 rfl Tryd.underlying40 info3 rfl (by decide) (by omega) v5 [] l0 (some ad) _ _ (fun _ => True) (fun _ => False) rfl rfl HO5.out (Kd.C_below HR.out HB5.out) (fun _ _ h => h) (fun _ h => h.elim) (fun _ _ => trivial) HB5.out (below_size HB5.out) (by simp; omega) ?_; intro v7 w7 ho7 hb7 hg7 hat7; have HO7 := Aside0.mk ho7; have HB7 := Aside0.mk hb7; clear ho7 hb7 hg7 hat7))
   go_ret
   exact ⟨_, rfl, HO7.out, HB7.out⟩
 ·
  rw [if_neg hl] at h
  cases h
def resB_ (ct : Bool) (ps : List (List Int)) : Bool := ct || ps.isEmpty
def resY_ (ct : Bool) (ps : List (List Int)) : List (List Int) := match ct with
 | true => ps
 | false => ps.take 1
theorem res_go_ {ct : Bool} {ys acc pa : List (List Int)} (h : ct = true ∨ ys ++ acc = []) (hb : resB_ ct pa = true) : resY_ ct pa = pa ∧ (ct = true ∨ ys ++ (acc ++ pa) = []) := by
 cases ct with
 | true => exact ⟨rfl, .inl rfl⟩
 | false =>
  have h1 := h.resolve_left (by decide)
  have h2 : pa = [] := by simpa [resB_] using hb
  subst h2
  exact ⟨rfl, .inr (by simpa using h1)⟩
theorem res_stop_ {ct : Bool} {ys acc pa : List (List Int)} (h : ct = true ∨ ys ++ acc = []) (hb : resB_ ct pa = false) (rest : List (List Int)) : resB_ ct (acc ++ (pa ++ rest)) = false ∧ ys ++ resY_ ct (acc ++ (pa ++ rest)) = ys ++ acc ++ resY_ ct pa := by
 cases ct with
 | true => cases hb
 | false =>
  have h1 := List.append_eq_nil_iff.1 (h.resolve_left (by decide))
  obtain ⟨rfl, rfl⟩ := h1
  cases pa with
  | nil => cases hb
  | cons p t => exact ⟨rfl, rfl⟩
def hitB_ (l0 : List S26) (b0 b1 b2 b3 : Int) : Option Bool :=
 if l0.all (fun x => (impl_meet.f b0 b1 b2 b3 x.f0 x.f1 x.f2 x.f3).isSome) = true then some (l0.any fun x => (impl_meet.f b0 b1 b2 b3 x.f0 x.f1 x.f2 x.f3).getD false) else none
def plc_ (l : List S29) (idx : List Int) : Nat → List Int → List S26 → Option (List (List Int))
 | 0, ways, _ => some [ways]
 | m + 1, ways, boxes => if 0 ≤ rd idx (ways.length : Int) ∧ rd idx (ways.length : Int) < (l.length : Int) then
   catM_ (fun way => (impl_boxFor.f (rd_T29 l (rd idx (ways.length : Int))).f0 (rd_T29 l (rd idx (ways.length : Int))).f1 (rd_T29 l (rd idx (ways.length : Int))).f2 way).bind fun b =>
    (impl_free.f l b.1 b.2.1 b.2.2.1 b.2.2.2).bind fun fr => if fr = true then (hitB_ boxes b.1 b.2.1 b.2.2.1 b.2.2.2).bind fun hit => if hit = true then some [] else plc_ l idx m (ways ++ [way]) (boxes ++ [⟨b.1, b.2.1, b.2.2.1, b.2.2.2⟩]) else some []) [0, 1, 2, 3]
  else none
set_option maxHeartbeats 4000000 in
theorem place11_ (gb : Nat) (b0 b1 b2 b3 : Int) (a0 a1 a2 a3 : Int) (r : Bool) (w : World) (hb : w.heap[gb]? = some (.cells #[.int .i64 b0, .int .i64 b1, .int .i64 b2, .int .i64 b3] 26 (0, 0))) (h : impl_meet.f b0 b1 b2 b3 a0 a1 a2 a3 = some r) :
  Calls Tryd.prog 104 (#[.agg #[.int .i64 a0, .int .i64 a1, .int .i64 a2, .int .i64 a3]] ++ #[.pointer (some ⟨gb, 0, none⟩)]) w fun e w' => e = .returned (.bool r) ∧ Below w.heap.size w w' := by
 show Calls Tryd.prog 104 #[.agg #[.int .i64 a0, .int .i64 a1, .int .i64 a2, .int .i64 a3], .pointer (some ⟨gb, 0, none⟩)] w _
 have h0 : w.cell? ⟨gb, 0, none⟩ = some (.int .i64 b0) := (blk_cell hb 0).trans rfl
 have h1 : w.cell? ⟨gb, 1, none⟩ = some (.int .i64 b1) := (blk_cell hb 1).trans rfl
 have h2 : w.cell? ⟨gb, 2, none⟩ = some (.int .i64 b2) := (blk_cell hb 2).trans rfl
 have h3 : w.cell? ⟨gb, 3, none⟩ = some (.int .i64 b3) := (blk_cell hb 3).trans rfl
 have hB := below_alloc (Below.refl w.heap.size w) (.cells #[.int .i64 a0, .int .i64 a1, .int .i64 a2, .int .i64 a3] 26)
 replace h0 := (hB.cell (World.block_lt_of_cell? w _ h0)).trans h0
 replace h1 := (hB.cell (World.block_lt_of_cell? w _ h1)).trans h1
 replace h2 := (hB.cell (World.block_lt_of_cell? w _ h2)).trans h2
 replace h3 := (hB.cell (World.block_lt_of_cell? w _ h3)).trans h3
 clear hb
 go_enter Tryd.func104, Tryd.ntmps104
 go_wp2_with (go_at_call 70; refine (impl_meet.calls b0 b1 b2 b3 a0 a1 a2 a3 r _ h).mono ?_; rintro e w' ⟨rfl, hb⟩)
 go_ret
 exact ⟨rfl, below_step hB hb⟩
set_option maxRecDepth 100000 in
theorem hit_calls (A0 : Option Addr) (c0 : Nat) (l0 : List S26) (b0 b1 b2 b3 : Int) (r : Bool) (w : World) (hr0 : Kd.C k26 w A0 l0.length l0) (hc0 : l0.length ≤ c0) (h : hitB_ l0 b0 b1 b2 b3 = some r) {gb : Nat} (hbx : w.heap[gb]? = some (.cells #[.int .i64 b0, .int .i64 b1, .int .i64 b2, .int .i64 b3] 26 (0, 0))) :
  Calls Tryd.prog 68 #[.slice A0 l0.length c0, .func (.func 104) #[] #[.pointer (some ⟨gb, 0, none⟩)]] w fun e w' => e = .returned (.bool r) ∧ Below w.heap.size w w' := by
 unfold hitB_ at h
 by_cases c5 : l0.all (fun x => (impl_meet.f b0 b1 b2 b3 x.f0 x.f1 x.f2 x.f3).isSome) = true
 ·
  rw [if_pos c5] at h
  obtain rfl := Option.some.inj h
  exact cont_Box.calls (fun x => (impl_meet.f b0 b1 b2 b3 x.f0 x.f1 x.f2 x.f3).getD false) 104 #[.pointer (some ⟨gb, 0, none⟩)] (fun _ _ => rfl) A0 c0 l0 w hr0 hc0 (fun W' x hx hW' => by
   obtain ⟨b, hb⟩ := Option.isSome_iff_exists.1 (List.all_eq_true.1 c5 x hx)
   rw [hb]
   refine (place11_ gb b0 b1 b2 b3 x.f0 x.f1 x.f2 x.f3 b W' (blk_below hbx hW') hb).mono ?_
   rintro e w'' ⟨rfl, hb2⟩
   exact ⟨rfl, below_step hW' hb2⟩)
 ·
  rw [if_neg c5] at h
  cases h
def place3.T : Bool × List (List Nat × List Nat) := (true, [([], []), ([], []), ([1], [1]), ([0, 2, 2], [0, 2]), ([3, 3, 0, 1, 2, 3], [3])])
def place3.B : List Nat := [0, 0, 2, 7, 15]
theorem place3.tab : rtab .any (opsOf Tryd.f102 3) = place3.T := by kernel_rfl
theorem place3.bits : waitsOk place3.T.2 place3.B = true := by kernel_rfl
abbrev place3.mkE : Array Bool := #[false, false, false, false, false]
abbrev place3.mk0 : Array Bool := #[true, false, false, false, false]
abbrev place3.mk0_1 : Array Bool := #[true, true, false, false, false]
abbrev place3.mk0_1_2 : Array Bool := #[true, true, true, false, false]
abbrev place3.mk0_1_2_3 : Array Bool := #[true, true, true, true, false]
abbrev place3.mk0_1_2_3_4 : Array Bool := #[true, true, true, true, true]
def place7.T : Bool × List (List Nat × List Nat) := (true, [([], []), ([], []), ([], []), ([1, 2], [1, 2]), ([3], [3]), ([0, 4], [0, 4]), ([5], [5]), ([], []), ([6, 7], [6, 7]), ([], []), ([9, 8, 8, 0, 1, 2, 3, 4, 5, 6, 7, 8, 9], [8, 9])])
def place7.B : List Nat := [0, 0, 0, 6, 14, 31, 63, 0, 255, 0, 1023]
theorem place7.tab : rtab .any (opsOf Tryd.f102 7) = place7.T := by kernel_rfl
theorem place7.bits : waitsOk place7.T.2 place7.B = true := by kernel_rfl
abbrev place7.mkE : Array Bool := #[fF,fF,fF,fF,fF,fF,fF,fF,fF,fF,fF]
abbrev place7.mk2 : Array Bool := #[fF,fF,tT,fF,fF,fF,fF,fF,fF,fF,fF]
abbrev place7.mk2_7 : Array Bool := #[fF,fF,tT,fF,fF,fF,fF,tT,fF,fF,fF]
abbrev place7.mk0_2_7 : Array Bool := #[tT,fF,tT,fF,fF,fF,fF,tT,fF,fF,fF]
abbrev place7.mk0_1_2_7 : Array Bool := #[tT,tT,tT,fF,fF,fF,fF,tT,fF,fF,fF]
abbrev place7.mk0_1_2_3_7 : Array Bool := #[tT,tT,tT,tT,fF,fF,fF,tT,fF,fF,fF]
abbrev place7.mk0_1_2_3_4_7 : Array Bool := #[tT,tT,tT,tT,tT,fF,fF,tT,fF,fF,fF]
abbrev place7.mk0_1_2_3_4_5_7 : Array Bool := #[tT,tT,tT,tT,tT,tT,fF,tT,fF,fF,fF]
abbrev place7.mk0_1_2_3_4_5_6_7 : Array Bool := #[tT,tT,tT,tT,tT,tT,tT,tT,fF,fF,fF]
abbrev place7.mk0_1_2_3_4_5_6_7_8_9 : Array Bool := #[tT,tT,tT,tT,tT,tT,tT,tT,tT,tT,fF]
abbrev place7.mk0_1_2_3_4_5_6_7_8 : Array Bool := #[tT,tT,tT,tT,tT,tT,tT,tT,tT,fF,fF]
abbrev place7.mk0_1_2_3_4_5_6_7_9 : Array Bool := #[tT,tT,tT,tT,tT,tT,tT,tT,fF,tT,fF]
abbrev place7.mk0_1_2_3_4_5_6_7_8_9_10 : Array Bool := #[tT,tT,tT,tT,tT,tT,tT,tT,tT,tT,tT]
def place9.T : Bool × List (List Nat × List Nat) := (true, [([], []), ([], []), ([1], [1]), ([0, 2], [0, 2]), ([], []), ([], []), ([5], [5]), ([4, 6, 3], [4, 6]), ([3, 7, 0, 1, 2, 3], [3]), ([7, 8, 0, 1, 2, 3, 4, 5, 6, 7, 8], [7])])
def place9.B : List Nat := [0, 0, 2, 7, 0, 0, 32, 127, 255, 511]
theorem place9.tab : rtab .any (opsOf Tryd.f102 9) = place9.T := by kernel_rfl
theorem place9.bits : waitsOk place9.T.2 place9.B = true := by kernel_rfl
abbrev place9.mkE : Array Bool := #[fF,fF,fF,fF,fF,fF,fF,fF,fF,fF]
abbrev place9.mk1 : Array Bool := #[fF,tT,fF,fF,fF,fF,fF,fF,fF,fF]
abbrev place9.mk0_1 : Array Bool := #[tT,tT,fF,fF,fF,fF,fF,fF,fF,fF]
abbrev place9.mk0_1_4 : Array Bool := #[tT,tT,fF,fF,tT,fF,fF,fF,fF,fF]
abbrev place9.mk0_1_4_5 : Array Bool := #[tT,tT,fF,fF,tT,tT,fF,fF,fF,fF]
abbrev place9.mk0_1_2_3_4_5_6 : Array Bool := #[tT,tT,tT,tT,tT,tT,tT,fF,fF,fF]
abbrev place9.mk0_1_2_4_5 : Array Bool := #[tT,tT,tT,fF,tT,tT,fF,fF,fF,fF]
abbrev place9.mk0_1_4_5_6 : Array Bool := #[tT,tT,fF,fF,tT,tT,tT,fF,fF,fF]
abbrev place9.mk0_1_2_3_4_5 : Array Bool := #[tT,tT,tT,tT,tT,tT,fF,fF,fF,fF]
abbrev place9.mk0_1_2_4_5_6 : Array Bool := #[tT,tT,tT,fF,tT,tT,tT,fF,fF,fF]
abbrev place9.mk0_1_2_3_4_5_6_7 : Array Bool := #[tT,tT,tT,tT,tT,tT,tT,tT,fF,fF]
abbrev place9.mk0_1_2_3_4_5_6_7_8 : Array Bool := #[tT,tT,tT,tT,tT,tT,tT,tT,tT,fF]
abbrev place9.mk0_1_2_3_4_5_6_7_8_9 : Array Bool := #[tT,tT,tT,tT,tT,tT,tT,tT,tT,tT]
def place11.T : Bool × List (List Nat × List Nat) := (true, [([], []), ([], []), ([0, 1], [0, 1]), ([], []), ([], []), ([3, 4], [3, 4]), ([2, 0, 1, 2], [2]), ([5, 6, 0, 1, 2, 3, 4, 5, 6], [5])])
def place11.B : List Nat := [0, 0, 3, 0, 0, 24, 7, 127]
theorem place11.tab : rtab .any (opsOf Tryd.f102 11) = place11.T := by kernel_rfl
theorem place11.bits : waitsOk place11.T.2 place11.B = true := by kernel_rfl
abbrev place11.mkE : Array Bool := #[fF,fF,fF,fF,fF,fF,fF,fF]
abbrev place11.mk1 : Array Bool := #[fF,tT,fF,fF,fF,fF,fF,fF]
abbrev place11.mk1_4 : Array Bool := #[fF,tT,fF,fF,tT,fF,fF,fF]
abbrev place11.mk0_1_2_3_4_5_6 : Array Bool := #[tT,tT,tT,tT,tT,tT,tT,fF]
abbrev place11.mk0_1_4 : Array Bool := #[tT,tT,fF,fF,tT,fF,fF,fF]
abbrev place11.mk1_3_4 : Array Bool := #[fF,tT,fF,tT,tT,fF,fF,fF]
abbrev place11.mk0_1_2_4 : Array Bool := #[tT,tT,tT,fF,tT,fF,fF,fF]
abbrev place11.mk0_1_2_3_4 : Array Bool := #[tT,tT,tT,tT,tT,fF,fF,fF]
abbrev place11.mk0_1_2_4_6 : Array Bool := #[tT,tT,tT,fF,tT,fF,tT,fF]
abbrev place11.mk0_1_2_3_4_5 : Array Bool := #[tT,tT,tT,tT,tT,tT,fF,fF]
abbrev place11.mk0_1_2_3_4_6 : Array Bool := #[tT,tT,tT,tT,tT,fF,tT,fF]
abbrev place11.mk1_3_4_5 : Array Bool := #[fF,tT,fF,tT,tT,tT,fF,fF]
abbrev place11.mk0_1_3_4_5 : Array Bool := #[tT,tT,fF,tT,tT,tT,fF,fF]
abbrev place11.mk0_1_2_3_4_5_6_7 : Array Bool := #[tT,tT,tT,tT,tT,tT,tT,tT]
set_option maxHeartbeats 8000000 in
set_option maxRecDepth 100000 in
theorem from_ (l : List S29) (A0 : Option Addr) (c0 : Nat) (w0 : World) (hr0 : Kd.C k29 w0 A0 l.length l) (hc0 : l.length ≤ c0) (Y : Nat → Prop) (gyf : Nat) (lby : Array Value) (egy : ∀ args w, (callFunc gyf args).run Tryd.prog w = .ok (.enter gyf args) w) (ct : Bool) (St : List (List Int) → World → Prop)
  (hst1 : ∀ ys (W W' : World), (ct = true ∨ ys = []) → (∀ k, Y k → W'.heap[k]? = W.heap[k]?) → St ys W → St ys W')
  (hst2 : ∀ ys (W : World) (g t : Nat) (cs : Array Value) (u : Value), ¬ Y g → W.heap[g]? = some (.cells cs t (0, 0)) → (t = 40 ∨ t = 79) → St ys W → St ys (W.setCell ⟨g, 0, none⟩ u))
  (hst3 : ∀ ys (W : World), St ys W → St ys W.drew)
  (hy : ∀ ys (ways : List Int) (v : Value) (W : World), (ct = true ∨ ys = []) → (∀ k, Y k → k < W.heap.size) → St ys W → (Kd.int .i64).R 3 W w0.heap.size (fun k => ¬ Y k) v ways → Below w0.heap.size w0 W → Calls Tryd.prog gyf (#[v] ++ lby) W fun e w' => e = .returned (.bool ct) ∧ St (ys ++ [ways]) w' ∧ FrY Y W w' ∧ Below w0.heap.size w0 w')
  (gw gi gy gl gb gf : Nat) (vi : Value) (idx : List Int) (hidx : idx.length < 1000000) : ∀ (m : Nat) (ways : List Int) (boxes : List S26) (ys ps : List (List Int)) (w : World) (vw vb : Value), idx.length = ways.length + m → boxes.length = ways.length → plc_ l idx m ways boxes = some ps → (ct = true ∨ ys = []) →
  PlS Y w w0 gw gi gy gl gb gf vw vw vi (.slice A0 l.length c0) vb vb (.func (.func gyf) #[] lby) (.func (.func 102) #[] #[.pointer (some ⟨gw, 0, none⟩), .pointer (some ⟨gi, 0, none⟩), .pointer (some ⟨gy, 0, none⟩), .pointer (some ⟨gl, 0, none⟩), .pointer (some ⟨gb, 0, none⟩), .pointer (some ⟨gf, 0, none⟩)]) ways idx boxes → St ys w → Below w0.heap.size w0 w →
  Calls Tryd.prog 102 #[.pointer (some ⟨gw, 0, none⟩), .pointer (some ⟨gi, 0, none⟩), .pointer (some ⟨gy, 0, none⟩), .pointer (some ⟨gl, 0, none⟩), .pointer (some ⟨gb, 0, none⟩), .pointer (some ⟨gf, 0, none⟩)] w fun e w' => e = .returned (.bool (resB_ ct ps)) ∧ (∃ vw' vb', PlS Y w' w0 gw gi gy gl gb gf vw' vw' vi (.slice A0 l.length c0) vb' vb' (.func (.func gyf) #[] lby) (.func (.func 102) #[] #[.pointer (some ⟨gw, 0, none⟩), .pointer (some ⟨gi, 0, none⟩), .pointer (some ⟨gy, 0, none⟩), .pointer (some ⟨gl, 0, none⟩), .pointer (some ⟨gb, 0, none⟩), .pointer (some ⟨gf, 0, none⟩)]) ways idx boxes) ∧ St (ys ++ resY_ ct ps) w' ∧ Below w0.heap.size w0 w' := by
 have HR := Aside0.mk hr0
 have HC := Aside0.mk hc0
 have HY := Aside0.mk hy
 have H1 := Aside0.mk hst1
 have H2 := Aside0.mk hst2
 have H3 := Aside0.mk hst3
 have hu1 := Tryd.underlying29
 have hu2 := Tryd.underlying26
 have hu3 := Tryd.underlying79
 have hu4 := Tryd.underlying40
 clear hr0 hc0 hy hst1 hst2 hst3
 intro m
 induction m with
 | zero =>
  intro ways boxes ys ps w vw vb hm hbl hp hys hS hSt hB
  have HS := Aside0.mk hS
  have HT := Aside0.mk hSt
  have HB := Aside0.mk hB
  obtain ⟨A, c, rfl⟩ := Kd.R_slice hS.rW
  obtain ⟨Ai, ci, rfl⟩ := hS.rI.slice_
  obtain ⟨Ab, cb, rfl⟩ := Kd.R_slice hS.rB
  have hcw : w.cell? ⟨gw, 0, none⟩ = some (.slice A ways.length c) := (blk_cell hS.cw 0).trans rfl
  have hci : w.cell? ⟨gi, 0, none⟩ = some (.slice Ai idx.length ci) := (blk_cell hS.ci 0).trans rfl
  obtain rfl : [ways] = ps := by
   unfold plc_ at hp
   exact Option.some.inj hp
  have hq : idx.length = ways.length := by omega
  have n0 : ((ways.length : Int) == (idx.length : Int)) = true := beq_iff_eq.mpr (by omega)
  have n1 : decide ((ways.length : Int) = (idx.length : Int)) = true := decide_eq_true (by omega)
  have n2 : (ways.length = idx.length) = True := eq_true (by omega)
  have n3 : (ways.length == idx.length) = true := beq_iff_eq.mpr (by omega)
  have hcl : slices_CloneInt.f ways = some ways := by
   unfold slices_CloneInt.f
   rw [if_pos (by omega)]
  have HCL := Aside0.mk hcl
  have HYS := Aside0.mk hys
  clear hp hS hSt hB hys hcl hq hm hbl
  go_enter Tryd.func102, Tryd.ntmps102
  go_wp2
  replace HS := Aside0.mk (HS.out.below (below_drew (Below.refl _ w)))
  replace HT := Aside0.mk (H1.out ys w w.drew HYS.out (fun _ _ => rfl) HT.out)
  replace HB := Aside0.mk (below_drew HB.out)
  clear hcw hci
  refine start_ (n := 5) (S := fun w' => w'.cell? ⟨gy, 0, none⟩ = some (.func (.func gyf) #[] lby) ∧ w'.cell? ⟨gw, 0, none⟩ = some (.slice A ways.length c)) (ds := []) place3.mkE (by kernel_rfl) rfl rfl ⟨(blk_cell HS.out.cy 0).trans rfl, (blk_cell HS.out.cw 0).trans rfl⟩ (fun hHeld => ?_); refine with_tabW place3.tab place3.bits (fun HT_ HW_ => ?_)
  generalize w.drew = W at HS HT HB hHeld ⊢
  refine tk_ HT_ HW_ hHeld 0 (some 17) place3.mk0 ?_
  refine tk_ HT_ HW_ hHeld 1 (some 18) place3.mk0_1 ?_
  refine one_ (i := 2) (N := some 19) place3.mk0_1_2 rfl rfl (one_of HT_.out (by kernel_rfl)) (by decide) (fun K hK => ?_)
  refine gs_ Tryd.func103 #[.slice A ways.length c] ?_
  refine (slices_CloneInt.calls A c ways ways _ (Kd.R_reads' HS.out.rW).2.2 (Kd.R_reads' HS.out.rW).2.1 HCL.out).mono ?_
  rintro e W2 ⟨v, rfl, hv, hb⟩
  refine ⟨_, rfl, ?_⟩
  have hv2 := Kd.R_lower (Kd.R_mono (ok' := fun k => ¬ Y k) (Kd.R_bound hv) (fun k hk hY => by have := HS.out.ys k hY; have := hk.2.1; omega)) (below_size HB.out)
  have hT_ := H1.out ys W W2 HYS.out (fun k hk => hb.block k (HS.out.ys k hk)) HT.out
  replace HS := Aside0.mk (HS.out.below hb)
  replace HT := Aside0.mk hT_
  replace HB := Aside0.mk (below_step HB.out hb)
  have HV := Aside0.mk hv2
  clear hb hv hv2 hT_
  refine hK.out _ _ ⟨(blk_cell HS.out.cy 0).trans rfl, (blk_cell HS.out.cw 0).trans rfl⟩ (fun hHeld => ?_)
  clear hK K
  refine na_ ?_
  refine one_ (i := 3) (N := some 20) place3.mk0_1_2_3 rfl rfl (one_of HT_.out (by kernel_rfl)) (by decide) (fun K hK => ?_)
  refine call_ gyf (#[v] ++ lby) (by rfl) rfl ?hrun ?_
  case hrun => first | (go_simp; done) | (go_simp; exact egy _ _)
  refine (HY.out ys ways v W2 HYS.out HS.out.ys HT.out HV.out HB.out).mono ?_
  rintro e W3 ⟨rfl, hT3, hF3, hB3⟩
  refine ⟨_, rfl, ?_⟩
  replace HS := Aside0.mk (HS.out.fr hF3)
  replace HT := Aside0.mk hT3
  replace HB := Aside0.mk hB3
  clear hT3 hF3 hB3
  refine hK.out _ _ ⟨(blk_cell HS.out.cy 0).trans rfl, (blk_cell HS.out.cw 0).trans rfl⟩ (fun hHeld => ?_)
  clear hK K
  refine na_ ?_
  refine pz_ HT_ 4 (some 6) place3.mk0_1_2_3_4 ?_
  refine done_ (done_of HT_.out (by kernel_rfl)) ?_
  go_wp2
  go_ret
  refine ⟨?_, ⟨_, _, HS.out⟩, ?_, HB.out⟩
  ·
   cases ct <;> rfl
  ·
   cases ct <;> exact HT.out
 | succ m ih =>
  intro ways boxes ys ps w vw vb hm hbl hp hys hS hSt hB
  have HS := Aside0.mk hS
  have HT := Aside0.mk hSt
  have HB := Aside0.mk hB
  obtain ⟨A, c, rfl⟩ := Kd.R_slice hS.rW
  obtain ⟨Ai, ci, rfl⟩ := hS.rI.slice_
  obtain ⟨Ab, cb, rfl⟩ := Kd.R_slice hS.rB
  have hcw : w.cell? ⟨gw, 0, none⟩ = some (.slice A ways.length c) := (blk_cell hS.cw 0).trans rfl
  have hci : w.cell? ⟨gi, 0, none⟩ = some (.slice Ai idx.length ci) := (blk_cell hS.ci 0).trans rfl
  unfold plc_ at hp
  by_cases hj : 0 ≤ rd idx (ways.length : Int) ∧ rd idx (ways.length : Int) < (l.length : Int)
  ·
   rw [if_pos hj] at hp
   have n0 : ((ways.length : Int) == (idx.length : Int)) = false := beq_eq_false_iff_ne.mpr (by omega)
   have n1 : decide ((ways.length : Int) = (idx.length : Int)) = false := decide_eq_false (by omega)
   have n2 : (ways.length = idx.length) = False := eq_false (by omega)
   have n3 : (ways.length == idx.length) = false := beq_eq_false_iff_ne.mpr (by omega)
   obtain ⟨ai, e1⟩ := hS.rI.some_ (by omega)
   subst e1
   obtain ⟨al, e2, z1, z2, z3⟩ := at_T29 HR.out (rd idx (ways.length : Int)) hj.1 hj.2
   subst e2
   obtain ⟨j, hjd⟩ : ∃ j, rd idx (ways.length : Int) = j := ⟨_, rfl⟩
   rw [hjd] at hp hj z1 z2 z3
   have HJ := Aside0.mk hjd
   have HN := Aside0.mk (show ways.length < idx.length by omega)
   clear hjd
   generalize rd_T29 l j = x at hp z1 z2 z3
   have q0 : (0 : Int) ≤ (ways.length : Int) := by omega
   have q1 : (ways.length : Int) < (idx.length : Int) := by omega
   have q2 : 0 ≤ j := hj.1
   have q3 : j < (l.length : Int) := hj.2
   have Z1 := Aside0.mk z1
   have Z2 := Aside0.mk z2
   have Z3 := Aside0.mk z3
   have HP := Aside0.mk hp
   have HYS := Aside0.mk hys
   have HM := Aside0.mk hm
   have HBL := Aside0.mk hbl
   have IH := Aside0.mk ih
   clear hp hS hSt hB hys z1 z2 z3 hj hm hbl ih
   go_enter Tryd.func102, Tryd.ntmps102
   go_wp2
   clear hcw hci
   go_loopg [21] 4 (fun gg v21 wr => ∃ (kk : Nat) (acc rest : List (List Int)) (vw vb : Value), kk ≤ 4 ∧ 4 - kk ≤ gg ∧ v21 = .int .i64 kk ∧ Aside0 (catM_ (fun way => (impl_boxFor.f x.f0 x.f1 x.f2 way).bind fun b => (impl_free.f l b.1 b.2.1 b.2.2.1 b.2.2.2).bind fun fr => if fr = true then (hitB_ boxes b.1 b.2.1 b.2.2.1 b.2.2.2).bind fun hit => if hit = true then some [] else plc_ l idx m (ways ++ [way]) (boxes ++ [⟨b.1, b.2.1, b.2.2.1, b.2.2.2⟩]) else some []) ([0, 1, 2, 3].drop kk) = some rest ∧ ps = acc ++ rest) ∧ Aside0 (ct = true ∨ ys ++ acc = []) ∧ Aside0 (PlS Y wr w0 gw gi gy gl gb gf vw vw (.slice (some ai) idx.length ci) (.slice (some al) l.length c0) vb vb (.func (.func gyf) #[] lby) (.func (.func 102) #[] #[.pointer (some ⟨gw, 0, none⟩), .pointer (some ⟨gi, 0, none⟩), .pointer (some ⟨gy, 0, none⟩), .pointer (some ⟨gl, 0, none⟩), .pointer (some ⟨gb, 0, none⟩), .pointer (some ⟨gf, 0, none⟩)]) ways idx boxes) ∧ Aside0 (St (ys ++ acc) wr) ∧ Aside0 (Below w0.heap.size w0 wr))
   case atStart => exact ⟨0, [], ps, _, _, by omega, by omega, rfl, ⟨HP.out, rfl⟩, ⟨by simpa using HYS.out⟩, HS, ⟨by simpa using HT.out⟩, HB⟩
   case round =>
    clear HS HT HB HP HYS
    obtain ⟨kk, acc, rest, vw, vb, hkk, hgg, rfl, HP, HYS, HS, HT, HB⟩ := hrel
    by_cases hlt : kk < 4
    ·
     have hltz : (kk : Int) < 4 := by omega
     have hw1 : wrap64 ((kk : Int) + 1) = ((kk + 1 : Nat) : Int) := by
      unfold wrap64
      omega
     obtain ⟨hp, e1⟩ := HP.out
     have ed : ([0, 1, 2, 3] : List Int).drop kk = (kk : Int) :: ([0, 1, 2, 3] : List Int).drop (kk + 1) := by
      have hk4 : kk = 0 ∨ kk = 1 ∨ kk = 2 ∨ kk = 3 := by omega
      rcases hk4 with rfl | rfl | rfl | rfl <;> rfl
     rw [ed] at hp
     unfold catM_ at hp
     obtain ⟨pa, h1, hp⟩ := Option.bind_eq_some_iff.mp hp
     obtain ⟨rest', h2, hp⟩ := Option.bind_eq_some_iff.mp hp
     obtain rfl := Option.some.inj hp
     (try simp only at h1)
     obtain ⟨⟨b0, b1, b2, b3⟩, hbf, h1⟩ := Option.bind_eq_some_iff.mp h1
     obtain ⟨fr, hfr, h1⟩ := Option.bind_eq_some_iff.mp h1
     (try simp only at hfr)
     (try simp only at h1)
     have HBF := Aside0.mk hbf
     have HFR := Aside0.mk hfr
     have HP2 := Aside0.mk h2
     have HE := Aside0.mk e1
     have HG := Aside0.mk hgg
     obtain ⟨A, c, rfl⟩ := Kd.R_slice HS.out.rW
     obtain ⟨Ab, cb, rfl⟩ := Kd.R_slice HS.out.rB
     clear hbf hfr h2 e1 hgg HP ed hp
     have hcl7 : wr.cell? ⟨gl, 0, none⟩ = some (.slice (some al) l.length c0) := (blk_cell HS.out.cl 0).trans rfl
     go_wp2
     clear hcl7
     have hT_ := H1.out (ys ++ acc) wr wr.drew HYS.out (fun k hk => rfl) HT.out
     replace HT := Aside0.mk hT_
     clear hT_
     replace HS := Aside0.mk (HS.out.below (below_drew (Below.refl _ wr)))
     replace HB := Aside0.mk (below_drew HB.out)
     refine start_ (n := 11) (S := fun w' => w'.cell? ⟨gl, 0, none⟩ = some (.slice (some al) l.length c0) ∧ w'.cell? ⟨gi, 0, none⟩ = some (.slice (some ai) idx.length ci) ∧ w'.cell? (ai.add ways.length) = some (.int .i64 j) ∧ w'.cell? (al.add (j.toNat * 3)) = some (.string x.f0) ∧ w'.cell? ⟨(al.add (j.toNat * 3)).block, (al.add (j.toNat * 3)).off + 1, none⟩ = some (.int .i64 x.f1) ∧ w'.cell? ⟨(al.add (j.toNat * 3)).block, (al.add (j.toNat * 3)).off + 2, none⟩ = some (.int .i64 x.f2)) (ds := []) place7.mkE (by kernel_rfl) rfl rfl ⟨(blk_cell HS.out.cl 0).trans rfl, (blk_cell HS.out.ci 0).trans rfl, HS.out.rI.at_ HB.out HN.out HJ.out, bc_ HB.out Z1.out, bc_ HB.out Z2.out, bc_ HB.out Z3.out⟩ (fun hHeld => ?_); refine with_tabW place7.tab place7.bits (fun HT_ HW_ => ?_)
     generalize wr.drew = W at HS HT HB hHeld ⊢
     refine pz_ HT_ 2 (some 26) place7.mk2 ?_
     refine pz_ HT_ 7 (some 31) place7.mk2_7 ?_
     refine tk_ HT_ HW_ hHeld 0 (some 24) place7.mk0_2_7 ?_
     refine tk_ HT_ HW_ hHeld 1 (some 25) place7.mk0_1_2_7 ?_
     refine pz_ HT_ 3 (some 27) place7.mk0_1_2_3_7 ?_
     refine tk_ HT_ HW_ hHeld 4 (some 28) place7.mk0_1_2_3_4_7 ?_
     refine pz_ HT_ 5 (some 29) place7.mk0_1_2_3_4_5_7 ?_
     refine tk_ HT_ HW_ hHeld 6 (some 30) place7.mk0_1_2_3_4_5_6_7 ?_
     refine join_ (σ := Nat) 1 place7.mk0_1_2_3_4_5_6_7_8_9 (fun s_ => [(32, .agg #[.int .i64 b0, .int .i64 b1, .int .i64 b2, .int .i64 b3]), (9, .pointer (some ⟨s_, 0, none⟩))]) (fun s_ w' => (w'.cell? ⟨gl, 0, none⟩ = some (.slice (some al) l.length c0) ∧ w'.cell? ⟨gi, 0, none⟩ = some (.slice (some ai) idx.length ci) ∧ w'.cell? (ai.add ways.length) = some (.int .i64 j) ∧ w'.cell? (al.add (j.toNat * 3)) = some (.string x.f0) ∧ w'.cell? ⟨(al.add (j.toNat * 3)).block, (al.add (j.toNat * 3)).off + 1, none⟩ = some (.int .i64 x.f1) ∧ w'.cell? ⟨(al.add (j.toNat * 3)).block, (al.add (j.toNat * 3)).off + 2, none⟩ = some (.int .i64 x.f2)) ∧ PlS (fun k => Y k ∨ k = s_) w' w0 gw gi gy gl gb gf (.slice A ways.length c) (.slice A ways.length c) (.slice (some ai) idx.length ci) (.slice (some al) l.length c0) (.slice Ab boxes.length cb) (.slice Ab boxes.length cb) (.func (.func gyf) #[] lby) (.func (.func 102) #[] #[.pointer (some ⟨gw, 0, none⟩), .pointer (some ⟨gi, 0, none⟩), .pointer (some ⟨gy, 0, none⟩), .pointer (some ⟨gl, 0, none⟩), .pointer (some ⟨gb, 0, none⟩), .pointer (some ⟨gf, 0, none⟩)]) ways idx boxes ∧ St (ys ++ acc) w' ∧ Below w0.heap.size w0 w' ∧ w'.heap[s_]? = some (.cells #[.int .i64 0, .int .i64 0, .int .i64 0, .int .i64 0] 26 (0, 0)) ∧ w0.heap.size ≤ s_ ∧ ¬ Y s_) ?_ ?_
     rotate_left
     ·
      intro hCont
      refine two_ (i := 8) (j := 9) (Ni := some 32) (Nj := some 9) place7.mk0_1_2_3_4_5_6_7_8 place7.mk0_1_2_3_4_5_6_7_9 rfl rfl rfl rfl (two_of HT_.out (by kernel_rfl)) (by decide) (by decide) (fun K hK => ?_) (fun K hK => ?_)
      ·
       skip
       refine gs_ Tryd.func59 #[.agg #[.string x.f0, .int .i64 x.f1, .int .i64 x.f2], .int .i64 (kk : Int)] ?_
       with_reducible refine (impl_boxFor.calls x.f0 x.f1 x.f2 (kk : Int) b0 b1 b2 b3 _ HBF.out).mono ?_
       rintro e W1 ⟨rfl, hb⟩
       refine ⟨_, rfl, ?_⟩
       have hT_ := H1.out (ys ++ acc) W W1 HYS.out (fun k hk => (hb).block k (HS.out.ys k hk)) HT.out
       replace HT := Aside0.mk hT_
       clear hT_
       replace HS := Aside0.mk (HS.out.below hb)
       replace HB := Aside0.mk (below_step HB.out hb)
       clear hb
       refine hK.out _ _ ⟨(blk_cell HS.out.cl 0).trans rfl, (blk_cell HS.out.ci 0).trans rfl, HS.out.rI.at_ HB.out HN.out HJ.out, bc_ HB.out Z1.out, bc_ HB.out Z2.out, bc_ HB.out Z3.out⟩ (fun hHeld => ?_)
       clear hK K
       refine na_ ?_
       refine one_ (i := 9) (N := some 9) place7.mk0_1_2_3_4_5_6_7_8_9 rfl rfl (one_of HT_.out (by kernel_rfl)) (by decide) (fun K hK => ?_)
       refine box_step ?hg (N := 9) ?hd (cs := #[.int .i64 0, .int .i64 0, .int .i64 0, .int .i64 0]) (t := 26) ?hr ?_; (case hd => rfl); (case hg => rfl); (case hr => first | (go_simp; done) | (go_simp; rfl))
       intro s_ hg W2 hbox hb
       have hT_ := H1.out (ys ++ acc) W1 W2 HYS.out (fun k hk => hb.block k (HS.out.ys k hk)) HT.out
       replace HT := Aside0.mk hT_
       clear hT_
       have hge : w0.heap.size ≤ s_ := by rw [hg]; exact below_size HB.out
       have hny : ¬ Y s_ := fun y => by have := HS.out.ys s_ y; omega
       replace HS := Aside0.mk (HS.out.grow hb hg (blk_lt hbox))
       replace HB := Aside0.mk (below_step HB.out hb)
       have BX := Aside0.mk hbox
       have GE := Aside0.mk hge
       have NYS := Aside0.mk hny
       clear hb hbox hg hge hny
       refine hK.out _ _ ⟨(blk_cell HS.out.cl 0).trans rfl, (blk_cell HS.out.ci 0).trans rfl, HS.out.rI.at_ HB.out HN.out HJ.out, bc_ HB.out Z1.out, bc_ HB.out Z2.out, bc_ HB.out Z3.out⟩ (fun hHeld => ?_)
       clear hK K
       refine na_ ?_
       exact norm_ (by simp only [putAll, Act.put, List.setIfInBounds_toArray, List.set_cons_zero, List.set_cons_succ]) (hCont s_ _ ⟨hHeld, HS.out, HT.out, HB.out, BX.out, GE.out, NYS.out⟩)
      ·
       skip
       refine box_step ?hg (N := 9) ?hd (cs := #[.int .i64 0, .int .i64 0, .int .i64 0, .int .i64 0]) (t := 26) ?hr ?_; (case hd => rfl); (case hg => rfl); (case hr => first | (go_simp; done) | (go_simp; rfl))
       intro s_ hg W1 hbox hb
       have hT_ := H1.out (ys ++ acc) W W1 HYS.out (fun k hk => hb.block k (HS.out.ys k hk)) HT.out
       replace HT := Aside0.mk hT_
       clear hT_
       have hge : w0.heap.size ≤ s_ := by rw [hg]; exact below_size HB.out
       have hny : ¬ Y s_ := fun y => by have := HS.out.ys s_ y; omega
       replace HS := Aside0.mk (HS.out.grow hb hg (blk_lt hbox))
       replace HB := Aside0.mk (below_step HB.out hb)
       have BX := Aside0.mk hbox
       have GE := Aside0.mk hge
       have NYS := Aside0.mk hny
       clear hb hbox hg hge hny
       refine hK.out _ _ ⟨(blk_cell HS.out.cl 0).trans rfl, (blk_cell HS.out.ci 0).trans rfl, HS.out.rI.at_ HB.out HN.out HJ.out, bc_ HB.out Z1.out, bc_ HB.out Z2.out, bc_ HB.out Z3.out⟩ (fun hHeld => ?_)
       clear hK K
       refine na_ ?_
       refine one_ (i := 8) (N := some 32) place7.mk0_1_2_3_4_5_6_7_8_9 rfl rfl (one_of HT_.out (by kernel_rfl)) (by decide) (fun K hK => ?_)
       refine gs_ Tryd.func59 #[.agg #[.string x.f0, .int .i64 x.f1, .int .i64 x.f2], .int .i64 (kk : Int)] ?_
       with_reducible refine (impl_boxFor.calls x.f0 x.f1 x.f2 (kk : Int) b0 b1 b2 b3 _ HBF.out).mono ?_
       rintro e W2 ⟨rfl, hb⟩
       refine ⟨_, rfl, ?_⟩
       have hT_ := H1.out (ys ++ acc) W1 W2 HYS.out (fun k hk => (hb).block k (HS.out.ys k (.inl hk))) HT.out
       replace HT := Aside0.mk hT_
       clear hT_
       replace HS := Aside0.mk (HS.out.below hb)
       replace HB := Aside0.mk (below_step HB.out hb)
       replace BX := Aside0.mk (bb_ BX.out hb)
       clear hb
       refine hK.out _ _ ⟨(blk_cell HS.out.cl 0).trans rfl, (blk_cell HS.out.ci 0).trans rfl, HS.out.rI.at_ HB.out HN.out HJ.out, bc_ HB.out Z1.out, bc_ HB.out Z2.out, bc_ HB.out Z3.out⟩ (fun hHeld => ?_)
       clear hK K
       refine na_ ?_
       exact norm_ (by simp only [putAll, Act.put, List.setIfInBounds_toArray, List.set_cons_zero, List.set_cons_succ]) (hCont s_ _ ⟨hHeld, HS.out, HT.out, HB.out, BX.out, GE.out, NYS.out⟩)
     clear HS HT HB hHeld
     rintro s_ W3 ⟨hHeld, hS_, hT_, hB_, hX_, GE, hny⟩
     have NYS := Aside0.mk hny
     clear hny
     have HS := Aside0.mk hS_
     have HT := Aside0.mk hT_
     have HB := Aside0.mk hB_
     have BX := Aside0.mk hX_
     clear hS_ hT_ hB_ hX_
     refine nb_ ?_
     refine one_ (i := 10) (N := none) place7.mk0_1_2_3_4_5_6_7_8_9_10 rfl rfl (one_of HT_.out (by kernel_rfl)) (by decide) (fun K hK => ?_)
     have hs0 : W3.cell? ⟨s_, 0, none⟩ = some (.int .i64 0) := (blk_cell BX.out 0).trans rfl
     have hf0 := blk_frozen BX.out 0
     have hs1 : W3.cell? ⟨s_, 1, none⟩ = some (.int .i64 0) := (blk_cell BX.out 1).trans rfl
     have hf1 := blk_frozen BX.out 1
     have hs2 : W3.cell? ⟨s_, 2, none⟩ = some (.int .i64 0) := (blk_cell BX.out 2).trans rfl
     have hf2 := blk_frozen BX.out 2
     have hs3 : W3.cell? ⟨s_, 3, none⟩ = some (.int .i64 0) := (blk_cell BX.out 3).trans rfl
     have hf3 := blk_frozen BX.out 3
     refine skip_ (w1 := ?_) (by rfl) rfl ?_ ?_
     rotate_left
     ·
      go_simp
      rfl
     clear hs0 hs1 hs2 hs3 hf0 hf1 hf2 hf3
     have hk4 := keep4_ W3 s_ (.int .i64 b0) (.int .i64 b1) (.int .i64 b2) (.int .i64 b3)
     have hT_ := H1.out (ys ++ acc) W3 ((((W3.setCell ⟨s_, 0, none⟩ (.int .i64 b0)).setCell ⟨s_, 1, none⟩ (.int .i64 b1)).setCell ⟨s_, 2, none⟩ (.int .i64 b2)).setCell ⟨s_, 3, none⟩ (.int .i64 b3)) HYS.out (fun k hk => hk4.2 k (HS.out.ys k (.inl hk)) (fun e => NYS.out (e ▸ hk)) (by simp)) HT.out
     have hS_ := HS.out.fr (FrY.of_keep hk4 (.inr rfl))
     have hX_ := p4_ BX.out (.int .i64 b0) (.int .i64 b1) (.int .i64 b2) (.int .i64 b3)
     have hB_ := below_set (j := 3) (v := .int .i64 b3) (below_set (j := 2) (v := .int .i64 b2) (below_set (j := 1) (v := .int .i64 b1) (below_set (j := 0) (v := .int .i64 b0) HB.out GE) GE) GE) GE
     clear HS HT HB BX hk4 hHeld
     generalize ((((W3.setCell ⟨s_, 0, none⟩ (.int .i64 b0)).setCell ⟨s_, 1, none⟩ (.int .i64 b1)).setCell ⟨s_, 2, none⟩ (.int .i64 b2)).setCell ⟨s_, 3, none⟩ (.int .i64 b3)) = W4 at hT_ hS_ hX_ hB_ ⊢
     have HS := Aside0.mk hS_
     have HT := Aside0.mk hT_
     have HB := Aside0.mk hB_
     have BX := Aside0.mk hX_
     clear hS_ hT_ hB_ hX_
     refine hK.out _ _ ⟨(blk_cell HS.out.cl 0).trans rfl, (blk_cell HS.out.ci 0).trans rfl, HS.out.rI.at_ HB.out HN.out HJ.out, bc_ HB.out Z1.out, bc_ HB.out Z2.out, bc_ HB.out Z3.out⟩ (fun hHeld => ?_)
     clear hK K
     refine done_ (done_of HT_.out (by kernel_rfl)) ?_
     have hcl : W4.cell? ⟨gl, 0, none⟩ = some (.slice (some al) l.length c0) := (blk_cell HS.out.cl 0).trans rfl
     have hcx : W4.cell? ⟨gb, 0, none⟩ = some (.slice Ab boxes.length cb) := (blk_cell HS.out.cx 0).trans rfl
     have hcz0 : W4.cell? ⟨s_, 0, none⟩ = some (.int .i64 b0) := (blk_cell BX.out 0).trans rfl
     have hcz1 : W4.cell? ⟨s_, 1, none⟩ = some (.int .i64 b1) := (blk_cell BX.out 1).trans rfl
     have hcz2 : W4.cell? ⟨s_, 2, none⟩ = some (.int .i64 b2) := (blk_cell BX.out 2).trans rfl
     have hcz3 : W4.cell? ⟨s_, 3, none⟩ = some (.int .i64 b3) := (blk_cell BX.out 3).trans rfl
     cases fr with
     | false =>
      rw [if_neg (by decide)] at h1
      obtain rfl := Option.some.inj h1
      go_wp2_with ((with_reducible refine gate_callee (f := 67) rfl ?_); refine ga_ (some 35) Tryd.func67 #[.slice (some al) l.length c0, .agg #[.int .i64 b0, .int .i64 b1, .int .i64 b2, .int .i64 b3]] ?_; (with_reducible refine (impl_free.calls _ _ l b0 b1 b2 b3 false _ ?side1 ?side2 HFR.out).mono ?_); (case side1 => exact Kd.C_below HR.out HB.out); (case side2 => exact HC.out); rintro e W5 ⟨rfl, hb⟩; refine ⟨_, rfl, ?_⟩; have hT_ := H1.out (ys ++ acc) W4 W5 HYS.out (fun k hk => hb.block k (HS.out.ys k (.inl hk))) HT.out; replace HT := Aside0.mk hT_; clear hT_; replace HS := Aside0.mk (HS.out.below hb); replace HB := Aside0.mk (below_step HB.out hb); replace BX := Aside0.mk (bb_ BX.out hb); replace hcx := bc_ hb hcx; clear hb hcl hcz0 hcz1 hcz2 hcz3)
      have HSF := Aside0.mk HS.out.shrink
      go_roundg (4 - (kk + 1))
      case measure => have := HG.out; omega
      case rel => exact ⟨kk + 1, acc, rest', _, _, by omega, by omega, by go_num, ⟨HP2.out, by rw [HE.out]; rfl⟩, HYS, HSF, HT, HB⟩
     | true =>
      rw [if_pos rfl] at h1
      obtain ⟨hit, hh, h1⟩ := Option.bind_eq_some_iff.mp h1
      have HH := Aside0.mk hh
      clear hh
      cases hit with
      | true =>
       rw [if_pos rfl] at h1
       obtain rfl := Option.some.inj h1
       go_wp2_with (first | ((with_reducible refine gate_callee (f := 67) rfl ?_); refine ga_ (some 35) Tryd.func67 #[.slice (some al) l.length c0, .agg #[.int .i64 b0, .int .i64 b1, .int .i64 b2, .int .i64 b3]] ?_; (with_reducible refine (impl_free.calls _ _ l b0 b1 b2 b3 true _ ?side1 ?side2 HFR.out).mono ?_); (case side1 => exact Kd.C_below HR.out HB.out); (case side2 => exact HC.out); rintro e W5 ⟨rfl, hb⟩; refine ⟨_, rfl, ?_⟩; have hT_ := H1.out (ys ++ acc) W4 W5 HYS.out (fun k hk => hb.block k (HS.out.ys k (.inl hk))) HT.out; replace HT := Aside0.mk hT_; clear hT_; replace HS := Aside0.mk (HS.out.below hb); replace HB := Aside0.mk (below_step HB.out hb); replace BX := Aside0.mk (bb_ BX.out hb); replace hcx := bc_ hb hcx; clear hb hcl hcz0 hcz1 hcz2 hcz3) | (go_at_call 68; (with_reducible refine (hit_calls Ab cb boxes b0 b1 b2 b3 true _ ?side1 ?side2 HH.out BX.out).mono ?_); (case side1 => exact (Kd.R_reads' HS.out.rB).2.2); (case side2 => exact (Kd.R_reads' HS.out.rB).2.1); rintro e W6 ⟨rfl, hb⟩; have hT_ := H1.out (ys ++ acc) W5 W6 HYS.out (fun k hk => hb.block k (HS.out.ys k (.inl hk))) HT.out; replace HT := Aside0.mk hT_; clear hT_; replace HS := Aside0.mk (HS.out.below hb); replace HB := Aside0.mk (below_step HB.out hb); replace BX := Aside0.mk (bb_ BX.out hb); clear hb hcx))
       have HSF := Aside0.mk HS.out.shrink
       go_roundg (4 - (kk + 1))
       case measure => have := HG.out; omega
       case rel => exact ⟨kk + 1, acc, rest', _, _, by omega, by omega, by go_num, ⟨HP2.out, by rw [HE.out]; rfl⟩, HYS, HSF, HT, HB⟩
      | false =>
       rw [if_neg (by decide)] at h1
       have HPA := Aside0.mk h1
       clear h1
       go_wp2_with (first | ((with_reducible refine gate_callee (f := 67) rfl ?_); refine ga_ (some 35) Tryd.func67 #[.slice (some al) l.length c0, .agg #[.int .i64 b0, .int .i64 b1, .int .i64 b2, .int .i64 b3]] ?_; (with_reducible refine (impl_free.calls _ _ l b0 b1 b2 b3 true _ ?side1 ?side2 HFR.out).mono ?_); (case side1 => exact Kd.C_below HR.out HB.out); (case side2 => exact HC.out); rintro e W5 ⟨rfl, hb⟩; refine ⟨_, rfl, ?_⟩; have hT_ := H1.out (ys ++ acc) W4 W5 HYS.out (fun k hk => hb.block k (HS.out.ys k (.inl hk))) HT.out; replace HT := Aside0.mk hT_; clear hT_; replace HS := Aside0.mk (HS.out.below hb); replace HB := Aside0.mk (below_step HB.out hb); replace BX := Aside0.mk (bb_ BX.out hb); replace hcx := bc_ hb hcx; clear hb hcl hcz0 hcz1 hcz2 hcz3) | (go_at_call 68; (with_reducible refine (hit_calls Ab cb boxes b0 b1 b2 b3 false _ ?side1 ?side2 HH.out BX.out).mono ?_); (case side1 => exact (Kd.R_reads' HS.out.rB).2.2); (case side2 => exact (Kd.R_reads' HS.out.rB).2.1); rintro e W6 ⟨rfl, hb⟩; have hT_ := H1.out (ys ++ acc) W5 W6 HYS.out (fun k hk => hb.block k (HS.out.ys k (.inl hk))) HT.out; replace HT := Aside0.mk hT_; clear hT_; replace HS := Aside0.mk (HS.out.below hb); replace HB := Aside0.mk (below_step HB.out hb); replace BX := Aside0.mk (bb_ BX.out hb); clear hb hcx))
       have hT_ := H1.out (ys ++ acc) W6 W6.drew HYS.out (fun k hk => rfl) HT.out
       replace HT := Aside0.mk hT_
       clear hT_
       replace HS := Aside0.mk (HS.out.below (below_drew (Below.refl _ W6)))
       replace HB := Aside0.mk (below_drew HB.out)
       replace BX := Aside0.mk (blk_drew BX.out)
       refine start_ (n := 10) (S := fun w' => w'.cell? ⟨gw, 0, none⟩ = some (.slice A ways.length c) ∧ w'.cell? ⟨gb, 0, none⟩ = some (.slice Ab boxes.length cb) ∧ w'.cell? ⟨s_, 0, none⟩ = some (.int .i64 b0) ∧ w'.cell? ⟨s_, 1, none⟩ = some (.int .i64 b1) ∧ w'.cell? ⟨s_, 2, none⟩ = some (.int .i64 b2) ∧ w'.cell? ⟨s_, 3, none⟩ = some (.int .i64 b3)) (ds := [8, 9]) place9.mkE (by kernel_rfl) rfl rfl ⟨(blk_cell HS.out.cw 0).trans rfl, (blk_cell HS.out.cx 0).trans rfl, (blk_cell BX.out 0).trans rfl, (blk_cell BX.out 1).trans rfl, (blk_cell BX.out 2).trans rfl, (blk_cell BX.out 3).trans rfl⟩ (fun hHeld => ?_); refine with_tabW place9.tab place9.bits (fun HT_ HW_ => ?_)
       generalize W6.drew = W7 at HS HT HB BX hHeld ⊢
       refine pz_ HT_ 1 (some 43) place9.mk1 ?_
       refine tk_ HT_ HW_ hHeld 0 (some 42) place9.mk0_1 ?_
       refine tk_ HT_ HW_ hHeld 4 (some 46) place9.mk0_1_4 ?_
       refine tk_ HT_ HW_ hHeld 5 (some 47) place9.mk0_1_4_5 ?_
       refine join_ (σ := Nat × Nat × Option Addr × Nat) 3 place9.mk0_1_2_3_4_5_6 (fun s => [(44, .slice (some ⟨s.1, 0, none⟩) 1 1), (48, .slice (some ⟨s.2.1, 0, none⟩) 1 1), (45, .slice s.2.2.1 (ways.length + 1) s.2.2.2)]) (fun s w' => (w'.cell? ⟨gw, 0, none⟩ = some (.slice A ways.length c) ∧ w'.cell? ⟨gb, 0, none⟩ = some (.slice Ab boxes.length cb) ∧ w'.cell? ⟨s_, 0, none⟩ = some (.int .i64 b0) ∧ w'.cell? ⟨s_, 1, none⟩ = some (.int .i64 b1) ∧ w'.cell? ⟨s_, 2, none⟩ = some (.int .i64 b2) ∧ w'.cell? ⟨s_, 3, none⟩ = some (.int .i64 b3)) ∧ PlS (fun k => Y k ∨ k = s_) w' w0 gw gi gy gl gb gf (.slice A ways.length c) (.slice s.2.2.1 (ways.length + 1) s.2.2.2) (.slice (some ai) idx.length ci) (.slice (some al) l.length c0) (.slice Ab boxes.length cb) (.slice Ab boxes.length cb) (.func (.func gyf) #[] lby) (.func (.func 102) #[] #[.pointer (some ⟨gw, 0, none⟩), .pointer (some ⟨gi, 0, none⟩), .pointer (some ⟨gy, 0, none⟩), .pointer (some ⟨gl, 0, none⟩), .pointer (some ⟨gb, 0, none⟩), .pointer (some ⟨gf, 0, none⟩)]) (ways ++ [(kk : Int)]) idx boxes ∧ St (ys ++ acc) w' ∧ Below w0.heap.size w0 w' ∧ w'.heap[s_]? = some (.cells #[.int .i64 b0, .int .i64 b1, .int .i64 b2, .int .i64 b3] 26 (0, 0)) ∧ w'.heap[s.2.1]? = some (.cells #[.int .i64 b0, .int .i64 b1, .int .i64 b2, .int .i64 b3] 26 (0, 0))) ?_ ?_
       rotate_left
       ·
        intro hCont; refine two_ (i := 2) (j := 6) (Ni := some 44) (Nj := some 48) place9.mk0_1_2_4_5 place9.mk0_1_4_5_6 rfl rfl rfl rfl (two_of HT_.out (by kernel_rfl)) (by decide) (by decide) (fun K hK => ?_) (fun K hK => ?_)
        ·
         skip; refine lit_step ?hg (N := 44) ?hd (cs := #[.int .i64 (kk : Int)]) (t := 3) (n := 1) ?hr ?_; (case hd => rfl); (case hg => rfl); (case hr => first | (go_simp; done) | (go_simp; rfl)); intro g2 hg W8 hbox hb; have hT_ := H1.out (ys ++ acc) W7 W8 HYS.out (fun k hk => (hb).block k (HS.out.ys k (.inl hk))) HT.out; replace HT := Aside0.mk hT_; clear hT_; replace HS := Aside0.mk (HS.out.below hb); replace HB := Aside0.mk (below_step HB.out hb); replace BX := Aside0.mk (bb_ BX.out hb); have B2 := Aside0.mk hbox; clear hb hbox hg; refine hK.out _ _ ⟨(blk_cell HS.out.cw 0).trans rfl, (blk_cell HS.out.cx 0).trans rfl, (blk_cell BX.out 0).trans rfl, (blk_cell BX.out 1).trans rfl, (blk_cell BX.out 2).trans rfl, (blk_cell BX.out 3).trans rfl⟩ (fun hHeld => ?_); clear hK K; refine na_ ?_; refine two_ (i := 3) (j := 6) (Ni := some 45) (Nj := some 48) place9.mk0_1_2_3_4_5 place9.mk0_1_2_4_5_6 rfl rfl rfl rfl (two_of HT_.out (by kernel_rfl)) (by decide) (by decide) (fun K hK => ?_) (fun K hK => ?_)
         ·
          skip; refine Kd.R_append_rows_step (Kd.int .i64) (Rr := (Kd.int .i64).K W8) (w0 := w0) w0.heap.size (by rfl) (.tmp 42) (.tmp 44) 40 3 (.int .i64 0) 8 rfl Tryd.underlying40 info3 rfl (by decide) (by omega) (.slice A ways.length c) ways [(kk : Int)] (some ⟨g2, 0, none⟩) 1 1 (fun k => ¬ (Y k ∨ k = s_)) (fun _ => False) rfl rfl HS.out.rW (C_int1_ B2.out) (fun _ _ h => h) (fun _ h => h.elim) (fun k hk hY => by have := HS.out.ys k hY; omega) HB.out (below_size HB.out) (by have := HN.out; omega) ?_; intro v1 W9 ho hB1 hg hat; obtain ⟨A1, c1, rfl⟩ := Kd.R_slice ho; simp only [List.length_append, List.length_singleton] at ho hat ⊢; have hT_ := H1.out (ys ++ acc) W8 W9 HYS.out (fun k hk => hg.block k (HS.out.ys k (.inl hk)) (fun he => HS.out.rW.1 k he.symm (.inl hk))) HT.out; replace HT := Aside0.mk hT_; clear hT_; replace BX := Aside0.mk (blk_grown BX.out hg (fun he => HS.out.rW.1 s_ he.symm (.inr rfl))); replace HS := Aside0.mk (HS.out.appW ho hg hat); replace HB := Aside0.mk hB1; clear ho hB1 hg hat; refine hK.out _ _ ⟨(blk_cell HS.out.cw 0).trans rfl, (blk_cell HS.out.cx 0).trans rfl, (blk_cell BX.out 0).trans rfl, (blk_cell BX.out 1).trans rfl, (blk_cell BX.out 2).trans rfl, (blk_cell BX.out 3).trans rfl⟩ (fun hHeld => ?_); clear hK K; refine na_ ?_; refine one_ (i := 6) (N := some 48) place9.mk0_1_2_3_4_5_6 rfl rfl (one_of HT_.out (by kernel_rfl)) (by decide) (fun K hK => ?_); refine lit_step ?hg (N := 48) ?hd (cs := #[.int .i64 b0, .int .i64 b1, .int .i64 b2, .int .i64 b3]) (t := 26) (n := 1) ?hr ?_; (case hd => rfl); (case hg => rfl); (case hr => first | (go_simp; done) | (go_simp; rfl)); intro g6 hg W10 hbox hb; have hT_ := H1.out (ys ++ acc) W9 W10 HYS.out (fun k hk => (hb).block k (HS.out.ys k (.inl hk))) HT.out; replace HT := Aside0.mk hT_; clear hT_; replace HS := Aside0.mk (HS.out.below hb); replace HB := Aside0.mk (below_step HB.out hb); replace BX := Aside0.mk (bb_ BX.out hb); have B6 := Aside0.mk hbox; clear hb hbox hg; refine hK.out _ _ ⟨(blk_cell HS.out.cw 0).trans rfl, (blk_cell HS.out.cx 0).trans rfl, (blk_cell BX.out 0).trans rfl, (blk_cell BX.out 1).trans rfl, (blk_cell BX.out 2).trans rfl, (blk_cell BX.out 3).trans rfl⟩ (fun hHeld => ?_); clear hK K; refine na_ ?_; exact norm_ (by simp only [putAll, Act.put, List.setIfInBounds_toArray, List.set_cons_zero, List.set_cons_succ]) (hCont (g2, g6, A1, c1) _ ⟨hHeld, HS.out, HT.out, HB.out, BX.out, B6.out⟩)
         ·
          skip; refine lit_step ?hg (N := 48) ?hd (cs := #[.int .i64 b0, .int .i64 b1, .int .i64 b2, .int .i64 b3]) (t := 26) (n := 1) ?hr ?_; (case hd => rfl); (case hg => rfl); (case hr => first | (go_simp; done) | (go_simp; rfl)); intro g6 hg W9 hbox hb; have hT_ := H1.out (ys ++ acc) W8 W9 HYS.out (fun k hk => (hb).block k (HS.out.ys k (.inl hk))) HT.out; replace HT := Aside0.mk hT_; clear hT_; replace HS := Aside0.mk (HS.out.below hb); replace HB := Aside0.mk (below_step HB.out hb); replace BX := Aside0.mk (bb_ BX.out hb); replace B2 := Aside0.mk (bb_ B2.out hb); have B6 := Aside0.mk hbox; clear hb hbox hg; refine hK.out _ _ ⟨(blk_cell HS.out.cw 0).trans rfl, (blk_cell HS.out.cx 0).trans rfl, (blk_cell BX.out 0).trans rfl, (blk_cell BX.out 1).trans rfl, (blk_cell BX.out 2).trans rfl, (blk_cell BX.out 3).trans rfl⟩ (fun hHeld => ?_); clear hK K; refine na_ ?_; refine one_ (i := 3) (N := some 45) place9.mk0_1_2_3_4_5_6 rfl rfl (one_of HT_.out (by kernel_rfl)) (by decide) (fun K hK => ?_); refine Kd.R_append_rows_step (Kd.int .i64) (Rr := (Kd.int .i64).K W9) (w0 := w0) w0.heap.size (by rfl) (.tmp 42) (.tmp 44) 40 3 (.int .i64 0) 8 rfl Tryd.underlying40 info3 rfl (by decide) (by omega) (.slice A ways.length c) ways [(kk : Int)] (some ⟨g2, 0, none⟩) 1 1 (fun k => ¬ (Y k ∨ k = s_)) (fun _ => False) rfl rfl HS.out.rW (C_int1_ B2.out) (fun _ _ h => h) (fun _ h => h.elim) (fun k hk hY => by have := HS.out.ys k hY; omega) HB.out (below_size HB.out) (by have := HN.out; omega) ?_; intro v1 W10 ho hB1 hg hat; obtain ⟨A1, c1, rfl⟩ := Kd.R_slice ho; simp only [List.length_append, List.length_singleton] at ho hat ⊢; have hT_ := H1.out (ys ++ acc) W9 W10 HYS.out (fun k hk => hg.block k (HS.out.ys k (.inl hk)) (fun he => HS.out.rW.1 k he.symm (.inl hk))) HT.out; replace HT := Aside0.mk hT_; clear hT_; replace BX := Aside0.mk (blk_grown BX.out hg (fun he => HS.out.rW.1 s_ he.symm (.inr rfl))); replace B6 := Aside0.mk (blk_grown B6.out hg (own_ne (Kd.R_own HS.out.rW).choose_spec B6.out (by decide))); replace HS := Aside0.mk (HS.out.appW ho hg hat); replace HB := Aside0.mk hB1; clear ho hB1 hg hat; refine hK.out _ _ ⟨(blk_cell HS.out.cw 0).trans rfl, (blk_cell HS.out.cx 0).trans rfl, (blk_cell BX.out 0).trans rfl, (blk_cell BX.out 1).trans rfl, (blk_cell BX.out 2).trans rfl, (blk_cell BX.out 3).trans rfl⟩ (fun hHeld => ?_); clear hK K; refine na_ ?_; exact norm_ (by simp only [putAll, Act.put, List.setIfInBounds_toArray, List.set_cons_zero, List.set_cons_succ]) (hCont (g2, g6, A1, c1) _ ⟨hHeld, HS.out, HT.out, HB.out, BX.out, B6.out⟩)
        ·
         skip; refine lit_step ?hg (N := 48) ?hd (cs := #[.int .i64 b0, .int .i64 b1, .int .i64 b2, .int .i64 b3]) (t := 26) (n := 1) ?hr ?_; (case hd => rfl); (case hg => rfl); (case hr => first | (go_simp; done) | (go_simp; rfl)); intro g6 hg W8 hbox hb; have hT_ := H1.out (ys ++ acc) W7 W8 HYS.out (fun k hk => (hb).block k (HS.out.ys k (.inl hk))) HT.out; replace HT := Aside0.mk hT_; clear hT_; replace HS := Aside0.mk (HS.out.below hb); replace HB := Aside0.mk (below_step HB.out hb); replace BX := Aside0.mk (bb_ BX.out hb); have B6 := Aside0.mk hbox; clear hb hbox hg; refine hK.out _ _ ⟨(blk_cell HS.out.cw 0).trans rfl, (blk_cell HS.out.cx 0).trans rfl, (blk_cell BX.out 0).trans rfl, (blk_cell BX.out 1).trans rfl, (blk_cell BX.out 2).trans rfl, (blk_cell BX.out 3).trans rfl⟩ (fun hHeld => ?_); clear hK K; refine na_ ?_; refine one_ (i := 2) (N := some 44) place9.mk0_1_2_4_5_6 rfl rfl (one_of HT_.out (by kernel_rfl)) (by decide) (fun K hK => ?_); refine lit_step ?hg (N := 44) ?hd (cs := #[.int .i64 (kk : Int)]) (t := 3) (n := 1) ?hr ?_; (case hd => rfl); (case hg => rfl); (case hr => first | (go_simp; done) | (go_simp; rfl)); intro g2 hg W9 hbox hb; have hT_ := H1.out (ys ++ acc) W8 W9 HYS.out (fun k hk => (hb).block k (HS.out.ys k (.inl hk))) HT.out; replace HT := Aside0.mk hT_; clear hT_; replace HS := Aside0.mk (HS.out.below hb); replace HB := Aside0.mk (below_step HB.out hb); replace BX := Aside0.mk (bb_ BX.out hb); replace B6 := Aside0.mk (bb_ B6.out hb); have B2 := Aside0.mk hbox; clear hb hbox hg; refine hK.out _ _ ⟨(blk_cell HS.out.cw 0).trans rfl, (blk_cell HS.out.cx 0).trans rfl, (blk_cell BX.out 0).trans rfl, (blk_cell BX.out 1).trans rfl, (blk_cell BX.out 2).trans rfl, (blk_cell BX.out 3).trans rfl⟩ (fun hHeld => ?_); clear hK K; refine na_ ?_; refine one_ (i := 3) (N := some 45) place9.mk0_1_2_3_4_5_6 rfl rfl (one_of HT_.out (by kernel_rfl)) (by decide) (fun K hK => ?_); refine Kd.R_append_rows_step (Kd.int .i64) (Rr := (Kd.int .i64).K W9) (w0 := w0) w0.heap.size (by rfl) (.tmp 42) (.tmp 44) 40 3 (.int .i64 0) 8 rfl Tryd.underlying40 info3 rfl (by decide) (by omega) (.slice A ways.length c) ways [(kk : Int)] (some ⟨g2, 0, none⟩) 1 1 (fun k => ¬ (Y k ∨ k = s_)) (fun _ => False) rfl rfl HS.out.rW (C_int1_ B2.out) (fun _ _ h => h) (fun _ h => h.elim) (fun k hk hY => by have := HS.out.ys k hY; omega) HB.out (below_size HB.out) (by have := HN.out; omega) ?_; intro v1 W10 ho hB1 hg hat; obtain ⟨A1, c1, rfl⟩ := Kd.R_slice ho; simp only [List.length_append, List.length_singleton] at ho hat ⊢; have hT_ := H1.out (ys ++ acc) W9 W10 HYS.out (fun k hk => hg.block k (HS.out.ys k (.inl hk)) (fun he => HS.out.rW.1 k he.symm (.inl hk))) HT.out; replace HT := Aside0.mk hT_; clear hT_; replace BX := Aside0.mk (blk_grown BX.out hg (fun he => HS.out.rW.1 s_ he.symm (.inr rfl))); replace B6 := Aside0.mk (blk_grown B6.out hg (own_ne (Kd.R_own HS.out.rW).choose_spec B6.out (by decide))); replace HS := Aside0.mk (HS.out.appW ho hg hat); replace HB := Aside0.mk hB1; clear ho hB1 hg hat; refine hK.out _ _ ⟨(blk_cell HS.out.cw 0).trans rfl, (blk_cell HS.out.cx 0).trans rfl, (blk_cell BX.out 0).trans rfl, (blk_cell BX.out 1).trans rfl, (blk_cell BX.out 2).trans rfl, (blk_cell BX.out 3).trans rfl⟩ (fun hHeld => ?_); clear hK K; refine na_ ?_; exact norm_ (by simp only [putAll, Act.put, List.setIfInBounds_toArray, List.set_cons_zero, List.set_cons_succ]) (hCont (g2, g6, A1, c1) _ ⟨hHeld, HS.out, HT.out, HB.out, BX.out, B6.out⟩)
       clear HS HT HB BX hHeld
       rintro ⟨g2, g6, A1, c1⟩ W11 ⟨hHeld, hS_, hT_, hB_, hX_, hX6⟩
       simp only at hHeld hS_ hT_ hB_ hX_ hX6
       have HS := Aside0.mk hS_
       have HT := Aside0.mk hT_
       have HB := Aside0.mk hB_
       have BX := Aside0.mk hX_
       clear hS_ hT_ hB_ hX_
       refine nb_ ?_
       refine one_ (i := 7) (N := some 49) place9.mk0_1_2_3_4_5_6_7 rfl rfl (one_of HT_.out (by kernel_rfl)) (by decide) (fun K hK => ?_)
       refine Kd.R_append_rows_step k26 (Rr := k26.K W11) (w0 := w0) w0.heap.size (by rfl) (.tmp 46) (.tmp 48) 79 26 (.agg #[(.int .i64 0), (.int .i64 0), (.int .i64 0), (.int .i64 0)]) 32 rfl Tryd.underlying79 info26 rfl (by decide) (by omega) (.slice Ab boxes.length cb) boxes [(⟨b0, b1, b2, b3⟩ : S26)] (some ⟨g6, 0, none⟩) 1 1 (fun k => ¬ (Y k ∨ k = s_)) (fun _ => False) rfl rfl HS.out.rB (C_box1_ hX6) (fun x_ cs_ h_ => by obtain rfl := k26_open h_; exact k26_mkM _ _ _ x_) (fun _ h => h.elim) (fun k hk hY => by have := HS.out.ys k hY; omega) HB.out (below_size HB.out) (by have := HN.out; have := HBL.out; omega) ?_
       intro v2 W12 ho hB1 hg hat
       obtain ⟨A2, c2, rfl⟩ := Kd.R_slice ho
       simp only [List.length_append, List.length_singleton] at ho hat ⊢
       have hT_ := H1.out (ys ++ acc) W11 W12 HYS.out (fun k hk => hg.block k (HS.out.ys k (.inl hk)) (fun he => HS.out.rB.1 k he.symm (.inl hk))) HT.out
       replace HT := Aside0.mk hT_
       clear hT_
       replace BX := Aside0.mk (blk_grown BX.out hg (fun he => HS.out.rB.1 s_ he.symm (.inr rfl)))
       replace HS := Aside0.mk (HS.out.appB ho hg hat)
       replace HB := Aside0.mk hB1
       clear ho hB1 hg hat hX6
       refine hK.out _ _ ⟨(blk_cell HS.out.cw 0).trans rfl, (blk_cell HS.out.cx 0).trans rfl, (blk_cell BX.out 0).trans rfl, (blk_cell BX.out 1).trans rfl, (blk_cell BX.out 2).trans rfl, (blk_cell BX.out 3).trans rfl⟩ (fun hHeld => ?_)
       clear hK K
       refine na_ ?_
       clear BX hHeld
       refine last_ (i := 8) (N := none) place9.mk0_1_2_3_4_5_6_7_8 rfl rfl (one_of HT_.out (by kernel_rfl)) (by decide) (fun K hK => ?_)
       have hs9 : W12.cell? ⟨gw, 0, none⟩ = some (.slice A ways.length c) := (blk_cell HS.out.cw 0).trans rfl
       have hfs9 := blk_frozen HS.out.cw 0
       refine skip_ (w1 := ?_) (by rfl) rfl ?_ ?_
       rotate_left
       ·
        go_simp; rfl
       refine hK.out _ _ ?_
       clear hK K hs9 hfs9
       have hT_ := H2.out (ys ++ acc) W12 gw _ _ (.slice A1 (ways.length + 1) c1) (fun y => HS.out.yw (.inl y)) HS.out.cw (.inl rfl) HT.out
       have hS_ := HS.out.setW
       have hB_ := below_set (j := 0) (v := (.slice A1 (ways.length + 1) c1)) HB.out HS.out.bw
       clear HS HT HB
       generalize W12.setCell ⟨gw, 0, none⟩ (.slice A1 (ways.length + 1) c1) = W13 at hT_ hS_ hB_ ⊢
       have HS := Aside0.mk hS_
       have HT := Aside0.mk hT_
       have HB := Aside0.mk hB_
       clear hT_ hS_ hB_
       refine last_ (i := 9) (N := none) place9.mk0_1_2_3_4_5_6_7_8_9 rfl rfl (one_of HT_.out (by kernel_rfl)) (by decide) (fun K hK => ?_)
       have hs9 : W13.cell? ⟨gb, 0, none⟩ = some (.slice Ab boxes.length cb) := (blk_cell HS.out.cx 0).trans rfl
       have hfs9 := blk_frozen HS.out.cx 0
       refine skip_ (w1 := ?_) (by rfl) rfl ?_ ?_
       rotate_left
       ·
        go_simp; rfl
       refine hK.out _ _ ?_
       clear hK K hs9 hfs9
       have hT_ := H2.out (ys ++ acc) W13 gb _ _ (.slice A2 (boxes.length + 1) c2) (fun y => HS.out.yb (.inl y)) HS.out.cx (.inr rfl) HT.out
       have hS_ := HS.out.setB
       have hB_ := below_set (j := 0) (v := (.slice A2 (boxes.length + 1) c2)) HB.out HS.out.bb
       clear HS HT HB
       generalize W13.setCell ⟨gb, 0, none⟩ (.slice A2 (boxes.length + 1) c2) = W14 at hT_ hS_ hB_ ⊢
       have HS := Aside0.mk hS_
       have HT := Aside0.mk hT_
       have HB := Aside0.mk hB_
       clear hT_ hS_ hB_
       refine done_ (done_of HT_.out (by kernel_rfl)) ?_
       replace HS := Aside0.mk HS.out.shrink
       have hcf : W14.cell? ⟨gf, 0, none⟩ = some (.func (.func 102) #[] #[.pointer (some ⟨gw, 0, none⟩), .pointer (some ⟨gi, 0, none⟩), .pointer (some ⟨gy, 0, none⟩), .pointer (some ⟨gl, 0, none⟩), .pointer (some ⟨gb, 0, none⟩), .pointer (some ⟨gf, 0, none⟩)]) := (blk_cell HS.out.cf 0).trans rfl
       go_wp2_with (go_at_call 102; (refine (IH.out (ways ++ [(kk : Int)]) (boxes ++ [(⟨b0, b1, b2, b3⟩ : S26)]) (ys ++ acc) pa _ _ _ ?i1 ?i2 HPA.out HYS.out HS.out HT.out HB.out).mono ?_); (case i1 => have := HM.out; rw [List.length_append, List.length_singleton]; omega); (case i2 => have := HBL.out; rw [List.length_append, List.length_append, List.length_singleton, List.length_singleton]; omega); rintro e W15 ⟨rfl, ⟨vw', vb', hS_⟩, hT_, hB_⟩; clear HS HT HB hcf; have HS := Aside0.mk hS_; have HT := Aside0.mk hT_; have HB := Aside0.mk hB_; clear hS_ hT_ hB_)
       obtain ⟨A3, c3, rfl⟩ := Kd.R_slice HS.out.rW
       obtain ⟨A4, c4, rfl⟩ := Kd.R_slice HS.out.rB
       have hl3 := (Kd.R_reads' HS.out.rW).2.1
       have hl4 := (Kd.R_reads' HS.out.rB).2.1
       simp only [List.length_append, List.length_singleton] at hl3 hl4 ⊢
       replace HS := Aside0.mk (by have := HS.out; simp only [List.length_append, List.length_singleton] at this; exact this)
       have hbl := HBL.out
       have q5 : (ways.length : Int) ≤ (c3 : Int) := by omega
       have q6 : (ways.length : Int) ≤ (c4 : Int) := by omega
       clear hl3 hl4 hbl
       obtain ⟨bm, hbm⟩ : ∃ bm, resB_ ct pa = bm := ⟨_, rfl⟩
       rw [hbm]
       have HBM := Aside0.mk hbm
       clear hbm
       have hTd : St (ys ++ acc ++ resY_ ct pa) W15.drew := by
        exact H3.out _ _ HT.out
       have HT2 := Aside0.mk hTd
       clear HT hTd
       replace HS := Aside0.mk (HS.out.below (below_drew (Below.refl _ W15)))
       replace HB := Aside0.mk (below_drew HB.out)
       refine start_ (n := 8) (S := fun w' => True) (ds := []) place11.mkE (by kernel_rfl) rfl rfl trivial (fun hHeld => ?_); refine with_tabW place11.tab place11.bits (fun HT_ HW_ => ?_)
       clear hHeld
       generalize W15.drew = W16 at HS HT2 HB ⊢
       have hbl := HBL.out
       have hS2 := (HS.out.cutW (m := ways.length) (by rw [List.length_append]; omega)).cutB (m := ways.length) (by rw [List.length_append]; omega)
       rw [List.take_left' rfl, List.take_left' hbl] at hS2
       clear HS hbl
       have HS := Aside0.mk hS2
       have HT := Aside0.mk HT2.out
       clear hS2 HT2
       have hgw : W16.cell? ⟨gw, 0, none⟩ = some (.slice A3 (ways.length + 1) c3) := (blk_cell HS.out.cw 0).trans rfl
       have hgb : W16.cell? ⟨gb, 0, none⟩ = some (.slice A4 (boxes.length + 1) c4) := (blk_cell HS.out.cx 0).trans rfl
       have hgf := blk_frozen HS.out.cw 0
       have hgb2 : (W16.setCell ⟨gw, 0, none⟩ (.slice A3 ways.length c3)).cell? ⟨gb, 0, none⟩ = some (.slice A4 (boxes.length + 1) c4) := (cell_far (p := ⟨gw, 0, none⟩) (blk_ne HS.out.cx HS.out.cw (by decide)) _).trans hgb
       refine pz_ HT_ 1 (some 53) place11.mk1 ?_
       refine pz_ HT_ 4 (some 56) place11.mk1_4 ?_
       refine join_ (σ := Unit) 1 place11.mk0_1_2_3_4_5_6 (fun _ => [(52, (.slice A3 (ways.length + 1) c3)), (54, (.slice A3 ways.length c3)), (55, (.slice A4 (boxes.length + 1) c4)), (57, (.slice A4 ways.length c4))]) (fun _ w' => w' = W16.setCell ⟨gw, 0, none⟩ (.slice A3 ways.length c3)) ?_ ?_
       rotate_left
       ·
        intro hCont; refine two_ (i := 0) (j := 3) (Ni := some 52) (Nj := some 55) place11.mk0_1_4 place11.mk1_3_4 rfl rfl rfl rfl (two_of HT_.out (by kernel_rfl)) (by decide) (by decide) (fun K hK => ?_) (fun K hK => ?_)
        ·
         skip; refine value_ (w1 := ?_) (v := ?_) (by rfl) rfl ?_ ?_; rotate_left 2
         ·
          go_simp
          constructor
          ·
           rfl
          ·
           rfl
         refine hK.out _ _ trivial (fun _ => ?_); clear hK K; refine na_ ?_; refine pz_ HT_ 2 (some 54) place11.mk0_1_2_4 ?_; refine two_ (i := 3) (j := 6) (Ni := some 55) (Nj := none) place11.mk0_1_2_3_4 place11.mk0_1_2_4_6 rfl rfl rfl rfl (two_of HT_.out (by kernel_rfl)) (by decide) (by decide) (fun K hK => ?_) (fun K hK => ?_)
         ·
          skip; refine value_ (w1 := ?_) (v := ?_) (by rfl) rfl ?_ ?_; rotate_left 2
          ·
           go_simp
           constructor
           ·
            rfl
           ·
            rfl
          refine hK.out _ _ trivial (fun _ => ?_); clear hK K; refine na_ ?_; refine pz_ HT_ 5 (some 57) place11.mk0_1_2_3_4_5 ?_; refine one_ (i := 6) (N := none) place11.mk0_1_2_3_4_5_6 rfl rfl (one_of HT_.out (by kernel_rfl)) (by decide) (fun K hK => ?_); refine skip_ (w1 := ?_) (by rfl) rfl ?_ ?_; rotate_left
          ·
           go_simp; rfl
          refine hK.out _ _ trivial (fun _ => ?_); clear hK K; exact norm_ (by simp only [putAll, Act.put, List.setIfInBounds_toArray, List.set_cons_zero, List.set_cons_succ]) (hCont () _ rfl)
         ·
          skip; refine skip_ (w1 := ?_) (by rfl) rfl ?_ ?_; rotate_left
          ·
           go_simp; rfl
          refine hK.out _ _ trivial (fun _ => ?_); clear hK K; refine one_ (i := 3) (N := some 55) place11.mk0_1_2_3_4_6 rfl rfl (one_of HT_.out (by kernel_rfl)) (by decide) (fun K hK => ?_); refine value_ (w1 := ?_) (v := ?_) (by rfl) rfl ?_ ?_; rotate_left 2
          ·
           go_simp
           constructor
           ·
            rfl
           ·
            rfl
          refine hK.out _ _ trivial (fun _ => ?_); clear hK K; refine na_ ?_; refine pz_ HT_ 5 (some 57) place11.mk0_1_2_3_4_5_6 ?_; exact norm_ (by simp only [putAll, Act.put, List.setIfInBounds_toArray, List.set_cons_zero, List.set_cons_succ]) (hCont () _ rfl)
        ·
         skip; refine value_ (w1 := ?_) (v := ?_) (by rfl) rfl ?_ ?_; rotate_left 2
         ·
          go_simp
          constructor
          ·
           rfl
          ·
           rfl
         refine hK.out _ _ trivial (fun _ => ?_); clear hK K; refine na_ ?_; refine pz_ HT_ 5 (some 57) place11.mk1_3_4_5 ?_; refine one_ (i := 0) (N := some 52) place11.mk0_1_3_4_5 rfl rfl (one_of HT_.out (by kernel_rfl)) (by decide) (fun K hK => ?_); refine value_ (w1 := ?_) (v := ?_) (by rfl) rfl ?_ ?_; rotate_left 2
         ·
          go_simp
          constructor
          ·
           rfl
          ·
           rfl
         refine hK.out _ _ trivial (fun _ => ?_); clear hK K; refine na_ ?_; refine pz_ HT_ 2 (some 54) place11.mk0_1_2_3_4_5 ?_; refine one_ (i := 6) (N := none) place11.mk0_1_2_3_4_5_6 rfl rfl (one_of HT_.out (by kernel_rfl)) (by decide) (fun K hK => ?_); refine skip_ (w1 := ?_) (by rfl) rfl ?_ ?_; rotate_left
         ·
          go_simp; rfl
         refine hK.out _ _ trivial (fun _ => ?_); clear hK K; exact norm_ (by simp only [putAll, Act.put, List.setIfInBounds_toArray, List.set_cons_zero, List.set_cons_succ]) (hCont () _ rfl)
       rintro - W17 rfl
       clear hgw hgb hgf hgb2
       have hT_ := H2.out (ys ++ acc ++ resY_ ct pa) W16 gw _ _ (.slice A3 ways.length c3) HS.out.yw HS.out.cw (.inl rfl) HT.out
       have hS_ := HS.out.setW
       have hB_ := below_set (j := 0) (v := (.slice A3 ways.length c3)) HB.out HS.out.bw
       clear HS HT HB
       generalize W16.setCell ⟨gw, 0, none⟩ (.slice A3 ways.length c3) = W17 at hT_ hS_ hB_ ⊢
       have HS := Aside0.mk hS_
       have HT := Aside0.mk hT_
       have HB := Aside0.mk hB_
       clear hT_ hS_ hB_
       refine nb_ ?_
       refine one_ (i := 7) (N := none) place11.mk0_1_2_3_4_5_6_7 rfl rfl (one_of HT_.out (by kernel_rfl)) (by decide) (fun K hK => ?_)
       have hs9 : W17.cell? ⟨gb, 0, none⟩ = some (.slice A4 (boxes.length + 1) c4) := (blk_cell HS.out.cx 0).trans rfl
       have hfs9 := blk_frozen HS.out.cx 0
       refine skip_ (w1 := ?_) (by rfl) rfl ?_ ?_
       rotate_left
       ·
        go_simp; rfl
       refine hK.out _ _ trivial (fun _ => ?_)
       clear hK K
       clear hs9 hfs9
       have hT_ := H2.out (ys ++ acc ++ resY_ ct pa) W17 gb _ _ (.slice A4 ways.length c4) HS.out.yb HS.out.cx (.inr rfl) HT.out
       have hS_ := HS.out.setB
       have hB_ := below_set (j := 0) (v := (.slice A4 ways.length c4)) HB.out HS.out.bb
       clear HS HT HB
       generalize W17.setCell ⟨gb, 0, none⟩ (.slice A4 ways.length c4) = W18 at hT_ hS_ hB_ ⊢
       have HS := Aside0.mk hS_
       have HT := Aside0.mk hT_
       have HB := Aside0.mk hB_
       clear hT_ hS_ hB_
       refine done_ (done_of HT_.out (by kernel_rfl)) ?_
       cases bm with
       | true =>
        obtain ⟨r1, r2⟩ := res_go_ HYS.out HBM.out
        go_wp2
        go_roundg (4 - (kk + 1))
        case measure => have := HG.out; omega
        case rel => exact ⟨kk + 1, acc ++ pa, rest', _, _, by omega, by omega, by go_num, ⟨HP2.out, by rw [HE.out, List.append_assoc]⟩, ⟨r2⟩, HS, ⟨by have := HT.out; rw [r1, List.append_assoc] at this; exact this⟩, HB⟩
       | false =>
        obtain ⟨r1, r2⟩ := res_stop_ HYS.out HBM.out rest'
        go_wp2
        go_ret
        refine ⟨?_, ⟨_, _, HS.out⟩, ?_, HB.out⟩
        ·
         rw [HE.out, r1]
         rfl
        ·
         rw [HE.out, r2]
         exact HT.out
    ·
     have hltz : ¬ (kk : Int) < 4 := by omega
     obtain ⟨hp, e1⟩ := HP.out
     rw [List.drop_of_length_le (by show 4 ≤ kk; omega)] at hp
     unfold catM_ at hp
     obtain rfl := Option.some.inj hp
     rw [List.append_nil] at e1
     subst e1
     go_wp2
     go_ret
     refine ⟨?_, ⟨_, _, HS.out⟩, ?_, HB.out⟩
     ·
      have : resB_ ct ps = true := by
       rcases HYS.out with h | h
       ·
        rw [h]; rfl
       ·
        rw [(List.append_eq_nil_iff.1 h).2]; cases ct <;> rfl
      rw [this]
      rfl
     ·
      have : resY_ ct ps = ps := by
       rcases HYS.out with h | h
       ·
        rw [h]; rfl
       ·
        rw [(List.append_eq_nil_iff.1 h).2]; cases ct <;> rfl
      rw [this]
      exact HT.out
  ·
   rw [if_neg hj] at hp
   cases hp
theorem st_func_ (P : Program) (w : World) (a : Addr) (fn : Fn) (first captured : Array Value) (m : Mode) : (store a (.func fn first captured) m).run P w = stored P w a (.func fn first captured) m := run_store P w a _ m rfl
attribute [local go_sem] st_func_
set_option maxHeartbeats 8000000 in
set_option maxRecDepth 100000 in
theorem each_ (l : List S29) (A0 : Option Addr) (c0 : Nat) (w0 : World) (hr0 : Kd.C k29 w0 A0 l.length l) (hc0 : l.length ≤ c0) (Y : Nat → Prop) (gyf : Nat) (lby : Array Value) (egy : ∀ args w, (callFunc gyf args).run Tryd.prog w = .ok (.enter gyf args) w) (ct : Bool) (St : List (List Int) → World → Prop)
  (hst1 : ∀ ys (W W' : World), (ct = true ∨ ys = []) → (∀ k, Y k → W'.heap[k]? = W.heap[k]?) → St ys W → St ys W')
  (hst2 : ∀ ys (W : World) (g t : Nat) (cs : Array Value) (u : Value), ¬ Y g → W.heap[g]? = some (.cells cs t (0, 0)) → (t = 40 ∨ t = 79) → St ys W → St ys (W.setCell ⟨g, 0, none⟩ u))
  (hst3 : ∀ ys (W : World), St ys W → St ys W.drew)
  (hy : ∀ ys (ways : List Int) (v : Value) (W : World), (ct = true ∨ ys = []) → (∀ k, Y k → k < W.heap.size) → St ys W → (Kd.int .i64).R 3 W w0.heap.size (fun k => ¬ Y k) v ways → Below w0.heap.size w0 W → Calls Tryd.prog gyf (#[v] ++ lby) W fun e w' => e = .returned (.bool ct) ∧ St (ys ++ [ways]) w' ∧ FrY Y W w' ∧ Below w0.heap.size w0 w')
  (vi : Value) (idx : List Int) (hidx : idx.length < 1000000) (ps : List (List Int)) (w : World) (hp : plc_ l idx idx.length [] [] = some ps) (hYs : ∀ k, Y k → k < w.heap.size) (hI : IdxR Y w w0 (.slice none 0 0) vi idx) (hSt : St [] w) (hB : Below w0.heap.size w0 w) :
  Calls Tryd.prog 77 #[.slice A0 l.length c0, vi, (.func (.func gyf) #[] lby)] w fun e w' => e = .returned (.tuple #[]) ∧ St (resY_ ct ps) w' ∧ Below w0.heap.size w0 w' := by
 have HR := Aside0.mk hr0
 have HC := Aside0.mk hc0
 have HY := Aside0.mk hy
 have H1 := Aside0.mk hst1
 have H2 := Aside0.mk hst2
 have H3 := Aside0.mk hst3
 have HP := Aside0.mk hp
 have HYS := Aside0.mk hYs
 have HT := Aside0.mk hSt
 have HB := Aside0.mk hB
 obtain ⟨Ai, ci, rfl⟩ := hI.slice_
 have HI := Aside0.mk hI
 clear hr0 hc0 hy hst1 hst2 hst3 hp hYs hSt hB hI
 go_enter Tryd.func77, Tryd.ntmps77
 go_wp2_with (first | ((with_reducible refine gate_dst (N := 3) rfl ?_); refine box_event ?hg (N := 3) ?hd (cs := #[.slice A0 l.length c0]) (t := 36) ?hr ?_; (case hd => rfl); (case hg => rfl); (case hr => first | (go_simp; done) | (go_simp; rfl)); intro gl hg W1 hbox hb; have hny : ¬ Y gl := (fun y => by have := HYS.out gl y; omega); have hge : w0.heap.size ≤ gl := (by rw [hg]; exact below_size HB.out); have hT_ := H1.out [] w W1 (.inr rfl) (fun k hk => hb.block k (HYS.out k hk)) HT.out; replace HT := Aside0.mk hT_; clear hT_; replace HYS := Aside0.mk (fun k hk => Nat.lt_of_lt_of_le (HYS.out k hk) hb.size : ∀ k, Y k → k < W1.heap.size); replace HI := Aside0.mk (HI.out.step (fun k _ _ hl => hb.block k hl)); replace HB := Aside0.mk (below_step HB.out hb); have Bgl := Aside0.mk hbox; have Ngl := Aside0.mk hny; have Ggl := Aside0.mk hge; clear hg hbox hb hny hge) | ((with_reducible refine gate_dst (N := 4) rfl ?_); refine box_event ?hg (N := 4) ?hd (cs := #[.slice Ai idx.length ci]) (t := 40) ?hr ?_; (case hd => rfl); (case hg => rfl); (case hr => first | (go_simp; done) | (go_simp; rfl)); intro gi hg W2 hbox hb; have hny : ¬ Y gi := (fun y => by have := HYS.out gi y; omega); have hge : w0.heap.size ≤ gi := (by rw [hg]; exact below_size HB.out); have hT_ := H1.out [] W1 W2 (.inr rfl) (fun k hk => hb.block k (HYS.out k hk)) HT.out; replace HT := Aside0.mk hT_; clear hT_; replace HYS := Aside0.mk (fun k hk => Nat.lt_of_lt_of_le (HYS.out k hk) hb.size : ∀ k, Y k → k < W2.heap.size); replace HI := Aside0.mk (HI.out.step (fun k _ _ hl => hb.block k hl)); replace HB := Aside0.mk (below_step HB.out hb); replace Bgl := Aside0.mk (bb_ Bgl.out hb); have Bgi := Aside0.mk hbox; have Ngi := Aside0.mk hny; have Ggi := Aside0.mk hge; clear hg hbox hb hny hge) | ((with_reducible refine gate_dst (N := 5) rfl ?_); refine box_event ?hg (N := 5) ?hd (cs := #[(.func (.func gyf) #[] lby)]) (t := 91) ?hr ?_; (case hd => rfl); (case hg => rfl); (case hr => first | (go_simp; done) | (go_simp; rfl)); intro gy hg W3 hbox hb; have hny : ¬ Y gy := (fun y => by have := HYS.out gy y; omega); have hge : w0.heap.size ≤ gy := (by rw [hg]; exact below_size HB.out); have hT_ := H1.out [] W2 W3 (.inr rfl) (fun k hk => hb.block k (HYS.out k hk)) HT.out; replace HT := Aside0.mk hT_; clear hT_; replace HYS := Aside0.mk (fun k hk => Nat.lt_of_lt_of_le (HYS.out k hk) hb.size : ∀ k, Y k → k < W3.heap.size); replace HI := Aside0.mk (HI.out.step (fun k _ _ hl => hb.block k hl)); replace HB := Aside0.mk (below_step HB.out hb); replace Bgl := Aside0.mk (bb_ Bgl.out hb); replace Bgi := Aside0.mk (bb_ Bgi.out hb); have Bgy := Aside0.mk hbox; have Ngy := Aside0.mk hny; have Ggy := Aside0.mk hge; clear hg hbox hb hny hge) | ((with_reducible refine gate_dst (N := 6) rfl ?_); refine box_event ?hg (N := 6) ?hd (cs := #[.slice none 0 0]) (t := 40) ?hr ?_; (case hd => rfl); (case hg => rfl); (case hr => first | (go_simp; done) | (go_simp; rfl)); intro gw hg W4 hbox hb; have hny : ¬ Y gw := (fun y => by have := HYS.out gw y; omega); have hge : w0.heap.size ≤ gw := (by rw [hg]; exact below_size HB.out); have hne : gi ≠ gw := nl_ hg Bgi.out; have NE := Aside0.mk hne; clear hne; have hT_ := H1.out [] W3 W4 (.inr rfl) (fun k hk => hb.block k (HYS.out k hk)) HT.out; replace HT := Aside0.mk hT_; clear hT_; replace HYS := Aside0.mk (fun k hk => Nat.lt_of_lt_of_le (HYS.out k hk) hb.size : ∀ k, Y k → k < W4.heap.size); replace HI := Aside0.mk (HI.out.step (fun k _ _ hl => hb.block k hl)); replace HB := Aside0.mk (below_step HB.out hb); replace Bgl := Aside0.mk (bb_ Bgl.out hb); replace Bgi := Aside0.mk (bb_ Bgi.out hb); replace Bgy := Aside0.mk (bb_ Bgy.out hb); have Bgw := Aside0.mk hbox; have Ngw := Aside0.mk hny; have Ggw := Aside0.mk hge; clear hg hbox hb hny hge) | ((with_reducible refine gate_dst (N := 7) rfl ?_); refine box_event ?hg (N := 7) ?hd (cs := #[.slice none 0 0]) (t := 79) ?hr ?_; (case hd => rfl); (case hg => rfl); (case hr => first | (go_simp; done) | (go_simp; rfl)); intro gb hg W5 hbox hb; have hny : ¬ Y gb := (fun y => by have := HYS.out gb y; omega); have hge : w0.heap.size ≤ gb := (by rw [hg]; exact below_size HB.out); have hT_ := H1.out [] W4 W5 (.inr rfl) (fun k hk => hb.block k (HYS.out k hk)) HT.out; replace HT := Aside0.mk hT_; clear hT_; replace HYS := Aside0.mk (fun k hk => Nat.lt_of_lt_of_le (HYS.out k hk) hb.size : ∀ k, Y k → k < W5.heap.size); replace HI := Aside0.mk (HI.out.step (fun k _ _ hl => hb.block k hl)); replace HB := Aside0.mk (below_step HB.out hb); replace Bgl := Aside0.mk (bb_ Bgl.out hb); replace Bgi := Aside0.mk (bb_ Bgi.out hb); replace Bgy := Aside0.mk (bb_ Bgy.out hb); replace Bgw := Aside0.mk (bb_ Bgw.out hb); have Bgb := Aside0.mk hbox; have Ngb := Aside0.mk hny; have Ggb := Aside0.mk hge; clear hg hbox hb hny hge) | ((with_reducible refine gate_dst (N := 8) rfl ?_); refine box_event ?hg (N := 8) ?hd (cs := #[.nilFunc]) (t := 108) ?hr ?_; (case hd => rfl); (case hg => rfl); (case hr => first | (go_simp; done) | (go_simp; rfl)); intro gf hg W6 hbox hb; have hny : ¬ Y gf := (fun y => by have := HYS.out gf y; omega); have hge : w0.heap.size ≤ gf := (by rw [hg]; exact below_size HB.out); have hT_ := H1.out [] W5 W6 (.inr rfl) (fun k hk => hb.block k (HYS.out k hk)) HT.out; replace HT := Aside0.mk hT_; clear hT_; replace HYS := Aside0.mk (fun k hk => Nat.lt_of_lt_of_le (HYS.out k hk) hb.size : ∀ k, Y k → k < W6.heap.size); replace HI := Aside0.mk (HI.out.step (fun k _ _ hl => hb.block k hl)); replace HB := Aside0.mk (below_step HB.out hb); replace Bgl := Aside0.mk (bb_ Bgl.out hb); replace Bgi := Aside0.mk (bb_ Bgi.out hb); replace Bgy := Aside0.mk (bb_ Bgy.out hb); replace Bgw := Aside0.mk (bb_ Bgw.out hb); replace Bgb := Aside0.mk (bb_ Bgb.out hb); have Bgf := Aside0.mk hbox; have Ngf := Aside0.mk hny; have Ggf := Aside0.mk hge; clear hg hbox hb hny hge; have hsf : W6.cell? ⟨gf, 0, none⟩ = some .nilFunc := (blk_cell Bgf.out 0).trans rfl; have hff := blk_frozen Bgf.out 0) | ((with_reducible refine gate_store (t := 108) (p := 8) rfl ?_); refine store_event (t := 108) (p := 8) (v := ?vo_) (w1 := (W6.setCell ⟨gf, 0, none⟩ (.func (.func 102) #[] #[.pointer (some ⟨gw, 0, none⟩), .pointer (some ⟨gi, 0, none⟩), .pointer (some ⟨gy, 0, none⟩), .pointer (some ⟨gl, 0, none⟩), .pointer (some ⟨gb, 0, none⟩), .pointer (some ⟨gf, 0, none⟩)]))) ?hg ?ho ?hn ?hr ?_; (case ho => rfl); (case hg => rfl); (case hn => rfl); (case hr => first | (go_simp; done) | (go_simp; rfl)); intro W7 hw; have HWE := Aside0.mk hw; clear hw hsf hff; have hcf : W7.cell? ⟨gf, 0, none⟩ = some (.func (.func 102) #[] #[.pointer (some ⟨gw, 0, none⟩), .pointer (some ⟨gi, 0, none⟩), .pointer (some ⟨gy, 0, none⟩), .pointer (some ⟨gl, 0, none⟩), .pointer (some ⟨gb, 0, none⟩), .pointer (some ⟨gf, 0, none⟩)]) := (by rw [HWE.out]; exact (blk_cell (blk_put Bgf.out 0 (.func (.func 102) #[] #[.pointer (some ⟨gw, 0, none⟩), .pointer (some ⟨gi, 0, none⟩), .pointer (some ⟨gy, 0, none⟩), .pointer (some ⟨gl, 0, none⟩), .pointer (some ⟨gb, 0, none⟩), .pointer (some ⟨gf, 0, none⟩)]) rfl) 0).trans rfl)) | (go_at_call 102; have hPl : PlS Y W7 w0 gw gi gy gl gb gf (.slice none 0 0) (.slice none 0 0) (.slice Ai idx.length ci) (.slice A0 l.length c0) (.slice none 0 0) (.slice none 0 0) (.func (.func gyf) #[] lby) (.func (.func 102) #[] #[.pointer (some ⟨gw, 0, none⟩), .pointer (some ⟨gi, 0, none⟩), .pointer (some ⟨gy, 0, none⟩), .pointer (some ⟨gl, 0, none⟩), .pointer (some ⟨gb, 0, none⟩), .pointer (some ⟨gf, 0, none⟩)]) [] idx [] := (by rw [HWE.out]; exact ⟨blk_far (p := ⟨gf, 0, none⟩) Bgw.out (blk_ne Bgw.out Bgf.out (by decide)) (.func (.func 102) #[] #[.pointer (some ⟨gw, 0, none⟩), .pointer (some ⟨gi, 0, none⟩), .pointer (some ⟨gy, 0, none⟩), .pointer (some ⟨gl, 0, none⟩), .pointer (some ⟨gb, 0, none⟩), .pointer (some ⟨gf, 0, none⟩)]), blk_far (p := ⟨gf, 0, none⟩) Bgi.out (blk_ne Bgi.out Bgf.out (by decide)) (.func (.func 102) #[] #[.pointer (some ⟨gw, 0, none⟩), .pointer (some ⟨gi, 0, none⟩), .pointer (some ⟨gy, 0, none⟩), .pointer (some ⟨gl, 0, none⟩), .pointer (some ⟨gb, 0, none⟩), .pointer (some ⟨gf, 0, none⟩)]), blk_far (p := ⟨gf, 0, none⟩) Bgy.out (blk_ne Bgy.out Bgf.out (by decide)) (.func (.func 102) #[] #[.pointer (some ⟨gw, 0, none⟩), .pointer (some ⟨gi, 0, none⟩), .pointer (some ⟨gy, 0, none⟩), .pointer (some ⟨gl, 0, none⟩), .pointer (some ⟨gb, 0, none⟩), .pointer (some ⟨gf, 0, none⟩)]), blk_far (p := ⟨gf, 0, none⟩) Bgl.out (blk_ne Bgl.out Bgf.out (by decide)) (.func (.func 102) #[] #[.pointer (some ⟨gw, 0, none⟩), .pointer (some ⟨gi, 0, none⟩), .pointer (some ⟨gy, 0, none⟩), .pointer (some ⟨gl, 0, none⟩), .pointer (some ⟨gb, 0, none⟩), .pointer (some ⟨gf, 0, none⟩)]), blk_far (p := ⟨gf, 0, none⟩) Bgb.out (blk_ne Bgb.out Bgf.out (by decide)) (.func (.func 102) #[] #[.pointer (some ⟨gw, 0, none⟩), .pointer (some ⟨gi, 0, none⟩), .pointer (some ⟨gy, 0, none⟩), .pointer (some ⟨gl, 0, none⟩), .pointer (some ⟨gb, 0, none⟩), .pointer (some ⟨gf, 0, none⟩)]), blk_put Bgf.out 0 (.func (.func 102) #[] #[.pointer (some ⟨gw, 0, none⟩), .pointer (some ⟨gi, 0, none⟩), .pointer (some ⟨gy, 0, none⟩), .pointer (some ⟨gl, 0, none⟩), .pointer (some ⟨gb, 0, none⟩), .pointer (some ⟨gf, 0, none⟩)]) rfl, NE.out, Ggw.out, Ggb.out, Ngw.out, Ngi.out, Ngy.out, Ngl.out, Ngb.out, Ngf.out, fun k hk => Nat.lt_of_lt_of_le (HYS.out k hk) (KeepBut.set_ (KeepBut.refl W6 gf none) 0 (.func (.func 102) #[] #[.pointer (some ⟨gw, 0, none⟩), .pointer (some ⟨gi, 0, none⟩), .pointer (some ⟨gy, 0, none⟩), .pointer (some ⟨gl, 0, none⟩), .pointer (some ⟨gb, 0, none⟩), .pointer (some ⟨gf, 0, none⟩)])).1, HI.out.set_ Bgf.out (by decide) (.func (.func 102) #[] #[.pointer (some ⟨gw, 0, none⟩), .pointer (some ⟨gi, 0, none⟩), .pointer (some ⟨gy, 0, none⟩), .pointer (some ⟨gl, 0, none⟩), .pointer (some ⟨gb, 0, none⟩), .pointer (some ⟨gf, 0, none⟩)]), Kd.R_nil _ _ _ _ _, Kd.R_nil _ _ _ _ _⟩); have hTT : St [] W7 := (by rw [HWE.out]; exact H1.out [] W6 _ (.inr rfl) (fun k hk => Below.heap_setCell W6 ⟨gf, 0, none⟩ _ k (fun e => Ngf.out ((show k = gf from e) ▸ hk))) HT.out); have hBB : Below w0.heap.size w0 W7 := (by rw [HWE.out]; exact below_set (j := 0) HB.out Ggf.out); refine (from_ l A0 c0 w0 HR.out HC.out Y gyf lby egy ct St H1.out H2.out H3.out HY.out gw gi gy gl gb gf _ idx hidx idx.length [] [] [] ps W7 _ _ (by simp) rfl HP.out (.inr rfl) hPl hTT hBB).mono ?_; rintro e W8 ⟨rfl, hq_, hT8, hB8⟩; clear hq_ hPl hTT hBB hcf))
 first | go_end0 | ((try simp only [Exit.inBlock, Exit.then]); refine bodyPost_ret (results_none rfl _ _ _) rfl ?_)
 exact ⟨rfl, by simpa using hT8, hB8⟩
def FirstS (base gF gD : Nat) (ys : List (List Int)) (w : World) : Prop := gF < w.heap.size ∧ gD < w.heap.size ∧ ∃ v, w.heap[gF]? = some (.cells #[v] 40 (0, 0)) ∧ w.heap[gD]? = some (.cells #[.bool (!ys.isEmpty)] 4 (0, 0)) ∧ ((ys = [] ∧ v = .slice none 0 0) ∨ ∃ p, ys = [p] ∧ (Kd.int .i64).R 3 w base (fun _ => True) v p)
set_option maxHeartbeats 8000000 in
set_option maxRecDepth 100000 in
theorem firstYield_ (base gF gD : Nat) (hne : gF ≠ gD) (hbF : base ≤ gF) (hbD : base ≤ gD) (ways : List Int) (v : Value) (W w0 : World) (hw0 : base = w0.heap.size) (hS : FirstS base gF gD [] W) (hv : (Kd.int .i64).R 3 W base (fun k => ¬ (k = gF ∨ k = gD)) v ways) (hB : Below base w0 W) :
  Calls Tryd.prog 105 (#[v] ++ #[.pointer (some ⟨gF, 0, none⟩), .pointer (some ⟨gD, 0, none⟩)]) W fun e w' => e = .returned (.bool false) ∧ FirstS base gF gD ([] ++ [ways]) w' ∧ FrY (fun k => k = gF ∨ k = gD) W w' ∧ Below base w0 w' := by
 subst hw0
 show Calls Tryd.prog 105 #[v, .pointer (some ⟨gF, 0, none⟩), .pointer (some ⟨gD, 0, none⟩)] W _
 obtain ⟨l1, l2, v0, hF, hD, _⟩ := hS
 obtain ⟨A, c, rfl⟩ := Kd.R_slice hv
 have hF2 := blk_put hF 0 (.slice A ways.length c) rfl
 have hD2 : (W.setCell ⟨gF, 0, none⟩ (.slice A ways.length c)).heap[gD]? = _ := blk_far hD (p := ⟨gF, 0, none⟩) (Ne.symm hne) (.slice A ways.length c)
 have hF3 := blk_far hF2 (p := ⟨gD, 0, none⟩) hne (.bool true)
 have hD3 := blk_put hD2 0 (.bool true) rfl
 have hR1 := Kd.R_set hv hF (by decide) 0 (.slice A ways.length c)
 have hR2 := Kd.R_set hR1 hD2 (by decide) 0 (.bool true)
 have hB2 := below_set (j := 0) (v := .bool true) (below_set (j := 0) (v := .slice A ways.length c) hB hbF) hbD
 have hk : KeepBut W (W.setCell ⟨gF, 0, none⟩ (.slice A ways.length c)) gF none := KeepBut.set_ (KeepBut.refl _ _ _) 0 _
 have hk2 : KeepBut (W.setCell ⟨gF, 0, none⟩ (.slice A ways.length c)) ((W.setCell ⟨gF, 0, none⟩ (.slice A ways.length c)).setCell ⟨gD, 0, none⟩ (.bool true)) gD none := KeepBut.set_ (KeepBut.refl _ _ _) 0 _
 have hcF : W.cell? ⟨gF, 0, none⟩ = some v0 := (blk_cell hF 0).trans rfl
 have hfF := blk_frozen hF 0
 have hcD : (W.setCell ⟨gF, 0, none⟩ (.slice A ways.length c)).cell? ⟨gD, 0, none⟩ = some (.bool (!([] : List (List Int)).isEmpty)) := (blk_cell hD2 0).trans rfl
 have hfD := blk_frozen hD2 0
 have FIN : FirstS w0.heap.size gF gD [ways] ((W.setCell ⟨gF, 0, none⟩ (.slice A ways.length c)).setCell ⟨gD, 0, none⟩ (.bool true)) := ⟨blk_lt hF3, blk_lt hD3, _, hF3, hD3, .inr ⟨ways, rfl, Kd.R_mono hR2 (fun _ _ => trivial)⟩⟩
 have FRY : FrY (fun k => k = gF ∨ k = gD) W ((W.setCell ⟨gF, 0, none⟩ (.slice A ways.length c)).setCell ⟨gD, 0, none⟩ (.bool true)) := ⟨Nat.le_trans hk.1 hk2.1, fun k hl hY => (hk2.2 k (Nat.lt_of_lt_of_le hl hk.1) (fun e => hY (.inr e)) (by simp)).trans (hk.2 k hl (fun e => hY (.inl e)) (by simp))⟩
 have FA := Aside0.mk FIN
 have FB := Aside0.mk FRY
 have FC := Aside0.mk hB2
 clear hF hD hF2 hD2 hF3 hD3 hR1 hR2 hB2 hk hk2 FIN FRY hv hB
 go_enter Tryd.func105, Tryd.ntmps105
 go_wp2
 go_ret
 exact ⟨rfl, FA.out, FB.out, FC.out⟩
theorem FirstS.keep {base gF gD : Nat} {ys : List (List Int)} {W W' : World} (h : FirstS base gF gD ys W) (hy : ys = []) (hF : W'.heap[gF]? = W.heap[gF]?) (hD : W'.heap[gD]? = W.heap[gD]?) : FirstS base gF gD ys W' := by
 subst hy
 obtain ⟨l1, l2, v, h1, h2, h3⟩ := h
 rw [← hF] at h1
 rw [← hD] at h2
 refine ⟨blk_lt h1, blk_lt h2, v, h1, h2, .inl ?_⟩
 rcases h3 with h3 | ⟨p, hp, _⟩
 ·
  exact h3
 ·
  cases hp
theorem FirstS.set_ {base gF gD : Nat} {ys : List (List Int)} {W : World} (h : FirstS base gF gD ys W) {g t : Nat} {cs : Array Value} (u : Value) (hg : ¬ (g = gF ∨ g = gD)) (hc : W.heap[g]? = some (.cells cs t (0, 0))) (ht : t = 40 ∨ t = 79) : FirstS base gF gD ys (W.setCell ⟨g, 0, none⟩ u) := by
 obtain ⟨l1, l2, v, h1, h2, h3⟩ := h
 have k1 := blk_far h1 (p := ⟨g, 0, none⟩) (fun e => hg (.inl e.symm)) u
 have k2 := blk_far h2 (p := ⟨g, 0, none⟩) (fun e => hg (.inr e.symm)) u
 refine ⟨blk_lt k1, blk_lt k2, v, k1, k2, ?_⟩
 rcases h3 with h3 | ⟨p, hp, hr⟩
 ·
  exact .inl h3
 ·
  refine .inr ⟨p, hp, Kd.R_set hr hc (fun q hq => ?_) 0 u⟩
  rw [List.mem_singleton.1 hq]
  rcases ht with rfl | rfl <;> decide
theorem FirstS.drew {base gF gD : Nat} {ys : List (List Int)} {W : World} (h : FirstS base gF gD ys W) : FirstS base gF gD ys W.drew := by
 obtain ⟨l1, l2, v, h1, h2, h3⟩ := h
 refine ⟨l1, l2, v, blk_drew h1, blk_drew h2, ?_⟩
 rcases h3 with h3 | ⟨p, hp, hr⟩
 ·
  exact .inl h3
 ·
  exact .inr ⟨p, hp, Kd.R_drew hr⟩
def impl_firstPlacing.f (l0 : List S29) (l1 : List Int) : Option (List Int × Bool) :=
 if l1.length < 1000000 then (plc_ l0 l1 l1.length [] []).bind fun ps => some (ps.headD [], !ps.isEmpty) else none
def firstP4.T : Bool × List (List Nat × List Nat) := (true, [([], []), ([], []), ([0, 0], [0]), ([1, 2, 0, 1, 2], [1])])
def firstP4.B : List Nat := [0, 0, 1, 7]
theorem firstP4.tab : rtab .any (opsOf Tryd.f80 4) = firstP4.T := by kernel_rfl
theorem firstP4.bits : waitsOk firstP4.T.2 firstP4.B = true := by kernel_rfl
abbrev firstP4.mkE : Array Bool := #[false, false, false, false]
abbrev firstP4.mk0 : Array Bool := #[true, false, false, false]
abbrev firstP4.mk0_1 : Array Bool := #[true, true, false, false]
abbrev firstP4.mk0_1_2 : Array Bool := #[true, true, true, false]
abbrev firstP4.mk0_1_2_3 : Array Bool := #[true, true, true, true]
set_option maxHeartbeats 8000000 in
set_option maxRecDepth 100000 in
theorem impl_firstPlacing.calls (A0 : Option Addr) (c0 : Nat) (l0 : List S29) (A1 : Option Addr) (c1 : Nat) (l1 : List Int) (r1 : List Int) (r2 : Bool) (w : World) (hr0 : Kd.C k29 w A0 l0.length l0) (hc0 : l0.length ≤ c0) (hr1 : Kd.C (Kd.int .i64) w A1 l1.length l1) (hc1 : l1.length ≤ c1) (h : impl_firstPlacing.f l0 l1 = some (r1, r2)) :
  Calls Tryd.prog 80 #[.slice A0 l0.length c0, .slice A1 l1.length c1] w fun e w' => ∃ v0_ : Value, e = .returned (.tuple #[v0_, .bool r2]) ∧ Kd.R (Kd.int .i64) 3 w' w.heap.size (fun _ => True) v0_ r1 ∧ Below w.heap.size w w' := by
 unfold impl_firstPlacing.f at h
 by_cases hi : l1.length < 1000000
 ·
  rw [if_pos hi] at h
  obtain ⟨ps, hp, h⟩ := Option.bind_eq_some_iff.mp h
  simp only [Option.some.injEq, Prod.mk.injEq] at h
  obtain ⟨rfl, rfl⟩ := h
  have HR0 := Aside0.mk hr0
  have HC0 := Aside0.mk hc0
  have HR1 := Aside0.mk hr1
  have HC1 := Aside0.mk hc1
  have HI := Aside0.mk hi
  have HP := Aside0.mk hp
  obtain ⟨b, hb⟩ : ∃ b, (!ps.isEmpty) = b := ⟨_, rfl⟩
  rw [hb]
  have HBB := Aside0.mk hb
  clear hr0 hc0 hr1 hc1 hi hp hb
  go_enter Tryd.func80, Tryd.ntmps80
  go_wp2_with (first | ((with_reducible refine gate_dst (N := 6) rfl ?_); refine box_event ?hg (N := 6) ?hd (cs := #[.slice none 0 0]) (t := 40) ?hr ?_; (case hd => rfl); (case hg => rfl); (case hr => first | (go_simp; done) | (go_simp; rfl)); intro gF hg W1 hbox hb; have hge : w.heap.size ≤ gF := (by rw [hg]; exact Nat.le_refl _); have BF := Aside0.mk hbox; have GF := Aside0.mk hge; have HB := Aside0.mk hb; clear hg hbox hb hge) | ((with_reducible refine gate_dst (N := 7) rfl ?_); refine box_event ?hg (N := 7) ?hd (cs := #[.bool false]) (t := 4) ?hr ?_; (case hd => rfl); (case hg => rfl); (case hr => first | (go_simp; done) | (go_simp; rfl)); intro gD hg W2 hbox hb; have hge : w.heap.size ≤ gD := (by rw [hg]; exact below_size HB.out); have hne : gF ≠ gD := nl_ hg BF.out; replace BF := Aside0.mk (bb_ BF.out hb); have BD := Aside0.mk hbox; have GD := Aside0.mk hge; have NE := Aside0.mk hne; replace HB := Aside0.mk (below_step HB.out hb); clear hg hbox hb hge hne) | ((with_reducible refine gate_store (t := 4) (p := 7) rfl ?_); have hsd : W2.cell? ⟨gD, 0, none⟩ = some (.bool false) := (blk_cell BD.out 0).trans rfl; have hfd := blk_frozen BD.out 0; refine store_event (t := 4) (p := 7) (v := ?vo_) (w1 := (W2.setCell ⟨gD, 0, none⟩ (.bool false))) ?hg ?ho ?hn ?hr ?_; (case ho => rfl); (case hg => rfl); (case hn => rfl); (case hr => first | (go_simp; done) | (go_simp; rfl)); intro W3 hw; replace BF := Aside0.mk (show W3.heap[gF]? = some (.cells #[.slice none 0 0] 40 (0, 0)) from by rw [hw]; exact blk_far (p := ⟨gD, 0, none⟩) BF.out NE.out (.bool false)); replace BD := Aside0.mk (show W3.heap[gD]? = some (.cells #[.bool false] 4 (0, 0)) from by rw [hw]; exact blk_put BD.out 0 (.bool false) rfl); replace HB := Aside0.mk (show Below w.heap.size w W3 from by rw [hw]; exact below_set (j := 0) HB.out GD.out); clear hw hsd hfd) | (go_at_call 77; refine (each_ l0 A0 c0 w HR0.out HC0.out (fun k => k = gF ∨ k = gD) 105 #[.pointer (some ⟨gF, 0, none⟩), .pointer (some ⟨gD, 0, none⟩)] (fun _ _ => rfl) false (FirstS w.heap.size gF gD) (fun ys W W' h hk hS => hS.keep (h.resolve_left (by decide)) (hk _ (.inl rfl)) (hk _ (.inr rfl))) (fun ys W g t cs u hg hc ht hS => hS.set_ u hg hc ht) (fun ys W hS => hS.drew) (fun ys ways v W h hYs hS hv hB => by (obtain rfl : ys = [] := h.resolve_left (by decide)); exact firstYield_ w.heap.size gF gD NE.out GF.out GD.out ways v W w rfl hS hv hB) (.slice A1 l1.length c1) l1 HI.out ps _ HP.out (by rintro k (rfl | rfl); exact blk_lt BF.out; exact blk_lt BD.out) (.inr ⟨A1, c1, rfl, HC1.out, HR1.out⟩) ⟨blk_lt BF.out, blk_lt BD.out, _, BF.out, BD.out, .inl ⟨rfl, rfl⟩⟩ HB.out).mono ?_; rintro e W4 ⟨rfl, hS4, hB4⟩; clear BF BD HB; have HS := Aside0.mk hS4; have HB := Aside0.mk hB4; clear hS4 hB4))
  obtain ⟨_, _, v, hF, hD, hv⟩ := HS.out
  have hw : ∃ A c, v = .slice A (ps.headD []).length c ∧ (Kd.int .i64).R 3 W4 w.heap.size (fun _ => True) v (ps.headD []) := by
   cases ps with
   | nil =>
    rcases hv with ⟨_, rfl⟩ | ⟨p, hp, _⟩
    ·
     exact ⟨none, 0, rfl, Kd.R_nil _ _ _ _ _⟩
    ·
     cases hp
   | cons p t =>
    rcases hv with ⟨hp, _⟩ | ⟨p', hp, hr⟩
    ·
     cases hp
    ·
     injection hp with hp
     subst hp
     obtain ⟨A, c, e⟩ := Kd.R_slice hr
     exact ⟨A, c, e, hr⟩
  obtain ⟨A, c, rfl, hR⟩ := hw
  have eb : (!(resY_ false ps).isEmpty) = b := by rw [← HBB.out]; cases ps <;> rfl
  rw [eb] at hD
  have BF := Aside0.mk hF
  have BD := Aside0.mk hD
  have HRR := Aside0.mk (Kd.R_drew hR)
  replace HB := Aside0.mk (below_drew HB.out)
  clear hF hD hv hR HS eb
  refine start_ (n := 4) (S := fun w' => w'.cell? ⟨gF, 0, none⟩ = some (.slice A (ps.headD []).length c) ∧ w'.cell? ⟨gD, 0, none⟩ = some (.bool b)) (ds := []) firstP4.mkE (by kernel_rfl) rfl rfl ⟨(blk_cell BF.out 0).trans rfl, (blk_cell BD.out 0).trans rfl⟩ (fun hHeld => ?_); refine with_tabW firstP4.tab firstP4.bits (fun HT_ HW_ => ?_)
  generalize W4.drew = W5 at HRR HB hHeld ⊢
  refine tk_ HT_ HW_ hHeld 0 (some 12) firstP4.mk0 ?_
  refine tk_ HT_ HW_ hHeld 1 (some 13) firstP4.mk0_1 ?_
  refine pz_ HT_ 2 (some 4) firstP4.mk0_1_2 ?_
  refine pz_ HT_ 3 (some 5) firstP4.mk0_1_2_3 ?_
  refine done_ (done_of HT_.out (by kernel_rfl)) ?_
  go_wp2
  go_ret2
  exact ⟨_, rr_, HRR.out, HB.out⟩
 ·
  rw [if_neg hi] at h
  cases h
def impl_FirstPlacing.f (k : Nat) (l0 : List (S29)) : Option (List Int × Bool) := (impl_AreLabels.f l0).bind fun t472 => (if t472 = true then ((impl_allIndices.f k (l0.length : Int)).bind fun t473 => ((impl_firstPlacing.f l0 t473).bind fun bt476 => (some (bt476.1, bt476.2)))) else (some (([] : List Int), false)))
set_option maxHeartbeats 8000000 in
set_option maxRecDepth 100000 in
theorem impl_FirstPlacing.calls (k : Nat) (A0 : Option Addr) (c0 : Nat) (l0 : List (S29)) (r1 : List Int) (r2 : Bool) (w : World) (hr0 : Kd.C k29 w A0 l0.length l0) (hc0 : l0.length ≤ c0) (h : impl_FirstPlacing.f k l0 = some (r1, r2)) :
  Calls Tryd.prog 40 #[.slice A0 l0.length c0] w fun e w' => ∃ v0_ : Value, e = .returned (.tuple #[v0_, .bool r2]) ∧ Kd.R (Kd.int .i64) 3 w' w.heap.size (fun _ => True) v0_ r1 ∧ Below w.heap.size w w' := by
 have HR0 := Aside0.mk hr0
 have HC0 := Aside0.mk hc0
 clear hr0 hc0
 have HB := Aside0.mk (Below.refl w.heap.size w)
 have H : ((impl_AreLabels.f l0).bind fun t472 => (if t472 = true then ((impl_allIndices.f k (l0.length : Int)).bind fun t473 => ((impl_firstPlacing.f l0 t473).bind fun bt476 => (some (bt476.1, bt476.2)))) else (some (([] : List Int), false)))) = some (r1, r2) := h
 clear h
 replace H := Option.bind_eq_some_iff.mp H
 obtain ⟨t472, A20, H⟩ := H
 replace H : (if t472 = true then ((impl_allIndices.f k (l0.length : Int)).bind fun t473 => ((impl_firstPlacing.f l0 t473).bind fun bt476 => (some (bt476.1, bt476.2)))) else (some (([] : List Int), false))) = some (r1, r2) := H
 have A2 := Aside0.mk A20
 clear A20
 by_cases c3 : t472 = true
 ·
  subst c3
  have H1 : ((impl_allIndices.f k (l0.length : Int)).bind fun t473 => ((impl_firstPlacing.f l0 t473).bind fun bt476 => (some (bt476.1, bt476.2)))) = some (r1, r2) := by rw [if_pos rfl] at H; exact H
  clear H
  have H := H1
  clear H1
  replace H := Option.bind_eq_some_iff.mp H
  obtain ⟨t473, A40, H⟩ := H
  replace H : ((impl_firstPlacing.f l0 t473).bind fun bt476 => (some (bt476.1, bt476.2))) = some (r1, r2) := H
  have A4 := Aside0.mk A40
  clear A40
  replace H := Option.bind_eq_some_iff.mp H
  obtain ⟨⟨t476, t477⟩, A50, H⟩ := H
  replace H : (some (t476, t477)) = some (r1, r2) := H
  have A5 := Aside0.mk A50
  clear A50
  simp only [Option.some.injEq, Prod.mk.injEq] at H
  obtain ⟨rfl, rfl⟩ := H
  go_enter Tryd.func40, Tryd.ntmps40
  go_wp2_with (first | ((with_reducible refine gate_callee (f := 21) rfl ?_); refine ga_ (some 5) Tryd.func21 #[.slice A0 l0.length c0] ?_; (with_reducible refine (impl_AreLabels.calls _ _ l0 true _ ?side1 ?side2 A2.out).mono ?_); (case side1 => exact kc_ HR0.out); (case side2 => exact HC0.out); rintro e w6 ⟨rfl, hb⟩; refine ⟨_, rfl, ?_⟩; replace HB := Aside0.mk (below_step (lb0_ HB.out) hb); (try clear hb); (try clear hb2); (try clear hk); (try clear hi)) | ((with_reducible refine gate_callee (f := 78) rfl ?_); refine ga_ (some 10) Tryd.func78 #[.int .i64 (l0.length : Int)] ?_; (with_reducible refine (impl_allIndices.calls k (l0.length : Int) t473 _ A4.out).mono ?_); rintro e w7 ⟨v474, rfl, ho0, hb⟩; refine ⟨_, rfl, ?_⟩; have HO475 := Aside0.mk (Kd.R_lower ho0 (below_size (lb0_ HB.out))); replace HB := Aside0.mk (below_step (lb0_ HB.out) hb); (try clear hb); (try clear hb2); (try clear hk); (try clear hi); (try clear ho0); obtain ⟨Ao8, co8, eo8⟩ := Kd.R_slice HO475.out; subst eo8) | ((with_reducible refine gate_callee (f := 80) rfl ?_); refine ga_ (some 11) Tryd.func80 #[.slice A0 l0.length c0, .slice Ao8 t473.length co8] ?_; (with_reducible refine (impl_firstPlacing.calls _ _ l0 _ _ t473 t476 t477 _ ?side1 ?side2 ?side3 ?side4 A5.out).mono ?_); (case side1 => exact kc_ (Kd.C_below HR0.out HB.out)); (case side2 => exact HC0.out); (case side3 => exact kc_ (Kd.R_reads' HO475.out).2.2); (case side4 => exact (Kd.R_reads' HO475.out).2.1); rintro e w9 ⟨v478, rfl, ho0, hb⟩; refine ⟨_, rfl, ?_⟩; have HO479 := Aside0.mk (Kd.R_lower (Kd.R_new' ho0 (Kd.R_lt (kr_ HO475.out))) (below_size (lb0_ HB.out))); replace HO475 := Aside0.mk (Kd.R_elder' (kr_ HO475.out) (Kd.R_base ho0) hb); replace HB := Aside0.mk (below_step (lb0_ HB.out) hb); (try clear hb); (try clear hb2); (try clear hk); (try clear hi); (try clear ho0)))
  go_ret2
  exact ⟨_, rr_, krm_ HO479.out (fun _ hk => trivial), lb0_ HB.out⟩
 ·
  replace c3 := Bool.eq_false_iff.mpr c3
  subst c3
  have H1 : (some (([] : List Int), false)) = some (r1, r2) := by rw [if_neg (show ¬ (false = true) by decide)] at H; exact H
  clear H
  have H := H1
  clear H1
  simp only [Option.some.injEq, Prod.mk.injEq] at H
  obtain ⟨rfl, rfl⟩ := H
  go_enter Tryd.func40, Tryd.ntmps40
  go_wp2_with (first | ((with_reducible refine gate_callee (f := 21) rfl ?_); refine ga_ (some 5) Tryd.func21 #[.slice A0 l0.length c0] ?_; (with_reducible refine (impl_AreLabels.calls _ _ l0 false _ ?side1 ?side2 A2.out).mono ?_); (case side1 => exact kc_ HR0.out); (case side2 => exact HC0.out); rintro e w10 ⟨rfl, hb⟩; refine ⟨_, rfl, ?_⟩; replace HB := Aside0.mk (below_step (lb0_ HB.out) hb); (try clear hb); (try clear hb2); (try clear hk); (try clear hi)))
  go_ret2
  exact ⟨_, rr_, by first | exact Kd.R_nil _ _ _ _ _ | exact Kd.N_nil _ _ _ _ _ | exact Kd.V_nil _ _ _ _ _ | exact Kd.Q_nil _ _ _ _ _ | exact Kd.S_nil _ _ _ _ _, lb0_ HB.out⟩
def spec_l24May.l0 : Nat → List (S29) → List Int → Int → Int → Int → Int → Int → Int → Option (Bool)
 | 0, _, _, _, _, _, _, _, _ => none
 | k + 1, x0, x1, x2, x8, x201000, x201001, x201002, x201003 => if x8 < x2 then (if 0 ≤ x8 then (if x8 < (x1.length : Int) then (if (rd x1 x8) ≥ 0 then (if x8 < (x0.length : Int) then ((spec_l24Box.f ((rd_T29 x0 x8).f0) ((rd_T29 x0 x8).f1) ((rd_T29 x0 x8).f2) (rd x1 x8)).bind fun bt205 => ((spec_l24Meet.f x201000 x201001 x201002 x201003 bt205.1 bt205.2.1 bt205.2.2.1 bt205.2.2.2).bind fun t209 => (if t209 = true then (some false) else (spec_l24May.l0 k x0 x1 x2 (wrap64 (x8 + 1)) x201000 x201001 x201002 x201003)))) else (none)) else (spec_l24May.l0 k x0 x1 x2 (wrap64 (x8 + 1)) x201000 x201001 x201002 x201003)) else (none)) else (none)) else (some true)
def spec_l24May.f (k : Nat) (l0 : List (S29)) (l1 : List Int) (a2 : Int) : Option (Bool) := if 0 ≤ a2 then (if a2 < (l0.length : Int) then (if a2 < (l1.length : Int) then ((spec_l24Box.f ((rd_T29 l0 a2).f0) ((rd_T29 l0 a2).f1) ((rd_T29 l0 a2).f2) (rd l1 a2)).bind fun bt196 => ((spec_l24Free.f k l0 bt196.1 bt196.2.1 bt196.2.2.1 bt196.2.2.2).bind fun t201 => (if t201 = true then (spec_l24May.l0 k l0 l1 a2 0 bt196.1 bt196.2.1 bt196.2.2.1 bt196.2.2.2) else (some false)))) else (none)) else (none)) else (none)
def spec_l24May.T1 : Bool × List (List Nat × List Nat) := (true, [([], []), ([], []), ([0, 1], [0, 1]), ([2], [2]), ([], []), ([], []), ([4, 5], [4, 5]), ([6], [6]), ([3, 7], [3, 7]), ([], []), ([9, 8, 8, 0, 1, 2, 3, 4, 5, 6, 7, 8, 9], [8, 9])])
def spec_l24May.B1 : List Nat := [0, 0, 3, 7, 0, 0, 48, 112, 255, 0, 1023]
theorem spec_l24May.tab1 : rtab .any (opsOf Tryd.f64 1) = spec_l24May.T1 := by kernel_rfl
theorem spec_l24May.bits1 : waitsOk spec_l24May.T1.2 spec_l24May.B1 = true := by kernel_rfl
def spec_l24May.T7 : Bool × List (List Nat × List Nat) := (true, [([], []), ([], []), ([0, 1], [0, 1]), ([2], [2]), ([3], [3]), ([4], [4]), ([5], [5]), ([5], [5]), ([5], [5]), ([7, 8, 5], [5, 7, 8]), ([9, 5], [5, 9]), ([5], [5]), ([5], [5]), ([11, 12, 5], [5, 11, 12]), ([13, 5], [5, 13]), ([10, 14, 5, 5], [5, 10, 14]), ([6, 15, 15, 5], [5, 6, 15]), ([5, 16], [5, 16])])
def spec_l24May.B7 : List Nat := [0, 0, 3, 7, 15, 31, 63, 63, 63, 447, 959, 63, 63, 6207, 14399, 32703, 65535, 131071]
theorem spec_l24May.tab7 : rtab .any (opsOf Tryd.f64 7) = spec_l24May.T7 := by kernel_rfl
theorem spec_l24May.bits7 : waitsOk spec_l24May.T7.2 spec_l24May.B7 = true := by kernel_rfl
abbrev spec_l24May.mk0 : Array Bool := #[fF,fF,fF,fF,fF,fF,fF,fF,fF,fF,fF]
abbrev spec_l24May.mk1 : Array Bool := #[tT,fF,fF,fF,fF,fF,fF,fF,fF,fF,fF]
abbrev spec_l24May.mk2 : Array Bool := #[tT,tT,fF,fF,fF,fF,fF,fF,fF,fF,fF]
abbrev spec_l24May.mk3 : Array Bool := #[tT,tT,tT,fF,fF,fF,fF,fF,fF,fF,fF]
abbrev spec_l24May.mk4 : Array Bool := #[tT,tT,tT,fF,tT,fF,fF,fF,fF,fF,fF]
abbrev spec_l24May.mk5 : Array Bool := #[tT,tT,tT,fF,tT,tT,fF,fF,fF,fF,fF]
abbrev spec_l24May.mk6 : Array Bool := #[tT,tT,tT,fF,tT,tT,tT,fF,fF,fF,fF]
abbrev spec_l24May.mk7 : Array Bool := #[tT,tT,tT,tT,tT,tT,tT,fF,fF,fF,fF]
abbrev spec_l24May.mk8 : Array Bool := #[tT,tT,tT,tT,tT,tT,tT,tT,fF,fF,fF]
abbrev spec_l24May.mk9 : Array Bool := #[tT,tT,tT,tT,tT,tT,tT,tT,tT,tT,fF]
abbrev spec_l24May.mk10 : Array Bool := #[tT,tT,tT,tT,tT,tT,tT,tT,tT,fF,fF]
abbrev spec_l24May.mk11 : Array Bool := #[tT,tT,tT,tT,tT,tT,tT,tT,fF,tT,fF]
abbrev spec_l24May.mk12 : Array Bool := #[tT,tT,tT,tT,tT,tT,tT,tT,tT,tT,tT]
abbrev spec_l24May.mk13 : Array Bool := #[fF,fF,fF,fF,fF,fF,fF,fF,fF,fF,fF,fF,fF,fF,fF,fF,fF,fF]
abbrev spec_l24May.mk14 : Array Bool := #[tT,fF,fF,fF,fF,fF,fF,fF,fF,fF,fF,fF,fF,fF,fF,fF,fF,fF]
abbrev spec_l24May.mk15 : Array Bool := #[tT,tT,fF,fF,fF,fF,fF,fF,fF,fF,fF,fF,fF,fF,fF,fF,fF,fF]
abbrev spec_l24May.mk16 : Array Bool := #[tT,tT,tT,fF,fF,fF,fF,fF,fF,fF,fF,fF,fF,fF,fF,fF,fF,fF]
abbrev spec_l24May.mk17 : Array Bool := #[tT,tT,tT,tT,fF,fF,fF,fF,fF,fF,fF,fF,fF,fF,fF,fF,fF,fF]
abbrev spec_l24May.mk18 : Array Bool := #[tT,tT,tT,tT,tT,fF,fF,fF,fF,fF,fF,fF,fF,fF,fF,fF,fF,fF]
abbrev spec_l24May.mk19 : Array Bool := #[tT,tT,tT,tT,tT,tT,fF,fF,fF,fF,fF,fF,fF,fF,fF,fF,fF,fF]
abbrev spec_l24May.mk20 : Array Bool := #[tT,tT,tT,tT,tT,tT,fF,tT,fF,fF,fF,fF,fF,fF,fF,fF,fF,fF]
abbrev spec_l24May.mk21 : Array Bool := #[tT,tT,tT,tT,tT,tT,fF,tT,tT,fF,fF,fF,fF,fF,fF,fF,fF,fF]
abbrev spec_l24May.mk22 : Array Bool := #[tT,tT,tT,tT,tT,tT,fF,tT,tT,tT,fF,fF,fF,fF,fF,fF,fF,fF]
abbrev spec_l24May.mk23 : Array Bool := #[tT,tT,tT,tT,tT,tT,fF,tT,tT,tT,fF,tT,fF,fF,fF,fF,fF,fF]
abbrev spec_l24May.mk24 : Array Bool := #[tT,tT,tT,tT,tT,tT,fF,tT,tT,tT,fF,tT,tT,fF,fF,fF,fF,fF]
abbrev spec_l24May.mk25 : Array Bool := #[tT,tT,tT,tT,tT,tT,fF,tT,tT,tT,fF,tT,tT,tT,fF,fF,fF,fF]
abbrev spec_l24May.mk26 : Array Bool := #[tT,tT,tT,tT,tT,tT,tT,tT,tT,tT,fF,tT,tT,tT,fF,fF,fF,fF]
abbrev spec_l24May.mk27 : Array Bool := #[tT,tT,tT,tT,tT,tT,tT,tT,tT,tT,tT,tT,tT,tT,fF,fF,fF,fF]
abbrev spec_l24May.mk28 : Array Bool := #[tT,tT,tT,tT,tT,tT,tT,tT,tT,tT,tT,tT,tT,tT,tT,fF,fF,fF]
abbrev spec_l24May.mk29 : Array Bool := #[tT,tT,tT,tT,tT,tT,tT,tT,tT,tT,tT,tT,tT,tT,tT,tT,fF,fF]
abbrev spec_l24May.mk30 : Array Bool := #[tT,tT,tT,tT,tT,tT,tT,tT,tT,tT,tT,tT,tT,tT,tT,tT,tT,fF]
abbrev spec_l24May.mk31 : Array Bool := #[tT,tT,tT,tT,tT,tT,tT,tT,tT,tT,tT,tT,tT,tT,tT,tT,tT,tT]
abbrev spec_l24May.mk32 : Array Bool := #[tT,tT,tT,tT,tT,tT,tT,fF,fF,fF,fF,fF,fF,fF,fF,fF,fF,fF]
abbrev spec_l24May.mk33 : Array Bool := #[tT,tT,tT,tT,tT,tT,tT,tT,fF,fF,fF,fF,fF,fF,fF,fF,fF,fF]
abbrev spec_l24May.mk34 : Array Bool := #[tT,tT,tT,tT,tT,tT,tT,tT,tT,fF,fF,fF,fF,fF,fF,fF,fF,fF]
abbrev spec_l24May.mk35 : Array Bool := #[tT,tT,tT,tT,tT,tT,tT,tT,tT,tT,fF,fF,fF,fF,fF,fF,fF,fF]
abbrev spec_l24May.mk36 : Array Bool := #[tT,tT,tT,tT,tT,tT,tT,tT,tT,tT,tT,fF,fF,fF,fF,fF,fF,fF]
abbrev spec_l24May.mk37 : Array Bool := #[tT,tT,tT,tT,tT,tT,tT,tT,tT,tT,tT,tT,fF,fF,fF,fF,fF,fF]
abbrev spec_l24May.mk38 : Array Bool := #[tT,tT,tT,tT,tT,tT,tT,tT,tT,tT,tT,tT,tT,fF,fF,fF,fF,fF]
set_option maxHeartbeats 8000000 in
set_option maxRecDepth 100000 in
theorem spec_l24May.calls (k : Nat) (A0 : Option Addr) (c0 : Nat) (l0 : List (S29)) (A1 : Option Addr) (c1 : Nat) (l1 : List Int) (a2 : Int) (r : Bool) (w : World) (hr0 : Kd.C k29 w A0 l0.length l0) (hc0 : l0.length ≤ c0) (hr1 : Kd.C (Kd.int .i64) w A1 l1.length l1) (hc1 : l1.length ≤ c1) (h : spec_l24May.f k l0 l1 a2 = some r) :
  Calls Tryd.prog 64 #[.slice A0 l0.length c0, .slice A1 l1.length c1, .int .i64 a2] w fun e w' => e = .returned (.bool r) ∧ Below w.heap.size w w' := by
 have hu29 := Tryd.underlying29
 have hu26 := Tryd.underlying26
 have HR0 := Aside0.mk hr0
 have HC0 := Aside0.mk hc0
 clear hr0 hc0
 have HR1 := Aside0.mk hr1
 have HC1 := Aside0.mk hc1
 clear hr1 hc1
 have HB := Aside0.mk (Below.refl w.heap.size w)
 have H : (if 0 ≤ a2 then (if a2 < (l0.length : Int) then (if a2 < (l1.length : Int) then ((spec_l24Box.f ((rd_T29 l0 a2).f0) ((rd_T29 l0 a2).f1) ((rd_T29 l0 a2).f2) (rd l1 a2)).bind fun bt196 => ((spec_l24Free.f k l0 bt196.1 bt196.2.1 bt196.2.2.1 bt196.2.2.2).bind fun t201 => (if t201 = true then (spec_l24May.l0 k l0 l1 a2 0 bt196.1 bt196.2.1 bt196.2.2.1 bt196.2.2.2) else (some false)))) else (none)) else (none)) else (none)) = some r := h
 clear h
 by_cases c4 : 0 ≤ a2
 ·
  rw [if_pos c4] at H
  have c4b0 : decide (0 ≤ a2) = true := decide_eq_true c4
  clear c4
  by_cases c5 : a2 < (l0.length : Int)
  ·
   rw [if_pos c5] at H
   have c5b0 : decide (a2 < (l0.length : Int)) = true := decide_eq_true c5
   clear c5
   by_cases c6 : a2 < (l1.length : Int)
   ·
    rw [if_pos c6] at H
    have c6b0 : decide (a2 < (l1.length : Int)) = true := decide_eq_true c6
    clear c6
    replace H := Option.bind_eq_some_iff.mp H
    obtain ⟨⟨t196, t197, t198, t199⟩, A70, H⟩ := H
    replace H : ((spec_l24Free.f k l0 t196 t197 t198 t199).bind fun t201 => (if t201 = true then (spec_l24May.l0 k l0 l1 a2 0 t196 t197 t198 t199) else (some false))) = some r := H
    have A7 := Aside0.mk A70
    clear A70
    replace H := Option.bind_eq_some_iff.mp H
    obtain ⟨t201, A80, H⟩ := H
    replace H : (if t201 = true then (spec_l24May.l0 k l0 l1 a2 0 t196 t197 t198 t199) else (some false)) = some r := H
    have A8 := Aside0.mk A80
    clear A80
    by_cases c9 : t201 = true
    ·
     subst c9
     have H1 : (spec_l24May.l0 k l0 l1 a2 0 t196 t197 t198 t199) = some r := by rw [if_pos rfl] at H; exact H
     clear H
     have H := H1
     clear H1
     have H' := Aside0.mk H
     clear H
     go_enter Tryd.func64, Tryd.ntmps64
     try go_wp2
     replace HB := Aside0.mk (below_drew1 HB.out)
     have p194 : 0 ≤ (a2 : Int) := dt_
     have q194 : a2 < (l0.length : Int) := dt_
     obtain ⟨ad194, e194, hx194_0, hx194_1, hx194_2⟩ := at_T29 HR0.out a2 p194 q194
     have hw194_2 := hx194_2
     have hw194_1 := hx194_1
     have hw194_0 := hx194_0
     cases e194
     replace hx194_0 := bc_ HB.out hx194_0
     replace hx194_1 := bc_ HB.out hx194_1
     replace hx194_2 := bc_ HB.out hx194_2
     replace p194 := eq_true p194
     replace q194 := eq_true q194
     have p195 : 0 ≤ (a2 : Int) := dt_
     have q195 : a2 < (l1.length : Int) := dt_
     obtain ⟨ad195, e195, hx195_0⟩ := Kd.at_int HR1.out a2 p195 q195
     have hw195_0 := hx195_0
     cases e195
     replace hx195_0 := bc_ HB.out hx195_0
     replace p195 := eq_true p195
     replace q195 := eq_true q195
     refine start_ (n := 11) (S := fun w' => w'.cell? (ad194.add ((a2).toNat * 3)) = some (.string ((rd_T29 l0 a2).f0)) ∧ w'.cell? ⟨(ad194.add ((a2).toNat * 3)).block, (ad194.add ((a2).toNat * 3)).off + 1, none⟩ = some (.int .i64 ((rd_T29 l0 a2).f1)) ∧ w'.cell? ⟨(ad194.add ((a2).toNat * 3)).block, (ad194.add ((a2).toNat * 3)).off + 2, none⟩ = some (.int .i64 ((rd_T29 l0 a2).f2)) ∧ w'.cell? (ad195.add (a2).toNat) = some (.int .i64 (rd l1 a2))) (ds := []) spec_l24May.mk0 (by kernel_rfl) rfl rfl ⟨(bc_ HB.out hw194_0), (bc_ HB.out hw194_1), (bc_ HB.out hw194_2), (bc_ HB.out hw195_0)⟩ (fun hHeld => ?_); refine with_tabW spec_l24May.tab1 spec_l24May.bits1 (fun HT_ HW_ => ?_)
     generalize w.drew = w10 at HB hx194_0 hx194_1 hx194_2 hx195_0 hHeld ⊢
     refine pz_ HT_ 0 (some 9) spec_l24May.mk1 ?_
     refine pz_ HT_ 1 (some 10) spec_l24May.mk2 ?_
     refine pz_ HT_ 2 (some 11) spec_l24May.mk3 ?_
     refine pz_ HT_ 4 (some 13) spec_l24May.mk4 ?_
     refine pz_ HT_ 5 (some 14) spec_l24May.mk5 ?_
     refine pz_ HT_ 6 (some 15) spec_l24May.mk6 ?_
     refine tk_ HT_ HW_ hHeld 3 (some 12) spec_l24May.mk7 ?_
     refine tk_ HT_ HW_ hHeld 7 (some 16) spec_l24May.mk8 ?_
     refine join_ (σ := Nat) 1 spec_l24May.mk9 (fun s_ => [(17, .agg #[.int .i64 t196, .int .i64 t197, .int .i64 t198, .int .i64 t199]), (7, .pointer (some ⟨s_, 0, none⟩))]) (fun s_ w' => (w'.cell? (ad194.add ((a2).toNat * 3)) = some (.string ((rd_T29 l0 a2).f0)) ∧ w'.cell? ⟨(ad194.add ((a2).toNat * 3)).block, (ad194.add ((a2).toNat * 3)).off + 1, none⟩ = some (.int .i64 ((rd_T29 l0 a2).f1)) ∧ w'.cell? ⟨(ad194.add ((a2).toNat * 3)).block, (ad194.add ((a2).toNat * 3)).off + 2, none⟩ = some (.int .i64 ((rd_T29 l0 a2).f2)) ∧ w'.cell? (ad195.add (a2).toNat) = some (.int .i64 (rd l1 a2))) ∧ (w'.heap[s_]? = some (.cells #[.int .i64 0, .int .i64 0, .int .i64 0, .int .i64 0] 26 (0, 0))) ∧ (w.heap.size ≤ s_) ∧ (w.heap.size ≤ s_) ∧ (Below w.heap.size w w')) ?_ ?_
     rotate_left
     ·
      intro hCont
      refine two_ (i := 8) (j := 9) (Ni := some 17) (Nj := some 7) spec_l24May.mk10 spec_l24May.mk11 rfl rfl rfl rfl (two_of HT_.out (by kernel_rfl)) (by decide) (by decide) (fun K hK => ?_) (fun K hK => ?_)
      ·
       skip
       refine gs_ Tryd.func56 #[.agg #[.string ((rd_T29 l0 a2).f0), .int .i64 ((rd_T29 l0 a2).f1), .int .i64 ((rd_T29 l0 a2).f2)], .int .i64 (rd l1 a2)] ?_
       with_reducible refine (spec_l24Box.calls ((rd_T29 l0 a2).f0) ((rd_T29 l0 a2).f1) ((rd_T29 l0 a2).f2) (rd l1 a2) t196 t197 t198 t199 _ A7.out).mono ?_
       rintro e w11 ⟨rfl, hb⟩
       refine ⟨_, rfl, ?_⟩
       replace HB := Aside0.mk (below_step (lb0_ HB.out) hb)
       (try clear hb)
       (try clear hb2)
       (try clear hk)
       (try clear hi)
       refine hK.out _ _ ⟨((HB.out.cell (World.block_lt_of_cell? w _ hw194_0)).trans hw194_0), ((HB.out.cell (World.block_lt_of_cell? w _ hw194_1)).trans hw194_1), ((HB.out.cell (World.block_lt_of_cell? w _ hw194_2)).trans hw194_2), ((HB.out.cell (World.block_lt_of_cell? w _ hw195_0)).trans hw195_0)⟩ (fun hHeld => ?_)
       clear hK K
       refine na_ ?_
       refine one_ (i := 9) (N := some 7) spec_l24May.mk9 rfl rfl (one_of HT_.out (by kernel_rfl)) (by decide) (fun K hK => ?_)
       refine box_step ?hg (N := 7) ?hd (cs := #[.int .i64 0, .int .i64 0, .int .i64 0, .int .i64 0]) (t := 26) ?hr ?_; (case hd => rfl); (case hg => rfl); (case hr => first | (go_simp; done) | (go_simp; rfl))
       intro gb200 hg w12 hbox hb
       have BK200 := Aside0.mk (hbox)
       have GW200 := Aside0.mk ((bz_ hg (lb0_ HB.out)))
       have GE200 := Aside0.mk ((bz_ hg (lb0_ HB.out)))
       replace HB := Aside0.mk (below_step (lb0_ HB.out) hb)
       clear hb hbox hg
       refine hK.out _ _ ⟨((HB.out.cell (World.block_lt_of_cell? w _ hw194_0)).trans hw194_0), ((HB.out.cell (World.block_lt_of_cell? w _ hw194_1)).trans hw194_1), ((HB.out.cell (World.block_lt_of_cell? w _ hw194_2)).trans hw194_2), ((HB.out.cell (World.block_lt_of_cell? w _ hw195_0)).trans hw195_0)⟩ (fun hHeld => ?_)
       clear hK K
       refine na_ ?_
       exact norm_ (by simp only [putAll, Act.put, List.setIfInBounds_toArray, List.set_cons_zero, List.set_cons_succ]) (hCont (gb200) _ ⟨hHeld, (bk_ BK200.out), GW200.out, GE200.out, (lb1_ HB.out GE200.out)⟩)
      ·
       skip
       refine box_step ?hg (N := 7) ?hd (cs := #[.int .i64 0, .int .i64 0, .int .i64 0, .int .i64 0]) (t := 26) ?hr ?_; (case hd => rfl); (case hg => rfl); (case hr => first | (go_simp; done) | (go_simp; rfl))
       intro gb200 hg w11 hbox hb
       have BK200 := Aside0.mk (hbox)
       have GW200 := Aside0.mk ((bz_ hg (lb0_ HB.out)))
       have GE200 := Aside0.mk ((bz_ hg (lb0_ HB.out)))
       replace HB := Aside0.mk (below_step (lb0_ HB.out) hb)
       clear hb hbox hg
       refine hK.out _ _ ⟨((HB.out.cell (World.block_lt_of_cell? w _ hw194_0)).trans hw194_0), ((HB.out.cell (World.block_lt_of_cell? w _ hw194_1)).trans hw194_1), ((HB.out.cell (World.block_lt_of_cell? w _ hw194_2)).trans hw194_2), ((HB.out.cell (World.block_lt_of_cell? w _ hw195_0)).trans hw195_0)⟩ (fun hHeld => ?_)
       clear hK K
       refine na_ ?_
       refine one_ (i := 8) (N := some 17) spec_l24May.mk9 rfl rfl (one_of HT_.out (by kernel_rfl)) (by decide) (fun K hK => ?_)
       refine gs_ Tryd.func56 #[.agg #[.string ((rd_T29 l0 a2).f0), .int .i64 ((rd_T29 l0 a2).f1), .int .i64 ((rd_T29 l0 a2).f2)], .int .i64 (rd l1 a2)] ?_
       with_reducible refine (spec_l24Box.calls ((rd_T29 l0 a2).f0) ((rd_T29 l0 a2).f1) ((rd_T29 l0 a2).f2) (rd l1 a2) t196 t197 t198 t199 _ A7.out).mono ?_
       rintro e w12 ⟨rfl, hb⟩
       refine ⟨_, rfl, ?_⟩
       replace BK200 := Aside0.mk (bb_ (bk_ BK200.out) hb)
       replace HB := Aside0.mk (below_step (lb1_ HB.out GE200.out) hb)
       (try clear hb)
       (try clear hb2)
       (try clear hk)
       (try clear hi)
       refine hK.out _ _ ⟨((HB.out.cell (World.block_lt_of_cell? w _ hw194_0)).trans hw194_0), ((HB.out.cell (World.block_lt_of_cell? w _ hw194_1)).trans hw194_1), ((HB.out.cell (World.block_lt_of_cell? w _ hw194_2)).trans hw194_2), ((HB.out.cell (World.block_lt_of_cell? w _ hw195_0)).trans hw195_0)⟩ (fun hHeld => ?_)
       clear hK K
       refine na_ ?_
       exact norm_ (by simp only [putAll, Act.put, List.setIfInBounds_toArray, List.set_cons_zero, List.set_cons_succ]) (hCont (gb200) _ ⟨hHeld, (bk_ BK200.out), GW200.out, GE200.out, (lb1_ HB.out GE200.out)⟩)
     rintro gb200 w13 ⟨hS_, h0_, h1_, h2_, h3_⟩
     (try dsimp only at h0_ h1_ h2_ h3_)
     have BK200 := Aside0.mk h0_
     have GW200 := Aside0.mk h1_
     have GE200 := Aside0.mk h2_
     replace HB := Aside0.mk h3_
     clear h0_ h1_ h2_ h3_
     have hHeld : w13.cell? (ad194.add ((a2).toNat * 3)) = some (.string ((rd_T29 l0 a2).f0)) ∧ w13.cell? ⟨(ad194.add ((a2).toNat * 3)).block, (ad194.add ((a2).toNat * 3)).off + 1, none⟩ = some (.int .i64 ((rd_T29 l0 a2).f1)) ∧ w13.cell? ⟨(ad194.add ((a2).toNat * 3)).block, (ad194.add ((a2).toNat * 3)).off + 2, none⟩ = some (.int .i64 ((rd_T29 l0 a2).f2)) ∧ w13.cell? (ad195.add (a2).toNat) = some (.int .i64 (rd l1 a2)) := hS_
     refine nb_ ?_
     refine one_ (i := 10) (N := none) spec_l24May.mk12 rfl rfl (one_of HT_.out (by kernel_rfl)) (by decide) (fun K hK => ?_)
     have hs14 : w13.cell? ⟨gb200, 0, none⟩ = some (.int .i64 0) := (blk_cell BK200.out 0).trans rfl
     have hfs14 := blk_frozen BK200.out 0
     have hs15 : w13.cell? ⟨gb200, 1, none⟩ = some (.int .i64 0) := (blk_cell BK200.out 1).trans rfl
     have hfs15 := blk_frozen BK200.out 1
     have hs16 : w13.cell? ⟨gb200, 2, none⟩ = some (.int .i64 0) := (blk_cell BK200.out 2).trans rfl
     have hfs16 := blk_frozen BK200.out 2
     have hs17 : w13.cell? ⟨gb200, 3, none⟩ = some (.int .i64 0) := (blk_cell BK200.out 3).trans rfl
     have hfs17 := blk_frozen BK200.out 3
     refine skip_ (w1 := ?_) (by rfl) rfl ?_ ?_
     rotate_left
     ·
      go_simp
      rfl
     refine hK.out _ _ ⟨((cell_far (p := ⟨gb200, _, none⟩) (Nat.ne_of_lt (Nat.lt_of_lt_of_le (World.block_lt_of_cell? _ _ hw194_0) GW200.out)) _).trans (((cell_far (p := ⟨gb200, _, none⟩) (Nat.ne_of_lt (Nat.lt_of_lt_of_le (World.block_lt_of_cell? _ _ hw194_0) GW200.out)) _).trans (((cell_far (p := ⟨gb200, _, none⟩) (Nat.ne_of_lt (Nat.lt_of_lt_of_le (World.block_lt_of_cell? _ _ hw194_0) GW200.out)) _).trans (((cell_far (p := ⟨gb200, _, none⟩) (Nat.ne_of_lt (Nat.lt_of_lt_of_le (World.block_lt_of_cell? _ _ hw194_0) GW200.out)) _).trans (hHeld.1)))))))), ((cell_far (p := ⟨gb200, _, none⟩) (Nat.ne_of_lt (Nat.lt_of_lt_of_le (World.block_lt_of_cell? _ _ hw194_1) GW200.out)) _).trans (((cell_far (p := ⟨gb200, _, none⟩) (Nat.ne_of_lt (Nat.lt_of_lt_of_le (World.block_lt_of_cell? _ _ hw194_1) GW200.out)) _).trans (((cell_far (p := ⟨gb200, _, none⟩) (Nat.ne_of_lt (Nat.lt_of_lt_of_le (World.block_lt_of_cell? _ _ hw194_1) GW200.out)) _).trans (((cell_far (p := ⟨gb200, _, none⟩) (Nat.ne_of_lt (Nat.lt_of_lt_of_le (World.block_lt_of_cell? _ _ hw194_1) GW200.out)) _).trans (hHeld.2.1)))))))), ((cell_far (p := ⟨gb200, _, none⟩) (Nat.ne_of_lt (Nat.lt_of_lt_of_le (World.block_lt_of_cell? _ _ hw194_2) GW200.out)) _).trans (((cell_far (p := ⟨gb200, _, none⟩) (Nat.ne_of_lt (Nat.lt_of_lt_of_le (World.block_lt_of_cell? _ _ hw194_2) GW200.out)) _).trans (((cell_far (p := ⟨gb200, _, none⟩) (Nat.ne_of_lt (Nat.lt_of_lt_of_le (World.block_lt_of_cell? _ _ hw194_2) GW200.out)) _).trans (((cell_far (p := ⟨gb200, _, none⟩) (Nat.ne_of_lt (Nat.lt_of_lt_of_le (World.block_lt_of_cell? _ _ hw194_2) GW200.out)) _).trans (hHeld.2.2.1)))))))), ((cell_far (p := ⟨gb200, _, none⟩) (Nat.ne_of_lt (Nat.lt_of_lt_of_le (World.block_lt_of_cell? _ _ hw195_0) GW200.out)) _).trans (((cell_far (p := ⟨gb200, _, none⟩) (Nat.ne_of_lt (Nat.lt_of_lt_of_le (World.block_lt_of_cell? _ _ hw195_0) GW200.out)) _).trans (((cell_far (p := ⟨gb200, _, none⟩) (Nat.ne_of_lt (Nat.lt_of_lt_of_le (World.block_lt_of_cell? _ _ hw195_0) GW200.out)) _).trans (((cell_far (p := ⟨gb200, _, none⟩) (Nat.ne_of_lt (Nat.lt_of_lt_of_le (World.block_lt_of_cell? _ _ hw195_0) GW200.out)) _).trans (hHeld.2.2.2))))))))⟩ (fun hHeld => ?_)
     clear hK K
     refine done_ (done_of HT_.out (by kernel_rfl)) ?_
     obtain ⟨hcz18_0, hcz18_1, hcz18_2, hcz18_3⟩ := cz4_ BK200.out
     obtain ⟨hfz18_0, hfz18_1, hfz18_2, hfz18_3⟩ := fz4_ BK200.out
     try go_wp2_with (first | ((with_reducible refine gate_callee (f := 97) rfl ?_); refine ga_ (some 20) Tryd.func97 #[.slice (some ad194) l0.length c0, .agg #[.int .i64 t196, .int .i64 t197, .int .i64 t198, .int .i64 t199]] ?_; (with_reducible refine (spec_l24Free.calls k _ _ l0 t196 t197 t198 t199 true _ ?side1 ?side2 A8.out).mono ?_); (case side1 => exact Kd.C_below HR0.out (lb1_ HB.out GE200.out)); (case side2 => exact HC0.out); rintro e w19 ⟨rfl, hb⟩; refine ⟨_, rfl, ?_⟩; replace BK200 := Aside0.mk (blk_below (g := gb200) (o := .cells #[.int .i64 t196, .int .i64 t197, .int .i64 t198, .int .i64 t199] 26 (0, 0)) (by (with_reducible repeat (first | refine blk_drewN ?_ _ | refine blk_drew ?_ | refine blk_alloc ?_ _)); exact (p4_ BK200.out _ _ _ _)) hb); replace HB := Aside0.mk (below_step (lb1_ HB.out GE200.out) hb); (try clear hb); (try clear hb2); (try clear hk); (try clear hi)))
     go_loopg [8] k (fun kq v8 w' => ∃ (x8_1 : Int), v8 = .int .i64 x8_1 ∧ Aside0 (spec_l24May.l0 kq l0 l1 a2 x8_1 t196 t197 t198 t199 = some r) ∧ Aside0 (kq ≤ k) ∧ Aside0 (w'.heap[gb200]? = some (.cells #[.int .i64 t196, .int .i64 t197, .int .i64 t198, .int .i64 t199] 26 (0, 0))) ∧ Aside0 (Below w.heap.size w w'))
     case atStart => exact ⟨(0), (by first | rfl | (simp; done) | (simp [*]; done)), H', ⟨Nat.le_refl _⟩, ⟨bk_ BK200.out⟩, ⟨lb1_ HB.out GE200.out⟩⟩
     case round =>
      clear H'
      try clear c1
      try clear p1
      try clear q1
      try clear hx1
      try clear p2
      try clear c4
      try clear c4b0
      try clear c5
      try clear c5b0
      try clear c6
      try clear c6b0
      try clear c9
      try clear p19
      try clear q19
      try clear hx19
      try clear hcz18_0 hcz18_1 hcz18_2 hcz18_3
      try clear hfz18_0 hfz18_1 hfz18_2 hfz18_3
      try clear hx194_0
      try clear hx194_1
      try clear hx194_2
      try clear hx195_0
      try clear p194
      try clear p195
      try clear q194
      try clear q195
      obtain ⟨x8_1, rfl, HA, HK1, BK200, HB⟩ := hrel
      cases gk with
      | zero => exact absurd HA.out (by simp [spec_l24May.l0])
      | succ k1 =>
       have H := HA.out
       clear HA
       simp only [spec_l24May.l0] at H
       by_cases c20 : x8_1 < a2
       ·
        rw [if_pos c20] at H
        have c20b0 : decide (x8_1 < a2) = true := decide_eq_true c20; clear c20
        by_cases c21 : 0 ≤ x8_1
        ·
         rw [if_pos c21] at H
         have c21b0 : decide (0 ≤ x8_1) = true := decide_eq_true c21; clear c21
         by_cases c22 : x8_1 < (l1.length : Int)
         ·
          rw [if_pos c22] at H
          have c22b0 : decide (x8_1 < (l1.length : Int)) = true := decide_eq_true c22; clear c22
          by_cases c23 : (rd l1 x8_1) ≥ 0
          ·
           rw [if_pos c23] at H
           have c23b0 : decide (0 ≤ (rd l1 x8_1)) = true := decide_eq_true c23; clear c23
           by_cases c24 : x8_1 < (l0.length : Int)
           ·
            rw [if_pos c24] at H
            have c24b0 : decide (x8_1 < (l0.length : Int)) = true := decide_eq_true c24; clear c24; replace H := Option.bind_eq_some_iff.mp H; obtain ⟨⟨t205, t206, t207, t208⟩, A250, H⟩ := H; replace H : ((spec_l24Meet.f t196 t197 t198 t199 t205 t206 t207 t208).bind fun t209 => (if t209 = true then (some false) else (spec_l24May.l0 k1 l0 l1 a2 (wrap64 (x8_1 + 1)) t196 t197 t198 t199))) = some r := H; have A25 := Aside0.mk A250; clear A250; replace H := Option.bind_eq_some_iff.mp H; obtain ⟨t209, A260, H⟩ := H; replace H : (if t209 = true then (some false) else (spec_l24May.l0 k1 l0 l1 a2 (wrap64 (x8_1 + 1)) t196 t197 t198 t199)) = some r := H; have A26 := Aside0.mk A260; clear A260
            by_cases c27 : t209 = true
            ·
             subst c27
             have H1 : (some false) = some r := by rw [if_pos rfl] at H; exact H
             clear H; have H := H1; clear H1; obtain rfl := Option.some.inj H
             try go_wp2
             replace BK200 := Aside0.mk (blk_drew BK200.out); replace HB := Aside0.mk (below_drew1 HB.out); have p202 : 0 ≤ (x8_1 : Int) := dt_; have q202 : x8_1 < (l1.length : Int) := dt_; obtain ⟨ad202, e202, hx202_0⟩ := Kd.at_int HR1.out x8_1 p202 q202; have hw202_0 := hx202_0
             obtain rfl : ad195 = ad202 := (by injection e202)
             replace hx202_0 := bc_ HB.out hx202_0; replace p202 := eq_true p202; replace q202 := eq_true q202; have p203 : 0 ≤ (x8_1 : Int) := dt_; have q203 : x8_1 < (l0.length : Int) := dt_; obtain ⟨ad203, e203, hx203_0, hx203_1, hx203_2⟩ := at_T29 HR0.out x8_1 p203 q203; have hw203_2 := hx203_2; have hw203_1 := hx203_1; have hw203_0 := hx203_0
             obtain rfl : ad194 = ad203 := (by injection e203)
             replace hx203_0 := bc_ HB.out hx203_0; replace hx203_1 := bc_ HB.out hx203_1; replace hx203_2 := bc_ HB.out hx203_2; replace p203 := eq_true p203; replace q203 := eq_true q203; have p204 : 0 ≤ (x8_1 : Int) := dt_; have q204 : x8_1 < (l1.length : Int) := dt_; obtain ⟨ad204, e204, hx204_0⟩ := Kd.at_int HR1.out x8_1 p204 q204; have hw204_0 := hx204_0
             obtain rfl : ad195 = ad204 := (by injection e204)
             replace hx204_0 := bc_ HB.out hx204_0; replace p204 := eq_true p204; replace q204 := eq_true q204; refine start_ (n := 18) (S := fun w' => w'.cell? ⟨gb200, 0, none⟩ = some (.int .i64 t196) ∧ w'.cell? ⟨gb200, 1, none⟩ = some (.int .i64 t197) ∧ w'.cell? ⟨gb200, 2, none⟩ = some (.int .i64 t198) ∧ w'.cell? ⟨gb200, 3, none⟩ = some (.int .i64 t199) ∧ w'.cell? (ad195.add (x8_1).toNat) = some (.int .i64 (rd l1 x8_1)) ∧ w'.cell? (ad194.add ((x8_1).toNat * 3)) = some (.string ((rd_T29 l0 x8_1).f0)) ∧ w'.cell? ⟨(ad194.add ((x8_1).toNat * 3)).block, (ad194.add ((x8_1).toNat * 3)).off + 1, none⟩ = some (.int .i64 ((rd_T29 l0 x8_1).f1)) ∧ w'.cell? ⟨(ad194.add ((x8_1).toNat * 3)).block, (ad194.add ((x8_1).toNat * 3)).off + 2, none⟩ = some (.int .i64 ((rd_T29 l0 x8_1).f2)) ∧ w'.cell? (ad195.add (x8_1).toNat) = some (.int .i64 (rd l1 x8_1))) (ds := []) spec_l24May.mk13 (by kernel_rfl) rfl rfl ⟨(blk_cell BK200.out 0).trans rfl, (blk_cell BK200.out 1).trans rfl, (blk_cell BK200.out 2).trans rfl, (blk_cell BK200.out 3).trans rfl, (bc_ HB.out hw202_0), (bc_ HB.out hw203_0), (bc_ HB.out hw203_1), (bc_ HB.out hw203_2), (bc_ HB.out hw204_0)⟩ (fun hHeld => ?_); refine with_tabW spec_l24May.tab7 spec_l24May.bits7 (fun HT_ HW_ => ?_); generalize wr.drew = w28 at BK200 HB hx202_0 hx203_0 hx203_1 hx203_2 hx204_0 hHeld ⊢; refine pz_ HT_ 0 (some 27) spec_l24May.mk14 ?_; refine pz_ HT_ 1 (some 28) spec_l24May.mk15 ?_; refine pz_ HT_ 2 (some 29) spec_l24May.mk16 ?_; refine tk_ HT_ HW_ hHeld 3 (some 30) spec_l24May.mk17 ?_; refine pz_ HT_ 4 (some 31) spec_l24May.mk18 ?_; refine pz_ HT_ 5 (some 32) spec_l24May.mk19 ?_; refine pz_ HT_ 7 (some 34) spec_l24May.mk20 ?_; refine pz_ HT_ 8 (some 35) spec_l24May.mk21 ?_; refine pz_ HT_ 9 (some 36) spec_l24May.mk22 ?_; refine pz_ HT_ 11 (some 38) spec_l24May.mk23 ?_; refine pz_ HT_ 12 (some 39) spec_l24May.mk24 ?_; refine pz_ HT_ 13 (some 40) spec_l24May.mk25 ?_; refine tk_ HT_ HW_ hHeld 6 (some 33) spec_l24May.mk26 ?_; refine tk_ HT_ HW_ hHeld 10 (some 37) spec_l24May.mk27 ?_; refine tk_ HT_ HW_ hHeld 14 (some 41) spec_l24May.mk28 ?_; refine one_ (i := 15) (N := some 42) spec_l24May.mk29 rfl rfl (one_of HT_.out (by kernel_rfl)) (by decide) (fun K hK => ?_); refine gs_ Tryd.func56 #[.agg #[.string ((rd_T29 l0 x8_1).f0), .int .i64 ((rd_T29 l0 x8_1).f1), .int .i64 ((rd_T29 l0 x8_1).f2)], .int .i64 (rd l1 x8_1)] ?_; (with_reducible refine (spec_l24Box.calls ((rd_T29 l0 x8_1).f0) ((rd_T29 l0 x8_1).f1) ((rd_T29 l0 x8_1).f2) (rd l1 x8_1) t205 t206 t207 t208 _ A25.out).mono ?_); rintro e w29 ⟨rfl, hb⟩; refine ⟨_, rfl, ?_⟩; replace BK200 := Aside0.mk (bb_ (bk_ BK200.out) hb); replace HB := Aside0.mk (below_step (lb1_ HB.out GE200.out) hb); (try clear hb); (try clear hb2); (try clear hk); (try clear hi); refine hK.out _ _ ⟨(blk_cell BK200.out 0).trans rfl, (blk_cell BK200.out 1).trans rfl, (blk_cell BK200.out 2).trans rfl, (blk_cell BK200.out 3).trans rfl, ((HB.out.cell (World.block_lt_of_cell? w _ hw202_0)).trans hw202_0), ((HB.out.cell (World.block_lt_of_cell? w _ hw203_0)).trans hw203_0), ((HB.out.cell (World.block_lt_of_cell? w _ hw203_1)).trans hw203_1), ((HB.out.cell (World.block_lt_of_cell? w _ hw203_2)).trans hw203_2), ((HB.out.cell (World.block_lt_of_cell? w _ hw204_0)).trans hw204_0)⟩ (fun hHeld => ?_); clear hK K; refine na_ ?_; refine one_ (i := 16) (N := some 43) spec_l24May.mk30 rfl rfl (one_of HT_.out (by kernel_rfl)) (by decide) (fun K hK => ?_); refine gs_ Tryd.func92 #[.agg #[.int .i64 t196, .int .i64 t197, .int .i64 t198, .int .i64 t199], .agg #[.int .i64 t205, .int .i64 t206, .int .i64 t207, .int .i64 t208]] ?_; (with_reducible refine (spec_l24Meet.calls t196 t197 t198 t199 t205 t206 t207 t208 true _ A26.out).mono ?_); rintro e w30 ⟨rfl, hb⟩; refine ⟨_, rfl, ?_⟩; replace BK200 := Aside0.mk (bb_ (bk_ BK200.out) hb); replace HB := Aside0.mk (below_step (lb1_ HB.out GE200.out) hb); (try clear hb); (try clear hb2); (try clear hk); (try clear hi); refine hK.out _ _ ⟨(blk_cell BK200.out 0).trans rfl, (blk_cell BK200.out 1).trans rfl, (blk_cell BK200.out 2).trans rfl, (blk_cell BK200.out 3).trans rfl, ((HB.out.cell (World.block_lt_of_cell? w _ hw202_0)).trans hw202_0), ((HB.out.cell (World.block_lt_of_cell? w _ hw203_0)).trans hw203_0), ((HB.out.cell (World.block_lt_of_cell? w _ hw203_1)).trans hw203_1), ((HB.out.cell (World.block_lt_of_cell? w _ hw203_2)).trans hw203_2), ((HB.out.cell (World.block_lt_of_cell? w _ hw204_0)).trans hw204_0)⟩ (fun hHeld => ?_); clear hK K; refine na_ ?_; refine pz_ HT_ 17 (some 44) spec_l24May.mk31 ?_; refine done_ (done_of HT_.out (by kernel_rfl)) ?_
             try go_wp2
             go_ret
             exact ⟨rr_, lb1_ HB.out GE200.out⟩
            ·
             replace c27 := Bool.eq_false_iff.mpr c27; subst c27
             have H1 : (spec_l24May.l0 k1 l0 l1 a2 (wrap64 (x8_1 + 1)) t196 t197 t198 t199) = some r := by rw [if_neg (show ¬ (false = true) by decide)] at H; exact H
             clear H; have H := H1; clear H1; have H' := Aside0.mk H; clear H
             try go_wp2
             replace BK200 := Aside0.mk (blk_drew BK200.out); replace HB := Aside0.mk (below_drew1 HB.out); have p202 : 0 ≤ (x8_1 : Int) := dt_; have q202 : x8_1 < (l1.length : Int) := dt_; obtain ⟨ad202, e202, hx202_0⟩ := Kd.at_int HR1.out x8_1 p202 q202; have hw202_0 := hx202_0
             obtain rfl : ad195 = ad202 := (by injection e202)
             replace hx202_0 := bc_ HB.out hx202_0; replace p202 := eq_true p202; replace q202 := eq_true q202; have p203 : 0 ≤ (x8_1 : Int) := dt_; have q203 : x8_1 < (l0.length : Int) := dt_; obtain ⟨ad203, e203, hx203_0, hx203_1, hx203_2⟩ := at_T29 HR0.out x8_1 p203 q203; have hw203_2 := hx203_2; have hw203_1 := hx203_1; have hw203_0 := hx203_0
             obtain rfl : ad194 = ad203 := (by injection e203)
             replace hx203_0 := bc_ HB.out hx203_0; replace hx203_1 := bc_ HB.out hx203_1; replace hx203_2 := bc_ HB.out hx203_2; replace p203 := eq_true p203; replace q203 := eq_true q203; have p204 : 0 ≤ (x8_1 : Int) := dt_; have q204 : x8_1 < (l1.length : Int) := dt_; obtain ⟨ad204, e204, hx204_0⟩ := Kd.at_int HR1.out x8_1 p204 q204; have hw204_0 := hx204_0
             obtain rfl : ad195 = ad204 := (by injection e204)
             replace hx204_0 := bc_ HB.out hx204_0; replace p204 := eq_true p204; replace q204 := eq_true q204; refine start_ (n := 18) (S := fun w' => w'.cell? ⟨gb200, 0, none⟩ = some (.int .i64 t196) ∧ w'.cell? ⟨gb200, 1, none⟩ = some (.int .i64 t197) ∧ w'.cell? ⟨gb200, 2, none⟩ = some (.int .i64 t198) ∧ w'.cell? ⟨gb200, 3, none⟩ = some (.int .i64 t199) ∧ w'.cell? (ad195.add (x8_1).toNat) = some (.int .i64 (rd l1 x8_1)) ∧ w'.cell? (ad194.add ((x8_1).toNat * 3)) = some (.string ((rd_T29 l0 x8_1).f0)) ∧ w'.cell? ⟨(ad194.add ((x8_1).toNat * 3)).block, (ad194.add ((x8_1).toNat * 3)).off + 1, none⟩ = some (.int .i64 ((rd_T29 l0 x8_1).f1)) ∧ w'.cell? ⟨(ad194.add ((x8_1).toNat * 3)).block, (ad194.add ((x8_1).toNat * 3)).off + 2, none⟩ = some (.int .i64 ((rd_T29 l0 x8_1).f2)) ∧ w'.cell? (ad195.add (x8_1).toNat) = some (.int .i64 (rd l1 x8_1))) (ds := []) spec_l24May.mk13 (by kernel_rfl) rfl rfl ⟨(blk_cell BK200.out 0).trans rfl, (blk_cell BK200.out 1).trans rfl, (blk_cell BK200.out 2).trans rfl, (blk_cell BK200.out 3).trans rfl, (bc_ HB.out hw202_0), (bc_ HB.out hw203_0), (bc_ HB.out hw203_1), (bc_ HB.out hw203_2), (bc_ HB.out hw204_0)⟩ (fun hHeld => ?_); refine with_tabW spec_l24May.tab7 spec_l24May.bits7 (fun HT_ HW_ => ?_); generalize wr.drew = w31 at BK200 HB hx202_0 hx203_0 hx203_1 hx203_2 hx204_0 hHeld ⊢; refine pz_ HT_ 0 (some 27) spec_l24May.mk14 ?_; refine pz_ HT_ 1 (some 28) spec_l24May.mk15 ?_; refine pz_ HT_ 2 (some 29) spec_l24May.mk16 ?_; refine tk_ HT_ HW_ hHeld 3 (some 30) spec_l24May.mk17 ?_; refine pz_ HT_ 4 (some 31) spec_l24May.mk18 ?_; refine pz_ HT_ 5 (some 32) spec_l24May.mk19 ?_; refine pz_ HT_ 7 (some 34) spec_l24May.mk20 ?_; refine pz_ HT_ 8 (some 35) spec_l24May.mk21 ?_; refine pz_ HT_ 9 (some 36) spec_l24May.mk22 ?_; refine pz_ HT_ 11 (some 38) spec_l24May.mk23 ?_; refine pz_ HT_ 12 (some 39) spec_l24May.mk24 ?_; refine pz_ HT_ 13 (some 40) spec_l24May.mk25 ?_; refine tk_ HT_ HW_ hHeld 6 (some 33) spec_l24May.mk26 ?_; refine tk_ HT_ HW_ hHeld 10 (some 37) spec_l24May.mk27 ?_; refine tk_ HT_ HW_ hHeld 14 (some 41) spec_l24May.mk28 ?_; refine one_ (i := 15) (N := some 42) spec_l24May.mk29 rfl rfl (one_of HT_.out (by kernel_rfl)) (by decide) (fun K hK => ?_); refine gs_ Tryd.func56 #[.agg #[.string ((rd_T29 l0 x8_1).f0), .int .i64 ((rd_T29 l0 x8_1).f1), .int .i64 ((rd_T29 l0 x8_1).f2)], .int .i64 (rd l1 x8_1)] ?_; (with_reducible refine (spec_l24Box.calls ((rd_T29 l0 x8_1).f0) ((rd_T29 l0 x8_1).f1) ((rd_T29 l0 x8_1).f2) (rd l1 x8_1) t205 t206 t207 t208 _ A25.out).mono ?_); rintro e w32 ⟨rfl, hb⟩; refine ⟨_, rfl, ?_⟩; replace BK200 := Aside0.mk (bb_ (bk_ BK200.out) hb); replace HB := Aside0.mk (below_step (lb1_ HB.out GE200.out) hb); (try clear hb); (try clear hb2); (try clear hk); (try clear hi); refine hK.out _ _ ⟨(blk_cell BK200.out 0).trans rfl, (blk_cell BK200.out 1).trans rfl, (blk_cell BK200.out 2).trans rfl, (blk_cell BK200.out 3).trans rfl, ((HB.out.cell (World.block_lt_of_cell? w _ hw202_0)).trans hw202_0), ((HB.out.cell (World.block_lt_of_cell? w _ hw203_0)).trans hw203_0), ((HB.out.cell (World.block_lt_of_cell? w _ hw203_1)).trans hw203_1), ((HB.out.cell (World.block_lt_of_cell? w _ hw203_2)).trans hw203_2), ((HB.out.cell (World.block_lt_of_cell? w _ hw204_0)).trans hw204_0)⟩ (fun hHeld => ?_); clear hK K; refine na_ ?_; refine one_ (i := 16) (N := some 43) spec_l24May.mk30 rfl rfl (one_of HT_.out (by kernel_rfl)) (by decide) (fun K hK => ?_); refine gs_ Tryd.func92 #[.agg #[.int .i64 t196, .int .i64 t197, .int .i64 t198, .int .i64 t199], .agg #[.int .i64 t205, .int .i64 t206, .int .i64 t207, .int .i64 t208]] ?_; (with_reducible refine (spec_l24Meet.calls t196 t197 t198 t199 t205 t206 t207 t208 false _ A26.out).mono ?_); rintro e w33 ⟨rfl, hb⟩; refine ⟨_, rfl, ?_⟩; replace BK200 := Aside0.mk (bb_ (bk_ BK200.out) hb); replace HB := Aside0.mk (below_step (lb1_ HB.out GE200.out) hb); (try clear hb); (try clear hb2); (try clear hk); (try clear hi); refine hK.out _ _ ⟨(blk_cell BK200.out 0).trans rfl, (blk_cell BK200.out 1).trans rfl, (blk_cell BK200.out 2).trans rfl, (blk_cell BK200.out 3).trans rfl, ((HB.out.cell (World.block_lt_of_cell? w _ hw202_0)).trans hw202_0), ((HB.out.cell (World.block_lt_of_cell? w _ hw203_0)).trans hw203_0), ((HB.out.cell (World.block_lt_of_cell? w _ hw203_1)).trans hw203_1), ((HB.out.cell (World.block_lt_of_cell? w _ hw203_2)).trans hw203_2), ((HB.out.cell (World.block_lt_of_cell? w _ hw204_0)).trans hw204_0)⟩ (fun hHeld => ?_); clear hK K; refine na_ ?_; refine pz_ HT_ 17 (some 44) spec_l24May.mk31 ?_; refine done_ (done_of HT_.out (by kernel_rfl)) ?_
             try go_wp2
             go_roundg k1
             case measure => have := HK1.out; omega
             case rel => exact ⟨(wrap64 (x8_1 + 1)), (by first | rfl | (simp; done) | (simp [*]; done)), H', ⟨by have := HK1.out; omega⟩, ⟨bk_ BK200.out⟩, ⟨lb1_ HB.out GE200.out⟩⟩
           ·
            rw [if_neg c24] at H
            exact absurd H (by simp)
          ·
           rw [if_neg c23] at H
           have c23b0 : decide (0 ≤ (rd l1 x8_1)) = false := decide_eq_false c23; clear c23; have H' := Aside0.mk H; clear H
           try go_wp2
           replace BK200 := Aside0.mk (blk_drew BK200.out); replace HB := Aside0.mk (below_drew1 HB.out); have p202 : 0 ≤ (x8_1 : Int) := dt_; have q202 : x8_1 < (l1.length : Int) := dt_; obtain ⟨ad202, e202, hx202_0⟩ := Kd.at_int HR1.out x8_1 p202 q202; have hw202_0 := hx202_0
           obtain rfl : ad195 = ad202 := (by injection e202)
           replace hx202_0 := bc_ HB.out hx202_0; replace p202 := eq_true p202; replace q202 := eq_true q202; refine start_ (n := 18) (S := fun w' => w'.cell? (ad195.add (x8_1).toNat) = some (.int .i64 (rd l1 x8_1))) (ds := []) spec_l24May.mk13 (by kernel_rfl) rfl rfl ((bc_ HB.out hw202_0)) (fun hHeld => ?_); refine with_tabW spec_l24May.tab7 spec_l24May.bits7 (fun HT_ HW_ => ?_); generalize wr.drew = w34 at BK200 HB hx202_0 hHeld ⊢; refine pz_ HT_ 0 (some 27) spec_l24May.mk14 ?_; refine pz_ HT_ 1 (some 28) spec_l24May.mk15 ?_; refine pz_ HT_ 2 (some 29) spec_l24May.mk16 ?_; refine take_ (i := 3) (N := some 30) (v := ?_) (a' := ?_) spec_l24May.mk17 rfl rfl (take_ofW HT_.out HW_.out (by kernel_rfl)) (fun _ _ _ h => h) (Or.inl ⟨by rfl, ?_⟩) hHeld ?_ ?_; rotate_left
           ·
            intro w' s0; go_simp; (with_reducible rfl)
           rotate_left
           ·
            simp only [Act.put, List.setIfInBounds_toArray, List.set_cons_zero, List.set_cons_succ, i64_w, i32_w]; rfl
           refine pz_ HT_ 4 (some 31) spec_l24May.mk18 ?_; refine pz_ HT_ 5 (some 32) spec_l24May.mk19 ?_; refine pu_ HT_ 6 (some 33) spec_l24May.mk32 ?_; refine pu_ HT_ 7 (some 34) spec_l24May.mk33 ?_; refine pu_ HT_ 8 (some 35) spec_l24May.mk34 ?_; refine pu_ HT_ 9 (some 36) spec_l24May.mk35 ?_; refine pu_ HT_ 10 (some 37) spec_l24May.mk36 ?_; refine pu_ HT_ 11 (some 38) spec_l24May.mk37 ?_; refine pu_ HT_ 12 (some 39) spec_l24May.mk38 ?_; refine pu_ HT_ 13 (some 40) spec_l24May.mk27 ?_; refine pu_ HT_ 14 (some 41) spec_l24May.mk28 ?_; refine pu_ HT_ 15 (some 42) spec_l24May.mk29 ?_; refine pu_ HT_ 16 (some 43) spec_l24May.mk30 ?_; refine pz_ HT_ 17 (some 44) spec_l24May.mk31 ?_; refine done_ (done_of HT_.out (by kernel_rfl)) ?_
           try go_wp2
           go_roundg k1
           case measure => have := HK1.out; omega
           case rel => exact ⟨(wrap64 (x8_1 + 1)), (by first | rfl | (simp; done) | (simp [*]; done)), H', ⟨by have := HK1.out; omega⟩, ⟨bk_ BK200.out⟩, ⟨lb1_ HB.out GE200.out⟩⟩
         ·
          rw [if_neg c22] at H
          exact absurd H (by simp)
        ·
         rw [if_neg c21] at H
         exact absurd H (by simp)
       ·
        rw [if_neg c20] at H
        have c20b0 : decide (x8_1 < a2) = false := decide_eq_false c20; clear c20; obtain rfl := Option.some.inj H
        go_wp2
        go_ret
        exact ⟨rr_, lb1_ HB.out GE200.out⟩
    ·
     replace c9 := Bool.eq_false_iff.mpr c9
     subst c9
     have H1 : (some false) = some r := by rw [if_neg (show ¬ (false = true) by decide)] at H; exact H
     clear H
     have H := H1
     clear H1
     obtain rfl := Option.some.inj H
     go_enter Tryd.func64, Tryd.ntmps64
     try go_wp2
     replace HB := Aside0.mk (below_drew1 HB.out)
     have p194 : 0 ≤ (a2 : Int) := dt_
     have q194 : a2 < (l0.length : Int) := dt_
     obtain ⟨ad194, e194, hx194_0, hx194_1, hx194_2⟩ := at_T29 HR0.out a2 p194 q194
     have hw194_2 := hx194_2
     have hw194_1 := hx194_1
     have hw194_0 := hx194_0
     cases e194
     replace hx194_0 := bc_ HB.out hx194_0
     replace hx194_1 := bc_ HB.out hx194_1
     replace hx194_2 := bc_ HB.out hx194_2
     replace p194 := eq_true p194
     replace q194 := eq_true q194
     have p195 : 0 ≤ (a2 : Int) := dt_
     have q195 : a2 < (l1.length : Int) := dt_
     obtain ⟨ad195, e195, hx195_0⟩ := Kd.at_int HR1.out a2 p195 q195
     have hw195_0 := hx195_0
     cases e195
     replace hx195_0 := bc_ HB.out hx195_0
     replace p195 := eq_true p195
     replace q195 := eq_true q195
     refine start_ (n := 11) (S := fun w' => w'.cell? (ad194.add ((a2).toNat * 3)) = some (.string ((rd_T29 l0 a2).f0)) ∧ w'.cell? ⟨(ad194.add ((a2).toNat * 3)).block, (ad194.add ((a2).toNat * 3)).off + 1, none⟩ = some (.int .i64 ((rd_T29 l0 a2).f1)) ∧ w'.cell? ⟨(ad194.add ((a2).toNat * 3)).block, (ad194.add ((a2).toNat * 3)).off + 2, none⟩ = some (.int .i64 ((rd_T29 l0 a2).f2)) ∧ w'.cell? (ad195.add (a2).toNat) = some (.int .i64 (rd l1 a2))) (ds := []) spec_l24May.mk0 (by kernel_rfl) rfl rfl ⟨(bc_ HB.out hw194_0), (bc_ HB.out hw194_1), (bc_ HB.out hw194_2), (bc_ HB.out hw195_0)⟩ (fun hHeld => ?_); refine with_tabW spec_l24May.tab1 spec_l24May.bits1 (fun HT_ HW_ => ?_)
     generalize w.drew = w35 at HB hx194_0 hx194_1 hx194_2 hx195_0 hHeld ⊢
     refine pz_ HT_ 0 (some 9) spec_l24May.mk1 ?_
     refine pz_ HT_ 1 (some 10) spec_l24May.mk2 ?_
     refine pz_ HT_ 2 (some 11) spec_l24May.mk3 ?_
     refine pz_ HT_ 4 (some 13) spec_l24May.mk4 ?_
     refine pz_ HT_ 5 (some 14) spec_l24May.mk5 ?_
     refine pz_ HT_ 6 (some 15) spec_l24May.mk6 ?_
     refine tk_ HT_ HW_ hHeld 3 (some 12) spec_l24May.mk7 ?_
     refine tk_ HT_ HW_ hHeld 7 (some 16) spec_l24May.mk8 ?_
     refine join_ (σ := Nat) 1 spec_l24May.mk9 (fun s_ => [(17, .agg #[.int .i64 t196, .int .i64 t197, .int .i64 t198, .int .i64 t199]), (7, .pointer (some ⟨s_, 0, none⟩))]) (fun s_ w' => (w'.cell? (ad194.add ((a2).toNat * 3)) = some (.string ((rd_T29 l0 a2).f0)) ∧ w'.cell? ⟨(ad194.add ((a2).toNat * 3)).block, (ad194.add ((a2).toNat * 3)).off + 1, none⟩ = some (.int .i64 ((rd_T29 l0 a2).f1)) ∧ w'.cell? ⟨(ad194.add ((a2).toNat * 3)).block, (ad194.add ((a2).toNat * 3)).off + 2, none⟩ = some (.int .i64 ((rd_T29 l0 a2).f2)) ∧ w'.cell? (ad195.add (a2).toNat) = some (.int .i64 (rd l1 a2))) ∧ (w'.heap[s_]? = some (.cells #[.int .i64 0, .int .i64 0, .int .i64 0, .int .i64 0] 26 (0, 0))) ∧ (w.heap.size ≤ s_) ∧ (w.heap.size ≤ s_) ∧ (Below w.heap.size w w')) ?_ ?_
     rotate_left
     ·
      intro hCont
      refine two_ (i := 8) (j := 9) (Ni := some 17) (Nj := some 7) spec_l24May.mk10 spec_l24May.mk11 rfl rfl rfl rfl (two_of HT_.out (by kernel_rfl)) (by decide) (by decide) (fun K hK => ?_) (fun K hK => ?_)
      ·
       skip
       refine gs_ Tryd.func56 #[.agg #[.string ((rd_T29 l0 a2).f0), .int .i64 ((rd_T29 l0 a2).f1), .int .i64 ((rd_T29 l0 a2).f2)], .int .i64 (rd l1 a2)] ?_
       with_reducible refine (spec_l24Box.calls ((rd_T29 l0 a2).f0) ((rd_T29 l0 a2).f1) ((rd_T29 l0 a2).f2) (rd l1 a2) t196 t197 t198 t199 _ A7.out).mono ?_
       rintro e w36 ⟨rfl, hb⟩
       refine ⟨_, rfl, ?_⟩
       replace HB := Aside0.mk (below_step (lb0_ HB.out) hb)
       (try clear hb)
       (try clear hb2)
       (try clear hk)
       (try clear hi)
       refine hK.out _ _ ⟨((HB.out.cell (World.block_lt_of_cell? w _ hw194_0)).trans hw194_0), ((HB.out.cell (World.block_lt_of_cell? w _ hw194_1)).trans hw194_1), ((HB.out.cell (World.block_lt_of_cell? w _ hw194_2)).trans hw194_2), ((HB.out.cell (World.block_lt_of_cell? w _ hw195_0)).trans hw195_0)⟩ (fun hHeld => ?_)
       clear hK K
       refine na_ ?_
       refine one_ (i := 9) (N := some 7) spec_l24May.mk9 rfl rfl (one_of HT_.out (by kernel_rfl)) (by decide) (fun K hK => ?_)
       refine box_step ?hg (N := 7) ?hd (cs := #[.int .i64 0, .int .i64 0, .int .i64 0, .int .i64 0]) (t := 26) ?hr ?_; (case hd => rfl); (case hg => rfl); (case hr => first | (go_simp; done) | (go_simp; rfl))
       intro gb200 hg w37 hbox hb
       have BK200 := Aside0.mk (hbox)
       have GW200 := Aside0.mk ((bz_ hg (lb0_ HB.out)))
       have GE200 := Aside0.mk ((bz_ hg (lb0_ HB.out)))
       replace HB := Aside0.mk (below_step (lb0_ HB.out) hb)
       clear hb hbox hg
       refine hK.out _ _ ⟨((HB.out.cell (World.block_lt_of_cell? w _ hw194_0)).trans hw194_0), ((HB.out.cell (World.block_lt_of_cell? w _ hw194_1)).trans hw194_1), ((HB.out.cell (World.block_lt_of_cell? w _ hw194_2)).trans hw194_2), ((HB.out.cell (World.block_lt_of_cell? w _ hw195_0)).trans hw195_0)⟩ (fun hHeld => ?_)
       clear hK K
       refine na_ ?_
       exact norm_ (by simp only [putAll, Act.put, List.setIfInBounds_toArray, List.set_cons_zero, List.set_cons_succ]) (hCont (gb200) _ ⟨hHeld, (bk_ BK200.out), GW200.out, GE200.out, (lb1_ HB.out GE200.out)⟩)
      ·
       skip
       refine box_step ?hg (N := 7) ?hd (cs := #[.int .i64 0, .int .i64 0, .int .i64 0, .int .i64 0]) (t := 26) ?hr ?_; (case hd => rfl); (case hg => rfl); (case hr => first | (go_simp; done) | (go_simp; rfl))
       intro gb200 hg w36 hbox hb
       have BK200 := Aside0.mk (hbox)
       have GW200 := Aside0.mk ((bz_ hg (lb0_ HB.out)))
       have GE200 := Aside0.mk ((bz_ hg (lb0_ HB.out)))
       replace HB := Aside0.mk (below_step (lb0_ HB.out) hb)
       clear hb hbox hg
       refine hK.out _ _ ⟨((HB.out.cell (World.block_lt_of_cell? w _ hw194_0)).trans hw194_0), ((HB.out.cell (World.block_lt_of_cell? w _ hw194_1)).trans hw194_1), ((HB.out.cell (World.block_lt_of_cell? w _ hw194_2)).trans hw194_2), ((HB.out.cell (World.block_lt_of_cell? w _ hw195_0)).trans hw195_0)⟩ (fun hHeld => ?_)
       clear hK K
       refine na_ ?_
       refine one_ (i := 8) (N := some 17) spec_l24May.mk9 rfl rfl (one_of HT_.out (by kernel_rfl)) (by decide) (fun K hK => ?_)
       refine gs_ Tryd.func56 #[.agg #[.string ((rd_T29 l0 a2).f0), .int .i64 ((rd_T29 l0 a2).f1), .int .i64 ((rd_T29 l0 a2).f2)], .int .i64 (rd l1 a2)] ?_
       with_reducible refine (spec_l24Box.calls ((rd_T29 l0 a2).f0) ((rd_T29 l0 a2).f1) ((rd_T29 l0 a2).f2) (rd l1 a2) t196 t197 t198 t199 _ A7.out).mono ?_
       rintro e w37 ⟨rfl, hb⟩
       refine ⟨_, rfl, ?_⟩
       replace BK200 := Aside0.mk (bb_ (bk_ BK200.out) hb)
       replace HB := Aside0.mk (below_step (lb1_ HB.out GE200.out) hb)
       (try clear hb)
       (try clear hb2)
       (try clear hk)
       (try clear hi)
       refine hK.out _ _ ⟨((HB.out.cell (World.block_lt_of_cell? w _ hw194_0)).trans hw194_0), ((HB.out.cell (World.block_lt_of_cell? w _ hw194_1)).trans hw194_1), ((HB.out.cell (World.block_lt_of_cell? w _ hw194_2)).trans hw194_2), ((HB.out.cell (World.block_lt_of_cell? w _ hw195_0)).trans hw195_0)⟩ (fun hHeld => ?_)
       clear hK K
       refine na_ ?_
       exact norm_ (by simp only [putAll, Act.put, List.setIfInBounds_toArray, List.set_cons_zero, List.set_cons_succ]) (hCont (gb200) _ ⟨hHeld, (bk_ BK200.out), GW200.out, GE200.out, (lb1_ HB.out GE200.out)⟩)
     rintro gb200 w38 ⟨hS_, h0_, h1_, h2_, h3_⟩
     (try dsimp only at h0_ h1_ h2_ h3_)
     have BK200 := Aside0.mk h0_
     have GW200 := Aside0.mk h1_
     have GE200 := Aside0.mk h2_
     replace HB := Aside0.mk h3_
     clear h0_ h1_ h2_ h3_
     have hHeld : w38.cell? (ad194.add ((a2).toNat * 3)) = some (.string ((rd_T29 l0 a2).f0)) ∧ w38.cell? ⟨(ad194.add ((a2).toNat * 3)).block, (ad194.add ((a2).toNat * 3)).off + 1, none⟩ = some (.int .i64 ((rd_T29 l0 a2).f1)) ∧ w38.cell? ⟨(ad194.add ((a2).toNat * 3)).block, (ad194.add ((a2).toNat * 3)).off + 2, none⟩ = some (.int .i64 ((rd_T29 l0 a2).f2)) ∧ w38.cell? (ad195.add (a2).toNat) = some (.int .i64 (rd l1 a2)) := hS_
     refine nb_ ?_
     refine one_ (i := 10) (N := none) spec_l24May.mk12 rfl rfl (one_of HT_.out (by kernel_rfl)) (by decide) (fun K hK => ?_)
     have hs39 : w38.cell? ⟨gb200, 0, none⟩ = some (.int .i64 0) := (blk_cell BK200.out 0).trans rfl
     have hfs39 := blk_frozen BK200.out 0
     have hs40 : w38.cell? ⟨gb200, 1, none⟩ = some (.int .i64 0) := (blk_cell BK200.out 1).trans rfl
     have hfs40 := blk_frozen BK200.out 1
     have hs41 : w38.cell? ⟨gb200, 2, none⟩ = some (.int .i64 0) := (blk_cell BK200.out 2).trans rfl
     have hfs41 := blk_frozen BK200.out 2
     have hs42 : w38.cell? ⟨gb200, 3, none⟩ = some (.int .i64 0) := (blk_cell BK200.out 3).trans rfl
     have hfs42 := blk_frozen BK200.out 3
     refine skip_ (w1 := ?_) (by rfl) rfl ?_ ?_
     rotate_left
     ·
      go_simp
      rfl
     refine hK.out _ _ ⟨((cell_far (p := ⟨gb200, _, none⟩) (Nat.ne_of_lt (Nat.lt_of_lt_of_le (World.block_lt_of_cell? _ _ hw194_0) GW200.out)) _).trans (((cell_far (p := ⟨gb200, _, none⟩) (Nat.ne_of_lt (Nat.lt_of_lt_of_le (World.block_lt_of_cell? _ _ hw194_0) GW200.out)) _).trans (((cell_far (p := ⟨gb200, _, none⟩) (Nat.ne_of_lt (Nat.lt_of_lt_of_le (World.block_lt_of_cell? _ _ hw194_0) GW200.out)) _).trans (((cell_far (p := ⟨gb200, _, none⟩) (Nat.ne_of_lt (Nat.lt_of_lt_of_le (World.block_lt_of_cell? _ _ hw194_0) GW200.out)) _).trans (hHeld.1)))))))), ((cell_far (p := ⟨gb200, _, none⟩) (Nat.ne_of_lt (Nat.lt_of_lt_of_le (World.block_lt_of_cell? _ _ hw194_1) GW200.out)) _).trans (((cell_far (p := ⟨gb200, _, none⟩) (Nat.ne_of_lt (Nat.lt_of_lt_of_le (World.block_lt_of_cell? _ _ hw194_1) GW200.out)) _).trans (((cell_far (p := ⟨gb200, _, none⟩) (Nat.ne_of_lt (Nat.lt_of_lt_of_le (World.block_lt_of_cell? _ _ hw194_1) GW200.out)) _).trans (((cell_far (p := ⟨gb200, _, none⟩) (Nat.ne_of_lt (Nat.lt_of_lt_of_le (World.block_lt_of_cell? _ _ hw194_1) GW200.out)) _).trans (hHeld.2.1)))))))), ((cell_far (p := ⟨gb200, _, none⟩) (Nat.ne_of_lt (Nat.lt_of_lt_of_le (World.block_lt_of_cell? _ _ hw194_2) GW200.out)) _).trans (((cell_far (p := ⟨gb200, _, none⟩) (Nat.ne_of_lt (Nat.lt_of_lt_of_le (World.block_lt_of_cell? _ _ hw194_2) GW200.out)) _).trans (((cell_far (p := ⟨gb200, _, none⟩) (Nat.ne_of_lt (Nat.lt_of_lt_of_le (World.block_lt_of_cell? _ _ hw194_2) GW200.out)) _).trans (((cell_far (p := ⟨gb200, _, none⟩) (Nat.ne_of_lt (Nat.lt_of_lt_of_le (World.block_lt_of_cell? _ _ hw194_2) GW200.out)) _).trans (hHeld.2.2.1)))))))), ((cell_far (p := ⟨gb200, _, none⟩) (Nat.ne_of_lt (Nat.lt_of_lt_of_le (World.block_lt_of_cell? _ _ hw195_0) GW200.out)) _).trans (((cell_far (p := ⟨gb200, _, none⟩) (Nat.ne_of_lt (Nat.lt_of_lt_of_le (World.block_lt_of_cell? _ _ hw195_0) GW200.out)) _).trans (((cell_far (p := ⟨gb200, _, none⟩) (Nat.ne_of_lt (Nat.lt_of_lt_of_le (World.block_lt_of_cell? _ _ hw195_0) GW200.out)) _).trans (((cell_far (p := ⟨gb200, _, none⟩) (Nat.ne_of_lt (Nat.lt_of_lt_of_le (World.block_lt_of_cell? _ _ hw195_0) GW200.out)) _).trans (hHeld.2.2.2))))))))⟩ (fun hHeld => ?_)
     clear hK K
     refine done_ (done_of HT_.out (by kernel_rfl)) ?_
     obtain ⟨hcz43_0, hcz43_1, hcz43_2, hcz43_3⟩ := cz4_ BK200.out
     obtain ⟨hfz43_0, hfz43_1, hfz43_2, hfz43_3⟩ := fz4_ BK200.out
     try go_wp2_with (first | ((with_reducible refine gate_callee (f := 97) rfl ?_); refine ga_ (some 20) Tryd.func97 #[.slice (some ad194) l0.length c0, .agg #[.int .i64 t196, .int .i64 t197, .int .i64 t198, .int .i64 t199]] ?_; (with_reducible refine (spec_l24Free.calls k _ _ l0 t196 t197 t198 t199 false _ ?side1 ?side2 A8.out).mono ?_); (case side1 => exact Kd.C_below HR0.out (lb1_ HB.out GE200.out)); (case side2 => exact HC0.out); rintro e w44 ⟨rfl, hb⟩; refine ⟨_, rfl, ?_⟩; replace BK200 := Aside0.mk (blk_below (g := gb200) (o := .cells #[.int .i64 t196, .int .i64 t197, .int .i64 t198, .int .i64 t199] 26 (0, 0)) (by (with_reducible repeat (first | refine blk_drewN ?_ _ | refine blk_drew ?_ | refine blk_alloc ?_ _)); exact (p4_ BK200.out _ _ _ _)) hb); replace HB := Aside0.mk (below_step (lb1_ HB.out GE200.out) hb); (try clear hb); (try clear hb2); (try clear hk); (try clear hi)))
     go_ret
     exact ⟨rr_, lb1_ HB.out GE200.out⟩
   ·
    rw [if_neg c6] at H
    exact absurd H (by simp)
  ·
   rw [if_neg c5] at H
   exact absurd H (by simp)
 ·
  rw [if_neg c4] at H
  exact absurd H (by simp)
def spec_l1Own.f (l0 : List Int) : Option (List Int) := (some (([] : List Int) : List Int)).bind fun y405 => (if y405.length + l0.length < 17592186044416 then (some (y405 ++ l0)) else (none))
set_option maxHeartbeats 8000000 in
set_option maxRecDepth 100000 in
theorem spec_l1Own.calls (A0 : Option Addr) (c0 : Nat) (l0 : List Int) (r : List Int) (w : World) (hr0 : Kd.C (Kd.int .i64) w A0 l0.length l0) (hc0 : l0.length ≤ c0) (h : spec_l1Own.f l0 = some r) :
  Calls Tryd.prog 101 #[.slice A0 l0.length c0] w fun e w' => ∃ v0_ : Value, e = .returned (v0_) ∧ Kd.R (Kd.int .i64) 3 w' w.heap.size (fun _ => True) v0_ r ∧ Below w.heap.size w w' := by
 have HR0 := Aside0.mk hr0
 have HC0 := Aside0.mk hc0
 clear hr0 hc0
 have HB := Aside0.mk (Below.refl w.heap.size w)
 have H : ((some (([] : List Int) : List Int)).bind fun y405 => (if y405.length + l0.length < 17592186044416 then (some (y405 ++ l0)) else (none))) = some r := h
 clear h
 obtain ⟨y405, hy405⟩ : ∃ y_ : List Int, y_ = (([] : List Int)) := ⟨_, rfl⟩
 replace H : (if y405.length + l0.length < 17592186044416 then (some (y405 ++ l0)) else (none)) = some r := by first | (rw [hy405]; with_reducible exact H) | (have H2_ := (Option.bind_some _ _).symm.trans H; rw [hy405]; with_reducible exact H2_) | (have H2_ := (Option.bind_some _ _).symm.trans H; with_reducible exact H2_) | with_reducible exact H | (rw [hy405]; exact H) | exact H
 have Ny405 := Aside0.mk hy405
 clear hy405
 by_cases c2 : y405.length + l0.length < 17592186044416
 ·
  rw [if_pos c2] at H
  have LMc2 := Aside0.mk c2
  clear c2
  obtain ⟨y408, hy408⟩ : ∃ y_ : List Int, y_ = (y405 ++ l0) := ⟨_, rfl⟩
  replace H : (some y408) = some r := by first | (rw [hy408]; with_reducible exact H) | (have H2_ := (Option.bind_some _ _).symm.trans H; rw [hy408]; with_reducible exact H2_) | (have H2_ := (Option.bind_some _ _).symm.trans H; with_reducible exact H2_) | with_reducible exact H | (rw [hy408]; exact H) | exact H
  have Ny408 := Aside0.mk hy408
  clear hy408
  obtain rfl := Option.some.inj H
  go_enter Tryd.func101, Tryd.ntmps101
  go_wp2_with (first | ((with_reducible refine gate_dst (N := 3) rfl ?_); refine Kd.R_lit (Kd.int .i64) _ 3 ?hg (N := 3) ?hd (xs := ([] : List Int)) (inner := []) (ok := fun _ => True) (okp := fun _ => True) ?hr ?hp (fun _ hk => hk) trivial (Below.refl _ _) (Nat.le_refl _) (by simp) ?_; (case hd => rfl); (case hg => rfl); (case hr => first | (go_simp; done) | (go_simp; rfl)); (case hp => exact (Reps.none _ _)); intro v406 w3 ho4 hb hg_ hnew_; clear hg_ hnew_; replace ho4 := ry_ Ny405.out ho4; have HO407 := Aside0.mk (Kd.R_lower ho4 (below_size (lb0_ HB.out))); replace HB := Aside0.mk (below_step (lb0_ HB.out) hb); clear hb ho4) | ((with_reducible refine gate_builtin (b := .append) (xs := #[.tmp 3, .tmp 4]) rfl ?_); at_builtin; refine Kd.R_append_rows (Kd.int .i64) (w0 := w) w.heap.size rfl (.tmp 3) (.tmp 4) 40 3 (.int .i64 0) 8 rfl Tryd.underlying40 info3 rfl (by decide) (by omega) v406 y405 l0 _ _ _ (fun _ => True) (fun _ => False) rfl rfl ?aO ?aR (fun _ _ h => h) (fun _ h => h.elim) ?aF ?aB ?aS ?aL ?_; (case aR => exact kc_ (Kd.C_below HR0.out HB.out)); (case aB => exact (lb0_ HB.out)); (case aF => exact (fun _ _ => trivial)); (case aO => exact (kr_ HO407.out)); (case aS => exact (below_size (lb0_ HB.out))); (case aL => have := LMc2.out; omega); intro v409 w5 ho hb hg hat; rw [← Ny408.out] at ho; replace HB := Aside0.mk (hb); have HO410 := Aside0.mk (ho); clear HO407; clear ho hb hg hat))
  go_ret
  exact ⟨_, rr_, kr_ HO410.out, lb0_ HB.out⟩
 ·
  rw [if_neg c2] at H
  exact absurd H (by simp)
mutual
def spec_l24Count.l0 : Nat → List (S29) → Int → List Int → Int → List Int → Int → Int → Option (List Int × Int)
 | 0, _, _, _, _, _, _, _ => none
 | k + 1, x0, x1, x2, x8, x11, x12, x13 => if x13 < 4 then ((spec_l1Own.f x2).bind fun t424 => (if t424.length < 17592186044416 then ((some (t424 ++ [x13] : List Int)).bind fun y427 => ((spec_l24May.f k x0 y427 x8).bind fun t430 => (if t430 = true then ((spec_l24Count.f k x0 x1 y427).bind fun bt431 => (if x12 = 0 then (if bt431.2 > 0 then (spec_l24Count.l0 k x0 x1 x2 x8 bt431.1 (wrap64 (x12 + bt431.2)) (wrap64 (x13 + 1))) else (spec_l24Count.l0 k x0 x1 x2 x8 x11 (wrap64 (x12 + bt431.2)) (wrap64 (x13 + 1)))) else (spec_l24Count.l0 k x0 x1 x2 x8 x11 (wrap64 (x12 + bt431.2)) (wrap64 (x13 + 1))))) else (spec_l24Count.l0 k x0 x1 x2 x8 x11 x12 (wrap64 (x13 + 1)))))) else (none))) else (some (x11, x12))
def spec_l24Count.f : Nat → List (S29) → Int → List Int → Option (List Int × Int)
 | 0, _, _, _ => none
 | k + 1, l0, a1, l2 => if (l2.length : Int) = (l0.length : Int) then (some (l2, 1)) else (if 0 ≤ (IntKind.u64.wrap ((l2.length : Int))) then (if (Go.bits .and .i64 (shr .i64 a1 (IntKind.u64.wrap ((l2.length : Int)))) 1) = 0 then ((spec_l1Own.f l2).bind fun t411 => (if t411.length < 17592186044416 then ((spec_l24Count.f k l0 a1 (t411 ++ [(-1)])).bind fun bt417 => (some (bt417.1, bt417.2))) else (none))) else (spec_l24Count.l0 k l0 a1 l2 (l2.length : Int) (([] : List Int)) 0 0)) else (none))
end
set_option maxHeartbeats 8000000 in
set_option maxRecDepth 100000 in
theorem spec_l24Count.calls (k : Nat) : ∀ (A0 : Option Addr) (c0 : Nat) (l0 : List (S29)) (a1 : Int) (P2_ : Nat → Prop) (u9000_ : Value) (l2 : List Int) (r1 : List Int) (r2 : Int) (w0 w : World) (hB : Below w0.heap.size w0 w) (hr0 : ∀ W_, Kept w W_ (fun k_ => P2_ k_) → Kd.C k29 W_ A0 l0.length l0) (hc0 : l0.length ≤ c0) (ho2 : Kd.R (Kd.int .i64) 3 w w0.heap.size P2_ u9000_ l2) (h : spec_l24Count.f k l0 a1 l2 = some (r1, r2)),
  Calls Tryd.prog 76 #[.slice A0 l0.length c0, .int .i64 a1, u9000_] w fun e w' => ∃ v0_ : Value, e = .returned (.tuple #[v0_, .int .i64 r2]) ∧ Kd.R (Kd.int .i64) 3 w' w0.heap.size (fun k_ => (P2_ k_ ∨ w.heap.size ≤ k_)) v0_ r1 ∧ Below w0.heap.size w0 w' ∧ Kept w w' (fun k_ => P2_ k_) := by
 induction k using Nat.strongRecOn with
 | _ k ih =>
 intro A0 c0 l0 a1 P2_ u9000_ l2 r1 r2 w0 w hB hr0 hc0 ho2 h
 cases k with
 | zero => exact absurd h (by simp [spec_l24Count.f])
 | succ k =>
 simp only [spec_l24Count.f] at h
 have HR0 := Aside0.mk hr0
 have HC0 := Aside0.mk hc0
 clear hr0 hc0
 have HO2 := Aside0.mk (show Kd.R (Kd.int .i64) 3 w w0.heap.size (fun k_ => (P2_ k_ ∨ w.heap.size ≤ k_)) u9000_ l2 from Kd.R_mono ho2 (fun k_ hk => (.inl hk)))
 have HK := Aside0.mk (Kept.refl w (fun k_ => P2_ k_))
 have HW0 := Aside0.mk hB.size
 have HB := Aside0.mk hB
 clear hB
 have H : (if (l2.length : Int) = (l0.length : Int) then (some (l2, 1)) else (if 0 ≤ (IntKind.u64.wrap ((l2.length : Int))) then (if (Go.bits .and .i64 (shr .i64 a1 (IntKind.u64.wrap ((l2.length : Int)))) 1) = 0 then ((spec_l1Own.f l2).bind fun t411 => (if t411.length < 17592186044416 then ((spec_l24Count.f k l0 a1 (t411 ++ [(-1)])).bind fun bt417 => (some (bt417.1, bt417.2))) else (none))) else (spec_l24Count.l0 k l0 a1 l2 (l2.length : Int) (([] : List Int)) 0 0)) else (none))) = some (r1, r2) := h
 clear h
 by_cases c4 : (l2.length : Int) = (l0.length : Int)
 ·
  rw [if_pos c4] at H
  have c4b0 : ((l2.length : Int) == (l0.length : Int)) = true := beq_iff_eq.mpr c4
  have c4b1 : ((l2.length : Int) != (l0.length : Int)) = false := bne_eq_false_iff_eq.mpr c4
  have c4b2 : (l2.length == l0.length) = true := by first | simpa using c4 | (simp at c4 ⊢; omega)
  clear c4
  simp only [Option.some.injEq, Prod.mk.injEq] at H
  obtain ⟨rfl, rfl⟩ := H
  obtain ⟨Ao5, co5, eo5⟩ := Kd.R_slice HO2.out
  subst eo5
  go_enter Tryd.func76, Tryd.ntmps76
  go_wp2
  go_ret2
  exact ⟨_, rr_, kr_ HO2.out, lb0_ HB.out, kt_ HK.out⟩
 ·
  rw [if_neg c4] at H
  have c4b0 : ((l2.length : Int) == (l0.length : Int)) = false := beq_eq_false_iff_ne.mpr c4
  have c4b1 : ((l2.length : Int) != (l0.length : Int)) = true := bne_iff_ne.mpr c4
  have c4b2 : (l2.length == l0.length) = false := by first | simpa using c4 | (simp at c4 ⊢; omega)
  obtain ⟨ji6, hji6⟩ : ∃ j_ : Int, (IntKind.u64.wrap ((l2.length : Int))) = j_ := ⟨_, rfl⟩
  replace H : (if 0 ≤ (ji6) then (if (Go.bits .and .i64 (shr .i64 a1 (ji6)) 1) = 0 then ((spec_l1Own.f l2).bind fun t411 => (if t411.length < 17592186044416 then ((spec_l24Count.f k l0 a1 (t411 ++ [(-1)])).bind fun bt417 => (some (bt417.1, bt417.2))) else (none))) else (spec_l24Count.l0 k l0 a1 l2 (l2.length : Int) (([] : List Int)) 0 0)) else (none)) = some (r1, r2) := by first | (rw [hji6] at H; exact H) | (simp only [hji6] at H ⊢; exact H)
  by_cases c7 : 0 ≤ (ji6)
  ·
   rw [if_pos c7] at H
   have c7b0 := eq_true c7
   have c7b1 : decide (0 ≤ (ji6)) = true := decide_eq_true c7
   clear c7
   obtain ⟨ji8, hji8⟩ : ∃ j_ : Int, (shr .i64 a1 (ji6)) = j_ := ⟨_, rfl⟩
   replace H : (if (Go.bits .and .i64 (ji8) 1) = 0 then ((spec_l1Own.f l2).bind fun t411 => (if t411.length < 17592186044416 then ((spec_l24Count.f k l0 a1 (t411 ++ [(-1)])).bind fun bt417 => (some (bt417.1, bt417.2))) else (none))) else (spec_l24Count.l0 k l0 a1 l2 (l2.length : Int) (([] : List Int)) 0 0)) = some (r1, r2) := by first | (rw [hji8] at H; exact H) | (simp only [hji8] at H ⊢; exact H)
   have hji8_ : (a1 / 2 ^ min (ji6).toNat 64) = ji8 := hji8
   have hji8z : (ji6) ≤ 64 → (a1 / 2 ^ (ji6).toNat) = ji8 := shr_small hji8
   by_cases c9 : (Go.bits .and .i64 (ji8) 1) = 0
   ·
    rw [if_pos c9] at H
    have c9b0 : ((Go.bits .and .i64 (ji8) 1) == 0) = true := beq_iff_eq.mpr c9
    have c9b1 : ((Go.bits .and .i64 (ji8) 1) != 0) = false := bne_eq_false_iff_eq.mpr c9
    clear c9
    replace H := Option.bind_eq_some_iff.mp H
    obtain ⟨t411, A100, H⟩ := H
    replace H : (if t411.length < 17592186044416 then ((spec_l24Count.f k l0 a1 (t411 ++ [(-1)])).bind fun bt417 => (some (bt417.1, bt417.2))) else (none)) = some (r1, r2) := H
    have A10 := Aside0.mk A100
    clear A100
    by_cases c11 : t411.length < 17592186044416
    ·
     rw [if_pos c11] at H
     have LMc11 := Aside0.mk c11
     clear c11
     obtain ⟨y414, hy414⟩ : ∃ y_ : List Int, y_ = (t411 ++ [(-1)]) := ⟨_, rfl⟩
     replace H : ((spec_l24Count.f k l0 a1 y414).bind fun bt417 => (some (bt417.1, bt417.2))) = some (r1, r2) := by first | (rw [hy414]; with_reducible exact H) | (have H2_ := (Option.bind_some _ _).symm.trans H; rw [hy414]; with_reducible exact H2_) | (have H2_ := (Option.bind_some _ _).symm.trans H; with_reducible exact H2_) | with_reducible exact H | (rw [hy414]; exact H) | exact H
     have Ny414 := Aside0.mk hy414
     clear hy414
     replace H := Option.bind_eq_some_iff.mp H
     obtain ⟨⟨t417, t420⟩, A120, H⟩ := H
     replace H : (some (t417, t420)) = some (r1, r2) := H
     have A12 := Aside0.mk A120
     clear A120
     simp only [Option.some.injEq, Prod.mk.injEq] at H
     obtain ⟨rfl, rfl⟩ := H
     obtain ⟨Ao13, co13, eo13⟩ := Kd.R_slice HO2.out
     subst eo13
     go_enter Tryd.func76, Tryd.ntmps76
     go_wp2_with (first | ((with_reducible refine gate_callee (f := 101) rfl ?_); refine ga_ (some 34) Tryd.func101 #[.slice Ao13 l2.length co13] ?_; (with_reducible refine (spec_l1Own.calls _ _ l2 t411 _ ?side1 ?side2 A10.out).mono ?_); (case side1 => exact kc_ (Kd.R_reads' HO2.out).2.2); (case side2 => exact (Kd.R_reads' HO2.out).2.1); rintro e w14 ⟨v412, rfl, ho0, hb⟩; refine ⟨_, rfl, ?_⟩; have HO413 := Aside0.mk (Kd.R_lower (Kd.R_new' (Kd.R_newM (M := fun k_ => (P2_ k_ ∨ w.heap.size ≤ k_)) ho0 (by first | exact HK.out.1 | exact (show Kept w _ (fun k_ => P2_ k_) from kt_ HK.out).1) (fun k_ h_ => .inr h_)) (Kd.R_lt (kr_ HO2.out))) (below_size (lb0_ HB.out))); replace HO2 := Aside0.mk (Kd.R_elder' (kr_ HO2.out) (Kd.R_base ho0) hb); replace HK := Aside0.mk (Kept.below (S := (fun k_ => P2_ k_)) (kt_ HK.out) hb); replace HB := Aside0.mk (below_step (lb0_ HB.out) hb); (try clear hb); (try clear hb2); (try clear hk); (try clear hi); (try clear ho0)) | ((with_reducible refine gate_builtin (b := .append) (xs := #[.tmp 34, .tmp 35]) rfl ?_); at_builtin; refine Kd.R_append (Kd.int .i64) (w0 := w0) w0.heap.size rfl (.tmp 34) (.tmp 35) 40 3 (.int .i64 0) 8 rfl Tryd.underlying40 info3 rfl (by decide) (by omega) v412 t411 (-1) [.int .i64 (-1)] (fun k_ => (P2_ k_ ∨ w.heap.size ≤ k_) ∧ some k_ ≠ (.slice Ao13 l2.length co13 : Value).ownBlock) (fun _ => False) rfl rfl ?aP (fun _ hk => hk.elim) ?aF ?aO ?aB ?aS ?aL ?_; (case aP => exact rfl); (case aB => exact (lb0_ HB.out)); (case aF => exact (fun k_ hk => ⟨(.inr (Nat.le_trans (by first | exact HK.out.1 | exact (show Kept w _ (fun k_ => P2_ k_) from kt_ HK.out).1) hk)), Kd.fresh' (Kd.R_lt (kr_ HO2.out)) k_ hk⟩)); (case aO => exact (krm_ HO413.out (fun _ hk => ⟨hk.1.1, hk.2⟩))); (case aS => exact (below_size (lb0_ HB.out))); (case aL => have := LMc11.out; omega); intro v415 w15 ho hb hg hat; rw [← Ny414.out] at ho; replace HO2 := Aside0.mk (Kd.R_after (ok := (fun k_ => (P2_ k_ ∨ w.heap.size ≤ k_))) (kr_ HO2.out) hg hat); replace HB := Aside0.mk (hb); replace HK := Aside0.mk (Kept.of_grown (S := (fun k_ => P2_ k_)) hg (kt_ HK.out) (fun k_ e_ => (HO413.out.1 k_ e_).1.1)); have HO416 := Aside0.mk (ho); clear HO413; clear ho hb hg hat; obtain ⟨Ao16, co16, eo16⟩ := Kd.R_slice HO416.out; subst eo16) | ((with_reducible refine gate_callee (f := 76) rfl ?_); refine ga_ (some 37) Tryd.func76 #[.slice A0 l0.length c0, .int .i64 a1, .slice Ao16 y414.length co16] ?_; (with_reducible refine (ih k (by omega) _ _ l0 a1 (fun k_ => some k_ = (.slice Ao16 y414.length co16 : Value).ownBlock) (.slice Ao16 y414.length co16) y414 t417 t420 w0 _ ?side1 ?side2 ?side3 ?side4 A12.out).mono ?_); (case side1 => exact lb0_ HB.out); (case side2 => exact Kd.C_kept_call HR0.out (kt_ HK.out) (fun k_ hs_ => (fun e_ => (HO416.out.1 k_ e_.symm).1) hs_)); (case side3 => exact HC0.out); (case side4 => exact Kd.R_tight rfl HO416.out); rintro e w17 ⟨v418, rfl, ho0, hb, hkp⟩; refine ⟨_, rfl, ?_⟩; have HO419 := Aside0.mk (Kd.R_mono (ok' := fun k_ => (P2_ k_ ∨ w.heap.size ≤ k_) ∧ some k_ ≠ (.slice Ao13 l2.length co13 : Value).ownBlock) ho0 (fun k_ hk_ => ⟨Or.elim hk_ (fun hs_ => (HO416.out.1 k_ (hs_).symm).1) (fun hn_ => (.inr (Nat.le_trans (by first | exact HK.out.1 | exact (show Kept w _ (fun k_ => P2_ k_) from kt_ HK.out).1) hn_))), Or.elim hk_ (fun hs_ => fun e_ => (((HO2.out).1 k_ e_.symm).2) hs_) (fun hn_ => (Kd.fresh' (Kd.R_lt (kr_ HO2.out)) k_ hn_))⟩)); replace HO2 := Aside0.mk (Kd.R_mono (ok' := fun k_ => (P2_ k_ ∨ w.heap.size ≤ k_) ∧ some k_ ≠ (v418 : Value).ownBlock) (Kd.R_keptB (HO2.out) hkp (fun k_ hk_ hs_ => (hk_.2) hs_)) (fun k_ hk_ => ⟨hk_.1.1, fun e_ => Or.elim (ho0.1 k_ e_.symm) (fun hs_ => hk_.2.1 hs_) (fun hn_ => Nat.not_le.2 hk_.2.2 hn_)⟩)); replace HK := Aside0.mk (Kept.then_ (S := (fun k_ => P2_ k_)) (kt_ HK.out) hkp (fun k_ hs_ => (fun e_ => (HO416.out.1 k_ e_.symm).1) hs_)); replace HB := Aside0.mk (hb); clear HO416; (try clear hb); (try clear hkp); (try clear ho0)))
     go_ret2
     exact ⟨_, by first | rfl | (simp [errW_none, errW_some] <;> rfl) | (simp only [← hji6, ← hji8]; first | rfl | (simp [errW_none, errW_some] <;> rfl)) | (simp [*, errW_none, errW_some] <;> rfl), krm_ HO419.out (fun _ hk => hk.1), lb0_ HB.out, kt_ HK.out⟩
    ·
     rw [if_neg c11] at H
     exact absurd H (by simp)
   ·
    rw [if_neg c9] at H
    have c9b0 : ((Go.bits .and .i64 (ji8) 1) == 0) = false := beq_eq_false_iff_ne.mpr c9
    have c9b1 : ((Go.bits .and .i64 (ji8) 1) != 0) = true := bne_iff_ne.mpr c9
    obtain ⟨y421, hy421⟩ : ∃ y_ : List Int, y_ = (([] : List Int)) := ⟨_, rfl⟩
    replace H : (spec_l24Count.l0 k l0 a1 l2 (l2.length : Int) y421 0 0) = some (r1, r2) := by first | (rw [hy421]; with_reducible exact H) | (have H2_ := (Option.bind_some _ _).symm.trans H; rw [hy421]; with_reducible exact H2_) | (have H2_ := (Option.bind_some _ _).symm.trans H; with_reducible exact H2_) | with_reducible exact H | (rw [hy421]; exact H) | exact H
    have Ny421 := Aside0.mk hy421
    clear hy421
    have H' := Aside0.mk H
    clear H
    obtain ⟨Ao18, co18, eo18⟩ := Kd.R_slice HO2.out
    subst eo18
    go_enter Tryd.func76, Tryd.ntmps76
    go_wp2_with (first | ((with_reducible refine gate_dst (N := 42) rfl ?_); refine Kd.R_lit (Kd.int .i64) _ 3 ?hg (N := 42) ?hd (xs := ([] : List Int)) (inner := []) (ok := fun _ => True) (okp := fun _ => True) ?hr ?hp (fun _ hk => hk) trivial (Below.refl _ _) (Nat.le_refl _) (by simp) ?_; (case hd => rfl); (case hg => rfl); (case hr => first | (go_simp; done) | (go_simp; rfl)); (case hp => exact (Reps.none _ _)); intro v422 w19 ho20 hb hg_ hnew_; clear hg_ hnew_; replace ho20 := ry_ Ny421.out ho20; have HO423 := Aside0.mk (Kd.R_lower (Kd.R_new' (Kd.R_newM (M := fun k_ => (P2_ k_ ∨ w.heap.size ≤ k_)) ho20 (by first | exact HK.out.1 | exact (show Kept w _ (fun k_ => P2_ k_) from kt_ HK.out).1) (fun k_ h_ => .inr h_)) (Kd.R_lt (kr_ HO2.out))) (below_size (lb0_ HB.out))); replace HO2 := Aside0.mk (Kd.R_elder' (kr_ HO2.out) (Kd.R_base ho20) hb); replace HK := Aside0.mk (Kept.below (S := (fun k_ => P2_ k_)) (kt_ HK.out) hb); replace HB := Aside0.mk (below_step (lb0_ HB.out) hb); clear hb ho20))
    go_loopg [11, 12, 13] k (fun kq v11 v12 v13 w' => ∃ (x11_1 : List Int) (x12_1 : Int) (x13_1 : Int), v12 = .int .i64 x12_1 ∧ v13 = .int .i64 x13_1 ∧ Aside0 (spec_l24Count.l0 kq l0 a1 l2 (l2.length : Int) x11_1 x12_1 x13_1 = some (r1, r2)) ∧ Aside0 (kq ≤ k) ∧ Aside0 (Kd.R (Kd.int .i64) 3 w' w0.heap.size (fun k_ => (P2_ k_ ∨ w.heap.size ≤ k_) ∧ some k_ ≠ (v11 : Value).ownBlock) (.slice Ao18 l2.length co18) l2) ∧ Aside0 (Kd.R (Kd.int .i64) 3 w' w0.heap.size (fun k_ => (P2_ k_ ∨ w.heap.size ≤ k_) ∧ some k_ ≠ ((.slice Ao18 l2.length co18) : Value).ownBlock) v11 x11_1) ∧ Aside0 (Kept w w' (fun k_ => P2_ k_)) ∧ Aside0 (Below w0.heap.size w0 w'))
    case atStart => exact ⟨(y421), (0), (0), (by first | rfl | (simp; done) | (simp [*]; done)), (by first | rfl | (simp; done) | (simp [*]; done)), H', ⟨Nat.le_refl _⟩, ⟨kr_ HO2.out⟩, ⟨krm_ HO423.out (fun _ hk => ⟨hk.1.1, hk.2⟩)⟩, ⟨kt_ HK.out⟩, ⟨lb0_ HB.out⟩⟩
    case round =>
     clear H'
     try clear c1
     try clear p2
     try clear c4
     try clear c4b0
     try clear c4b1
     try clear c4b2
     try clear c7
     try clear c7b0
     try clear c7b1
     try clear c9
     try clear c9b0
     try clear c9b1
     try clear c10
     try clear c11
     obtain ⟨x11_1, x12_1, x13_1, rfl, rfl, HA, HK1, HO_2, HO_11, HK, HB⟩ := hrel
     cases gk with
     | zero => exact absurd HA.out (by simp [spec_l24Count.l0])
     | succ k1 =>
      have H := HA.out
      clear HA
      simp only [spec_l24Count.l0] at H
      by_cases c21 : x13_1 < 4
      ·
       rw [if_pos c21] at H
       have c21b0 : decide (x13_1 < 4) = true := decide_eq_true c21
       clear c21
       replace H := Option.bind_eq_some_iff.mp H
       obtain ⟨t424, A220, H⟩ := H
       replace H : (if t424.length < 17592186044416 then ((some (t424 ++ [x13_1] : List Int)).bind fun y427 => ((spec_l24May.f k1 l0 y427 (l2.length : Int)).bind fun t430 => (if t430 = true then ((spec_l24Count.f k1 l0 a1 y427).bind fun bt431 => (if x12_1 = 0 then (if bt431.2 > 0 then (spec_l24Count.l0 k1 l0 a1 l2 (l2.length : Int) bt431.1 (wrap64 (x12_1 + bt431.2)) (wrap64 (x13_1 + 1))) else (spec_l24Count.l0 k1 l0 a1 l2 (l2.length : Int) x11_1 (wrap64 (x12_1 + bt431.2)) (wrap64 (x13_1 + 1)))) else (spec_l24Count.l0 k1 l0 a1 l2 (l2.length : Int) x11_1 (wrap64 (x12_1 + bt431.2)) (wrap64 (x13_1 + 1))))) else (spec_l24Count.l0 k1 l0 a1 l2 (l2.length : Int) x11_1 x12_1 (wrap64 (x13_1 + 1)))))) else (none)) = some (r1, r2) := H
       have A22 := Aside0.mk A220
       clear A220
       by_cases c23 : t424.length < 17592186044416
       ·
        rw [if_pos c23] at H
        have LMc23 := Aside0.mk c23; clear c23
        obtain ⟨y427, hy427⟩ : ∃ y_ : List Int, y_ = (t424 ++ [x13_1]) := ⟨_, rfl⟩
        replace H : ((spec_l24May.f k1 l0 y427 (l2.length : Int)).bind fun t430 => (if t430 = true then ((spec_l24Count.f k1 l0 a1 y427).bind fun bt431 => (if x12_1 = 0 then (if bt431.2 > 0 then (spec_l24Count.l0 k1 l0 a1 l2 (l2.length : Int) bt431.1 (wrap64 (x12_1 + bt431.2)) (wrap64 (x13_1 + 1))) else (spec_l24Count.l0 k1 l0 a1 l2 (l2.length : Int) x11_1 (wrap64 (x12_1 + bt431.2)) (wrap64 (x13_1 + 1)))) else (spec_l24Count.l0 k1 l0 a1 l2 (l2.length : Int) x11_1 (wrap64 (x12_1 + bt431.2)) (wrap64 (x13_1 + 1))))) else (spec_l24Count.l0 k1 l0 a1 l2 (l2.length : Int) x11_1 x12_1 (wrap64 (x13_1 + 1))))) = some (r1, r2) := by first | (rw [hy427]; with_reducible exact H) | (have H2_ := (Option.bind_some _ _).symm.trans H; rw [hy427]; with_reducible exact H2_) | (have H2_ := (Option.bind_some _ _).symm.trans H; with_reducible exact H2_) | with_reducible exact H | (rw [hy427]; exact H) | exact H
        have Ny427 := Aside0.mk hy427; clear hy427; replace H := Option.bind_eq_some_iff.mp H; obtain ⟨t430, A240, H⟩ := H; replace H : (if t430 = true then ((spec_l24Count.f k1 l0 a1 y427).bind fun bt431 => (if x12_1 = 0 then (if bt431.2 > 0 then (spec_l24Count.l0 k1 l0 a1 l2 (l2.length : Int) bt431.1 (wrap64 (x12_1 + bt431.2)) (wrap64 (x13_1 + 1))) else (spec_l24Count.l0 k1 l0 a1 l2 (l2.length : Int) x11_1 (wrap64 (x12_1 + bt431.2)) (wrap64 (x13_1 + 1)))) else (spec_l24Count.l0 k1 l0 a1 l2 (l2.length : Int) x11_1 (wrap64 (x12_1 + bt431.2)) (wrap64 (x13_1 + 1))))) else (spec_l24Count.l0 k1 l0 a1 l2 (l2.length : Int) x11_1 x12_1 (wrap64 (x13_1 + 1)))) = some (r1, r2) := H; have A24 := Aside0.mk A240; clear A240
        by_cases c25 : t430 = true
        ·
         subst c25
         have H1 : ((spec_l24Count.f k1 l0 a1 y427).bind fun bt431 => (if x12_1 = 0 then (if bt431.2 > 0 then (spec_l24Count.l0 k1 l0 a1 l2 (l2.length : Int) bt431.1 (wrap64 (x12_1 + bt431.2)) (wrap64 (x13_1 + 1))) else (spec_l24Count.l0 k1 l0 a1 l2 (l2.length : Int) x11_1 (wrap64 (x12_1 + bt431.2)) (wrap64 (x13_1 + 1)))) else (spec_l24Count.l0 k1 l0 a1 l2 (l2.length : Int) x11_1 (wrap64 (x12_1 + bt431.2)) (wrap64 (x13_1 + 1))))) = some (r1, r2) := by rw [if_pos rfl] at H; exact H
         clear H; have H := H1; clear H1; replace H := Option.bind_eq_some_iff.mp H; obtain ⟨⟨t431, t434⟩, A260, H⟩ := H; replace H : (if x12_1 = 0 then (if t434 > 0 then (spec_l24Count.l0 k1 l0 a1 l2 (l2.length : Int) t431 (wrap64 (x12_1 + t434)) (wrap64 (x13_1 + 1))) else (spec_l24Count.l0 k1 l0 a1 l2 (l2.length : Int) x11_1 (wrap64 (x12_1 + t434)) (wrap64 (x13_1 + 1)))) else (spec_l24Count.l0 k1 l0 a1 l2 (l2.length : Int) x11_1 (wrap64 (x12_1 + t434)) (wrap64 (x13_1 + 1)))) = some (r1, r2) := H; have A26 := Aside0.mk A260; clear A260
         by_cases c27 : x12_1 = 0
         ·
          rw [if_pos c27] at H
          have c27b0 : (x12_1 == 0) = true := beq_iff_eq.mpr c27; have c27b1 : (x12_1 != 0) = false := bne_eq_false_iff_eq.mpr c27; clear c27
          by_cases c28 : t434 > 0
          ·
           rw [if_pos c28] at H
           have c28b0 : decide (0 < t434) = true := decide_eq_true c28; clear c28; have H' := Aside0.mk H; clear H
           go_wp2_with (first | ((with_reducible refine gate_callee (f := 101) rfl ?_); refine ga_ (some 48) Tryd.func101 #[.slice Ao18 l2.length co18] ?_; (with_reducible refine (spec_l1Own.calls _ _ l2 t424 _ ?side1 ?side2 A22.out).mono ?_); (case side1 => exact kc_ (Kd.R_reads' HO_2.out).2.2); (case side2 => exact (Kd.R_reads' HO_2.out).2.1); rintro e w29 ⟨v425, rfl, ho0, hb⟩; refine ⟨_, rfl, ?_⟩; have HO426 := Aside0.mk (Kd.R_lower (Kd.R_new' (Kd.R_new' (Kd.R_newM (M := fun k_ => (P2_ k_ ∨ w.heap.size ≤ k_)) ho0 (by first | exact HK.out.1 | exact (show Kept w _ (fun k_ => P2_ k_) from kt_ HK.out).1) (fun k_ h_ => .inr h_)) (Kd.R_lt (kr_ HO_2.out))) (Kd.R_lt (kr_ HO_11.out))) (below_size (lb0_ HB.out))); replace HO_2 := Aside0.mk (Kd.R_elder' (kr_ HO_2.out) (Kd.R_base ho0) hb); replace HO_11 := Aside0.mk (Kd.R_elder' (kr_ HO_11.out) (Kd.R_base ho0) hb); replace HK := Aside0.mk (Kept.below (S := (fun k_ => P2_ k_)) (kt_ HK.out) hb); replace HB := Aside0.mk (below_step (lb0_ HB.out) hb); (try clear hb); (try clear hb2); (try clear hk); (try clear hi); (try clear ho0)) | ((with_reducible refine gate_builtin (b := .append) (xs := #[.tmp 48, .tmp 50]) rfl ?_); at_builtin; refine Kd.R_append (Kd.int .i64) (w0 := w0) w0.heap.size rfl (.tmp 48) (.tmp 50) 40 3 (.int .i64 0) 8 rfl Tryd.underlying40 info3 rfl (by decide) (by omega) v425 t424 x13_1 [.int .i64 x13_1] (fun k_ => (P2_ k_ ∨ w.heap.size ≤ k_) ∧ some k_ ≠ (.slice Ao18 l2.length co18 : Value).ownBlock ∧ some k_ ≠ (u11 : Value).ownBlock) (fun _ => False) rfl rfl ?aP (fun _ hk => hk.elim) ?aF ?aO ?aB ?aS ?aL ?_; (case aP => exact rfl); (case aB => exact (lb0_ HB.out)); (case aF => exact (fun k_ hk => ⟨(.inr (Nat.le_trans (by first | exact HK.out.1 | exact (show Kept w _ (fun k_ => P2_ k_) from kt_ HK.out).1) hk)), Kd.fresh' (Kd.R_lt (kr_ HO_2.out)) k_ hk, Kd.fresh' (Kd.R_lt (kr_ HO_11.out)) k_ hk⟩)); (case aO => exact (krm_ HO426.out (fun _ hk => ⟨hk.1.1.1, ⟨hk.1.2, hk.2⟩⟩))); (case aS => exact (below_size (lb0_ HB.out))); (case aL => have := LMc23.out; omega); intro v428 w30 ho hb hg hat; rw [← Ny427.out] at ho; replace HO_2 := Aside0.mk (Kd.R_after (ok := (fun k_ => (P2_ k_ ∨ w.heap.size ≤ k_) ∧ some k_ ≠ (u11 : Value).ownBlock)) (kr_ HO_2.out) hg hat); replace HO_11 := Aside0.mk (Kd.R_after (ok := (fun k_ => (P2_ k_ ∨ w.heap.size ≤ k_) ∧ some k_ ≠ (.slice Ao18 l2.length co18 : Value).ownBlock)) (kr_ HO_11.out) hg hat); replace HB := Aside0.mk (hb); replace HK := Aside0.mk (Kept.of_grown (S := (fun k_ => P2_ k_)) hg (kt_ HK.out) (fun k_ e_ => (HO426.out.1 k_ e_).1.1.1)); have HO429 := Aside0.mk (ho); clear HO426; clear ho hb hg hat; obtain ⟨Ao31, co31, eo31⟩ := Kd.R_slice HO429.out; subst eo31) | ((with_reducible refine gate_callee (f := 64) rfl ?_); refine ga_ (some 55) Tryd.func64 #[.slice A0 l0.length c0, .slice Ao31 y427.length co31, .int .i64 (l2.length : Int)] ?_; (with_reducible refine (spec_l24May.calls k1 _ _ l0 _ _ y427 (l2.length : Int) true _ ?side1 ?side2 ?side3 ?side4 A24.out).mono ?_); (case side1 => exact Kd.C_kept_now HR0.out (kt_ HK.out)); (case side2 => exact HC0.out); (case side3 => exact kc_ (Kd.R_reads' HO429.out).2.2); (case side4 => exact (Kd.R_reads' HO429.out).2.1); rintro e w32 ⟨rfl, hb⟩; refine ⟨_, rfl, ?_⟩; replace HO_2 := Aside0.mk (Kd.R_below (kr_ HO_2.out) hb); replace HO_11 := Aside0.mk (Kd.R_below (kr_ HO_11.out) hb); replace HO429 := Aside0.mk (Kd.R_below (kr_ HO429.out) hb); replace HK := Aside0.mk (Kept.below (S := (fun k_ => P2_ k_)) (kt_ HK.out) hb); replace HB := Aside0.mk (below_step (lb0_ HB.out) hb); (try clear hb); (try clear hb2); (try clear hk); (try clear hi)) | ((with_reducible refine gate_callee (f := 76) rfl ?_); refine ga_ (some 61) Tryd.func76 #[.slice A0 l0.length c0, .int .i64 a1, .slice Ao31 y427.length co31] ?_; (with_reducible refine (ih k1 (by have := HK1.out; omega) _ _ l0 a1 (fun k_ => some k_ = (.slice Ao31 y427.length co31 : Value).ownBlock) (.slice Ao31 y427.length co31) y427 t431 t434 w0 _ ?side1 ?side2 ?side3 ?side4 A26.out).mono ?_); (case side1 => exact lb0_ HB.out); (case side2 => exact Kd.C_kept_call HR0.out (kt_ HK.out) (fun k_ hs_ => (fun e_ => (HO429.out.1 k_ e_.symm).1) hs_)); (case side3 => exact HC0.out); (case side4 => exact Kd.R_tight rfl HO429.out); rintro e w33 ⟨v432, rfl, ho0, hb, hkp⟩; refine ⟨_, rfl, ?_⟩; have HO433 := Aside0.mk (Kd.R_mono (ok' := fun k_ => (P2_ k_ ∨ w.heap.size ≤ k_) ∧ some k_ ≠ (.slice Ao18 l2.length co18 : Value).ownBlock ∧ some k_ ≠ (u11 : Value).ownBlock) ho0 (fun k_ hk_ => ⟨Or.elim hk_ (fun hs_ => (HO429.out.1 k_ (hs_).symm).1) (fun hn_ => (.inr (Nat.le_trans (by first | exact HK.out.1 | exact (show Kept w _ (fun k_ => P2_ k_) from kt_ HK.out).1) hn_))), Or.elim hk_ (fun hs_ => fun e_ => (((HO_2.out).1 k_ e_.symm).2) hs_) (fun hn_ => (Kd.fresh' (Kd.R_lt (kr_ HO_2.out)) k_ hn_)), Or.elim hk_ (fun hs_ => fun e_ => (((HO_11.out).1 k_ e_.symm).2) hs_) (fun hn_ => (Kd.fresh' (Kd.R_lt (kr_ HO_11.out)) k_ hn_))⟩)); replace HO_2 := Aside0.mk (Kd.R_mono (ok' := fun k_ => (P2_ k_ ∨ w.heap.size ≤ k_) ∧ some k_ ≠ (u11 : Value).ownBlock ∧ some k_ ≠ (v432 : Value).ownBlock) (Kd.R_keptB (HO_2.out) hkp (fun k_ hk_ hs_ => (hk_.2) hs_)) (fun k_ hk_ => ⟨hk_.1.1.1, hk_.1.1.2, fun e_ => Or.elim (ho0.1 k_ e_.symm) (fun hs_ => hk_.2.1 hs_) (fun hn_ => Nat.not_le.2 hk_.2.2 hn_)⟩)); replace HO_11 := Aside0.mk (Kd.R_mono (ok' := fun k_ => (P2_ k_ ∨ w.heap.size ≤ k_) ∧ some k_ ≠ (.slice Ao18 l2.length co18 : Value).ownBlock ∧ some k_ ≠ (v432 : Value).ownBlock) (Kd.R_keptB (HO_11.out) hkp (fun k_ hk_ hs_ => (hk_.2) hs_)) (fun k_ hk_ => ⟨hk_.1.1.1, hk_.1.1.2, fun e_ => Or.elim (ho0.1 k_ e_.symm) (fun hs_ => hk_.2.1 hs_) (fun hn_ => Nat.not_le.2 hk_.2.2 hn_)⟩)); replace HK := Aside0.mk (Kept.then_ (S := (fun k_ => P2_ k_)) (kt_ HK.out) hkp (fun k_ hs_ => (fun e_ => (HO429.out.1 k_ e_.symm).1) hs_)); replace HB := Aside0.mk (hb); clear HO429; (try clear hb); (try clear hkp); (try clear ho0)))
           go_roundg k1
           case measure => have := HK1.out; omega
           case rel => exact ⟨(t431), (wrap64 (x12_1 + t434)), (wrap64 (x13_1 + 1)), (by first | rfl | (simp; done) | (simp [*]; done)), (by first | rfl | (simp; done) | (simp [*]; done)), H', ⟨by have := HK1.out; omega⟩, ⟨krm_ HO_2.out (fun _ hk => ⟨hk.1, hk.2.2⟩)⟩, ⟨krm_ HO433.out (fun _ hk => ⟨hk.1, hk.2.1⟩)⟩, ⟨kt_ HK.out⟩, ⟨lb0_ HB.out⟩⟩
          ·
           rw [if_neg c28] at H
           have c28b0 : decide (0 < t434) = false := decide_eq_false c28; clear c28; have H' := Aside0.mk H; clear H
           go_wp2_with (first | ((with_reducible refine gate_callee (f := 101) rfl ?_); refine ga_ (some 48) Tryd.func101 #[.slice Ao18 l2.length co18] ?_; (with_reducible refine (spec_l1Own.calls _ _ l2 t424 _ ?side1 ?side2 A22.out).mono ?_); (case side1 => exact kc_ (Kd.R_reads' HO_2.out).2.2); (case side2 => exact (Kd.R_reads' HO_2.out).2.1); rintro e w34 ⟨v425, rfl, ho0, hb⟩; refine ⟨_, rfl, ?_⟩; have HO426 := Aside0.mk (Kd.R_lower (Kd.R_new' (Kd.R_new' (Kd.R_newM (M := fun k_ => (P2_ k_ ∨ w.heap.size ≤ k_)) ho0 (by first | exact HK.out.1 | exact (show Kept w _ (fun k_ => P2_ k_) from kt_ HK.out).1) (fun k_ h_ => .inr h_)) (Kd.R_lt (kr_ HO_2.out))) (Kd.R_lt (kr_ HO_11.out))) (below_size (lb0_ HB.out))); replace HO_2 := Aside0.mk (Kd.R_elder' (kr_ HO_2.out) (Kd.R_base ho0) hb); replace HO_11 := Aside0.mk (Kd.R_elder' (kr_ HO_11.out) (Kd.R_base ho0) hb); replace HK := Aside0.mk (Kept.below (S := (fun k_ => P2_ k_)) (kt_ HK.out) hb); replace HB := Aside0.mk (below_step (lb0_ HB.out) hb); (try clear hb); (try clear hb2); (try clear hk); (try clear hi); (try clear ho0)) | ((with_reducible refine gate_builtin (b := .append) (xs := #[.tmp 48, .tmp 50]) rfl ?_); at_builtin; refine Kd.R_append (Kd.int .i64) (w0 := w0) w0.heap.size rfl (.tmp 48) (.tmp 50) 40 3 (.int .i64 0) 8 rfl Tryd.underlying40 info3 rfl (by decide) (by omega) v425 t424 x13_1 [.int .i64 x13_1] (fun k_ => (P2_ k_ ∨ w.heap.size ≤ k_) ∧ some k_ ≠ (.slice Ao18 l2.length co18 : Value).ownBlock ∧ some k_ ≠ (u11 : Value).ownBlock) (fun _ => False) rfl rfl ?aP (fun _ hk => hk.elim) ?aF ?aO ?aB ?aS ?aL ?_; (case aP => exact rfl); (case aB => exact (lb0_ HB.out)); (case aF => exact (fun k_ hk => ⟨(.inr (Nat.le_trans (by first | exact HK.out.1 | exact (show Kept w _ (fun k_ => P2_ k_) from kt_ HK.out).1) hk)), Kd.fresh' (Kd.R_lt (kr_ HO_2.out)) k_ hk, Kd.fresh' (Kd.R_lt (kr_ HO_11.out)) k_ hk⟩)); (case aO => exact (krm_ HO426.out (fun _ hk => ⟨hk.1.1.1, ⟨hk.1.2, hk.2⟩⟩))); (case aS => exact (below_size (lb0_ HB.out))); (case aL => have := LMc23.out; omega); intro v428 w35 ho hb hg hat; rw [← Ny427.out] at ho; replace HO_2 := Aside0.mk (Kd.R_after (ok := (fun k_ => (P2_ k_ ∨ w.heap.size ≤ k_) ∧ some k_ ≠ (u11 : Value).ownBlock)) (kr_ HO_2.out) hg hat); replace HO_11 := Aside0.mk (Kd.R_after (ok := (fun k_ => (P2_ k_ ∨ w.heap.size ≤ k_) ∧ some k_ ≠ (.slice Ao18 l2.length co18 : Value).ownBlock)) (kr_ HO_11.out) hg hat); replace HB := Aside0.mk (hb); replace HK := Aside0.mk (Kept.of_grown (S := (fun k_ => P2_ k_)) hg (kt_ HK.out) (fun k_ e_ => (HO426.out.1 k_ e_).1.1.1)); have HO429 := Aside0.mk (ho); clear HO426; clear ho hb hg hat; obtain ⟨Ao36, co36, eo36⟩ := Kd.R_slice HO429.out; subst eo36) | ((with_reducible refine gate_callee (f := 64) rfl ?_); refine ga_ (some 55) Tryd.func64 #[.slice A0 l0.length c0, .slice Ao36 y427.length co36, .int .i64 (l2.length : Int)] ?_; (with_reducible refine (spec_l24May.calls k1 _ _ l0 _ _ y427 (l2.length : Int) true _ ?side1 ?side2 ?side3 ?side4 A24.out).mono ?_); (case side1 => exact Kd.C_kept_now HR0.out (kt_ HK.out)); (case side2 => exact HC0.out); (case side3 => exact kc_ (Kd.R_reads' HO429.out).2.2); (case side4 => exact (Kd.R_reads' HO429.out).2.1); rintro e w37 ⟨rfl, hb⟩; refine ⟨_, rfl, ?_⟩; replace HO_2 := Aside0.mk (Kd.R_below (kr_ HO_2.out) hb); replace HO_11 := Aside0.mk (Kd.R_below (kr_ HO_11.out) hb); replace HO429 := Aside0.mk (Kd.R_below (kr_ HO429.out) hb); replace HK := Aside0.mk (Kept.below (S := (fun k_ => P2_ k_)) (kt_ HK.out) hb); replace HB := Aside0.mk (below_step (lb0_ HB.out) hb); (try clear hb); (try clear hb2); (try clear hk); (try clear hi)) | ((with_reducible refine gate_callee (f := 76) rfl ?_); refine ga_ (some 61) Tryd.func76 #[.slice A0 l0.length c0, .int .i64 a1, .slice Ao36 y427.length co36] ?_; (with_reducible refine (ih k1 (by have := HK1.out; omega) _ _ l0 a1 (fun k_ => some k_ = (.slice Ao36 y427.length co36 : Value).ownBlock) (.slice Ao36 y427.length co36) y427 t431 t434 w0 _ ?side1 ?side2 ?side3 ?side4 A26.out).mono ?_); (case side1 => exact lb0_ HB.out); (case side2 => exact Kd.C_kept_call HR0.out (kt_ HK.out) (fun k_ hs_ => (fun e_ => (HO429.out.1 k_ e_.symm).1) hs_)); (case side3 => exact HC0.out); (case side4 => exact Kd.R_tight rfl HO429.out); rintro e w38 ⟨v432, rfl, ho0, hb, hkp⟩; refine ⟨_, rfl, ?_⟩; have HO433 := Aside0.mk (Kd.R_mono (ok' := fun k_ => (P2_ k_ ∨ w.heap.size ≤ k_) ∧ some k_ ≠ (.slice Ao18 l2.length co18 : Value).ownBlock ∧ some k_ ≠ (u11 : Value).ownBlock) ho0 (fun k_ hk_ => ⟨Or.elim hk_ (fun hs_ => (HO429.out.1 k_ (hs_).symm).1) (fun hn_ => (.inr (Nat.le_trans (by first | exact HK.out.1 | exact (show Kept w _ (fun k_ => P2_ k_) from kt_ HK.out).1) hn_))), Or.elim hk_ (fun hs_ => fun e_ => (((HO_2.out).1 k_ e_.symm).2) hs_) (fun hn_ => (Kd.fresh' (Kd.R_lt (kr_ HO_2.out)) k_ hn_)), Or.elim hk_ (fun hs_ => fun e_ => (((HO_11.out).1 k_ e_.symm).2) hs_) (fun hn_ => (Kd.fresh' (Kd.R_lt (kr_ HO_11.out)) k_ hn_))⟩)); replace HO_2 := Aside0.mk (Kd.R_mono (ok' := fun k_ => (P2_ k_ ∨ w.heap.size ≤ k_) ∧ some k_ ≠ (u11 : Value).ownBlock ∧ some k_ ≠ (v432 : Value).ownBlock) (Kd.R_keptB (HO_2.out) hkp (fun k_ hk_ hs_ => (hk_.2) hs_)) (fun k_ hk_ => ⟨hk_.1.1.1, hk_.1.1.2, fun e_ => Or.elim (ho0.1 k_ e_.symm) (fun hs_ => hk_.2.1 hs_) (fun hn_ => Nat.not_le.2 hk_.2.2 hn_)⟩)); replace HO_11 := Aside0.mk (Kd.R_mono (ok' := fun k_ => (P2_ k_ ∨ w.heap.size ≤ k_) ∧ some k_ ≠ (.slice Ao18 l2.length co18 : Value).ownBlock ∧ some k_ ≠ (v432 : Value).ownBlock) (Kd.R_keptB (HO_11.out) hkp (fun k_ hk_ hs_ => (hk_.2) hs_)) (fun k_ hk_ => ⟨hk_.1.1.1, hk_.1.1.2, fun e_ => Or.elim (ho0.1 k_ e_.symm) (fun hs_ => hk_.2.1 hs_) (fun hn_ => Nat.not_le.2 hk_.2.2 hn_)⟩)); replace HK := Aside0.mk (Kept.then_ (S := (fun k_ => P2_ k_)) (kt_ HK.out) hkp (fun k_ hs_ => (fun e_ => (HO429.out.1 k_ e_.symm).1) hs_)); replace HB := Aside0.mk (hb); clear HO429; (try clear hb); (try clear hkp); (try clear ho0)))
           go_roundg k1
           case measure => have := HK1.out; omega
           case rel => exact ⟨(x11_1), (wrap64 (x12_1 + t434)), (wrap64 (x13_1 + 1)), (by first | rfl | (simp; done) | (simp [*]; done)), (by first | rfl | (simp; done) | (simp [*]; done)), H', ⟨by have := HK1.out; omega⟩, ⟨krm_ HO_2.out (fun _ hk => ⟨hk.1, hk.2.1⟩)⟩, ⟨krm_ HO_11.out (fun _ hk => ⟨hk.1, hk.2.1⟩)⟩, ⟨kt_ HK.out⟩, ⟨lb0_ HB.out⟩⟩
         ·
          rw [if_neg c27] at H
          have c27b0 : (x12_1 == 0) = false := beq_eq_false_iff_ne.mpr c27; have c27b1 : (x12_1 != 0) = true := bne_iff_ne.mpr c27; have H' := Aside0.mk H; clear H
          go_wp2_with (first | ((with_reducible refine gate_callee (f := 101) rfl ?_); refine ga_ (some 48) Tryd.func101 #[.slice Ao18 l2.length co18] ?_; (with_reducible refine (spec_l1Own.calls _ _ l2 t424 _ ?side1 ?side2 A22.out).mono ?_); (case side1 => exact kc_ (Kd.R_reads' HO_2.out).2.2); (case side2 => exact (Kd.R_reads' HO_2.out).2.1); rintro e w39 ⟨v425, rfl, ho0, hb⟩; refine ⟨_, rfl, ?_⟩; have HO426 := Aside0.mk (Kd.R_lower (Kd.R_new' (Kd.R_new' (Kd.R_newM (M := fun k_ => (P2_ k_ ∨ w.heap.size ≤ k_)) ho0 (by first | exact HK.out.1 | exact (show Kept w _ (fun k_ => P2_ k_) from kt_ HK.out).1) (fun k_ h_ => .inr h_)) (Kd.R_lt (kr_ HO_2.out))) (Kd.R_lt (kr_ HO_11.out))) (below_size (lb0_ HB.out))); replace HO_2 := Aside0.mk (Kd.R_elder' (kr_ HO_2.out) (Kd.R_base ho0) hb); replace HO_11 := Aside0.mk (Kd.R_elder' (kr_ HO_11.out) (Kd.R_base ho0) hb); replace HK := Aside0.mk (Kept.below (S := (fun k_ => P2_ k_)) (kt_ HK.out) hb); replace HB := Aside0.mk (below_step (lb0_ HB.out) hb); (try clear hb); (try clear hb2); (try clear hk); (try clear hi); (try clear ho0)) | ((with_reducible refine gate_builtin (b := .append) (xs := #[.tmp 48, .tmp 50]) rfl ?_); at_builtin; refine Kd.R_append (Kd.int .i64) (w0 := w0) w0.heap.size rfl (.tmp 48) (.tmp 50) 40 3 (.int .i64 0) 8 rfl Tryd.underlying40 info3 rfl (by decide) (by omega) v425 t424 x13_1 [.int .i64 x13_1] (fun k_ => (P2_ k_ ∨ w.heap.size ≤ k_) ∧ some k_ ≠ (.slice Ao18 l2.length co18 : Value).ownBlock ∧ some k_ ≠ (u11 : Value).ownBlock) (fun _ => False) rfl rfl ?aP (fun _ hk => hk.elim) ?aF ?aO ?aB ?aS ?aL ?_; (case aP => exact rfl); (case aB => exact (lb0_ HB.out)); (case aF => exact (fun k_ hk => ⟨(.inr (Nat.le_trans (by first | exact HK.out.1 | exact (show Kept w _ (fun k_ => P2_ k_) from kt_ HK.out).1) hk)), Kd.fresh' (Kd.R_lt (kr_ HO_2.out)) k_ hk, Kd.fresh' (Kd.R_lt (kr_ HO_11.out)) k_ hk⟩)); (case aO => exact (krm_ HO426.out (fun _ hk => ⟨hk.1.1.1, ⟨hk.1.2, hk.2⟩⟩))); (case aS => exact (below_size (lb0_ HB.out))); (case aL => have := LMc23.out; omega); intro v428 w40 ho hb hg hat; rw [← Ny427.out] at ho; replace HO_2 := Aside0.mk (Kd.R_after (ok := (fun k_ => (P2_ k_ ∨ w.heap.size ≤ k_) ∧ some k_ ≠ (u11 : Value).ownBlock)) (kr_ HO_2.out) hg hat); replace HO_11 := Aside0.mk (Kd.R_after (ok := (fun k_ => (P2_ k_ ∨ w.heap.size ≤ k_) ∧ some k_ ≠ (.slice Ao18 l2.length co18 : Value).ownBlock)) (kr_ HO_11.out) hg hat); replace HB := Aside0.mk (hb); replace HK := Aside0.mk (Kept.of_grown (S := (fun k_ => P2_ k_)) hg (kt_ HK.out) (fun k_ e_ => (HO426.out.1 k_ e_).1.1.1)); have HO429 := Aside0.mk (ho); clear HO426; clear ho hb hg hat; obtain ⟨Ao41, co41, eo41⟩ := Kd.R_slice HO429.out; subst eo41) | ((with_reducible refine gate_callee (f := 64) rfl ?_); refine ga_ (some 55) Tryd.func64 #[.slice A0 l0.length c0, .slice Ao41 y427.length co41, .int .i64 (l2.length : Int)] ?_; (with_reducible refine (spec_l24May.calls k1 _ _ l0 _ _ y427 (l2.length : Int) true _ ?side1 ?side2 ?side3 ?side4 A24.out).mono ?_); (case side1 => exact Kd.C_kept_now HR0.out (kt_ HK.out)); (case side2 => exact HC0.out); (case side3 => exact kc_ (Kd.R_reads' HO429.out).2.2); (case side4 => exact (Kd.R_reads' HO429.out).2.1); rintro e w42 ⟨rfl, hb⟩; refine ⟨_, rfl, ?_⟩; replace HO_2 := Aside0.mk (Kd.R_below (kr_ HO_2.out) hb); replace HO_11 := Aside0.mk (Kd.R_below (kr_ HO_11.out) hb); replace HO429 := Aside0.mk (Kd.R_below (kr_ HO429.out) hb); replace HK := Aside0.mk (Kept.below (S := (fun k_ => P2_ k_)) (kt_ HK.out) hb); replace HB := Aside0.mk (below_step (lb0_ HB.out) hb); (try clear hb); (try clear hb2); (try clear hk); (try clear hi)) | ((with_reducible refine gate_callee (f := 76) rfl ?_); refine ga_ (some 61) Tryd.func76 #[.slice A0 l0.length c0, .int .i64 a1, .slice Ao41 y427.length co41] ?_; (with_reducible refine (ih k1 (by have := HK1.out; omega) _ _ l0 a1 (fun k_ => some k_ = (.slice Ao41 y427.length co41 : Value).ownBlock) (.slice Ao41 y427.length co41) y427 t431 t434 w0 _ ?side1 ?side2 ?side3 ?side4 A26.out).mono ?_); (case side1 => exact lb0_ HB.out); (case side2 => exact Kd.C_kept_call HR0.out (kt_ HK.out) (fun k_ hs_ => (fun e_ => (HO429.out.1 k_ e_.symm).1) hs_)); (case side3 => exact HC0.out); (case side4 => exact Kd.R_tight rfl HO429.out); rintro e w43 ⟨v432, rfl, ho0, hb, hkp⟩; refine ⟨_, rfl, ?_⟩; have HO433 := Aside0.mk (Kd.R_mono (ok' := fun k_ => (P2_ k_ ∨ w.heap.size ≤ k_) ∧ some k_ ≠ (.slice Ao18 l2.length co18 : Value).ownBlock ∧ some k_ ≠ (u11 : Value).ownBlock) ho0 (fun k_ hk_ => ⟨Or.elim hk_ (fun hs_ => (HO429.out.1 k_ (hs_).symm).1) (fun hn_ => (.inr (Nat.le_trans (by first | exact HK.out.1 | exact (show Kept w _ (fun k_ => P2_ k_) from kt_ HK.out).1) hn_))), Or.elim hk_ (fun hs_ => fun e_ => (((HO_2.out).1 k_ e_.symm).2) hs_) (fun hn_ => (Kd.fresh' (Kd.R_lt (kr_ HO_2.out)) k_ hn_)), Or.elim hk_ (fun hs_ => fun e_ => (((HO_11.out).1 k_ e_.symm).2) hs_) (fun hn_ => (Kd.fresh' (Kd.R_lt (kr_ HO_11.out)) k_ hn_))⟩)); replace HO_2 := Aside0.mk (Kd.R_mono (ok' := fun k_ => (P2_ k_ ∨ w.heap.size ≤ k_) ∧ some k_ ≠ (u11 : Value).ownBlock ∧ some k_ ≠ (v432 : Value).ownBlock) (Kd.R_keptB (HO_2.out) hkp (fun k_ hk_ hs_ => (hk_.2) hs_)) (fun k_ hk_ => ⟨hk_.1.1.1, hk_.1.1.2, fun e_ => Or.elim (ho0.1 k_ e_.symm) (fun hs_ => hk_.2.1 hs_) (fun hn_ => Nat.not_le.2 hk_.2.2 hn_)⟩)); replace HO_11 := Aside0.mk (Kd.R_mono (ok' := fun k_ => (P2_ k_ ∨ w.heap.size ≤ k_) ∧ some k_ ≠ (.slice Ao18 l2.length co18 : Value).ownBlock ∧ some k_ ≠ (v432 : Value).ownBlock) (Kd.R_keptB (HO_11.out) hkp (fun k_ hk_ hs_ => (hk_.2) hs_)) (fun k_ hk_ => ⟨hk_.1.1.1, hk_.1.1.2, fun e_ => Or.elim (ho0.1 k_ e_.symm) (fun hs_ => hk_.2.1 hs_) (fun hn_ => Nat.not_le.2 hk_.2.2 hn_)⟩)); replace HK := Aside0.mk (Kept.then_ (S := (fun k_ => P2_ k_)) (kt_ HK.out) hkp (fun k_ hs_ => (fun e_ => (HO429.out.1 k_ e_.symm).1) hs_)); replace HB := Aside0.mk (hb); clear HO429; (try clear hb); (try clear hkp); (try clear ho0)))
          go_roundg k1
          case measure => have := HK1.out; omega
          case rel => exact ⟨(x11_1), (wrap64 (x12_1 + t434)), (wrap64 (x13_1 + 1)), (by first | rfl | (simp; done) | (simp [*]; done)), (by first | rfl | (simp; done) | (simp [*]; done)), H', ⟨by have := HK1.out; omega⟩, ⟨krm_ HO_2.out (fun _ hk => ⟨hk.1, hk.2.1⟩)⟩, ⟨krm_ HO_11.out (fun _ hk => ⟨hk.1, hk.2.1⟩)⟩, ⟨kt_ HK.out⟩, ⟨lb0_ HB.out⟩⟩
        ·
         replace c25 := Bool.eq_false_iff.mpr c25; subst c25
         have H1 : (spec_l24Count.l0 k1 l0 a1 l2 (l2.length : Int) x11_1 x12_1 (wrap64 (x13_1 + 1))) = some (r1, r2) := by rw [if_neg (show ¬ (false = true) by decide)] at H; exact H
         clear H; have H := H1; clear H1; have H' := Aside0.mk H; clear H
         go_wp2_with (first | ((with_reducible refine gate_callee (f := 101) rfl ?_); refine ga_ (some 48) Tryd.func101 #[.slice Ao18 l2.length co18] ?_; (with_reducible refine (spec_l1Own.calls _ _ l2 t424 _ ?side1 ?side2 A22.out).mono ?_); (case side1 => exact kc_ (Kd.R_reads' HO_2.out).2.2); (case side2 => exact (Kd.R_reads' HO_2.out).2.1); rintro e w44 ⟨v425, rfl, ho0, hb⟩; refine ⟨_, rfl, ?_⟩; have HO426 := Aside0.mk (Kd.R_lower (Kd.R_new' (Kd.R_new' (Kd.R_newM (M := fun k_ => (P2_ k_ ∨ w.heap.size ≤ k_)) ho0 (by first | exact HK.out.1 | exact (show Kept w _ (fun k_ => P2_ k_) from kt_ HK.out).1) (fun k_ h_ => .inr h_)) (Kd.R_lt (kr_ HO_2.out))) (Kd.R_lt (kr_ HO_11.out))) (below_size (lb0_ HB.out))); replace HO_2 := Aside0.mk (Kd.R_elder' (kr_ HO_2.out) (Kd.R_base ho0) hb); replace HO_11 := Aside0.mk (Kd.R_elder' (kr_ HO_11.out) (Kd.R_base ho0) hb); replace HK := Aside0.mk (Kept.below (S := (fun k_ => P2_ k_)) (kt_ HK.out) hb); replace HB := Aside0.mk (below_step (lb0_ HB.out) hb); (try clear hb); (try clear hb2); (try clear hk); (try clear hi); (try clear ho0)) | ((with_reducible refine gate_builtin (b := .append) (xs := #[.tmp 48, .tmp 50]) rfl ?_); at_builtin; refine Kd.R_append (Kd.int .i64) (w0 := w0) w0.heap.size rfl (.tmp 48) (.tmp 50) 40 3 (.int .i64 0) 8 rfl Tryd.underlying40 info3 rfl (by decide) (by omega) v425 t424 x13_1 [.int .i64 x13_1] (fun k_ => (P2_ k_ ∨ w.heap.size ≤ k_) ∧ some k_ ≠ (.slice Ao18 l2.length co18 : Value).ownBlock ∧ some k_ ≠ (u11 : Value).ownBlock) (fun _ => False) rfl rfl ?aP (fun _ hk => hk.elim) ?aF ?aO ?aB ?aS ?aL ?_; (case aP => exact rfl); (case aB => exact (lb0_ HB.out)); (case aF => exact (fun k_ hk => ⟨(.inr (Nat.le_trans (by first | exact HK.out.1 | exact (show Kept w _ (fun k_ => P2_ k_) from kt_ HK.out).1) hk)), Kd.fresh' (Kd.R_lt (kr_ HO_2.out)) k_ hk, Kd.fresh' (Kd.R_lt (kr_ HO_11.out)) k_ hk⟩)); (case aO => exact (krm_ HO426.out (fun _ hk => ⟨hk.1.1.1, ⟨hk.1.2, hk.2⟩⟩))); (case aS => exact (below_size (lb0_ HB.out))); (case aL => have := LMc23.out; omega); intro v428 w45 ho hb hg hat; rw [← Ny427.out] at ho; replace HO_2 := Aside0.mk (Kd.R_after (ok := (fun k_ => (P2_ k_ ∨ w.heap.size ≤ k_) ∧ some k_ ≠ (u11 : Value).ownBlock)) (kr_ HO_2.out) hg hat); replace HO_11 := Aside0.mk (Kd.R_after (ok := (fun k_ => (P2_ k_ ∨ w.heap.size ≤ k_) ∧ some k_ ≠ (.slice Ao18 l2.length co18 : Value).ownBlock)) (kr_ HO_11.out) hg hat); replace HB := Aside0.mk (hb); replace HK := Aside0.mk (Kept.of_grown (S := (fun k_ => P2_ k_)) hg (kt_ HK.out) (fun k_ e_ => (HO426.out.1 k_ e_).1.1.1)); have HO429 := Aside0.mk (ho); clear HO426; clear ho hb hg hat; obtain ⟨Ao46, co46, eo46⟩ := Kd.R_slice HO429.out; subst eo46) | ((with_reducible refine gate_callee (f := 64) rfl ?_); refine ga_ (some 55) Tryd.func64 #[.slice A0 l0.length c0, .slice Ao46 y427.length co46, .int .i64 (l2.length : Int)] ?_; (with_reducible refine (spec_l24May.calls k1 _ _ l0 _ _ y427 (l2.length : Int) false _ ?side1 ?side2 ?side3 ?side4 A24.out).mono ?_); (case side1 => exact Kd.C_kept_now HR0.out (kt_ HK.out)); (case side2 => exact HC0.out); (case side3 => exact kc_ (Kd.R_reads' HO429.out).2.2); (case side4 => exact (Kd.R_reads' HO429.out).2.1); rintro e w47 ⟨rfl, hb⟩; refine ⟨_, rfl, ?_⟩; replace HO_2 := Aside0.mk (Kd.R_below (kr_ HO_2.out) hb); replace HO_11 := Aside0.mk (Kd.R_below (kr_ HO_11.out) hb); replace HO429 := Aside0.mk (Kd.R_below (kr_ HO429.out) hb); replace HK := Aside0.mk (Kept.below (S := (fun k_ => P2_ k_)) (kt_ HK.out) hb); replace HB := Aside0.mk (below_step (lb0_ HB.out) hb); (try clear hb); (try clear hb2); (try clear hk); (try clear hi)))
         go_roundg k1
         case measure => have := HK1.out; omega
         case rel => exact ⟨(x11_1), (x12_1), (wrap64 (x13_1 + 1)), (by first | rfl | (simp; done) | (simp [*]; done)), (by first | rfl | (simp; done) | (simp [*]; done)), H', ⟨by have := HK1.out; omega⟩, ⟨krm_ HO_2.out (fun _ hk => ⟨hk.1.1, hk.1.2⟩)⟩, ⟨krm_ HO_11.out (fun _ hk => ⟨hk.1.1, hk.1.2⟩)⟩, ⟨kt_ HK.out⟩, ⟨lb0_ HB.out⟩⟩
       ·
        rw [if_neg c23] at H
        exact absurd H (by simp)
      ·
       rw [if_neg c21] at H
       have c21b0 : decide (x13_1 < 4) = false := decide_eq_false c21
       clear c21
       simp only [Option.some.injEq, Prod.mk.injEq] at H
       obtain ⟨rfl, rfl⟩ := H
       go_wp2
       go_ret2
       exact ⟨_, by first | rfl | (simp [errW_none, errW_some] <;> rfl) | (simp only [← hji6, ← hji8]; first | rfl | (simp [errW_none, errW_some] <;> rfl)) | (simp [*, errW_none, errW_some] <;> rfl), krm_ HO_11.out (fun _ hk => hk.1), lb0_ HB.out, kt_ HK.out⟩
  ·
   rw [if_neg c7] at H
   exact absurd H (by simp)
mutual
def spec_l5Less.l0 : Nat → List Int → List Int → Int → Option (Bool)
 | 0, _, _, _ => none
 | k + 1, x0, x1, x5 => if x5 < (x0.length : Int) then (spec_l5Less.j1 k x0 x1 x5 (decide (x5 < (x1.length : Int)))) else (spec_l5Less.j1 k x0 x1 x5 false)
def spec_l5Less.j1 : Nat → List Int → List Int → Int → Bool → Option (Bool)
 | 0, _, _, _, _ => none
 | k + 1, x0, x1, x5, x15 => if x15 = true then (if 0 ≤ x5 then (if x5 < (x0.length : Int) then (if x5 < (x1.length : Int) then (if (rd x0 x5) = (rd x1 x5) then (spec_l5Less.l0 k x0 x1 (wrap64 (x5 + 1))) else (some (decide ((rd x0 x5) < (rd x1 x5))))) else (none)) else (none)) else (none)) else (some (decide ((x0.length : Int) < (x1.length : Int))))
end
def spec_l5Less.f (k : Nat) (l0 : List Int) (l1 : List Int) : Option (Bool) := spec_l5Less.l0 k l0 l1 0
set_option maxHeartbeats 8000000 in
set_option maxRecDepth 100000 in
theorem spec_l5Less.calls (k : Nat) (A0 : Option Addr) (c0 : Nat) (l0 : List Int) (A1 : Option Addr) (c1 : Nat) (l1 : List Int) (r : Bool) (w : World) (hr0 : Kd.C (Kd.int .i64) w A0 l0.length l0) (hc0 : l0.length ≤ c0) (hr1 : Kd.C (Kd.int .i64) w A1 l1.length l1) (hc1 : l1.length ≤ c1) (h : spec_l5Less.f k l0 l1 = some r) :
  Calls Tryd.prog 81 #[.slice A0 l0.length c0, .slice A1 l1.length c1] w fun e w' => e = .returned (.bool r) ∧ Drawn0 w w' := by
 have HR0 := Aside0.mk hr0
 have HC0 := Aside0.mk hc0
 clear hr0 hc0
 have HR1 := Aside0.mk hr1
 have HC1 := Aside0.mk hc1
 clear hr1 hc1
 have H : (spec_l5Less.l0 k l0 l1 0) = some r := h
 clear h
 have H' := Aside0.mk H
 clear H
 go_enter Tryd.func81, Tryd.ntmps81
 go_wp2
 repeat (go_quiet (fail); try go_wp2)
 go_loopg [5] k (fun kq v5 w' => ∃ (x5_1 : Int), v5 = .int .i64 x5_1 ∧ Aside0 (spec_l5Less.l0 kq l0 l1 x5_1 = some r) ∧ Aside0 (kq ≤ k) ∧ Drawn0 w w')
 case atStart => exact ⟨(0), (by first | rfl | (simp; done) | (simp [*]; done)), H', ⟨Nat.le_refl _⟩, by repeat (first | exact Drawn0.refl _ | apply Drawn0.step)⟩
 case round =>
  clear H'
  try clear c1
  try clear p2
  obtain ⟨x5_1, rfl, HA, HK1, ⟨m1, rfl⟩⟩ := hrel
  cases gk with
  | zero => exact absurd HA.out (by simp [spec_l5Less.l0])
  | succ k1 =>
   have H := HA.out
   clear HA
   simp only [spec_l5Less.l0] at H
   have HC3 := Aside0.mk H
   clear H
   go_upto_region 2 with (fail)
   repeat (go_quiet (fail); go_upto_region 2 with (fail))
   go_cut [15] (fun v15 wc => ∃ (kq : Nat) (x15_2 : Bool), v15 = .bool x15_2 ∧ Aside0 (spec_l5Less.j1 kq l0 l1 x5_1 x15_2 = some r) ∧ Aside0 (kq ≤ k1) ∧ Drawn0 w wc)
   case first =>
    have H := HC3.out
    clear HC3
    by_cases c4 : x5_1 < (l0.length : Int)
    ·
     rw [if_pos c4] at H
     have c4b0 : decide (x5_1 < (l0.length : Int)) = true := decide_eq_true c4
     clear c4
     (first | rw [c4b0] | (simp only [i64_w, i32_w]; rw [c4b0]) | skip)
     have H' := Aside0.mk H
     clear H
     go_wp2
     repeat (go_quiet (fail); try go_wp2)
     go_meet
     case rel => exact ⟨_, (decide (x5_1 < (l1.length : Int))), (by first | rfl | (simp; done) | (simp [*]; done)), H', ⟨by have := HK1.out; first | omega | exact Nat.le_refl _⟩, by repeat (first | exact Drawn0.refl _ | apply Drawn0.step)⟩
    ·
     rw [if_neg c4] at H
     have c4b0 : decide (x5_1 < (l0.length : Int)) = false := decide_eq_false c4
     clear c4
     (first | rw [c4b0] | (simp only [i64_w, i32_w]; rw [c4b0]) | skip)
     have H' := Aside0.mk H
     clear H
     go_wp2
     repeat (go_quiet (fail); try go_wp2)
     go_meet
     case rel => exact ⟨_, (false), (by first | rfl | (simp; done) | (simp [*]; done)), H', ⟨by have := HK1.out; first | omega | exact Nat.le_refl _⟩, by repeat (first | exact Drawn0.refl _ | apply Drawn0.step)⟩
   case rest =>
    clear HC3
    try clear c1
    try clear p2
    try clear c4
    try clear c4b0
    try clear p2
    obtain ⟨kq, x15_2, rfl, HA, HJ2, ⟨mc2, rfl⟩⟩ := hcut
    cases kq with
    | zero => exact absurd HA.out (by simp [spec_l5Less.j1])
    | succ kj2 =>
     have H := HA.out
     clear HA
     simp only [spec_l5Less.j1] at H
     by_cases c5 : x15_2 = true
     ·
      subst c5
      have H1 : (if 0 ≤ x5_1 then (if x5_1 < (l0.length : Int) then (if x5_1 < (l1.length : Int) then (if (rd l0 x5_1) = (rd l1 x5_1) then (spec_l5Less.l0 kj2 l0 l1 (wrap64 (x5_1 + 1))) else (some (decide ((rd l0 x5_1) < (rd l1 x5_1))))) else (none)) else (none)) else (none)) = some r := by rw [if_pos rfl] at H; exact H
      clear H
      have H := H1
      clear H1
      by_cases c6 : 0 ≤ x5_1
      ·
       rw [if_pos c6] at H
       have c6b0 : decide (0 ≤ x5_1) = true := decide_eq_true c6
       clear c6
       by_cases c7 : x5_1 < (l0.length : Int)
       ·
        rw [if_pos c7] at H
        have c7b0 : decide (x5_1 < (l0.length : Int)) = true := decide_eq_true c7; clear c7
        by_cases c8 : x5_1 < (l1.length : Int)
        ·
         rw [if_pos c8] at H
         have c8b0 : decide (x5_1 < (l1.length : Int)) = true := decide_eq_true c8; clear c8
         by_cases c9 : (rd l0 x5_1) = (rd l1 x5_1)
         ·
          rw [if_pos c9] at H
          have c9b0 : ((rd l0 x5_1) == (rd l1 x5_1)) = true := beq_iff_eq.mpr c9; have c9b1 : ((rd l0 x5_1) != (rd l1 x5_1)) = false := bne_eq_false_iff_eq.mpr c9; clear c9; have H' := Aside0.mk H; clear H; have p515 : 0 ≤ (x5_1 : Int) := dt_; have q515 : x5_1 < (l0.length : Int) := dt_; obtain ⟨ad515, e515, hx515_0⟩ := Kd.at_int HR0.out x5_1 p515 q515
          cases e515
          replace p515 := eq_true p515; replace q515 := eq_true q515; have p516 : 0 ≤ (x5_1 : Int) := dt_; have q516 : x5_1 < (l1.length : Int) := dt_; obtain ⟨ad516, e516, hx516_0⟩ := Kd.at_int HR1.out x5_1 p516 q516
          cases e516
          replace p516 := eq_true p516; replace q516 := eq_true q516
          go_wp2
          repeat (go_quiet (fail); try go_wp2)
          go_roundg kj2
          case measure => have := HK1.out; have := HJ2.out; omega
          case rel => exact ⟨(wrap64 (x5_1 + 1)), (by first | rfl | (simp; done) | (simp [*]; done)), H', ⟨by have := HK1.out; have := HJ2.out; omega⟩, by repeat (first | exact Drawn0.refl _ | apply Drawn0.step)⟩
         ·
          rw [if_neg c9] at H
          have c9b0 : ((rd l0 x5_1) == (rd l1 x5_1)) = false := beq_eq_false_iff_ne.mpr c9; have c9b1 : ((rd l0 x5_1) != (rd l1 x5_1)) = true := bne_iff_ne.mpr c9; obtain rfl := Option.some.inj H; have p515 : 0 ≤ (x5_1 : Int) := dt_; have q515 : x5_1 < (l0.length : Int) := dt_; obtain ⟨ad515, e515, hx515_0⟩ := Kd.at_int HR0.out x5_1 p515 q515
          cases e515
          replace p515 := eq_true p515; replace q515 := eq_true q515; have p516 : 0 ≤ (x5_1 : Int) := dt_; have q516 : x5_1 < (l1.length : Int) := dt_; obtain ⟨ad516, e516, hx516_0⟩ := Kd.at_int HR1.out x5_1 p516 q516
          cases e516
          replace p516 := eq_true p516; replace q516 := eq_true q516; have p517 : 0 ≤ (x5_1 : Int) := dt_; have q517 : x5_1 < (l0.length : Int) := dt_; obtain ⟨ad517, e517, hx517_0⟩ := Kd.at_int HR0.out x5_1 p517 q517
          obtain rfl : ad515 = ad517 := (by injection e517)
          replace p517 := eq_true p517; replace q517 := eq_true q517; have p518 : 0 ≤ (x5_1 : Int) := dt_; have q518 : x5_1 < (l1.length : Int) := dt_; obtain ⟨ad518, e518, hx518_0⟩ := Kd.at_int HR1.out x5_1 p518 q518
          obtain rfl : ad516 = ad518 := (by injection e518)
          replace p518 := eq_true p518; replace q518 := eq_true q518
          go_wp2
          repeat (go_quiet (fail); try go_wp2)
          go_ret
          exact ⟨by first | rfl | (simp; done) | (simp [*]; done), by repeat (first | exact Drawn0.refl _ | apply Drawn0.step)⟩
        ·
         rw [if_neg c8] at H
         exact absurd H (by simp)
       ·
        rw [if_neg c7] at H
        exact absurd H (by simp)
      ·
       rw [if_neg c6] at H
       exact absurd H (by simp)
     ·
      replace c5 := Bool.eq_false_iff.mpr c5
      subst c5
      have H1 : (some (decide ((l0.length : Int) < (l1.length : Int)))) = some r := by rw [if_neg (show ¬ (false = true) by decide)] at H; exact H
      clear H
      have H := H1
      clear H1
      obtain rfl := Option.some.inj H
      go_wp2
      repeat (go_quiet (fail); try go_wp2)
      go_ret
      exact ⟨by first | rfl | (simp; done) | (simp [*]; done), by repeat (first | exact Drawn0.refl _ | apply Drawn0.step)⟩
mutual
def spec_MostPlaced.l0 : Nat → List (S29) → List Int → Int → Option (List Int × Bool)
 | 0, _, _, _ => none
 | k + 1, x0, x4, x5 => if 0 ≤ (IntKind.u64.wrap ((x0.length : Int))) then (if x5 < (shl .i64 1 (IntKind.u64.wrap ((x0.length : Int)))) then (spec_MostPlaced.l1 k x0 x4 x5 (([] : List Int)) 0) else (some (x4, true))) else (none)
def spec_MostPlaced.l1 : Nat → List (S29) → List Int → Int → List Int → Int → Option (List Int × Bool)
 | 0, _, _, _, _, _ => none
 | k + 1, x0, x4, x5, x6, x7 => if x7 < (x0.length : Int) then (if 0 ≤ (IntKind.u64.wrap (x7)) then (if (Go.bits .and .i64 (shr .i64 x5 (IntKind.u64.wrap (x7))) 1) = 1 then (if x6.length < 17592186044416 then (spec_MostPlaced.l1 k x0 x4 x5 (x6 ++ [x7]) (wrap64 (x7 + 1))) else (none)) else (spec_MostPlaced.l1 k x0 x4 x5 x6 (wrap64 (x7 + 1)))) else (none)) else (if (x6.length : Int) < (x4.length : Int) then (spec_MostPlaced.j2 k x0 x4 x5 x6 true) else (if (x6.length : Int) = (x4.length : Int) then ((spec_l5Less.f k x6 x4).bind fun t529 => (spec_MostPlaced.j2 k x0 x4 x5 x6 (!t529))) else (spec_MostPlaced.j2 k x0 x4 x5 x6 false)))
def spec_MostPlaced.j2 : Nat → List (S29) → List Int → Int → List Int → Bool → Option (List Int × Bool)
 | 0, _, _, _, _, _ => none
 | k + 1, x0, x4, x5, x6, x57 => if x57 = true then (spec_MostPlaced.l0 k x0 x4 (wrap64 (x5 + 1))) else ((spec_l24Count.f k x0 x5 (([] : List Int))).bind fun bt533 => (if bt533.2 > 0 then (spec_MostPlaced.l0 k x0 x6 (wrap64 (x5 + 1))) else (spec_MostPlaced.l0 k x0 x4 (wrap64 (x5 + 1)))))
end
def spec_MostPlaced.f (k : Nat) (l0 : List (S29)) : Option (List Int × Bool) := (some (([] : List Int) : List Int)).bind fun y519 => ((spec_l24Good.f k l0).bind fun t522 => (if t522 = true then (spec_MostPlaced.l0 k l0 y519 0) else (some (y519, false))))
set_option maxHeartbeats 8000000 in
set_option maxRecDepth 100000 in
theorem spec_MostPlaced.calls (k : Nat) (A0 : Option Addr) (c0 : Nat) (l0 : List (S29)) (r1 : List Int) (r2 : Bool) (w : World) (hr0 : Kd.C k29 w A0 l0.length l0) (hc0 : l0.length ≤ c0) (h : spec_MostPlaced.f k l0 = some (r1, r2)) :
  Calls Tryd.prog 41 #[.slice A0 l0.length c0] w fun e w' => ∃ v0_ : Value, e = .returned (.tuple #[v0_, .bool r2]) ∧ Kd.R (Kd.int .i64) 3 w' w.heap.size (fun _ => True) v0_ r1 ∧ Below w.heap.size w w' := by
 have HR0 := Aside0.mk hr0
 have HC0 := Aside0.mk hc0
 clear hr0 hc0
 have HB := Aside0.mk (Below.refl w.heap.size w)
 have H : ((some (([] : List Int) : List Int)).bind fun y519 => ((spec_l24Good.f k l0).bind fun t522 => (if t522 = true then (spec_MostPlaced.l0 k l0 y519 0) else (some (y519, false))))) = some (r1, r2) := h
 clear h
 obtain ⟨y519, hy519⟩ : ∃ y_ : List Int, y_ = (([] : List Int)) := ⟨_, rfl⟩
 replace H : ((spec_l24Good.f k l0).bind fun t522 => (if t522 = true then (spec_MostPlaced.l0 k l0 y519 0) else (some (y519, false)))) = some (r1, r2) := by first | (rw [hy519]; with_reducible exact H) | (have H2_ := (Option.bind_some _ _).symm.trans H; rw [hy519]; with_reducible exact H2_) | (have H2_ := (Option.bind_some _ _).symm.trans H; with_reducible exact H2_) | with_reducible exact H | (rw [hy519]; exact H) | exact H
 have Ny519 := Aside0.mk hy519
 clear hy519
 replace H := Option.bind_eq_some_iff.mp H
 obtain ⟨t522, A20, H⟩ := H
 replace H : (if t522 = true then (spec_MostPlaced.l0 k l0 y519 0) else (some (y519, false))) = some (r1, r2) := H
 have A2 := Aside0.mk A20
 clear A20
 by_cases c3 : t522 = true
 ·
  subst c3
  have H1 : (spec_MostPlaced.l0 k l0 y519 0) = some (r1, r2) := by rw [if_pos rfl] at H; exact H
  clear H
  have H := H1
  clear H1
  have H' := Aside0.mk H
  clear H
  go_enter Tryd.func41, Tryd.ntmps41
  go_wp2_with (first | ((with_reducible refine gate_dst (N := 10) rfl ?_); (try (refine gate_guard (by rfl) ?_; dsimp only)); refine Kd.R_lit (Kd.int .i64) _ 3 ?hg (N := 10) ?hd (xs := ([] : List Int)) (inner := []) (ok := fun _ => True) (okp := fun _ => True) ?hr ?hp (fun _ hk => hk) trivial (Below.refl _ _) (Nat.le_refl _) (by simp) ?_; (case hd => rfl); (case hg => rfl); (case hr => first | (go_simp; done) | (go_simp; rfl)); (case hp => exact (Reps.none _ _)); intro v520 w4 ho5 hb hg_ hnew_; clear hg_ hnew_; replace ho5 := ry_ Ny519.out ho5; have HO521 := Aside0.mk (Kd.R_lower ho5 (below_size (lb0_ HB.out))); replace HB := Aside0.mk (below_step (lb0_ HB.out) hb); clear hb ho5) | ((with_reducible refine gate_callee (f := 60) rfl ?_); refine ga_ (some 12) Tryd.func60 #[.slice A0 l0.length c0] ?_; (with_reducible refine (spec_l24Good.calls k _ _ l0 true _ ?side1 ?side2 A2.out).mono ?_); (case side1 => exact kc_ (Kd.C_below HR0.out HB.out)); (case side2 => exact HC0.out); rintro e w6 ⟨rfl, hb⟩; refine ⟨_, rfl, ?_⟩; replace HO521 := Aside0.mk (Kd.R_below (kr_ HO521.out) hb); replace HB := Aside0.mk (below_step (lb0_ HB.out) hb); (try clear hb); (try clear hb2); (try clear hk); (try clear hi)))
  go_loopg [4, 5] k (fun kq v4 v5 w' => ∃ (x4_1 : List Int) (x5_1 : Int), v5 = .int .i64 x5_1 ∧ Aside0 (spec_MostPlaced.l0 kq l0 x4_1 x5_1 = some (r1, r2)) ∧ Aside0 (kq ≤ k) ∧ Aside0 (Kd.R (Kd.int .i64) 3 w' w.heap.size (fun _ => True) v4 x4_1) ∧ Aside0 (Below w.heap.size w w'))
  case atStart => exact ⟨(y519), (0), (by first | rfl | (simp; done) | (simp [*]; done)), H', ⟨Nat.le_refl _⟩, ⟨kr_ HO521.out⟩, ⟨lb0_ HB.out⟩⟩
  case round =>
   clear H'
   try clear p2
   try clear c3
   try clear c4
   try clear c6
   obtain ⟨x4_1, x5_1, rfl, HA, HK1, HO_4, HB⟩ := hrel
   cases gk with
   | zero => exact absurd HA.out (by simp [spec_MostPlaced.l0])
   | succ k1 =>
    have H := HA.out
    clear HA
    simp only [spec_MostPlaced.l0] at H
    obtain ⟨ji7, hji7⟩ : ∃ j_ : Int, (IntKind.u64.wrap ((l0.length : Int))) = j_ := ⟨_, rfl⟩
    replace H : (if 0 ≤ (ji7) then (if x5_1 < (shl .i64 1 (ji7)) then (spec_MostPlaced.l1 k1 l0 x4_1 x5_1 (([] : List Int)) 0) else (some (x4_1, true))) else (none)) = some (r1, r2) := by first | (rw [hji7] at H; exact H) | (simp only [hji7] at H ⊢; exact H)
    by_cases c8 : 0 ≤ (ji7)
    ·
     rw [if_pos c8] at H
     have c8b0 := eq_true c8
     have c8b1 : decide (0 ≤ (ji7)) = true := decide_eq_true c8
     clear c8
     obtain ⟨ji9, hji9⟩ : ∃ j_ : Int, (shl .i64 1 (ji7)) = j_ := ⟨_, rfl⟩
     replace H : (if x5_1 < (ji9) then (spec_MostPlaced.l1 k1 l0 x4_1 x5_1 (([] : List Int)) 0) else (some (x4_1, true))) = some (r1, r2) := by first | (rw [hji9] at H; exact H) | (simp only [hji9] at H ⊢; exact H)
     have hji9_ : (IntKind.i64.wrap (1 * 2 ^ min (ji7).toNat 64)) = ji9 := hji9
     have hji9z : (ji7) ≤ 64 → (IntKind.i64.wrap (1 * 2 ^ (ji7).toNat)) = ji9 := shl_small hji9
     have hji9u : (IntKind.i64.wrap (2 ^ min (ji7).toNat 64)) = ji9 := by have h_ := hji9_; rw [Int.one_mul] at h_; exact h_
     have hji9v : (ji7) ≤ 64 → (IntKind.i64.wrap (2 ^ (ji7).toNat)) = ji9 := fun hle_ => by have h_ := hji9z hle_; rw [Int.one_mul] at h_; exact h_
     have hji9y : (wrap64 (1 * 2 ^ min (ji7).toNat 64)) = ji9 := (i64_w _).symm.trans hji9_
     have hji9x : (ji7) ≤ 64 → (wrap64 (1 * 2 ^ (ji7).toNat)) = ji9 := fun h_ => (i64_w _).symm.trans (hji9z h_)
     by_cases c10 : x5_1 < (ji9)
     ·
      rw [if_pos c10] at H
      have c10b0 : decide (x5_1 < (ji9)) = true := decide_eq_true c10
      clear c10
      obtain ⟨y523, hy523⟩ : ∃ y_ : List Int, y_ = (([] : List Int)) := ⟨_, rfl⟩
      replace H : (spec_MostPlaced.l1 k1 l0 x4_1 x5_1 y523 0) = some (r1, r2) := by first | (rw [hy523]; with_reducible exact H) | (have H2_ := (Option.bind_some _ _).symm.trans H; rw [hy523]; with_reducible exact H2_) | (have H2_ := (Option.bind_some _ _).symm.trans H; with_reducible exact H2_) | with_reducible exact H | (rw [hy523]; exact H) | exact H
      have Ny523 := Aside0.mk hy523
      clear hy523
      have H' := Aside0.mk H
      clear H
      go_wp2_with (first | ((with_reducible refine gate_dst (N := 23) rfl ?_); (try (refine gate_guard (by rfl) ?_; dsimp only)); refine Kd.R_lit (Kd.int .i64) _ 3 ?hg (N := 23) ?hd (xs := ([] : List Int)) (inner := []) (ok := fun _ => True) (okp := fun _ => True) ?hr ?hp (fun _ hk => hk) trivial (Below.refl _ _) (Nat.le_refl _) (by simp) ?_; (case hd => rfl); (case hg => rfl); (case hr => first | (go_simp; done) | (go_simp; rfl)); (case hp => exact (Reps.none _ _)); intro v524 w11 ho12 hb hg_ hnew_; clear hg_ hnew_; replace ho12 := ry_ Ny523.out ho12; have HO525 := Aside0.mk (Kd.R_lower (Kd.R_new' ho12 (Kd.R_lt (kr_ HO_4.out))) (below_size (lb0_ HB.out))); replace HO_4 := Aside0.mk (Kd.R_elder' (kr_ HO_4.out) (Kd.R_base ho12) hb); replace HB := Aside0.mk (below_step (lb0_ HB.out) hb); clear hb ho12))
      go_loopg [6, 7] k1 (fun kq v6 v7 w' => ∃ (x6_2 : List Int) (x7_2 : Int), v7 = .int .i64 x7_2 ∧ Aside0 (spec_MostPlaced.l1 kq l0 x4_1 x5_1 x6_2 x7_2 = some (r1, r2)) ∧ Aside0 (kq ≤ k1) ∧ Aside0 (Kd.R (Kd.int .i64) 3 w' w.heap.size (fun k_ => some k_ ≠ (v6 : Value).ownBlock) u4 x4_1) ∧ Aside0 (Kd.R (Kd.int .i64) 3 w' w.heap.size (fun k_ => some k_ ≠ (u4 : Value).ownBlock) v6 x6_2) ∧ Aside0 (Below w.heap.size w w'))
      case atStart => exact ⟨(y523), (0), (by first | rfl | (simp; done) | (simp [*]; done)), H', ⟨Nat.le_refl _⟩, ⟨krm_ HO_4.out (fun _ hk => hk.2)⟩, ⟨krm_ HO525.out (fun _ hk => hk.2)⟩, ⟨lb0_ HB.out⟩⟩
      case round =>
       clear H'
       try clear c1
       try clear p2
       try clear c3
       try clear c4
       try clear c6
       try clear p6
       try clear c8
       try clear c8b0
       try clear c8b1
       try clear c10
       try clear c10b0
       try clear p2
       obtain ⟨x6_2, x7_2, rfl, HA, HK2, HO_4, HO_6, HB⟩ := hrel
       cases gk with
       | zero => exact absurd HA.out (by simp [spec_MostPlaced.l1])
       | succ k2 =>
        have H := HA.out; clear HA; simp only [spec_MostPlaced.l1] at H
        by_cases c13 : x7_2 < (l0.length : Int)
        ·
         rw [if_pos c13] at H
         have c13b0 : decide (x7_2 < (l0.length : Int)) = true := decide_eq_true c13; clear c13
         obtain ⟨ji14, hji14⟩ : ∃ j_ : Int, (IntKind.u64.wrap (x7_2)) = j_ := ⟨_, rfl⟩
         replace H : (if 0 ≤ (ji14) then (if (Go.bits .and .i64 (shr .i64 x5_1 (ji14)) 1) = 1 then (if x6_2.length < 17592186044416 then (spec_MostPlaced.l1 k2 l0 x4_1 x5_1 (x6_2 ++ [x7_2]) (wrap64 (x7_2 + 1))) else (none)) else (spec_MostPlaced.l1 k2 l0 x4_1 x5_1 x6_2 (wrap64 (x7_2 + 1)))) else (none)) = some (r1, r2) := by first | (rw [hji14] at H; exact H) | (simp only [hji14] at H ⊢; exact H)
         by_cases c15 : 0 ≤ (ji14)
         ·
          rw [if_pos c15] at H
          have c15b0 := eq_true c15; have c15b1 : decide (0 ≤ (ji14)) = true := decide_eq_true c15; clear c15
          obtain ⟨ji16, hji16⟩ : ∃ j_ : Int, (shr .i64 x5_1 (ji14)) = j_ := ⟨_, rfl⟩
          replace H : (if (Go.bits .and .i64 (ji16) 1) = 1 then (if x6_2.length < 17592186044416 then (spec_MostPlaced.l1 k2 l0 x4_1 x5_1 (x6_2 ++ [x7_2]) (wrap64 (x7_2 + 1))) else (none)) else (spec_MostPlaced.l1 k2 l0 x4_1 x5_1 x6_2 (wrap64 (x7_2 + 1)))) = some (r1, r2) := by first | (rw [hji16] at H; exact H) | (simp only [hji16] at H ⊢; exact H)
          have hji16_ : (x5_1 / 2 ^ min (ji14).toNat 64) = ji16 := hji16; have hji16z : (ji14) ≤ 64 → (x5_1 / 2 ^ (ji14).toNat) = ji16 := shr_small hji16
          by_cases c17 : (Go.bits .and .i64 (ji16) 1) = 1
          ·
           rw [if_pos c17] at H
           have c17b0 : ((Go.bits .and .i64 (ji16) 1) == 1) = true := beq_iff_eq.mpr c17; have c17b1 : ((Go.bits .and .i64 (ji16) 1) != 1) = false := bne_eq_false_iff_eq.mpr c17; clear c17
           by_cases c18 : x6_2.length < 17592186044416
           ·
            rw [if_pos c18] at H
            have LMc18 := Aside0.mk c18; clear c18
            obtain ⟨y526, hy526⟩ : ∃ y_ : List Int, y_ = (x6_2 ++ [x7_2]) := ⟨_, rfl⟩
            replace H : (spec_MostPlaced.l1 k2 l0 x4_1 x5_1 y526 (wrap64 (x7_2 + 1))) = some (r1, r2) := by first | (rw [hy526]; with_reducible exact H) | (have H2_ := (Option.bind_some _ _).symm.trans H; rw [hy526]; with_reducible exact H2_) | (have H2_ := (Option.bind_some _ _).symm.trans H; with_reducible exact H2_) | with_reducible exact H | (rw [hy526]; exact H) | exact H
            have Ny526 := Aside0.mk hy526; clear hy526; have H' := Aside0.mk H; clear H
            go_wp2_with (first | ((with_reducible refine gate_builtin (b := .append) (xs := #[.tmp 36, .tmp 38]) rfl ?_); (try (refine gate_guard (by rfl) ?_; dsimp only)); at_builtin; refine Kd.R_append (Kd.int .i64) (w0 := w) w.heap.size rfl (.tmp 36) (.tmp 38) 40 3 (.int .i64 0) 8 rfl Tryd.underlying40 info3 rfl (by decide) (by omega) u6 x6_2 x7_2 [.int .i64 x7_2] (fun k_ => some k_ ≠ (u4 : Value).ownBlock) (fun _ => False) rfl rfl ?aP (fun _ hk => hk.elim) ?aF ?aO ?aB ?aS ?aL ?_; (case aP => exact rfl); (case aB => exact (lb0_ HB.out)); (case aF => exact (fun k_ hk => Kd.fresh' (Kd.R_lt (kr_ HO_4.out)) k_ hk)); (case aO => exact (kr_ HO_6.out)); (case aS => exact (below_size (lb0_ HB.out))); (case aL => have := LMc18.out; omega); intro v527 w19 ho hb hg hat; rw [← Ny526.out] at ho; replace HO_4 := Aside0.mk (Kd.R_after (ok := (fun _ => True)) (krm_ HO_4.out (fun _ hk => ⟨trivial, hk⟩)) hg hat); replace HB := Aside0.mk (hb); have HO528 := Aside0.mk (ho); clear HO_6; clear ho hb hg hat))
            go_roundg k2
            case measure => have := HK1.out; have := HK2.out; omega
            case rel => exact ⟨(y526), (wrap64 (x7_2 + 1)), (by first | rfl | (simp; done) | (simp [*]; done)), H', ⟨by have := HK1.out; have := HK2.out; omega⟩, ⟨krm_ HO_4.out (fun _ hk => hk.2)⟩, ⟨kr_ HO528.out⟩, ⟨lb0_ HB.out⟩⟩
           ·
            rw [if_neg c18] at H
            exact absurd H (by simp)
          ·
           rw [if_neg c17] at H
           have c17b0 : ((Go.bits .and .i64 (ji16) 1) == 1) = false := beq_eq_false_iff_ne.mpr c17; have c17b1 : ((Go.bits .and .i64 (ji16) 1) != 1) = true := bne_iff_ne.mpr c17; have H' := Aside0.mk H; clear H
           go_wp2
           go_roundg k2
           case measure => have := HK1.out; have := HK2.out; omega
           case rel => exact ⟨(x6_2), (wrap64 (x7_2 + 1)), (by first | rfl | (simp; done) | (simp [*]; done)), H', ⟨by have := HK1.out; have := HK2.out; omega⟩, ⟨kr_ HO_4.out⟩, ⟨kr_ HO_6.out⟩, ⟨lb0_ HB.out⟩⟩
         ·
          rw [if_neg c15] at H
          exact absurd H (by simp)
        ·
         rw [if_neg c13] at H
         have c13b0 : decide (x7_2 < (l0.length : Int)) = false := decide_eq_false c13; clear c13; have HC20 := Aside0.mk H; clear H
         go_upto_region 13 with (fail)
         go_cut [57] (fun v57 wc => ∃ (kq : Nat) (x57_19 : Bool), v57 = .bool x57_19 ∧ Aside0 (spec_MostPlaced.j2 kq l0 x4_1 x5_1 x6_2 x57_19 = some (r1, r2)) ∧ Aside0 (kq ≤ k2) ∧ Aside0 (Kd.R (Kd.int .i64) 3 wc w.heap.size (fun k_ => some k_ ≠ (u6 : Value).ownBlock) u4 x4_1) ∧ Aside0 (Kd.R (Kd.int .i64) 3 wc w.heap.size (fun k_ => some k_ ≠ (u4 : Value).ownBlock) u6 x6_2) ∧ Aside0 (Below w.heap.size w wc))
         case first =>
          have H := HC20.out; clear HC20
          by_cases c21 : (x6_2.length : Int) < (x4_1.length : Int)
          ·
           rw [if_pos c21] at H
           have c21b0 : decide ((x6_2.length : Int) < (x4_1.length : Int)) = true := decide_eq_true c21; have c21b1 : decide (x6_2.length < x4_1.length) = true := decide_eq_true (Int.ofNat_lt.mp c21); clear c21
           (first | rw [c21b0] | (simp only [i64_w, i32_w]; rw [c21b0]) | skip)
           have H' := Aside0.mk H; clear H; obtain ⟨Ao22, co22, eo22⟩ := Kd.R_slice HO_6.out; subst eo22; obtain ⟨Ao23, co23, eo23⟩ := Kd.R_slice HO_4.out; subst eo23
           go_wp2
           go_meet
           case rel => exact ⟨_, (true), (by first | rfl | (simp; done) | (simp [*]; done)), H', ⟨by have := HK1.out; have := HK2.out; first | omega | exact Nat.le_refl _⟩, ⟨kr_ HO_4.out⟩, ⟨kr_ HO_6.out⟩, ⟨lb0_ HB.out⟩⟩
          ·
           rw [if_neg c21] at H
           have c21b0 : decide ((x6_2.length : Int) < (x4_1.length : Int)) = false := decide_eq_false c21; have c21b1 : decide (x6_2.length < x4_1.length) = false := decide_eq_false (fun h => c21 (Int.ofNat_lt.mpr h)); clear c21
           (first | rw [c21b0] | (simp only [i64_w, i32_w]; rw [c21b0]) | skip)
           by_cases c24 : (x6_2.length : Int) = (x4_1.length : Int)
           ·
            rw [if_pos c24] at H
            have c24b0 : ((x6_2.length : Int) == (x4_1.length : Int)) = true := beq_iff_eq.mpr c24; have c24b1 : ((x6_2.length : Int) != (x4_1.length : Int)) = false := bne_eq_false_iff_eq.mpr c24
            have c24b2 : (x6_2.length == x4_1.length) = true := by first | simpa using c24 | (simp at c24 ⊢; omega)
            clear c24; replace H := Option.bind_eq_some_iff.mp H; obtain ⟨t529, A250, H⟩ := H; replace H : (spec_MostPlaced.j2 k2 l0 x4_1 x5_1 x6_2 (!t529)) = some (r1, r2) := H; have A25 := Aside0.mk A250; clear A250; have H' := Aside0.mk H; clear H; obtain ⟨Ao26, co26, eo26⟩ := Kd.R_slice HO_6.out; subst eo26; obtain ⟨Ao27, co27, eo27⟩ := Kd.R_slice HO_4.out; subst eo27
            go_wp2_with (first | (go_at_call 81; (with_reducible refine (spec_l5Less.calls k2 _ _ x6_2 _ _ x4_1 t529 _ ?side1 ?side2 ?side3 ?side4 A25.out).mono ?_); (case side1 => exact kc_ (Kd.R_reads' HO_6.out).2.2); (case side2 => exact (Kd.R_reads' HO_6.out).2.1); (case side3 => exact kc_ (Kd.R_reads' HO_4.out).2.2); (case side4 => exact (Kd.R_reads' HO_4.out).2.1); rintro e w' ⟨rfl, ⟨nd, rfl⟩⟩))
            go_meet
            case rel => exact ⟨_, (!t529), (by first | rfl | (simp; done) | (simp [*]; done)), H', ⟨by have := HK1.out; have := HK2.out; first | omega | exact Nat.le_refl _⟩, ⟨kr_ HO_4.out⟩, ⟨kr_ HO_6.out⟩, ⟨lb0_ HB.out⟩⟩
           ·
            rw [if_neg c24] at H
            have c24b0 : ((x6_2.length : Int) == (x4_1.length : Int)) = false := beq_eq_false_iff_ne.mpr c24; have c24b1 : ((x6_2.length : Int) != (x4_1.length : Int)) = true := bne_iff_ne.mpr c24
            have c24b2 : (x6_2.length == x4_1.length) = false := by first | simpa using c24 | (simp at c24 ⊢; omega)
            have H' := Aside0.mk H; clear H; obtain ⟨Ao28, co28, eo28⟩ := Kd.R_slice HO_6.out; subst eo28; obtain ⟨Ao29, co29, eo29⟩ := Kd.R_slice HO_4.out; subst eo29
            go_wp2
            go_meet
            case rel => exact ⟨_, (false), (by first | rfl | (simp; done) | (simp [*]; done)), H', ⟨by have := HK1.out; have := HK2.out; first | omega | exact Nat.le_refl _⟩, ⟨kr_ HO_4.out⟩, ⟨kr_ HO_6.out⟩, ⟨lb0_ HB.out⟩⟩
         case rest =>
          clear HC20
          try clear c1
          try clear c2
          try clear p2
          try clear c3
          try clear c4
          try clear c6
          try clear p6
          try clear c8
          try clear c8b0
          try clear c8b1
          try clear c10
          try clear c10b0
          try clear c13
          try clear c13b0
          try clear c15
          try clear c15b0
          try clear c15b1
          try clear c17
          try clear c17b0
          try clear c17b1
          try clear c18
          try clear c21
          try clear c21b0
          try clear c21b1
          try clear c24
          try clear c24b0
          try clear c24b1
          try clear c24b2
          try clear p2
          try clear p6
          obtain ⟨kq, x57_19, rfl, HA, HJ19, HO_4, HO_6, HB⟩ := hcut
          cases kq with
          | zero => exact absurd HA.out (by simp [spec_MostPlaced.j2])
          | succ kj19 =>
           have H := HA.out; clear HA; simp only [spec_MostPlaced.j2] at H
           by_cases c30 : x57_19 = true
           ·
            subst c30
            have H1 : (spec_MostPlaced.l0 kj19 l0 x4_1 (wrap64 (x5_1 + 1))) = some (r1, r2) := by rw [if_pos rfl] at H; exact H
            clear H; have H := H1; clear H1; have H' := Aside0.mk H; clear H
            go_wp2
            go_roundg kj19
            case measure => have := HK1.out; have := HK2.out; have := HJ19.out; omega
            case rel => exact ⟨(x4_1), (wrap64 (x5_1 + 1)), (by first | rfl | (simp; done) | (simp [*]; done)), H', ⟨by have := HK1.out; have := HK2.out; have := HJ19.out; omega⟩, ⟨krm_ HO_4.out (fun _ hk => trivial)⟩, ⟨lb0_ HB.out⟩⟩
           ·
            replace c30 := Bool.eq_false_iff.mpr c30; subst c30
            have H1 : ((spec_l24Count.f kj19 l0 x5_1 (([] : List Int))).bind fun bt533 => (if bt533.2 > 0 then (spec_MostPlaced.l0 kj19 l0 x6_2 (wrap64 (x5_1 + 1))) else (spec_MostPlaced.l0 kj19 l0 x4_1 (wrap64 (x5_1 + 1))))) = some (r1, r2) := by rw [if_neg (show ¬ (false = true) by decide)] at H; exact H
            clear H; have H := H1; clear H1
            obtain ⟨y530, hy530⟩ : ∃ y_ : List Int, y_ = (([] : List Int)) := ⟨_, rfl⟩
            replace H : ((spec_l24Count.f kj19 l0 x5_1 y530).bind fun bt533 => (if bt533.2 > 0 then (spec_MostPlaced.l0 kj19 l0 x6_2 (wrap64 (x5_1 + 1))) else (spec_MostPlaced.l0 kj19 l0 x4_1 (wrap64 (x5_1 + 1))))) = some (r1, r2) := by first | (rw [hy530]; with_reducible exact H) | (have H2_ := (Option.bind_some _ _).symm.trans H; rw [hy530]; with_reducible exact H2_) | (have H2_ := (Option.bind_some _ _).symm.trans H; with_reducible exact H2_) | with_reducible exact H | (rw [hy530]; exact H) | exact H
            have Ny530 := Aside0.mk hy530; clear hy530; replace H := Option.bind_eq_some_iff.mp H; obtain ⟨⟨t533, t536⟩, A310, H⟩ := H; replace H : (if t536 > 0 then (spec_MostPlaced.l0 kj19 l0 x6_2 (wrap64 (x5_1 + 1))) else (spec_MostPlaced.l0 kj19 l0 x4_1 (wrap64 (x5_1 + 1)))) = some (r1, r2) := H; have A31 := Aside0.mk A310; clear A310
            by_cases c32 : t536 > 0
            ·
             rw [if_pos c32] at H
             have c32b0 : decide (0 < t536) = true := decide_eq_true c32; clear c32; have H' := Aside0.mk H; clear H
             go_wp2_with (first | ((with_reducible refine gate_dst (N := 61) rfl ?_); (try (refine gate_guard (by rfl) ?_; dsimp only)); refine Kd.R_lit (Kd.int .i64) _ 3 ?hg (N := 61) ?hd (xs := ([] : List Int)) (inner := []) (ok := fun _ => True) (okp := fun _ => True) ?hr ?hp (fun _ hk => hk) trivial (Below.refl _ _) (Nat.le_refl _) (by simp) ?_; (case hd => rfl); (case hg => rfl); (case hr => first | (go_simp; done) | (go_simp; rfl)); (case hp => exact (Reps.none _ _)); intro v531 w33 ho34 hb hg_ hnew_; clear hg_ hnew_; replace ho34 := ry_ Ny530.out ho34; have HO532 := Aside0.mk (Kd.R_lower (Kd.R_new' (Kd.R_new' ho34 (Kd.R_lt (kr_ HO_4.out))) (Kd.R_lt (kr_ HO_6.out))) (below_size (lb0_ HB.out))); replace HO_4 := Aside0.mk (Kd.R_elder' (kr_ HO_4.out) (Kd.R_base ho34) hb); replace HO_6 := Aside0.mk (Kd.R_elder' (kr_ HO_6.out) (Kd.R_base ho34) hb); replace HB := Aside0.mk (below_step (lb0_ HB.out) hb); clear hb ho34; obtain ⟨Ao35, co35, eo35⟩ := Kd.R_slice HO532.out; subst eo35) | ((with_reducible refine gate_callee (f := 76) rfl ?_); refine ga_ (some 62) Tryd.func76 #[.slice A0 l0.length c0, .int .i64 x5_1, .slice Ao35 y530.length co35] ?_; (with_reducible refine (spec_l24Count.calls kj19 _ _ l0 x5_1 (fun k_ => some k_ = (.slice Ao35 y530.length co35 : Value).ownBlock) (.slice Ao35 y530.length co35) y530 t533 t536 w _ ?side1 ?side2 ?side3 ?side4 A31.out).mono ?_); (case side1 => exact lb0_ HB.out); (case side2 => exact Kd.C_kept_came k29_heap HR0.out (lb0_ HB.out) (fun k_ hs_ => (fun e_ => Kd.R_base HO532.out k_ e_.symm) hs_)); (case side3 => exact HC0.out); (case side4 => exact Kd.R_tight rfl HO532.out); rintro e w36 ⟨v534, rfl, ho0, hb, hkp⟩; refine ⟨_, rfl, ?_⟩; have HO535 := Aside0.mk (Kd.R_mono (ok' := fun k_ => some k_ ≠ (u4 : Value).ownBlock ∧ some k_ ≠ (u6 : Value).ownBlock) ho0 (fun k_ hk_ => ⟨Or.elim hk_ (fun hs_ => fun e_ => (((HO_4.out).1 k_ e_.symm).2) hs_) (fun hn_ => (Kd.fresh' (Kd.R_lt (kr_ HO_4.out)) k_ hn_)), Or.elim hk_ (fun hs_ => fun e_ => (((HO_6.out).1 k_ e_.symm).2) hs_) (fun hn_ => (Kd.fresh' (Kd.R_lt (kr_ HO_6.out)) k_ hn_))⟩)); replace HO_4 := Aside0.mk (Kd.R_mono (ok' := fun k_ => some k_ ≠ (u6 : Value).ownBlock ∧ some k_ ≠ (v534 : Value).ownBlock) (Kd.R_keptB (HO_4.out) hkp (fun k_ hk_ hs_ => (hk_.2) hs_)) (fun k_ hk_ => ⟨hk_.1.1, fun e_ => Or.elim (ho0.1 k_ e_.symm) (fun hs_ => hk_.2.1 hs_) (fun hn_ => Nat.not_le.2 hk_.2.2 hn_)⟩)); replace HO_6 := Aside0.mk (Kd.R_mono (ok' := fun k_ => some k_ ≠ (u4 : Value).ownBlock ∧ some k_ ≠ (v534 : Value).ownBlock) (Kd.R_keptB (HO_6.out) hkp (fun k_ hk_ hs_ => (hk_.2) hs_)) (fun k_ hk_ => ⟨hk_.1.1, fun e_ => Or.elim (ho0.1 k_ e_.symm) (fun hs_ => hk_.2.1 hs_) (fun hn_ => Nat.not_le.2 hk_.2.2 hn_)⟩)); replace HB := Aside0.mk (hb); clear HO532; (try clear hb); (try clear hkp); (try clear ho0)))
             go_roundg kj19
             case measure => have := HK1.out; have := HK2.out; have := HJ19.out; omega
             case rel => exact ⟨(x6_2), (wrap64 (x5_1 + 1)), (by first | rfl | (simp; done) | (simp [*]; done)), H', ⟨by have := HK1.out; have := HK2.out; have := HJ19.out; omega⟩, ⟨krm_ HO_6.out (fun _ hk => trivial)⟩, ⟨lb0_ HB.out⟩⟩
            ·
             rw [if_neg c32] at H
             have c32b0 : decide (0 < t536) = false := decide_eq_false c32; clear c32; have H' := Aside0.mk H; clear H
             go_wp2_with (first | ((with_reducible refine gate_dst (N := 61) rfl ?_); (try (refine gate_guard (by rfl) ?_; dsimp only)); refine Kd.R_lit (Kd.int .i64) _ 3 ?hg (N := 61) ?hd (xs := ([] : List Int)) (inner := []) (ok := fun _ => True) (okp := fun _ => True) ?hr ?hp (fun _ hk => hk) trivial (Below.refl _ _) (Nat.le_refl _) (by simp) ?_; (case hd => rfl); (case hg => rfl); (case hr => first | (go_simp; done) | (go_simp; rfl)); (case hp => exact (Reps.none _ _)); intro v531 w37 ho38 hb hg_ hnew_; clear hg_ hnew_; replace ho38 := ry_ Ny530.out ho38; have HO532 := Aside0.mk (Kd.R_lower (Kd.R_new' (Kd.R_new' ho38 (Kd.R_lt (kr_ HO_4.out))) (Kd.R_lt (kr_ HO_6.out))) (below_size (lb0_ HB.out))); replace HO_4 := Aside0.mk (Kd.R_elder' (kr_ HO_4.out) (Kd.R_base ho38) hb); replace HO_6 := Aside0.mk (Kd.R_elder' (kr_ HO_6.out) (Kd.R_base ho38) hb); replace HB := Aside0.mk (below_step (lb0_ HB.out) hb); clear hb ho38; obtain ⟨Ao39, co39, eo39⟩ := Kd.R_slice HO532.out; subst eo39) | ((with_reducible refine gate_callee (f := 76) rfl ?_); refine ga_ (some 62) Tryd.func76 #[.slice A0 l0.length c0, .int .i64 x5_1, .slice Ao39 y530.length co39] ?_; (with_reducible refine (spec_l24Count.calls kj19 _ _ l0 x5_1 (fun k_ => some k_ = (.slice Ao39 y530.length co39 : Value).ownBlock) (.slice Ao39 y530.length co39) y530 t533 t536 w _ ?side1 ?side2 ?side3 ?side4 A31.out).mono ?_); (case side1 => exact lb0_ HB.out); (case side2 => exact Kd.C_kept_came k29_heap HR0.out (lb0_ HB.out) (fun k_ hs_ => (fun e_ => Kd.R_base HO532.out k_ e_.symm) hs_)); (case side3 => exact HC0.out); (case side4 => exact Kd.R_tight rfl HO532.out); rintro e w40 ⟨v534, rfl, ho0, hb, hkp⟩; refine ⟨_, rfl, ?_⟩; have HO535 := Aside0.mk (Kd.R_mono (ok' := fun k_ => some k_ ≠ (u4 : Value).ownBlock ∧ some k_ ≠ (u6 : Value).ownBlock) ho0 (fun k_ hk_ => ⟨Or.elim hk_ (fun hs_ => fun e_ => (((HO_4.out).1 k_ e_.symm).2) hs_) (fun hn_ => (Kd.fresh' (Kd.R_lt (kr_ HO_4.out)) k_ hn_)), Or.elim hk_ (fun hs_ => fun e_ => (((HO_6.out).1 k_ e_.symm).2) hs_) (fun hn_ => (Kd.fresh' (Kd.R_lt (kr_ HO_6.out)) k_ hn_))⟩)); replace HO_4 := Aside0.mk (Kd.R_mono (ok' := fun k_ => some k_ ≠ (u6 : Value).ownBlock ∧ some k_ ≠ (v534 : Value).ownBlock) (Kd.R_keptB (HO_4.out) hkp (fun k_ hk_ hs_ => (hk_.2) hs_)) (fun k_ hk_ => ⟨hk_.1.1, fun e_ => Or.elim (ho0.1 k_ e_.symm) (fun hs_ => hk_.2.1 hs_) (fun hn_ => Nat.not_le.2 hk_.2.2 hn_)⟩)); replace HO_6 := Aside0.mk (Kd.R_mono (ok' := fun k_ => some k_ ≠ (u4 : Value).ownBlock ∧ some k_ ≠ (v534 : Value).ownBlock) (Kd.R_keptB (HO_6.out) hkp (fun k_ hk_ hs_ => (hk_.2) hs_)) (fun k_ hk_ => ⟨hk_.1.1, fun e_ => Or.elim (ho0.1 k_ e_.symm) (fun hs_ => hk_.2.1 hs_) (fun hn_ => Nat.not_le.2 hk_.2.2 hn_)⟩)); replace HB := Aside0.mk (hb); clear HO532; (try clear hb); (try clear hkp); (try clear ho0)))
             go_roundg kj19
             case measure => have := HK1.out; have := HK2.out; have := HJ19.out; omega
             case rel => exact ⟨(x4_1), (wrap64 (x5_1 + 1)), (by first | rfl | (simp; done) | (simp [*]; done)), H', ⟨by have := HK1.out; have := HK2.out; have := HJ19.out; omega⟩, ⟨krm_ HO_4.out (fun _ hk => trivial)⟩, ⟨lb0_ HB.out⟩⟩
     ·
      rw [if_neg c10] at H
      have c10b0 : decide (x5_1 < (ji9)) = false := decide_eq_false c10
      clear c10
      simp only [Option.some.injEq, Prod.mk.injEq] at H
      obtain ⟨rfl, rfl⟩ := H
      go_wp2
      go_ret2
      exact ⟨_, by first | rfl | (simp [errW_none, errW_some] <;> rfl) | (simp only [← hji7, ← hji9]; first | rfl | (simp [errW_none, errW_some] <;> rfl)) | (simp [*, errW_none, errW_some] <;> rfl), kr_ HO_4.out, lb0_ HB.out⟩
    ·
     rw [if_neg c8] at H
     exact absurd H (by simp)
 ·
  replace c3 := Bool.eq_false_iff.mpr c3
  subst c3
  have H1 : (some (y519, false)) = some (r1, r2) := by rw [if_neg (show ¬ (false = true) by decide)] at H; exact H
  clear H
  have H := H1
  clear H1
  simp only [Option.some.injEq, Prod.mk.injEq] at H
  obtain ⟨rfl, rfl⟩ := H
  go_enter Tryd.func41, Tryd.ntmps41
  go_wp2_with (first | ((with_reducible refine gate_dst (N := 10) rfl ?_); (try (refine gate_guard (by rfl) ?_; dsimp only)); refine Kd.R_lit (Kd.int .i64) _ 3 ?hg (N := 10) ?hd (xs := ([] : List Int)) (inner := []) (ok := fun _ => True) (okp := fun _ => True) ?hr ?hp (fun _ hk => hk) trivial (Below.refl _ _) (Nat.le_refl _) (by simp) ?_; (case hd => rfl); (case hg => rfl); (case hr => first | (go_simp; done) | (go_simp; rfl)); (case hp => exact (Reps.none _ _)); intro v520 w41 ho42 hb hg_ hnew_; clear hg_ hnew_; replace ho42 := ry_ Ny519.out ho42; have HO521 := Aside0.mk (Kd.R_lower ho42 (below_size (lb0_ HB.out))); replace HB := Aside0.mk (below_step (lb0_ HB.out) hb); clear hb ho42) | ((with_reducible refine gate_callee (f := 60) rfl ?_); refine ga_ (some 12) Tryd.func60 #[.slice A0 l0.length c0] ?_; (with_reducible refine (spec_l24Good.calls k _ _ l0 false _ ?side1 ?side2 A2.out).mono ?_); (case side1 => exact kc_ (Kd.C_below HR0.out HB.out)); (case side2 => exact HC0.out); rintro e w43 ⟨rfl, hb⟩; refine ⟨_, rfl, ?_⟩; replace HO521 := Aside0.mk (Kd.R_below (kr_ HO521.out) hb); replace HB := Aside0.mk (below_step (lb0_ HB.out) hb); (try clear hb); (try clear hb2); (try clear hk); (try clear hi)))
  go_ret2
  exact ⟨_, rr_, kr_ HO521.out, lb0_ HB.out⟩
def cmp_Or_int.l0 : Nat → Int → List Int → Int → Int → Option (Int)
 | 0, _, _, _, _ => none
 | k + 1, x3, x6, x7, x8 => if x8 < x7 then (if 0 ≤ x8 then (if x8 < (x6.length : Int) then (if (rd x6 x8) = x3 then (cmp_Or_int.l0 k x3 x6 x7 (wrap64 (x8 + 1))) else (some (rd x6 x8))) else (none)) else (none)) else (some x3)
def cmp_Or_int.f (k : Nat) (l0 : List Int) : Option (Int) := cmp_Or_int.l0 k 0 l0 (l0.length : Int) 0
set_option maxHeartbeats 8000000 in
set_option maxRecDepth 100000 in
theorem cmp_Or_int.calls (k : Nat) (A0 : Option Addr) (c0 : Nat) (l0 : List Int) (r : Int) (w : World) (hr0 : Kd.C (Kd.int .i64) w A0 l0.length l0) (hc0 : l0.length ≤ c0) (h : cmp_Or_int.f k l0 = some r) :
  Calls Tryd.prog 82 #[.slice A0 l0.length c0] w fun e w' => e = .returned (.int .i64 r) ∧ Drawn0 w w' := by
 have HR0 := Aside0.mk hr0
 have HC0 := Aside0.mk hc0
 clear hr0 hc0
 have H : (cmp_Or_int.l0 k 0 l0 (l0.length : Int) 0) = some r := h
 clear h
 have H' := Aside0.mk H
 clear H
 go_enter Tryd.func82, Tryd.ntmps82
 go_wp2
 go_loopg [8] k (fun kq v8 w' => ∃ (x8_1 : Int), v8 = .int .i64 x8_1 ∧ Aside0 (cmp_Or_int.l0 kq 0 l0 (l0.length : Int) x8_1 = some r) ∧ Aside0 (kq ≤ k) ∧ Drawn0 w w')
 case atStart => exact ⟨(0), (by first | rfl | (simp; done) | (simp [*]; done)), H', ⟨Nat.le_refl _⟩, by repeat (first | exact Drawn0.refl _ | apply Drawn0.step)⟩
 case round =>
  clear H'
  obtain ⟨x8_1, rfl, HA, HK1, ⟨m1, rfl⟩⟩ := hrel
  cases gk with
  | zero => exact absurd HA.out (by simp [cmp_Or_int.l0])
  | succ k1 =>
   have H := HA.out
   clear HA
   simp only [cmp_Or_int.l0] at H
   by_cases c2 : x8_1 < (l0.length : Int)
   ·
    rw [if_pos c2] at H
    have c2b0 : decide (x8_1 < (l0.length : Int)) = true := decide_eq_true c2
    clear c2
    by_cases c3 : 0 ≤ x8_1
    ·
     rw [if_pos c3] at H
     have c3b0 : decide (0 ≤ x8_1) = true := decide_eq_true c3
     clear c3
     by_cases c4 : x8_1 < (l0.length : Int)
     ·
      rw [if_pos c4] at H
      have c4b0 : decide (x8_1 < (l0.length : Int)) = true := decide_eq_true c4
      clear c4
      by_cases c5 : (rd l0 x8_1) = 0
      ·
       rw [if_pos c5] at H
       have c5b0 : ((rd l0 x8_1) == 0) = true := beq_iff_eq.mpr c5
       have c5b1 : ((rd l0 x8_1) != 0) = false := bne_eq_false_iff_eq.mpr c5
       clear c5
       have H' := Aside0.mk H
       clear H
       have p537 : 0 ≤ (x8_1 : Int) := dt_
       have q537 : x8_1 < (l0.length : Int) := dt_
       obtain ⟨ad537, e537, hx537_0⟩ := Kd.at_int HR0.out x8_1 p537 q537
       cases e537
       replace p537 := eq_true p537
       replace q537 := eq_true q537
       go_wp2
       go_roundg k1
       case measure => have := HK1.out; omega
       case rel => exact ⟨(wrap64 (x8_1 + 1)), (by first | rfl | (simp; done) | (simp [*]; done)), H', ⟨by have := HK1.out; omega⟩, by repeat (first | exact Drawn0.refl _ | apply Drawn0.step)⟩
      ·
       rw [if_neg c5] at H
       have c5b0 : ((rd l0 x8_1) == 0) = false := beq_eq_false_iff_ne.mpr c5
       have c5b1 : ((rd l0 x8_1) != 0) = true := bne_iff_ne.mpr c5
       obtain rfl := Option.some.inj H
       have p537 : 0 ≤ (x8_1 : Int) := dt_
       have q537 : x8_1 < (l0.length : Int) := dt_
       obtain ⟨ad537, e537, hx537_0⟩ := Kd.at_int HR0.out x8_1 p537 q537
       cases e537
       replace p537 := eq_true p537
       replace q537 := eq_true q537
       go_wp2
       go_ret
       exact ⟨by first | rfl | (simp; done) | (simp [*]; done), by repeat (first | exact Drawn0.refl _ | apply Drawn0.step)⟩
     ·
      rw [if_neg c4] at H
      exact absurd H (by simp)
    ·
     rw [if_neg c3] at H
     exact absurd H (by simp)
   ·
    rw [if_neg c2] at H
    have c2b0 : decide (x8_1 < (l0.length : Int)) = false := decide_eq_false c2
    clear c2
    obtain rfl := Option.some.inj H
    go_wp2
    go_ret
    exact ⟨by first | rfl | (simp; done) | (simp [*]; done), by repeat (first | exact Drawn0.refl _ | apply Drawn0.step)⟩
def cmp_isNaN_int.f (a0 : Int) : Option (Bool) := some (a0 != a0)
set_option maxHeartbeats 8000000 in
set_option maxRecDepth 100000 in
theorem cmp_isNaN_int.calls (a0 : Int) (r : Bool) (w : World) (h : cmp_isNaN_int.f a0 = some r) :
  Calls Tryd.prog 106 #[.int .i64 a0] w fun e w' => e = .returned (.bool r) ∧ Drawn0 w w' := by
 have H : (some (a0 != a0)) = some r := h
 clear h
 obtain rfl := Option.some.inj H
 go_enter Tryd.func106, Tryd.ntmps106
 go_wp2
 go_ret
 exact ⟨by first | rfl | (simp; done) | (simp [*]; done), by repeat (first | exact Drawn0.refl _ | apply Drawn0.step)⟩
def cmp_Compare_int.f (a0 : Int) (a1 : Int) : Option (Int) := (cmp_isNaN_int.f a0).bind fun t538 => ((cmp_isNaN_int.f a1).bind fun t539 => (if t538 = true then (if t539 = true then (some 0) else (some (-1))) else (if t539 = true then (some 1) else (if a0 < a1 then (some (-1)) else (if a0 > a1 then (some 1) else (some 0))))))
set_option maxHeartbeats 8000000 in
set_option maxRecDepth 100000 in
theorem cmp_Compare_int.calls (a0 : Int) (a1 : Int) (r : Int) (w : World) (h : cmp_Compare_int.f a0 a1 = some r) :
  Calls Tryd.prog 83 #[.int .i64 a0, .int .i64 a1] w fun e w' => e = .returned (.int .i64 r) ∧ Drawn0 w w' := by
 have H : ((cmp_isNaN_int.f a0).bind fun t538 => ((cmp_isNaN_int.f a1).bind fun t539 => (if t538 = true then (if t539 = true then (some 0) else (some (-1))) else (if t539 = true then (some 1) else (if a0 < a1 then (some (-1)) else (if a0 > a1 then (some 1) else (some 0))))))) = some r := h
 clear h
 replace H := Option.bind_eq_some_iff.mp H
 obtain ⟨t538, A30, H⟩ := H
 replace H : ((cmp_isNaN_int.f a1).bind fun t539 => (if t538 = true then (if t539 = true then (some 0) else (some (-1))) else (if t539 = true then (some 1) else (if a0 < a1 then (some (-1)) else (if a0 > a1 then (some 1) else (some 0)))))) = some r := H
 have A3 := Aside0.mk A30
 clear A30
 replace H := Option.bind_eq_some_iff.mp H
 obtain ⟨t539, A40, H⟩ := H
 replace H : (if t538 = true then (if t539 = true then (some 0) else (some (-1))) else (if t539 = true then (some 1) else (if a0 < a1 then (some (-1)) else (if a0 > a1 then (some 1) else (some 0))))) = some r := H
 have A4 := Aside0.mk A40
 clear A40
 by_cases c5 : t538 = true
 ·
  subst c5
  have H1 : (if t539 = true then (some 0) else (some (-1))) = some r := by rw [if_pos rfl] at H; exact H
  clear H
  have H := H1
  clear H1
  by_cases c6 : t539 = true
  ·
   subst c6
   have H1 : (some 0) = some r := by rw [if_pos rfl] at H; exact H
   clear H
   have H := H1
   clear H1
   obtain rfl := Option.some.inj H
   go_enter Tryd.func83, Tryd.ntmps83
   go_wp2_with (first | ((with_reducible refine gate_callee (f := 106) rfl ?_); refine ga_ (some 8) Tryd.func106 #[.int .i64 a0] ?_; (with_reducible refine (cmp_isNaN_int.calls a0 true _ A3.out).mono ?_); rintro e w' ⟨rfl, ⟨nd, rfl⟩⟩; refine ⟨_, rfl, ?_⟩) | ((with_reducible refine gate_callee (f := 106) rfl ?_); refine ga_ (some 10) Tryd.func106 #[.int .i64 a1] ?_; (with_reducible refine (cmp_isNaN_int.calls a1 true _ A4.out).mono ?_); rintro e w' ⟨rfl, ⟨nd, rfl⟩⟩; refine ⟨_, rfl, ?_⟩))
   go_ret
   exact ⟨by first | rfl | (simp; done) | (simp [*]; done), by repeat (first | exact Drawn0.refl _ | apply Drawn0.step)⟩
  ·
   replace c6 := Bool.eq_false_iff.mpr c6
   subst c6
   have H1 : (some (-1)) = some r := by rw [if_neg (show ¬ (false = true) by decide)] at H; exact H
   clear H
   have H := H1
   clear H1
   obtain rfl := Option.some.inj H
   go_enter Tryd.func83, Tryd.ntmps83
   go_wp2_with (first | ((with_reducible refine gate_callee (f := 106) rfl ?_); refine ga_ (some 8) Tryd.func106 #[.int .i64 a0] ?_; (with_reducible refine (cmp_isNaN_int.calls a0 true _ A3.out).mono ?_); rintro e w' ⟨rfl, ⟨nd, rfl⟩⟩; refine ⟨_, rfl, ?_⟩) | ((with_reducible refine gate_callee (f := 106) rfl ?_); refine ga_ (some 10) Tryd.func106 #[.int .i64 a1] ?_; (with_reducible refine (cmp_isNaN_int.calls a1 false _ A4.out).mono ?_); rintro e w' ⟨rfl, ⟨nd, rfl⟩⟩; refine ⟨_, rfl, ?_⟩))
   go_ret
   exact ⟨by first | rfl | (simp; done) | (simp [*]; done), by repeat (first | exact Drawn0.refl _ | apply Drawn0.step)⟩
 ·
  replace c5 := Bool.eq_false_iff.mpr c5
  subst c5
  have H1 : (if t539 = true then (some 1) else (if a0 < a1 then (some (-1)) else (if a0 > a1 then (some 1) else (some 0)))) = some r := by rw [if_neg (show ¬ (false = true) by decide)] at H; exact H
  clear H
  have H := H1
  clear H1
  by_cases c7 : t539 = true
  ·
   subst c7
   have H1 : (some 1) = some r := by rw [if_pos rfl] at H; exact H
   clear H
   have H := H1
   clear H1
   obtain rfl := Option.some.inj H
   go_enter Tryd.func83, Tryd.ntmps83
   go_wp2_with (first | ((with_reducible refine gate_callee (f := 106) rfl ?_); refine ga_ (some 8) Tryd.func106 #[.int .i64 a0] ?_; (with_reducible refine (cmp_isNaN_int.calls a0 false _ A3.out).mono ?_); rintro e w' ⟨rfl, ⟨nd, rfl⟩⟩; refine ⟨_, rfl, ?_⟩) | ((with_reducible refine gate_callee (f := 106) rfl ?_); refine ga_ (some 10) Tryd.func106 #[.int .i64 a1] ?_; (with_reducible refine (cmp_isNaN_int.calls a1 true _ A4.out).mono ?_); rintro e w' ⟨rfl, ⟨nd, rfl⟩⟩; refine ⟨_, rfl, ?_⟩))
   go_ret
   exact ⟨by first | rfl | (simp; done) | (simp [*]; done), by repeat (first | exact Drawn0.refl _ | apply Drawn0.step)⟩
  ·
   replace c7 := Bool.eq_false_iff.mpr c7
   subst c7
   have H1 : (if a0 < a1 then (some (-1)) else (if a0 > a1 then (some 1) else (some 0))) = some r := by rw [if_neg (show ¬ (false = true) by decide)] at H; exact H
   clear H
   have H := H1
   clear H1
   by_cases c8 : a0 < a1
   ·
    rw [if_pos c8] at H
    have c8b0 : decide (a0 < a1) = true := decide_eq_true c8
    clear c8
    obtain rfl := Option.some.inj H
    go_enter Tryd.func83, Tryd.ntmps83
    go_wp2_with (first | ((with_reducible refine gate_callee (f := 106) rfl ?_); refine ga_ (some 8) Tryd.func106 #[.int .i64 a0] ?_; (with_reducible refine (cmp_isNaN_int.calls a0 false _ A3.out).mono ?_); rintro e w' ⟨rfl, ⟨nd, rfl⟩⟩; refine ⟨_, rfl, ?_⟩) | ((with_reducible refine gate_callee (f := 106) rfl ?_); refine ga_ (some 10) Tryd.func106 #[.int .i64 a1] ?_; (with_reducible refine (cmp_isNaN_int.calls a1 false _ A4.out).mono ?_); rintro e w' ⟨rfl, ⟨nd, rfl⟩⟩; refine ⟨_, rfl, ?_⟩))
    go_ret
    exact ⟨by first | rfl | (simp; done) | (simp [*]; done), by repeat (first | exact Drawn0.refl _ | apply Drawn0.step)⟩
   ·
    rw [if_neg c8] at H
    have c8b0 : decide (a0 < a1) = false := decide_eq_false c8
    clear c8
    by_cases c9 : a0 > a1
    ·
     rw [if_pos c9] at H
     have c9b0 : decide (a1 < a0) = true := decide_eq_true c9
     clear c9
     obtain rfl := Option.some.inj H
     go_enter Tryd.func83, Tryd.ntmps83
     go_wp2_with (first | ((with_reducible refine gate_callee (f := 106) rfl ?_); refine ga_ (some 8) Tryd.func106 #[.int .i64 a0] ?_; (with_reducible refine (cmp_isNaN_int.calls a0 false _ A3.out).mono ?_); rintro e w' ⟨rfl, ⟨nd, rfl⟩⟩; refine ⟨_, rfl, ?_⟩) | ((with_reducible refine gate_callee (f := 106) rfl ?_); refine ga_ (some 10) Tryd.func106 #[.int .i64 a1] ?_; (with_reducible refine (cmp_isNaN_int.calls a1 false _ A4.out).mono ?_); rintro e w' ⟨rfl, ⟨nd, rfl⟩⟩; refine ⟨_, rfl, ?_⟩))
     go_ret
     exact ⟨by first | rfl | (simp; done) | (simp [*]; done), by repeat (first | exact Drawn0.refl _ | apply Drawn0.step)⟩
    ·
     rw [if_neg c9] at H
     have c9b0 : decide (a1 < a0) = false := decide_eq_false c9
     clear c9
     obtain rfl := Option.some.inj H
     go_enter Tryd.func83, Tryd.ntmps83
     go_wp2_with (first | ((with_reducible refine gate_callee (f := 106) rfl ?_); refine ga_ (some 8) Tryd.func106 #[.int .i64 a0] ?_; (with_reducible refine (cmp_isNaN_int.calls a0 false _ A3.out).mono ?_); rintro e w' ⟨rfl, ⟨nd, rfl⟩⟩; refine ⟨_, rfl, ?_⟩) | ((with_reducible refine gate_callee (f := 106) rfl ?_); refine ga_ (some 10) Tryd.func106 #[.int .i64 a1] ?_; (with_reducible refine (cmp_isNaN_int.calls a1 false _ A4.out).mono ?_); rintro e w' ⟨rfl, ⟨nd, rfl⟩⟩; refine ⟨_, rfl, ?_⟩))
     go_ret
     exact ⟨by first | rfl | (simp; done) | (simp [*]; done), by repeat (first | exact Drawn0.refl _ | apply Drawn0.step)⟩
def slices_Compare_int_int.l0 : Nat → List Int → List Int → List Int → Int → Int → Option (Int)
 | 0, _, _, _, _, _ => none
 | k + 1, x0, x1, x9, x10, x11 => if x11 < x10 then (if 0 ≤ x11 then (if x11 < (x9.length : Int) then (if x11 ≥ (x1.length : Int) then (some 1) else (if x11 < (x1.length : Int) then ((cmp_Compare_int.f (rd x9 x11) (rd x1 x11)).bind fun t542 => (if t542 = 0 then (slices_Compare_int_int.l0 k x0 x1 x9 x10 (wrap64 (x11 + 1))) else (some t542))) else (none))) else (none)) else (none)) else (if (x0.length : Int) < (x1.length : Int) then (some (-1)) else (some 0))
def slices_Compare_int_int.f (k : Nat) (l0 : List Int) (l1 : List Int) : Option (Int) := slices_Compare_int_int.l0 k l0 l1 l0 (l0.length : Int) 0
set_option maxHeartbeats 8000000 in
set_option maxRecDepth 100000 in
theorem slices_Compare_int_int.calls (k : Nat) (A0 : Option Addr) (c0 : Nat) (l0 : List Int) (A1 : Option Addr) (c1 : Nat) (l1 : List Int) (r : Int) (w : World) (hr0 : Kd.C (Kd.int .i64) w A0 l0.length l0) (hc0 : l0.length ≤ c0) (hr1 : Kd.C (Kd.int .i64) w A1 l1.length l1) (hc1 : l1.length ≤ c1) (h : slices_Compare_int_int.f k l0 l1 = some r) :
  Calls Tryd.prog 84 #[.slice A0 l0.length c0, .slice A1 l1.length c1] w fun e w' => e = .returned (.int .i64 r) ∧ Drawn0 w w' := by
 have HR0 := Aside0.mk hr0
 have HC0 := Aside0.mk hc0
 clear hr0 hc0
 have HR1 := Aside0.mk hr1
 have HC1 := Aside0.mk hc1
 clear hr1 hc1
 have H : (slices_Compare_int_int.l0 k l0 l1 l0 (l0.length : Int) 0) = some r := h
 clear h
 have H' := Aside0.mk H
 clear H
 go_enter Tryd.func84, Tryd.ntmps84
 go_wp2
 go_loopg [11] k (fun kq v11 w' => ∃ (x11_1 : Int), v11 = .int .i64 x11_1 ∧ Aside0 (slices_Compare_int_int.l0 kq l0 l1 l0 (l0.length : Int) x11_1 = some r) ∧ Aside0 (kq ≤ k) ∧ Drawn0 w w')
 case atStart => exact ⟨(0), (by first | rfl | (simp; done) | (simp [*]; done)), H', ⟨Nat.le_refl _⟩, by repeat (first | exact Drawn0.refl _ | apply Drawn0.step)⟩
 case round =>
  clear H'
  try clear c1
  try clear p2
  obtain ⟨x11_1, rfl, HA, HK1, ⟨m1, rfl⟩⟩ := hrel
  cases gk with
  | zero => exact absurd HA.out (by simp [slices_Compare_int_int.l0])
  | succ k1 =>
   have H := HA.out
   clear HA
   simp only [slices_Compare_int_int.l0] at H
   by_cases c3 : x11_1 < (l0.length : Int)
   ·
    rw [if_pos c3] at H
    have c3b0 : decide (x11_1 < (l0.length : Int)) = true := decide_eq_true c3
    clear c3
    by_cases c4 : 0 ≤ x11_1
    ·
     rw [if_pos c4] at H
     have c4b0 : decide (0 ≤ x11_1) = true := decide_eq_true c4
     clear c4
     by_cases c5 : x11_1 < (l0.length : Int)
     ·
      rw [if_pos c5] at H
      have c5b0 : decide (x11_1 < (l0.length : Int)) = true := decide_eq_true c5
      clear c5
      by_cases c6 : x11_1 ≥ (l1.length : Int)
      ·
       rw [if_pos c6] at H
       have c6b0 : decide ((l1.length : Int) ≤ x11_1) = true := decide_eq_true c6
       clear c6
       obtain rfl := Option.some.inj H
       have p540 : 0 ≤ (x11_1 : Int) := dt_
       have q540 : x11_1 < (l0.length : Int) := dt_
       obtain ⟨ad540, e540, hx540_0⟩ := Kd.at_int HR0.out x11_1 p540 q540
       cases e540
       replace p540 := eq_true p540
       replace q540 := eq_true q540
       go_wp2
       go_ret
       exact ⟨by first | rfl | (simp; done) | (simp [*]; done), by repeat (first | exact Drawn0.refl _ | apply Drawn0.step)⟩
      ·
       rw [if_neg c6] at H
       have c6b0 : decide ((l1.length : Int) ≤ x11_1) = false := decide_eq_false c6
       clear c6
       by_cases c7 : x11_1 < (l1.length : Int)
       ·
        rw [if_pos c7] at H
        have c7b0 : decide (x11_1 < (l1.length : Int)) = true := decide_eq_true c7; clear c7; replace H := Option.bind_eq_some_iff.mp H; obtain ⟨t542, A80, H⟩ := H; replace H : (if t542 = 0 then (slices_Compare_int_int.l0 k1 l0 l1 l0 (l0.length : Int) (wrap64 (x11_1 + 1))) else (some t542)) = some r := H; have A8 := Aside0.mk A80; clear A80
        by_cases c9 : t542 = 0
        ·
         rw [if_pos c9] at H
         have c9b0 : (t542 == 0) = true := beq_iff_eq.mpr c9; have c9b1 : (t542 != 0) = false := bne_eq_false_iff_eq.mpr c9; clear c9; have H' := Aside0.mk H; clear H; have p540 : 0 ≤ (x11_1 : Int) := dt_; have q540 : x11_1 < (l0.length : Int) := dt_; obtain ⟨ad540, e540, hx540_0⟩ := Kd.at_int HR0.out x11_1 p540 q540
         cases e540
         replace p540 := eq_true p540; replace q540 := eq_true q540; have p541 : 0 ≤ (x11_1 : Int) := dt_; have q541 : x11_1 < (l1.length : Int) := dt_; obtain ⟨ad541, e541, hx541_0⟩ := Kd.at_int HR1.out x11_1 p541 q541
         cases e541
         replace p541 := eq_true p541; replace q541 := eq_true q541
         go_wp2_with (first | ((with_reducible refine gate_callee (f := 83) rfl ?_); refine ga_ (some 26) Tryd.func83 #[.int .i64 (rd l0 x11_1), .int .i64 (rd l1 x11_1)] ?_; (with_reducible refine (cmp_Compare_int.calls (rd l0 x11_1) (rd l1 x11_1) t542 _ A8.out).mono ?_); rintro e w' ⟨rfl, ⟨nd, rfl⟩⟩; refine ⟨_, rfl, ?_⟩))
         go_roundg k1
         case measure => have := HK1.out; omega
         case rel => exact ⟨(wrap64 (x11_1 + 1)), (by first | rfl | (simp; done) | (simp [*]; done)), H', ⟨by have := HK1.out; omega⟩, by repeat (first | exact Drawn0.refl _ | apply Drawn0.step)⟩
        ·
         rw [if_neg c9] at H
         have c9b0 : (t542 == 0) = false := beq_eq_false_iff_ne.mpr c9; have c9b1 : (t542 != 0) = true := bne_iff_ne.mpr c9; obtain rfl := Option.some.inj H; have p540 : 0 ≤ (x11_1 : Int) := dt_; have q540 : x11_1 < (l0.length : Int) := dt_; obtain ⟨ad540, e540, hx540_0⟩ := Kd.at_int HR0.out x11_1 p540 q540
         cases e540
         replace p540 := eq_true p540; replace q540 := eq_true q540; have p541 : 0 ≤ (x11_1 : Int) := dt_; have q541 : x11_1 < (l1.length : Int) := dt_; obtain ⟨ad541, e541, hx541_0⟩ := Kd.at_int HR1.out x11_1 p541 q541
         cases e541
         replace p541 := eq_true p541; replace q541 := eq_true q541
         go_wp2_with (first | ((with_reducible refine gate_callee (f := 83) rfl ?_); refine ga_ (some 26) Tryd.func83 #[.int .i64 (rd l0 x11_1), .int .i64 (rd l1 x11_1)] ?_; (with_reducible refine (cmp_Compare_int.calls (rd l0 x11_1) (rd l1 x11_1) t542 _ A8.out).mono ?_); rintro e w' ⟨rfl, ⟨nd, rfl⟩⟩; refine ⟨_, rfl, ?_⟩))
         go_ret
         exact ⟨by first | rfl | (simp; done) | (simp [*]; done), by repeat (first | exact Drawn0.refl _ | apply Drawn0.step)⟩
       ·
        rw [if_neg c7] at H
        exact absurd H (by simp)
     ·
      rw [if_neg c5] at H
      exact absurd H (by simp)
    ·
     rw [if_neg c4] at H
     exact absurd H (by simp)
   ·
    rw [if_neg c3] at H
    have c3b0 : decide (x11_1 < (l0.length : Int)) = false := decide_eq_false c3
    clear c3
    by_cases c10 : (l0.length : Int) < (l1.length : Int)
    ·
     rw [if_pos c10] at H
     have c10b0 : decide ((l0.length : Int) < (l1.length : Int)) = true := decide_eq_true c10
     have c10b1 : decide (l0.length < l1.length) = true := decide_eq_true (Int.ofNat_lt.mp c10)
     clear c10
     obtain rfl := Option.some.inj H
     go_wp2
     go_ret
     exact ⟨by first | rfl | (simp; done) | (simp [*]; done), by repeat (first | exact Drawn0.refl _ | apply Drawn0.step)⟩
    ·
     rw [if_neg c10] at H
     have c10b0 : decide ((l0.length : Int) < (l1.length : Int)) = false := decide_eq_false c10
     have c10b1 : decide (l0.length < l1.length) = false := decide_eq_false (fun h => c10 (Int.ofNat_lt.mpr h))
     clear c10
     obtain rfl := Option.some.inj H
     go_wp2
     go_ret
     exact ⟨by first | rfl | (simp; done) | (simp [*]; done), by repeat (first | exact Drawn0.refl _ | apply Drawn0.step)⟩
end Go.Proofs.YtjkcfpmonpkhhaaDoor.Pr

