/-
What is proved: parts of the law FnExactWalkOn: what the functions that it reaches compute, and the plain law.
Conditions: those of each theorem.
-/
import Derived.Test.YthmjimboajmhmaaCFnExactWalkOn3
namespace Go.Proofs.Ythmjimboajmhmaa.Pr
open Go.RowKit Go.Proofs.YthmjimboajmhmaaW.PrintWords Go.Proofs.YthmjimboajmhmaaW.PrintLast Go.Proofs.YthmjimboajmhmaaW.PrintMore
attribute [local go_sem] max2_int min2_int max_two min_two max_three min_three max_four min_four   -- for this text's walks alone
set_option linter.unusedVariables false
set_option linter.unusedSimpArgs false
def impl_Exploration_clone.f (l0_0 : List (S37)) (l0_1 : List Bool) (l0_2 : List Bool) (a0_3 : Int) (a0_4 : Int) : Option ((List (S37)) × List Bool × List Bool × Int × Int) := (impl_Leg_87.f l0_0).bind fun t712 => ((slices_Clone_bool_bool.f l0_1).bind fun t715 => ((slices_Clone_bool_bool.f l0_2).bind fun t718 => (some (t712, t715, t718, a0_3, a0_4))))
def impl_Exploration_clone.T1 : Bool × List (List Nat × List Nat) := (true, [([], []), ([0], [0]), ([1], [1]), ([], []), ([3], [3]), ([4, 2], [4]), ([], []), ([6], [6]), ([7, 5], [7]), ([0, 1, 2, 3, 4, 6, 7], []), ([9, 2, 8, 0, 1, 2, 3, 4, 6, 7], [2, 9]), ([0, 1, 2, 3, 4, 5, 6, 7, 9, 10], []), ([11, 5, 10, 0, 1, 2, 3, 4, 5, 6, 7, 9, 10], [5, 11]), ([0, 1, 2, 3, 4, 5, 6, 7, 8, 9, 10, 11, 12], []), ([13, 8, 12, 0, 1, 2, 3, 4, 5, 6, 7, 8, 9, 10, 11, 12], [8, 13])])
def impl_Exploration_clone.B1 : List Nat := [0, 1, 3, 0, 8, 31, 0, 64, 255, 223, 1023, 2047, 4095, 8191, 16383]
theorem impl_Exploration_clone.tab1 : rtab .any (opsOf Try.f83 1) = impl_Exploration_clone.T1 := by kernel_rfl
theorem impl_Exploration_clone.bits1 : waitsOk impl_Exploration_clone.T1.2 impl_Exploration_clone.B1 = true := by kernel_rfl
abbrev impl_Exploration_clone.mk0 : Array Bool := #[fF,fF,fF,fF,fF,fF,fF,fF,fF,fF,fF,fF,fF,fF,fF]
abbrev impl_Exploration_clone.mk1 : Array Bool := #[tT,fF,fF,fF,fF,fF,fF,fF,fF,fF,fF,fF,fF,fF,fF]
abbrev impl_Exploration_clone.mk2 : Array Bool := #[tT,fF,fF,tT,fF,fF,fF,fF,fF,fF,fF,fF,fF,fF,fF]
abbrev impl_Exploration_clone.mk3 : Array Bool := #[tT,fF,fF,tT,fF,fF,tT,fF,fF,fF,fF,fF,fF,fF,fF]
abbrev impl_Exploration_clone.mk4 : Array Bool := #[tT,tT,fF,tT,fF,fF,tT,fF,fF,fF,fF,fF,fF,fF,fF]
abbrev impl_Exploration_clone.mk5 : Array Bool := #[tT,tT,fF,tT,tT,fF,tT,fF,fF,fF,fF,fF,fF,fF,fF]
abbrev impl_Exploration_clone.mk6 : Array Bool := #[tT,tT,fF,tT,tT,fF,tT,tT,fF,fF,fF,fF,fF,fF,fF]
abbrev impl_Exploration_clone.mk7 : Array Bool := #[tT,tT,tT,tT,tT,fF,tT,tT,fF,fF,fF,fF,fF,fF,fF]
abbrev impl_Exploration_clone.mk8 : Array Bool := #[tT,tT,tT,tT,tT,fF,tT,tT,fF,tT,fF,fF,fF,fF,fF]
abbrev impl_Exploration_clone.mk9 : Array Bool := #[tT,tT,tT,tT,tT,tT,tT,tT,fF,tT,fF,fF,fF,fF,fF]
abbrev impl_Exploration_clone.mk10 : Array Bool := #[tT,tT,tT,tT,tT,tT,tT,tT,tT,tT,fF,fF,fF,fF,fF]
abbrev impl_Exploration_clone.mk11 : Array Bool := #[tT,tT,tT,tT,tT,tT,tT,tT,tT,tT,tT,fF,fF,fF,fF]
abbrev impl_Exploration_clone.mk12 : Array Bool := #[tT,tT,tT,tT,tT,tT,tT,tT,tT,tT,tT,tT,fF,fF,fF]
abbrev impl_Exploration_clone.mk13 : Array Bool := #[tT,tT,tT,tT,tT,tT,tT,tT,tT,tT,tT,tT,tT,fF,fF]
abbrev impl_Exploration_clone.mk14 : Array Bool := #[tT,tT,tT,tT,tT,tT,tT,tT,tT,tT,tT,tT,tT,tT,fF]
abbrev impl_Exploration_clone.mk15 : Array Bool := #[tT,tT,tT,tT,tT,tT,tT,tT,tT,tT,tT,tT,tT,tT,tT]
set_option maxHeartbeats 8000000 in
set_option maxRecDepth 100000 in
theorem impl_Exploration_clone.calls (A0_0 : Option Addr) (c0_0 : Nat) (l0_0 : List (S37)) (A0_1 : Option Addr) (c0_1 : Nat) (l0_1 : List Bool) (A0_2 : Option Addr) (c0_2 : Nat) (l0_2 : List Bool) (a0_3 : Int) (a0_4 : Int) (r1 : List (S37)) (r2 : List Bool) (r3 : List Bool) (r4 : Int) (r5 : Int) (w : World) (hr0_0 : Kd.C k37 w A0_0 l0_0.length l0_0) (hc0_0 : l0_0.length ≤ c0_0) (hr0_1 : Kd.C Kd.bool w A0_1 l0_1.length l0_1) (hc0_1 : l0_1.length ≤ c0_1) (hr0_2 : Kd.C Kd.bool w A0_2 l0_2.length l0_2) (hc0_2 : l0_2.length ≤ c0_2) (h : impl_Exploration_clone.f l0_0 l0_1 l0_2 a0_3 a0_4 = some (r1, r2, r3, r4, r5)) :
  Calls Try.prog 83 #[.agg #[.slice A0_0 l0_0.length c0_0, .slice A0_1 l0_1.length c0_1, .slice A0_2 l0_2.length c0_2, .int .i64 a0_3, .int .i64 a0_4]] w fun e w' => ∃ v0_ v1_ v2_ : Value, e = .returned (.agg #[v0_, v1_, v2_, .int .i64 r4, .int .i64 r5]) ∧ Kd.R k37 37 w' w.heap.size (fun _ => True) v0_ r1 ∧ Kd.R Kd.bool 4 w' w.heap.size (fun k_ => some k_ ≠ (v2_ : Value).ownBlock) v1_ r2 ∧ Kd.R Kd.bool 4 w' w.heap.size (fun k_ => some k_ ≠ (v1_ : Value).ownBlock) v2_ r3 ∧ Below w.heap.size w w' := by
 have hu30 := Try.underlying30
 have HR0_0 := Aside0.mk hr0_0
 have HC0_0 := Aside0.mk hc0_0
 clear hr0_0 hc0_0
 have HR0_1 := Aside0.mk hr0_1
 have HC0_1 := Aside0.mk hc0_1
 clear hr0_1 hc0_1
 have HR0_2 := Aside0.mk hr0_2
 have HC0_2 := Aside0.mk hc0_2
 clear hr0_2 hc0_2
 have HB := Aside0.mk (Below.refl w.heap.size w)
 have H : ((impl_Leg_87.f l0_0).bind fun t712 => ((slices_Clone_bool_bool.f l0_1).bind fun t715 => ((slices_Clone_bool_bool.f l0_2).bind fun t718 => (some (t712, t715, t718, a0_3, a0_4))))) = some (r1, r2, r3, r4, r5) := h
 clear h
 replace H := Option.bind_eq_some_iff.mp H
 obtain ⟨t712, A20, H⟩ := H
 replace H : ((slices_Clone_bool_bool.f l0_1).bind fun t715 => ((slices_Clone_bool_bool.f l0_2).bind fun t718 => (some (t712, t715, t718, a0_3, a0_4)))) = some (r1, r2, r3, r4, r5) := H
 have A2 := Aside0.mk A20
 clear A20
 replace H := Option.bind_eq_some_iff.mp H
 obtain ⟨t715, A30, H⟩ := H
 replace H : ((slices_Clone_bool_bool.f l0_2).bind fun t718 => (some (t712, t715, t718, a0_3, a0_4))) = some (r1, r2, r3, r4, r5) := H
 have A3 := Aside0.mk A30
 clear A30
 replace H := Option.bind_eq_some_iff.mp H
 obtain ⟨t718, A40, H⟩ := H
 replace H : (some (t712, t715, t718, a0_3, a0_4)) = some (r1, r2, r3, r4, r5) := H
 have A4 := Aside0.mk A40
 clear A40
 simp only [Option.some.injEq, Prod.mk.injEq] at H
 obtain ⟨rfl, rfl, rfl, rfl, rfl⟩ := H
 go_enter Try.func83, Try.ntmps83
 try go_wp2_with (first | ((with_reducible refine gate_dst (N := 1) rfl ?_); refine box_event ?hg (N := 1) ?hd (cs := #[.slice A0_0 l0_0.length c0_0, .slice A0_1 l0_1.length c0_1, .slice A0_2 l0_2.length c0_2, .int .i64 a0_3, .int .i64 a0_4]) (t := 30) ?hr ?_; (case hd => rfl); (case hg => rfl); (case hr => first | (go_simp; done) | (go_simp; rfl)); intro gb710 hg w5 hbox hb; have BK710 := Aside0.mk (hbox); have GW710 := Aside0.mk ((bz_ hg (lb0_ HB.out))); have GE710 := Aside0.mk ((bz_ hg (lb0_ HB.out))); replace HB := Aside0.mk (below_step (lb0_ HB.out) hb); clear hb hbox hg) | ((with_reducible refine gate_dst (N := 2) rfl ?_); refine box_event ?hg (N := 2) ?hd (cs := #[.slice none 0 0, .slice none 0 0, .slice none 0 0, .int .i64 0, .int .i64 0]) (t := 30) ?hr ?_; (case hd => rfl); (case hg => rfl); (case hr => first | (go_simp; done) | (go_simp; rfl)); intro gb711 hg w6 hbox hb; have BK711 := Aside0.mk (hbox); have GW711 := Aside0.mk ((bz_ hg (lb1_ HB.out GE710.out))); have GE711 := Aside0.mk ((bz_ hg (lb1_ HB.out GE710.out))); replace HB := Aside0.mk (below_step (lb1_ HB.out GE710.out) hb); have NB710_711 := Aside0.mk (nl_ hg BK710.out); have NB711_710 := Aside0.mk (ng_ hg BK710.out); replace BK710 := Aside0.mk (bb_ (bk_ BK710.out) hb); clear hb hbox hg))
 replace BK710 := Aside0.mk (blk_drew BK710.out)
 replace BK711 := Aside0.mk (blk_drew BK711.out)
 replace HB := Aside0.mk (below_drew1 HB.out)
 refine start_ (n := 15) (S := fun w' => w'.cell? ⟨gb710, 0, none⟩ = some (.slice A0_0 l0_0.length c0_0) ∧ w'.cell? ⟨gb710, 1, none⟩ = some (.slice A0_1 l0_1.length c0_1) ∧ w'.cell? ⟨gb710, 2, none⟩ = some (.slice A0_2 l0_2.length c0_2) ∧ w'.cell? ⟨gb710, 3, none⟩ = some (.int .i64 a0_3) ∧ w'.cell? ⟨gb710, 4, none⟩ = some (.int .i64 a0_4)) (ds := [10, 12, 14]) impl_Exploration_clone.mk0 (by kernel_rfl) rfl rfl ⟨(blk_cell BK710.out 0).trans rfl, (blk_cell BK710.out 1).trans rfl, (blk_cell BK710.out 2).trans rfl, (blk_cell BK710.out 3).trans rfl, (blk_cell BK710.out 4).trans rfl⟩ (fun hHeld => ?_); refine with_tabW impl_Exploration_clone.tab1 impl_Exploration_clone.bits1 (fun HT_ HW_ => ?_)
 generalize w6.drew = w7 at BK710 BK711 HB hHeld ⊢
 refine pz_ HT_ 0 (some 3) impl_Exploration_clone.mk1 ?_
 refine pz_ HT_ 3 (some 6) impl_Exploration_clone.mk2 ?_
 refine pz_ HT_ 6 (some 9) impl_Exploration_clone.mk3 ?_
 refine tk_ HT_ HW_ hHeld 1 (some 4) impl_Exploration_clone.mk4 ?_
 refine tk_ HT_ HW_ hHeld 4 (some 7) impl_Exploration_clone.mk5 ?_
 refine tk_ HT_ HW_ hHeld 7 (some 10) impl_Exploration_clone.mk6 ?_
 refine one_ (i := 2) (N := some 5) impl_Exploration_clone.mk7 rfl rfl (one_of HT_.out (by kernel_rfl)) (by decide) (fun K hK => ?_)
 refine gs_ Try.func87 #[.slice A0_0 l0_0.length c0_0] ?_
 with_reducible refine (impl_Leg_87.calls _ _ l0_0 t712 _ ?side1 ?side2 A2.out).mono ?_
 (case side1 => exact kc_ (Kd.C_below HR0_0.out HB.out))
 (case side2 => exact HC0_0.out)
 rintro e w8 ⟨v713, rfl, ho0, hb⟩
 refine ⟨_, rfl, ?_⟩
 have HO714 := Aside0.mk (Kd.R_lower ho0 (below_size (lb2_ HB.out GE710.out GE711.out)))
 replace BK710 := Aside0.mk (bb_ (bk_ BK710.out) hb)
 replace BK711 := Aside0.mk (bb_ (bk_ BK711.out) hb)
 replace HB := Aside0.mk (below_step (lb2_ HB.out GE710.out GE711.out) hb)
 (try clear hb)
 (try clear hb2)
 (try clear hk)
 (try clear hi)
 (try clear ho0)
 refine hK.out _ _ ⟨(blk_cell BK710.out 0).trans rfl, (blk_cell BK710.out 1).trans rfl, (blk_cell BK710.out 2).trans rfl, (blk_cell BK710.out 3).trans rfl, (blk_cell BK710.out 4).trans rfl⟩ (fun hHeld => ?_)
 clear hK K
 refine na_ ?_
 refine pz_ HT_ 9 (some 12) impl_Exploration_clone.mk8 ?_
 refine one_ (i := 5) (N := some 8) impl_Exploration_clone.mk9 rfl rfl (one_of HT_.out (by kernel_rfl)) (by decide) (fun K hK => ?_)
 refine gs_ Try.func109 #[.slice A0_1 l0_1.length c0_1] ?_
 with_reducible refine (slices_Clone_bool_bool.calls _ _ l0_1 t715 _ ?side1 ?side2 A3.out).mono ?_
 (case side1 => exact kc_ (Kd.C_below HR0_1.out HB.out))
 (case side2 => exact HC0_1.out)
 rintro e w9 ⟨v716, rfl, ho0, hb⟩
 refine ⟨_, rfl, ?_⟩
 replace HO714 := Aside0.mk (Kd.R_below (kr_ HO714.out) hb)
 have HO717 := Aside0.mk (Kd.R_lower ho0 (below_size (lb2_ HB.out GE710.out GE711.out)))
 replace BK710 := Aside0.mk (bb_ (bk_ BK710.out) hb)
 replace BK711 := Aside0.mk (bb_ (bk_ BK711.out) hb)
 replace HB := Aside0.mk (below_step (lb2_ HB.out GE710.out GE711.out) hb)
 (try clear hb)
 (try clear hb2)
 (try clear hk)
 (try clear hi)
 (try clear ho0)
 refine hK.out _ _ ⟨(blk_cell BK710.out 0).trans rfl, (blk_cell BK710.out 1).trans rfl, (blk_cell BK710.out 2).trans rfl, (blk_cell BK710.out 3).trans rfl, (blk_cell BK710.out 4).trans rfl⟩ (fun hHeld => ?_)
 clear hK K
 refine na_ ?_
 refine one_ (i := 8) (N := some 11) impl_Exploration_clone.mk10 rfl rfl (one_of HT_.out (by kernel_rfl)) (by decide) (fun K hK => ?_)
 refine gs_ Try.func109 #[.slice A0_2 l0_2.length c0_2] ?_
 with_reducible refine (slices_Clone_bool_bool.calls _ _ l0_2 t718 _ ?side1 ?side2 A4.out).mono ?_
 (case side1 => exact kc_ (Kd.C_below HR0_2.out HB.out))
 (case side2 => exact HC0_2.out)
 rintro e w10 ⟨v719, rfl, ho0, hb⟩
 refine ⟨_, rfl, ?_⟩
 replace HO714 := Aside0.mk (Kd.R_below (kr_ HO714.out) hb)
 have HO720 := Aside0.mk (Kd.R_lower (Kd.R_new' ho0 (Kd.R_lt (kr_ HO717.out))) (below_size (lb2_ HB.out GE710.out GE711.out)))
 replace HO717 := Aside0.mk (Kd.R_elder' (kr_ HO717.out) (Kd.R_base ho0) hb)
 replace BK710 := Aside0.mk (bb_ (bk_ BK710.out) hb)
 replace BK711 := Aside0.mk (bb_ (bk_ BK711.out) hb)
 replace HB := Aside0.mk (below_step (lb2_ HB.out GE710.out GE711.out) hb)
 (try clear hb)
 (try clear hb2)
 (try clear hk)
 (try clear hi)
 (try clear ho0)
 obtain ⟨Ao11, co11, eo11⟩ := Kd.R_slice HO714.out
 (first | subst eo11 | (injection eo11 with f1_ f2_ f3_; have f4_ := f1_.symm; have f5_ := f3_.symm; clear f1_ f2_ f3_; subst f4_; subst f5_))
 obtain ⟨Ao13, co13, eo13⟩ := Kd.R_slice HO717.out
 (first | subst eo13 | (injection eo13 with f1_ f2_ f3_; have f4_ := f1_.symm; have f5_ := f3_.symm; clear f1_ f2_ f3_; subst f4_; subst f5_))
 obtain ⟨Ao15, co15, eo15⟩ := Kd.R_slice HO720.out
 (first | subst eo15 | (injection eo15 with f1_ f2_ f3_; have f4_ := f1_.symm; have f5_ := f3_.symm; clear f1_ f2_ f3_; subst f4_; subst f5_))
 refine hK.out _ _ ⟨(blk_cell BK710.out 0).trans rfl, (blk_cell BK710.out 1).trans rfl, (blk_cell BK710.out 2).trans rfl, (blk_cell BK710.out 3).trans rfl, (blk_cell BK710.out 4).trans rfl⟩ (fun hHeld => ?_)
 clear hK K
 refine na_ ?_
 refine last_ (i := 10) (N := none) impl_Exploration_clone.mk11 rfl rfl (one_of HT_.out (by kernel_rfl)) (by decide) (fun K hK => ?_)
 have hs12 : w10.cell? ⟨gb710, 0, none⟩ = some (.slice A0_0 l0_0.length c0_0) := (blk_cell BK710.out 0).trans rfl
 have hfs12 := blk_frozen BK710.out 0
 have hns12_1 := NB711_710.out
 have hms12_1 := NB710_711.out
 refine skip_ (w1 := ?_) (by rfl) rfl ?_ ?_
 rotate_left
 ·
  go_simp
  rfl
 refine hK.out _ _ ?_
 clear hK K
 refine pz_ HT_ 11 (some 13) impl_Exploration_clone.mk12 ?_
 refine last_ (i := 12) (N := none) impl_Exploration_clone.mk13 rfl rfl (one_of HT_.out (by kernel_rfl)) (by decide) (fun K hK => ?_)
 have hs14 : w10.cell? ⟨gb710, 1, none⟩ = some (.slice A0_1 l0_1.length c0_1) := (blk_cell BK710.out 1).trans rfl
 have hfs14 := blk_frozen BK710.out 1
 have hns14_1 := NB711_710.out
 have hms14_1 := NB710_711.out
 refine skip_ (w1 := ?_) (by rfl) rfl ?_ ?_
 rotate_left
 ·
  go_simp
  rfl
 refine hK.out _ _ ?_
 clear hK K
 refine pz_ HT_ 13 (some 14) impl_Exploration_clone.mk14 ?_
 refine last_ (i := 14) (N := none) impl_Exploration_clone.mk15 rfl rfl (one_of HT_.out (by kernel_rfl)) (by decide) (fun K hK => ?_)
 have hs16 : w10.cell? ⟨gb710, 2, none⟩ = some (.slice A0_2 l0_2.length c0_2) := (blk_cell BK710.out 2).trans rfl
 have hfs16 := blk_frozen BK710.out 2
 have hns16_1 := NB711_710.out
 have hms16_1 := NB710_711.out
 refine skip_ (w1 := ?_) (by rfl) rfl ?_ ?_
 rotate_left
 ·
  go_simp
  rfl
 refine hK.out _ _ ?_
 clear hK K
 refine done_ (done_of HT_.out (by kernel_rfl)) ?_
 have hnb17 := NB710_711.out
 have hnc17 := NB711_710.out
 obtain ⟨hcz18_0, hcz18_1, hcz18_2, hcz18_3, hcz18_4⟩ := cz5_ BK710.out
 obtain ⟨hfz18_0, hfz18_1, hfz18_2, hfz18_3, hfz18_4⟩ := fz5_ BK710.out
 obtain ⟨hcz19_0, hcz19_1, hcz19_2, hcz19_3, hcz19_4⟩ := cz5_ BK711.out
 obtain ⟨hfz19_0, hfz19_1, hfz19_2, hfz19_3, hfz19_4⟩ := fz5_ BK711.out
 try go_wp2
 refine bodyPost_ret (results_cell_row rfl _ _ gb711 30 #[.slice Ao11 t712.length co11, .slice Ao13 t715.length co13, .slice Ao15 t718.length co15, .int .i64 a0_3, .int .i64 a0_4] (0, 0) _ rfl (by (with_reducible repeat (first | refine blk_drewN ?_ _ | refine blk_drew ?_ | refine blk_alloc ?_ _)); refine blk_put (cs := #[.slice Ao11 t712.length co11, .slice Ao13 t715.length co13, .slice Ao15 t718.length co15, .int .i64 a0_3, .int .i64 0]) ?_ 4 _ rfl; (with_reducible repeat (first | refine blk_drewN ?_ _ | refine blk_drew ?_ | refine blk_alloc ?_ _)); refine blk_put (cs := #[.slice Ao11 t712.length co11, .slice Ao13 t715.length co13, .slice Ao15 t718.length co15, .int .i64 0, .int .i64 0]) ?_ 3 _ rfl; (with_reducible repeat (first | refine blk_drewN ?_ _ | refine blk_drew ?_ | refine blk_alloc ?_ _)); refine blk_put (cs := #[.slice Ao11 t712.length co11, .slice Ao13 t715.length co13, .slice none 0 0, .int .i64 0, .int .i64 0]) ?_ 2 _ rfl; (with_reducible repeat (first | refine blk_drewN ?_ _ | refine blk_drew ?_ | refine blk_alloc ?_ _)); refine blk_put (cs := #[.slice Ao11 t712.length co11, .slice none 0 0, .slice none 0 0, .int .i64 0, .int .i64 0]) ?_ 1 _ rfl; (with_reducible repeat (first | refine blk_drewN ?_ _ | refine blk_drew ?_ | refine blk_alloc ?_ _)); refine blk_put (cs := #[.slice none 0 0, .slice none 0 0, .slice none 0 0, .int .i64 0, .int .i64 0]) ?_ 0 _ rfl; (with_reducible repeat (first | refine blk_drewN ?_ _ | refine blk_drew ?_ | refine blk_alloc ?_ _)); refine blk_far ?_ NB711_710.out _; (with_reducible repeat (first | refine blk_drewN ?_ _ | refine blk_drew ?_ | refine blk_alloc ?_ _)); refine blk_far ?_ NB711_710.out _; (with_reducible repeat (first | refine blk_drewN ?_ _ | refine blk_drew ?_ | refine blk_alloc ?_ _)); refine blk_far ?_ NB711_710.out _; (with_reducible repeat (first | refine blk_drewN ?_ _ | refine blk_drew ?_ | refine blk_alloc ?_ _)); exact BK711.out) Try.underlying30 rfl (by kernel_rfl)) rfl ?_
 exact ⟨_, _, _, rr_, by (with_reducible repeat (first | apply Kd.R_alloc | apply Kd.R_drewN | apply Kd.R_drew)); exact Kd.R_mono (Kd.R_far (p := ⟨gb711, 4, none⟩) (Kd.R_far (p := ⟨gb711, 3, none⟩) (Kd.R_far (p := ⟨gb711, 2, none⟩) (Kd.R_far (p := ⟨gb711, 1, none⟩) (Kd.R_far (p := ⟨gb711, 0, none⟩) (Kd.R_far (p := ⟨gb710, 2, none⟩) (Kd.R_far (p := ⟨gb710, 1, none⟩) (Kd.R_far (p := ⟨gb710, 0, none⟩) (Kd.R_types (Kd.R_types HO714.out BK710.out (by decide)) BK711.out (by decide)) (fun _ hk => hk.1.2) (.slice Ao11 t712.length co11)) (fun _ hk => hk.1.2) (.slice Ao13 t715.length co13)) (fun _ hk => hk.1.2) (.slice Ao15 t718.length co15)) (fun _ hk => hk.2) (.slice Ao11 t712.length co11)) (fun _ hk => hk.2) (.slice Ao13 t715.length co13)) (fun _ hk => hk.2) (.slice Ao15 t718.length co15)) (fun _ hk => hk.2) (.int .i64 a0_3)) (fun _ hk => hk.2) (.int .i64 a0_4)) (fun _ hk => trivial), by (with_reducible repeat (first | apply Kd.R_alloc | apply Kd.R_drewN | apply Kd.R_drew)); exact Kd.R_mono (Kd.R_far (p := ⟨gb711, 4, none⟩) (Kd.R_far (p := ⟨gb711, 3, none⟩) (Kd.R_far (p := ⟨gb711, 2, none⟩) (Kd.R_far (p := ⟨gb711, 1, none⟩) (Kd.R_far (p := ⟨gb711, 0, none⟩) (Kd.R_far (p := ⟨gb710, 2, none⟩) (Kd.R_far (p := ⟨gb710, 1, none⟩) (Kd.R_far (p := ⟨gb710, 0, none⟩) (Kd.R_types (Kd.R_types HO717.out BK710.out (by decide)) BK711.out (by decide)) (fun _ hk => hk.1.2) (.slice Ao11 t712.length co11)) (fun _ hk => hk.1.2) (.slice Ao13 t715.length co13)) (fun _ hk => hk.1.2) (.slice Ao15 t718.length co15)) (fun _ hk => hk.2) (.slice Ao11 t712.length co11)) (fun _ hk => hk.2) (.slice Ao13 t715.length co13)) (fun _ hk => hk.2) (.slice Ao15 t718.length co15)) (fun _ hk => hk.2) (.int .i64 a0_3)) (fun _ hk => hk.2) (.int .i64 a0_4)) (fun _ hk => hk.1.1.2), by (with_reducible repeat (first | apply Kd.R_alloc | apply Kd.R_drewN | apply Kd.R_drew)); exact Kd.R_mono (Kd.R_far (p := ⟨gb711, 4, none⟩) (Kd.R_far (p := ⟨gb711, 3, none⟩) (Kd.R_far (p := ⟨gb711, 2, none⟩) (Kd.R_far (p := ⟨gb711, 1, none⟩) (Kd.R_far (p := ⟨gb711, 0, none⟩) (Kd.R_far (p := ⟨gb710, 2, none⟩) (Kd.R_far (p := ⟨gb710, 1, none⟩) (Kd.R_far (p := ⟨gb710, 0, none⟩) (Kd.R_types (Kd.R_types HO720.out BK710.out (by decide)) BK711.out (by decide)) (fun _ hk => hk.1.2) (.slice Ao11 t712.length co11)) (fun _ hk => hk.1.2) (.slice Ao13 t715.length co13)) (fun _ hk => hk.1.2) (.slice Ao15 t718.length co15)) (fun _ hk => hk.2) (.slice Ao11 t712.length co11)) (fun _ hk => hk.2) (.slice Ao13 t715.length co13)) (fun _ hk => hk.2) (.slice Ao15 t718.length co15)) (fun _ hk => hk.2) (.int .i64 a0_3)) (fun _ hk => hk.2) (.int .i64 a0_4)) (fun _ hk => hk.1.1.2), lb2_ HB.out GE710.out GE711.out⟩
set_option maxHeartbeats 8000000 in
set_option maxRecDepth 100000 in
theorem goAlong_calls (g : Nat) (vL vV vD : Value) (L : List S37) (V D : List Bool) (p t a b tp c s m : Int) (w0 w : World) (hS : ExS w w0.heap.size g vL vV vD L V D p t) (hB : Below w0.heap.size w0 w) (h0 : 0 ≤ wrap64 (wrap64 (a + b) - p)) (h1 : wrap64 (wrap64 (a + b) - p) < (V.length : Int)) :
  Calls Try.prog 119 #[.pointer (some ⟨g, 0, none⟩), .agg #[.int .i64 a, .int .i64 b, .int .i64 tp, .int .i64 c, .int .i64 s], .int .i64 m] w fun e w' => e = .returned (.tuple #[]) ∧ ExS w' w0.heap.size g vL vV vD L (V.set (wrap64 (wrap64 (a + b) - p)).toNat true) D (wrap64 (wrap64 (a + b) - p)) (wrap64 (t - wrap64 (m * tp))) ∧ Below w0.heap.size w0 w' := by
 have hgw : g < w.heap.size := blk_lt hS.blk
 obtain ⟨gv, cap, rfl, hgv, hcap, _⟩ := own_block_ hS.rV (by omega)
 have hx0 := blk_new w (.cells #[.int .i64 a, .int .i64 b, .int .i64 tp, .int .i64 c, .int .i64 s] 37 (0, 0))
 have hS1 := hS.below (below_alloc (Below.refl _ w) (.cells #[.int .i64 a, .int .i64 b, .int .i64 tp, .int .i64 c, .int .i64 s] 37 (0, 0)))
 have hB1 := below_alloc hB (.cells #[.int .i64 a, .int .i64 b, .int .i64 tp, .int .i64 c, .int .i64 s] 37 (0, 0))
 have HX := Aside0.mk hx0
 have HS := Aside0.mk hS1
 have HB := Aside0.mk hB1
 have hne : w.heap.size ≠ g := by omega
 have hgv' : Aside0 (gv < w.heap.size) := ⟨((Kd.R_bound hS.rV).1 gv rfl).2.2.1⟩
 clear hS hx0 hS1 hB1 hB
 go_enter Try.func119, Try.ntmps119
 go_wp2_with fail
 have hW : Aside0 ((w.alloc (.cells #[.int .i64 a, .int .i64 b, .int .i64 tp, .int .i64 c, .int .i64 s] 37)).heap.size = w.heap.size + 1) := ⟨heap_size_ _ _⟩
 generalize w.alloc (.cells #[.int .i64 a, .int .i64 b, .int .i64 tp, .int .i64 c, .int .i64 s] 37) = W at HX HS HB hW ⊢
 have x0 : W.cell? ⟨w.heap.size, 0, none⟩ = some (.int .i64 a) := (blk_cell HX.out 0).trans rfl
 have x1 : W.cell? ⟨w.heap.size, 1, none⟩ = some (.int .i64 b) := (blk_cell HX.out 1).trans rfl
 have g3 : W.cell? ⟨g, 3, none⟩ = some (.int .i64 p) := (blk_cell HS.out.blk 3).trans rfl
 have z3 := blk_frozen HS.out.blk 3
 go_still_tail 13, (by kernel_rfl)
 go_wp2_with fail
 have n1 := Aside0.mk (blk_drew (blk_far (p := ⟨g, 3, none⟩) HX.out hne (.int .i64 (wrap64 (wrap64 (a + b) - p)))))
 have n2 := Aside0.mk ((HS.out.put3 (wrap64 (wrap64 (a + b) - p))).below (below_drew (Below.refl _ _)))
 have n3 := Aside0.mk (below_drew (below_set (j := 3) (v := .int .i64 (wrap64 (wrap64 (a + b) - p))) HB.out HS.out.gb))
 clear HX HS HB hW x0 x1 g3 z3
 have HX := n1
 have HS := n2
 have HB := n3
 clear n1 n2 n3
 generalize (W.setCell ⟨g, 3, none⟩ (.int .i64 (wrap64 (wrap64 (a + b) - p)))).drew = W2 at HX HS HB ⊢
 clear W
 have hpw : IntKind.i64.wrap (IntKind.i64.wrap (a + b) - p) = wrap64 (wrap64 (a + b) - p) := by rw [i64_w, i64_w]
 generalize hq : wrap64 (wrap64 (a + b) - p) = q at h0 h1 HS hpw ⊢
 have g1 : W2.cell? ⟨g, 1, none⟩ = some (.slice (some ⟨gv, 0, none⟩) V.length cap) := (blk_cell HS.out.blk 1).trans rfl
 have g3 : W2.cell? ⟨g, 3, none⟩ = some (.int .i64 q) := (blk_cell HS.out.blk 3).trans rfl
 obtain ⟨yv, zv⟩ := Kd.R_celln false HS.out.rV q h0 h1
 go_still_tail 9, (by kernel_rfl)
 go_wp2_with fail
 have hgvg : gv ≠ w.heap.size := by have := hgv'.out; omega
 have n1 := Aside0.mk (blk_drew (blk_far (p := ⟨gv, q.toNat, none⟩) HX.out hgvg.symm (.bool true)))
 have n2 := Aside0.mk ((HS.out.putV q true).below (below_drew (Below.refl _ _)))
 have n3 := Aside0.mk (below_drew (below_set (j := q.toNat) (v := .bool true) HB.out hgv))
 clear HX HS HB g1 g3 yv zv
 have HX := n1
 have HS := n2
 have HB := n3
 clear n1 n2 n3
 generalize (W2.setCell ⟨gv, q.toNat, none⟩ (.bool true)).drew = W3 at HX HS HB ⊢
 clear W2
 have x2 : W3.cell? ⟨w.heap.size, 2, none⟩ = some (.int .i64 tp) := (blk_cell HX.out 2).trans rfl
 have g4 : W3.cell? ⟨g, 4, none⟩ = some (.int .i64 t) := (blk_cell HS.out.blk 4).trans rfl
 have z4 := blk_frozen HS.out.blk 4
 go_still_tail 11, (by kernel_rfl)
 go_wp2_with fail

 go_end0
 rw [hq]
 exact ⟨rfl, (HS.out.put4 (wrap64 (t - wrap64 (m * tp)))).below (below_drew (Below.refl _ _)), below_drew (below_set (j := 4) (v := .int .i64 (wrap64 (t - wrap64 (m * tp)))) HB.out HS.out.gb)⟩
def walk_f (L : List S37) (V D : List Bool) (p t k i a b tp c s : Int) : Option (List S37 × List Bool × List Bool × Int × Int × Bool) :=
 if (k ≠ 2 ∧ ¬ (a = 0 ∧ b = 0 ∧ tp = 0 ∧ c = 0 ∧ s = 0)) ∨ ((k = 2 ∨ k = 3) ∧ i ≠ 0) then some (L, V, D, p, t, false)
 else if k = 1 then
  (if 0 ≤ i ∧ i ≤ wrap64 ((L.length : Int) - 1) then
   (if (rd_T37 L i).f0 ≠ p ∧ (rd_T37 L i).f1 ≠ p then some (L, V, D, p, t, false)
   else if 0 ≤ wrap64 (wrap64 ((rd_T37 L i).f0 + (rd_T37 L i).f1) - p) ∧ wrap64 (wrap64 ((rd_T37 L i).f0 + (rd_T37 L i).f1) - p) < (V.length : Int) then
    some (L, V.set (wrap64 (wrap64 ((rd_T37 L i).f0 + (rd_T37 L i).f1) - p)).toNat true, D, wrap64 (wrap64 ((rd_T37 L i).f0 + (rd_T37 L i).f1) - p), wrap64 (t - wrap64 (1 * (rd_T37 L i).f2)), true)
   else none)
  else some (L, V, D, p, t, false))
 else if k = 2 then
  (impl_IsLeg.f a b tp c s).bind fun ok => if ok = true ∧ a = p then
   (if L.length < 1000000 ∧ 0 ≤ wrap64 (wrap64 (a + b) - p) ∧ wrap64 (wrap64 (a + b) - p) < (V.length : Int) then
    some (L ++ [⟨a, b, tp, c, s⟩], V.set (wrap64 (wrap64 (a + b) - p)).toNat true, D, wrap64 (wrap64 (a + b) - p), wrap64 (t - wrap64 (3 * tp)), true)
   else none)
  else some (L, V, D, p, t, false)
 else if k = 3 then
  (if 0 ≤ p ∧ p < (D.length : Int) then (if rdOf false D p = true then some (L, V, D, p, t, false) else some (L, V, D.set p.toNat true, p, t, true)) else none)
 else if k = 4 then
  (if p = 0 ∧ 1 ≤ i ∧ i ≤ 1000 then some (L, V, D, p, wrap64 (t + i), true) else some (L, V, D, p, t, false))
 else some (L, V, D, p, t, false)
def walk6.T : Bool × List (List Nat × List Nat) := (true, [([], []), ([0], [0]), ([], []), ([2], [2]), ([3], [3]), ([4], [4]), ([5], [5]), ([6], [6]), ([1, 7], [1, 7]), ([8], [8]), ([9, 8], [9]), ([10], [10]), ([11, 10], [10, 11]), ([12, 10], [10, 12]), ([13, 10], [10, 13]), ([10], [10]), ([15, 10], [10, 15]), ([14, 16, 10], [10, 14, 16]), ([17, 10], [10, 17]), ([18, 10], [10, 18]), ([10], [10]), ([20, 10], [10, 20]), ([21, 10], [10, 21]), ([22, 10], [10, 22]), ([19, 23, 10], [10, 19, 23]), ([24, 10, 10], [10, 24]), ([25], [25]), ([26, 25], [25, 26]), ([27, 25], [25, 27]), ([28, 25], [25, 28]), ([25], [25]), ([30, 25], [25, 30]), ([29, 31, 25], [25, 29, 31]), ([32, 25], [25, 32]), ([33, 25], [25, 33]), ([25], [25]), ([35, 25], [25, 35]), ([36, 25], [25, 36]), ([37, 25], [25, 37]), ([34, 38, 25], [25, 34, 38]), ([25, 39, 10], [10, 25, 39]), ([10, 40], [10, 40])])
def walk6.B : List Nat := [0, 1, 0, 4, 12, 28, 60, 124, 255, 511, 1023, 2047, 4095, 8191, 16383, 2047, 34815, 131071, 262143, 524287, 2047, 1050623, 3147775, 7342079, 16777215, 33554431, 67108863, 134217727, 268435455, 536870911, 67108863, 1140850687, 4294967295, 8589934591, 17179869183, 67108863, 34426847231, 103146323967, 240585277439, 549755813887, 1099511627775, 2199023255551]
theorem walk6.tab : rtab .any (opsOf Try.f105 6) = walk6.T := by kernel_rfl
theorem walk6.bits : waitsOk walk6.T.2 walk6.B = true := by kernel_rfl
abbrev walk6.mk0 : Array Bool := #[fF,fF,fF,fF,fF,fF,fF,fF,fF,fF,fF,fF,fF,fF,fF,fF,fF,fF,fF,fF,fF,fF,fF,fF,fF,fF,fF,fF,fF,fF,fF,fF,fF,fF,fF,fF,fF,fF,fF,fF,fF,fF]
abbrev walk6.mk1 : Array Bool := #[tT,fF,fF,fF,fF,fF,fF,fF,fF,fF,fF,fF,fF,fF,fF,fF,fF,fF,fF,fF,fF,fF,fF,fF,fF,fF,fF,fF,fF,fF,fF,fF,fF,fF,fF,fF,fF,fF,fF,fF,fF,fF]
abbrev walk6.mk2 : Array Bool := #[tT,fF,tT,fF,fF,fF,fF,fF,fF,fF,fF,fF,fF,fF,fF,fF,fF,fF,fF,fF,fF,fF,fF,fF,fF,fF,fF,fF,fF,fF,fF,fF,fF,fF,fF,fF,fF,fF,fF,fF,fF,fF]
abbrev walk6.mk3 : Array Bool := #[tT,fF,tT,tT,fF,fF,fF,fF,fF,fF,fF,fF,fF,fF,fF,fF,fF,fF,fF,fF,fF,fF,fF,fF,fF,fF,fF,fF,fF,fF,fF,fF,fF,fF,fF,fF,fF,fF,fF,fF,fF,fF]
abbrev walk6.mk4 : Array Bool := #[tT,fF,tT,tT,tT,fF,fF,fF,fF,fF,fF,fF,fF,fF,fF,fF,fF,fF,fF,fF,fF,fF,fF,fF,fF,fF,fF,fF,fF,fF,fF,fF,fF,fF,fF,fF,fF,fF,fF,fF,fF,fF]
abbrev walk6.mk5 : Array Bool := #[tT,tT,tT,tT,tT,fF,fF,fF,fF,fF,fF,fF,fF,fF,fF,fF,fF,fF,fF,fF,fF,fF,fF,fF,fF,fF,fF,fF,fF,fF,fF,fF,fF,fF,fF,fF,fF,fF,fF,fF,fF,fF]
abbrev walk6.mk6 : Array Bool := #[tT,tT,tT,tT,tT,tT,fF,fF,fF,fF,fF,fF,fF,fF,fF,fF,fF,fF,fF,fF,fF,fF,fF,fF,fF,fF,fF,fF,fF,fF,fF,fF,fF,fF,fF,fF,fF,fF,fF,fF,fF,fF]
abbrev walk6.mk7 : Array Bool := #[tT,tT,tT,tT,tT,tT,tT,fF,fF,fF,fF,fF,fF,fF,fF,fF,fF,fF,fF,fF,fF,fF,fF,fF,fF,fF,fF,fF,fF,fF,fF,fF,fF,fF,fF,fF,fF,fF,fF,fF,fF,fF]
abbrev walk6.mk8 : Array Bool := #[tT,tT,tT,tT,tT,tT,tT,tT,fF,fF,fF,fF,fF,fF,fF,fF,fF,fF,fF,fF,fF,fF,fF,fF,fF,fF,fF,fF,fF,fF,fF,fF,fF,fF,fF,fF,fF,fF,fF,fF,fF,fF]
abbrev walk6.mk9 : Array Bool := #[tT,tT,tT,tT,tT,tT,tT,tT,tT,fF,fF,fF,fF,fF,fF,fF,fF,fF,fF,fF,fF,fF,fF,fF,fF,fF,fF,fF,fF,fF,fF,fF,fF,fF,fF,fF,fF,fF,fF,fF,fF,fF]
abbrev walk6.mk10 : Array Bool := #[tT,tT,tT,tT,tT,tT,tT,tT,tT,tT,fF,fF,fF,fF,fF,fF,fF,fF,fF,fF,fF,fF,fF,fF,fF,fF,fF,fF,fF,fF,fF,fF,fF,fF,fF,fF,fF,fF,fF,fF,fF,fF]
abbrev walk6.mk11 : Array Bool := #[tT,tT,tT,tT,tT,tT,tT,tT,tT,tT,tT,fF,fF,fF,fF,fF,fF,fF,fF,fF,fF,fF,fF,fF,fF,fF,fF,fF,fF,fF,fF,fF,fF,fF,fF,fF,fF,fF,fF,fF,fF,fF]
abbrev walk6.mk12 : Array Bool := #[tT,tT,tT,tT,tT,tT,tT,tT,tT,tT,tT,tT,fF,fF,fF,fF,fF,fF,fF,fF,fF,fF,fF,fF,fF,fF,fF,fF,fF,fF,fF,fF,fF,fF,fF,fF,fF,fF,fF,fF,fF,fF]
abbrev walk6.mk13 : Array Bool := #[tT,tT,tT,tT,tT,tT,tT,tT,tT,tT,tT,tT,tT,fF,fF,fF,fF,fF,fF,fF,fF,fF,fF,fF,fF,fF,fF,fF,fF,fF,fF,fF,fF,fF,fF,fF,fF,fF,fF,fF,fF,fF]
abbrev walk6.mk14 : Array Bool := #[tT,tT,tT,tT,tT,tT,tT,tT,tT,tT,tT,tT,tT,tT,fF,fF,fF,fF,fF,fF,fF,fF,fF,fF,fF,fF,fF,fF,fF,fF,fF,fF,fF,fF,fF,fF,fF,fF,fF,fF,fF,fF]
abbrev walk6.mk15 : Array Bool := #[tT,tT,tT,tT,tT,tT,tT,tT,tT,tT,tT,tT,tT,tT,fF,tT,fF,fF,fF,fF,fF,fF,fF,fF,fF,fF,fF,fF,fF,fF,fF,fF,fF,fF,fF,fF,fF,fF,fF,fF,fF,fF]
abbrev walk6.mk16 : Array Bool := #[tT,tT,tT,tT,tT,tT,tT,tT,tT,tT,tT,tT,tT,tT,fF,tT,fF,fF,fF,fF,tT,fF,fF,fF,fF,fF,fF,fF,fF,fF,fF,fF,fF,fF,fF,fF,fF,fF,fF,fF,fF,fF]
abbrev walk6.mk17 : Array Bool := #[tT,tT,tT,tT,tT,tT,tT,tT,tT,tT,tT,tT,tT,tT,fF,tT,fF,fF,fF,fF,tT,tT,fF,fF,fF,fF,fF,fF,fF,fF,fF,fF,fF,fF,fF,fF,fF,fF,fF,fF,fF,fF]
abbrev walk6.mk18 : Array Bool := #[tT,tT,tT,tT,tT,tT,tT,tT,tT,tT,tT,tT,tT,tT,fF,tT,fF,fF,fF,fF,tT,tT,tT,fF,fF,fF,fF,fF,fF,fF,fF,fF,fF,fF,fF,fF,fF,fF,fF,fF,fF,fF]
abbrev walk6.mk19 : Array Bool := #[tT,tT,tT,tT,tT,tT,tT,tT,tT,tT,tT,tT,tT,tT,tT,tT,fF,fF,fF,fF,tT,tT,tT,fF,fF,fF,fF,fF,fF,fF,fF,fF,fF,fF,fF,fF,fF,fF,fF,fF,fF,fF]
abbrev walk6.mk20 : Array Bool := #[tT,tT,tT,tT,tT,tT,tT,tT,tT,tT,tT,tT,tT,tT,tT,tT,tT,fF,fF,fF,tT,tT,tT,fF,fF,fF,fF,fF,fF,fF,fF,fF,fF,fF,fF,fF,fF,fF,fF,fF,fF,fF]
abbrev walk6.mk21 : Array Bool := #[tT,tT,tT,tT,tT,tT,tT,tT,tT,tT,tT,tT,tT,tT,tT,tT,tT,tT,fF,fF,tT,tT,tT,fF,fF,fF,fF,fF,fF,fF,fF,fF,fF,fF,fF,fF,fF,fF,fF,fF,fF,fF]
abbrev walk6.mk22 : Array Bool := #[tT,tT,tT,tT,tT,tT,tT,tT,tT,tT,tT,tT,tT,tT,tT,tT,tT,tT,tT,fF,tT,tT,tT,fF,fF,fF,fF,fF,fF,fF,fF,fF,fF,fF,fF,fF,fF,fF,fF,fF,fF,fF]
abbrev walk6.mk23 : Array Bool := #[tT,tT,tT,tT,tT,tT,tT,tT,tT,tT,tT,tT,tT,tT,tT,tT,tT,tT,tT,tT,tT,tT,tT,fF,fF,fF,fF,fF,fF,fF,fF,fF,fF,fF,fF,fF,fF,fF,fF,fF,fF,fF]
abbrev walk6.mk24 : Array Bool := #[tT,tT,tT,tT,tT,tT,tT,tT,tT,tT,tT,tT,tT,tT,tT,tT,tT,tT,tT,tT,tT,tT,tT,tT,fF,fF,fF,fF,fF,fF,fF,fF,fF,fF,fF,fF,fF,fF,fF,fF,fF,fF]
abbrev walk6.mk25 : Array Bool := #[tT,tT,tT,tT,tT,tT,tT,tT,tT,tT,tT,tT,tT,tT,tT,tT,tT,tT,tT,tT,tT,tT,tT,tT,tT,fF,fF,fF,fF,fF,fF,fF,fF,fF,fF,fF,fF,fF,fF,fF,fF,fF]
abbrev walk6.mk26 : Array Bool := #[tT,tT,tT,tT,tT,tT,tT,tT,tT,tT,tT,tT,tT,tT,tT,tT,tT,tT,tT,tT,tT,tT,tT,tT,tT,tT,fF,fF,fF,fF,fF,fF,fF,fF,fF,fF,fF,fF,fF,fF,fF,fF]
abbrev walk6.mk27 : Array Bool := #[tT,tT,tT,tT,tT,tT,tT,tT,tT,tT,tT,tT,tT,tT,tT,tT,tT,tT,tT,tT,tT,tT,tT,tT,tT,tT,tT,fF,fF,fF,fF,fF,fF,fF,fF,fF,fF,fF,fF,fF,fF,fF]
abbrev walk6.mk28 : Array Bool := #[tT,tT,tT,tT,tT,tT,tT,tT,tT,tT,tT,tT,tT,tT,tT,tT,tT,tT,tT,tT,tT,tT,tT,tT,tT,tT,tT,tT,fF,fF,fF,fF,fF,fF,fF,fF,fF,fF,fF,fF,fF,fF]
abbrev walk6.mk29 : Array Bool := #[tT,tT,tT,tT,tT,tT,tT,tT,tT,tT,tT,tT,tT,tT,tT,tT,tT,tT,tT,tT,tT,tT,tT,tT,tT,tT,tT,tT,tT,fF,fF,fF,fF,fF,fF,fF,fF,fF,fF,fF,fF,fF]
abbrev walk6.mk30 : Array Bool := #[tT,tT,tT,tT,tT,tT,tT,tT,tT,tT,tT,tT,tT,tT,tT,tT,tT,tT,tT,tT,tT,tT,tT,tT,tT,tT,tT,tT,tT,fF,tT,fF,fF,fF,fF,fF,fF,fF,fF,fF,fF,fF]
abbrev walk6.mk31 : Array Bool := #[tT,tT,tT,tT,tT,tT,tT,tT,tT,tT,tT,tT,tT,tT,tT,tT,tT,tT,tT,tT,tT,tT,tT,tT,tT,tT,tT,tT,tT,fF,tT,fF,fF,fF,fF,tT,fF,fF,fF,fF,fF,fF]
abbrev walk6.mk32 : Array Bool := #[tT,tT,tT,tT,tT,tT,tT,tT,tT,tT,tT,tT,tT,tT,tT,tT,tT,tT,tT,tT,tT,tT,tT,tT,tT,tT,tT,tT,tT,fF,tT,fF,fF,fF,fF,tT,tT,fF,fF,fF,fF,fF]
abbrev walk6.mk33 : Array Bool := #[tT,tT,tT,tT,tT,tT,tT,tT,tT,tT,tT,tT,tT,tT,tT,tT,tT,tT,tT,tT,tT,tT,tT,tT,tT,tT,tT,tT,tT,fF,tT,fF,fF,fF,fF,tT,tT,tT,fF,fF,fF,fF]
abbrev walk6.mk34 : Array Bool := #[tT,tT,tT,tT,tT,tT,tT,tT,tT,tT,tT,tT,tT,tT,tT,tT,tT,tT,tT,tT,tT,tT,tT,tT,tT,tT,tT,tT,tT,tT,tT,fF,fF,fF,fF,tT,tT,tT,fF,fF,fF,fF]
abbrev walk6.mk35 : Array Bool := #[tT,tT,tT,tT,tT,tT,tT,tT,tT,tT,tT,tT,tT,tT,tT,tT,tT,tT,tT,tT,tT,tT,tT,tT,tT,tT,tT,tT,tT,tT,tT,tT,fF,fF,fF,tT,tT,tT,fF,fF,fF,fF]
abbrev walk6.mk36 : Array Bool := #[tT,tT,tT,tT,tT,tT,tT,tT,tT,tT,tT,tT,tT,tT,tT,tT,tT,tT,tT,tT,tT,tT,tT,tT,tT,tT,tT,tT,tT,tT,tT,tT,tT,fF,fF,tT,tT,tT,fF,fF,fF,fF]
abbrev walk6.mk37 : Array Bool := #[tT,tT,tT,tT,tT,tT,tT,tT,tT,tT,tT,tT,tT,tT,tT,tT,tT,tT,tT,tT,tT,tT,tT,tT,tT,tT,tT,tT,tT,tT,tT,tT,tT,tT,fF,tT,tT,tT,fF,fF,fF,fF]
abbrev walk6.mk38 : Array Bool := #[tT,tT,tT,tT,tT,tT,tT,tT,tT,tT,tT,tT,tT,tT,tT,tT,tT,tT,tT,tT,tT,tT,tT,tT,tT,tT,tT,tT,tT,tT,tT,tT,tT,tT,tT,tT,tT,tT,fF,fF,fF,fF]
abbrev walk6.mk39 : Array Bool := #[tT,tT,tT,tT,tT,tT,tT,tT,tT,tT,tT,tT,tT,tT,tT,tT,tT,tT,tT,tT,tT,tT,tT,tT,tT,tT,tT,tT,tT,tT,tT,tT,tT,tT,tT,tT,tT,tT,tT,fF,fF,fF]
abbrev walk6.mk40 : Array Bool := #[tT,tT,tT,tT,tT,tT,tT,tT,tT,tT,tT,tT,tT,tT,tT,tT,tT,tT,tT,tT,tT,tT,tT,tT,tT,tT,tT,tT,tT,tT,tT,tT,tT,tT,tT,tT,tT,tT,tT,tT,fF,fF]
abbrev walk6.mk41 : Array Bool := #[tT,tT,tT,tT,tT,tT,tT,tT,tT,tT,tT,tT,tT,tT,tT,tT,tT,tT,tT,tT,tT,tT,tT,tT,tT,tT,tT,tT,tT,tT,tT,tT,tT,tT,tT,tT,tT,tT,tT,tT,tT,fF]
abbrev walk6.mk42 : Array Bool := #[tT,tT,tT,tT,tT,tT,tT,tT,tT,tT,tT,tT,tT,tT,tT,tT,tT,tT,tT,tT,tT,tT,tT,tT,tT,tT,tT,tT,tT,tT,tT,tT,tT,tT,tT,tT,tT,tT,tT,tT,tT,tT]
def walk8.T : Bool × List (List Nat × List Nat) := (true, [([], []), ([], []), ([1], [1]), ([2], [2]), ([3], [3]), ([], []), ([5], [5]), ([4, 6], [4, 6]), ([7], [7]), ([0, 8], [0, 8])])
def walk8.B : List Nat := [0, 0, 2, 6, 14, 0, 32, 126, 254, 511]
theorem walk8.tab : rtab .any (opsOf Try.f105 8) = walk8.T := by kernel_rfl
theorem walk8.bits : waitsOk walk8.T.2 walk8.B = true := by kernel_rfl
abbrev walk8.mk0 : Array Bool := #[fF,fF,fF,fF,fF,fF,fF,fF,fF,fF]
abbrev walk8.mk1 : Array Bool := #[tT,fF,fF,fF,fF,fF,fF,fF,fF,fF]
abbrev walk8.mk2 : Array Bool := #[tT,tT,fF,fF,fF,fF,fF,fF,fF,fF]
abbrev walk8.mk3 : Array Bool := #[tT,tT,tT,fF,fF,fF,fF,fF,fF,fF]
abbrev walk8.mk4 : Array Bool := #[tT,tT,tT,tT,fF,fF,fF,fF,fF,fF]
abbrev walk8.mk5 : Array Bool := #[tT,tT,tT,tT,fF,tT,fF,fF,fF,fF]
abbrev walk8.mk6 : Array Bool := #[tT,tT,tT,tT,tT,tT,fF,fF,fF,fF]
abbrev walk8.mk7 : Array Bool := #[tT,tT,tT,tT,tT,tT,tT,fF,fF,fF]
abbrev walk8.mk8 : Array Bool := #[tT,tT,tT,tT,tT,tT,tT,tT,fF,fF]
abbrev walk8.mk9 : Array Bool := #[tT,tT,tT,tT,tT,tT,tT,tT,tT,fF]
abbrev walk8.mk10 : Array Bool := #[tT,tT,tT,tT,tT,tT,tT,tT,tT,tT]
set_option maxHeartbeats 8000000 in
set_option maxRecDepth 100000 in
theorem walk_k1A (g : Nat) (vL vV vD : Value) (L : List S37) (V D : List Bool) (p t i : Int) (w0 w : World) (hS : ExS w w0.heap.size g vL vV vD L V D p t) (hB : Below w0.heap.size w0 w) (hwi : impl_within.f i 0 (wrap64 ((L.length : Int) - 1)) = some false) :
  Calls Try.prog 105 #[.pointer (some ⟨g, 0, none⟩), .agg #[.int .i64 1, .int .i64 i, .int .i64 0, .int .i64 0, .int .i64 0, .int .i64 0, .int .i64 0]] w fun e w' => e = .returned (.bool false) ∧ ExS w' w0.heap.size g vL vV vD L V D p t ∧ Below w0.heap.size w0 w' := by
 have hgw : g < w.heap.size := blk_lt hS.blk
 have hne : w.heap.size ≠ g := by omega
 have hu1 := Try.underlying39
 have hu2 := Try.underlying30
 have hu3 := Try.underlying37
 have hu4 := Try.underlying28
 obtain ⟨A0, c0, rfl⟩ := Kd.R_slice hS.rL
 have HX := Aside0.mk (blk_new w (.cells #[.int .i64 1, .int .i64 i, .int .i64 0, .int .i64 0, .int .i64 0, .int .i64 0, .int .i64 0] 39 (0, 0)))
 have HS := Aside0.mk (hS.below (below_alloc (Below.refl _ w) (.cells #[.int .i64 1, .int .i64 i, .int .i64 0, .int .i64 0, .int .i64 0, .int .i64 0, .int .i64 0] 39 (0, 0))))
 have HB := Aside0.mk (below_alloc hB (.cells #[.int .i64 1, .int .i64 i, .int .i64 0, .int .i64 0, .int .i64 0, .int .i64 0, .int .i64 0] 39 (0, 0)))
 clear hS hB
 go_enter Try.func105, Try.ntmps105
 go_wp2_with fail
 generalize w.alloc (.cells #[.int .i64 1, .int .i64 i, .int .i64 0, .int .i64 0, .int .i64 0, .int .i64 0, .int .i64 0] 39) = W at HX HS HB ⊢
 replace HX := Aside0.mk (blk_drew HX.out)
 replace HS := Aside0.mk (HS.out.below (below_drew (Below.refl _ W)))
 replace HB := Aside0.mk (below_drew HB.out)
 refine start_ (n := 42) (S := fun w' => w'.cell? ⟨w.heap.size, 1, none⟩ = some (.int .i64 i) ∧ w'.cell? ⟨g, 0, none⟩ = some (.slice A0 L.length c0) ∧ w'.cell? ⟨g, 3, none⟩ = some (.int .i64 p)) (ds := []) walk6.mk0 (by kernel_rfl) rfl rfl ⟨(blk_cell HX.out 1).trans rfl, (blk_cell HS.out.blk 0).trans rfl, (blk_cell HS.out.blk 3).trans rfl⟩ (fun hHeld => ?_); refine with_tabW walk6.tab walk6.bits (fun HT_ HW_ => ?_)
 generalize W.drew = W1 at HX HS HB hHeld ⊢
 refine pz_ HT_ 0 (some 33) walk6.mk1 ?_
 refine pz_ HT_ 2 (some 35) walk6.mk2 ?_
 refine pz_ HT_ 3 (some 36) walk6.mk3 ?_
 refine pz_ HT_ 4 (some 37) walk6.mk4 ?_
 refine tk_ HT_ HW_ hHeld 1 (some 34) walk6.mk5 ?_
 refine tk_ HT_ HW_ hHeld 5 (some 38) walk6.mk6 ?_
 refine pz_ HT_ 6 (some 39) walk6.mk7 ?_
 refine pz_ HT_ 7 (some 40) walk6.mk8 ?_
 refine one_ (i := 8) (N := some 41) walk6.mk9 rfl rfl (one_of HT_.out (by kernel_rfl)) (by decide) (fun K hK => ?_)
 refine gs_ Try.func71 #[.int .i64 i, .int .i64 0, .int .i64 (wrap64 ((L.length : Int) - 1))] ?_
 refine (impl_within.calls i 0 (wrap64 ((L.length : Int) - 1)) false _ hwi).mono ?_
 rintro e w1 ⟨rfl, ⟨n1_, rfl⟩⟩
 refine ⟨_, rfl, ?_⟩
 replace HX := Aside0.mk (blk_drewN HX.out n1_)
 replace HS := Aside0.mk (HS.out.below (pw_below_drewN (Below.refl _ _) n1_))
 replace HB := Aside0.mk (pw_below_drewN HB.out n1_)
 refine hK.out _ _ ⟨(blk_cell HX.out 1).trans rfl, (blk_cell HS.out.blk 0).trans rfl, (blk_cell HS.out.blk 3).trans rfl⟩ (fun hHeld => ?_)
 clear hK K
 refine na_ ?_
 generalize W1.drewN n1_ = W2 at HX HS HB hHeld ⊢
 refine pz_ HT_ 9 (some 42) walk6.mk10 ?_
 refine pz_ HT_ 10 (some 43) walk6.mk11 ?_
 refine pu_ HT_ 11 (some 44) walk6.mk12 ?_
 refine pu_ HT_ 12 (some 45) walk6.mk13 ?_
 refine pu_ HT_ 13 (some 46) walk6.mk14 ?_
 refine pu_ HT_ 15 (some 48) walk6.mk15 ?_
 refine pu_ HT_ 20 (some 53) walk6.mk16 ?_
 refine pu_ HT_ 21 (some 54) walk6.mk17 ?_
 refine pu_ HT_ 22 (some 55) walk6.mk18 ?_
 refine pu_ HT_ 14 (some 47) walk6.mk19 ?_
 refine pu_ HT_ 16 (some 49) walk6.mk20 ?_
 refine pu_ HT_ 17 (some 50) walk6.mk21 ?_
 refine pu_ HT_ 18 (some 51) walk6.mk22 ?_
 refine pu_ HT_ 19 (some 52) walk6.mk23 ?_
 refine pu_ HT_ 23 (some 56) walk6.mk24 ?_
 refine pu_ HT_ 24 (some 57) walk6.mk25 ?_
 refine pu_ HT_ 25 (some 58) walk6.mk26 ?_
 refine pu_ HT_ 26 (some 59) walk6.mk27 ?_
 refine pu_ HT_ 27 (some 60) walk6.mk28 ?_
 refine pu_ HT_ 28 (some 61) walk6.mk29 ?_
 refine pu_ HT_ 30 (some 63) walk6.mk30 ?_
 refine pu_ HT_ 35 (some 68) walk6.mk31 ?_
 refine pu_ HT_ 36 (some 69) walk6.mk32 ?_
 refine pu_ HT_ 37 (some 70) walk6.mk33 ?_
 refine pu_ HT_ 29 (some 62) walk6.mk34 ?_
 refine pu_ HT_ 31 (some 64) walk6.mk35 ?_
 refine pu_ HT_ 32 (some 65) walk6.mk36 ?_
 refine pu_ HT_ 33 (some 66) walk6.mk37 ?_
 refine pu_ HT_ 34 (some 67) walk6.mk38 ?_
 refine pu_ HT_ 38 (some 71) walk6.mk39 ?_
 refine pu_ HT_ 39 (some 72) walk6.mk40 ?_
 refine pu_ HT_ 40 (some 73) walk6.mk41 ?_
 refine pz_ HT_ 41 (some 74) walk6.mk42 ?_
 refine done_ (done_of HT_.out (by kernel_rfl)) ?_
 go_wp2_with fail
 go_ret
 exact ⟨rfl, HS.out, HB.out⟩
set_option maxHeartbeats 8000000 in
set_option maxRecDepth 100000 in
theorem walk_k1B (g : Nat) (vL vV vD : Value) (L : List S37) (V D : List Bool) (p t i : Int) (w0 w : World) (hS : ExS w w0.heap.size g vL vV vD L V D p t) (hB : Below w0.heap.size w0 w) (hwi : impl_within.f i 0 (wrap64 ((L.length : Int) - 1)) = some true) (hi0 : 0 ≤ i) (hi1 : i < (L.length : Int)) (hf0 : (rd_T37 L i).f0 = p) (h0 : 0 ≤ wrap64 (wrap64 ((rd_T37 L i).f0 + (rd_T37 L i).f1) - p)) (h1 : wrap64 (wrap64 ((rd_T37 L i).f0 + (rd_T37 L i).f1) - p) < (V.length : Int)) :
  Calls Try.prog 105 #[.pointer (some ⟨g, 0, none⟩), .agg #[.int .i64 1, .int .i64 i, .int .i64 0, .int .i64 0, .int .i64 0, .int .i64 0, .int .i64 0]] w fun e w' => e = .returned (.bool true) ∧ ExS w' w0.heap.size g vL vV vD L (V.set (wrap64 (wrap64 ((rd_T37 L i).f0 + (rd_T37 L i).f1) - p)).toNat true) D (wrap64 (wrap64 ((rd_T37 L i).f0 + (rd_T37 L i).f1) - p)) (wrap64 (t - wrap64 (1 * (rd_T37 L i).f2))) ∧ Below w0.heap.size w0 w' := by
 have hgw : g < w.heap.size := blk_lt hS.blk
 have hne : w.heap.size ≠ g := by omega
 have hu1 := Try.underlying39
 have hu2 := Try.underlying30
 have hu3 := Try.underlying37
 have hu4 := Try.underlying28
 obtain ⟨A0, c0, rfl⟩ := Kd.R_slice hS.rL
 obtain ⟨ad, e0, y0, y1, y2, y3, y4⟩ := at_T37 (Kd.R_reads' hS.rL).2.2 i hi0 hi1
 subst e0
 have q0 : (0 ≤ i) = True := eq_true hi0
 have q1 : (i < (L.length : Int)) = True := eq_true hi1
 have q0' : decide (0 ≤ i) = true := decide_eq_true hi0
 have q1' : decide (i < (L.length : Int)) = true := decide_eq_true hi1
 have n0 : ((rd_T37 L i).f0 != p) = false := bne_eq_false_iff_eq.mpr hf0
 clear hf0
 have HX := Aside0.mk (blk_new w (.cells #[.int .i64 1, .int .i64 i, .int .i64 0, .int .i64 0, .int .i64 0, .int .i64 0, .int .i64 0] 39 (0, 0)))
 have HS := Aside0.mk (hS.below (below_alloc (Below.refl _ w) (.cells #[.int .i64 1, .int .i64 i, .int .i64 0, .int .i64 0, .int .i64 0, .int .i64 0, .int .i64 0] 39 (0, 0))))
 have HB := Aside0.mk (below_alloc hB (.cells #[.int .i64 1, .int .i64 i, .int .i64 0, .int .i64 0, .int .i64 0, .int .i64 0, .int .i64 0] 39 (0, 0)))
 have Y0 := Aside0.mk (bc_ (below_alloc (Below.refl _ w) (.cells #[.int .i64 1, .int .i64 i, .int .i64 0, .int .i64 0, .int .i64 0, .int .i64 0, .int .i64 0] 39 (0, 0))) y0)
 have Y1 := Aside0.mk (bc_ (below_alloc (Below.refl _ w) (.cells #[.int .i64 1, .int .i64 i, .int .i64 0, .int .i64 0, .int .i64 0, .int .i64 0, .int .i64 0] 39 (0, 0))) y1)
 have Y2 := Aside0.mk (bc_ (below_alloc (Below.refl _ w) (.cells #[.int .i64 1, .int .i64 i, .int .i64 0, .int .i64 0, .int .i64 0, .int .i64 0, .int .i64 0] 39 (0, 0))) y2)
 have Y3 := Aside0.mk (bc_ (below_alloc (Below.refl _ w) (.cells #[.int .i64 1, .int .i64 i, .int .i64 0, .int .i64 0, .int .i64 0, .int .i64 0, .int .i64 0] 39 (0, 0))) y3)
 have Y4 := Aside0.mk (bc_ (below_alloc (Below.refl _ w) (.cells #[.int .i64 1, .int .i64 i, .int .i64 0, .int .i64 0, .int .i64 0, .int .i64 0, .int .i64 0] 39 (0, 0))) y4)
 clear y0 y1 y2 y3 y4
 clear hS hB
 go_enter Try.func105, Try.ntmps105
 go_wp2_with fail
 generalize w.alloc (.cells #[.int .i64 1, .int .i64 i, .int .i64 0, .int .i64 0, .int .i64 0, .int .i64 0, .int .i64 0] 39) = W at HX HS HB Y0 Y1 Y2 Y3 Y4 ⊢
 replace HX := Aside0.mk (blk_drew HX.out)
 replace HS := Aside0.mk (HS.out.below (below_drew (Below.refl _ W)))
 replace HB := Aside0.mk (below_drew HB.out)
 replace Y0 := Aside0.mk (bc_ (below_drew (Below.refl _ W)) Y0.out)
 replace Y1 := Aside0.mk (bc_ (below_drew (Below.refl _ W)) Y1.out)
 replace Y2 := Aside0.mk (bc_ (below_drew (Below.refl _ W)) Y2.out)
 replace Y3 := Aside0.mk (bc_ (below_drew (Below.refl _ W)) Y3.out)
 replace Y4 := Aside0.mk (bc_ (below_drew (Below.refl _ W)) Y4.out)
 refine start_ (n := 42) (S := fun w' => w'.cell? ⟨w.heap.size, 1, none⟩ = some (.int .i64 i) ∧ w'.cell? ⟨g, 0, none⟩ = some (.slice (some ad) L.length c0) ∧ w'.cell? ⟨g, 3, none⟩ = some (.int .i64 p) ∧ w'.cell? (ad.add (i.toNat * 5)) = some (.int .i64 (rd_T37 L i).f0) ∧ w'.cell? ⟨(ad.add (i.toNat * 5)).block, (ad.add (i.toNat * 5)).off + 1, none⟩ = some (.int .i64 (rd_T37 L i).f1) ∧ w'.cell? ⟨(ad.add (i.toNat * 5)).block, (ad.add (i.toNat * 5)).off + 2, none⟩ = some (.int .i64 (rd_T37 L i).f2) ∧ w'.cell? ⟨(ad.add (i.toNat * 5)).block, (ad.add (i.toNat * 5)).off + 3, none⟩ = some (.int .i64 (rd_T37 L i).f3) ∧ w'.cell? ⟨(ad.add (i.toNat * 5)).block, (ad.add (i.toNat * 5)).off + 4, none⟩ = some (.int .i64 (rd_T37 L i).f4)) (ds := []) walk6.mk0 (by kernel_rfl) rfl rfl ⟨(blk_cell HX.out 1).trans rfl, (blk_cell HS.out.blk 0).trans rfl, (blk_cell HS.out.blk 3).trans rfl, Y0.out, Y1.out, Y2.out, Y3.out, Y4.out⟩ (fun hHeld => ?_); refine with_tabW walk6.tab walk6.bits (fun HT_ HW_ => ?_)
 generalize W.drew = W1 at HX HS HB Y0 Y1 Y2 Y3 Y4 hHeld ⊢
 refine pz_ HT_ 0 (some 33) walk6.mk1 ?_
 refine pz_ HT_ 2 (some 35) walk6.mk2 ?_
 refine pz_ HT_ 3 (some 36) walk6.mk3 ?_
 refine pz_ HT_ 4 (some 37) walk6.mk4 ?_
 refine tk_ HT_ HW_ hHeld 1 (some 34) walk6.mk5 ?_
 refine tk_ HT_ HW_ hHeld 5 (some 38) walk6.mk6 ?_
 refine pz_ HT_ 6 (some 39) walk6.mk7 ?_
 refine pz_ HT_ 7 (some 40) walk6.mk8 ?_
 refine one_ (i := 8) (N := some 41) walk6.mk9 rfl rfl (one_of HT_.out (by kernel_rfl)) (by decide) (fun K hK => ?_)
 refine gs_ Try.func71 #[.int .i64 i, .int .i64 0, .int .i64 (wrap64 ((L.length : Int) - 1))] ?_
 refine (impl_within.calls i 0 (wrap64 ((L.length : Int) - 1)) true _ hwi).mono ?_
 rintro e w1 ⟨rfl, ⟨n1_, rfl⟩⟩
 refine ⟨_, rfl, ?_⟩
 replace HX := Aside0.mk (blk_drewN HX.out n1_)
 replace HS := Aside0.mk (HS.out.below (pw_below_drewN (Below.refl _ _) n1_))
 replace HB := Aside0.mk (pw_below_drewN HB.out n1_)
 replace Y0 := Aside0.mk (bc_ (pw_below_drewN (Below.refl _ _) n1_) Y0.out)
 replace Y1 := Aside0.mk (bc_ (pw_below_drewN (Below.refl _ _) n1_) Y1.out)
 replace Y2 := Aside0.mk (bc_ (pw_below_drewN (Below.refl _ _) n1_) Y2.out)
 replace Y3 := Aside0.mk (bc_ (pw_below_drewN (Below.refl _ _) n1_) Y3.out)
 replace Y4 := Aside0.mk (bc_ (pw_below_drewN (Below.refl _ _) n1_) Y4.out)
 refine hK.out _ _ ⟨(blk_cell HX.out 1).trans rfl, (blk_cell HS.out.blk 0).trans rfl, (blk_cell HS.out.blk 3).trans rfl, Y0.out, Y1.out, Y2.out, Y3.out, Y4.out⟩ (fun hHeld => ?_)
 clear hK K
 refine na_ ?_
 generalize W1.drewN n1_ = W2 at HX HS HB Y0 Y1 Y2 Y3 Y4 hHeld ⊢
 refine pz_ HT_ 9 (some 42) walk6.mk10 ?_
 refine pz_ HT_ 10 (some 43) walk6.mk11 ?_
 refine pz_ HT_ 11 (some 44) walk6.mk12 ?_
 refine pz_ HT_ 12 (some 45) walk6.mk13 ?_
 refine pz_ HT_ 13 (some 46) walk6.mk14 ?_
 refine pz_ HT_ 15 (some 48) walk6.mk15 ?_
 refine pz_ HT_ 20 (some 53) walk6.mk16 ?_
 refine pz_ HT_ 21 (some 54) walk6.mk17 ?_
 refine pz_ HT_ 22 (some 55) walk6.mk18 ?_
 refine tk_ HT_ HW_ hHeld 14 (some 47) walk6.mk19 ?_
 refine tk_ HT_ HW_ hHeld 16 (some 49) walk6.mk20 ?_
 refine pz_ HT_ 17 (some 50) walk6.mk21 ?_
 refine pz_ HT_ 18 (some 51) walk6.mk22 ?_
 refine tk_ HT_ HW_ hHeld 19 (some 52) walk6.mk23 ?_
 refine tk_ HT_ HW_ hHeld 23 (some 56) walk6.mk24 ?_
 refine pz_ HT_ 24 (some 57) walk6.mk25 ?_
 refine pz_ HT_ 25 (some 58) walk6.mk26 ?_
 refine pu_ HT_ 26 (some 59) walk6.mk27 ?_
 refine pu_ HT_ 27 (some 60) walk6.mk28 ?_
 refine pu_ HT_ 28 (some 61) walk6.mk29 ?_
 refine pu_ HT_ 30 (some 63) walk6.mk30 ?_
 refine pu_ HT_ 35 (some 68) walk6.mk31 ?_
 refine pu_ HT_ 36 (some 69) walk6.mk32 ?_
 refine pu_ HT_ 37 (some 70) walk6.mk33 ?_
 refine pu_ HT_ 29 (some 62) walk6.mk34 ?_
 refine pu_ HT_ 31 (some 64) walk6.mk35 ?_
 refine pu_ HT_ 32 (some 65) walk6.mk36 ?_
 refine pu_ HT_ 33 (some 66) walk6.mk37 ?_
 refine pu_ HT_ 34 (some 67) walk6.mk38 ?_
 refine pu_ HT_ 38 (some 71) walk6.mk39 ?_
 refine pu_ HT_ 39 (some 72) walk6.mk40 ?_
 refine pz_ HT_ 40 (some 73) walk6.mk41 ?_
 refine pz_ HT_ 41 (some 74) walk6.mk42 ?_
 refine done_ (done_of HT_.out (by kernel_rfl)) ?_
 go_wp2_with fail
 replace HX := Aside0.mk (blk_drew HX.out)
 replace HS := Aside0.mk (HS.out.below (below_drew (Below.refl _ W2)))
 replace HB := Aside0.mk (below_drew HB.out)
 replace Y0 := Aside0.mk (bc_ (below_drew (Below.refl _ W2)) Y0.out)
 replace Y1 := Aside0.mk (bc_ (below_drew (Below.refl _ W2)) Y1.out)
 replace Y2 := Aside0.mk (bc_ (below_drew (Below.refl _ W2)) Y2.out)
 replace Y3 := Aside0.mk (bc_ (below_drew (Below.refl _ W2)) Y3.out)
 replace Y4 := Aside0.mk (bc_ (below_drew (Below.refl _ W2)) Y4.out)
 refine start_ (n := 10) (S := fun w' => w'.cell? ⟨w.heap.size, 1, none⟩ = some (.int .i64 i) ∧ w'.cell? ⟨g, 0, none⟩ = some (.slice (some ad) L.length c0) ∧ w'.cell? ⟨g, 3, none⟩ = some (.int .i64 p) ∧ w'.cell? (ad.add (i.toNat * 5)) = some (.int .i64 (rd_T37 L i).f0) ∧ w'.cell? ⟨(ad.add (i.toNat * 5)).block, (ad.add (i.toNat * 5)).off + 1, none⟩ = some (.int .i64 (rd_T37 L i).f1) ∧ w'.cell? ⟨(ad.add (i.toNat * 5)).block, (ad.add (i.toNat * 5)).off + 2, none⟩ = some (.int .i64 (rd_T37 L i).f2) ∧ w'.cell? ⟨(ad.add (i.toNat * 5)).block, (ad.add (i.toNat * 5)).off + 3, none⟩ = some (.int .i64 (rd_T37 L i).f3) ∧ w'.cell? ⟨(ad.add (i.toNat * 5)).block, (ad.add (i.toNat * 5)).off + 4, none⟩ = some (.int .i64 (rd_T37 L i).f4)) (ds := [9]) walk8.mk0 (by kernel_rfl) rfl rfl ⟨(blk_cell HX.out 1).trans rfl, (blk_cell HS.out.blk 0).trans rfl, (blk_cell HS.out.blk 3).trans rfl, Y0.out, Y1.out, Y2.out, Y3.out, Y4.out⟩ (fun hHeld => ?_); refine with_tabW walk8.tab walk8.bits (fun HT_ HW_ => ?_)
 generalize W2.drew = W3 at HX HS HB Y0 Y1 Y2 Y3 Y4 hHeld ⊢
 refine pz_ HT_ 0 (some 75) walk8.mk1 ?_
 refine pz_ HT_ 1 (some 76) walk8.mk2 ?_
 refine pz_ HT_ 2 (some 77) walk8.mk3 ?_
 refine pz_ HT_ 3 (some 78) walk8.mk4 ?_
 refine pz_ HT_ 5 (some 80) walk8.mk5 ?_
 refine tk_ HT_ HW_ hHeld 4 (some 79) walk8.mk6 ?_
 refine tk_ HT_ HW_ hHeld 6 (some 81) walk8.mk7 ?_
 refine pz_ HT_ 7 (some 82) walk8.mk8 ?_
 refine tk_ HT_ HW_ hHeld 8 (some 83) walk8.mk9 ?_
 refine last_ (i := 9) (N := some 84) walk8.mk10 rfl rfl (one_of HT_.out (by kernel_rfl)) (by decide) (fun K hK => ?_)
 refine gs_ Try.func119 #[.pointer (some ⟨g, 0, none⟩), .agg #[.int .i64 (rd_T37 L i).f0, .int .i64 (rd_T37 L i).f1, .int .i64 (rd_T37 L i).f2, .int .i64 (rd_T37 L i).f3, .int .i64 (rd_T37 L i).f4], .int .i64 1] ?_
 refine (goAlong_calls g _ vV vD L V D p t (rd_T37 L i).f0 (rd_T37 L i).f1 (rd_T37 L i).f2 (rd_T37 L i).f3 (rd_T37 L i).f4 1 w0 _ HS.out HB.out h0 h1).mono ?_
 rintro e w9 ⟨rfl, hS9, hB9⟩
 refine ⟨_, rfl, ?_⟩
 refine hK.out _ _ ?_
 clear hK K
 refine na_ ?_
 refine done_ (done_of HT_.out (by kernel_rfl)) ?_
 go_wp2_with fail
 go_ret
 exact ⟨rfl, hS9, hB9⟩
set_option maxHeartbeats 8000000 in
set_option maxRecDepth 100000 in
theorem walk_k1C (g : Nat) (vL vV vD : Value) (L : List S37) (V D : List Bool) (p t i : Int) (w0 w : World) (hS : ExS w w0.heap.size g vL vV vD L V D p t) (hB : Below w0.heap.size w0 w) (hwi : impl_within.f i 0 (wrap64 ((L.length : Int) - 1)) = some true) (hi0 : 0 ≤ i) (hi1 : i < (L.length : Int)) (hf0 : (rd_T37 L i).f0 ≠ p) (hf1 : (rd_T37 L i).f1 = p) (h0 : 0 ≤ wrap64 (wrap64 ((rd_T37 L i).f0 + (rd_T37 L i).f1) - p)) (h1 : wrap64 (wrap64 ((rd_T37 L i).f0 + (rd_T37 L i).f1) - p) < (V.length : Int)) :
  Calls Try.prog 105 #[.pointer (some ⟨g, 0, none⟩), .agg #[.int .i64 1, .int .i64 i, .int .i64 0, .int .i64 0, .int .i64 0, .int .i64 0, .int .i64 0]] w fun e w' => e = .returned (.bool true) ∧ ExS w' w0.heap.size g vL vV vD L (V.set (wrap64 (wrap64 ((rd_T37 L i).f0 + (rd_T37 L i).f1) - p)).toNat true) D (wrap64 (wrap64 ((rd_T37 L i).f0 + (rd_T37 L i).f1) - p)) (wrap64 (t - wrap64 (1 * (rd_T37 L i).f2))) ∧ Below w0.heap.size w0 w' := by
 have hgw : g < w.heap.size := blk_lt hS.blk
 have hne : w.heap.size ≠ g := by omega
 have hu1 := Try.underlying39
 have hu2 := Try.underlying30
 have hu3 := Try.underlying37
 have hu4 := Try.underlying28
 obtain ⟨A0, c0, rfl⟩ := Kd.R_slice hS.rL
 obtain ⟨ad, e0, y0, y1, y2, y3, y4⟩ := at_T37 (Kd.R_reads' hS.rL).2.2 i hi0 hi1
 subst e0
 have q0 : (0 ≤ i) = True := eq_true hi0
 have q1 : (i < (L.length : Int)) = True := eq_true hi1
 have q0' : decide (0 ≤ i) = true := decide_eq_true hi0
 have q1' : decide (i < (L.length : Int)) = true := decide_eq_true hi1
 have n0 : ((rd_T37 L i).f0 != p) = true := bne_iff_ne.mpr hf0
 have n1 : ((rd_T37 L i).f1 != p) = false := bne_eq_false_iff_eq.mpr hf1
 clear hf0 hf1
 have HX := Aside0.mk (blk_new w (.cells #[.int .i64 1, .int .i64 i, .int .i64 0, .int .i64 0, .int .i64 0, .int .i64 0, .int .i64 0] 39 (0, 0)))
 have HS := Aside0.mk (hS.below (below_alloc (Below.refl _ w) (.cells #[.int .i64 1, .int .i64 i, .int .i64 0, .int .i64 0, .int .i64 0, .int .i64 0, .int .i64 0] 39 (0, 0))))
 have HB := Aside0.mk (below_alloc hB (.cells #[.int .i64 1, .int .i64 i, .int .i64 0, .int .i64 0, .int .i64 0, .int .i64 0, .int .i64 0] 39 (0, 0)))
 have Y0 := Aside0.mk (bc_ (below_alloc (Below.refl _ w) (.cells #[.int .i64 1, .int .i64 i, .int .i64 0, .int .i64 0, .int .i64 0, .int .i64 0, .int .i64 0] 39 (0, 0))) y0)
 have Y1 := Aside0.mk (bc_ (below_alloc (Below.refl _ w) (.cells #[.int .i64 1, .int .i64 i, .int .i64 0, .int .i64 0, .int .i64 0, .int .i64 0, .int .i64 0] 39 (0, 0))) y1)
 have Y2 := Aside0.mk (bc_ (below_alloc (Below.refl _ w) (.cells #[.int .i64 1, .int .i64 i, .int .i64 0, .int .i64 0, .int .i64 0, .int .i64 0, .int .i64 0] 39 (0, 0))) y2)
 have Y3 := Aside0.mk (bc_ (below_alloc (Below.refl _ w) (.cells #[.int .i64 1, .int .i64 i, .int .i64 0, .int .i64 0, .int .i64 0, .int .i64 0, .int .i64 0] 39 (0, 0))) y3)
 have Y4 := Aside0.mk (bc_ (below_alloc (Below.refl _ w) (.cells #[.int .i64 1, .int .i64 i, .int .i64 0, .int .i64 0, .int .i64 0, .int .i64 0, .int .i64 0] 39 (0, 0))) y4)
 clear y0 y1 y2 y3 y4
 clear hS hB
 go_enter Try.func105, Try.ntmps105
 go_wp2_with fail
 generalize w.alloc (.cells #[.int .i64 1, .int .i64 i, .int .i64 0, .int .i64 0, .int .i64 0, .int .i64 0, .int .i64 0] 39) = W at HX HS HB Y0 Y1 Y2 Y3 Y4 ⊢
 replace HX := Aside0.mk (blk_drew HX.out)
 replace HS := Aside0.mk (HS.out.below (below_drew (Below.refl _ W)))
 replace HB := Aside0.mk (below_drew HB.out)
 replace Y0 := Aside0.mk (bc_ (below_drew (Below.refl _ W)) Y0.out)
 replace Y1 := Aside0.mk (bc_ (below_drew (Below.refl _ W)) Y1.out)
 replace Y2 := Aside0.mk (bc_ (below_drew (Below.refl _ W)) Y2.out)
 replace Y3 := Aside0.mk (bc_ (below_drew (Below.refl _ W)) Y3.out)
 replace Y4 := Aside0.mk (bc_ (below_drew (Below.refl _ W)) Y4.out)
 refine start_ (n := 42) (S := fun w' => w'.cell? ⟨w.heap.size, 1, none⟩ = some (.int .i64 i) ∧ w'.cell? ⟨g, 0, none⟩ = some (.slice (some ad) L.length c0) ∧ w'.cell? ⟨g, 3, none⟩ = some (.int .i64 p) ∧ w'.cell? (ad.add (i.toNat * 5)) = some (.int .i64 (rd_T37 L i).f0) ∧ w'.cell? ⟨(ad.add (i.toNat * 5)).block, (ad.add (i.toNat * 5)).off + 1, none⟩ = some (.int .i64 (rd_T37 L i).f1) ∧ w'.cell? ⟨(ad.add (i.toNat * 5)).block, (ad.add (i.toNat * 5)).off + 2, none⟩ = some (.int .i64 (rd_T37 L i).f2) ∧ w'.cell? ⟨(ad.add (i.toNat * 5)).block, (ad.add (i.toNat * 5)).off + 3, none⟩ = some (.int .i64 (rd_T37 L i).f3) ∧ w'.cell? ⟨(ad.add (i.toNat * 5)).block, (ad.add (i.toNat * 5)).off + 4, none⟩ = some (.int .i64 (rd_T37 L i).f4)) (ds := []) walk6.mk0 (by kernel_rfl) rfl rfl ⟨(blk_cell HX.out 1).trans rfl, (blk_cell HS.out.blk 0).trans rfl, (blk_cell HS.out.blk 3).trans rfl, Y0.out, Y1.out, Y2.out, Y3.out, Y4.out⟩ (fun hHeld => ?_); refine with_tabW walk6.tab walk6.bits (fun HT_ HW_ => ?_)
 generalize W.drew = W1 at HX HS HB Y0 Y1 Y2 Y3 Y4 hHeld ⊢
 refine pz_ HT_ 0 (some 33) walk6.mk1 ?_
 refine pz_ HT_ 2 (some 35) walk6.mk2 ?_
 refine pz_ HT_ 3 (some 36) walk6.mk3 ?_
 refine pz_ HT_ 4 (some 37) walk6.mk4 ?_
 refine tk_ HT_ HW_ hHeld 1 (some 34) walk6.mk5 ?_
 refine tk_ HT_ HW_ hHeld 5 (some 38) walk6.mk6 ?_
 refine pz_ HT_ 6 (some 39) walk6.mk7 ?_
 refine pz_ HT_ 7 (some 40) walk6.mk8 ?_
 refine one_ (i := 8) (N := some 41) walk6.mk9 rfl rfl (one_of HT_.out (by kernel_rfl)) (by decide) (fun K hK => ?_)
 refine gs_ Try.func71 #[.int .i64 i, .int .i64 0, .int .i64 (wrap64 ((L.length : Int) - 1))] ?_
 refine (impl_within.calls i 0 (wrap64 ((L.length : Int) - 1)) true _ hwi).mono ?_
 rintro e w1 ⟨rfl, ⟨n1_, rfl⟩⟩
 refine ⟨_, rfl, ?_⟩
 replace HX := Aside0.mk (blk_drewN HX.out n1_)
 replace HS := Aside0.mk (HS.out.below (pw_below_drewN (Below.refl _ _) n1_))
 replace HB := Aside0.mk (pw_below_drewN HB.out n1_)
 replace Y0 := Aside0.mk (bc_ (pw_below_drewN (Below.refl _ _) n1_) Y0.out)
 replace Y1 := Aside0.mk (bc_ (pw_below_drewN (Below.refl _ _) n1_) Y1.out)
 replace Y2 := Aside0.mk (bc_ (pw_below_drewN (Below.refl _ _) n1_) Y2.out)
 replace Y3 := Aside0.mk (bc_ (pw_below_drewN (Below.refl _ _) n1_) Y3.out)
 replace Y4 := Aside0.mk (bc_ (pw_below_drewN (Below.refl _ _) n1_) Y4.out)
 refine hK.out _ _ ⟨(blk_cell HX.out 1).trans rfl, (blk_cell HS.out.blk 0).trans rfl, (blk_cell HS.out.blk 3).trans rfl, Y0.out, Y1.out, Y2.out, Y3.out, Y4.out⟩ (fun hHeld => ?_)
 clear hK K
 refine na_ ?_
 generalize W1.drewN n1_ = W2 at HX HS HB Y0 Y1 Y2 Y3 Y4 hHeld ⊢
 refine pz_ HT_ 9 (some 42) walk6.mk10 ?_
 refine pz_ HT_ 10 (some 43) walk6.mk11 ?_
 refine pz_ HT_ 11 (some 44) walk6.mk12 ?_
 refine pz_ HT_ 12 (some 45) walk6.mk13 ?_
 refine pz_ HT_ 13 (some 46) walk6.mk14 ?_
 refine pz_ HT_ 15 (some 48) walk6.mk15 ?_
 refine pz_ HT_ 20 (some 53) walk6.mk16 ?_
 refine pz_ HT_ 21 (some 54) walk6.mk17 ?_
 refine pz_ HT_ 22 (some 55) walk6.mk18 ?_
 refine tk_ HT_ HW_ hHeld 14 (some 47) walk6.mk19 ?_
 refine tk_ HT_ HW_ hHeld 16 (some 49) walk6.mk20 ?_
 refine pz_ HT_ 17 (some 50) walk6.mk21 ?_
 refine pz_ HT_ 18 (some 51) walk6.mk22 ?_
 refine tk_ HT_ HW_ hHeld 19 (some 52) walk6.mk23 ?_
 refine tk_ HT_ HW_ hHeld 23 (some 56) walk6.mk24 ?_
 refine pz_ HT_ 24 (some 57) walk6.mk25 ?_
 refine pz_ HT_ 25 (some 58) walk6.mk26 ?_
 refine pz_ HT_ 26 (some 59) walk6.mk27 ?_
 refine pz_ HT_ 27 (some 60) walk6.mk28 ?_
 refine pz_ HT_ 28 (some 61) walk6.mk29 ?_
 refine pz_ HT_ 30 (some 63) walk6.mk30 ?_
 refine pz_ HT_ 35 (some 68) walk6.mk31 ?_
 refine pz_ HT_ 36 (some 69) walk6.mk32 ?_
 refine pz_ HT_ 37 (some 70) walk6.mk33 ?_
 refine tk_ HT_ HW_ hHeld 29 (some 62) walk6.mk34 ?_
 refine tk_ HT_ HW_ hHeld 31 (some 64) walk6.mk35 ?_
 refine pz_ HT_ 32 (some 65) walk6.mk36 ?_
 refine pz_ HT_ 33 (some 66) walk6.mk37 ?_
 refine tk_ HT_ HW_ hHeld 34 (some 67) walk6.mk38 ?_
 refine tk_ HT_ HW_ hHeld 38 (some 71) walk6.mk39 ?_
 refine pz_ HT_ 39 (some 72) walk6.mk40 ?_
 refine pz_ HT_ 40 (some 73) walk6.mk41 ?_
 refine pz_ HT_ 41 (some 74) walk6.mk42 ?_
 refine done_ (done_of HT_.out (by kernel_rfl)) ?_
 go_wp2_with fail
 replace HX := Aside0.mk (blk_drew HX.out)
 replace HS := Aside0.mk (HS.out.below (below_drew (Below.refl _ W2)))
 replace HB := Aside0.mk (below_drew HB.out)
 replace Y0 := Aside0.mk (bc_ (below_drew (Below.refl _ W2)) Y0.out)
 replace Y1 := Aside0.mk (bc_ (below_drew (Below.refl _ W2)) Y1.out)
 replace Y2 := Aside0.mk (bc_ (below_drew (Below.refl _ W2)) Y2.out)
 replace Y3 := Aside0.mk (bc_ (below_drew (Below.refl _ W2)) Y3.out)
 replace Y4 := Aside0.mk (bc_ (below_drew (Below.refl _ W2)) Y4.out)
 refine start_ (n := 10) (S := fun w' => w'.cell? ⟨w.heap.size, 1, none⟩ = some (.int .i64 i) ∧ w'.cell? ⟨g, 0, none⟩ = some (.slice (some ad) L.length c0) ∧ w'.cell? ⟨g, 3, none⟩ = some (.int .i64 p) ∧ w'.cell? (ad.add (i.toNat * 5)) = some (.int .i64 (rd_T37 L i).f0) ∧ w'.cell? ⟨(ad.add (i.toNat * 5)).block, (ad.add (i.toNat * 5)).off + 1, none⟩ = some (.int .i64 (rd_T37 L i).f1) ∧ w'.cell? ⟨(ad.add (i.toNat * 5)).block, (ad.add (i.toNat * 5)).off + 2, none⟩ = some (.int .i64 (rd_T37 L i).f2) ∧ w'.cell? ⟨(ad.add (i.toNat * 5)).block, (ad.add (i.toNat * 5)).off + 3, none⟩ = some (.int .i64 (rd_T37 L i).f3) ∧ w'.cell? ⟨(ad.add (i.toNat * 5)).block, (ad.add (i.toNat * 5)).off + 4, none⟩ = some (.int .i64 (rd_T37 L i).f4)) (ds := [9]) walk8.mk0 (by kernel_rfl) rfl rfl ⟨(blk_cell HX.out 1).trans rfl, (blk_cell HS.out.blk 0).trans rfl, (blk_cell HS.out.blk 3).trans rfl, Y0.out, Y1.out, Y2.out, Y3.out, Y4.out⟩ (fun hHeld => ?_); refine with_tabW walk8.tab walk8.bits (fun HT_ HW_ => ?_)
 generalize W2.drew = W3 at HX HS HB Y0 Y1 Y2 Y3 Y4 hHeld ⊢
 refine pz_ HT_ 0 (some 75) walk8.mk1 ?_
 refine pz_ HT_ 1 (some 76) walk8.mk2 ?_
 refine pz_ HT_ 2 (some 77) walk8.mk3 ?_
 refine pz_ HT_ 3 (some 78) walk8.mk4 ?_
 refine pz_ HT_ 5 (some 80) walk8.mk5 ?_
 refine tk_ HT_ HW_ hHeld 4 (some 79) walk8.mk6 ?_
 refine tk_ HT_ HW_ hHeld 6 (some 81) walk8.mk7 ?_
 refine pz_ HT_ 7 (some 82) walk8.mk8 ?_
 refine tk_ HT_ HW_ hHeld 8 (some 83) walk8.mk9 ?_
 refine last_ (i := 9) (N := some 84) walk8.mk10 rfl rfl (one_of HT_.out (by kernel_rfl)) (by decide) (fun K hK => ?_)
 refine gs_ Try.func119 #[.pointer (some ⟨g, 0, none⟩), .agg #[.int .i64 (rd_T37 L i).f0, .int .i64 (rd_T37 L i).f1, .int .i64 (rd_T37 L i).f2, .int .i64 (rd_T37 L i).f3, .int .i64 (rd_T37 L i).f4], .int .i64 1] ?_
 refine (goAlong_calls g _ vV vD L V D p t (rd_T37 L i).f0 (rd_T37 L i).f1 (rd_T37 L i).f2 (rd_T37 L i).f3 (rd_T37 L i).f4 1 w0 _ HS.out HB.out h0 h1).mono ?_
 rintro e w9 ⟨rfl, hS9, hB9⟩
 refine ⟨_, rfl, ?_⟩
 refine hK.out _ _ ?_
 clear hK K
 refine na_ ?_
 refine done_ (done_of HT_.out (by kernel_rfl)) ?_
 go_wp2_with fail
 go_ret
 exact ⟨rfl, hS9, hB9⟩
set_option maxHeartbeats 8000000 in
set_option maxRecDepth 100000 in
theorem walk_k1D (g : Nat) (vL vV vD : Value) (L : List S37) (V D : List Bool) (p t i : Int) (w0 w : World) (hS : ExS w w0.heap.size g vL vV vD L V D p t) (hB : Below w0.heap.size w0 w) (hwi : impl_within.f i 0 (wrap64 ((L.length : Int) - 1)) = some true) (hi0 : 0 ≤ i) (hi1 : i < (L.length : Int)) (hf0 : (rd_T37 L i).f0 ≠ p) (hf1 : (rd_T37 L i).f1 ≠ p) :
  Calls Try.prog 105 #[.pointer (some ⟨g, 0, none⟩), .agg #[.int .i64 1, .int .i64 i, .int .i64 0, .int .i64 0, .int .i64 0, .int .i64 0, .int .i64 0]] w fun e w' => e = .returned (.bool false) ∧ ExS w' w0.heap.size g vL vV vD L V D p t ∧ Below w0.heap.size w0 w' := by
 have hgw : g < w.heap.size := blk_lt hS.blk
 have hne : w.heap.size ≠ g := by omega
 have hu1 := Try.underlying39
 have hu2 := Try.underlying30
 have hu3 := Try.underlying37
 have hu4 := Try.underlying28
 obtain ⟨A0, c0, rfl⟩ := Kd.R_slice hS.rL
 obtain ⟨ad, e0, y0, y1, y2, y3, y4⟩ := at_T37 (Kd.R_reads' hS.rL).2.2 i hi0 hi1
 subst e0
 have q0 : (0 ≤ i) = True := eq_true hi0
 have q1 : (i < (L.length : Int)) = True := eq_true hi1
 have q0' : decide (0 ≤ i) = true := decide_eq_true hi0
 have q1' : decide (i < (L.length : Int)) = true := decide_eq_true hi1
 have n0 : ((rd_T37 L i).f0 != p) = true := bne_iff_ne.mpr hf0
 have n1 : ((rd_T37 L i).f1 != p) = true := bne_iff_ne.mpr hf1
 clear hf0 hf1
 have HX := Aside0.mk (blk_new w (.cells #[.int .i64 1, .int .i64 i, .int .i64 0, .int .i64 0, .int .i64 0, .int .i64 0, .int .i64 0] 39 (0, 0)))
 have HS := Aside0.mk (hS.below (below_alloc (Below.refl _ w) (.cells #[.int .i64 1, .int .i64 i, .int .i64 0, .int .i64 0, .int .i64 0, .int .i64 0, .int .i64 0] 39 (0, 0))))
 have HB := Aside0.mk (below_alloc hB (.cells #[.int .i64 1, .int .i64 i, .int .i64 0, .int .i64 0, .int .i64 0, .int .i64 0, .int .i64 0] 39 (0, 0)))
 have Y0 := Aside0.mk (bc_ (below_alloc (Below.refl _ w) (.cells #[.int .i64 1, .int .i64 i, .int .i64 0, .int .i64 0, .int .i64 0, .int .i64 0, .int .i64 0] 39 (0, 0))) y0)
 have Y1 := Aside0.mk (bc_ (below_alloc (Below.refl _ w) (.cells #[.int .i64 1, .int .i64 i, .int .i64 0, .int .i64 0, .int .i64 0, .int .i64 0, .int .i64 0] 39 (0, 0))) y1)
 have Y2 := Aside0.mk (bc_ (below_alloc (Below.refl _ w) (.cells #[.int .i64 1, .int .i64 i, .int .i64 0, .int .i64 0, .int .i64 0, .int .i64 0, .int .i64 0] 39 (0, 0))) y2)
 have Y3 := Aside0.mk (bc_ (below_alloc (Below.refl _ w) (.cells #[.int .i64 1, .int .i64 i, .int .i64 0, .int .i64 0, .int .i64 0, .int .i64 0, .int .i64 0] 39 (0, 0))) y3)
 have Y4 := Aside0.mk (bc_ (below_alloc (Below.refl _ w) (.cells #[.int .i64 1, .int .i64 i, .int .i64 0, .int .i64 0, .int .i64 0, .int .i64 0, .int .i64 0] 39 (0, 0))) y4)
 clear y0 y1 y2 y3 y4
 clear hS hB
 go_enter Try.func105, Try.ntmps105
 go_wp2_with fail
 generalize w.alloc (.cells #[.int .i64 1, .int .i64 i, .int .i64 0, .int .i64 0, .int .i64 0, .int .i64 0, .int .i64 0] 39) = W at HX HS HB Y0 Y1 Y2 Y3 Y4 ⊢
 replace HX := Aside0.mk (blk_drew HX.out)
 replace HS := Aside0.mk (HS.out.below (below_drew (Below.refl _ W)))
 replace HB := Aside0.mk (below_drew HB.out)
 replace Y0 := Aside0.mk (bc_ (below_drew (Below.refl _ W)) Y0.out)
 replace Y1 := Aside0.mk (bc_ (below_drew (Below.refl _ W)) Y1.out)
 replace Y2 := Aside0.mk (bc_ (below_drew (Below.refl _ W)) Y2.out)
 replace Y3 := Aside0.mk (bc_ (below_drew (Below.refl _ W)) Y3.out)
 replace Y4 := Aside0.mk (bc_ (below_drew (Below.refl _ W)) Y4.out)
 refine start_ (n := 42) (S := fun w' => w'.cell? ⟨w.heap.size, 1, none⟩ = some (.int .i64 i) ∧ w'.cell? ⟨g, 0, none⟩ = some (.slice (some ad) L.length c0) ∧ w'.cell? ⟨g, 3, none⟩ = some (.int .i64 p) ∧ w'.cell? (ad.add (i.toNat * 5)) = some (.int .i64 (rd_T37 L i).f0) ∧ w'.cell? ⟨(ad.add (i.toNat * 5)).block, (ad.add (i.toNat * 5)).off + 1, none⟩ = some (.int .i64 (rd_T37 L i).f1) ∧ w'.cell? ⟨(ad.add (i.toNat * 5)).block, (ad.add (i.toNat * 5)).off + 2, none⟩ = some (.int .i64 (rd_T37 L i).f2) ∧ w'.cell? ⟨(ad.add (i.toNat * 5)).block, (ad.add (i.toNat * 5)).off + 3, none⟩ = some (.int .i64 (rd_T37 L i).f3) ∧ w'.cell? ⟨(ad.add (i.toNat * 5)).block, (ad.add (i.toNat * 5)).off + 4, none⟩ = some (.int .i64 (rd_T37 L i).f4)) (ds := []) walk6.mk0 (by kernel_rfl) rfl rfl ⟨(blk_cell HX.out 1).trans rfl, (blk_cell HS.out.blk 0).trans rfl, (blk_cell HS.out.blk 3).trans rfl, Y0.out, Y1.out, Y2.out, Y3.out, Y4.out⟩ (fun hHeld => ?_); refine with_tabW walk6.tab walk6.bits (fun HT_ HW_ => ?_)
 generalize W.drew = W1 at HX HS HB Y0 Y1 Y2 Y3 Y4 hHeld ⊢
 refine pz_ HT_ 0 (some 33) walk6.mk1 ?_
 refine pz_ HT_ 2 (some 35) walk6.mk2 ?_
 refine pz_ HT_ 3 (some 36) walk6.mk3 ?_
 refine pz_ HT_ 4 (some 37) walk6.mk4 ?_
 refine tk_ HT_ HW_ hHeld 1 (some 34) walk6.mk5 ?_
 refine tk_ HT_ HW_ hHeld 5 (some 38) walk6.mk6 ?_
 refine pz_ HT_ 6 (some 39) walk6.mk7 ?_
 refine pz_ HT_ 7 (some 40) walk6.mk8 ?_
 refine one_ (i := 8) (N := some 41) walk6.mk9 rfl rfl (one_of HT_.out (by kernel_rfl)) (by decide) (fun K hK => ?_)
 refine gs_ Try.func71 #[.int .i64 i, .int .i64 0, .int .i64 (wrap64 ((L.length : Int) - 1))] ?_
 refine (impl_within.calls i 0 (wrap64 ((L.length : Int) - 1)) true _ hwi).mono ?_
 rintro e w1 ⟨rfl, ⟨n1_, rfl⟩⟩
 refine ⟨_, rfl, ?_⟩
 replace HX := Aside0.mk (blk_drewN HX.out n1_)
 replace HS := Aside0.mk (HS.out.below (pw_below_drewN (Below.refl _ _) n1_))
 replace HB := Aside0.mk (pw_below_drewN HB.out n1_)
 replace Y0 := Aside0.mk (bc_ (pw_below_drewN (Below.refl _ _) n1_) Y0.out)
 replace Y1 := Aside0.mk (bc_ (pw_below_drewN (Below.refl _ _) n1_) Y1.out)
 replace Y2 := Aside0.mk (bc_ (pw_below_drewN (Below.refl _ _) n1_) Y2.out)
 replace Y3 := Aside0.mk (bc_ (pw_below_drewN (Below.refl _ _) n1_) Y3.out)
 replace Y4 := Aside0.mk (bc_ (pw_below_drewN (Below.refl _ _) n1_) Y4.out)
 refine hK.out _ _ ⟨(blk_cell HX.out 1).trans rfl, (blk_cell HS.out.blk 0).trans rfl, (blk_cell HS.out.blk 3).trans rfl, Y0.out, Y1.out, Y2.out, Y3.out, Y4.out⟩ (fun hHeld => ?_)
 clear hK K
 refine na_ ?_
 generalize W1.drewN n1_ = W2 at HX HS HB Y0 Y1 Y2 Y3 Y4 hHeld ⊢
 refine pz_ HT_ 9 (some 42) walk6.mk10 ?_
 refine pz_ HT_ 10 (some 43) walk6.mk11 ?_
 refine pz_ HT_ 11 (some 44) walk6.mk12 ?_
 refine pz_ HT_ 12 (some 45) walk6.mk13 ?_
 refine pz_ HT_ 13 (some 46) walk6.mk14 ?_
 refine pz_ HT_ 15 (some 48) walk6.mk15 ?_
 refine pz_ HT_ 20 (some 53) walk6.mk16 ?_
 refine pz_ HT_ 21 (some 54) walk6.mk17 ?_
 refine pz_ HT_ 22 (some 55) walk6.mk18 ?_
 refine tk_ HT_ HW_ hHeld 14 (some 47) walk6.mk19 ?_
 refine tk_ HT_ HW_ hHeld 16 (some 49) walk6.mk20 ?_
 refine pz_ HT_ 17 (some 50) walk6.mk21 ?_
 refine pz_ HT_ 18 (some 51) walk6.mk22 ?_
 refine tk_ HT_ HW_ hHeld 19 (some 52) walk6.mk23 ?_
 refine tk_ HT_ HW_ hHeld 23 (some 56) walk6.mk24 ?_
 refine pz_ HT_ 24 (some 57) walk6.mk25 ?_
 refine pz_ HT_ 25 (some 58) walk6.mk26 ?_
 refine pz_ HT_ 26 (some 59) walk6.mk27 ?_
 refine pz_ HT_ 27 (some 60) walk6.mk28 ?_
 refine pz_ HT_ 28 (some 61) walk6.mk29 ?_
 refine pz_ HT_ 30 (some 63) walk6.mk30 ?_
 refine pz_ HT_ 35 (some 68) walk6.mk31 ?_
 refine pz_ HT_ 36 (some 69) walk6.mk32 ?_
 refine pz_ HT_ 37 (some 70) walk6.mk33 ?_
 refine tk_ HT_ HW_ hHeld 29 (some 62) walk6.mk34 ?_
 refine tk_ HT_ HW_ hHeld 31 (some 64) walk6.mk35 ?_
 refine pz_ HT_ 32 (some 65) walk6.mk36 ?_
 refine pz_ HT_ 33 (some 66) walk6.mk37 ?_
 refine tk_ HT_ HW_ hHeld 34 (some 67) walk6.mk38 ?_
 refine tk_ HT_ HW_ hHeld 38 (some 71) walk6.mk39 ?_
 refine pz_ HT_ 39 (some 72) walk6.mk40 ?_
 refine pz_ HT_ 40 (some 73) walk6.mk41 ?_
 refine pz_ HT_ 41 (some 74) walk6.mk42 ?_
 refine done_ (done_of HT_.out (by kernel_rfl)) ?_
 go_wp2_with fail
 go_ret
 exact ⟨rfl, HS.out, HB.out⟩
def walk10.T : Bool × List (List Nat × List Nat) := (true, [([], []), ([0], [0]), ([1], [1]), ([2], [2]), ([3, 2], [3]), ([4], [4]), ([5, 4], [4, 5]), ([6, 4], [4, 6]), ([4], [4]), ([8, 4], [4, 8]), ([9, 4], [4, 9]), ([10, 4], [4, 10]), ([7, 11, 4], [4, 7, 11]), ([4, 12], [4, 12])])
def walk10.B : List Nat := [0, 1, 3, 7, 15, 31, 63, 127, 31, 287, 799, 1823, 4095, 8191]
theorem walk10.tab : rtab .any (opsOf Try.f105 10) = walk10.T := by kernel_rfl
theorem walk10.bits : waitsOk walk10.T.2 walk10.B = true := by kernel_rfl
abbrev walk10.mk0 : Array Bool := #[fF,fF,fF,fF,fF,fF,fF,fF,fF,fF,fF,fF,fF,fF]
abbrev walk10.mk1 : Array Bool := #[tT,fF,fF,fF,fF,fF,fF,fF,fF,fF,fF,fF,fF,fF]
abbrev walk10.mk2 : Array Bool := #[tT,tT,fF,fF,fF,fF,fF,fF,fF,fF,fF,fF,fF,fF]
abbrev walk10.mk3 : Array Bool := #[tT,tT,tT,fF,fF,fF,fF,fF,fF,fF,fF,fF,fF,fF]
abbrev walk10.mk4 : Array Bool := #[tT,tT,tT,tT,fF,fF,fF,fF,fF,fF,fF,fF,fF,fF]
abbrev walk10.mk5 : Array Bool := #[tT,tT,tT,tT,tT,fF,fF,fF,fF,fF,fF,fF,fF,fF]
abbrev walk10.mk6 : Array Bool := #[tT,tT,tT,tT,tT,tT,fF,fF,fF,fF,fF,fF,fF,fF]
abbrev walk10.mk7 : Array Bool := #[tT,tT,tT,tT,tT,tT,tT,fF,fF,fF,fF,fF,fF,fF]
abbrev walk10.mk8 : Array Bool := #[tT,tT,tT,tT,tT,tT,tT,fF,tT,fF,fF,fF,fF,fF]
abbrev walk10.mk9 : Array Bool := #[tT,tT,tT,tT,tT,tT,tT,fF,tT,tT,fF,fF,fF,fF]
abbrev walk10.mk10 : Array Bool := #[tT,tT,tT,tT,tT,tT,tT,fF,tT,tT,tT,fF,fF,fF]
abbrev walk10.mk11 : Array Bool := #[tT,tT,tT,tT,tT,tT,tT,tT,tT,tT,tT,fF,fF,fF]
abbrev walk10.mk12 : Array Bool := #[tT,tT,tT,tT,tT,tT,tT,tT,tT,tT,tT,tT,fF,fF]
abbrev walk10.mk13 : Array Bool := #[tT,tT,tT,tT,tT,tT,tT,tT,tT,tT,tT,tT,tT,fF]
abbrev walk10.mk14 : Array Bool := #[tT,tT,tT,tT,tT,tT,tT,tT,tT,tT,tT,tT,tT,tT]
def walk12.T : Bool × List (List Nat × List Nat) := (true, [([], []), ([], []), ([1], [1]), ([2], [2]), ([3], [3]), ([], []), ([5], [5]), ([6], [6]), ([4, 7], [4, 7]), ([0, 0, 1, 2, 3, 4, 5, 6, 7, 8], [0]), ([9, 0, 1, 2, 3, 4, 5, 6, 7, 8], [9]), ([10, 8, 8, 0, 1, 2, 3, 4, 5, 6, 7, 8], [8, 10])])
def walk12.B : List Nat := [0, 0, 2, 6, 14, 0, 32, 96, 254, 511, 1023, 2047]
theorem walk12.tab : rtab .any (opsOf Try.f105 12) = walk12.T := by kernel_rfl
theorem walk12.bits : waitsOk walk12.T.2 walk12.B = true := by kernel_rfl
abbrev walk12.mk0 : Array Bool := #[fF,fF,fF,fF,fF,fF,fF,fF,fF,fF,fF,fF]
abbrev walk12.mk1 : Array Bool := #[tT,fF,fF,fF,fF,fF,fF,fF,fF,fF,fF,fF]
abbrev walk12.mk2 : Array Bool := #[tT,tT,fF,fF,fF,fF,fF,fF,fF,fF,fF,fF]
abbrev walk12.mk3 : Array Bool := #[tT,tT,tT,fF,fF,fF,fF,fF,fF,fF,fF,fF]
abbrev walk12.mk4 : Array Bool := #[tT,tT,tT,tT,fF,fF,fF,fF,fF,fF,fF,fF]
abbrev walk12.mk5 : Array Bool := #[tT,tT,tT,tT,fF,tT,fF,fF,fF,fF,fF,fF]
abbrev walk12.mk6 : Array Bool := #[tT,tT,tT,tT,tT,tT,fF,fF,fF,fF,fF,fF]
abbrev walk12.mk7 : Array Bool := #[tT,tT,tT,tT,tT,tT,tT,fF,fF,fF,fF,fF]
abbrev walk12.mk8 : Array Bool := #[tT,tT,tT,tT,tT,tT,tT,tT,fF,fF,fF,fF]
abbrev walk12.mk9 : Array Bool := #[tT,tT,tT,tT,tT,tT,tT,tT,tT,fF,fF,fF]
abbrev walk12.mk10 : Array Bool := #[tT,tT,tT,tT,tT,tT,tT,tT,tT,tT,fF,fF]
abbrev walk12.mk11 : Array Bool := #[tT,tT,tT,tT,tT,tT,tT,tT,tT,tT,tT,fF]
abbrev walk12.mk12 : Array Bool := #[tT,tT,tT,tT,tT,tT,tT,tT,tT,tT,tT,tT]
theorem ExS.putL {w : World} {base g : Nat} {vL vV vD : Value} {L' : List S37} {V D : List Bool} {p t : Int} {vL' : Value} (hb : w.heap[g]? = some (.cells #[vL, vV, vD, .int .i64 p, .int .i64 t] 30 (0, 0))) (gb : base ≤ g) (rL : Kd.R k37 37 w base (fun _ => True) vL' L')
  (rV : Kd.R Kd.bool 4 w base (fun k => some k ≠ vD.ownBlock) vV V) (rD : Kd.R Kd.bool 4 w base (fun k => some k ≠ vV.ownBlock) vD D) : ExS (w.setCell ⟨g, 0, none⟩ vL') base g vL' vV vD L' V D p t := by
 have hk : KeepBut w (w.setCell ⟨g, 0, none⟩ vL') g none := KeepBut.set_ (KeepBut.refl _ _ _) 0 _
 exact ⟨blk_put hb 0 _ rfl, gb, Kd.R_mono (Kd.R_keep (own_ne_ rL rfl hb (by decide)) hk (fun _ hk => hk.2)) (fun _ hk => hk.1), Kd.R_mono (Kd.R_keep (own_ne_ rV rfl hb (by decide)) hk (fun _ hk => hk.2)) (fun _ hk => hk.1), Kd.R_mono (Kd.R_keep (own_ne_ rD rfl hb (by decide)) hk (fun _ hk => hk.2)) (fun _ hk => hk.1)⟩
set_option maxHeartbeats 8000000 in
set_option maxRecDepth 100000 in
theorem walk_k2F (g : Nat) (vL vV vD : Value) (L : List S37) (V D : List Bool) (p t a b tp c s : Int) (w0 w : World) (hS : ExS w w0.heap.size g vL vV vD L V D p t) (hB : Below w0.heap.size w0 w) (hok : impl_IsLeg.f a b tp c s = some false) :
  Calls Try.prog 105 #[.pointer (some ⟨g, 0, none⟩), .agg #[.int .i64 2, .int .i64 0, .int .i64 a, .int .i64 b, .int .i64 tp, .int .i64 c, .int .i64 s]] w fun e w' => e = .returned (.bool false) ∧ ExS w' w0.heap.size g vL vV vD L V D p t ∧ Below w0.heap.size w0 w' := by
 have hgw : g < w.heap.size := blk_lt hS.blk
 have hne : w.heap.size ≠ g := by omega
 have hu1 := Try.underlying39
 have hu2 := Try.underlying30
 have hu3 := Try.underlying37
 have hu4 := Try.underlying28
 obtain ⟨A0, c0, rfl⟩ := Kd.R_slice hS.rL
 have HX := Aside0.mk (blk_new w (.cells #[.int .i64 2, .int .i64 0, .int .i64 a, .int .i64 b, .int .i64 tp, .int .i64 c, .int .i64 s] 39 (0, 0)))
 have HS := Aside0.mk (hS.below (below_alloc (Below.refl _ w) (.cells #[.int .i64 2, .int .i64 0, .int .i64 a, .int .i64 b, .int .i64 tp, .int .i64 c, .int .i64 s] 39 (0, 0))))
 have HB := Aside0.mk (below_alloc hB (.cells #[.int .i64 2, .int .i64 0, .int .i64 a, .int .i64 b, .int .i64 tp, .int .i64 c, .int .i64 s] 39 (0, 0)))
 clear hS hB
 go_enter Try.func105, Try.ntmps105
 go_wp2_with fail
 generalize w.alloc (.cells #[.int .i64 2, .int .i64 0, .int .i64 a, .int .i64 b, .int .i64 tp, .int .i64 c, .int .i64 s] 39) = W at HX HS HB ⊢
 replace HX := Aside0.mk (blk_drew HX.out)
 replace HS := Aside0.mk (HS.out.below (below_drew (Below.refl _ W)))
 replace HB := Aside0.mk (below_drew HB.out)
 refine start_ (n := 14) (S := fun w' => w'.cell? ⟨w.heap.size, 2, none⟩ = some (.int .i64 a) ∧ w'.cell? ⟨w.heap.size, 3, none⟩ = some (.int .i64 b) ∧ w'.cell? ⟨w.heap.size, 4, none⟩ = some (.int .i64 tp) ∧ w'.cell? ⟨w.heap.size, 5, none⟩ = some (.int .i64 c) ∧ w'.cell? ⟨w.heap.size, 6, none⟩ = some (.int .i64 s) ∧ w'.cell? ⟨g, 3, none⟩ = some (.int .i64 p)) (ds := []) walk10.mk0 (by kernel_rfl) rfl rfl ⟨(blk_cell HX.out 2).trans rfl, (blk_cell HX.out 3).trans rfl, (blk_cell HX.out 4).trans rfl, (blk_cell HX.out 5).trans rfl, (blk_cell HX.out 6).trans rfl, (blk_cell HS.out.blk 3).trans rfl⟩ (fun hHeld => ?_); refine with_tabW walk10.tab walk10.bits (fun HT_ HW_ => ?_)
 generalize W.drew = W1 at HX HS HB hHeld ⊢
 refine pz_ HT_ 0 (some 87) walk10.mk1 ?_
 refine tk_ HT_ HW_ hHeld 1 (some 88) walk10.mk2 ?_
 refine one_ (i := 2) (N := some 89) walk10.mk3 rfl rfl (one_of HT_.out (by kernel_rfl)) (by decide) (fun K hK => ?_)
 refine gs_ Try.func102 #[.agg #[.int .i64 a, .int .i64 b, .int .i64 tp, .int .i64 c, .int .i64 s]] ?_
 refine (impl_IsLeg.calls a b tp c s false _ hok).mono ?_
 rintro e w1 ⟨rfl, hb⟩
 refine ⟨_, rfl, ?_⟩
 replace HX := Aside0.mk (bb_ HX.out hb)
 replace HS := Aside0.mk (HS.out.below hb)
 replace HB := Aside0.mk (below_step HB.out hb)
 clear hb
 refine hK.out _ _ ⟨(blk_cell HX.out 2).trans rfl, (blk_cell HX.out 3).trans rfl, (blk_cell HX.out 4).trans rfl, (blk_cell HX.out 5).trans rfl, (blk_cell HX.out 6).trans rfl, (blk_cell HS.out.blk 3).trans rfl⟩ (fun hHeld => ?_)
 clear hK K
 refine na_ ?_
 refine pz_ HT_ 3 (some 90) walk10.mk4 ?_
 refine pz_ HT_ 4 (some 91) walk10.mk5 ?_
 refine pu_ HT_ 5 (some 92) walk10.mk6 ?_
 refine pu_ HT_ 6 (some 93) walk10.mk7 ?_
 refine pu_ HT_ 8 (some 95) walk10.mk8 ?_
 refine pu_ HT_ 9 (some 96) walk10.mk9 ?_
 refine pu_ HT_ 10 (some 97) walk10.mk10 ?_
 refine pu_ HT_ 7 (some 94) walk10.mk11 ?_
 refine pu_ HT_ 11 (some 98) walk10.mk12 ?_
 refine pu_ HT_ 12 (some 99) walk10.mk13 ?_
 refine pz_ HT_ 13 (some 100) walk10.mk14 ?_
 refine done_ (done_of HT_.out (by kernel_rfl)) ?_
 go_wp2_with fail
 go_ret
 exact ⟨rfl, HS.out, HB.out⟩
set_option maxHeartbeats 8000000 in
set_option maxRecDepth 100000 in
theorem walk_k2N (g : Nat) (vL vV vD : Value) (L : List S37) (V D : List Bool) (p t a b tp c s : Int) (w0 w : World) (hS : ExS w w0.heap.size g vL vV vD L V D p t) (hB : Below w0.heap.size w0 w) (hok : impl_IsLeg.f a b tp c s = some true) (hap : a ≠ p) :
  Calls Try.prog 105 #[.pointer (some ⟨g, 0, none⟩), .agg #[.int .i64 2, .int .i64 0, .int .i64 a, .int .i64 b, .int .i64 tp, .int .i64 c, .int .i64 s]] w fun e w' => e = .returned (.bool false) ∧ ExS w' w0.heap.size g vL vV vD L V D p t ∧ Below w0.heap.size w0 w' := by
 have hgw : g < w.heap.size := blk_lt hS.blk
 have hne : w.heap.size ≠ g := by omega
 have hu1 := Try.underlying39
 have hu2 := Try.underlying30
 have hu3 := Try.underlying37
 have hu4 := Try.underlying28
 obtain ⟨A0, c0, rfl⟩ := Kd.R_slice hS.rL
 have n0 : (a != p) = true := bne_iff_ne.mpr hap
 clear hap
 have HX := Aside0.mk (blk_new w (.cells #[.int .i64 2, .int .i64 0, .int .i64 a, .int .i64 b, .int .i64 tp, .int .i64 c, .int .i64 s] 39 (0, 0)))
 have HS := Aside0.mk (hS.below (below_alloc (Below.refl _ w) (.cells #[.int .i64 2, .int .i64 0, .int .i64 a, .int .i64 b, .int .i64 tp, .int .i64 c, .int .i64 s] 39 (0, 0))))
 have HB := Aside0.mk (below_alloc hB (.cells #[.int .i64 2, .int .i64 0, .int .i64 a, .int .i64 b, .int .i64 tp, .int .i64 c, .int .i64 s] 39 (0, 0)))
 clear hS hB
 go_enter Try.func105, Try.ntmps105
 go_wp2_with fail
 generalize w.alloc (.cells #[.int .i64 2, .int .i64 0, .int .i64 a, .int .i64 b, .int .i64 tp, .int .i64 c, .int .i64 s] 39) = W at HX HS HB ⊢
 replace HX := Aside0.mk (blk_drew HX.out)
 replace HS := Aside0.mk (HS.out.below (below_drew (Below.refl _ W)))
 replace HB := Aside0.mk (below_drew HB.out)
 refine start_ (n := 14) (S := fun w' => w'.cell? ⟨w.heap.size, 2, none⟩ = some (.int .i64 a) ∧ w'.cell? ⟨w.heap.size, 3, none⟩ = some (.int .i64 b) ∧ w'.cell? ⟨w.heap.size, 4, none⟩ = some (.int .i64 tp) ∧ w'.cell? ⟨w.heap.size, 5, none⟩ = some (.int .i64 c) ∧ w'.cell? ⟨w.heap.size, 6, none⟩ = some (.int .i64 s) ∧ w'.cell? ⟨g, 3, none⟩ = some (.int .i64 p)) (ds := []) walk10.mk0 (by kernel_rfl) rfl rfl ⟨(blk_cell HX.out 2).trans rfl, (blk_cell HX.out 3).trans rfl, (blk_cell HX.out 4).trans rfl, (blk_cell HX.out 5).trans rfl, (blk_cell HX.out 6).trans rfl, (blk_cell HS.out.blk 3).trans rfl⟩ (fun hHeld => ?_); refine with_tabW walk10.tab walk10.bits (fun HT_ HW_ => ?_)
 generalize W.drew = W1 at HX HS HB hHeld ⊢
 refine pz_ HT_ 0 (some 87) walk10.mk1 ?_
 refine tk_ HT_ HW_ hHeld 1 (some 88) walk10.mk2 ?_
 refine one_ (i := 2) (N := some 89) walk10.mk3 rfl rfl (one_of HT_.out (by kernel_rfl)) (by decide) (fun K hK => ?_)
 refine gs_ Try.func102 #[.agg #[.int .i64 a, .int .i64 b, .int .i64 tp, .int .i64 c, .int .i64 s]] ?_
 refine (impl_IsLeg.calls a b tp c s true _ hok).mono ?_
 rintro e w1 ⟨rfl, hb⟩
 refine ⟨_, rfl, ?_⟩
 replace HX := Aside0.mk (bb_ HX.out hb)
 replace HS := Aside0.mk (HS.out.below hb)
 replace HB := Aside0.mk (below_step HB.out hb)
 clear hb
 refine hK.out _ _ ⟨(blk_cell HX.out 2).trans rfl, (blk_cell HX.out 3).trans rfl, (blk_cell HX.out 4).trans rfl, (blk_cell HX.out 5).trans rfl, (blk_cell HX.out 6).trans rfl, (blk_cell HS.out.blk 3).trans rfl⟩ (fun hHeld => ?_)
 clear hK K
 refine na_ ?_
 refine pz_ HT_ 3 (some 90) walk10.mk4 ?_
 refine pz_ HT_ 4 (some 91) walk10.mk5 ?_
 refine pz_ HT_ 5 (some 92) walk10.mk6 ?_
 refine pz_ HT_ 6 (some 93) walk10.mk7 ?_
 refine pz_ HT_ 8 (some 95) walk10.mk8 ?_
 refine pz_ HT_ 9 (some 96) walk10.mk9 ?_
 refine pz_ HT_ 10 (some 97) walk10.mk10 ?_
 refine tk_ HT_ HW_ hHeld 7 (some 94) walk10.mk11 ?_
 refine tk_ HT_ HW_ hHeld 11 (some 98) walk10.mk12 ?_
 refine pz_ HT_ 12 (some 99) walk10.mk13 ?_
 refine pz_ HT_ 13 (some 100) walk10.mk14 ?_
 refine done_ (done_of HT_.out (by kernel_rfl)) ?_
 go_wp2_with fail
 go_ret
 exact ⟨rfl, HS.out, HB.out⟩
set_option maxHeartbeats 8000000 in
set_option maxRecDepth 100000 in
theorem walk_k2T (g : Nat) (vL vV vD : Value) (L : List S37) (V D : List Bool) (t a b tp c s : Int) (w0 w : World) (hS : ExS w w0.heap.size g vL vV vD L V D a t) (hB : Below w0.heap.size w0 w) (hok : impl_IsLeg.f a b tp c s = some true) (hl : L.length < 1000000) (h0 : 0 ≤ wrap64 (wrap64 (a + b) - a)) (h1 : wrap64 (wrap64 (a + b) - a) < (V.length : Int)) :
  Calls Try.prog 105 #[.pointer (some ⟨g, 0, none⟩), .agg #[.int .i64 2, .int .i64 0, .int .i64 a, .int .i64 b, .int .i64 tp, .int .i64 c, .int .i64 s]] w fun e w' => ∃ vL', e = .returned (.bool true) ∧ ExS w' w0.heap.size g vL' vV vD (L ++ [⟨a, b, tp, c, s⟩]) (V.set (wrap64 (wrap64 (a + b) - a)).toNat true) D (wrap64 (wrap64 (a + b) - a)) (wrap64 (t - wrap64 (3 * tp))) ∧ Below w0.heap.size w0 w' := by
 have hgw : g < w.heap.size := blk_lt hS.blk
 have hne : w.heap.size ≠ g := by omega
 have hu1 := Try.underlying39
 have hu2 := Try.underlying30
 have hu3 := Try.underlying37
 have hu4 := Try.underlying28
 obtain ⟨A0, c0, rfl⟩ := Kd.R_slice hS.rL
 have n0 : (a != a) = false := bne_eq_false_iff_eq.mpr rfl
 have HX := Aside0.mk (blk_new w (.cells #[.int .i64 2, .int .i64 0, .int .i64 a, .int .i64 b, .int .i64 tp, .int .i64 c, .int .i64 s] 39 (0, 0)))
 have HS := Aside0.mk (hS.below (below_alloc (Below.refl _ w) (.cells #[.int .i64 2, .int .i64 0, .int .i64 a, .int .i64 b, .int .i64 tp, .int .i64 c, .int .i64 s] 39 (0, 0))))
 have HB := Aside0.mk (below_alloc hB (.cells #[.int .i64 2, .int .i64 0, .int .i64 a, .int .i64 b, .int .i64 tp, .int .i64 c, .int .i64 s] 39 (0, 0)))
 clear hS hB
 go_enter Try.func105, Try.ntmps105
 go_wp2_with fail
 generalize w.alloc (.cells #[.int .i64 2, .int .i64 0, .int .i64 a, .int .i64 b, .int .i64 tp, .int .i64 c, .int .i64 s] 39) = W at HX HS HB ⊢
 replace HX := Aside0.mk (blk_drew HX.out)
 replace HS := Aside0.mk (HS.out.below (below_drew (Below.refl _ W)))
 replace HB := Aside0.mk (below_drew HB.out)
 refine start_ (n := 14) (S := fun w' => w'.cell? ⟨w.heap.size, 2, none⟩ = some (.int .i64 a) ∧ w'.cell? ⟨w.heap.size, 3, none⟩ = some (.int .i64 b) ∧ w'.cell? ⟨w.heap.size, 4, none⟩ = some (.int .i64 tp) ∧ w'.cell? ⟨w.heap.size, 5, none⟩ = some (.int .i64 c) ∧ w'.cell? ⟨w.heap.size, 6, none⟩ = some (.int .i64 s) ∧ w'.cell? ⟨g, 3, none⟩ = some (.int .i64 a)) (ds := []) walk10.mk0 (by kernel_rfl) rfl rfl ⟨(blk_cell HX.out 2).trans rfl, (blk_cell HX.out 3).trans rfl, (blk_cell HX.out 4).trans rfl, (blk_cell HX.out 5).trans rfl, (blk_cell HX.out 6).trans rfl, (blk_cell HS.out.blk 3).trans rfl⟩ (fun hHeld => ?_); refine with_tabW walk10.tab walk10.bits (fun HT_ HW_ => ?_)
 generalize W.drew = W1 at HX HS HB hHeld ⊢
 refine pz_ HT_ 0 (some 87) walk10.mk1 ?_
 refine tk_ HT_ HW_ hHeld 1 (some 88) walk10.mk2 ?_
 refine one_ (i := 2) (N := some 89) walk10.mk3 rfl rfl (one_of HT_.out (by kernel_rfl)) (by decide) (fun K hK => ?_)
 refine gs_ Try.func102 #[.agg #[.int .i64 a, .int .i64 b, .int .i64 tp, .int .i64 c, .int .i64 s]] ?_
 refine (impl_IsLeg.calls a b tp c s true _ hok).mono ?_
 rintro e w1 ⟨rfl, hb⟩
 refine ⟨_, rfl, ?_⟩
 replace HX := Aside0.mk (bb_ HX.out hb)
 replace HS := Aside0.mk (HS.out.below hb)
 replace HB := Aside0.mk (below_step HB.out hb)
 clear hb
 refine hK.out _ _ ⟨(blk_cell HX.out 2).trans rfl, (blk_cell HX.out 3).trans rfl, (blk_cell HX.out 4).trans rfl, (blk_cell HX.out 5).trans rfl, (blk_cell HX.out 6).trans rfl, (blk_cell HS.out.blk 3).trans rfl⟩ (fun hHeld => ?_)
 clear hK K
 refine na_ ?_
 refine pz_ HT_ 3 (some 90) walk10.mk4 ?_
 refine pz_ HT_ 4 (some 91) walk10.mk5 ?_
 refine pz_ HT_ 5 (some 92) walk10.mk6 ?_
 refine pz_ HT_ 6 (some 93) walk10.mk7 ?_
 refine pz_ HT_ 8 (some 95) walk10.mk8 ?_
 refine pz_ HT_ 9 (some 96) walk10.mk9 ?_
 refine pz_ HT_ 10 (some 97) walk10.mk10 ?_
 refine tk_ HT_ HW_ hHeld 7 (some 94) walk10.mk11 ?_
 refine tk_ HT_ HW_ hHeld 11 (some 98) walk10.mk12 ?_
 refine pz_ HT_ 12 (some 99) walk10.mk13 ?_
 refine pz_ HT_ 13 (some 100) walk10.mk14 ?_
 refine done_ (done_of HT_.out (by kernel_rfl)) ?_
 go_wp2_with fail
 replace HX := Aside0.mk (blk_drew HX.out)
 replace HS := Aside0.mk (HS.out.below (below_drew (Below.refl _ w1)))
 replace HB := Aside0.mk (below_drew HB.out)
 refine start_ (n := 12) (S := fun w' => w'.cell? ⟨w.heap.size, 2, none⟩ = some (.int .i64 a) ∧ w'.cell? ⟨w.heap.size, 3, none⟩ = some (.int .i64 b) ∧ w'.cell? ⟨w.heap.size, 4, none⟩ = some (.int .i64 tp) ∧ w'.cell? ⟨w.heap.size, 5, none⟩ = some (.int .i64 c) ∧ w'.cell? ⟨w.heap.size, 6, none⟩ = some (.int .i64 s) ∧ w'.cell? ⟨g, 0, none⟩ = some (.slice A0 L.length c0)) (ds := [8, 11]) walk12.mk0 (by kernel_rfl) rfl rfl ⟨(blk_cell HX.out 2).trans rfl, (blk_cell HX.out 3).trans rfl, (blk_cell HX.out 4).trans rfl, (blk_cell HX.out 5).trans rfl, (blk_cell HX.out 6).trans rfl, (blk_cell HS.out.blk 0).trans rfl⟩ (fun hHeld => ?_); refine with_tabW walk12.tab walk12.bits (fun HT_ HW_ => ?_)
 generalize w1.drew = W3 at HX HS HB hHeld ⊢
 refine pz_ HT_ 0 (some 101) walk12.mk1 ?_
 refine pz_ HT_ 1 (some 102) walk12.mk2 ?_
 refine pz_ HT_ 2 (some 103) walk12.mk3 ?_
 refine pz_ HT_ 3 (some 104) walk12.mk4 ?_
 refine pz_ HT_ 5 (some 106) walk12.mk5 ?_
 refine tk_ HT_ HW_ hHeld 4 (some 105) walk12.mk6 ?_
 refine tk_ HT_ HW_ hHeld 6 (some 107) walk12.mk7 ?_
 refine one_ (i := 7) (N := some 108) walk12.mk8 rfl rfl (one_of HT_.out (by kernel_rfl)) (by decide) (fun K hK => ?_)
 refine value_ (w1 := ?_) (v := ?_) (by rfl) rfl ?_ ?_
 rotate_left 2
 ·
  go_simp
  constructor
  ·
   rfl
  ·
   rfl
 refine hK.out _ _ ⟨(blk_cell (blk_alloc HX.out _) 2).trans rfl, (blk_cell (blk_alloc HX.out _) 3).trans rfl, (blk_cell (blk_alloc HX.out _) 4).trans rfl, (blk_cell (blk_alloc HX.out _) 5).trans rfl, (blk_cell (blk_alloc HX.out _) 6).trans rfl, (blk_cell (blk_alloc HS.out.blk _) 0).trans rfl⟩ (fun hHeld => ?_)
 clear hK K
 refine na_ ?_
 refine last_ (i := 8) (N := some 109) walk12.mk9 rfl rfl (one_of HT_.out (by kernel_rfl)) (by decide) (fun K hK => ?_)
 refine Kd.R_append_step k37 w0.heap.size (by rfl) (.tmp 105) (.tmp 108) 28 37 (.agg #[(.int .i64 0), (.int .i64 0), (.int .i64 0), (.int .i64 0), (.int .i64 0)]) 40 rfl Try.underlying28 info37 rfl (by decide) (by omega) (.slice A0 L.length c0) L (⟨a, b, tp, c, s⟩ : S37) [.int .i64 a, .int .i64 b, .int .i64 tp, .int .i64 c, .int .i64 s] (fun _ => True) (fun _ => False) rfl rfl ?aP (fun _ hk => hk.elim) ?aF ?aO HB.out ?aS ?aL ?_
 (case aP => exact k37_mkM _ _ _ (⟨a, b, tp, c, s⟩ : S37))
 (case aF => exact (fun _ _ => trivial))
 (case aO => exact HS.out.rL)
 (case aS => exact HB.out.size)
 (case aL => omega)
 intro v9 w5 ho hb hg hat
 replace HX := Aside0.mk (blk_grown HX.out hg (Kd.R_ne HS.out.rL HX.out (by decide)))
 have HBK := Aside0.mk (blk_grown HS.out.blk hg (Kd.R_ne HS.out.rL HS.out.blk (by decide)))
 have HRV := Aside0.mk (Kd.R_over' HS.out.rV (Kd.R_typed HS.out.rL) (by decide) hg)
 have HRD := Aside0.mk (Kd.R_over' HS.out.rD (Kd.R_typed HS.out.rL) (by decide) hg)
 have HGB := Aside0.mk HS.out.gb
 replace HB := Aside0.mk hb
 clear HS hb hg hat
 obtain ⟨A9, c9, e9⟩ := Kd.R_slice ho
 rw [show (L ++ [(⟨a, b, tp, c, s⟩ : S37)]).length = L.length + 1 from List.length_append] at e9
 subst e9
 have HRL := Aside0.mk ho
 clear ho
 refine hK.out _ _ ?_
 clear hK K
 refine na_ ?_
 refine pz_ HT_ 9 (some 110) walk12.mk10 ?_
 refine pz_ HT_ 10 (some 111) walk12.mk11 ?_
 refine last_ (i := 11) (N := none) walk12.mk12 rfl rfl (one_of HT_.out (by kernel_rfl)) (by decide) (fun K hK => ?_)
 have hs9 : w5.cell? ⟨g, 0, none⟩ = some (.slice A0 L.length c0) := (blk_cell HBK.out 0).trans rfl
 have hfs9 := blk_frozen HBK.out 0
 refine skip_ (w1 := ?_) (by rfl) rfl ?_ ?_
 rotate_left
 ·
  go_simp
  rfl
 refine hK.out _ _ ?_
 clear hK K hs9 hfs9
 refine done_ (done_of HT_.out (by kernel_rfl)) ?_
 have HS := Aside0.mk (ExS.putL HBK.out HGB.out HRL.out HRV.out HRD.out)
 replace HX := Aside0.mk (blk_far (p := ⟨g, 0, none⟩) HX.out hne (.slice A9 (L.length + 1) c9))
 replace HB := Aside0.mk (below_set (j := 0) (v := .slice A9 (L.length + 1) c9) HB.out HGB.out)
 clear HBK HGB HRL HRV HRD
 generalize w5.setCell ⟨g, 0, none⟩ (.slice A9 (L.length + 1) c9) = W5 at HX HS HB ⊢
 have x2 : W5.cell? ⟨w.heap.size, 2, none⟩ = some (.int .i64 a) := (blk_cell HX.out 2).trans rfl
 have x3 : W5.cell? ⟨w.heap.size, 3, none⟩ = some (.int .i64 b) := (blk_cell HX.out 3).trans rfl
 have x4 : W5.cell? ⟨w.heap.size, 4, none⟩ = some (.int .i64 tp) := (blk_cell HX.out 4).trans rfl
 have x5 : W5.cell? ⟨w.heap.size, 5, none⟩ = some (.int .i64 c) := (blk_cell HX.out 5).trans rfl
 have x6 : W5.cell? ⟨w.heap.size, 6, none⟩ = some (.int .i64 s) := (blk_cell HX.out 6).trans rfl
 go_wp2_with (go_at_call 119; refine (goAlong_calls g _ vV vD _ V D a t a b tp c s 3 w0 _ HS.out HB.out h0 h1).mono ?_; rintro e w9 ⟨rfl, hS9, hB9⟩)
 go_ret
 exact ⟨_, rfl, hS9, hB9⟩
set_option maxHeartbeats 8000000 in
set_option maxRecDepth 100000 in
theorem walk_c0 (g : Nat) (vL vV vD : Value) (L : List S37) (V D : List Bool) (p t k i a b tp c s : Int) (w0 w : World) (hS : ExS w w0.heap.size g vL vV vD L V D p t) (hB : Below w0.heap.size w0 w) (c0 : (k ≠ 2 ∧ ¬ (a = 0 ∧ b = 0 ∧ tp = 0 ∧ c = 0 ∧ s = 0)) ∨ ((k = 2 ∨ k = 3) ∧ i ≠ 0)) :
  Calls Try.prog 105 #[.pointer (some ⟨g, 0, none⟩), .agg #[.int .i64 k, .int .i64 i, .int .i64 a, .int .i64 b, .int .i64 tp, .int .i64 c, .int .i64 s]] w fun e w' => ∃ vL', e = .returned (.bool false) ∧ ExS w' w0.heap.size g vL' vV vD L V D p t ∧ Below w0.heap.size w0 w' := by
 have hgw : g < w.heap.size := blk_lt hS.blk
 have HX := Aside0.mk (blk_new w (.cells #[.int .i64 k, .int .i64 i, .int .i64 a, .int .i64 b, .int .i64 tp, .int .i64 c, .int .i64 s] 39 (0, 0)))
 have HS := Aside0.mk (hS.below (below_alloc (Below.refl _ w) (.cells #[.int .i64 k, .int .i64 i, .int .i64 a, .int .i64 b, .int .i64 tp, .int .i64 c, .int .i64 s] 39 (0, 0))))
 have HB := Aside0.mk (below_alloc hB (.cells #[.int .i64 k, .int .i64 i, .int .i64 a, .int .i64 b, .int .i64 tp, .int .i64 c, .int .i64 s] 39 (0, 0)))
 have hne : w.heap.size ≠ g := by omega
 clear hS hB
 go_enter Try.func105, Try.ntmps105
 go_wp2_with fail
 all_goals first | (go_ret; exact ⟨_, rfl, HS.out, HB.out⟩) | (go_ret; subst_vars; exact ⟨_, rfl, HS.out, HB.out⟩) | (go_ret; exact ⟨rfl, ⟨_, HS.out⟩, HB.out⟩) | (exfalso; rcases c0 with ⟨h1, h2⟩ | ⟨h1 | h1, h2⟩ <;> first | omega | exact h2 ⟨rfl, rfl, rfl, rfl, rfl⟩ | (simp_all; done)) | go_outline
set_option maxHeartbeats 8000000 in
set_option maxRecDepth 100000 in
theorem walk_k3 (g : Nat) (vL vV vD : Value) (L : List S37) (V D : List Bool) (p t k i : Int) (L' : List S37) (V' D' : List Bool) (p' t' : Int) (r : Bool) (w0 w : World) (hS : ExS w w0.heap.size g vL vV vD L V D p t) (hB : Below w0.heap.size w0 w) (c0 : ¬ ((k ≠ 2 ∧ ¬ ((0 : Int) = 0 ∧ (0 : Int) = 0 ∧ (0 : Int) = 0 ∧ (0 : Int) = 0 ∧ (0 : Int) = 0)) ∨ ((k = 2 ∨ k = 3) ∧ i ≠ 0))) (k1 : ¬ k = 1) (k2 : ¬ k = 2) (h : (if k = 3 then (if 0 ≤ p ∧ p < (D.length : Int) then (if rdOf false D p = true then some (L, V, D, p, t, false) else some (L, V, D.set p.toNat true, p, t, true)) else none) else if k = 4 then (if p = 0 ∧ 1 ≤ i ∧ i ≤ 1000 then some (L, V, D, p, wrap64 (t + i), true) else some (L, V, D, p, t, false)) else some (L, V, D, p, t, false)) = some (L', V', D', p', t', r)) :
  Calls Try.prog 105 #[.pointer (some ⟨g, 0, none⟩), .agg #[.int .i64 k, .int .i64 i, .int .i64 0, .int .i64 0, .int .i64 0, .int .i64 0, .int .i64 0]] w fun e w' => ∃ vL', e = .returned (.bool r) ∧ ExS w' w0.heap.size g vL' vV vD L' V' D' p' t' ∧ Below w0.heap.size w0 w' := by
 have hgw : g < w.heap.size := blk_lt hS.blk
 have HX := Aside0.mk (blk_new w (.cells #[.int .i64 k, .int .i64 i, .int .i64 0, .int .i64 0, .int .i64 0, .int .i64 0, .int .i64 0] 39 (0, 0)))
 have HS := Aside0.mk (hS.below (below_alloc (Below.refl _ w) (.cells #[.int .i64 k, .int .i64 i, .int .i64 0, .int .i64 0, .int .i64 0, .int .i64 0, .int .i64 0] 39 (0, 0))))
 have HB := Aside0.mk (below_alloc hB (.cells #[.int .i64 k, .int .i64 i, .int .i64 0, .int .i64 0, .int .i64 0, .int .i64 0, .int .i64 0] 39 (0, 0)))
 have hne : w.heap.size ≠ g := by omega
 clear hS hB
 by_cases k3 : k = 3
 ·
  subst k3
  obtain rfl : i = 0 := Classical.byContradiction fun z => c0 (.inr ⟨.inr rfl, z⟩)
  rw [if_pos rfl] at h
  by_cases hpp : 0 ≤ p ∧ p < (D.length : Int)
  ·
   rw [if_pos hpp] at h
   obtain ⟨hp0, hp1⟩ := hpp
   obtain ⟨gv, cap, rfl, hgv, hcap, _⟩ := own_block_ HS.out.rD (by omega)
   have g2 : (w.alloc (.cells #[.int .i64 3, .int .i64 0, .int .i64 0, .int .i64 0, .int .i64 0, .int .i64 0, .int .i64 0] 39)).cell? ⟨g, 2, none⟩ = some (.slice (some ⟨gv, 0, none⟩) D.length cap) := (blk_cell HS.out.blk 2).trans rfl
   have g3 : (w.alloc (.cells #[.int .i64 3, .int .i64 0, .int .i64 0, .int .i64 0, .int .i64 0, .int .i64 0, .int .i64 0] 39)).cell? ⟨g, 3, none⟩ = some (.int .i64 p) := (blk_cell HS.out.blk 3).trans rfl
   obtain ⟨yv, zv⟩ := Kd.R_celln false HS.out.rD p hp0 hp1
   cases hd : rdOf false D p with
   | true =>
    rw [hd] at h yv
    rw [if_pos rfl] at h
    simp only [Option.some.injEq, Prod.mk.injEq] at h
    obtain ⟨rfl, rfl, rfl, rfl, rfl, rfl⟩ := h
    go_enter Try.func105, Try.ntmps105
    go_wp2_with fail
    go_quiet (fail)
    go_wp2_with fail
    go_ret
    first | exact ⟨_, rfl, HS.out.below (pw_below_drewN (Below.refl _ _) _), pw_below_drewN HB.out _⟩ | exact ⟨rfl, ⟨_, HS.out.below (pw_below_drewN (Below.refl _ _) _)⟩, pw_below_drewN HB.out _⟩
   | false =>
    rw [hd] at h yv
    rw [if_neg (by decide)] at h
    simp only [Option.some.injEq, Prod.mk.injEq] at h
    obtain ⟨rfl, rfl, rfl, rfl, rfl, rfl⟩ := h
    go_enter Try.func105, Try.ntmps105
    go_wp2_with fail
    go_quiet (fail)
    go_wp2_with fail
    generalize hq_ : World.drewN (w.alloc (.cells #[.int .i64 3, .int .i64 0, .int .i64 0, .int .i64 0, .int .i64 0, .int .i64 0, .int .i64 0] 39)) _ = W
    have n2_ := Aside0.mk (HS.out.below (hq_ ▸ pw_below_drewN (Below.refl _ _) _))
    have n3_ := Aside0.mk (hq_ ▸ pw_below_drewN HB.out _ : Below w0.heap.size w0 W)
    clear HX HS HB g2 g3 yv zv hq_
    have HS := n2_
    have HB := n3_
    clear n2_ n3_
    have g2 : W.cell? ⟨g, 2, none⟩ = some (.slice (some ⟨gv, 0, none⟩) D.length cap) := (blk_cell HS.out.blk 2).trans rfl
    have g3 : W.cell? ⟨g, 3, none⟩ = some (.int .i64 p) := (blk_cell HS.out.blk 3).trans rfl
    obtain ⟨yv, zv⟩ := Kd.R_celln false HS.out.rD p hp0 hp1
    go_still_tail 9, (by kernel_rfl)
    go_wp2_with fail
    go_ret
    have n2_ := (HS.out.putD p true).below (below_drew (Below.refl _ _))
    have n3_ := below_drew (below_set (j := p.toNat) (v := .bool true) HB.out hgv)
    first | exact ⟨_, rfl, n2_, n3_⟩ | exact ⟨rfl, ⟨_, n2_⟩, n3_⟩
  ·
   rw [if_neg hpp] at h
   cases h
 ·
  rw [if_neg k3] at h
  by_cases k4 : k = 4
  ·
   subst k4
   rw [if_pos rfl] at h
   have hwi : impl_within.f i 1 1000 = some (decide (1 ≤ i ∧ i ≤ 1000)) := by
    unfold impl_within.f
    by_cases z : i ≥ 1
    ·
     rw [if_pos z]
     simp [show 1 ≤ i from z]
    ·
     rw [if_neg z]
     simp [show ¬ 1 ≤ i from z]
   have g3 : (w.alloc (.cells #[.int .i64 4, .int .i64 i, .int .i64 0, .int .i64 0, .int .i64 0, .int .i64 0, .int .i64 0] 39)).cell? ⟨g, 3, none⟩ = some (.int .i64 p) := (blk_cell HS.out.blk 3).trans rfl
   by_cases hp : p = 0
   ·
    subst hp
    by_cases hi : 1 ≤ i ∧ i ≤ 1000
    ·
     rw [if_pos ⟨rfl, hi⟩] at h
     rw [decide_eq_true hi] at hwi
     simp only [Option.some.injEq, Prod.mk.injEq] at h
     obtain ⟨rfl, rfl, rfl, rfl, rfl, rfl⟩ := h
     go_enter Try.func105, Try.ntmps105
     go_wp2_with (go_at_call 71; refine (impl_within.calls i 1 1000 true _ hwi).mono ?_; rintro e w1 ⟨rfl, ⟨n1, rfl⟩⟩)
     have n1_ := Aside0.mk (blk_drewN HX.out n1)
     have n2_ := Aside0.mk (HS.out.below (pw_below_drewN (Below.refl _ _) n1))
     have n3_ := Aside0.mk (pw_below_drewN HB.out n1)
     clear HX HS HB g3
     have HX := n1_
     have HS := n2_
     have HB := n3_
     clear n1_ n2_ n3_
     generalize (w.alloc (.cells #[.int .i64 4, .int .i64 i, .int .i64 0, .int .i64 0, .int .i64 0, .int .i64 0, .int .i64 0] 39)).drewN n1 = W at HX HS HB ⊢
     have x1 : W.cell? ⟨w.heap.size, 1, none⟩ = some (.int .i64 i) := (blk_cell HX.out 1).trans rfl
     have g4 : W.cell? ⟨g, 4, none⟩ = some (.int .i64 t) := (blk_cell HS.out.blk 4).trans rfl
     have z4 := blk_frozen HS.out.blk 4
     go_still_tail 9, (by kernel_rfl)
     go_wp2_with fail
     go_ret
     exact ⟨_, rfl, (HS.out.put4 (wrap64 (t + i))).below (below_drew (Below.refl _ _)), below_drew (below_set (j := 4) (v := .int .i64 (wrap64 (t + i))) HB.out HS.out.gb)⟩
    ·
     rw [if_neg (fun z => hi z.2)] at h
     rw [decide_eq_false hi] at hwi
     simp only [Option.some.injEq, Prod.mk.injEq] at h
     obtain ⟨rfl, rfl, rfl, rfl, rfl, rfl⟩ := h
     go_enter Try.func105, Try.ntmps105
     go_wp2_with (go_at_call 71; refine (impl_within.calls i 1 1000 false _ hwi).mono ?_; rintro e w1 ⟨rfl, ⟨n1, rfl⟩⟩)
     go_ret
     exact ⟨_, rfl, HS.out.below (pw_below_drewN (Below.refl _ _) n1), pw_below_drewN HB.out n1⟩
   ·
    rw [if_neg (fun z => hp z.1)] at h
    simp only [Option.some.injEq, Prod.mk.injEq] at h
    obtain ⟨rfl, rfl, rfl, rfl, rfl, rfl⟩ := h
    go_enter Try.func105, Try.ntmps105
    go_wp2_with fail
    go_ret
    first | exact ⟨_, rfl, HS.out, HB.out⟩ | exact ⟨rfl, ⟨_, HS.out⟩, HB.out⟩ | trace_state
  ·
   rw [if_neg k4] at h
   simp only [Option.some.injEq, Prod.mk.injEq] at h
   obtain ⟨rfl, rfl, rfl, rfl, rfl, rfl⟩ := h
   go_enter Try.func105, Try.ntmps105
   go_wp2_with fail
   all_goals first | (go_ret; exact ⟨_, rfl, HS.out, HB.out⟩) | (go_ret; subst_vars; exact ⟨_, rfl, HS.out, HB.out⟩) | (go_ret; exact ⟨rfl, ⟨_, HS.out⟩, HB.out⟩) | (exfalso; omega) | (go_ret; trace_state)
set_option maxHeartbeats 8000000 in
set_option maxRecDepth 100000 in
theorem walk_calls (g : Nat) (vL vV vD : Value) (L : List S37) (V D : List Bool) (p t k i a b tp c s : Int) (L' : List S37) (V' D' : List Bool) (p' t' : Int) (r : Bool) (w0 w : World) (hS : ExS w w0.heap.size g vL vV vD L V D p t) (hB : Below w0.heap.size w0 w) (h : walk_f L V D p t k i a b tp c s = some (L', V', D', p', t', r)) :
  Calls Try.prog 105 #[.pointer (some ⟨g, 0, none⟩), .agg #[.int .i64 k, .int .i64 i, .int .i64 a, .int .i64 b, .int .i64 tp, .int .i64 c, .int .i64 s]] w fun e w' => ∃ vL', e = .returned (.bool r) ∧ ExS w' w0.heap.size g vL' vV vD L' V' D' p' t' ∧ Below w0.heap.size w0 w' := by
 unfold walk_f at h
 by_cases c0 : (k ≠ 2 ∧ ¬ (a = 0 ∧ b = 0 ∧ tp = 0 ∧ c = 0 ∧ s = 0)) ∨ ((k = 2 ∨ k = 3) ∧ i ≠ 0)
 ·
  rw [if_pos c0] at h
  simp only [Option.some.injEq, Prod.mk.injEq] at h
  obtain ⟨rfl, rfl, rfl, rfl, rfl, rfl⟩ := h
  exact walk_c0 g vL vV vD L V D p t k i a b tp c s w0 w hS hB c0
 ·
  rw [if_neg c0] at h
  by_cases k1 : k = 1
  ·
   subst k1
   obtain ⟨rfl, rfl, rfl, rfl, rfl⟩ : a = 0 ∧ b = 0 ∧ tp = 0 ∧ c = 0 ∧ s = 0 := Classical.byContradiction fun z => c0 (.inl ⟨by decide, z⟩)
   rw [if_pos rfl] at h
   have hL : L.length ≤ 9223372036854775807 := by
    obtain ⟨A0, c0, rfl⟩ := Kd.R_slice hS.rL
    exact (Kd.R_reads' hS.rL).2.2.2.1
   by_cases hin : 0 ≤ i ∧ i ≤ wrap64 ((L.length : Int) - 1)
   ·
    rw [if_pos hin] at h
    have hwi : impl_within.f i 0 (wrap64 ((L.length : Int) - 1)) = some true := by
     unfold impl_within.f
     rw [if_pos hin.1, decide_eq_true hin.2]
    have hi1 : i < (L.length : Int) := by
     obtain ⟨z1, z2⟩ := hin
     unfold wrap64 at z2
     omega
    by_cases hn : (rd_T37 L i).f0 ≠ p ∧ (rd_T37 L i).f1 ≠ p
    ·
     rw [if_pos hn] at h
     simp only [Option.some.injEq, Prod.mk.injEq] at h
     obtain ⟨rfl, rfl, rfl, rfl, rfl, rfl⟩ := h
     exact (walk_k1D g vL vV vD L V D p t i w0 w hS hB hwi hin.1 hi1 hn.1 hn.2).mono (fun e w' h => ⟨vL, h⟩)
    ·
     rw [if_neg hn] at h
     by_cases hv : 0 ≤ wrap64 (wrap64 ((rd_T37 L i).f0 + (rd_T37 L i).f1) - p) ∧ wrap64 (wrap64 ((rd_T37 L i).f0 + (rd_T37 L i).f1) - p) < (V.length : Int)
     ·
      rw [if_pos hv] at h
      simp only [Option.some.injEq, Prod.mk.injEq] at h
      obtain ⟨rfl, rfl, rfl, rfl, rfl, rfl⟩ := h
      by_cases hf0 : (rd_T37 L i).f0 = p
      ·
       exact (walk_k1B g vL vV vD L V D p t i w0 w hS hB hwi hin.1 hi1 hf0 hv.1 hv.2).mono (fun e w' h => ⟨vL, h⟩)
      ·
       exact (walk_k1C g vL vV vD L V D p t i w0 w hS hB hwi hin.1 hi1 hf0 (Classical.byContradiction fun z => hn ⟨hf0, z⟩) hv.1 hv.2).mono (fun e w' h => ⟨vL, h⟩)
     ·
      rw [if_neg hv] at h
      cases h
   ·
    rw [if_neg hin] at h
    simp only [Option.some.injEq, Prod.mk.injEq] at h
    obtain ⟨rfl, rfl, rfl, rfl, rfl, rfl⟩ := h
    have hwi : impl_within.f i 0 (wrap64 ((L.length : Int) - 1)) = some false := by
     unfold impl_within.f
     by_cases z : i ≥ 0
     ·
      rw [if_pos z, decide_eq_false (fun y => hin ⟨z, y⟩)]
     ·
      rw [if_neg z]
    exact (walk_k1A g vL vV vD L V D p t i w0 w hS hB hwi).mono (fun e w' h => ⟨vL, h⟩)
  ·
   rw [if_neg k1] at h
   by_cases k2 : k = 2
   ·
    subst k2
    obtain rfl : i = 0 := Classical.byContradiction fun z => c0 (.inr ⟨.inl rfl, z⟩)
    rw [if_pos rfl] at h
    obtain ⟨ok, hok, h⟩ := Option.bind_eq_some_iff.mp h
    cases ok with
    | false =>
     rw [if_neg (fun z => by cases z.1)] at h
     simp only [Option.some.injEq, Prod.mk.injEq] at h
     obtain ⟨rfl, rfl, rfl, rfl, rfl, rfl⟩ := h
     exact (walk_k2F g vL vV vD L V D p t a b tp c s w0 w hS hB hok).mono (fun e w' h => ⟨vL, h⟩)
    | true =>
     by_cases hap : a = p
     ·
      subst hap
      rw [if_pos ⟨rfl, rfl⟩] at h
      by_cases hv : L.length < 1000000 ∧ 0 ≤ wrap64 (wrap64 (a + b) - a) ∧ wrap64 (wrap64 (a + b) - a) < (V.length : Int)
      ·
       rw [if_pos hv] at h
       simp only [Option.some.injEq, Prod.mk.injEq] at h
       obtain ⟨rfl, rfl, rfl, rfl, rfl, rfl⟩ := h
       exact walk_k2T g vL vV vD L V D t a b tp c s w0 w hS hB hok hv.1 hv.2.1 hv.2.2
      ·
       rw [if_neg hv] at h
       cases h
     ·
      rw [if_neg (fun z => hap z.2)] at h
      simp only [Option.some.injEq, Prod.mk.injEq] at h
      obtain ⟨rfl, rfl, rfl, rfl, rfl, rfl⟩ := h
      exact (walk_k2N g vL vV vD L V D p t a b tp c s w0 w hS hB hok hap).mono (fun e w' h => ⟨vL, h⟩)
   ·
    rw [if_neg k2] at h
    obtain ⟨rfl, rfl, rfl, rfl, rfl⟩ : a = 0 ∧ b = 0 ∧ tp = 0 ∧ c = 0 ∧ s = 0 := Classical.byContradiction fun z => c0 (.inl ⟨k2, z⟩)
    exact walk_k3 g vL vV vD L V D p t k i L' V' D' p' t' r w0 w hS hB c0 k1 k2 h
section
variable {w w0 : World} {g base : Nat} {t : TypeId}
theorem set5_R {α : Type} {d : Kd α} {e : Nat} {ok : Nat → Prop} {v : Value} {xs : List α} {cs : Array Value} (h : d.R e w base ok v xs) (hb : w.heap[g]? = some (.cells cs t (0, 0))) (ht : ∀ q, q ∈ e :: d.E → q ≠ t) (a0 a1 a2 a3 a4 : Value) :
  d.R e (((((w.setCell ⟨g, 0, none⟩ a0).setCell ⟨g, 1, none⟩ a1).setCell ⟨g, 2, none⟩ a2).setCell ⟨g, 3, none⟩ a3).setCell ⟨g, 4, none⟩ a4) base ok v xs :=
 Kd.R_mono (Kd.R_far (p := ⟨g, 4, none⟩) (Kd.R_far (p := ⟨g, 3, none⟩) (Kd.R_far (p := ⟨g, 2, none⟩) (Kd.R_far (p := ⟨g, 1, none⟩) (Kd.R_far (p := ⟨g, 0, none⟩) (Kd.R_types h hb ht) (fun _ hk => hk.2) a0) (fun _ hk => hk.2) a1) (fun _ hk => hk.2) a2) (fun _ hk => hk.2) a3) (fun _ hk => hk.2) a4) (fun _ hk => hk.1)
theorem set5_blk {b0 b1 b2 b3 b4 : Value} (h : w.heap[g]? = some (.cells #[b0, b1, b2, b3, b4] t (0, 0))) (a0 a1 a2 a3 a4 : Value) :
  (((((w.setCell ⟨g, 0, none⟩ a0).setCell ⟨g, 1, none⟩ a1).setCell ⟨g, 2, none⟩ a2).setCell ⟨g, 3, none⟩ a3).setCell ⟨g, 4, none⟩ a4).heap[g]? = some (.cells #[a0, a1, a2, a3, a4] t (0, 0)) :=
 blk_put (cs := #[a0, a1, a2, a3, b4]) (blk_put (cs := #[a0, a1, a2, b3, b4]) (blk_put (cs := #[a0, a1, b2, b3, b4]) (blk_put (cs := #[a0, b1, b2, b3, b4]) (blk_put (cs := #[b0, b1, b2, b3, b4]) h 0 _ rfl) 1 _ rfl) 2 _ rfl) 3 _ rfl) 4 _ rfl
theorem set5_below (h : Below w0.heap.size w0 w) (hg : w0.heap.size ≤ g) (a0 a1 a2 a3 a4 : Value) :
  Below w0.heap.size w0 (((((w.setCell ⟨g, 0, none⟩ a0).setCell ⟨g, 1, none⟩ a1).setCell ⟨g, 2, none⟩ a2).setCell ⟨g, 3, none⟩ a3).setCell ⟨g, 4, none⟩ a4) :=
 below_set (below_set (below_set (below_set (below_set h hg) hg) hg) hg) hg
end
def impl_walkOn.f (k : Nat) (l0_0 : List S37) (l0_1 : List Bool) (l0_2 : List Bool) (a0_3 : Int) (a0_4 : Int) (a1_0 : Int) (a1_1 : Int) (a1_2 : Int) (a1_3 : Int) (a1_4 : Int) (a1_5 : Int) (a1_6 : Int) : Option (List S37 × List Bool × List Bool × Int × Int × Bool) :=
 (impl_Exploration_clone.f l0_0 l0_1 l0_2 a0_3 a0_4).bind fun x => (walk_f x.1 x.2.1 x.2.2.1 x.2.2.2.1 x.2.2.2.2 a1_0 a1_1 a1_2 a1_3 a1_4 a1_5 a1_6).bind fun y => if y.2.2.2.2.2 = true then (impl_IsExploration.f k y.1 y.2.1 y.2.2.1 y.2.2.2.1 y.2.2.2.2.1).bind fun q => if q = true then some (y.1, y.2.1, y.2.2.1, y.2.2.2.1, y.2.2.2.2.1, true) else some ([], [], [], 0, 0, false) else some ([], [], [], 0, 0, false)
theorem impl_walkOn.mono : ∀ a0 a1 a2 a3 a4 b0 b1 b2 b3 b4 b5 b6 k, LeO (impl_walkOn.f k a0 a1 a2 a3 a4 b0 b1 b2 b3 b4 b5 b6) (impl_walkOn.f (k + 1) a0 a1 a2 a3 a4 b0 b1 b2 b3 b4 b5 b6) := by
 intro a0 a1 a2 a3 a4 b0 b1 b2 b3 b4 b5 b6 k
 unfold impl_walkOn.f
 refine LeO.bind (LeO.refl _) (fun x => LeO.bind (LeO.refl _) (fun y => LeO.ite ?_ (LeO.refl _)))
 exact LeO.bind (impl_IsExploration.mono _ _ _ _ _ k) (fun _ => LeO.refl _)
set_option maxHeartbeats 8000000 in
set_option maxRecDepth 100000 in
theorem walkOn_a (k : Nat) (A0_0 : Option Addr) (c0_0 : Nat) (l0_0 : List (S37)) (A0_1 : Option Addr) (c0_1 : Nat) (l0_1 : List Bool) (A0_2 : Option Addr) (c0_2 : Nat) (l0_2 : List Bool) (a0_3 : Int) (a0_4 : Int) (a1_0 : Int) (a1_1 : Int) (a1_2 : Int) (a1_3 : Int) (a1_4 : Int) (a1_5 : Int) (a1_6 : Int) (L : List S37) (V D : List Bool) (p t : Int) (L' : List S37) (V' D' : List Bool) (p' t' : Int) (w : World) (hr0_0 : Kd.C k37 w A0_0 l0_0.length l0_0) (hc0_0 : l0_0.length ≤ c0_0) (hr0_1 : Kd.C Kd.bool w A0_1 l0_1.length l0_1) (hc0_1 : l0_1.length ≤ c0_1) (hr0_2 : Kd.C Kd.bool w A0_2 l0_2.length l0_2) (hc0_2 : l0_2.length ≤ c0_2) (hcl : impl_Exploration_clone.f l0_0 l0_1 l0_2 a0_3 a0_4 = some (L, V, D, p, t)) (hwf : walk_f L V D p t a1_0 a1_1 a1_2 a1_3 a1_4 a1_5 a1_6 = some (L', V', D', p', t', false)) :
  Calls Try.prog 76 #[.agg #[.slice A0_0 l0_0.length c0_0, .slice A0_1 l0_1.length c0_1, .slice A0_2 l0_2.length c0_2, .int .i64 a0_3, .int .i64 a0_4], .agg #[.int .i64 a1_0, .int .i64 a1_1, .int .i64 a1_2, .int .i64 a1_3, .int .i64 a1_4, .int .i64 a1_5, .int .i64 a1_6]] w fun e w' => ∃ v0_ v1_ v2_ : Value, e = .returned (.tuple #[.agg #[v0_, v1_, v2_, .int .i64 0, .int .i64 0], .bool false]) ∧ Kd.R k37 37 w' w.heap.size (fun _ => True) v0_ [] ∧ Kd.R Kd.bool 4 w' w.heap.size (fun k_ => some k_ ≠ (v2_ : Value).ownBlock) v1_ [] ∧ Kd.R Kd.bool 4 w' w.heap.size (fun k_ => some k_ ≠ (v1_ : Value).ownBlock) v2_ [] ∧ Below w.heap.size w w' := by
 have hu1 := Try.underlying39
 have hu2 := Try.underlying30
 have HB := Aside0.mk (Below.refl w.heap.size w)
 have HR0 := Aside0.mk hr0_0
 have HC0 := Aside0.mk hc0_0
 have HR1 := Aside0.mk hr0_1
 have HC1 := Aside0.mk hc0_1
 have HR2 := Aside0.mk hr0_2
 have HC2 := Aside0.mk hc0_2
 clear hr0_0 hc0_0 hr0_1 hc0_1 hr0_2 hc0_2
 go_enter Try.func76, Try.ntmps76
 go_upto_region 2 with (first | ((with_reducible refine gate_dst (N := 2) rfl ?_); refine box_event ?hg (N := 2) ?hd (cs := #[.slice A0_0 l0_0.length c0_0, .slice A0_1 l0_1.length c0_1, .slice A0_2 l0_2.length c0_2, .int .i64 a0_3, .int .i64 a0_4]) (t := 30) ?hr ?_; (case hd => rfl); (case hg => rfl); (case hr => first | (go_simp; done) | (go_simp; rfl)); intro gb2 hg w2 hbox hb; have BKb2 := Aside0.mk hbox; replace HB := Aside0.mk (below_step (lb0_ HB.out) hb); clear hb hbox hg) | ((with_reducible refine gate_dst (N := 3) rfl ?_); refine box_event ?hg (N := 3) ?hd (cs := #[.int .i64 a1_0, .int .i64 a1_1, .int .i64 a1_2, .int .i64 a1_3, .int .i64 a1_4, .int .i64 a1_5, .int .i64 a1_6]) (t := 39) ?hr ?_; (case hd => rfl); (case hg => rfl); (case hr => first | (go_simp; done) | (go_simp; rfl)); intro gb3 hg w3 hbox hb; have BKb3 := Aside0.mk hbox; replace BKb2 := Aside0.mk (bb_ BKb2.out hb); replace HB := Aside0.mk (below_step (lb0_ HB.out) hb); clear hb hbox hg) | ((with_reducible refine gate_dst (N := 4) rfl ?_); refine box_event ?hg (N := 4) ?hd (cs := #[.slice none 0 0, .slice none 0 0, .slice none 0 0, .int .i64 0, .int .i64 0]) (t := 30) ?hr ?_; (case hd => rfl); (case hg => rfl); (case hr => first | (go_simp; done) | (go_simp; rfl)); intro gb4 hg w4 hbox hb; have BKb4 := Aside0.mk hbox; have GE4 := Aside0.mk (bz_ hg (lb0_ HB.out)); replace BKb2 := Aside0.mk (bb_ BKb2.out hb); replace BKb3 := Aside0.mk (bb_ BKb3.out hb); have HA := Aside0.mk (below_step (lb0_ HB.out) hb); clear HB hb hbox hg; have HB := Aside0.mk (Below.refl w4.heap.size w4); obtain ⟨hcz0, hcz1, hcz2, hcz3, hcz4⟩ := cz5_ BKb2.out; obtain ⟨hfz0, hfz1, hfz2, hfz3, hfz4⟩ := fz5_ BKb2.out) | ((with_reducible refine gate_callee (f := 83) rfl ?_); refine ga_ (some 8) Try.func83 #[.agg #[.slice A0_0 l0_0.length c0_0, .slice A0_1 l0_1.length c0_1, .slice A0_2 l0_2.length c0_2, .int .i64 a0_3, .int .i64 a0_4]] ?_; refine (impl_Exploration_clone.calls _ _ l0_0 _ _ l0_1 _ _ l0_2 a0_3 a0_4 L V D p t _ (Kd.C_below HR0.out HA.out) HC0.out (Kd.C_below HR1.out HA.out) HC1.out (Kd.C_below HR2.out HA.out) HC2.out hcl).mono ?_; rintro e w5 ⟨v0, v1, v2, rfl, ho0, ho1, ho2, hb⟩; refine ⟨_, rfl, ?_⟩; clear hcz0 hcz1 hcz2 hcz3 hcz4 hfz0 hfz1 hfz2 hfz3 hfz4; obtain ⟨Ad, cd, rfl⟩ := Kd.R_slice ho0; obtain ⟨Ae, ce, rfl⟩ := Kd.R_slice ho1; obtain ⟨Af, cf, rfl⟩ := Kd.R_slice ho2; replace HB := Aside0.mk hb; have HO0 := Aside0.mk ho0; have HO1 := Aside0.mk ho1; have HO2 := Aside0.mk ho2; clear hb ho0 ho1 ho2) | ((with_reducible refine gate_dst (N := 6) rfl ?_); refine box_event ?hg (N := 6) ?hd (cs := #[.slice none 0 0, .slice none 0 0, .slice none 0 0, .int .i64 0, .int .i64 0]) (t := 30) ?hr ?_; (case hd => rfl); (case hg => rfl); (case hr => first | (go_simp; done) | (go_simp; rfl)); intro gb6 hg w6 hbox hb; have BKb6 := Aside0.mk hbox; have GE6 := Aside0.mk (bz_ hg HB.out); replace HO0 := Aside0.mk (Kd.R_below HO0.out hb); replace HO1 := Aside0.mk (Kd.R_below HO1.out hb); replace HO2 := Aside0.mk (Kd.R_below HO2.out hb); replace HB := Aside0.mk (below_step HB.out hb); clear hb hbox hg; obtain ⟨hcz0, hcz1, hcz2, hcz3, hcz4⟩ := cz5_ BKb6.out; obtain ⟨hfz0, hfz1, hfz2, hfz3, hfz4⟩ := fz5_ BKb6.out))
 clear hcz0 hcz1 hcz2 hcz3 hcz4 hfz0 hfz1 hfz2 hfz3 hfz4
 have HS : Aside0 (ExS (((((w6.setCell ⟨gb6, 0, none⟩ (.slice Ad L.length cd)).setCell ⟨gb6, 1, none⟩ (.slice Ae V.length ce)).setCell ⟨gb6, 2, none⟩ (.slice Af D.length cf)).setCell ⟨gb6, 3, none⟩ (.int .i64 p)).setCell ⟨gb6, 4, none⟩ (.int .i64 t)) w4.heap.size gb6 (.slice Ad L.length cd) (.slice Ae V.length ce) (.slice Af D.length cf) L V D p t) := ⟨⟨set5_blk BKb6.out (.slice Ad L.length cd) (.slice Ae V.length ce) (.slice Af D.length cf) (.int .i64 p) (.int .i64 t), GE6.out, set5_R HO0.out BKb6.out (by decide) (.slice Ad L.length cd) (.slice Ae V.length ce) (.slice Af D.length cf) (.int .i64 p) (.int .i64 t), set5_R HO1.out BKb6.out (by decide) (.slice Ad L.length cd) (.slice Ae V.length ce) (.slice Af D.length cf) (.int .i64 p) (.int .i64 t), set5_R HO2.out BKb6.out (by decide) (.slice Ad L.length cd) (.slice Ae V.length ce) (.slice Af D.length cf) (.int .i64 p) (.int .i64 t)⟩⟩
 replace HB : Aside0 (Below w4.heap.size w4 (((((w6.setCell ⟨gb6, 0, none⟩ (.slice Ad L.length cd)).setCell ⟨gb6, 1, none⟩ (.slice Ae V.length ce)).setCell ⟨gb6, 2, none⟩ (.slice Af D.length cf)).setCell ⟨gb6, 3, none⟩ (.int .i64 p)).setCell ⟨gb6, 4, none⟩ (.int .i64 t))) := ⟨set5_below HB.out GE6.out (.slice Ad L.length cd) (.slice Ae V.length ce) (.slice Af D.length cf) (.int .i64 p) (.int .i64 t)⟩
 clear HO0 HO1 HO2 BKb6
 generalize (((((w6.setCell ⟨gb6, 0, none⟩ (.slice Ad L.length cd)).setCell ⟨gb6, 1, none⟩ (.slice Ae V.length ce)).setCell ⟨gb6, 2, none⟩ (.slice Af D.length cf)).setCell ⟨gb6, 3, none⟩ (.int .i64 p)).setCell ⟨gb6, 4, none⟩ (.int .i64 t)) = w7 at HS HB ⊢
 obtain ⟨hcz0, hcz1, hcz2, hcz3, hcz4, hcz5, hcz6⟩ := cz7_ (blk_below BKb3.out HB.out)
 go_wp2_with ((go_at_call 105; refine (walk_calls gb6 _ _ _ L V D p t a1_0 a1_1 a1_2 a1_3 a1_4 a1_5 a1_6 L' V' D' p' t' false w4 _ HS.out HB.out hwf).mono ?_; rintro e w9 ⟨vL', rfl, hS9, hB9⟩; clear hcz0 hcz1 hcz2 hcz3 hcz4 hcz5 hcz6; obtain ⟨Aa, ca, rfl⟩ := Kd.R_slice hS9.rL; have eV : V.length = V'.length := (Kd.R_reads' hS9.rV).1; have eD : D.length = D'.length := (Kd.R_reads' hS9.rD).1; rw [eV, eD] at hS9; clear eV eD; obtain ⟨hcz0, hcz1, hcz2, hcz3, hcz4⟩ := cz5_ hS9.blk; have HS9 := Aside0.mk hS9; have HB9 := Aside0.mk hB9; clear hS9 hB9; obtain ⟨hdz0, hdz1, hdz2, hdz3, hdz4⟩ := cz5_ (blk_below BKb4.out HB9.out); obtain ⟨hfz0, hfz1, hfz2, hfz3, hfz4⟩ := fz5_ (blk_below BKb4.out HB9.out)))
 refine bodyPost_ret (results_ct rfl _ _ gb4 30 #[(.slice none 0 0), (.slice none 0 0), (.slice none 0 0), (.int .i64 0), (.int .i64 0)] (0, 0) _ rfl (set5_blk (blk_below BKb4.out HB9.out) (.slice none 0 0) (.slice none 0 0) (.slice none 0 0) (.int .i64 0) (.int .i64 0)) Try.underlying30 rfl (by kernel_rfl)) rfl ?_
 exact ⟨_, _, _, rr_, Kd.R_nil _ _ _ _ _, Kd.R_nil _ _ _ _ _, Kd.R_nil _ _ _ _ _, set5_below (below_step HA.out HB9.out) GE4.out (.slice none 0 0) (.slice none 0 0) (.slice none 0 0) (.int .i64 0) (.int .i64 0)⟩
set_option maxHeartbeats 8000000 in
set_option maxRecDepth 100000 in
theorem walkOn_b (k : Nat) (A0_0 : Option Addr) (c0_0 : Nat) (l0_0 : List (S37)) (A0_1 : Option Addr) (c0_1 : Nat) (l0_1 : List Bool) (A0_2 : Option Addr) (c0_2 : Nat) (l0_2 : List Bool) (a0_3 : Int) (a0_4 : Int) (a1_0 : Int) (a1_1 : Int) (a1_2 : Int) (a1_3 : Int) (a1_4 : Int) (a1_5 : Int) (a1_6 : Int) (L : List S37) (V D : List Bool) (p t : Int) (L' : List S37) (V' D' : List Bool) (p' t' : Int) (w : World) (hr0_0 : Kd.C k37 w A0_0 l0_0.length l0_0) (hc0_0 : l0_0.length ≤ c0_0) (hr0_1 : Kd.C Kd.bool w A0_1 l0_1.length l0_1) (hc0_1 : l0_1.length ≤ c0_1) (hr0_2 : Kd.C Kd.bool w A0_2 l0_2.length l0_2) (hc0_2 : l0_2.length ≤ c0_2) (hcl : impl_Exploration_clone.f l0_0 l0_1 l0_2 a0_3 a0_4 = some (L, V, D, p, t)) (hwf : walk_f L V D p t a1_0 a1_1 a1_2 a1_3 a1_4 a1_5 a1_6 = some (L', V', D', p', t', true)) (hie : impl_IsExploration.f k L' V' D' p' t' = some false) :
  Calls Try.prog 76 #[.agg #[.slice A0_0 l0_0.length c0_0, .slice A0_1 l0_1.length c0_1, .slice A0_2 l0_2.length c0_2, .int .i64 a0_3, .int .i64 a0_4], .agg #[.int .i64 a1_0, .int .i64 a1_1, .int .i64 a1_2, .int .i64 a1_3, .int .i64 a1_4, .int .i64 a1_5, .int .i64 a1_6]] w fun e w' => ∃ v0_ v1_ v2_ : Value, e = .returned (.tuple #[.agg #[v0_, v1_, v2_, .int .i64 0, .int .i64 0], .bool false]) ∧ Kd.R k37 37 w' w.heap.size (fun _ => True) v0_ [] ∧ Kd.R Kd.bool 4 w' w.heap.size (fun k_ => some k_ ≠ (v2_ : Value).ownBlock) v1_ [] ∧ Kd.R Kd.bool 4 w' w.heap.size (fun k_ => some k_ ≠ (v1_ : Value).ownBlock) v2_ [] ∧ Below w.heap.size w w' := by
 have hu1 := Try.underlying39
 have hu2 := Try.underlying30
 have HB := Aside0.mk (Below.refl w.heap.size w)
 have HR0 := Aside0.mk hr0_0
 have HC0 := Aside0.mk hc0_0
 have HR1 := Aside0.mk hr0_1
 have HC1 := Aside0.mk hc0_1
 have HR2 := Aside0.mk hr0_2
 have HC2 := Aside0.mk hc0_2
 clear hr0_0 hc0_0 hr0_1 hc0_1 hr0_2 hc0_2
 go_enter Try.func76, Try.ntmps76
 go_upto_region 2 with (first | ((with_reducible refine gate_dst (N := 2) rfl ?_); refine box_event ?hg (N := 2) ?hd (cs := #[.slice A0_0 l0_0.length c0_0, .slice A0_1 l0_1.length c0_1, .slice A0_2 l0_2.length c0_2, .int .i64 a0_3, .int .i64 a0_4]) (t := 30) ?hr ?_; (case hd => rfl); (case hg => rfl); (case hr => first | (go_simp; done) | (go_simp; rfl)); intro gb2 hg w2 hbox hb; have BKb2 := Aside0.mk hbox; replace HB := Aside0.mk (below_step (lb0_ HB.out) hb); clear hb hbox hg) | ((with_reducible refine gate_dst (N := 3) rfl ?_); refine box_event ?hg (N := 3) ?hd (cs := #[.int .i64 a1_0, .int .i64 a1_1, .int .i64 a1_2, .int .i64 a1_3, .int .i64 a1_4, .int .i64 a1_5, .int .i64 a1_6]) (t := 39) ?hr ?_; (case hd => rfl); (case hg => rfl); (case hr => first | (go_simp; done) | (go_simp; rfl)); intro gb3 hg w3 hbox hb; have BKb3 := Aside0.mk hbox; replace BKb2 := Aside0.mk (bb_ BKb2.out hb); replace HB := Aside0.mk (below_step (lb0_ HB.out) hb); clear hb hbox hg) | ((with_reducible refine gate_dst (N := 4) rfl ?_); refine box_event ?hg (N := 4) ?hd (cs := #[.slice none 0 0, .slice none 0 0, .slice none 0 0, .int .i64 0, .int .i64 0]) (t := 30) ?hr ?_; (case hd => rfl); (case hg => rfl); (case hr => first | (go_simp; done) | (go_simp; rfl)); intro gb4 hg w4 hbox hb; have BKb4 := Aside0.mk hbox; have GE4 := Aside0.mk (bz_ hg (lb0_ HB.out)); replace BKb2 := Aside0.mk (bb_ BKb2.out hb); replace BKb3 := Aside0.mk (bb_ BKb3.out hb); have HA := Aside0.mk (below_step (lb0_ HB.out) hb); clear HB hb hbox hg; have HB := Aside0.mk (Below.refl w4.heap.size w4); obtain ⟨hcz0, hcz1, hcz2, hcz3, hcz4⟩ := cz5_ BKb2.out; obtain ⟨hfz0, hfz1, hfz2, hfz3, hfz4⟩ := fz5_ BKb2.out) | ((with_reducible refine gate_callee (f := 83) rfl ?_); refine ga_ (some 8) Try.func83 #[.agg #[.slice A0_0 l0_0.length c0_0, .slice A0_1 l0_1.length c0_1, .slice A0_2 l0_2.length c0_2, .int .i64 a0_3, .int .i64 a0_4]] ?_; refine (impl_Exploration_clone.calls _ _ l0_0 _ _ l0_1 _ _ l0_2 a0_3 a0_4 L V D p t _ (Kd.C_below HR0.out HA.out) HC0.out (Kd.C_below HR1.out HA.out) HC1.out (Kd.C_below HR2.out HA.out) HC2.out hcl).mono ?_; rintro e w5 ⟨v0, v1, v2, rfl, ho0, ho1, ho2, hb⟩; refine ⟨_, rfl, ?_⟩; clear hcz0 hcz1 hcz2 hcz3 hcz4 hfz0 hfz1 hfz2 hfz3 hfz4; obtain ⟨Ad, cd, rfl⟩ := Kd.R_slice ho0; obtain ⟨Ae, ce, rfl⟩ := Kd.R_slice ho1; obtain ⟨Af, cf, rfl⟩ := Kd.R_slice ho2; replace HB := Aside0.mk hb; have HO0 := Aside0.mk ho0; have HO1 := Aside0.mk ho1; have HO2 := Aside0.mk ho2; clear hb ho0 ho1 ho2) | ((with_reducible refine gate_dst (N := 6) rfl ?_); refine box_event ?hg (N := 6) ?hd (cs := #[.slice none 0 0, .slice none 0 0, .slice none 0 0, .int .i64 0, .int .i64 0]) (t := 30) ?hr ?_; (case hd => rfl); (case hg => rfl); (case hr => first | (go_simp; done) | (go_simp; rfl)); intro gb6 hg w6 hbox hb; have BKb6 := Aside0.mk hbox; have GE6 := Aside0.mk (bz_ hg HB.out); replace HO0 := Aside0.mk (Kd.R_below HO0.out hb); replace HO1 := Aside0.mk (Kd.R_below HO1.out hb); replace HO2 := Aside0.mk (Kd.R_below HO2.out hb); replace HB := Aside0.mk (below_step HB.out hb); clear hb hbox hg; obtain ⟨hcz0, hcz1, hcz2, hcz3, hcz4⟩ := cz5_ BKb6.out; obtain ⟨hfz0, hfz1, hfz2, hfz3, hfz4⟩ := fz5_ BKb6.out))
 clear hcz0 hcz1 hcz2 hcz3 hcz4 hfz0 hfz1 hfz2 hfz3 hfz4
 have HS : Aside0 (ExS (((((w6.setCell ⟨gb6, 0, none⟩ (.slice Ad L.length cd)).setCell ⟨gb6, 1, none⟩ (.slice Ae V.length ce)).setCell ⟨gb6, 2, none⟩ (.slice Af D.length cf)).setCell ⟨gb6, 3, none⟩ (.int .i64 p)).setCell ⟨gb6, 4, none⟩ (.int .i64 t)) w4.heap.size gb6 (.slice Ad L.length cd) (.slice Ae V.length ce) (.slice Af D.length cf) L V D p t) := ⟨⟨set5_blk BKb6.out (.slice Ad L.length cd) (.slice Ae V.length ce) (.slice Af D.length cf) (.int .i64 p) (.int .i64 t), GE6.out, set5_R HO0.out BKb6.out (by decide) (.slice Ad L.length cd) (.slice Ae V.length ce) (.slice Af D.length cf) (.int .i64 p) (.int .i64 t), set5_R HO1.out BKb6.out (by decide) (.slice Ad L.length cd) (.slice Ae V.length ce) (.slice Af D.length cf) (.int .i64 p) (.int .i64 t), set5_R HO2.out BKb6.out (by decide) (.slice Ad L.length cd) (.slice Ae V.length ce) (.slice Af D.length cf) (.int .i64 p) (.int .i64 t)⟩⟩
 replace HB : Aside0 (Below w4.heap.size w4 (((((w6.setCell ⟨gb6, 0, none⟩ (.slice Ad L.length cd)).setCell ⟨gb6, 1, none⟩ (.slice Ae V.length ce)).setCell ⟨gb6, 2, none⟩ (.slice Af D.length cf)).setCell ⟨gb6, 3, none⟩ (.int .i64 p)).setCell ⟨gb6, 4, none⟩ (.int .i64 t))) := ⟨set5_below HB.out GE6.out (.slice Ad L.length cd) (.slice Ae V.length ce) (.slice Af D.length cf) (.int .i64 p) (.int .i64 t)⟩
 clear HO0 HO1 HO2 BKb6
 generalize (((((w6.setCell ⟨gb6, 0, none⟩ (.slice Ad L.length cd)).setCell ⟨gb6, 1, none⟩ (.slice Ae V.length ce)).setCell ⟨gb6, 2, none⟩ (.slice Af D.length cf)).setCell ⟨gb6, 3, none⟩ (.int .i64 p)).setCell ⟨gb6, 4, none⟩ (.int .i64 t)) = w7 at HS HB ⊢
 obtain ⟨hcz0, hcz1, hcz2, hcz3, hcz4, hcz5, hcz6⟩ := cz7_ (blk_below BKb3.out HB.out)
 go_wp2_with (first | (go_at_call 105; refine (walk_calls gb6 _ _ _ L V D p t a1_0 a1_1 a1_2 a1_3 a1_4 a1_5 a1_6 L' V' D' p' t' true w4 _ HS.out HB.out hwf).mono ?_; rintro e w9 ⟨vL', rfl, hS9, hB9⟩; clear hcz0 hcz1 hcz2 hcz3 hcz4 hcz5 hcz6; obtain ⟨Aa, ca, rfl⟩ := Kd.R_slice hS9.rL; have eV : V.length = V'.length := (Kd.R_reads' hS9.rV).1; have eD : D.length = D'.length := (Kd.R_reads' hS9.rD).1; rw [eV, eD] at hS9; clear eV eD; obtain ⟨hcz0, hcz1, hcz2, hcz3, hcz4⟩ := cz5_ hS9.blk; have HS9 := Aside0.mk hS9; have HB9 := Aside0.mk hB9; clear hS9 hB9) | (go_at_call 18; refine (impl_IsExploration.calls k _ _ L' _ _ V' _ _ D' p' t' false _ (Kd.R_reads' HS9.out.rL).2.2 (Kd.R_reads' HS9.out.rL).2.1 (Kd.R_reads' HS9.out.rV).2.2 (Kd.R_reads' HS9.out.rV).2.1 (Kd.R_reads' HS9.out.rD).2.2 (Kd.R_reads' HS9.out.rD).2.1 hie).mono ?_; rintro e w10 ⟨rfl, hb⟩; clear hcz0 hcz1 hcz2 hcz3 hcz4; replace HS9 := Aside0.mk (HS9.out.below hb); replace HB9 := Aside0.mk (below_step HB9.out hb); clear hb; obtain ⟨hcz0, hcz1, hcz2, hcz3, hcz4⟩ := cz5_ HS9.out.blk; obtain ⟨hdz0, hdz1, hdz2, hdz3, hdz4⟩ := cz5_ (blk_below BKb4.out HB9.out); obtain ⟨hfz0, hfz1, hfz2, hfz3, hfz4⟩ := fz5_ (blk_below BKb4.out HB9.out)))
 refine bodyPost_ret (results_ct rfl _ _ gb4 30 #[(.slice none 0 0), (.slice none 0 0), (.slice none 0 0), (.int .i64 0), (.int .i64 0)] (0, 0) _ rfl (set5_blk (blk_below BKb4.out HB9.out) (.slice none 0 0) (.slice none 0 0) (.slice none 0 0) (.int .i64 0) (.int .i64 0)) Try.underlying30 rfl (by kernel_rfl)) rfl ?_
 exact ⟨_, _, _, rr_, Kd.R_nil _ _ _ _ _, Kd.R_nil _ _ _ _ _, Kd.R_nil _ _ _ _ _, set5_below (below_step HA.out HB9.out) GE4.out (.slice none 0 0) (.slice none 0 0) (.slice none 0 0) (.int .i64 0) (.int .i64 0)⟩
set_option maxHeartbeats 8000000 in
set_option maxRecDepth 100000 in
theorem walkOn_c (k : Nat) (A0_0 : Option Addr) (c0_0 : Nat) (l0_0 : List (S37)) (A0_1 : Option Addr) (c0_1 : Nat) (l0_1 : List Bool) (A0_2 : Option Addr) (c0_2 : Nat) (l0_2 : List Bool) (a0_3 : Int) (a0_4 : Int) (a1_0 : Int) (a1_1 : Int) (a1_2 : Int) (a1_3 : Int) (a1_4 : Int) (a1_5 : Int) (a1_6 : Int) (L : List S37) (V D : List Bool) (p t : Int) (L' : List S37) (V' D' : List Bool) (p' t' : Int) (w : World) (hr0_0 : Kd.C k37 w A0_0 l0_0.length l0_0) (hc0_0 : l0_0.length ≤ c0_0) (hr0_1 : Kd.C Kd.bool w A0_1 l0_1.length l0_1) (hc0_1 : l0_1.length ≤ c0_1) (hr0_2 : Kd.C Kd.bool w A0_2 l0_2.length l0_2) (hc0_2 : l0_2.length ≤ c0_2) (hcl : impl_Exploration_clone.f l0_0 l0_1 l0_2 a0_3 a0_4 = some (L, V, D, p, t)) (hwf : walk_f L V D p t a1_0 a1_1 a1_2 a1_3 a1_4 a1_5 a1_6 = some (L', V', D', p', t', true)) (hie : impl_IsExploration.f k L' V' D' p' t' = some true) :
  Calls Try.prog 76 #[.agg #[.slice A0_0 l0_0.length c0_0, .slice A0_1 l0_1.length c0_1, .slice A0_2 l0_2.length c0_2, .int .i64 a0_3, .int .i64 a0_4], .agg #[.int .i64 a1_0, .int .i64 a1_1, .int .i64 a1_2, .int .i64 a1_3, .int .i64 a1_4, .int .i64 a1_5, .int .i64 a1_6]] w fun e w' => ∃ v0_ v1_ v2_ : Value, e = .returned (.tuple #[.agg #[v0_, v1_, v2_, .int .i64 p', .int .i64 t'], .bool true]) ∧ Kd.R k37 37 w' w.heap.size (fun _ => True) v0_ L' ∧ Kd.R Kd.bool 4 w' w.heap.size (fun k_ => some k_ ≠ (v2_ : Value).ownBlock) v1_ V' ∧ Kd.R Kd.bool 4 w' w.heap.size (fun k_ => some k_ ≠ (v1_ : Value).ownBlock) v2_ D' ∧ Below w.heap.size w w' := by
 have hu1 := Try.underlying39
 have hu2 := Try.underlying30
 have HB := Aside0.mk (Below.refl w.heap.size w)
 have HR0 := Aside0.mk hr0_0
 have HC0 := Aside0.mk hc0_0
 have HR1 := Aside0.mk hr0_1
 have HC1 := Aside0.mk hc0_1
 have HR2 := Aside0.mk hr0_2
 have HC2 := Aside0.mk hc0_2
 clear hr0_0 hc0_0 hr0_1 hc0_1 hr0_2 hc0_2
 go_enter Try.func76, Try.ntmps76
 go_upto_region 2 with (first | ((with_reducible refine gate_dst (N := 2) rfl ?_); refine box_event ?hg (N := 2) ?hd (cs := #[.slice A0_0 l0_0.length c0_0, .slice A0_1 l0_1.length c0_1, .slice A0_2 l0_2.length c0_2, .int .i64 a0_3, .int .i64 a0_4]) (t := 30) ?hr ?_; (case hd => rfl); (case hg => rfl); (case hr => first | (go_simp; done) | (go_simp; rfl)); intro gb2 hg w2 hbox hb; have BKb2 := Aside0.mk hbox; replace HB := Aside0.mk (below_step (lb0_ HB.out) hb); clear hb hbox hg) | ((with_reducible refine gate_dst (N := 3) rfl ?_); refine box_event ?hg (N := 3) ?hd (cs := #[.int .i64 a1_0, .int .i64 a1_1, .int .i64 a1_2, .int .i64 a1_3, .int .i64 a1_4, .int .i64 a1_5, .int .i64 a1_6]) (t := 39) ?hr ?_; (case hd => rfl); (case hg => rfl); (case hr => first | (go_simp; done) | (go_simp; rfl)); intro gb3 hg w3 hbox hb; have BKb3 := Aside0.mk hbox; replace BKb2 := Aside0.mk (bb_ BKb2.out hb); replace HB := Aside0.mk (below_step (lb0_ HB.out) hb); clear hb hbox hg) | ((with_reducible refine gate_dst (N := 4) rfl ?_); refine box_event ?hg (N := 4) ?hd (cs := #[.slice none 0 0, .slice none 0 0, .slice none 0 0, .int .i64 0, .int .i64 0]) (t := 30) ?hr ?_; (case hd => rfl); (case hg => rfl); (case hr => first | (go_simp; done) | (go_simp; rfl)); intro gb4 hg w4 hbox hb; have BKb4 := Aside0.mk hbox; have GE4 := Aside0.mk (bz_ hg (lb0_ HB.out)); replace BKb2 := Aside0.mk (bb_ BKb2.out hb); replace BKb3 := Aside0.mk (bb_ BKb3.out hb); have HA := Aside0.mk (below_step (lb0_ HB.out) hb); clear HB hb hbox hg; have HB := Aside0.mk (Below.refl w4.heap.size w4); obtain ⟨hcz0, hcz1, hcz2, hcz3, hcz4⟩ := cz5_ BKb2.out; obtain ⟨hfz0, hfz1, hfz2, hfz3, hfz4⟩ := fz5_ BKb2.out) | ((with_reducible refine gate_callee (f := 83) rfl ?_); refine ga_ (some 8) Try.func83 #[.agg #[.slice A0_0 l0_0.length c0_0, .slice A0_1 l0_1.length c0_1, .slice A0_2 l0_2.length c0_2, .int .i64 a0_3, .int .i64 a0_4]] ?_; refine (impl_Exploration_clone.calls _ _ l0_0 _ _ l0_1 _ _ l0_2 a0_3 a0_4 L V D p t _ (Kd.C_below HR0.out HA.out) HC0.out (Kd.C_below HR1.out HA.out) HC1.out (Kd.C_below HR2.out HA.out) HC2.out hcl).mono ?_; rintro e w5 ⟨v0, v1, v2, rfl, ho0, ho1, ho2, hb⟩; refine ⟨_, rfl, ?_⟩; clear hcz0 hcz1 hcz2 hcz3 hcz4 hfz0 hfz1 hfz2 hfz3 hfz4; obtain ⟨Ad, cd, rfl⟩ := Kd.R_slice ho0; obtain ⟨Ae, ce, rfl⟩ := Kd.R_slice ho1; obtain ⟨Af, cf, rfl⟩ := Kd.R_slice ho2; replace HB := Aside0.mk hb; have HO0 := Aside0.mk ho0; have HO1 := Aside0.mk ho1; have HO2 := Aside0.mk ho2; clear hb ho0 ho1 ho2) | ((with_reducible refine gate_dst (N := 6) rfl ?_); refine box_event ?hg (N := 6) ?hd (cs := #[.slice none 0 0, .slice none 0 0, .slice none 0 0, .int .i64 0, .int .i64 0]) (t := 30) ?hr ?_; (case hd => rfl); (case hg => rfl); (case hr => first | (go_simp; done) | (go_simp; rfl)); intro gb6 hg w6 hbox hb; have BKb6 := Aside0.mk hbox; have GE6 := Aside0.mk (bz_ hg HB.out); replace HO0 := Aside0.mk (Kd.R_below HO0.out hb); replace HO1 := Aside0.mk (Kd.R_below HO1.out hb); replace HO2 := Aside0.mk (Kd.R_below HO2.out hb); replace HB := Aside0.mk (below_step HB.out hb); clear hb hbox hg; obtain ⟨hcz0, hcz1, hcz2, hcz3, hcz4⟩ := cz5_ BKb6.out; obtain ⟨hfz0, hfz1, hfz2, hfz3, hfz4⟩ := fz5_ BKb6.out))
 clear hcz0 hcz1 hcz2 hcz3 hcz4 hfz0 hfz1 hfz2 hfz3 hfz4
 have HS : Aside0 (ExS (((((w6.setCell ⟨gb6, 0, none⟩ (.slice Ad L.length cd)).setCell ⟨gb6, 1, none⟩ (.slice Ae V.length ce)).setCell ⟨gb6, 2, none⟩ (.slice Af D.length cf)).setCell ⟨gb6, 3, none⟩ (.int .i64 p)).setCell ⟨gb6, 4, none⟩ (.int .i64 t)) w4.heap.size gb6 (.slice Ad L.length cd) (.slice Ae V.length ce) (.slice Af D.length cf) L V D p t) := ⟨⟨set5_blk BKb6.out (.slice Ad L.length cd) (.slice Ae V.length ce) (.slice Af D.length cf) (.int .i64 p) (.int .i64 t), GE6.out, set5_R HO0.out BKb6.out (by decide) (.slice Ad L.length cd) (.slice Ae V.length ce) (.slice Af D.length cf) (.int .i64 p) (.int .i64 t), set5_R HO1.out BKb6.out (by decide) (.slice Ad L.length cd) (.slice Ae V.length ce) (.slice Af D.length cf) (.int .i64 p) (.int .i64 t), set5_R HO2.out BKb6.out (by decide) (.slice Ad L.length cd) (.slice Ae V.length ce) (.slice Af D.length cf) (.int .i64 p) (.int .i64 t)⟩⟩
 replace HB : Aside0 (Below w4.heap.size w4 (((((w6.setCell ⟨gb6, 0, none⟩ (.slice Ad L.length cd)).setCell ⟨gb6, 1, none⟩ (.slice Ae V.length ce)).setCell ⟨gb6, 2, none⟩ (.slice Af D.length cf)).setCell ⟨gb6, 3, none⟩ (.int .i64 p)).setCell ⟨gb6, 4, none⟩ (.int .i64 t))) := ⟨set5_below HB.out GE6.out (.slice Ad L.length cd) (.slice Ae V.length ce) (.slice Af D.length cf) (.int .i64 p) (.int .i64 t)⟩
 clear HO0 HO1 HO2 BKb6
 generalize (((((w6.setCell ⟨gb6, 0, none⟩ (.slice Ad L.length cd)).setCell ⟨gb6, 1, none⟩ (.slice Ae V.length ce)).setCell ⟨gb6, 2, none⟩ (.slice Af D.length cf)).setCell ⟨gb6, 3, none⟩ (.int .i64 p)).setCell ⟨gb6, 4, none⟩ (.int .i64 t)) = w7 at HS HB ⊢
 obtain ⟨hcz0, hcz1, hcz2, hcz3, hcz4, hcz5, hcz6⟩ := cz7_ (blk_below BKb3.out HB.out)
 go_wp2_with (first | (go_at_call 105; refine (walk_calls gb6 _ _ _ L V D p t a1_0 a1_1 a1_2 a1_3 a1_4 a1_5 a1_6 L' V' D' p' t' true w4 _ HS.out HB.out hwf).mono ?_; rintro e w9 ⟨vL', rfl, hS9, hB9⟩; clear hcz0 hcz1 hcz2 hcz3 hcz4 hcz5 hcz6; obtain ⟨Aa, ca, rfl⟩ := Kd.R_slice hS9.rL; have eV : V.length = V'.length := (Kd.R_reads' hS9.rV).1; have eD : D.length = D'.length := (Kd.R_reads' hS9.rD).1; rw [eV, eD] at hS9; clear eV eD; obtain ⟨hcz0, hcz1, hcz2, hcz3, hcz4⟩ := cz5_ hS9.blk; have HS9 := Aside0.mk hS9; have HB9 := Aside0.mk hB9; clear hS9 hB9) | (go_at_call 18; refine (impl_IsExploration.calls k _ _ L' _ _ V' _ _ D' p' t' true _ (Kd.R_reads' HS9.out.rL).2.2 (Kd.R_reads' HS9.out.rL).2.1 (Kd.R_reads' HS9.out.rV).2.2 (Kd.R_reads' HS9.out.rV).2.1 (Kd.R_reads' HS9.out.rD).2.2 (Kd.R_reads' HS9.out.rD).2.1 hie).mono ?_; rintro e w10 ⟨rfl, hb⟩; clear hcz0 hcz1 hcz2 hcz3 hcz4; replace HS9 := Aside0.mk (HS9.out.below hb); replace HB9 := Aside0.mk (below_step HB9.out hb); clear hb; obtain ⟨hcz0, hcz1, hcz2, hcz3, hcz4⟩ := cz5_ HS9.out.blk; obtain ⟨hdz0, hdz1, hdz2, hdz3, hdz4⟩ := cz5_ (blk_below BKb4.out HB9.out); obtain ⟨hfz0, hfz1, hfz2, hfz3, hfz4⟩ := fz5_ (blk_below BKb4.out HB9.out)))
 refine bodyPost_ret (results_ct rfl _ _ gb4 30 #[(.slice Aa L'.length ca), (.slice Ae V'.length ce), (.slice Af D'.length cf), (.int .i64 p'), (.int .i64 t')] (0, 0) _ rfl (set5_blk (blk_below BKb4.out HB9.out) (.slice Aa L'.length ca) (.slice Ae V'.length ce) (.slice Af D'.length cf) (.int .i64 p') (.int .i64 t')) Try.underlying30 rfl (by kernel_rfl)) rfl ?_
 exact ⟨_, _, _, rr_, set5_R (Kd.R_lower HS9.out.rL HA.out.size) (blk_below BKb4.out HB9.out) (by decide) (.slice Aa L'.length ca) (.slice Ae V'.length ce) (.slice Af D'.length cf) (.int .i64 p') (.int .i64 t'), set5_R (Kd.R_lower HS9.out.rV HA.out.size) (blk_below BKb4.out HB9.out) (by decide) (.slice Aa L'.length ca) (.slice Ae V'.length ce) (.slice Af D'.length cf) (.int .i64 p') (.int .i64 t'), set5_R (Kd.R_lower HS9.out.rD HA.out.size) (blk_below BKb4.out HB9.out) (by decide) (.slice Aa L'.length ca) (.slice Ae V'.length ce) (.slice Af D'.length cf) (.int .i64 p') (.int .i64 t'), set5_below (below_step HA.out HB9.out) GE4.out (.slice Aa L'.length ca) (.slice Ae V'.length ce) (.slice Af D'.length cf) (.int .i64 p') (.int .i64 t')⟩
theorem impl_walkOn.calls (k : Nat) (A0_0 : Option Addr) (c0_0 : Nat) (l0_0 : List (S37)) (A0_1 : Option Addr) (c0_1 : Nat) (l0_1 : List Bool) (A0_2 : Option Addr) (c0_2 : Nat) (l0_2 : List Bool) (a0_3 : Int) (a0_4 : Int) (a1_0 : Int) (a1_1 : Int) (a1_2 : Int) (a1_3 : Int) (a1_4 : Int) (a1_5 : Int) (a1_6 : Int) (r1 : List (S37)) (r2 : List Bool) (r3 : List Bool) (r4 : Int) (r5 : Int) (r6 : Bool) (w : World) (hr0_0 : Kd.C k37 w A0_0 l0_0.length l0_0) (hc0_0 : l0_0.length ≤ c0_0) (hr0_1 : Kd.C Kd.bool w A0_1 l0_1.length l0_1) (hc0_1 : l0_1.length ≤ c0_1) (hr0_2 : Kd.C Kd.bool w A0_2 l0_2.length l0_2) (hc0_2 : l0_2.length ≤ c0_2) (h : impl_walkOn.f k l0_0 l0_1 l0_2 a0_3 a0_4 a1_0 a1_1 a1_2 a1_3 a1_4 a1_5 a1_6 = some (r1, r2, r3, r4, r5, r6)) :
  Calls Try.prog 76 #[.agg #[.slice A0_0 l0_0.length c0_0, .slice A0_1 l0_1.length c0_1, .slice A0_2 l0_2.length c0_2, .int .i64 a0_3, .int .i64 a0_4], .agg #[.int .i64 a1_0, .int .i64 a1_1, .int .i64 a1_2, .int .i64 a1_3, .int .i64 a1_4, .int .i64 a1_5, .int .i64 a1_6]] w fun e w' => ∃ v0_ v1_ v2_ : Value, e = .returned (.tuple #[.agg #[v0_, v1_, v2_, .int .i64 r4, .int .i64 r5], .bool r6]) ∧ Kd.R k37 37 w' w.heap.size (fun _ => True) v0_ r1 ∧ Kd.R Kd.bool 4 w' w.heap.size (fun k_ => some k_ ≠ (v2_ : Value).ownBlock) v1_ r2 ∧ Kd.R Kd.bool 4 w' w.heap.size (fun k_ => some k_ ≠ (v1_ : Value).ownBlock) v2_ r3 ∧ Below w.heap.size w w' := by
 unfold impl_walkOn.f at h
 obtain ⟨⟨L, V, D, p, t⟩, hcl, h⟩ := Option.bind_eq_some_iff.mp h
 obtain ⟨⟨L', V', D', p', t', b⟩, hwf, h⟩ := Option.bind_eq_some_iff.mp h
 cases b with
 | false =>
  simp only [Bool.false_eq_true, if_false, Option.some.injEq, Prod.mk.injEq] at h
  obtain ⟨rfl, rfl, rfl, rfl, rfl, rfl⟩ := h
  exact walkOn_a k A0_0 c0_0 l0_0 A0_1 c0_1 l0_1 A0_2 c0_2 l0_2 a0_3 a0_4 a1_0 a1_1 a1_2 a1_3 a1_4 a1_5 a1_6 L V D p t L' V' D' p' t' w hr0_0 hc0_0 hr0_1 hc0_1 hr0_2 hc0_2 hcl hwf
 | true =>
  simp only [if_true] at h
  obtain ⟨q, hie, h⟩ := Option.bind_eq_some_iff.mp h
  cases q with
  | false =>
   simp only [Bool.false_eq_true, if_false, Option.some.injEq, Prod.mk.injEq] at h
   obtain ⟨rfl, rfl, rfl, rfl, rfl, rfl⟩ := h
   exact walkOn_b k A0_0 c0_0 l0_0 A0_1 c0_1 l0_1 A0_2 c0_2 l0_2 a0_3 a0_4 a1_0 a1_1 a1_2 a1_3 a1_4 a1_5 a1_6 L V D p t L' V' D' p' t' w hr0_0 hc0_0 hr0_1 hc0_1 hr0_2 hc0_2 hcl hwf hie
  | true =>
   simp only [if_true, Option.some.injEq, Prod.mk.injEq] at h
   obtain ⟨rfl, rfl, rfl, rfl, rfl, rfl⟩ := h
   exact walkOn_c k A0_0 c0_0 l0_0 A0_1 c0_1 l0_1 A0_2 c0_2 l0_2 a0_3 a0_4 a1_0 a1_1 a1_2 a1_3 a1_4 a1_5 a1_6 L V D p t L' V' D' p' t' w hr0_0 hc0_0 hr0_1 hc0_1 hr0_2 hc0_2 hcl hwf hie
def impl_WalkOn.f (k : Nat) (l0_0 : List (S37)) (l0_1 : List Bool) (l0_2 : List Bool) (a0_3 : Int) (a0_4 : Int) (a1_0 : Int) (a1_1 : Int) (a1_2 : Int) (a1_3 : Int) (a1_4 : Int) (a1_5 : Int) (a1_6 : Int) : Option ((List (S37)) × List Bool × List Bool × Int × Int × Bool) := (impl_IsExploration.f k l0_0 l0_1 l0_2 a0_3 a0_4).bind fun t724 => (if t724 = true then ((impl_walkOn.f k l0_0 l0_1 l0_2 a0_3 a0_4 a1_0 a1_1 a1_2 a1_3 a1_4 a1_5 a1_6).bind fun bt725 => (some (bt725.1, bt725.2.1, bt725.2.2.1, bt725.2.2.2.1, bt725.2.2.2.2.1, bt725.2.2.2.2.2))) else (some (([] : List (S37)), ([] : List Bool), ([] : List Bool), 0, 0, false)))
set_option maxHeartbeats 8000000 in
set_option maxRecDepth 100000 in
theorem impl_WalkOn.calls (k : Nat) (A0_0 : Option Addr) (c0_0 : Nat) (l0_0 : List (S37)) (A0_1 : Option Addr) (c0_1 : Nat) (l0_1 : List Bool) (A0_2 : Option Addr) (c0_2 : Nat) (l0_2 : List Bool) (a0_3 : Int) (a0_4 : Int) (a1_0 : Int) (a1_1 : Int) (a1_2 : Int) (a1_3 : Int) (a1_4 : Int) (a1_5 : Int) (a1_6 : Int) (r1 : List (S37)) (r2 : List Bool) (r3 : List Bool) (r4 : Int) (r5 : Int) (r6 : Bool) (w : World) (hr0_0 : Kd.C k37 w A0_0 l0_0.length l0_0) (hc0_0 : l0_0.length ≤ c0_0) (hr0_1 : Kd.C Kd.bool w A0_1 l0_1.length l0_1) (hc0_1 : l0_1.length ≤ c0_1) (hr0_2 : Kd.C Kd.bool w A0_2 l0_2.length l0_2) (hc0_2 : l0_2.length ≤ c0_2) (h : impl_WalkOn.f k l0_0 l0_1 l0_2 a0_3 a0_4 a1_0 a1_1 a1_2 a1_3 a1_4 a1_5 a1_6 = some (r1, r2, r3, r4, r5, r6)) :
  Calls Try.prog 22 #[.agg #[.slice A0_0 l0_0.length c0_0, .slice A0_1 l0_1.length c0_1, .slice A0_2 l0_2.length c0_2, .int .i64 a0_3, .int .i64 a0_4], .agg #[.int .i64 a1_0, .int .i64 a1_1, .int .i64 a1_2, .int .i64 a1_3, .int .i64 a1_4, .int .i64 a1_5, .int .i64 a1_6]] w fun e w' => ∃ v0_ v1_ v2_ : Value, e = .returned (.tuple #[.agg #[v0_, v1_, v2_, .int .i64 r4, .int .i64 r5], .bool r6]) ∧ Kd.R k37 37 w' w.heap.size (fun _ => True) v0_ r1 ∧ Kd.R Kd.bool 4 w' w.heap.size (fun k_ => some k_ ≠ (v2_ : Value).ownBlock) v1_ r2 ∧ Kd.R Kd.bool 4 w' w.heap.size (fun k_ => some k_ ≠ (v1_ : Value).ownBlock) v2_ r3 ∧ Below w.heap.size w w' := by
 have hu30 := Try.underlying30
 have hu39 := Try.underlying39
 have HR0_0 := Aside0.mk hr0_0
 have HC0_0 := Aside0.mk hc0_0
 clear hr0_0 hc0_0
 have HR0_1 := Aside0.mk hr0_1
 have HC0_1 := Aside0.mk hc0_1
 clear hr0_1 hc0_1
 have HR0_2 := Aside0.mk hr0_2
 have HC0_2 := Aside0.mk hc0_2
 clear hr0_2 hc0_2
 have HB := Aside0.mk (Below.refl w.heap.size w)
 have H : ((impl_IsExploration.f k l0_0 l0_1 l0_2 a0_3 a0_4).bind fun t724 => (if t724 = true then ((impl_walkOn.f k l0_0 l0_1 l0_2 a0_3 a0_4 a1_0 a1_1 a1_2 a1_3 a1_4 a1_5 a1_6).bind fun bt725 => (some (bt725.1, bt725.2.1, bt725.2.2.1, bt725.2.2.2.1, bt725.2.2.2.2.1, bt725.2.2.2.2.2))) else (some (([] : List (S37)), ([] : List Bool), ([] : List Bool), 0, 0, false)))) = some (r1, r2, r3, r4, r5, r6) := h
 clear h
 replace H := Option.bind_eq_some_iff.mp H
 obtain ⟨t724, A30, H⟩ := H
 replace H : (if t724 = true then ((impl_walkOn.f k l0_0 l0_1 l0_2 a0_3 a0_4 a1_0 a1_1 a1_2 a1_3 a1_4 a1_5 a1_6).bind fun bt725 => (some (bt725.1, bt725.2.1, bt725.2.2.1, bt725.2.2.2.1, bt725.2.2.2.2.1, bt725.2.2.2.2.2))) else (some (([] : List (S37)), ([] : List Bool), ([] : List Bool), 0, 0, false))) = some (r1, r2, r3, r4, r5, r6) := H
 have A3 := Aside0.mk A30
 clear A30
 by_cases c4 : t724 = true
 ·
  subst c4
  have H1 : ((impl_walkOn.f k l0_0 l0_1 l0_2 a0_3 a0_4 a1_0 a1_1 a1_2 a1_3 a1_4 a1_5 a1_6).bind fun bt725 => (some (bt725.1, bt725.2.1, bt725.2.2.1, bt725.2.2.2.1, bt725.2.2.2.2.1, bt725.2.2.2.2.2))) = some (r1, r2, r3, r4, r5, r6) := by rw [if_pos rfl] at H; exact H
  clear H
  have H := H1
  clear H1
  replace H := Option.bind_eq_some_iff.mp H
  obtain ⟨⟨t725, t728, t731, t734, t735, t736⟩, A50, H⟩ := H
  replace H : (some (t725, t728, t731, t734, t735, t736)) = some (r1, r2, r3, r4, r5, r6) := H
  have A5 := Aside0.mk A50
  clear A50
  simp only [Option.some.injEq, Prod.mk.injEq] at H
  obtain ⟨rfl, rfl, rfl, rfl, rfl, rfl⟩ := H
  go_enter Try.func22, Try.ntmps22
  go_wp2_with (first | ((with_reducible refine gate_dst (N := 2) rfl ?_); refine box_event ?hg (N := 2) ?hd (cs := #[.slice A0_0 l0_0.length c0_0, .slice A0_1 l0_1.length c0_1, .slice A0_2 l0_2.length c0_2, .int .i64 a0_3, .int .i64 a0_4]) (t := 30) ?hr ?_; (case hd => rfl); (case hg => rfl); (case hr => first | (go_simp; done) | (go_simp; rfl)); intro gb721 hg w6 hbox hb; have BK721 := Aside0.mk (hbox); have GW721 := Aside0.mk ((bz_ hg (lb0_ HB.out))); have GE721 := Aside0.mk ((bz_ hg (lb0_ HB.out))); replace HB := Aside0.mk (below_step (lb0_ HB.out) hb); clear hb hbox hg) | ((with_reducible refine gate_dst (N := 3) rfl ?_); refine box_event ?hg (N := 3) ?hd (cs := #[.int .i64 a1_0, .int .i64 a1_1, .int .i64 a1_2, .int .i64 a1_3, .int .i64 a1_4, .int .i64 a1_5, .int .i64 a1_6]) (t := 39) ?hr ?_; (case hd => rfl); (case hg => rfl); (case hr => first | (go_simp; done) | (go_simp; rfl)); intro gb722 hg w7 hbox hb; have BK722 := Aside0.mk (hbox); have GW722 := Aside0.mk ((bz_ hg (lb1_ HB.out GE721.out))); have GE722 := Aside0.mk ((bz_ hg (lb1_ HB.out GE721.out))); replace HB := Aside0.mk (below_step (lb1_ HB.out GE721.out) hb); have NB721_722 := Aside0.mk (nl_ hg BK721.out); have NB722_721 := Aside0.mk (ng_ hg BK721.out); replace BK721 := Aside0.mk (bb_ (bk_ BK721.out) hb); clear hb hbox hg) | ((with_reducible refine gate_dst (N := 4) rfl ?_); refine box_event ?hg (N := 4) ?hd (cs := #[.slice none 0 0, .slice none 0 0, .slice none 0 0, .int .i64 0, .int .i64 0]) (t := 30) ?hr ?_; (case hd => rfl); (case hg => rfl); (case hr => first | (go_simp; done) | (go_simp; rfl)); intro gb723 hg w8 hbox hb; have BK723 := Aside0.mk (hbox); have GW723 := Aside0.mk ((bz_ hg (lb2_ HB.out GE721.out GE722.out))); have GE723 := Aside0.mk ((bz_ hg (lb2_ HB.out GE721.out GE722.out))); replace HB := Aside0.mk (below_step (lb2_ HB.out GE721.out GE722.out) hb); have NB721_723 := Aside0.mk (nl_ hg BK721.out); have NB723_721 := Aside0.mk (ng_ hg BK721.out); replace BK721 := Aside0.mk (bb_ (bk_ BK721.out) hb); have NB722_723 := Aside0.mk (nl_ hg BK722.out); have NB723_722 := Aside0.mk (ng_ hg BK722.out); replace BK722 := Aside0.mk (bb_ (bk_ BK722.out) hb); clear hb hbox hg; have hnb9 := NB721_722.out; have hnc9 := NB722_721.out; have hnb10 := NB721_723.out; have hnc10 := NB723_721.out; obtain ⟨hcz11_0, hcz11_1, hcz11_2, hcz11_3, hcz11_4⟩ := cz5_ BK721.out; obtain ⟨hfz11_0, hfz11_1, hfz11_2, hfz11_3, hfz11_4⟩ := fz5_ BK721.out) | ((with_reducible refine gate_callee (f := 18) rfl ?_); refine ga_ (some 7) Try.func18 #[.agg #[.slice A0_0 l0_0.length c0_0, .slice A0_1 l0_1.length c0_1, .slice A0_2 l0_2.length c0_2, .int .i64 a0_3, .int .i64 a0_4]] ?_; (with_reducible refine (impl_IsExploration.calls k _ _ l0_0 _ _ l0_1 _ _ l0_2 a0_3 a0_4 true _ ?side1 ?side2 ?side3 ?side4 ?side5 ?side6 A3.out).mono ?_); (case side1 => exact kc_ (Kd.C_below HR0_0.out HB.out)); (case side2 => exact HC0_0.out); (case side3 => exact kc_ (Kd.C_below HR0_1.out HB.out)); (case side4 => exact HC0_1.out); (case side5 => exact kc_ (Kd.C_below HR0_2.out HB.out)); (case side6 => exact HC0_2.out); rintro e w12 ⟨rfl, hb⟩; refine ⟨_, rfl, ?_⟩; replace BK721 := Aside0.mk (bb_ (bk_ BK721.out) hb); replace BK722 := Aside0.mk (bb_ (bk_ BK722.out) hb); replace BK723 := Aside0.mk (bb_ (bk_ BK723.out) hb); replace HB := Aside0.mk (below_step (lb3_ HB.out GE721.out GE722.out GE723.out) hb); (try clear hb); (try clear hb2); (try clear hk); (try clear hi); obtain ⟨hcz13_0, hcz13_1, hcz13_2, hcz13_3, hcz13_4⟩ := cz5_ BK721.out; obtain ⟨hfz13_0, hfz13_1, hfz13_2, hfz13_3, hfz13_4⟩ := fz5_ BK721.out; have hnb14 := NB722_723.out; have hnc14 := NB723_722.out; obtain ⟨hcz15_0, hcz15_1, hcz15_2, hcz15_3, hcz15_4, hcz15_5, hcz15_6⟩ := cz7_ BK722.out; obtain ⟨hfz15_0, hfz15_1, hfz15_2, hfz15_3, hfz15_4, hfz15_5, hfz15_6⟩ := fz7_ BK722.out) | ((with_reducible refine gate_callee (f := 76) rfl ?_); refine ga_ (some 12) Try.func76 #[.agg #[.slice A0_0 l0_0.length c0_0, .slice A0_1 l0_1.length c0_1, .slice A0_2 l0_2.length c0_2, .int .i64 a0_3, .int .i64 a0_4], .agg #[.int .i64 a1_0, .int .i64 a1_1, .int .i64 a1_2, .int .i64 a1_3, .int .i64 a1_4, .int .i64 a1_5, .int .i64 a1_6]] ?_; (with_reducible refine (impl_walkOn.calls k _ _ l0_0 _ _ l0_1 _ _ l0_2 a0_3 a0_4 a1_0 a1_1 a1_2 a1_3 a1_4 a1_5 a1_6 t725 t728 t731 t734 t735 t736 _ ?side1 ?side2 ?side3 ?side4 ?side5 ?side6 A5.out).mono ?_); (case side1 => exact kc_ (Kd.C_below HR0_0.out HB.out)); (case side2 => exact HC0_0.out); (case side3 => exact kc_ (Kd.C_below HR0_1.out HB.out)); (case side4 => exact HC0_1.out); (case side5 => exact kc_ (Kd.C_below HR0_2.out HB.out)); (case side6 => exact HC0_2.out); rintro e w16 ⟨v726, v729, v732, rfl, ho0, ho1, ho2, hb⟩; refine ⟨_, rfl, ?_⟩; have HO727 := Aside0.mk (Kd.R_lower ho0 (below_size (lb3_ HB.out GE721.out GE722.out GE723.out))); have HO730 := Aside0.mk (Kd.R_lower ho1 (below_size (lb3_ HB.out GE721.out GE722.out GE723.out))); have HO733 := Aside0.mk (Kd.R_lower ho2 (below_size (lb3_ HB.out GE721.out GE722.out GE723.out))); replace BK721 := Aside0.mk (bb_ (bk_ BK721.out) hb); replace BK722 := Aside0.mk (bb_ (bk_ BK722.out) hb); replace BK723 := Aside0.mk (bb_ (bk_ BK723.out) hb); replace HB := Aside0.mk (below_step (lb3_ HB.out GE721.out GE722.out GE723.out) hb); (try clear hb); (try clear hb2); (try clear hk); (try clear hi); (try clear ho0); (try clear ho1); (try clear ho2); obtain ⟨Ao17, co17, eo17⟩ := Kd.R_slice HO727.out; subst eo17; obtain ⟨hcz18_0, hcz18_1, hcz18_2, hcz18_3, hcz18_4⟩ := cz5_ BK723.out; obtain ⟨hfz18_0, hfz18_1, hfz18_2, hfz18_3, hfz18_4⟩ := fz5_ BK723.out; obtain ⟨Ao19, co19, eo19⟩ := Kd.R_slice HO730.out; subst eo19; obtain ⟨Ao20, co20, eo20⟩ := Kd.R_slice HO733.out; subst eo20))
  refine bodyPost_ret (results_ct rfl _ _ gb723 30 #[.slice Ao17 t725.length co17, .slice Ao19 t728.length co19, .slice Ao20 t731.length co20, .int .i64 t734, .int .i64 t735] (0, 0) _ rfl (by (with_reducible repeat (first | refine blk_drewN ?_ _ | refine blk_drew ?_ | refine blk_alloc ?_ _)); refine blk_put (cs := #[.slice Ao17 t725.length co17, .slice Ao19 t728.length co19, .slice Ao20 t731.length co20, .int .i64 t734, .int .i64 0]) ?_ 4 _ rfl; (with_reducible repeat (first | refine blk_drewN ?_ _ | refine blk_drew ?_ | refine blk_alloc ?_ _)); refine blk_put (cs := #[.slice Ao17 t725.length co17, .slice Ao19 t728.length co19, .slice Ao20 t731.length co20, .int .i64 0, .int .i64 0]) ?_ 3 _ rfl; (with_reducible repeat (first | refine blk_drewN ?_ _ | refine blk_drew ?_ | refine blk_alloc ?_ _)); refine blk_put (cs := #[.slice Ao17 t725.length co17, .slice Ao19 t728.length co19, .slice none 0 0, .int .i64 0, .int .i64 0]) ?_ 2 _ rfl; (with_reducible repeat (first | refine blk_drewN ?_ _ | refine blk_drew ?_ | refine blk_alloc ?_ _)); refine blk_put (cs := #[.slice Ao17 t725.length co17, .slice none 0 0, .slice none 0 0, .int .i64 0, .int .i64 0]) ?_ 1 _ rfl; (with_reducible repeat (first | refine blk_drewN ?_ _ | refine blk_drew ?_ | refine blk_alloc ?_ _)); refine blk_put (cs := #[.slice none 0 0, .slice none 0 0, .slice none 0 0, .int .i64 0, .int .i64 0]) ?_ 0 _ rfl; (with_reducible repeat (first | refine blk_drewN ?_ _ | refine blk_drew ?_ | refine blk_alloc ?_ _)); exact BK723.out) Try.underlying30 rfl (by kernel_rfl)) rfl ?_
  exact ⟨_, _, _, rr_, by (with_reducible repeat (first | apply Kd.R_alloc | apply Kd.R_drewN | apply Kd.R_drew)); exact Kd.R_mono (r5_ HO727.out BK723.out (by decide) _ _ _ _ _) (fun _ hk => trivial), by (with_reducible repeat (first | apply Kd.R_alloc | apply Kd.R_drewN | apply Kd.R_drew)); exact Kd.R_mono (r5_ HO730.out BK723.out (by decide) _ _ _ _ _) (fun _ hk => hk), by (with_reducible repeat (first | apply Kd.R_alloc | apply Kd.R_drewN | apply Kd.R_drew)); exact Kd.R_mono (r5_ HO733.out BK723.out (by decide) _ _ _ _ _) (fun _ hk => hk), lb3_ HB.out GE721.out GE722.out GE723.out⟩
 ·
  replace c4 := Bool.eq_false_iff.mpr c4
  subst c4
  have H1 : (some (([] : List (S37)), ([] : List Bool), ([] : List Bool), 0, 0, false)) = some (r1, r2, r3, r4, r5, r6) := by rw [if_neg (show ¬ (false = true) by decide)] at H; exact H
  clear H
  have H := H1
  clear H1
  simp only [Option.some.injEq, Prod.mk.injEq] at H
  obtain ⟨rfl, rfl, rfl, rfl, rfl, rfl⟩ := H
  go_enter Try.func22, Try.ntmps22
  go_wp2_with (first | ((with_reducible refine gate_dst (N := 2) rfl ?_); refine box_event ?hg (N := 2) ?hd (cs := #[.slice A0_0 l0_0.length c0_0, .slice A0_1 l0_1.length c0_1, .slice A0_2 l0_2.length c0_2, .int .i64 a0_3, .int .i64 a0_4]) (t := 30) ?hr ?_; (case hd => rfl); (case hg => rfl); (case hr => first | (go_simp; done) | (go_simp; rfl)); intro gb721 hg w21 hbox hb; have BK721 := Aside0.mk (hbox); have GW721 := Aside0.mk ((bz_ hg (lb0_ HB.out))); have GE721 := Aside0.mk ((bz_ hg (lb0_ HB.out))); replace HB := Aside0.mk (below_step (lb0_ HB.out) hb); clear hb hbox hg) | ((with_reducible refine gate_dst (N := 3) rfl ?_); refine box_event ?hg (N := 3) ?hd (cs := #[.int .i64 a1_0, .int .i64 a1_1, .int .i64 a1_2, .int .i64 a1_3, .int .i64 a1_4, .int .i64 a1_5, .int .i64 a1_6]) (t := 39) ?hr ?_; (case hd => rfl); (case hg => rfl); (case hr => first | (go_simp; done) | (go_simp; rfl)); intro gb722 hg w22 hbox hb; have BK722 := Aside0.mk (hbox); have GW722 := Aside0.mk ((bz_ hg (lb1_ HB.out GE721.out))); have GE722 := Aside0.mk ((bz_ hg (lb1_ HB.out GE721.out))); replace HB := Aside0.mk (below_step (lb1_ HB.out GE721.out) hb); have NB721_722 := Aside0.mk (nl_ hg BK721.out); have NB722_721 := Aside0.mk (ng_ hg BK721.out); replace BK721 := Aside0.mk (bb_ (bk_ BK721.out) hb); clear hb hbox hg) | ((with_reducible refine gate_dst (N := 4) rfl ?_); refine box_event ?hg (N := 4) ?hd (cs := #[.slice none 0 0, .slice none 0 0, .slice none 0 0, .int .i64 0, .int .i64 0]) (t := 30) ?hr ?_; (case hd => rfl); (case hg => rfl); (case hr => first | (go_simp; done) | (go_simp; rfl)); intro gb723 hg w23 hbox hb; have BK723 := Aside0.mk (hbox); have GW723 := Aside0.mk ((bz_ hg (lb2_ HB.out GE721.out GE722.out))); have GE723 := Aside0.mk ((bz_ hg (lb2_ HB.out GE721.out GE722.out))); replace HB := Aside0.mk (below_step (lb2_ HB.out GE721.out GE722.out) hb); have NB721_723 := Aside0.mk (nl_ hg BK721.out); have NB723_721 := Aside0.mk (ng_ hg BK721.out); replace BK721 := Aside0.mk (bb_ (bk_ BK721.out) hb); have NB722_723 := Aside0.mk (nl_ hg BK722.out); have NB723_722 := Aside0.mk (ng_ hg BK722.out); replace BK722 := Aside0.mk (bb_ (bk_ BK722.out) hb); clear hb hbox hg; have hnb24 := NB721_722.out; have hnc24 := NB722_721.out; have hnb25 := NB721_723.out; have hnc25 := NB723_721.out; obtain ⟨hcz26_0, hcz26_1, hcz26_2, hcz26_3, hcz26_4⟩ := cz5_ BK721.out; obtain ⟨hfz26_0, hfz26_1, hfz26_2, hfz26_3, hfz26_4⟩ := fz5_ BK721.out) | ((with_reducible refine gate_callee (f := 18) rfl ?_); refine ga_ (some 7) Try.func18 #[.agg #[.slice A0_0 l0_0.length c0_0, .slice A0_1 l0_1.length c0_1, .slice A0_2 l0_2.length c0_2, .int .i64 a0_3, .int .i64 a0_4]] ?_; (with_reducible refine (impl_IsExploration.calls k _ _ l0_0 _ _ l0_1 _ _ l0_2 a0_3 a0_4 false _ ?side1 ?side2 ?side3 ?side4 ?side5 ?side6 A3.out).mono ?_); (case side1 => exact kc_ (Kd.C_below HR0_0.out HB.out)); (case side2 => exact HC0_0.out); (case side3 => exact kc_ (Kd.C_below HR0_1.out HB.out)); (case side4 => exact HC0_1.out); (case side5 => exact kc_ (Kd.C_below HR0_2.out HB.out)); (case side6 => exact HC0_2.out); rintro e w27 ⟨rfl, hb⟩; refine ⟨_, rfl, ?_⟩; replace BK721 := Aside0.mk (bb_ (bk_ BK721.out) hb); replace BK722 := Aside0.mk (bb_ (bk_ BK722.out) hb); replace BK723 := Aside0.mk (bb_ (bk_ BK723.out) hb); replace HB := Aside0.mk (below_step (lb3_ HB.out GE721.out GE722.out GE723.out) hb); (try clear hb); (try clear hb2); (try clear hk); (try clear hi); have hnb28 := NB723_722.out; have hnc28 := NB722_723.out; obtain ⟨hcz29_0, hcz29_1, hcz29_2, hcz29_3, hcz29_4⟩ := cz5_ BK723.out; obtain ⟨hfz29_0, hfz29_1, hfz29_2, hfz29_3, hfz29_4⟩ := fz5_ BK723.out))
  refine bodyPost_ret (results_ct rfl _ _ gb723 30 #[.slice none 0 0, .slice none 0 0, .slice none 0 0, .int .i64 0, .int .i64 0] (0, 0) _ rfl (by (with_reducible repeat (first | refine blk_drewN ?_ _ | refine blk_drew ?_ | refine blk_alloc ?_ _)); refine blk_put (cs := #[.slice none 0 0, .slice none 0 0, .slice none 0 0, .int .i64 0, .int .i64 0]) ?_ 4 _ rfl; (with_reducible repeat (first | refine blk_drewN ?_ _ | refine blk_drew ?_ | refine blk_alloc ?_ _)); refine blk_put (cs := #[.slice none 0 0, .slice none 0 0, .slice none 0 0, .int .i64 0, .int .i64 0]) ?_ 3 _ rfl; (with_reducible repeat (first | refine blk_drewN ?_ _ | refine blk_drew ?_ | refine blk_alloc ?_ _)); refine blk_put (cs := #[.slice none 0 0, .slice none 0 0, .slice none 0 0, .int .i64 0, .int .i64 0]) ?_ 2 _ rfl; (with_reducible repeat (first | refine blk_drewN ?_ _ | refine blk_drew ?_ | refine blk_alloc ?_ _)); refine blk_put (cs := #[.slice none 0 0, .slice none 0 0, .slice none 0 0, .int .i64 0, .int .i64 0]) ?_ 1 _ rfl; (with_reducible repeat (first | refine blk_drewN ?_ _ | refine blk_drew ?_ | refine blk_alloc ?_ _)); refine blk_put (cs := #[.slice none 0 0, .slice none 0 0, .slice none 0 0, .int .i64 0, .int .i64 0]) ?_ 0 _ rfl; (with_reducible repeat (first | refine blk_drewN ?_ _ | refine blk_drew ?_ | refine blk_alloc ?_ _)); exact BK723.out) Try.underlying30 rfl (by kernel_rfl)) rfl ?_
  exact ⟨_, _, _, rr_, by first | exact Kd.R_nil _ _ _ _ _ | exact Kd.N_nil _ _ _ _ _ | exact Kd.V_nil _ _ _ _ _ | exact Kd.Q_nil _ _ _ _ _ | exact Kd.S_nil _ _ _ _ _, by first | exact Kd.R_nil _ _ _ _ _ | exact Kd.N_nil _ _ _ _ _ | exact Kd.V_nil _ _ _ _ _ | exact Kd.Q_nil _ _ _ _ _ | exact Kd.S_nil _ _ _ _ _, by first | exact Kd.R_nil _ _ _ _ _ | exact Kd.N_nil _ _ _ _ _ | exact Kd.V_nil _ _ _ _ _ | exact Kd.Q_nil _ _ _ _ _ | exact Kd.S_nil _ _ _ _ _, lb3_ HB.out GE721.out GE722.out GE723.out⟩
def laws_markLegS.l0 : Nat → List (S37) → Int → Int → Option (Int × (List (S37)))
 | 0, _, _, _ => none
 | k + 1, x0, x1, x5 => if x5 < (x0.length : Int) then (if 0 ≤ x5 then ((some (x0.set (x5 : Int).toNat (⟨x1, (rd_T37 x0 x5).f1, (rd_T37 x0 x5).f2, (rd_T37 x0 x5).f3, (rd_T37 x0 x5).f4⟩ : S37) : List (S37))).bind fun y1110 => ((some (y1110.set (x5 : Int).toNat (⟨(rd_T37 y1110 x5).f0, wrap64 (x1 + 1), (rd_T37 y1110 x5).f2, (rd_T37 y1110 x5).f3, (rd_T37 y1110 x5).f4⟩ : S37) : List (S37))).bind fun y1111 => ((some (y1111.set (x5 : Int).toNat (⟨(rd_T37 y1111 x5).f0, (rd_T37 y1111 x5).f1, wrap64 ((wrap64 (x1 + 1)) + 1), (rd_T37 y1111 x5).f3, (rd_T37 y1111 x5).f4⟩ : S37) : List (S37))).bind fun y1112 => ((some (y1112.set (x5 : Int).toNat (⟨(rd_T37 y1112 x5).f0, (rd_T37 y1112 x5).f1, (rd_T37 y1112 x5).f2, wrap64 ((wrap64 ((wrap64 (x1 + 1)) + 1)) + 1), (rd_T37 y1112 x5).f4⟩ : S37) : List (S37))).bind fun y1113 => (laws_markLegS.l0 k (y1113.set (x5 : Int).toNat (⟨(rd_T37 y1113 x5).f0, (rd_T37 y1113 x5).f1, (rd_T37 y1113 x5).f2, (rd_T37 y1113 x5).f3, wrap64 ((wrap64 ((wrap64 ((wrap64 (x1 + 1)) + 1)) + 1)) + 1)⟩ : S37)) (wrap64 ((wrap64 ((wrap64 ((wrap64 ((wrap64 (x1 + 1)) + 1)) + 1)) + 1)) + 1)) (wrap64 (x5 + 1))))))) else (none)) else (some (x1, x0))
def laws_markLegS.f (k : Nat) (l0 : List (S37)) (a1 : Int) : Option (Int × (List (S37))) := laws_markLegS.l0 k l0 a1 0
set_option maxHeartbeats 8000000 in
set_option maxRecDepth 100000 in
theorem laws_markLegS.calls (k : Nat) (P0_ : Nat → Prop) (u9000_ : Value) (l0 : List (S37)) (a1 : Int) (r1 : Int) (r2 : List (S37)) (w0 w : World) (hB : Below w0.heap.size w0 w) (ho0 : Kd.R k37 37 w w0.heap.size P0_ u9000_ l0) (h : laws_markLegS.f k l0 a1 = some (r1, r2)) :
  Calls Try.prog 40 #[u9000_, .int .i64 a1] w fun e w' => e = .returned (.int .i64 r1) ∧ Kd.R k37 37 w' w0.heap.size (fun k_ => (P0_ k_ ∨ w.heap.size ≤ k_)) u9000_ r2 ∧ Below w0.heap.size w0 w' ∧ Kept w w' (fun k_ => P0_ k_) := by
 have HO0 := Aside0.mk (show Kd.R k37 37 w w0.heap.size (fun k_ => (P0_ k_ ∨ w.heap.size ≤ k_)) u9000_ l0 from Kd.R_mono ho0 (fun k_ hk => (.inl hk)))
 have HK := Aside0.mk (Kept.refl w (fun k_ => P0_ k_))
 have HW0 := Aside0.mk hB.size
 have HB := Aside0.mk hB
 clear hB
 have H : (laws_markLegS.l0 k l0 a1 0) = some (r1, r2) := h
 clear h
 have H' := Aside0.mk H
 clear H
 go_enter Try.func40, Try.ntmps40
 go_wp2
 go_loopg [1, 5] k (fun kq v1 v5 w' => ∃ (x0_1 : List (S37)) (x1_1 : Int) (x5_1 : Int), v1 = .int .i64 x1_1 ∧ v5 = .int .i64 x5_1 ∧ Aside0 (laws_markLegS.l0 kq x0_1 x1_1 x5_1 = some (r1, r2)) ∧ Aside0 (kq ≤ k) ∧ Aside0 (Kd.R k37 37 w' w0.heap.size (fun k_ => (P0_ k_ ∨ w.heap.size ≤ k_)) u9000_ x0_1) ∧ Aside0 (Kept w w' (fun k_ => P0_ k_)) ∧ Aside0 (Below w0.heap.size w0 w'))
 case atStart => exact ⟨(l0), (a1), (0), (by first | rfl | (simp; done) | (simp [*]; done)), (by first | rfl | (simp; done) | (simp [*]; done)), H', ⟨Nat.le_refl _⟩, ⟨kr_ HO0.out⟩, ⟨kt_ HK.out⟩, ⟨lb0_ HB.out⟩⟩
 case round =>
  clear H'
  try clear p2
  obtain ⟨x0_1, x1_1, x5_1, rfl, rfl, HA, HK1, HO_0, HK, HB⟩ := hrel
  cases gk with
  | zero => exact absurd HA.out (by simp [laws_markLegS.l0])
  | succ k1 =>
   have H := HA.out
   clear HA
   simp only [laws_markLegS.l0] at H
   by_cases c3 : x5_1 < (x0_1.length : Int)
   ·
    rw [if_pos c3] at H
    have c3b0 : decide (x5_1 < (x0_1.length : Int)) = true := decide_eq_true c3
    clear c3
    by_cases c4 : 0 ≤ x5_1
    ·
     rw [if_pos c4] at H
     have c4b0 : decide (0 ≤ x5_1) = true := decide_eq_true c4
     clear c4
     obtain ⟨y1110, hy1110⟩ : ∃ y_ : List (S37), y_ = (x0_1.set (x5_1 : Int).toNat (⟨x1_1, (rd_T37 x0_1 x5_1).f1, (rd_T37 x0_1 x5_1).f2, (rd_T37 x0_1 x5_1).f3, (rd_T37 x0_1 x5_1).f4⟩ : S37)) := ⟨_, rfl⟩
     replace H : ((some (y1110.set (x5_1 : Int).toNat (⟨(rd_T37 y1110 x5_1).f0, wrap64 (x1_1 + 1), (rd_T37 y1110 x5_1).f2, (rd_T37 y1110 x5_1).f3, (rd_T37 y1110 x5_1).f4⟩ : S37) : List (S37))).bind fun y1111 => ((some (y1111.set (x5_1 : Int).toNat (⟨(rd_T37 y1111 x5_1).f0, (rd_T37 y1111 x5_1).f1, wrap64 ((wrap64 (x1_1 + 1)) + 1), (rd_T37 y1111 x5_1).f3, (rd_T37 y1111 x5_1).f4⟩ : S37) : List (S37))).bind fun y1112 => ((some (y1112.set (x5_1 : Int).toNat (⟨(rd_T37 y1112 x5_1).f0, (rd_T37 y1112 x5_1).f1, (rd_T37 y1112 x5_1).f2, wrap64 ((wrap64 ((wrap64 (x1_1 + 1)) + 1)) + 1), (rd_T37 y1112 x5_1).f4⟩ : S37) : List (S37))).bind fun y1113 => (laws_markLegS.l0 k1 (y1113.set (x5_1 : Int).toNat (⟨(rd_T37 y1113 x5_1).f0, (rd_T37 y1113 x5_1).f1, (rd_T37 y1113 x5_1).f2, (rd_T37 y1113 x5_1).f3, wrap64 ((wrap64 ((wrap64 ((wrap64 (x1_1 + 1)) + 1)) + 1)) + 1)⟩ : S37)) (wrap64 ((wrap64 ((wrap64 ((wrap64 ((wrap64 (x1_1 + 1)) + 1)) + 1)) + 1)) + 1)) (wrap64 (x5_1 + 1)))))) = some (r1, r2) := by first | (rw [hy1110]; with_reducible exact H) | (have H2_ := (Option.bind_some _ _).symm.trans H; rw [hy1110]; with_reducible exact H2_) | (have H2_ := (Option.bind_some _ _).symm.trans H; with_reducible exact H2_) | with_reducible exact H | (rw [hy1110]; exact H) | exact H
     have Ny1110 := Aside0.mk hy1110
     clear hy1110
     obtain ⟨y1111, hy1111⟩ : ∃ y_ : List (S37), y_ = (y1110.set (x5_1 : Int).toNat (⟨(rd_T37 y1110 x5_1).f0, wrap64 (x1_1 + 1), (rd_T37 y1110 x5_1).f2, (rd_T37 y1110 x5_1).f3, (rd_T37 y1110 x5_1).f4⟩ : S37)) := ⟨_, rfl⟩
     replace H : ((some (y1111.set (x5_1 : Int).toNat (⟨(rd_T37 y1111 x5_1).f0, (rd_T37 y1111 x5_1).f1, wrap64 ((wrap64 (x1_1 + 1)) + 1), (rd_T37 y1111 x5_1).f3, (rd_T37 y1111 x5_1).f4⟩ : S37) : List (S37))).bind fun y1112 => ((some (y1112.set (x5_1 : Int).toNat (⟨(rd_T37 y1112 x5_1).f0, (rd_T37 y1112 x5_1).f1, (rd_T37 y1112 x5_1).f2, wrap64 ((wrap64 ((wrap64 (x1_1 + 1)) + 1)) + 1), (rd_T37 y1112 x5_1).f4⟩ : S37) : List (S37))).bind fun y1113 => (laws_markLegS.l0 k1 (y1113.set (x5_1 : Int).toNat (⟨(rd_T37 y1113 x5_1).f0, (rd_T37 y1113 x5_1).f1, (rd_T37 y1113 x5_1).f2, (rd_T37 y1113 x5_1).f3, wrap64 ((wrap64 ((wrap64 ((wrap64 (x1_1 + 1)) + 1)) + 1)) + 1)⟩ : S37)) (wrap64 ((wrap64 ((wrap64 ((wrap64 ((wrap64 (x1_1 + 1)) + 1)) + 1)) + 1)) + 1)) (wrap64 (x5_1 + 1))))) = some (r1, r2) := by first | (rw [hy1111]; with_reducible exact H) | (have H2_ := (Option.bind_some _ _).symm.trans H; rw [hy1111]; with_reducible exact H2_) | (have H2_ := (Option.bind_some _ _).symm.trans H; with_reducible exact H2_) | with_reducible exact H | (rw [hy1111]; exact H) | exact H
     have Ny1111 := Aside0.mk hy1111
     clear hy1111
     obtain ⟨y1112, hy1112⟩ : ∃ y_ : List (S37), y_ = (y1111.set (x5_1 : Int).toNat (⟨(rd_T37 y1111 x5_1).f0, (rd_T37 y1111 x5_1).f1, wrap64 ((wrap64 (x1_1 + 1)) + 1), (rd_T37 y1111 x5_1).f3, (rd_T37 y1111 x5_1).f4⟩ : S37)) := ⟨_, rfl⟩
     replace H : ((some (y1112.set (x5_1 : Int).toNat (⟨(rd_T37 y1112 x5_1).f0, (rd_T37 y1112 x5_1).f1, (rd_T37 y1112 x5_1).f2, wrap64 ((wrap64 ((wrap64 (x1_1 + 1)) + 1)) + 1), (rd_T37 y1112 x5_1).f4⟩ : S37) : List (S37))).bind fun y1113 => (laws_markLegS.l0 k1 (y1113.set (x5_1 : Int).toNat (⟨(rd_T37 y1113 x5_1).f0, (rd_T37 y1113 x5_1).f1, (rd_T37 y1113 x5_1).f2, (rd_T37 y1113 x5_1).f3, wrap64 ((wrap64 ((wrap64 ((wrap64 (x1_1 + 1)) + 1)) + 1)) + 1)⟩ : S37)) (wrap64 ((wrap64 ((wrap64 ((wrap64 ((wrap64 (x1_1 + 1)) + 1)) + 1)) + 1)) + 1)) (wrap64 (x5_1 + 1)))) = some (r1, r2) := by first | (rw [hy1112]; with_reducible exact H) | (have H2_ := (Option.bind_some _ _).symm.trans H; rw [hy1112]; with_reducible exact H2_) | (have H2_ := (Option.bind_some _ _).symm.trans H; with_reducible exact H2_) | with_reducible exact H | (rw [hy1112]; exact H) | exact H
     have Ny1112 := Aside0.mk hy1112
     clear hy1112
     obtain ⟨y1113, hy1113⟩ : ∃ y_ : List (S37), y_ = (y1112.set (x5_1 : Int).toNat (⟨(rd_T37 y1112 x5_1).f0, (rd_T37 y1112 x5_1).f1, (rd_T37 y1112 x5_1).f2, wrap64 ((wrap64 ((wrap64 (x1_1 + 1)) + 1)) + 1), (rd_T37 y1112 x5_1).f4⟩ : S37)) := ⟨_, rfl⟩
     replace H : (laws_markLegS.l0 k1 (y1113.set (x5_1 : Int).toNat (⟨(rd_T37 y1113 x5_1).f0, (rd_T37 y1113 x5_1).f1, (rd_T37 y1113 x5_1).f2, (rd_T37 y1113 x5_1).f3, wrap64 ((wrap64 ((wrap64 ((wrap64 (x1_1 + 1)) + 1)) + 1)) + 1)⟩ : S37)) (wrap64 ((wrap64 ((wrap64 ((wrap64 ((wrap64 (x1_1 + 1)) + 1)) + 1)) + 1)) + 1)) (wrap64 (x5_1 + 1))) = some (r1, r2) := by first | (rw [hy1113]; with_reducible exact H) | (have H2_ := (Option.bind_some _ _).symm.trans H; rw [hy1113]; with_reducible exact H2_) | (have H2_ := (Option.bind_some _ _).symm.trans H; with_reducible exact H2_) | with_reducible exact H | (rw [hy1113]; exact H) | exact H
     have Ny1113 := Aside0.mk hy1113
     clear hy1113
     obtain ⟨y1114, hy1114⟩ : ∃ y_ : List (S37), y_ = (y1113.set (x5_1 : Int).toNat (⟨(rd_T37 y1113 x5_1).f0, (rd_T37 y1113 x5_1).f1, (rd_T37 y1113 x5_1).f2, (rd_T37 y1113 x5_1).f3, wrap64 ((wrap64 ((wrap64 ((wrap64 (x1_1 + 1)) + 1)) + 1)) + 1)⟩ : S37)) := ⟨_, rfl⟩
     replace H : (laws_markLegS.l0 k1 y1114 (wrap64 ((wrap64 ((wrap64 ((wrap64 ((wrap64 (x1_1 + 1)) + 1)) + 1)) + 1)) + 1)) (wrap64 (x5_1 + 1))) = some (r1, r2) := by first | (rw [hy1114]; with_reducible exact H) | (have H2_ := (Option.bind_some _ _).symm.trans H; rw [hy1114]; with_reducible exact H2_) | (have H2_ := (Option.bind_some _ _).symm.trans H; with_reducible exact H2_) | with_reducible exact H | (rw [hy1114]; exact H) | exact H
     have Ny1114 := Aside0.mk hy1114
     clear hy1114
     have H' := Aside0.mk H
     clear H
     obtain ⟨Ao10, co10, eo10⟩ := Kd.R_slice HO_0.out
     subst eo10
     have p5 : 0 ≤ (x5_1 : Int) := dt_
     have q5 : (x5_1 : Int) < ((x0_1.length : Int) : Int) := dt_
     obtain ⟨go5, co5, eo5, gb5, gl5, cl5, HG5⟩ := Kd.R_form HO_0.out (by omega)
     (first | cases eo5 | (injection eo5 with ea_ en_ ec_; (first | subst ea_ | (injection ea_ with ea_; subst ea_)); subst ec_; clear en_))
     have GB5 := Aside0.mk gb5
     have GG5 := Aside0.mk HG5
     clear gb5 gl5 HG5
     have HMgo5 := Aside0.mk (show (P0_ go5 ∨ w.heap.size ≤ go5) from (HO_0.out.1 _ rfl))
     obtain ⟨ce5, hcl5, hM5, hcc5, hfr5⟩ := Kd.R_elem HO_0.out z37 (x5_1 : Int) p5 q5
     obtain rfl := k37_openM hM5
     have hx5_0 : wr.cell? ⟨go5, (x5_1 : Int).toNat * 5, none⟩ = some (.int .i64 ((rd_T37 x0_1 x5_1).f0)) := hcc5 0 _ rfl
     have hx5_1 : wr.cell? ⟨go5, (x5_1 : Int).toNat * 5 + 1, none⟩ = some (.int .i64 ((rd_T37 x0_1 x5_1).f1)) := hcc5 1 _ rfl
     have hx5_2 : wr.cell? ⟨go5, (x5_1 : Int).toNat * 5 + 2, none⟩ = some (.int .i64 ((rd_T37 x0_1 x5_1).f2)) := hcc5 2 _ rfl
     have hx5_3 : wr.cell? ⟨go5, (x5_1 : Int).toNat * 5 + 3, none⟩ = some (.int .i64 ((rd_T37 x0_1 x5_1).f3)) := hcc5 3 _ rfl
     have hx5_4 : wr.cell? ⟨go5, (x5_1 : Int).toNat * 5 + 4, none⟩ = some (.int .i64 ((rd_T37 x0_1 x5_1).f4)) := hcc5 4 _ rfl
     have hf5_0 : wr.frozen? ⟨go5, (x5_1 : Int).toNat * 5, none⟩ = false := hfr5 0
     have hf5_1 : wr.frozen? ⟨go5, (x5_1 : Int).toNat * 5 + 1, none⟩ = false := hfr5 1
     have hf5_2 : wr.frozen? ⟨go5, (x5_1 : Int).toNat * 5 + 2, none⟩ = false := hfr5 2
     have hf5_3 : wr.frozen? ⟨go5, (x5_1 : Int).toNat * 5 + 3, none⟩ = false := hfr5 3
     have hf5_4 : wr.frozen? ⟨go5, (x5_1 : Int).toNat * 5 + 4, none⟩ = false := hfr5 4
     clear hcl5 hcc5 hfr5 hM5
     replace p5 := eq_true p5
     replace q5 := eq_true q5
     have HX11 := Aside0.mk (show Kd.R k37 37 wr w0.heap.size (fun k_ => (P0_ k_ ∨ w.heap.size ≤ k_)) (.slice (some ⟨go5, 0, none⟩) x0_1.length co10) x0_1 from (kr_ HO_0.out))
     obtain ⟨ce11, hcl11, hM11, hcc11, hfr11⟩ := Kd.R_elem HX11.out z37 (x5_1 : Int) (dt_) (by have h_ : (x5_1 : Int) < ((x0_1.length : Int) : Int) := dt_; first | exact h_ | (have e_ := (Kd.R_reads' HO_0.out).1; omega) | simpa using h_)
     obtain rfl := k37_openM hM11
     have HP11 := Kd.R_seg HX11.out (x5_1 : Int) (dt_) (by have h_ : (x5_1 : Int) < ((x0_1.length : Int) : Int) := dt_; first | exact h_ | (have e_ := (Kd.R_reads' HO_0.out).1; omega) | simpa using h_) (seg := [.int .i64 x1_1]) (j := 0) hcl11 hcc11 (show 1 ≤ 5 from by decide) (x' := (⟨x1_1, (rd_T37 x0_1 x5_1).f1, (rd_T37 x0_1 x5_1).f2, (rd_T37 x0_1 x5_1).f3, (rd_T37 x0_1 x5_1).f4⟩ : S37)) (k37_mkM _ _ _ (⟨x1_1, (rd_T37 x0_1 x5_1).f1, (rd_T37 x0_1 x5_1).f2, (rd_T37 x0_1 x5_1).f3, (rd_T37 x0_1 x5_1).f4⟩ : S37) ) (fun _ hk => hk)
     have hx11_0 := hcc11 0 _ rfl
     (try simp only [show (k37).sz = 5 from rfl, Nat.mul_one, Nat.add_zero] at hx11_0)
     have hf11_0 := hfr11 0
     (try simp only [show (k37).sz = 5 from rfl, Nat.mul_one, Nat.add_zero] at hf11_0)
     clear hcl11 hcc11 hfr11 hM11
     go_wp2_with (first | ((with_reducible refine gate_store (t := 3) (p := 16) rfl ?_); refine store_event (t := 3) (p := 16) (v := ?vo_w12) (w1 := (wr.setCell ⟨go5, (x5_1 : Int).toNat * 5, none⟩ (.int .i64 x1_1))) ?hg ?ho ?hn ?hr ?_; (case ho => rfl); (case hg => rfl); (case hn => rfl); (case hr => first | (go_simp; done) | (go_simp; rfl)); intro w12 hw; have hg : wr.grownBy w12 (some go5) := (by rw [hw]; exact HP11.2); have hp_ : Kd.R k37 37 w12 w0.heap.size (fun k_ => (P0_ k_ ∨ w.heap.size ≤ k_)) (.slice (some ⟨go5, 0, none⟩) x0_1.length co10) y1110 := (by rw [hw, Ny1110.out]; exact HP11.1); clear HP11; replace HB := Aside0.mk ((by rw [hw]; exact below_set (HB.out) GB5.out : Below w0.heap.size w0 w12)); replace HK := Aside0.mk (Kept.of_grown (S := (fun k_ => P0_ k_)) hg (kt_ HK.out) (fun k_ e_ => (HO_0.out.1 k_ e_))); replace HO_0 := Aside0.mk (hp_); clear hg hw hp_; have p6 : 0 ≤ (x5_1 : Int) := dt_; have q6 : (x5_1 : Int) < ((x0_1.length : Int) : Int) := dt_; obtain ⟨ce6, hcl6, hM6, hcc6, hfr6⟩ := Kd.R_elem HO_0.out z37 (x5_1 : Int) p6 q6; obtain rfl := k37_openM hM6; have hx6_0 : w12.cell? ⟨go5, (x5_1 : Int).toNat * 5, none⟩ = some (.int .i64 ((rd_T37 y1110 x5_1).f0)) := hcc6 0 _ rfl; have hx6_1 : w12.cell? ⟨go5, (x5_1 : Int).toNat * 5 + 1, none⟩ = some (.int .i64 ((rd_T37 y1110 x5_1).f1)) := hcc6 1 _ rfl; have hx6_2 : w12.cell? ⟨go5, (x5_1 : Int).toNat * 5 + 2, none⟩ = some (.int .i64 ((rd_T37 y1110 x5_1).f2)) := hcc6 2 _ rfl; have hx6_3 : w12.cell? ⟨go5, (x5_1 : Int).toNat * 5 + 3, none⟩ = some (.int .i64 ((rd_T37 y1110 x5_1).f3)) := hcc6 3 _ rfl; have hx6_4 : w12.cell? ⟨go5, (x5_1 : Int).toNat * 5 + 4, none⟩ = some (.int .i64 ((rd_T37 y1110 x5_1).f4)) := hcc6 4 _ rfl; have hf6_0 : w12.frozen? ⟨go5, (x5_1 : Int).toNat * 5, none⟩ = false := hfr6 0; have hf6_1 : w12.frozen? ⟨go5, (x5_1 : Int).toNat * 5 + 1, none⟩ = false := hfr6 1; have hf6_2 : w12.frozen? ⟨go5, (x5_1 : Int).toNat * 5 + 2, none⟩ = false := hfr6 2; have hf6_3 : w12.frozen? ⟨go5, (x5_1 : Int).toNat * 5 + 3, none⟩ = false := hfr6 3; have hf6_4 : w12.frozen? ⟨go5, (x5_1 : Int).toNat * 5 + 4, none⟩ = false := hfr6 4; clear hcl6 hcc6 hfr6 hM6; replace p6 := eq_true p6; replace q6 := eq_true q6; have HX13 := Aside0.mk (show Kd.R k37 37 w12 w0.heap.size (fun k_ => (P0_ k_ ∨ w.heap.size ≤ k_)) (.slice (some ⟨go5, 0, none⟩) x0_1.length co10) y1110 from (kr_ HO_0.out)); obtain ⟨ce13, hcl13, hM13, hcc13, hfr13⟩ := Kd.R_elem HX13.out z37 (x5_1 : Int) (dt_) (by have h_ : (x5_1 : Int) < ((x0_1.length : Int) : Int) := dt_; first | exact h_ | (have e_ := (Kd.R_reads' HO_0.out).1; omega) | simpa using h_); obtain rfl := k37_openM hM13; have HP13 := Kd.R_seg HX13.out (x5_1 : Int) (dt_) (by have h_ : (x5_1 : Int) < ((x0_1.length : Int) : Int) := dt_; first | exact h_ | (have e_ := (Kd.R_reads' HO_0.out).1; omega) | simpa using h_) (seg := [.int .i64 (wrap64 (x1_1 + 1))]) (j := 1) hcl13 hcc13 (show 2 ≤ 5 from by decide) (x' := (⟨(rd_T37 y1110 x5_1).f0, wrap64 (x1_1 + 1), (rd_T37 y1110 x5_1).f2, (rd_T37 y1110 x5_1).f3, (rd_T37 y1110 x5_1).f4⟩ : S37)) (k37_mkM _ _ _ (⟨(rd_T37 y1110 x5_1).f0, wrap64 (x1_1 + 1), (rd_T37 y1110 x5_1).f2, (rd_T37 y1110 x5_1).f3, (rd_T37 y1110 x5_1).f4⟩ : S37) ) (fun _ hk => hk); have hx13_1 := hcc13 1 _ rfl; (try simp only [show (k37).sz = 5 from rfl, Nat.mul_one, Nat.add_zero] at hx13_1); have hf13_1 := hfr13 1; (try simp only [show (k37).sz = 5 from rfl, Nat.mul_one, Nat.add_zero] at hf13_1); clear hcl13 hcc13 hfr13 hM13) | ((with_reducible refine gate_store (t := 3) (p := 23) rfl ?_); refine store_event (t := 3) (p := 23) (v := ?vo_w14) (w1 := (w12.setCell ⟨go5, (x5_1 : Int).toNat * 5 + 1, none⟩ (.int .i64 (wrap64 (x1_1 + 1))))) ?hg ?ho ?hn ?hr ?_; (case ho => rfl); (case hg => rfl); (case hn => rfl); (case hr => first | (go_simp; done) | (go_simp; rfl)); intro w14 hw; have hg : w12.grownBy w14 (some go5) := (by rw [hw]; exact HP13.2); have hp_ : Kd.R k37 37 w14 w0.heap.size (fun k_ => (P0_ k_ ∨ w.heap.size ≤ k_)) (.slice (some ⟨go5, 0, none⟩) x0_1.length co10) y1111 := (by rw [hw, Ny1111.out]; exact HP13.1); clear HP13; replace HB := Aside0.mk ((by rw [hw]; exact below_set (HB.out) GB5.out : Below w0.heap.size w0 w14)); replace HK := Aside0.mk (Kept.of_grown (S := (fun k_ => P0_ k_)) hg (kt_ HK.out) (fun k_ e_ => (HO_0.out.1 k_ e_))); replace HO_0 := Aside0.mk (hp_); clear hg hw hp_; have p7 : 0 ≤ (x5_1 : Int) := dt_; have q7 : (x5_1 : Int) < ((x0_1.length : Int) : Int) := dt_; obtain ⟨ce7, hcl7, hM7, hcc7, hfr7⟩ := Kd.R_elem HO_0.out z37 (x5_1 : Int) p7 q7; obtain rfl := k37_openM hM7; have hx7_0 : w14.cell? ⟨go5, (x5_1 : Int).toNat * 5, none⟩ = some (.int .i64 ((rd_T37 y1111 x5_1).f0)) := hcc7 0 _ rfl; have hx7_1 : w14.cell? ⟨go5, (x5_1 : Int).toNat * 5 + 1, none⟩ = some (.int .i64 ((rd_T37 y1111 x5_1).f1)) := hcc7 1 _ rfl; have hx7_2 : w14.cell? ⟨go5, (x5_1 : Int).toNat * 5 + 2, none⟩ = some (.int .i64 ((rd_T37 y1111 x5_1).f2)) := hcc7 2 _ rfl; have hx7_3 : w14.cell? ⟨go5, (x5_1 : Int).toNat * 5 + 3, none⟩ = some (.int .i64 ((rd_T37 y1111 x5_1).f3)) := hcc7 3 _ rfl; have hx7_4 : w14.cell? ⟨go5, (x5_1 : Int).toNat * 5 + 4, none⟩ = some (.int .i64 ((rd_T37 y1111 x5_1).f4)) := hcc7 4 _ rfl; have hf7_0 : w14.frozen? ⟨go5, (x5_1 : Int).toNat * 5, none⟩ = false := hfr7 0; have hf7_1 : w14.frozen? ⟨go5, (x5_1 : Int).toNat * 5 + 1, none⟩ = false := hfr7 1; have hf7_2 : w14.frozen? ⟨go5, (x5_1 : Int).toNat * 5 + 2, none⟩ = false := hfr7 2; have hf7_3 : w14.frozen? ⟨go5, (x5_1 : Int).toNat * 5 + 3, none⟩ = false := hfr7 3; have hf7_4 : w14.frozen? ⟨go5, (x5_1 : Int).toNat * 5 + 4, none⟩ = false := hfr7 4; clear hcl7 hcc7 hfr7 hM7; replace p7 := eq_true p7; replace q7 := eq_true q7; have HX15 := Aside0.mk (show Kd.R k37 37 w14 w0.heap.size (fun k_ => (P0_ k_ ∨ w.heap.size ≤ k_)) (.slice (some ⟨go5, 0, none⟩) x0_1.length co10) y1111 from (kr_ HO_0.out)); obtain ⟨ce15, hcl15, hM15, hcc15, hfr15⟩ := Kd.R_elem HX15.out z37 (x5_1 : Int) (dt_) (by have h_ : (x5_1 : Int) < ((x0_1.length : Int) : Int) := dt_; first | exact h_ | (have e_ := (Kd.R_reads' HO_0.out).1; omega) | simpa using h_); obtain rfl := k37_openM hM15; have HP15 := Kd.R_seg HX15.out (x5_1 : Int) (dt_) (by have h_ : (x5_1 : Int) < ((x0_1.length : Int) : Int) := dt_; first | exact h_ | (have e_ := (Kd.R_reads' HO_0.out).1; omega) | simpa using h_) (seg := [.int .i64 (wrap64 ((wrap64 (x1_1 + 1)) + 1))]) (j := 2) hcl15 hcc15 (show 3 ≤ 5 from by decide) (x' := (⟨(rd_T37 y1111 x5_1).f0, (rd_T37 y1111 x5_1).f1, wrap64 ((wrap64 (x1_1 + 1)) + 1), (rd_T37 y1111 x5_1).f3, (rd_T37 y1111 x5_1).f4⟩ : S37)) (k37_mkM _ _ _ (⟨(rd_T37 y1111 x5_1).f0, (rd_T37 y1111 x5_1).f1, wrap64 ((wrap64 (x1_1 + 1)) + 1), (rd_T37 y1111 x5_1).f3, (rd_T37 y1111 x5_1).f4⟩ : S37) ) (fun _ hk => hk); have hx15_2 := hcc15 2 _ rfl; (try simp only [show (k37).sz = 5 from rfl, Nat.mul_one, Nat.add_zero] at hx15_2); have hf15_2 := hfr15 2; (try simp only [show (k37).sz = 5 from rfl, Nat.mul_one, Nat.add_zero] at hf15_2); clear hcl15 hcc15 hfr15 hM15) | ((with_reducible refine gate_store (t := 3) (p := 30) rfl ?_); refine store_event (t := 3) (p := 30) (v := ?vo_w16) (w1 := (w14.setCell ⟨go5, (x5_1 : Int).toNat * 5 + 2, none⟩ (.int .i64 (wrap64 ((wrap64 (x1_1 + 1)) + 1))))) ?hg ?ho ?hn ?hr ?_; (case ho => rfl); (case hg => rfl); (case hn => rfl); (case hr => first | (go_simp; done) | (go_simp; rfl)); intro w16 hw; have hg : w14.grownBy w16 (some go5) := (by rw [hw]; exact HP15.2); have hp_ : Kd.R k37 37 w16 w0.heap.size (fun k_ => (P0_ k_ ∨ w.heap.size ≤ k_)) (.slice (some ⟨go5, 0, none⟩) x0_1.length co10) y1112 := (by rw [hw, Ny1112.out]; exact HP15.1); clear HP15; replace HB := Aside0.mk ((by rw [hw]; exact below_set (HB.out) GB5.out : Below w0.heap.size w0 w16)); replace HK := Aside0.mk (Kept.of_grown (S := (fun k_ => P0_ k_)) hg (kt_ HK.out) (fun k_ e_ => (HO_0.out.1 k_ e_))); replace HO_0 := Aside0.mk (hp_); clear hg hw hp_; have p8 : 0 ≤ (x5_1 : Int) := dt_; have q8 : (x5_1 : Int) < ((x0_1.length : Int) : Int) := dt_; obtain ⟨ce8, hcl8, hM8, hcc8, hfr8⟩ := Kd.R_elem HO_0.out z37 (x5_1 : Int) p8 q8; obtain rfl := k37_openM hM8; have hx8_0 : w16.cell? ⟨go5, (x5_1 : Int).toNat * 5, none⟩ = some (.int .i64 ((rd_T37 y1112 x5_1).f0)) := hcc8 0 _ rfl; have hx8_1 : w16.cell? ⟨go5, (x5_1 : Int).toNat * 5 + 1, none⟩ = some (.int .i64 ((rd_T37 y1112 x5_1).f1)) := hcc8 1 _ rfl; have hx8_2 : w16.cell? ⟨go5, (x5_1 : Int).toNat * 5 + 2, none⟩ = some (.int .i64 ((rd_T37 y1112 x5_1).f2)) := hcc8 2 _ rfl; have hx8_3 : w16.cell? ⟨go5, (x5_1 : Int).toNat * 5 + 3, none⟩ = some (.int .i64 ((rd_T37 y1112 x5_1).f3)) := hcc8 3 _ rfl; have hx8_4 : w16.cell? ⟨go5, (x5_1 : Int).toNat * 5 + 4, none⟩ = some (.int .i64 ((rd_T37 y1112 x5_1).f4)) := hcc8 4 _ rfl; have hf8_0 : w16.frozen? ⟨go5, (x5_1 : Int).toNat * 5, none⟩ = false := hfr8 0; have hf8_1 : w16.frozen? ⟨go5, (x5_1 : Int).toNat * 5 + 1, none⟩ = false := hfr8 1; have hf8_2 : w16.frozen? ⟨go5, (x5_1 : Int).toNat * 5 + 2, none⟩ = false := hfr8 2; have hf8_3 : w16.frozen? ⟨go5, (x5_1 : Int).toNat * 5 + 3, none⟩ = false := hfr8 3; have hf8_4 : w16.frozen? ⟨go5, (x5_1 : Int).toNat * 5 + 4, none⟩ = false := hfr8 4; clear hcl8 hcc8 hfr8 hM8; replace p8 := eq_true p8; replace q8 := eq_true q8; have HX17 := Aside0.mk (show Kd.R k37 37 w16 w0.heap.size (fun k_ => (P0_ k_ ∨ w.heap.size ≤ k_)) (.slice (some ⟨go5, 0, none⟩) x0_1.length co10) y1112 from (kr_ HO_0.out)); obtain ⟨ce17, hcl17, hM17, hcc17, hfr17⟩ := Kd.R_elem HX17.out z37 (x5_1 : Int) (dt_) (by have h_ : (x5_1 : Int) < ((x0_1.length : Int) : Int) := dt_; first | exact h_ | (have e_ := (Kd.R_reads' HO_0.out).1; omega) | simpa using h_); obtain rfl := k37_openM hM17; have HP17 := Kd.R_seg HX17.out (x5_1 : Int) (dt_) (by have h_ : (x5_1 : Int) < ((x0_1.length : Int) : Int) := dt_; first | exact h_ | (have e_ := (Kd.R_reads' HO_0.out).1; omega) | simpa using h_) (seg := [.int .i64 (wrap64 ((wrap64 ((wrap64 (x1_1 + 1)) + 1)) + 1))]) (j := 3) hcl17 hcc17 (show 4 ≤ 5 from by decide) (x' := (⟨(rd_T37 y1112 x5_1).f0, (rd_T37 y1112 x5_1).f1, (rd_T37 y1112 x5_1).f2, wrap64 ((wrap64 ((wrap64 (x1_1 + 1)) + 1)) + 1), (rd_T37 y1112 x5_1).f4⟩ : S37)) (k37_mkM _ _ _ (⟨(rd_T37 y1112 x5_1).f0, (rd_T37 y1112 x5_1).f1, (rd_T37 y1112 x5_1).f2, wrap64 ((wrap64 ((wrap64 (x1_1 + 1)) + 1)) + 1), (rd_T37 y1112 x5_1).f4⟩ : S37) ) (fun _ hk => hk); have hx17_3 := hcc17 3 _ rfl; (try simp only [show (k37).sz = 5 from rfl, Nat.mul_one, Nat.add_zero] at hx17_3); have hf17_3 := hfr17 3; (try simp only [show (k37).sz = 5 from rfl, Nat.mul_one, Nat.add_zero] at hf17_3); clear hcl17 hcc17 hfr17 hM17) | ((with_reducible refine gate_store (t := 3) (p := 37) rfl ?_); refine store_event (t := 3) (p := 37) (v := ?vo_w18) (w1 := (w16.setCell ⟨go5, (x5_1 : Int).toNat * 5 + 3, none⟩ (.int .i64 (wrap64 ((wrap64 ((wrap64 (x1_1 + 1)) + 1)) + 1))))) ?hg ?ho ?hn ?hr ?_; (case ho => rfl); (case hg => rfl); (case hn => rfl); (case hr => first | (go_simp; done) | (go_simp; rfl)); intro w18 hw; have hg : w16.grownBy w18 (some go5) := (by rw [hw]; exact HP17.2); have hp_ : Kd.R k37 37 w18 w0.heap.size (fun k_ => (P0_ k_ ∨ w.heap.size ≤ k_)) (.slice (some ⟨go5, 0, none⟩) x0_1.length co10) y1113 := (by rw [hw, Ny1113.out]; exact HP17.1); clear HP17; replace HB := Aside0.mk ((by rw [hw]; exact below_set (HB.out) GB5.out : Below w0.heap.size w0 w18)); replace HK := Aside0.mk (Kept.of_grown (S := (fun k_ => P0_ k_)) hg (kt_ HK.out) (fun k_ e_ => (HO_0.out.1 k_ e_))); replace HO_0 := Aside0.mk (hp_); clear hg hw hp_; have p9 : 0 ≤ (x5_1 : Int) := dt_; have q9 : (x5_1 : Int) < ((x0_1.length : Int) : Int) := dt_; obtain ⟨ce9, hcl9, hM9, hcc9, hfr9⟩ := Kd.R_elem HO_0.out z37 (x5_1 : Int) p9 q9; obtain rfl := k37_openM hM9; have hx9_0 : w18.cell? ⟨go5, (x5_1 : Int).toNat * 5, none⟩ = some (.int .i64 ((rd_T37 y1113 x5_1).f0)) := hcc9 0 _ rfl; have hx9_1 : w18.cell? ⟨go5, (x5_1 : Int).toNat * 5 + 1, none⟩ = some (.int .i64 ((rd_T37 y1113 x5_1).f1)) := hcc9 1 _ rfl; have hx9_2 : w18.cell? ⟨go5, (x5_1 : Int).toNat * 5 + 2, none⟩ = some (.int .i64 ((rd_T37 y1113 x5_1).f2)) := hcc9 2 _ rfl; have hx9_3 : w18.cell? ⟨go5, (x5_1 : Int).toNat * 5 + 3, none⟩ = some (.int .i64 ((rd_T37 y1113 x5_1).f3)) := hcc9 3 _ rfl; have hx9_4 : w18.cell? ⟨go5, (x5_1 : Int).toNat * 5 + 4, none⟩ = some (.int .i64 ((rd_T37 y1113 x5_1).f4)) := hcc9 4 _ rfl; have hf9_0 : w18.frozen? ⟨go5, (x5_1 : Int).toNat * 5, none⟩ = false := hfr9 0; have hf9_1 : w18.frozen? ⟨go5, (x5_1 : Int).toNat * 5 + 1, none⟩ = false := hfr9 1; have hf9_2 : w18.frozen? ⟨go5, (x5_1 : Int).toNat * 5 + 2, none⟩ = false := hfr9 2; have hf9_3 : w18.frozen? ⟨go5, (x5_1 : Int).toNat * 5 + 3, none⟩ = false := hfr9 3; have hf9_4 : w18.frozen? ⟨go5, (x5_1 : Int).toNat * 5 + 4, none⟩ = false := hfr9 4; clear hcl9 hcc9 hfr9 hM9; replace p9 := eq_true p9; replace q9 := eq_true q9; have HX19 := Aside0.mk (show Kd.R k37 37 w18 w0.heap.size (fun k_ => (P0_ k_ ∨ w.heap.size ≤ k_)) (.slice (some ⟨go5, 0, none⟩) x0_1.length co10) y1113 from (kr_ HO_0.out)); obtain ⟨ce19, hcl19, hM19, hcc19, hfr19⟩ := Kd.R_elem HX19.out z37 (x5_1 : Int) (dt_) (by have h_ : (x5_1 : Int) < ((x0_1.length : Int) : Int) := dt_; first | exact h_ | (have e_ := (Kd.R_reads' HO_0.out).1; omega) | simpa using h_); obtain rfl := k37_openM hM19; have HP19 := Kd.R_seg HX19.out (x5_1 : Int) (dt_) (by have h_ : (x5_1 : Int) < ((x0_1.length : Int) : Int) := dt_; first | exact h_ | (have e_ := (Kd.R_reads' HO_0.out).1; omega) | simpa using h_) (seg := [.int .i64 (wrap64 ((wrap64 ((wrap64 ((wrap64 (x1_1 + 1)) + 1)) + 1)) + 1))]) (j := 4) hcl19 hcc19 (show 5 ≤ 5 from by decide) (x' := (⟨(rd_T37 y1113 x5_1).f0, (rd_T37 y1113 x5_1).f1, (rd_T37 y1113 x5_1).f2, (rd_T37 y1113 x5_1).f3, wrap64 ((wrap64 ((wrap64 ((wrap64 (x1_1 + 1)) + 1)) + 1)) + 1)⟩ : S37)) (k37_mkM _ _ _ (⟨(rd_T37 y1113 x5_1).f0, (rd_T37 y1113 x5_1).f1, (rd_T37 y1113 x5_1).f2, (rd_T37 y1113 x5_1).f3, wrap64 ((wrap64 ((wrap64 ((wrap64 (x1_1 + 1)) + 1)) + 1)) + 1)⟩ : S37) ) (fun _ hk => hk); have hx19_4 := hcc19 4 _ rfl; (try simp only [show (k37).sz = 5 from rfl, Nat.mul_one, Nat.add_zero] at hx19_4); have hf19_4 := hfr19 4; (try simp only [show (k37).sz = 5 from rfl, Nat.mul_one, Nat.add_zero] at hf19_4); clear hcl19 hcc19 hfr19 hM19) | ((with_reducible refine gate_store (t := 3) (p := 44) rfl ?_); refine store_event (t := 3) (p := 44) (v := ?vo_w20) (w1 := (w18.setCell ⟨go5, (x5_1 : Int).toNat * 5 + 4, none⟩ (.int .i64 (wrap64 ((wrap64 ((wrap64 ((wrap64 (x1_1 + 1)) + 1)) + 1)) + 1))))) ?hg ?ho ?hn ?hr ?_; (case ho => rfl); (case hg => rfl); (case hn => rfl); (case hr => first | (go_simp; done) | (go_simp; rfl)); intro w20 hw; have hg : w18.grownBy w20 (some go5) := (by rw [hw]; exact HP19.2); have hp_ : Kd.R k37 37 w20 w0.heap.size (fun k_ => (P0_ k_ ∨ w.heap.size ≤ k_)) (.slice (some ⟨go5, 0, none⟩) x0_1.length co10) y1114 := (by rw [hw, Ny1114.out]; exact HP19.1); clear HP19; replace HB := Aside0.mk ((by rw [hw]; exact below_set (HB.out) GB5.out : Below w0.heap.size w0 w20)); replace HK := Aside0.mk (Kept.of_grown (S := (fun k_ => P0_ k_)) hg (kt_ HK.out) (fun k_ e_ => (HO_0.out.1 k_ e_))); replace HO_0 := Aside0.mk (hp_); clear hg hw hp_))
     go_roundg k1
     case measure => have := HK1.out; omega
     case rel => exact ⟨(y1114), (wrap64 ((wrap64 ((wrap64 ((wrap64 ((wrap64 (x1_1 + 1)) + 1)) + 1)) + 1)) + 1)), (wrap64 (x5_1 + 1)), (by first | rfl | (simp; done) | (simp [*]; done)), (by first | rfl | (simp; done) | (simp [*]; done)), H', ⟨by have := HK1.out; omega⟩, ⟨by (with_reducible repeat (first | apply Kd.R_alloc | apply Kd.R_drewN | apply Kd.R_drew)); first | exact HO_0.out | (rw [Ny1114.out]; exact (Kd.R_putg (Kd.R_drewN HO_0.out _) _ _).1) | (rw [Ny1114.out]; exact (Kd.R_putg HO_0.out _ _).1)⟩, ⟨kt_ HK.out⟩, ⟨by repeat (first | (with_reducible first | exact HB.out | apply below_alloc | apply pw_below_drewN | apply below_drew1) | exact HB.out | (first | exact below_set (pw_below_drewN HB.out _) GB5.out | exact below_set HB.out GB5.out))⟩⟩
    ·
     rw [if_neg c4] at H
     exact absurd H (by simp)
   ·
    rw [if_neg c3] at H
    have c3b0 : decide (x5_1 < (x0_1.length : Int)) = false := decide_eq_false c3
    clear c3
    simp only [Option.some.injEq, Prod.mk.injEq] at H
    obtain ⟨rfl, rfl⟩ := H
    obtain ⟨Ao21, co21, eo21⟩ := Kd.R_slice HO_0.out
    subst eo21
    go_wp2
    go_ret
    exact ⟨rr_, kr_ HO_0.out, lb0_ HB.out, kt_ HK.out⟩
def laws_markBoolS.l0 : Nat → List Bool → Int → Int → Option (Int × List Bool)
 | 0, _, _, _ => none
 | k + 1, x0, x1, x5 => if x5 < (x0.length : Int) then (if 0 ≤ x5 then (laws_markBoolS.l0 k (x0.set (x5 : Int).toNat ((Int.tmod x1 3) == 0)) (wrap64 (x1 + 1)) (wrap64 (x5 + 1))) else (none)) else (some (x1, x0))
def laws_markBoolS.f (k : Nat) (l0 : List Bool) (a1 : Int) : Option (Int × List Bool) := laws_markBoolS.l0 k l0 a1 0
set_option maxHeartbeats 8000000 in
set_option maxRecDepth 100000 in
theorem laws_markBoolS.calls (k : Nat) (P0_ : Nat → Prop) (u9000_ : Value) (l0 : List Bool) (a1 : Int) (r1 : Int) (r2 : List Bool) (w0 w : World) (hB : Below w0.heap.size w0 w) (ho0 : Kd.R Kd.bool 4 w w0.heap.size P0_ u9000_ l0) (h : laws_markBoolS.f k l0 a1 = some (r1, r2)) :
  Calls Try.prog 91 #[u9000_, .int .i64 a1] w fun e w' => e = .returned (.int .i64 r1) ∧ Kd.R Kd.bool 4 w' w0.heap.size (fun k_ => (P0_ k_ ∨ w.heap.size ≤ k_)) u9000_ r2 ∧ Below w0.heap.size w0 w' ∧ Kept w w' (fun k_ => P0_ k_) := by
 have HO0 := Aside0.mk (show Kd.R Kd.bool 4 w w0.heap.size (fun k_ => (P0_ k_ ∨ w.heap.size ≤ k_)) u9000_ l0 from Kd.R_mono ho0 (fun k_ hk => (.inl hk)))
 have HK := Aside0.mk (Kept.refl w (fun k_ => P0_ k_))
 have HW0 := Aside0.mk hB.size
 have HB := Aside0.mk hB
 clear hB
 have H : (laws_markBoolS.l0 k l0 a1 0) = some (r1, r2) := h
 clear h
 have H' := Aside0.mk H
 clear H
 go_enter Try.func91, Try.ntmps91
 go_wp2
 go_loopg [1, 5] k (fun kq v1 v5 w' => ∃ (x0_1 : List Bool) (x1_1 : Int) (x5_1 : Int), v1 = .int .i64 x1_1 ∧ v5 = .int .i64 x5_1 ∧ Aside0 (laws_markBoolS.l0 kq x0_1 x1_1 x5_1 = some (r1, r2)) ∧ Aside0 (kq ≤ k) ∧ Aside0 (Kd.R Kd.bool 4 w' w0.heap.size (fun k_ => (P0_ k_ ∨ w.heap.size ≤ k_)) u9000_ x0_1) ∧ Aside0 (Kept w w' (fun k_ => P0_ k_)) ∧ Aside0 (Below w0.heap.size w0 w'))
 case atStart => exact ⟨(l0), (a1), (0), (by first | rfl | (simp; done) | (simp [*]; done)), (by first | rfl | (simp; done) | (simp [*]; done)), H', ⟨Nat.le_refl _⟩, ⟨kr_ HO0.out⟩, ⟨kt_ HK.out⟩, ⟨lb0_ HB.out⟩⟩
 case round =>
  clear H'
  try clear p2
  obtain ⟨x0_1, x1_1, x5_1, rfl, rfl, HA, HK1, HO_0, HK, HB⟩ := hrel
  cases gk with
  | zero => exact absurd HA.out (by simp [laws_markBoolS.l0])
  | succ k1 =>
   have H := HA.out
   clear HA
   simp only [laws_markBoolS.l0] at H
   by_cases c3 : x5_1 < (x0_1.length : Int)
   ·
    rw [if_pos c3] at H
    have c3b0 : decide (x5_1 < (x0_1.length : Int)) = true := decide_eq_true c3
    clear c3
    by_cases c4 : 0 ≤ x5_1
    ·
     rw [if_pos c4] at H
     have c4b0 : decide (0 ≤ x5_1) = true := decide_eq_true c4
     clear c4
     obtain ⟨y1115, hy1115⟩ : ∃ y_ : List Bool, y_ = (x0_1.set (x5_1 : Int).toNat ((Int.tmod x1_1 3) == 0)) := ⟨_, rfl⟩
     replace H : (laws_markBoolS.l0 k1 y1115 (wrap64 (x1_1 + 1)) (wrap64 (x5_1 + 1))) = some (r1, r2) := by first | (rw [hy1115]; with_reducible exact H) | (have H2_ := (Option.bind_some _ _).symm.trans H; rw [hy1115]; with_reducible exact H2_) | (have H2_ := (Option.bind_some _ _).symm.trans H; with_reducible exact H2_) | with_reducible exact H | (rw [hy1115]; exact H) | exact H
     have Ny1115 := Aside0.mk hy1115
     clear hy1115
     have H' := Aside0.mk H
     clear H
     obtain ⟨Ao6, co6, eo6⟩ := Kd.R_slice HO_0.out
     subst eo6
     have p5 : 0 ≤ (x5_1 : Int) := dt_
     have q5 : (x5_1 : Int) < ((x0_1.length : Int) : Int) := dt_
     obtain ⟨go5, co5, eo5, gb5, gl5, cl5, HG5⟩ := Kd.R_form HO_0.out (by omega)
     (first | cases eo5 | (injection eo5 with ea_ en_ ec_; (first | subst ea_ | (injection ea_ with ea_; subst ea_)); subst ec_; clear en_))
     have GB5 := Aside0.mk gb5
     have GG5 := Aside0.mk HG5
     clear gb5 gl5 HG5
     have HMgo5 := Aside0.mk (show (P0_ go5 ∨ w.heap.size ≤ go5) from (HO_0.out.1 _ rfl))
     obtain ⟨hx5_0, hf5_0⟩ := Kd.R_celln false HO_0.out (x5_1 : Int) p5 q5
     replace p5 := eq_true p5
     replace q5 := eq_true q5
     have HP7 := Kd.R_putg HO_0.out (x5_1 : Int) ((Int.tmod x1_1 3) == 0)
     go_wp2_with (first | ((with_reducible refine gate_store (t := 4) (p := 17) rfl ?_); refine store_event (t := 4) (p := 17) (v := ?vo_w8) (w1 := (wr.setCell ⟨go5, (x5_1 : Int).toNat, none⟩ (.bool ((Int.tmod x1_1 3) == 0)))) ?hg ?ho ?hn ?hr ?_; (case ho => rfl); (case hg => rfl); (case hn => rfl); (case hr => first | (go_simp; done) | (go_simp; rfl)); intro w8 hw; have hg : wr.grownBy w8 (some go5) := (by rw [hw]; exact HP7.2); have hp_ : Kd.R Kd.bool 4 w8 w0.heap.size (fun k_ => (P0_ k_ ∨ w.heap.size ≤ k_)) (.slice (some ⟨go5, 0, none⟩) x0_1.length co6) y1115 := (by rw [hw, Ny1115.out]; exact HP7.1); clear HP7; replace HB := Aside0.mk ((by rw [hw]; exact below_set (HB.out) GB5.out : Below w0.heap.size w0 w8)); replace HK := Aside0.mk (Kept.of_grown (S := (fun k_ => P0_ k_)) hg (kt_ HK.out) (fun k_ e_ => (HO_0.out.1 k_ e_))); replace HO_0 := Aside0.mk (hp_); clear hg hw hp_))
     go_roundg k1
     case measure => have := HK1.out; omega
     case rel => exact ⟨(y1115), (wrap64 (x1_1 + 1)), (wrap64 (x5_1 + 1)), (by first | rfl | (simp; done) | (simp [*]; done)), (by first | rfl | (simp; done) | (simp [*]; done)), H', ⟨by have := HK1.out; omega⟩, ⟨by (with_reducible repeat (first | apply Kd.R_alloc | apply Kd.R_drewN | apply Kd.R_drew)); first | exact HO_0.out | (rw [Ny1115.out]; exact (Kd.R_putg (Kd.R_drewN HO_0.out _) _ _).1) | (rw [Ny1115.out]; exact (Kd.R_putg HO_0.out _ _).1)⟩, ⟨kt_ HK.out⟩, ⟨by repeat (first | (with_reducible first | exact HB.out | apply below_alloc | apply pw_below_drewN | apply below_drew1) | exact HB.out | (first | exact below_set (pw_below_drewN HB.out _) GB5.out | exact below_set HB.out GB5.out))⟩⟩
    ·
     rw [if_neg c4] at H
     exact absurd H (by simp)
   ·
    rw [if_neg c3] at H
    have c3b0 : decide (x5_1 < (x0_1.length : Int)) = false := decide_eq_false c3
    clear c3
    simp only [Option.some.injEq, Prod.mk.injEq] at H
    obtain ⟨rfl, rfl⟩ := H
    obtain ⟨Ao9, co9, eo9⟩ := Kd.R_slice HO_0.out
    subst eo9
    go_wp2
    go_ret
    exact ⟨rr_, kr_ HO_0.out, lb0_ HB.out, kt_ HK.out⟩
def laws_markExploration.f (k : Nat) (l0_0 : List (S37)) (l0_1 : List Bool) (l0_2 : List Bool) (a0_3 : Int) (a0_4 : Int) (a1 : Int) : Option (Int × (List (S37)) × List Bool × List Bool) := (laws_markLegS.f k l0_0 a1).bind fun bt1117 => ((laws_markBoolS.f k l0_1 bt1117.1).bind fun bt1119 => ((laws_markBoolS.f k l0_2 bt1119.1).bind fun bt1121 => (some (bt1121.1, bt1117.2, bt1119.2, bt1121.2))))
set_option maxHeartbeats 8000000 in
set_option maxRecDepth 100000 in
theorem laws_markExploration.calls (k : Nat) (P0_0_ : Nat → Prop) (u9000_ : Value) (l0_0 : List (S37)) (P0_1_ : Nat → Prop) (u9001_ : Value) (l0_1 : List Bool) (P0_2_ : Nat → Prop) (u9002_ : Value) (l0_2 : List Bool) (a0_3 : Int) (a0_4 : Int) (a1 : Int) (r1 : Int) (r2 : List (S37)) (r3 : List Bool) (r4 : List Bool) (w0 w : World) (hB : Below w0.heap.size w0 w) (ho0_0 : Kd.R k37 37 w w0.heap.size P0_0_ u9000_ l0_0) (ho0_1 : Kd.R Kd.bool 4 w w0.heap.size P0_1_ u9001_ l0_1) (hp0_1_0_2 : ∀ k_, P0_1_ k_ → ¬ P0_2_ k_) (ho0_2 : Kd.R Kd.bool 4 w w0.heap.size P0_2_ u9002_ l0_2) (hp0_2_0_1 : ∀ k_, P0_2_ k_ → ¬ P0_1_ k_) (h : laws_markExploration.f k l0_0 l0_1 l0_2 a0_3 a0_4 a1 = some (r1, r2, r3, r4)) :
  Calls Try.prog 41 #[.agg #[u9000_, u9001_, u9002_, .int .i64 a0_3, .int .i64 a0_4], .int .i64 a1] w fun e w' => e = .returned (.int .i64 r1) ∧ Kd.R k37 37 w' w0.heap.size (fun k_ => ((P0_0_ k_ ∨ P0_1_ k_ ∨ P0_2_ k_) ∨ w.heap.size ≤ k_)) u9000_ r2 ∧ Kd.R Kd.bool 4 w' w0.heap.size (fun k_ => ((P0_0_ k_ ∨ P0_1_ k_ ∨ P0_2_ k_) ∨ w.heap.size ≤ k_)) u9001_ r3 ∧ Kd.R Kd.bool 4 w' w0.heap.size (fun k_ => ((P0_0_ k_ ∨ P0_1_ k_ ∨ P0_2_ k_) ∨ w.heap.size ≤ k_)) u9002_ r4 ∧ Below w0.heap.size w0 w' ∧ Kept w w' (fun k_ => P0_0_ k_ ∨ P0_1_ k_ ∨ P0_2_ k_) := by
 have hu30 := Try.underlying30
 have HO0_0 := Aside0.mk (show Kd.R k37 37 w w0.heap.size (fun k_ => ((P0_0_ k_ ∨ P0_1_ k_ ∨ P0_2_ k_) ∨ w.heap.size ≤ k_)) u9000_ l0_0 from Kd.R_mono ho0_0 (fun k_ hk => (.inl (.inl hk))))
 have HO0_1 := Aside0.mk (show Kd.R Kd.bool 4 w w0.heap.size (fun k_ => ((P0_0_ k_ ∨ P0_1_ k_ ∨ P0_2_ k_) ∨ w.heap.size ≤ k_) ∧ some k_ ≠ (u9002_ : Value).ownBlock) u9001_ l0_1 from Kd.R_mono ho0_1 (fun k_ hk => ⟨(.inl (.inr (.inl hk))), fun e_ => hp0_1_0_2 k_ hk (ho0_2.1 k_ e_.symm)⟩))
 have HO0_2 := Aside0.mk (show Kd.R Kd.bool 4 w w0.heap.size (fun k_ => ((P0_0_ k_ ∨ P0_1_ k_ ∨ P0_2_ k_) ∨ w.heap.size ≤ k_) ∧ some k_ ≠ (u9001_ : Value).ownBlock) u9002_ l0_2 from Kd.R_mono ho0_2 (fun k_ hk => ⟨(.inl (.inr (.inr hk))), fun e_ => hp0_2_0_1 k_ hk (ho0_1.1 k_ e_.symm)⟩))
 have HK := Aside0.mk (Kept.refl w (fun k_ => P0_0_ k_ ∨ P0_1_ k_ ∨ P0_2_ k_))
 have HW0 := Aside0.mk hB.size
 have HB := Aside0.mk hB
 clear hB
 have H : ((laws_markLegS.f k l0_0 a1).bind fun bt1117 => ((laws_markBoolS.f k l0_1 bt1117.1).bind fun bt1119 => ((laws_markBoolS.f k l0_2 bt1119.1).bind fun bt1121 => (some (bt1121.1, bt1117.2, bt1119.2, bt1121.2))))) = some (r1, r2, r3, r4) := h
 clear h
 replace H := Option.bind_eq_some_iff.mp H
 obtain ⟨⟨t1117, t1118⟩, A30, H⟩ := H
 replace H : ((laws_markBoolS.f k l0_1 t1117).bind fun bt1119 => ((laws_markBoolS.f k l0_2 bt1119.1).bind fun bt1121 => (some (bt1121.1, t1118, bt1119.2, bt1121.2)))) = some (r1, r2, r3, r4) := H
 have A3 := Aside0.mk A30
 clear A30
 replace H := Option.bind_eq_some_iff.mp H
 obtain ⟨⟨t1119, t1120⟩, A40, H⟩ := H
 replace H : ((laws_markBoolS.f k l0_2 t1119).bind fun bt1121 => (some (bt1121.1, t1118, t1120, bt1121.2))) = some (r1, r2, r3, r4) := H
 have A4 := Aside0.mk A40
 clear A40
 replace H := Option.bind_eq_some_iff.mp H
 obtain ⟨⟨t1121, t1122⟩, A50, H⟩ := H
 replace H : (some (t1121, t1118, t1120, t1122)) = some (r1, r2, r3, r4) := H
 have A5 := Aside0.mk A50
 clear A50
 simp only [Option.some.injEq, Prod.mk.injEq] at H
 obtain ⟨rfl, rfl, rfl, rfl⟩ := H
 obtain ⟨Ao6, co6, eo6⟩ := Kd.R_slice HO0_0.out
 subst eo6
 obtain ⟨Ao7, co7, eo7⟩ := Kd.R_slice HO0_1.out
 subst eo7
 obtain ⟨Ao8, co8, eo8⟩ := Kd.R_slice HO0_2.out
 subst eo8
 go_enter Try.func41, Try.ntmps41
 go_wp2_with (first | ((with_reducible refine gate_dst (N := 2) rfl ?_); refine box_event ?hg (N := 2) ?hd (cs := #[.slice Ao6 l0_0.length co6, .slice Ao7 l0_1.length co7, .slice Ao8 l0_2.length co8, .int .i64 a0_3, .int .i64 a0_4]) (t := 30) ?hr ?_; (case hd => rfl); (case hg => rfl); (case hr => first | (go_simp; done) | (go_simp; rfl)); intro gb1116 hg w9 hbox hb; replace HO0_0 := Aside0.mk (Kd.R_below (kr_ HO0_0.out) hb); replace HO0_1 := Aside0.mk (Kd.R_below (kr_ HO0_1.out) hb); replace HO0_2 := Aside0.mk (Kd.R_below (kr_ HO0_2.out) hb); have BK1116 := Aside0.mk (hbox); have GW1116 := Aside0.mk ((by rw [hg]; exact (by first | exact HK.out.1 | exact (show Kept w _ (fun k_ => P0_0_ k_ ∨ P0_1_ k_ ∨ P0_2_ k_) from kt_ HK.out).1) : w.heap.size ≤ gb1116)); replace HK := Aside0.mk (Kept.below (S := (fun k_ => P0_0_ k_ ∨ P0_1_ k_ ∨ P0_2_ k_)) (kt_ HK.out) hb); have GE1116 := Aside0.mk ((by rw [hg]; exact (below_size (lb0_ HB.out)) : w0.heap.size ≤ gb1116)); replace HB := Aside0.mk (below_step (lb0_ HB.out) hb); clear hb hbox hg; obtain ⟨hcz10_0, hcz10_1, hcz10_2, hcz10_3, hcz10_4⟩ := cz5_ BK1116.out; obtain ⟨hfz10_0, hfz10_1, hfz10_2, hfz10_3, hfz10_4⟩ := fz5_ BK1116.out) | ((with_reducible refine gate_callee (f := 40) rfl ?_); refine ga_ (some 8) Try.func40 #[.slice Ao6 l0_0.length co6, .int .i64 a1] ?_; (with_reducible refine (laws_markLegS.calls k (fun k_ => some k_ = (.slice Ao6 l0_0.length co6 : Value).ownBlock) (.slice Ao6 l0_0.length co6) l0_0 a1 t1117 t1118 w0 _ ?side1 ?side2 A3.out).mono ?_); (case side1 => exact lb1_ HB.out GE1116.out); (case side2 => exact Kd.R_tight rfl HO0_0.out); rintro e w11 ⟨rfl, hy0, hb, hkp⟩; refine ⟨_, rfl, ?_⟩; replace HO0_1 := Aside0.mk (Kd.R_mono (ok' := fun k_ => ((P0_0_ k_ ∨ P0_1_ k_ ∨ P0_2_ k_) ∨ w.heap.size ≤ k_) ∧ some k_ ≠ (.slice Ao8 l0_2.length co8 : Value).ownBlock) (Kd.R_keptB ((Kd.R_apart' HO0_1.out (Kd.R_typed HO0_0.out) (by decide))) hkp (fun k_ hk_ hs_ => (hk_.2) hs_)) (fun k_ hk_ => ⟨hk_.1.1.1, hk_.1.1.2⟩)); replace HO0_2 := Aside0.mk (Kd.R_mono (ok' := fun k_ => ((P0_0_ k_ ∨ P0_1_ k_ ∨ P0_2_ k_) ∨ w.heap.size ≤ k_) ∧ some k_ ≠ (.slice Ao7 l0_1.length co7 : Value).ownBlock) (Kd.R_keptB ((Kd.R_apart' HO0_2.out (Kd.R_typed HO0_0.out) (by decide))) hkp (fun k_ hk_ hs_ => (hk_.2) hs_)) (fun k_ hk_ => ⟨hk_.1.1.1, hk_.1.1.2⟩)); replace BK1116 := Aside0.mk (blk_kept (bk_ BK1116.out) hkp (fun hs_ => (fun e_ => (Kd.R_ne HO0_0.out BK1116.out (by decide)) e_) hs_)); replace HK := Aside0.mk (Kept.then_ (S := (fun k_ => P0_0_ k_ ∨ P0_1_ k_ ∨ P0_2_ k_)) (by repeat (first | (with_reducible first | exact HK.out | apply Kept.alloc | apply Kept.drewN | apply Kept.drew | refine Kept.setCell ?_ (.inr GW1116.out) _) | exact HK.out)) hkp (fun k_ hs_ => (fun e_ => (HO0_0.out.1 k_ e_.symm)) hs_)); replace HO0_0 := Aside0.mk (Kd.R_reok rfl hy0 (fun k_ e_ => HO0_0.out.1 k_ e_)); replace HB := Aside0.mk (hb); (try clear hb); (try clear hkp); (try clear hy0); obtain ⟨hcz12_0, hcz12_1, hcz12_2, hcz12_3, hcz12_4⟩ := cz5_ BK1116.out; obtain ⟨hfz12_0, hfz12_1, hfz12_2, hfz12_3, hfz12_4⟩ := fz5_ BK1116.out) | ((with_reducible refine gate_callee (f := 91) rfl ?_); refine ga_ (some 12) Try.func91 #[.slice Ao7 l0_1.length co7, .int .i64 t1117] ?_; (with_reducible refine (laws_markBoolS.calls k (fun k_ => some k_ = (.slice Ao7 l0_1.length co7 : Value).ownBlock) (.slice Ao7 l0_1.length co7) l0_1 t1117 t1119 t1120 w0 _ ?side1 ?side2 A4.out).mono ?_); (case side1 => exact lb1_ HB.out GE1116.out); (case side2 => exact Kd.R_tight rfl HO0_1.out); rintro e w13 ⟨rfl, hy0, hb, hkp⟩; refine ⟨_, rfl, ?_⟩; replace HO0_0 := Aside0.mk (Kd.R_mono (ok' := fun k_ => ((P0_0_ k_ ∨ P0_1_ k_ ∨ P0_2_ k_) ∨ w.heap.size ≤ k_)) (Kd.R_keptB ((Kd.R_apart' HO0_0.out (Kd.R_typed HO0_1.out) (by decide))) hkp (fun k_ hk_ hs_ => (hk_.2) hs_)) (fun k_ hk_ => hk_.1.1)); replace HO0_2 := Aside0.mk (Kd.R_mono (ok' := fun k_ => ((P0_0_ k_ ∨ P0_1_ k_ ∨ P0_2_ k_) ∨ w.heap.size ≤ k_) ∧ some k_ ≠ (.slice Ao7 l0_1.length co7 : Value).ownBlock) (Kd.R_keptB (HO0_2.out) hkp (fun k_ hk_ hs_ => (hk_.2) hs_)) (fun k_ hk_ => ⟨hk_.1.1, hk_.1.2⟩)); replace BK1116 := Aside0.mk (blk_kept (bk_ BK1116.out) hkp (fun hs_ => (fun e_ => (Kd.R_ne HO0_1.out BK1116.out (by decide)) e_) hs_)); replace HK := Aside0.mk (Kept.then_ (S := (fun k_ => P0_0_ k_ ∨ P0_1_ k_ ∨ P0_2_ k_)) (by repeat (first | (with_reducible first | exact HK.out | apply Kept.alloc | apply Kept.drewN | apply Kept.drew | refine Kept.setCell ?_ (.inr GW1116.out) _) | exact HK.out)) hkp (fun k_ hs_ => (fun e_ => (HO0_1.out.1 k_ e_.symm).1) hs_)); replace HO0_1 := Aside0.mk (Kd.R_reok rfl hy0 (fun k_ e_ => HO0_1.out.1 k_ e_)); replace HB := Aside0.mk (hb); (try clear hb); (try clear hkp); (try clear hy0); obtain ⟨hcz14_0, hcz14_1, hcz14_2, hcz14_3, hcz14_4⟩ := cz5_ BK1116.out; obtain ⟨hfz14_0, hfz14_1, hfz14_2, hfz14_3, hfz14_4⟩ := fz5_ BK1116.out) | ((with_reducible refine gate_callee (f := 91) rfl ?_); refine ga_ (some 16) Try.func91 #[.slice Ao8 l0_2.length co8, .int .i64 t1119] ?_; (with_reducible refine (laws_markBoolS.calls k (fun k_ => some k_ = (.slice Ao8 l0_2.length co8 : Value).ownBlock) (.slice Ao8 l0_2.length co8) l0_2 t1119 t1121 t1122 w0 _ ?side1 ?side2 A5.out).mono ?_); (case side1 => exact lb1_ HB.out GE1116.out); (case side2 => exact Kd.R_tight rfl HO0_2.out); rintro e w15 ⟨rfl, hy0, hb, hkp⟩; refine ⟨_, rfl, ?_⟩; replace HO0_0 := Aside0.mk (Kd.R_mono (ok' := fun k_ => ((P0_0_ k_ ∨ P0_1_ k_ ∨ P0_2_ k_) ∨ w.heap.size ≤ k_)) (Kd.R_keptB ((Kd.R_apart' HO0_0.out (Kd.R_typed HO0_2.out) (by decide))) hkp (fun k_ hk_ hs_ => (hk_.2) hs_)) (fun k_ hk_ => hk_.1.1)); replace HO0_1 := Aside0.mk (Kd.R_mono (ok' := fun k_ => ((P0_0_ k_ ∨ P0_1_ k_ ∨ P0_2_ k_) ∨ w.heap.size ≤ k_) ∧ some k_ ≠ (.slice Ao8 l0_2.length co8 : Value).ownBlock) (Kd.R_keptB (HO0_1.out) hkp (fun k_ hk_ hs_ => (hk_.2) hs_)) (fun k_ hk_ => ⟨hk_.1.1, hk_.1.2⟩)); replace BK1116 := Aside0.mk (blk_kept (bk_ BK1116.out) hkp (fun hs_ => (fun e_ => (Kd.R_ne HO0_2.out BK1116.out (by decide)) e_) hs_)); replace HK := Aside0.mk (Kept.then_ (S := (fun k_ => P0_0_ k_ ∨ P0_1_ k_ ∨ P0_2_ k_)) (by repeat (first | (with_reducible first | exact HK.out | apply Kept.alloc | apply Kept.drewN | apply Kept.drew | refine Kept.setCell ?_ (.inr GW1116.out) _) | exact HK.out)) hkp (fun k_ hs_ => (fun e_ => (HO0_2.out.1 k_ e_.symm).1) hs_)); replace HO0_2 := Aside0.mk (Kd.R_reok rfl hy0 (fun k_ e_ => HO0_2.out.1 k_ e_)); replace HB := Aside0.mk (hb); (try clear hb); (try clear hkp); (try clear hy0)))
 go_ret
 exact ⟨rr_, kr_ HO0_0.out, krm_ HO0_1.out (fun _ hk => hk.1), krm_ HO0_2.out (fun _ hk => hk.1), lb1_ HB.out GE1116.out, by repeat (first | (with_reducible first | exact HK.out | apply Kept.alloc | apply Kept.drewN | apply Kept.drew | refine Kept.setCell ?_ (.inr GW1116.out) _) | exact HK.out)⟩
def laws_heldLegS.l0 : Nat → List (S37) → Int → Int → Option (Int)
 | 0, _, _, _ => none
 | k + 1, x0, x1, x5 => if x5 < (x0.length : Int) then (if 0 ≤ x5 then (if ((rd_T37 x0 x5).f0) = x1 then (if ((rd_T37 x0 x5).f1) = (wrap64 (x1 + 1)) then (if ((rd_T37 x0 x5).f2) = (wrap64 ((wrap64 (x1 + 1)) + 1)) then (if ((rd_T37 x0 x5).f3) = (wrap64 ((wrap64 ((wrap64 (x1 + 1)) + 1)) + 1)) then (if ((rd_T37 x0 x5).f4) = (wrap64 ((wrap64 ((wrap64 ((wrap64 (x1 + 1)) + 1)) + 1)) + 1)) then (laws_heldLegS.l0 k x0 (wrap64 ((wrap64 ((wrap64 ((wrap64 ((wrap64 (x1 + 1)) + 1)) + 1)) + 1)) + 1)) (wrap64 (x5 + 1))) else (some (-1))) else (some (-1))) else (some (-1))) else (some (-1))) else (some (-1))) else (none)) else (some x1)
def laws_heldLegS.f (k : Nat) (l0 : List (S37)) (a1 : Int) : Option (Int) := laws_heldLegS.l0 k l0 a1 0
set_option maxHeartbeats 8000000 in
set_option maxRecDepth 100000 in
theorem laws_heldLegS.calls (k : Nat) (A0 : Option Addr) (c0 : Nat) (l0 : List (S37)) (a1 : Int) (r : Int) (w : World) (hr0 : Kd.C k37 w A0 l0.length l0) (hc0 : l0.length ≤ c0) (h : laws_heldLegS.f k l0 a1 = some r) :
  Calls Try.prog 92 #[.slice A0 l0.length c0, .int .i64 a1] w fun e w' => e = .returned (.int .i64 r) ∧ Drawn0 w w' := by
 have HR0 := Aside0.mk hr0
 have HC0 := Aside0.mk hc0
 clear hr0 hc0
 have H : (laws_heldLegS.l0 k l0 a1 0) = some r := h
 clear h
 have H' := Aside0.mk H
 clear H
 go_enter Try.func92, Try.ntmps92
 go_wp2
 go_loopg [1, 5] k (fun kq v1 v5 w' => ∃ (x1_1 : Int) (x5_1 : Int), v1 = .int .i64 x1_1 ∧ v5 = .int .i64 x5_1 ∧ Aside0 (laws_heldLegS.l0 kq l0 x1_1 x5_1 = some r) ∧ Aside0 (kq ≤ k) ∧ Drawn0 w w')
 case atStart => exact ⟨(a1), (0), (by first | rfl | (simp; done) | (simp [*]; done)), (by first | rfl | (simp; done) | (simp [*]; done)), H', ⟨Nat.le_refl _⟩, by repeat (first | exact Drawn0.refl _ | apply Drawn0.step)⟩
 case round =>
  clear H'
  try clear p2
  obtain ⟨x1_1, x5_1, rfl, rfl, HA, HK1, ⟨m1, rfl⟩⟩ := hrel
  cases gk with
  | zero => exact absurd HA.out (by simp [laws_heldLegS.l0])
  | succ k1 =>
   have H := HA.out
   clear HA
   simp only [laws_heldLegS.l0] at H
   by_cases c3 : x5_1 < (l0.length : Int)
   ·
    rw [if_pos c3] at H
    have c3b0 : decide (x5_1 < (l0.length : Int)) = true := decide_eq_true c3
    clear c3
    by_cases c4 : 0 ≤ x5_1
    ·
     rw [if_pos c4] at H
     have c4b0 : decide (0 ≤ x5_1) = true := decide_eq_true c4
     clear c4
     by_cases c5 : ((rd_T37 l0 x5_1).f0) = x1_1
     ·
      rw [if_pos c5] at H
      have c5b0 : (((rd_T37 l0 x5_1).f0) == x1_1) = true := beq_iff_eq.mpr c5
      have c5b1 : (((rd_T37 l0 x5_1).f0) != x1_1) = false := bne_eq_false_iff_eq.mpr c5
      clear c5
      by_cases c6 : ((rd_T37 l0 x5_1).f1) = (wrap64 (x1_1 + 1))
      ·
       rw [if_pos c6] at H
       have c6b0 : (((rd_T37 l0 x5_1).f1) == (wrap64 (x1_1 + 1))) = true := beq_iff_eq.mpr c6
       have c6b1 : (((rd_T37 l0 x5_1).f1) != (wrap64 (x1_1 + 1))) = false := bne_eq_false_iff_eq.mpr c6
       clear c6
       by_cases c7 : ((rd_T37 l0 x5_1).f2) = (wrap64 ((wrap64 (x1_1 + 1)) + 1))
       ·
        rw [if_pos c7] at H
        have c7b0 : (((rd_T37 l0 x5_1).f2) == (wrap64 ((wrap64 (x1_1 + 1)) + 1))) = true := beq_iff_eq.mpr c7; have c7b1 : (((rd_T37 l0 x5_1).f2) != (wrap64 ((wrap64 (x1_1 + 1)) + 1))) = false := bne_eq_false_iff_eq.mpr c7; clear c7
        by_cases c8 : ((rd_T37 l0 x5_1).f3) = (wrap64 ((wrap64 ((wrap64 (x1_1 + 1)) + 1)) + 1))
        ·
         rw [if_pos c8] at H
         have c8b0 : (((rd_T37 l0 x5_1).f3) == (wrap64 ((wrap64 ((wrap64 (x1_1 + 1)) + 1)) + 1))) = true := beq_iff_eq.mpr c8; have c8b1 : (((rd_T37 l0 x5_1).f3) != (wrap64 ((wrap64 ((wrap64 (x1_1 + 1)) + 1)) + 1))) = false := bne_eq_false_iff_eq.mpr c8; clear c8
         by_cases c9 : ((rd_T37 l0 x5_1).f4) = (wrap64 ((wrap64 ((wrap64 ((wrap64 (x1_1 + 1)) + 1)) + 1)) + 1))
         ·
          rw [if_pos c9] at H
          have c9b0 : (((rd_T37 l0 x5_1).f4) == (wrap64 ((wrap64 ((wrap64 ((wrap64 (x1_1 + 1)) + 1)) + 1)) + 1))) = true := beq_iff_eq.mpr c9; have c9b1 : (((rd_T37 l0 x5_1).f4) != (wrap64 ((wrap64 ((wrap64 ((wrap64 (x1_1 + 1)) + 1)) + 1)) + 1))) = false := bne_eq_false_iff_eq.mpr c9; clear c9; have H' := Aside0.mk H; clear H; have p1123 : 0 ≤ (x5_1 : Int) := dt_; have q1123 : x5_1 < (l0.length : Int) := dt_; obtain ⟨ad1123, e1123, hx1123_0, hx1123_1, hx1123_2, hx1123_3, hx1123_4⟩ := at_T37 HR0.out x5_1 p1123 q1123
          cases e1123
          replace p1123 := eq_true p1123; replace q1123 := eq_true q1123; have p1124 : 0 ≤ (x5_1 : Int) := dt_; have q1124 : x5_1 < (l0.length : Int) := dt_; obtain ⟨ad1124, e1124, hx1124_0, hx1124_1, hx1124_2, hx1124_3, hx1124_4⟩ := at_T37 HR0.out x5_1 p1124 q1124
          obtain rfl : ad1123 = ad1124 := (by injection e1124)
          replace p1124 := eq_true p1124; replace q1124 := eq_true q1124; have p1125 : 0 ≤ (x5_1 : Int) := dt_; have q1125 : x5_1 < (l0.length : Int) := dt_; obtain ⟨ad1125, e1125, hx1125_0, hx1125_1, hx1125_2, hx1125_3, hx1125_4⟩ := at_T37 HR0.out x5_1 p1125 q1125
          obtain rfl : ad1123 = ad1125 := (by injection e1125)
          replace p1125 := eq_true p1125; replace q1125 := eq_true q1125; have p1126 : 0 ≤ (x5_1 : Int) := dt_; have q1126 : x5_1 < (l0.length : Int) := dt_; obtain ⟨ad1126, e1126, hx1126_0, hx1126_1, hx1126_2, hx1126_3, hx1126_4⟩ := at_T37 HR0.out x5_1 p1126 q1126
          obtain rfl : ad1123 = ad1126 := (by injection e1126)
          replace p1126 := eq_true p1126; replace q1126 := eq_true q1126; have p1127 : 0 ≤ (x5_1 : Int) := dt_; have q1127 : x5_1 < (l0.length : Int) := dt_; obtain ⟨ad1127, e1127, hx1127_0, hx1127_1, hx1127_2, hx1127_3, hx1127_4⟩ := at_T37 HR0.out x5_1 p1127 q1127
          obtain rfl : ad1123 = ad1127 := (by injection e1127)
          replace p1127 := eq_true p1127; replace q1127 := eq_true q1127
          go_wp2
          go_roundg k1
          case measure => have := HK1.out; omega
          case rel => exact ⟨(wrap64 ((wrap64 ((wrap64 ((wrap64 ((wrap64 (x1_1 + 1)) + 1)) + 1)) + 1)) + 1)), (wrap64 (x5_1 + 1)), (by first | rfl | (simp; done) | (simp [*]; done)), (by first | rfl | (simp; done) | (simp [*]; done)), H', ⟨by have := HK1.out; omega⟩, by repeat (first | exact Drawn0.refl _ | apply Drawn0.step)⟩
         ·
          rw [if_neg c9] at H
          have c9b0 : (((rd_T37 l0 x5_1).f4) == (wrap64 ((wrap64 ((wrap64 ((wrap64 (x1_1 + 1)) + 1)) + 1)) + 1))) = false := beq_eq_false_iff_ne.mpr c9; have c9b1 : (((rd_T37 l0 x5_1).f4) != (wrap64 ((wrap64 ((wrap64 ((wrap64 (x1_1 + 1)) + 1)) + 1)) + 1))) = true := bne_iff_ne.mpr c9; obtain rfl := Option.some.inj H; have p1123 : 0 ≤ (x5_1 : Int) := dt_; have q1123 : x5_1 < (l0.length : Int) := dt_; obtain ⟨ad1123, e1123, hx1123_0, hx1123_1, hx1123_2, hx1123_3, hx1123_4⟩ := at_T37 HR0.out x5_1 p1123 q1123
          cases e1123
          replace p1123 := eq_true p1123; replace q1123 := eq_true q1123; have p1124 : 0 ≤ (x5_1 : Int) := dt_; have q1124 : x5_1 < (l0.length : Int) := dt_; obtain ⟨ad1124, e1124, hx1124_0, hx1124_1, hx1124_2, hx1124_3, hx1124_4⟩ := at_T37 HR0.out x5_1 p1124 q1124
          obtain rfl : ad1123 = ad1124 := (by injection e1124)
          replace p1124 := eq_true p1124; replace q1124 := eq_true q1124; have p1125 : 0 ≤ (x5_1 : Int) := dt_; have q1125 : x5_1 < (l0.length : Int) := dt_; obtain ⟨ad1125, e1125, hx1125_0, hx1125_1, hx1125_2, hx1125_3, hx1125_4⟩ := at_T37 HR0.out x5_1 p1125 q1125
          obtain rfl : ad1123 = ad1125 := (by injection e1125)
          replace p1125 := eq_true p1125; replace q1125 := eq_true q1125; have p1126 : 0 ≤ (x5_1 : Int) := dt_; have q1126 : x5_1 < (l0.length : Int) := dt_; obtain ⟨ad1126, e1126, hx1126_0, hx1126_1, hx1126_2, hx1126_3, hx1126_4⟩ := at_T37 HR0.out x5_1 p1126 q1126
          obtain rfl : ad1123 = ad1126 := (by injection e1126)
          replace p1126 := eq_true p1126; replace q1126 := eq_true q1126; have p1127 : 0 ≤ (x5_1 : Int) := dt_; have q1127 : x5_1 < (l0.length : Int) := dt_; obtain ⟨ad1127, e1127, hx1127_0, hx1127_1, hx1127_2, hx1127_3, hx1127_4⟩ := at_T37 HR0.out x5_1 p1127 q1127
          obtain rfl : ad1123 = ad1127 := (by injection e1127)
          replace p1127 := eq_true p1127; replace q1127 := eq_true q1127
          go_wp2
          go_ret
          exact ⟨by first | rfl | (simp; done) | (simp [*]; done), by repeat (first | exact Drawn0.refl _ | apply Drawn0.step)⟩
        ·
         rw [if_neg c8] at H
         have c8b0 : (((rd_T37 l0 x5_1).f3) == (wrap64 ((wrap64 ((wrap64 (x1_1 + 1)) + 1)) + 1))) = false := beq_eq_false_iff_ne.mpr c8; have c8b1 : (((rd_T37 l0 x5_1).f3) != (wrap64 ((wrap64 ((wrap64 (x1_1 + 1)) + 1)) + 1))) = true := bne_iff_ne.mpr c8; obtain rfl := Option.some.inj H; have p1123 : 0 ≤ (x5_1 : Int) := dt_; have q1123 : x5_1 < (l0.length : Int) := dt_; obtain ⟨ad1123, e1123, hx1123_0, hx1123_1, hx1123_2, hx1123_3, hx1123_4⟩ := at_T37 HR0.out x5_1 p1123 q1123
         cases e1123
         replace p1123 := eq_true p1123; replace q1123 := eq_true q1123; have p1124 : 0 ≤ (x5_1 : Int) := dt_; have q1124 : x5_1 < (l0.length : Int) := dt_; obtain ⟨ad1124, e1124, hx1124_0, hx1124_1, hx1124_2, hx1124_3, hx1124_4⟩ := at_T37 HR0.out x5_1 p1124 q1124
         obtain rfl : ad1123 = ad1124 := (by injection e1124)
         replace p1124 := eq_true p1124; replace q1124 := eq_true q1124; have p1125 : 0 ≤ (x5_1 : Int) := dt_; have q1125 : x5_1 < (l0.length : Int) := dt_; obtain ⟨ad1125, e1125, hx1125_0, hx1125_1, hx1125_2, hx1125_3, hx1125_4⟩ := at_T37 HR0.out x5_1 p1125 q1125
         obtain rfl : ad1123 = ad1125 := (by injection e1125)
         replace p1125 := eq_true p1125; replace q1125 := eq_true q1125; have p1126 : 0 ≤ (x5_1 : Int) := dt_; have q1126 : x5_1 < (l0.length : Int) := dt_; obtain ⟨ad1126, e1126, hx1126_0, hx1126_1, hx1126_2, hx1126_3, hx1126_4⟩ := at_T37 HR0.out x5_1 p1126 q1126
         obtain rfl : ad1123 = ad1126 := (by injection e1126)
         replace p1126 := eq_true p1126; replace q1126 := eq_true q1126
         go_wp2
         go_ret
         exact ⟨by first | rfl | (simp; done) | (simp [*]; done), by repeat (first | exact Drawn0.refl _ | apply Drawn0.step)⟩
       ·
        rw [if_neg c7] at H
        have c7b0 : (((rd_T37 l0 x5_1).f2) == (wrap64 ((wrap64 (x1_1 + 1)) + 1))) = false := beq_eq_false_iff_ne.mpr c7; have c7b1 : (((rd_T37 l0 x5_1).f2) != (wrap64 ((wrap64 (x1_1 + 1)) + 1))) = true := bne_iff_ne.mpr c7; obtain rfl := Option.some.inj H; have p1123 : 0 ≤ (x5_1 : Int) := dt_; have q1123 : x5_1 < (l0.length : Int) := dt_; obtain ⟨ad1123, e1123, hx1123_0, hx1123_1, hx1123_2, hx1123_3, hx1123_4⟩ := at_T37 HR0.out x5_1 p1123 q1123
        cases e1123
        replace p1123 := eq_true p1123; replace q1123 := eq_true q1123; have p1124 : 0 ≤ (x5_1 : Int) := dt_; have q1124 : x5_1 < (l0.length : Int) := dt_; obtain ⟨ad1124, e1124, hx1124_0, hx1124_1, hx1124_2, hx1124_3, hx1124_4⟩ := at_T37 HR0.out x5_1 p1124 q1124
        obtain rfl : ad1123 = ad1124 := (by injection e1124)
        replace p1124 := eq_true p1124; replace q1124 := eq_true q1124; have p1125 : 0 ≤ (x5_1 : Int) := dt_; have q1125 : x5_1 < (l0.length : Int) := dt_; obtain ⟨ad1125, e1125, hx1125_0, hx1125_1, hx1125_2, hx1125_3, hx1125_4⟩ := at_T37 HR0.out x5_1 p1125 q1125
        obtain rfl : ad1123 = ad1125 := (by injection e1125)
        replace p1125 := eq_true p1125; replace q1125 := eq_true q1125
        go_wp2
        go_ret
        exact ⟨by first | rfl | (simp; done) | (simp [*]; done), by repeat (first | exact Drawn0.refl _ | apply Drawn0.step)⟩
      ·
       rw [if_neg c6] at H
       have c6b0 : (((rd_T37 l0 x5_1).f1) == (wrap64 (x1_1 + 1))) = false := beq_eq_false_iff_ne.mpr c6
       have c6b1 : (((rd_T37 l0 x5_1).f1) != (wrap64 (x1_1 + 1))) = true := bne_iff_ne.mpr c6
       obtain rfl := Option.some.inj H
       have p1123 : 0 ≤ (x5_1 : Int) := dt_
       have q1123 : x5_1 < (l0.length : Int) := dt_
       obtain ⟨ad1123, e1123, hx1123_0, hx1123_1, hx1123_2, hx1123_3, hx1123_4⟩ := at_T37 HR0.out x5_1 p1123 q1123
       cases e1123
       replace p1123 := eq_true p1123
       replace q1123 := eq_true q1123
       have p1124 : 0 ≤ (x5_1 : Int) := dt_
       have q1124 : x5_1 < (l0.length : Int) := dt_
       obtain ⟨ad1124, e1124, hx1124_0, hx1124_1, hx1124_2, hx1124_3, hx1124_4⟩ := at_T37 HR0.out x5_1 p1124 q1124
       obtain rfl : ad1123 = ad1124 := (by injection e1124)
       replace p1124 := eq_true p1124
       replace q1124 := eq_true q1124
       go_wp2
       go_ret
       exact ⟨by first | rfl | (simp; done) | (simp [*]; done), by repeat (first | exact Drawn0.refl _ | apply Drawn0.step)⟩
     ·
      rw [if_neg c5] at H
      have c5b0 : (((rd_T37 l0 x5_1).f0) == x1_1) = false := beq_eq_false_iff_ne.mpr c5
      have c5b1 : (((rd_T37 l0 x5_1).f0) != x1_1) = true := bne_iff_ne.mpr c5
      obtain rfl := Option.some.inj H
      have p1123 : 0 ≤ (x5_1 : Int) := dt_
      have q1123 : x5_1 < (l0.length : Int) := dt_
      obtain ⟨ad1123, e1123, hx1123_0, hx1123_1, hx1123_2, hx1123_3, hx1123_4⟩ := at_T37 HR0.out x5_1 p1123 q1123
      cases e1123
      replace p1123 := eq_true p1123
      replace q1123 := eq_true q1123
      go_wp2
      go_ret
      exact ⟨by first | rfl | (simp; done) | (simp [*]; done), by repeat (first | exact Drawn0.refl _ | apply Drawn0.step)⟩
    ·
     rw [if_neg c4] at H
     exact absurd H (by simp)
   ·
    rw [if_neg c3] at H
    have c3b0 : decide (x5_1 < (l0.length : Int)) = false := decide_eq_false c3
    clear c3
    obtain rfl := Option.some.inj H
    go_wp2
    go_ret
    exact ⟨by first | rfl | (simp; done) | (simp [*]; done), by repeat (first | exact Drawn0.refl _ | apply Drawn0.step)⟩
def laws_heldBoolS.l0 : Nat → List Bool → Int → Int → Option (Int)
 | 0, _, _, _ => none
 | k + 1, x0, x1, x5 => if x5 < (x0.length : Int) then (if 0 ≤ x5 then (if ((rdOf false x0 x5) != ((Int.tmod x1 3) == 0)) = true then (some (-1)) else (laws_heldBoolS.l0 k x0 (wrap64 (x1 + 1)) (wrap64 (x5 + 1)))) else (none)) else (some x1)
def laws_heldBoolS.f (k : Nat) (l0 : List Bool) (a1 : Int) : Option (Int) := laws_heldBoolS.l0 k l0 a1 0
set_option maxHeartbeats 8000000 in
set_option maxRecDepth 100000 in
theorem laws_heldBoolS.calls (k : Nat) (A0 : Option Addr) (c0 : Nat) (l0 : List Bool) (a1 : Int) (r : Int) (w : World) (hr0 : Kd.C Kd.bool w A0 l0.length l0) (hc0 : l0.length ≤ c0) (h : laws_heldBoolS.f k l0 a1 = some r) :
  Calls Try.prog 93 #[.slice A0 l0.length c0, .int .i64 a1] w fun e w' => e = .returned (.int .i64 r) ∧ Drawn0 w w' := by
 have HR0 := Aside0.mk hr0
 have HC0 := Aside0.mk hc0
 clear hr0 hc0
 have H : (laws_heldBoolS.l0 k l0 a1 0) = some r := h
 clear h
 have H' := Aside0.mk H
 clear H
 go_enter Try.func93, Try.ntmps93
 go_wp2
 go_loopg [1, 5] k (fun kq v1 v5 w' => ∃ (x1_1 : Int) (x5_1 : Int), v1 = .int .i64 x1_1 ∧ v5 = .int .i64 x5_1 ∧ Aside0 (laws_heldBoolS.l0 kq l0 x1_1 x5_1 = some r) ∧ Aside0 (kq ≤ k) ∧ Drawn0 w w')
 case atStart => exact ⟨(a1), (0), (by first | rfl | (simp; done) | (simp [*]; done)), (by first | rfl | (simp; done) | (simp [*]; done)), H', ⟨Nat.le_refl _⟩, by repeat (first | exact Drawn0.refl _ | apply Drawn0.step)⟩
 case round =>
  clear H'
  try clear p2
  obtain ⟨x1_1, x5_1, rfl, rfl, HA, HK1, ⟨m1, rfl⟩⟩ := hrel
  cases gk with
  | zero => exact absurd HA.out (by simp [laws_heldBoolS.l0])
  | succ k1 =>
   have H := HA.out
   clear HA
   simp only [laws_heldBoolS.l0] at H
   by_cases c3 : x5_1 < (l0.length : Int)
   ·
    rw [if_pos c3] at H
    have c3b0 : decide (x5_1 < (l0.length : Int)) = true := decide_eq_true c3
    clear c3
    by_cases c4 : 0 ≤ x5_1
    ·
     rw [if_pos c4] at H
     have c4b0 : decide (0 ≤ x5_1) = true := decide_eq_true c4
     clear c4
     by_cases c5 : ((rdOf false l0 x5_1) != ((Int.tmod x1_1 3) == 0)) = true
     ·
      rw [if_pos c5] at H
      have c5b0 : ((rdOf false l0 x5_1) != ((Int.tmod x1_1 3) == 0)) = true := c5
      (try (have c5b1 : decide ((rdOf false l0 x5_1) = ((Int.tmod x1_1 3) == 0)) = false := by simpa using c5))
      (try (have c5b2 : ((rdOf false l0 x5_1) == ((Int.tmod x1_1 3) == 0)) = false := by simpa using c5))
      (try (have c5b3 : ¬ ((rdOf false l0 x5_1) = ((Int.tmod x1_1 3) == 0)) := by simpa using c5))
      clear c5
      obtain rfl := Option.some.inj H
      have p1128 : 0 ≤ (x5_1 : Int) := dt_
      have q1128 : x5_1 < (l0.length : Int) := dt_
      obtain ⟨ad1128, e1128, hx1128_0⟩ := Kd.at_bool HR0.out x5_1 p1128 q1128
      cases e1128
      replace p1128 := eq_true p1128
      replace q1128 := eq_true q1128
      go_wp2
      go_ret
      exact ⟨by first | rfl | (simp; done) | (simp [*]; done), by repeat (first | exact Drawn0.refl _ | apply Drawn0.step)⟩
     ·
      rw [if_neg c5] at H
      have c5b0 : ((rdOf false l0 x5_1) != ((Int.tmod x1_1 3) == 0)) = false := by simpa using c5
      (try (have c5b1 : decide ((rdOf false l0 x5_1) = ((Int.tmod x1_1 3) == 0)) = true := by simpa using c5))
      (try (have c5b2 : ((rdOf false l0 x5_1) == ((Int.tmod x1_1 3) == 0)) = true := by simpa using c5))
      clear c5
      have H' := Aside0.mk H
      clear H
      have p1128 : 0 ≤ (x5_1 : Int) := dt_
      have q1128 : x5_1 < (l0.length : Int) := dt_
      obtain ⟨ad1128, e1128, hx1128_0⟩ := Kd.at_bool HR0.out x5_1 p1128 q1128
      cases e1128
      replace p1128 := eq_true p1128
      replace q1128 := eq_true q1128
      go_wp2
      go_roundg k1
      case measure => have := HK1.out; omega
      case rel => exact ⟨(wrap64 (x1_1 + 1)), (wrap64 (x5_1 + 1)), (by first | rfl | (simp; done) | (simp [*]; done)), (by first | rfl | (simp; done) | (simp [*]; done)), H', ⟨by have := HK1.out; omega⟩, by repeat (first | exact Drawn0.refl _ | apply Drawn0.step)⟩
    ·
     rw [if_neg c4] at H
     exact absurd H (by simp)
   ·
    rw [if_neg c3] at H
    have c3b0 : decide (x5_1 < (l0.length : Int)) = false := decide_eq_false c3
    clear c3
    obtain rfl := Option.some.inj H
    go_wp2
    go_ret
    exact ⟨by first | rfl | (simp; done) | (simp [*]; done), by repeat (first | exact Drawn0.refl _ | apply Drawn0.step)⟩
def laws_heldExploration.f (k : Nat) (l0_0 : List (S37)) (l0_1 : List Bool) (l0_2 : List Bool) (a0_3 : Int) (a0_4 : Int) (a1 : Int) : Option (Int) := (laws_heldLegS.f k l0_0 a1).bind fun t1130 => (if t1130 < 0 then (some (-1)) else ((laws_heldBoolS.f k l0_1 t1130).bind fun t1131 => (if t1131 < 0 then (some (-1)) else ((laws_heldBoolS.f k l0_2 t1131).bind fun t1132 => (if t1132 < 0 then (some (-1)) else (some t1132))))))
set_option maxHeartbeats 8000000 in
set_option maxRecDepth 100000 in
theorem laws_heldExploration.calls (k : Nat) (A0_0 : Option Addr) (c0_0 : Nat) (l0_0 : List (S37)) (A0_1 : Option Addr) (c0_1 : Nat) (l0_1 : List Bool) (A0_2 : Option Addr) (c0_2 : Nat) (l0_2 : List Bool) (a0_3 : Int) (a0_4 : Int) (a1 : Int) (r : Int) (w : World) (hr0_0 : Kd.C k37 w A0_0 l0_0.length l0_0) (hc0_0 : l0_0.length ≤ c0_0) (hr0_1 : Kd.C Kd.bool w A0_1 l0_1.length l0_1) (hc0_1 : l0_1.length ≤ c0_1) (hr0_2 : Kd.C Kd.bool w A0_2 l0_2.length l0_2) (hc0_2 : l0_2.length ≤ c0_2) (h : laws_heldExploration.f k l0_0 l0_1 l0_2 a0_3 a0_4 a1 = some r) :
  Calls Try.prog 42 #[.agg #[.slice A0_0 l0_0.length c0_0, .slice A0_1 l0_1.length c0_1, .slice A0_2 l0_2.length c0_2, .int .i64 a0_3, .int .i64 a0_4], .int .i64 a1] w fun e w' => e = .returned (.int .i64 r) ∧ Below w.heap.size w w' := by
 have hu30 := Try.underlying30
 have HR0_0 := Aside0.mk hr0_0
 have HC0_0 := Aside0.mk hc0_0
 clear hr0_0 hc0_0
 have HR0_1 := Aside0.mk hr0_1
 have HC0_1 := Aside0.mk hc0_1
 clear hr0_1 hc0_1
 have HR0_2 := Aside0.mk hr0_2
 have HC0_2 := Aside0.mk hc0_2
 clear hr0_2 hc0_2
 have HB := Aside0.mk (Below.refl w.heap.size w)
 have H : ((laws_heldLegS.f k l0_0 a1).bind fun t1130 => (if t1130 < 0 then (some (-1)) else ((laws_heldBoolS.f k l0_1 t1130).bind fun t1131 => (if t1131 < 0 then (some (-1)) else ((laws_heldBoolS.f k l0_2 t1131).bind fun t1132 => (if t1132 < 0 then (some (-1)) else (some t1132))))))) = some r := h
 clear h
 replace H := Option.bind_eq_some_iff.mp H
 obtain ⟨t1130, A30, H⟩ := H
 replace H : (if t1130 < 0 then (some (-1)) else ((laws_heldBoolS.f k l0_1 t1130).bind fun t1131 => (if t1131 < 0 then (some (-1)) else ((laws_heldBoolS.f k l0_2 t1131).bind fun t1132 => (if t1132 < 0 then (some (-1)) else (some t1132)))))) = some r := H
 have A3 := Aside0.mk A30
 clear A30
 by_cases c4 : t1130 < 0
 ·
  rw [if_pos c4] at H
  have c4b0 : decide (t1130 < 0) = true := decide_eq_true c4
  clear c4
  obtain rfl := Option.some.inj H
  go_enter Try.func42, Try.ntmps42
  go_wp2_with (first | ((with_reducible refine gate_dst (N := 2) rfl ?_); refine box_event ?hg (N := 2) ?hd (cs := #[.slice A0_0 l0_0.length c0_0, .slice A0_1 l0_1.length c0_1, .slice A0_2 l0_2.length c0_2, .int .i64 a0_3, .int .i64 a0_4]) (t := 30) ?hr ?_; (case hd => rfl); (case hg => rfl); (case hr => first | (go_simp; done) | (go_simp; rfl)); intro gb1129 hg w5 hbox hb; have BK1129 := Aside0.mk (hbox); have GW1129 := Aside0.mk ((bz_ hg (lb0_ HB.out))); have GE1129 := Aside0.mk ((bz_ hg (lb0_ HB.out))); replace HB := Aside0.mk (below_step (lb0_ HB.out) hb); clear hb hbox hg; obtain ⟨hcz6_0, hcz6_1, hcz6_2, hcz6_3, hcz6_4⟩ := cz5_ BK1129.out; obtain ⟨hfz6_0, hfz6_1, hfz6_2, hfz6_3, hfz6_4⟩ := fz5_ BK1129.out) | ((with_reducible refine gate_callee (f := 92) rfl ?_); refine ga_ (some 8) Try.func92 #[.slice A0_0 l0_0.length c0_0, .int .i64 a1] ?_; (with_reducible refine (laws_heldLegS.calls k _ _ l0_0 a1 t1130 _ ?side1 ?side2 A3.out).mono ?_); (case side1 => exact kc_ (Kd.C_below HR0_0.out HB.out)); (case side2 => exact HC0_0.out); rintro e w' ⟨rfl, ⟨nd, rfl⟩⟩; refine ⟨_, rfl, ?_⟩))
  go_ret
  exact ⟨rr_, lb1_ HB.out GE1129.out⟩
 ·
  rw [if_neg c4] at H
  have c4b0 : decide (t1130 < 0) = false := decide_eq_false c4
  clear c4
  replace H := Option.bind_eq_some_iff.mp H
  obtain ⟨t1131, A70, H⟩ := H
  replace H : (if t1131 < 0 then (some (-1)) else ((laws_heldBoolS.f k l0_2 t1131).bind fun t1132 => (if t1132 < 0 then (some (-1)) else (some t1132)))) = some r := H
  have A7 := Aside0.mk A70
  clear A70
  by_cases c8 : t1131 < 0
  ·
   rw [if_pos c8] at H
   have c8b0 : decide (t1131 < 0) = true := decide_eq_true c8
   clear c8
   obtain rfl := Option.some.inj H
   go_enter Try.func42, Try.ntmps42
   go_wp2_with (first | ((with_reducible refine gate_dst (N := 2) rfl ?_); refine box_event ?hg (N := 2) ?hd (cs := #[.slice A0_0 l0_0.length c0_0, .slice A0_1 l0_1.length c0_1, .slice A0_2 l0_2.length c0_2, .int .i64 a0_3, .int .i64 a0_4]) (t := 30) ?hr ?_; (case hd => rfl); (case hg => rfl); (case hr => first | (go_simp; done) | (go_simp; rfl)); intro gb1129 hg w9 hbox hb; have BK1129 := Aside0.mk (hbox); have GW1129 := Aside0.mk ((bz_ hg (lb0_ HB.out))); have GE1129 := Aside0.mk ((bz_ hg (lb0_ HB.out))); replace HB := Aside0.mk (below_step (lb0_ HB.out) hb); clear hb hbox hg; obtain ⟨hcz10_0, hcz10_1, hcz10_2, hcz10_3, hcz10_4⟩ := cz5_ BK1129.out; obtain ⟨hfz10_0, hfz10_1, hfz10_2, hfz10_3, hfz10_4⟩ := fz5_ BK1129.out) | ((with_reducible refine gate_callee (f := 92) rfl ?_); refine ga_ (some 8) Try.func92 #[.slice A0_0 l0_0.length c0_0, .int .i64 a1] ?_; (with_reducible refine (laws_heldLegS.calls k _ _ l0_0 a1 t1130 _ ?side1 ?side2 A3.out).mono ?_); (case side1 => exact kc_ (Kd.C_below HR0_0.out HB.out)); (case side2 => exact HC0_0.out); rintro e w' ⟨rfl, ⟨nd, rfl⟩⟩; refine ⟨_, rfl, ?_⟩) | ((with_reducible refine gate_callee (f := 93) rfl ?_); refine ga_ (some 14) Try.func93 #[.slice A0_1 l0_1.length c0_1, .int .i64 t1130] ?_; (with_reducible refine (laws_heldBoolS.calls k _ _ l0_1 t1130 t1131 _ ?side1 ?side2 A7.out).mono ?_); (case side1 => exact kc_ (Kd.C_below HR0_1.out (lb1_ HB.out GE1129.out))); (case side2 => exact HC0_1.out); rintro e w' ⟨rfl, ⟨nd, rfl⟩⟩; refine ⟨_, rfl, ?_⟩))
   go_ret
   exact ⟨rr_, lb1_ HB.out GE1129.out⟩
  ·
   rw [if_neg c8] at H
   have c8b0 : decide (t1131 < 0) = false := decide_eq_false c8
   clear c8
   replace H := Option.bind_eq_some_iff.mp H
   obtain ⟨t1132, A110, H⟩ := H
   replace H : (if t1132 < 0 then (some (-1)) else (some t1132)) = some r := H
   have A11 := Aside0.mk A110
   clear A110
   by_cases c12 : t1132 < 0
   ·
    rw [if_pos c12] at H
    have c12b0 : decide (t1132 < 0) = true := decide_eq_true c12
    clear c12
    obtain rfl := Option.some.inj H
    go_enter Try.func42, Try.ntmps42
    go_wp2_with (first | ((with_reducible refine gate_dst (N := 2) rfl ?_); refine box_event ?hg (N := 2) ?hd (cs := #[.slice A0_0 l0_0.length c0_0, .slice A0_1 l0_1.length c0_1, .slice A0_2 l0_2.length c0_2, .int .i64 a0_3, .int .i64 a0_4]) (t := 30) ?hr ?_; (case hd => rfl); (case hg => rfl); (case hr => first | (go_simp; done) | (go_simp; rfl)); intro gb1129 hg w13 hbox hb; have BK1129 := Aside0.mk (hbox); have GW1129 := Aside0.mk ((bz_ hg (lb0_ HB.out))); have GE1129 := Aside0.mk ((bz_ hg (lb0_ HB.out))); replace HB := Aside0.mk (below_step (lb0_ HB.out) hb); clear hb hbox hg; obtain ⟨hcz14_0, hcz14_1, hcz14_2, hcz14_3, hcz14_4⟩ := cz5_ BK1129.out; obtain ⟨hfz14_0, hfz14_1, hfz14_2, hfz14_3, hfz14_4⟩ := fz5_ BK1129.out) | ((with_reducible refine gate_callee (f := 92) rfl ?_); refine ga_ (some 8) Try.func92 #[.slice A0_0 l0_0.length c0_0, .int .i64 a1] ?_; (with_reducible refine (laws_heldLegS.calls k _ _ l0_0 a1 t1130 _ ?side1 ?side2 A3.out).mono ?_); (case side1 => exact kc_ (Kd.C_below HR0_0.out HB.out)); (case side2 => exact HC0_0.out); rintro e w' ⟨rfl, ⟨nd, rfl⟩⟩; refine ⟨_, rfl, ?_⟩) | ((with_reducible refine gate_callee (f := 93) rfl ?_); refine ga_ (some 14) Try.func93 #[.slice A0_1 l0_1.length c0_1, .int .i64 t1130] ?_; (with_reducible refine (laws_heldBoolS.calls k _ _ l0_1 t1130 t1131 _ ?side1 ?side2 A7.out).mono ?_); (case side1 => exact kc_ (Kd.C_below HR0_1.out (lb1_ HB.out GE1129.out))); (case side2 => exact HC0_1.out); rintro e w' ⟨rfl, ⟨nd, rfl⟩⟩; refine ⟨_, rfl, ?_⟩) | ((with_reducible refine gate_callee (f := 93) rfl ?_); refine ga_ (some 20) Try.func93 #[.slice A0_2 l0_2.length c0_2, .int .i64 t1131] ?_; (with_reducible refine (laws_heldBoolS.calls k _ _ l0_2 t1131 t1132 _ ?side1 ?side2 A11.out).mono ?_); (case side1 => exact kc_ (Kd.C_below HR0_2.out (lb1_ HB.out GE1129.out))); (case side2 => exact HC0_2.out); rintro e w' ⟨rfl, ⟨nd, rfl⟩⟩; refine ⟨_, rfl, ?_⟩))
    go_ret
    exact ⟨rr_, lb1_ HB.out GE1129.out⟩
   ·
    rw [if_neg c12] at H
    have c12b0 : decide (t1132 < 0) = false := decide_eq_false c12
    clear c12
    obtain rfl := Option.some.inj H
    go_enter Try.func42, Try.ntmps42
    go_wp2_with (first | ((with_reducible refine gate_dst (N := 2) rfl ?_); refine box_event ?hg (N := 2) ?hd (cs := #[.slice A0_0 l0_0.length c0_0, .slice A0_1 l0_1.length c0_1, .slice A0_2 l0_2.length c0_2, .int .i64 a0_3, .int .i64 a0_4]) (t := 30) ?hr ?_; (case hd => rfl); (case hg => rfl); (case hr => first | (go_simp; done) | (go_simp; rfl)); intro gb1129 hg w15 hbox hb; have BK1129 := Aside0.mk (hbox); have GW1129 := Aside0.mk ((bz_ hg (lb0_ HB.out))); have GE1129 := Aside0.mk ((bz_ hg (lb0_ HB.out))); replace HB := Aside0.mk (below_step (lb0_ HB.out) hb); clear hb hbox hg; obtain ⟨hcz16_0, hcz16_1, hcz16_2, hcz16_3, hcz16_4⟩ := cz5_ BK1129.out; obtain ⟨hfz16_0, hfz16_1, hfz16_2, hfz16_3, hfz16_4⟩ := fz5_ BK1129.out) | ((with_reducible refine gate_callee (f := 92) rfl ?_); refine ga_ (some 8) Try.func92 #[.slice A0_0 l0_0.length c0_0, .int .i64 a1] ?_; (with_reducible refine (laws_heldLegS.calls k _ _ l0_0 a1 t1130 _ ?side1 ?side2 A3.out).mono ?_); (case side1 => exact kc_ (Kd.C_below HR0_0.out HB.out)); (case side2 => exact HC0_0.out); rintro e w' ⟨rfl, ⟨nd, rfl⟩⟩; refine ⟨_, rfl, ?_⟩) | ((with_reducible refine gate_callee (f := 93) rfl ?_); refine ga_ (some 14) Try.func93 #[.slice A0_1 l0_1.length c0_1, .int .i64 t1130] ?_; (with_reducible refine (laws_heldBoolS.calls k _ _ l0_1 t1130 t1131 _ ?side1 ?side2 A7.out).mono ?_); (case side1 => exact kc_ (Kd.C_below HR0_1.out (lb1_ HB.out GE1129.out))); (case side2 => exact HC0_1.out); rintro e w' ⟨rfl, ⟨nd, rfl⟩⟩; refine ⟨_, rfl, ?_⟩) | ((with_reducible refine gate_callee (f := 93) rfl ?_); refine ga_ (some 20) Try.func93 #[.slice A0_2 l0_2.length c0_2, .int .i64 t1131] ?_; (with_reducible refine (laws_heldBoolS.calls k _ _ l0_2 t1131 t1132 _ ?side1 ?side2 A11.out).mono ?_); (case side1 => exact kc_ (Kd.C_below HR0_2.out (lb1_ HB.out GE1129.out))); (case side2 => exact HC0_2.out); rintro e w' ⟨rfl, ⟨nd, rfl⟩⟩; refine ⟨_, rfl, ?_⟩))
    go_ret
    exact ⟨rr_, lb1_ HB.out GE1129.out⟩
def laws_toWalk.f (a0_0 : Int) (a0_1 : Int) (a0_2 : Int) (a0_3 : Int) (a0_4 : Int) (a0_5 : Int) (a0_6 : Int) : Option (Int × Int × Int × Int × Int × Int × Int) := (laws_toLeg.f a0_2 a0_3 a0_4 a0_5 a0_6).bind fun bt1399 => (some (a0_0, a0_1, bt1399.1, bt1399.2.1, bt1399.2.2.1, bt1399.2.2.2.1, bt1399.2.2.2.2))
set_option maxHeartbeats 8000000 in
set_option maxRecDepth 100000 in
theorem laws_toWalk.calls (a0_0 : Int) (a0_1 : Int) (a0_2 : Int) (a0_3 : Int) (a0_4 : Int) (a0_5 : Int) (a0_6 : Int) (r1 : Int) (r2 : Int) (r3 : Int) (r4 : Int) (r5 : Int) (r6 : Int) (r7 : Int) (w : World) (h : laws_toWalk.f a0_0 a0_1 a0_2 a0_3 a0_4 a0_5 a0_6 = some (r1, r2, r3, r4, r5, r6, r7)) :
  Calls Try.prog 50 #[.agg #[.int .i64 a0_0, .int .i64 a0_1, .int .i64 a0_2, .int .i64 a0_3, .int .i64 a0_4, .int .i64 a0_5, .int .i64 a0_6]] w fun e w' => e = .returned (.agg #[.int .i64 r1, .int .i64 r2, .int .i64 r3, .int .i64 r4, .int .i64 r5, .int .i64 r6, .int .i64 r7]) ∧ Below w.heap.size w w' := by
 have hu67 := Try.underlying67
 have hu39 := Try.underlying39
 have hu65 := Try.underlying65
 have hu37 := Try.underlying37
 have HB := Aside0.mk (Below.refl w.heap.size w)
 have H : ((laws_toLeg.f a0_2 a0_3 a0_4 a0_5 a0_6).bind fun bt1399 => (some (a0_0, a0_1, bt1399.1, bt1399.2.1, bt1399.2.2.1, bt1399.2.2.2.1, bt1399.2.2.2.2))) = some (r1, r2, r3, r4, r5, r6, r7) := h
 clear h
 replace H := Option.bind_eq_some_iff.mp H
 obtain ⟨⟨t1399, t1400, t1401, t1402, t1403⟩, A20, H⟩ := H
 replace H : (some (a0_0, a0_1, t1399, t1400, t1401, t1402, t1403)) = some (r1, r2, r3, r4, r5, r6, r7) := H
 have A2 := Aside0.mk A20
 clear A20
 simp only [Option.some.injEq, Prod.mk.injEq] at H
 obtain ⟨rfl, rfl, rfl, rfl, rfl, rfl, rfl⟩ := H
 go_enter Try.func50, Try.ntmps50
 go_wp2_with (first | ((with_reducible refine gate_dst (N := 1) rfl ?_); refine box_event ?hg (N := 1) ?hd (cs := #[.int .i64 a0_0, .int .i64 a0_1, .int .i64 a0_2, .int .i64 a0_3, .int .i64 a0_4, .int .i64 a0_5, .int .i64 a0_6]) (t := 67) ?hr ?_; (case hd => rfl); (case hg => rfl); (case hr => first | (go_simp; done) | (go_simp; rfl)); intro gb1396 hg w3 hbox hb; have BK1396 := Aside0.mk (hbox); have GW1396 := Aside0.mk ((bz_ hg (lb0_ HB.out))); have GE1396 := Aside0.mk ((bz_ hg (lb0_ HB.out))); replace HB := Aside0.mk (below_step (lb0_ HB.out) hb); clear hb hbox hg) | ((with_reducible refine gate_dst (N := 2) rfl ?_); refine box_event ?hg (N := 2) ?hd (cs := #[.int .i64 0, .int .i64 0, .int .i64 0, .int .i64 0, .int .i64 0, .int .i64 0, .int .i64 0]) (t := 39) ?hr ?_; (case hd => rfl); (case hg => rfl); (case hr => first | (go_simp; done) | (go_simp; rfl)); intro gb1397 hg w4 hbox hb; have BK1397 := Aside0.mk (hbox); have GW1397 := Aside0.mk ((bz_ hg (lb1_ HB.out GE1396.out))); have GE1397 := Aside0.mk ((bz_ hg (lb1_ HB.out GE1396.out))); replace HB := Aside0.mk (below_step (lb1_ HB.out GE1396.out) hb); have NB1396_1397 := Aside0.mk (nl_ hg BK1396.out); have NB1397_1396 := Aside0.mk (ng_ hg BK1396.out); replace BK1396 := Aside0.mk (bb_ (bk_ BK1396.out) hb); clear hb hbox hg) | ((with_reducible refine gate_dst (N := 3) rfl ?_); refine box_event ?hg (N := 3) ?hd (cs := #[.int .i64 0, .int .i64 0, .int .i64 0, .int .i64 0, .int .i64 0, .int .i64 0, .int .i64 0]) (t := 39) ?hr ?_; (case hd => rfl); (case hg => rfl); (case hr => first | (go_simp; done) | (go_simp; rfl)); intro gb1398 hg w5 hbox hb; have BK1398 := Aside0.mk (hbox); have GW1398 := Aside0.mk ((bz_ hg (lb2_ HB.out GE1396.out GE1397.out))); have GE1398 := Aside0.mk ((bz_ hg (lb2_ HB.out GE1396.out GE1397.out))); replace HB := Aside0.mk (below_step (lb2_ HB.out GE1396.out GE1397.out) hb); have NB1396_1398 := Aside0.mk (nl_ hg BK1396.out); have NB1398_1396 := Aside0.mk (ng_ hg BK1396.out); replace BK1396 := Aside0.mk (bb_ (bk_ BK1396.out) hb); have NB1397_1398 := Aside0.mk (nl_ hg BK1397.out); have NB1398_1397 := Aside0.mk (ng_ hg BK1397.out); replace BK1397 := Aside0.mk (bb_ (bk_ BK1397.out) hb); clear hb hbox hg; have hnb6 := NB1396_1397.out; have hnc6 := NB1397_1396.out; have hnb7 := NB1396_1398.out; have hnc7 := NB1398_1396.out; obtain ⟨hcz8_0, hcz8_1, hcz8_2, hcz8_3, hcz8_4, hcz8_5, hcz8_6⟩ := cz7_ BK1396.out; obtain ⟨hfz8_0, hfz8_1, hfz8_2, hfz8_3, hfz8_4, hfz8_5, hfz8_6⟩ := fz7_ BK1396.out; have hnb9 := NB1398_1397.out; have hnc9 := NB1397_1398.out; obtain ⟨hcz10_0, hcz10_1, hcz10_2, hcz10_3, hcz10_4, hcz10_5, hcz10_6⟩ := cz7_ BK1398.out; obtain ⟨hfz10_0, hfz10_1, hfz10_2, hfz10_3, hfz10_4, hfz10_5, hfz10_6⟩ := fz7_ BK1398.out) | ((with_reducible refine gate_callee (f := 89) rfl ?_); refine ga_ (some 12) Try.func89 #[.agg #[.int .i64 a0_2, .int .i64 a0_3, .int .i64 a0_4, .int .i64 a0_5, .int .i64 a0_6]] ?_; (with_reducible refine (laws_toLeg.calls a0_2 a0_3 a0_4 a0_5 a0_6 t1399 t1400 t1401 t1402 t1403 _ A2.out).mono ?_); rintro e w11 ⟨rfl, hb⟩; refine ⟨_, rfl, ?_⟩; replace BK1396 := Aside0.mk (blk_below (g := gb1396) (o := .cells #[.int .i64 a0_0, .int .i64 a0_1, .int .i64 a0_2, .int .i64 a0_3, .int .i64 a0_4, .int .i64 a0_5, .int .i64 a0_6] 67 (0, 0)) (by (with_reducible repeat (first | refine blk_drewN ?_ _ | refine blk_drew ?_ | refine blk_alloc ?_ _)); exact (f2_ BK1396.out NB1396_1398.out _ _)) hb); replace BK1397 := Aside0.mk (blk_below (g := gb1397) (o := .cells #[.int .i64 0, .int .i64 0, .int .i64 0, .int .i64 0, .int .i64 0, .int .i64 0, .int .i64 0] 39 (0, 0)) (by (with_reducible repeat (first | refine blk_drewN ?_ _ | refine blk_drew ?_ | refine blk_alloc ?_ _)); exact (f2_ BK1397.out NB1397_1398.out _ _)) hb); replace BK1398 := Aside0.mk (blk_below (g := gb1398) (o := .cells #[.int .i64 a0_0, .int .i64 a0_1, .int .i64 0, .int .i64 0, .int .i64 0, .int .i64 0, .int .i64 0] 39 (0, 0)) (by (with_reducible repeat (first | refine blk_drewN ?_ _ | refine blk_drew ?_ | refine blk_alloc ?_ _)); refine blk_put (cs := #[.int .i64 a0_0, .int .i64 0, .int .i64 0, .int .i64 0, .int .i64 0, .int .i64 0, .int .i64 0]) ?_ 1 _ rfl; (with_reducible repeat (first | refine blk_drewN ?_ _ | refine blk_drew ?_ | refine blk_alloc ?_ _)); refine blk_put (cs := #[.int .i64 0, .int .i64 0, .int .i64 0, .int .i64 0, .int .i64 0, .int .i64 0, .int .i64 0]) ?_ 0 _ rfl; (with_reducible repeat (first | refine blk_drewN ?_ _ | refine blk_drew ?_ | refine blk_alloc ?_ _)); exact BK1398.out) hb); replace HB := Aside0.mk (below_step (lb3_ HB.out GE1396.out GE1397.out GE1398.out) hb); (try clear hb); (try clear hb2); (try clear hk); (try clear hi); obtain ⟨hcz12_0, hcz12_1, hcz12_2, hcz12_3, hcz12_4, hcz12_5, hcz12_6⟩ := cz7_ BK1398.out; obtain ⟨hfz12_0, hfz12_1, hfz12_2, hfz12_3, hfz12_4, hfz12_5, hfz12_6⟩ := fz7_ BK1398.out; obtain ⟨hcz13_0, hcz13_1, hcz13_2, hcz13_3, hcz13_4, hcz13_5, hcz13_6⟩ := cz7_ BK1397.out; obtain ⟨hfz13_0, hfz13_1, hfz13_2, hfz13_3, hfz13_4, hfz13_5, hfz13_6⟩ := fz7_ BK1397.out))
 refine bodyPost_ret (results_cell_row rfl _ _ gb1397 39 #[.int .i64 a0_0, .int .i64 a0_1, .int .i64 t1399, .int .i64 t1400, .int .i64 t1401, .int .i64 t1402, .int .i64 t1403] (0, 0) _ rfl (by (with_reducible repeat (first | refine blk_drewN ?_ _ | refine blk_drew ?_ | refine blk_alloc ?_ _)); refine blk_put (cs := #[.int .i64 a0_0, .int .i64 a0_1, .int .i64 t1399, .int .i64 t1400, .int .i64 t1401, .int .i64 t1402, .int .i64 0]) ?_ 6 _ rfl; (with_reducible repeat (first | refine blk_drewN ?_ _ | refine blk_drew ?_ | refine blk_alloc ?_ _)); refine blk_put (cs := #[.int .i64 a0_0, .int .i64 a0_1, .int .i64 t1399, .int .i64 t1400, .int .i64 t1401, .int .i64 0, .int .i64 0]) ?_ 5 _ rfl; (with_reducible repeat (first | refine blk_drewN ?_ _ | refine blk_drew ?_ | refine blk_alloc ?_ _)); refine blk_put (cs := #[.int .i64 a0_0, .int .i64 a0_1, .int .i64 t1399, .int .i64 t1400, .int .i64 0, .int .i64 0, .int .i64 0]) ?_ 4 _ rfl; (with_reducible repeat (first | refine blk_drewN ?_ _ | refine blk_drew ?_ | refine blk_alloc ?_ _)); refine blk_put (cs := #[.int .i64 a0_0, .int .i64 a0_1, .int .i64 t1399, .int .i64 0, .int .i64 0, .int .i64 0, .int .i64 0]) ?_ 3 _ rfl; (with_reducible repeat (first | refine blk_drewN ?_ _ | refine blk_drew ?_ | refine blk_alloc ?_ _)); refine blk_put (cs := #[.int .i64 a0_0, .int .i64 a0_1, .int .i64 0, .int .i64 0, .int .i64 0, .int .i64 0, .int .i64 0]) ?_ 2 _ rfl; (with_reducible repeat (first | refine blk_drewN ?_ _ | refine blk_drew ?_ | refine blk_alloc ?_ _)); refine blk_put (cs := #[.int .i64 a0_0, .int .i64 0, .int .i64 0, .int .i64 0, .int .i64 0, .int .i64 0, .int .i64 0]) ?_ 1 _ rfl; (with_reducible repeat (first | refine blk_drewN ?_ _ | refine blk_drew ?_ | refine blk_alloc ?_ _)); refine blk_put (cs := #[.int .i64 0, .int .i64 0, .int .i64 0, .int .i64 0, .int .i64 0, .int .i64 0, .int .i64 0]) ?_ 0 _ rfl; (with_reducible repeat (first | refine blk_drewN ?_ _ | refine blk_drew ?_ | refine blk_alloc ?_ _)); refine blk_far ?_ NB1397_1398.out _; (with_reducible repeat (first | refine blk_drewN ?_ _ | refine blk_drew ?_ | refine blk_alloc ?_ _)); refine blk_far ?_ NB1397_1398.out _; (with_reducible repeat (first | refine blk_drewN ?_ _ | refine blk_drew ?_ | refine blk_alloc ?_ _)); refine blk_far ?_ NB1397_1398.out _; (with_reducible repeat (first | refine blk_drewN ?_ _ | refine blk_drew ?_ | refine blk_alloc ?_ _)); refine blk_far ?_ NB1397_1398.out _; (with_reducible repeat (first | refine blk_drewN ?_ _ | refine blk_drew ?_ | refine blk_alloc ?_ _)); refine blk_far ?_ NB1397_1398.out _; (with_reducible repeat (first | refine blk_drewN ?_ _ | refine blk_drew ?_ | refine blk_alloc ?_ _)); exact BK1397.out) Try.underlying39 rfl (by kernel_rfl)) rfl ?_
 exact ⟨rr_, lb3_ HB.out GE1396.out GE1397.out GE1398.out⟩
end Go.Proofs.Ythmjimboajmhmaa.Pr

