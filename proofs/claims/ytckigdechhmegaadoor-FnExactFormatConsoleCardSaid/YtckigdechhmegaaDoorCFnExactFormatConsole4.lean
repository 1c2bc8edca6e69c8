/-
What is proved: parts of the law FnExactFormatConsole: what the functions that it reaches compute, and the plain law.
Conditions: those of each theorem.
-/
import Derived.Test.YtckigdechhmegaaDoorCFnExactFormatConsole3
set_option maxHeartbeats 8000000
set_option maxRecDepth 100000
namespace Go.Proofs.YtckigdechhmegaaDoor.Pr
open Go.RowKit Go.Proofs.YtckigdechhmegaaDoorW.PrintWords Go.Proofs.YtckigdechhmegaaDoorW.PrintLast Go.Proofs.YtckigdechhmegaaDoorW.PrintMore
attribute [local go_sem] max2_int min2_int max_two min_two max_three min_three max_four min_four   -- for this text's walks alone
set_option linter.unusedVariables false
set_option linter.unusedSimpArgs false
mutual
def impl_Exploration_wayOut.l0 : Nat → List Int → Int → List (S53) → List Bool → List Bool → Int → Int → Option (Int × Bool)
 | 0, _, _, _, _, _, _, _ => none
 | k + 1, x4, x11, x285000, x285001, x285002, x285003, x285004 => if x11 < 8 then (impl_Exploration_wayOut.l1 k x4 x11 x285000 (x285000.length : Int) 0 x285000 x285001 x285002 x285003 x285004) else (if 0 ≤ x285003 then (if x285003 < (x4.length : Int) then (some (rd x4 x285003, decide ((rd x4 x285003) < 1073741824))) else (none)) else (none))
def impl_Exploration_wayOut.l1 : Nat → List Int → Int → List (S53) → Int → Int → List (S53) → List Bool → List Bool → Int → Int → Option (Int × Bool)
 | 0, _, _, _, _, _, _, _, _, _, _ => none
 | k + 1, x4, x11, x14, x15, x16, x285000, x285001, x285002, x285003, x285004 => if x16 < x15 then (if 0 ≤ x16 then (if x16 < (x14.length : Int) then (if 0 ≤ ((rd_T53 x14 x16).f0) then (if ((rd_T53 x14 x16).f0) < (x285001.length : Int) then (if rdOf false x285001 ((rd_T53 x14 x16).f0) = true then (if 0 ≤ ((rd_T53 x14 x16).f1) then (if ((rd_T53 x14 x16).f1) < (x285001.length : Int) then (if rdOf false x285001 ((rd_T53 x14 x16).f1) = true then (if ((rd_T53 x14 x16).f0) < (x4.length : Int) then (if ((rd_T53 x14 x16).f1) < (x4.length : Int) then ((some (x4.set (((rd_T53 x14 x16).f0) : Int).toNat (mn (rd x4 ((rd_T53 x14 x16).f0)) (wrap64 ((rd x4 ((rd_T53 x14 x16).f1)) + ((rd_T53 x14 x16).f2)))) : List Int)).bind fun y300 => (impl_Exploration_wayOut.l1 k (y300.set (((rd_T53 x14 x16).f1) : Int).toNat (mn (rd y300 ((rd_T53 x14 x16).f1)) (wrap64 ((rd y300 ((rd_T53 x14 x16).f0)) + ((rd_T53 x14 x16).f2))))) x11 x14 x15 (wrap64 (x16 + 1)) x285000 x285001 x285002 x285003 x285004)) else (none)) else (none)) else (impl_Exploration_wayOut.l1 k x4 x11 x14 x15 (wrap64 (x16 + 1)) x285000 x285001 x285002 x285003 x285004)) else (none)) else (none)) else (impl_Exploration_wayOut.l1 k x4 x11 x14 x15 (wrap64 (x16 + 1)) x285000 x285001 x285002 x285003 x285004)) else (none)) else (none)) else (none)) else (none)) else (impl_Exploration_wayOut.l0 k x4 (wrap64 (x11 + 1)) x285000 x285001 x285002 x285003 x285004)
end
def impl_Exploration_wayOut.f (k : Nat) (l0_0 : List (S53)) (l0_1 : List Bool) (l0_2 : List Bool) (a0_3 : Int) (a0_4 : Int) : Option (Int × Bool) := (slices_Repeat_int_int.f (([1073741824] : List Int)) 8).bind fun t288 => (if 0 < (t288.length : Int) then (impl_Exploration_wayOut.l0 k (t288.set (0 : Int).toNat 0) 0 l0_0 l0_1 l0_2 a0_3 a0_4) else (none))
def impl_Exploration_wayOut.T9 : Bool × List (List Nat × List Nat) := (true, [([], []), ([], []), ([1], [1]), ([], []), ([], []), ([4], [4]), ([3, 5], [3, 5]), ([6], [6]), ([], []), ([], []), ([9], [9]), ([8, 10], [8, 10]), ([11], [11]), ([], []), ([13], [13]), ([12, 14], [12, 14]), ([7, 15], [7, 15]), ([0, 2, 0, 1, 2, 3, 4, 5, 6, 7, 8, 9, 10, 11, 12, 13, 14, 15, 16], [0, 2]), ([17, 16, 0, 1, 2, 3, 4, 5, 6, 7, 8, 9, 10, 11, 12, 13, 14, 15, 16], [16, 17])])
def impl_Exploration_wayOut.B9 : List Nat := [0, 0, 2, 0, 0, 16, 56, 120, 0, 0, 512, 1792, 3840, 0, 8192, 32512, 65528, 131071, 262143]
theorem impl_Exploration_wayOut.tab9 : rtab .any (opsOf Tryd.f38 9) = impl_Exploration_wayOut.T9 := by kernel_rfl
theorem impl_Exploration_wayOut.bits9 : waitsOk impl_Exploration_wayOut.T9.2 impl_Exploration_wayOut.B9 = true := by kernel_rfl
def impl_Exploration_wayOut.T10 : Bool × List (List Nat × List Nat) := (true, [([], []), ([], []), ([1], [1]), ([], []), ([], []), ([4], [4]), ([3, 5], [3, 5]), ([6], [6]), ([], []), ([], []), ([9], [9]), ([8, 10], [8, 10]), ([11], [11]), ([], []), ([13], [13]), ([12, 14], [12, 14]), ([7, 15], [7, 15]), ([0, 2, 0, 1, 2, 3, 4, 5, 6, 7, 8, 9, 10, 11, 12, 13, 14, 15, 16], [0, 2]), ([17, 16, 0, 1, 2, 3, 4, 5, 6, 7, 8, 9, 10, 11, 12, 13, 14, 15, 16], [16, 17])])
def impl_Exploration_wayOut.B10 : List Nat := [0, 0, 2, 0, 0, 16, 56, 120, 0, 0, 512, 1792, 3840, 0, 8192, 32512, 65528, 131071, 262143]
theorem impl_Exploration_wayOut.tab10 : rtab .any (opsOf Tryd.f38 10) = impl_Exploration_wayOut.T10 := by kernel_rfl
theorem impl_Exploration_wayOut.bits10 : waitsOk impl_Exploration_wayOut.T10.2 impl_Exploration_wayOut.B10 = true := by kernel_rfl
def impl_Exploration_wayOut.T13 : Bool × List (List Nat × List Nat) := (true, [([], []), ([], []), ([1], [1]), ([0, 2], [0, 2]), ([3], [3]), ([], []), ([], []), ([6], [6]), ([5, 7], [5, 7]), ([8], [8]), ([9], [9]), ([4, 0, 1, 2, 3, 4], [4]), ([10, 11, 0, 1, 2, 3, 4, 5, 6, 7, 8, 9, 10, 11], [10])])
def impl_Exploration_wayOut.B13 : List Nat := [0, 0, 2, 7, 15, 0, 0, 64, 224, 480, 992, 31, 4095]
theorem impl_Exploration_wayOut.tab13 : rtab .any (opsOf Tryd.f38 13) = impl_Exploration_wayOut.T13 := by kernel_rfl
theorem impl_Exploration_wayOut.bits13 : waitsOk impl_Exploration_wayOut.T13.2 impl_Exploration_wayOut.B13 = true := by kernel_rfl
abbrev impl_Exploration_wayOut.mk0 : Array Bool := #[false, false, false, false, false, false, false, false, false, false, false, false, false, false, false, false, false, false, false]
abbrev impl_Exploration_wayOut.mk1 : Array Bool := #[true, false, false, false, false, false, false, false, false, false, false, false, false, false, false, false, false, false, false]
abbrev impl_Exploration_wayOut.mk2 : Array Bool := #[true, true, false, false, false, false, false, false, false, false, false, false, false, false, false, false, false, false, false]
abbrev impl_Exploration_wayOut.mk3 : Array Bool := #[true, true, false, true, false, false, false, false, false, false, false, false, false, false, false, false, false, false, false]
abbrev impl_Exploration_wayOut.mk4 : Array Bool := #[true, true, false, true, true, false, false, false, false, false, false, false, false, false, false, false, false, false, false]
abbrev impl_Exploration_wayOut.mk5 : Array Bool := #[true, true, false, true, true, false, false, false, true, false, false, false, false, false, false, false, false, false, false]
abbrev impl_Exploration_wayOut.mk6 : Array Bool := #[true, true, false, true, true, false, false, false, true, true, false, false, false, false, false, false, false, false, false]
abbrev impl_Exploration_wayOut.mk7 : Array Bool := #[true, true, false, true, true, false, false, false, true, true, false, false, false, true, false, false, false, false, false]
abbrev impl_Exploration_wayOut.mk8 : Array Bool := #[true, true, true, true, true, false, false, false, true, true, false, false, false, true, false, false, false, false, false]
abbrev impl_Exploration_wayOut.mk9 : Array Bool := #[true, true, true, true, true, true, false, false, true, true, false, false, false, true, false, false, false, false, false]
abbrev impl_Exploration_wayOut.mk10 : Array Bool := #[true, true, true, true, true, true, true, false, true, true, false, false, false, true, false, false, false, false, false]
abbrev impl_Exploration_wayOut.mk11 : Array Bool := #[true, true, true, true, true, true, true, true, true, true, false, false, false, true, false, false, false, false, false]
abbrev impl_Exploration_wayOut.mk12 : Array Bool := #[true, true, true, true, true, true, true, true, true, true, true, false, false, true, false, false, false, false, false]
abbrev impl_Exploration_wayOut.mk13 : Array Bool := #[true, true, true, true, true, true, true, true, true, true, true, true, false, true, false, false, false, false, false]
abbrev impl_Exploration_wayOut.mk14 : Array Bool := #[true, true, true, true, true, true, true, true, true, true, true, true, true, true, false, false, false, false, false]
abbrev impl_Exploration_wayOut.mk15 : Array Bool := #[true, true, true, true, true, true, true, true, true, true, true, true, true, true, true, false, false, false, false]
abbrev impl_Exploration_wayOut.mk16 : Array Bool := #[true, true, true, true, true, true, true, true, true, true, true, true, true, true, true, true, false, false, false]
abbrev impl_Exploration_wayOut.mk17 : Array Bool := #[true, true, true, true, true, true, true, true, true, true, true, true, true, true, true, true, true, false, false]
abbrev impl_Exploration_wayOut.mk18 : Array Bool := #[true, true, true, true, true, true, true, true, true, true, true, true, true, true, true, true, true, true, false]
abbrev impl_Exploration_wayOut.mk19 : Array Bool := #[true, true, true, true, true, true, true, true, true, true, true, true, true, true, true, true, true, true, true]
abbrev impl_Exploration_wayOut.mk20 : Array Bool := #[false, false, false, false, false, false, false, false, false, false, false, false, false]
abbrev impl_Exploration_wayOut.mk21 : Array Bool := #[true, false, false, false, false, false, false, false, false, false, false, false, false]
abbrev impl_Exploration_wayOut.mk22 : Array Bool := #[true, true, false, false, false, false, false, false, false, false, false, false, false]
abbrev impl_Exploration_wayOut.mk23 : Array Bool := #[true, true, false, false, false, true, false, false, false, false, false, false, false]
abbrev impl_Exploration_wayOut.mk24 : Array Bool := #[true, true, false, false, false, true, true, false, false, false, false, false, false]
abbrev impl_Exploration_wayOut.mk25 : Array Bool := #[true, true, true, false, false, true, true, false, false, false, false, false, false]
abbrev impl_Exploration_wayOut.mk26 : Array Bool := #[true, true, true, true, false, true, true, false, false, false, false, false, false]
abbrev impl_Exploration_wayOut.mk27 : Array Bool := #[true, true, true, true, true, true, true, false, false, false, false, false, false]
abbrev impl_Exploration_wayOut.mk28 : Array Bool := #[true, true, true, true, true, true, true, false, false, false, false, true, false]
abbrev impl_Exploration_wayOut.mk29 : Array Bool := #[true, true, true, true, true, true, true, true, false, false, false, true, false]
abbrev impl_Exploration_wayOut.mk30 : Array Bool := #[true, true, true, true, true, true, true, true, true, false, false, true, false]
abbrev impl_Exploration_wayOut.mk31 : Array Bool := #[true, true, true, true, true, true, true, true, true, true, false, true, false]
abbrev impl_Exploration_wayOut.mk32 : Array Bool := #[true, true, true, true, true, true, true, true, true, true, true, true, false]
abbrev impl_Exploration_wayOut.mk33 : Array Bool := #[true, true, true, true, true, true, true, true, true, true, true, true, true]
theorem impl_Exploration_wayOut.calls (k : Nat) (A0_0 : Option Addr) (c0_0 : Nat) (l0_0 : List (S53)) (A0_1 : Option Addr) (c0_1 : Nat) (l0_1 : List Bool) (A0_2 : Option Addr) (c0_2 : Nat) (l0_2 : List Bool) (a0_3 : Int) (a0_4 : Int) (r1 : Int) (r2 : Bool) (w : World) (hr0_0 : Kd.C k53 w A0_0 l0_0.length l0_0) (hc0_0 : l0_0.length ≤ c0_0) (hr0_1 : Kd.C Kd.bool w A0_1 l0_1.length l0_1) (hc0_1 : l0_1.length ≤ c0_1) (hr0_2 : Kd.C Kd.bool w A0_2 l0_2.length l0_2) (hc0_2 : l0_2.length ≤ c0_2) (h : impl_Exploration_wayOut.f k l0_0 l0_1 l0_2 a0_3 a0_4 = some (r1, r2)) :
  Calls Tryd.prog 38 #[.agg #[.slice A0_0 l0_0.length c0_0, .slice A0_1 l0_1.length c0_1, .slice A0_2 l0_2.length c0_2, .int .i64 a0_3, .int .i64 a0_4]] w fun e w' => e = .returned (.tuple #[.int .i64 r1, .bool r2]) ∧ Below w.heap.size w w' := by
 have hu34 := Tryd.underlying34
 have hu53 := Tryd.underlying53
 have HR0_0 := Aside0.mk hr0_0
 have HC0_0 := Aside0.mk hc0_0
 clear hr0_0 hc0_0
 have HR0_1 := Aside0.mk hr0_1
 have HC0_1 := Aside0.mk hc0_1
 clear hr0_1 hc0_1
 have HR0_2 := Aside0.mk hr0_2
 have HC0_2 := Aside0.mk hc0_2
 clear hr0_2 hc0_2
 have HB := Aside0.mk (Below.refl w.heap.size w)
 have H : ((slices_Repeat_int_int.f (([1073741824] : List Int)) 8).bind fun t288 => (if 0 < (t288.length : Int) then (impl_Exploration_wayOut.l0 k (t288.set (0 : Int).toNat 0) 0 l0_0 l0_1 l0_2 a0_3 a0_4) else (none))) = some (r1, r2) := h
 clear h
 obtain ⟨y285, hy285⟩ : ∃ y_ : List Int, y_ = (([1073741824] : List Int)) := ⟨_, rfl⟩
 replace H : ((slices_Repeat_int_int.f y285 8).bind fun t288 => (if 0 < (t288.length : Int) then (impl_Exploration_wayOut.l0 k (t288.set (0 : Int).toNat 0) 0 l0_0 l0_1 l0_2 a0_3 a0_4) else (none))) = some (r1, r2) := by first | (rw [hy285]; with_reducible exact H) | (have H2_ := (Option.bind_some _ _).symm.trans H; rw [hy285]; with_reducible exact H2_) | (have H2_ := (Option.bind_some _ _).symm.trans H; with_reducible exact H2_) | with_reducible exact H | (rw [hy285]; exact H) | exact H
 have Ny285 := Aside0.mk hy285
 clear hy285
 replace H := Option.bind_eq_some_iff.mp H
 obtain ⟨t288, A20, H⟩ := H
 replace H : (if 0 < (t288.length : Int) then (impl_Exploration_wayOut.l0 k (t288.set (0 : Int).toNat 0) 0 l0_0 l0_1 l0_2 a0_3 a0_4) else (none)) = some (r1, r2) := H
 have A2 := Aside0.mk A20
 clear A20
 by_cases c3 : 0 < (t288.length : Int)
 ·
  rw [if_pos c3] at H
  have c3b0 : decide (0 < (t288.length : Int)) = true := decide_eq_true c3
  have c3b1 : decide (0 < t288.length) = true := decide_eq_true (by omega)
  clear c3
  obtain ⟨y291, hy291⟩ : ∃ y_ : List Int, y_ = (t288.set (0 : Int).toNat 0) := ⟨_, rfl⟩
  replace H : (impl_Exploration_wayOut.l0 k y291 0 l0_0 l0_1 l0_2 a0_3 a0_4) = some (r1, r2) := by first | (rw [hy291]; with_reducible exact H) | (have H2_ := (Option.bind_some _ _).symm.trans H; rw [hy291]; with_reducible exact H2_) | (have H2_ := (Option.bind_some _ _).symm.trans H; with_reducible exact H2_) | with_reducible exact H | (rw [hy291]; exact H) | exact H
  have Ny291 := Aside0.mk hy291
  clear hy291
  have H' := Aside0.mk H
  clear H
  go_enter Tryd.func38, Tryd.ntmps38
  go_wp2_with (first | ((with_reducible refine gate_dst (N := 1) rfl ?_); refine box_event ?hg (N := 1) ?hd (cs := #[.slice A0_0 l0_0.length c0_0, .slice A0_1 l0_1.length c0_1, .slice A0_2 l0_2.length c0_2, .int .i64 a0_3, .int .i64 a0_4]) (t := 34) ?hr ?_; (case hd => rfl); (case hg => rfl); (case hr => first | (go_simp; done) | (go_simp; rfl)); intro gb284 hg w5 hbox hb; have BK284 := Aside0.mk (hbox); have GW284 := Aside0.mk ((bz_ hg (lb0_ HB.out))); have GE284 := Aside0.mk ((bz_ hg (lb0_ HB.out))); replace HB := Aside0.mk (below_step (lb0_ HB.out) hb); clear hb hbox hg) | ((with_reducible refine gate_dst (N := 7) rfl ?_); refine Kd.R_lit (Kd.int .i64) _ 3 ?hg (N := 7) ?hd (xs := ([1073741824] : List Int)) (inner := [.int .i64 1073741824]) (ok := fun _ => True) (okp := fun _ => True) ?hr ?hp (fun _ hk => hk) trivial (Below.refl _ _) (Nat.le_refl _) (by simp) ?_; (case hd => rfl); (case hg => rfl); (case hr => first | (go_simp; done) | (go_simp; rfl)); (case hp => exact (Reps.one (show Kd.M (Kd.int .i64) _ _ _ 1073741824 [.int .i64 1073741824] from rfl) (Reps.none _ _))); intro v286 w6 ho7 hb hg_ hnew_; clear hg_ hnew_; replace ho7 := ry_ Ny285.out ho7; have HO287 := Aside0.mk (Kd.R_lower ho7 (below_size (lb1_ HB.out GE284.out))); replace BK284 := Aside0.mk (bb_ (bk_ BK284.out) hb); replace HB := Aside0.mk (below_step (lb1_ HB.out GE284.out) hb); clear hb ho7; obtain ⟨Ao8, co8, eo8⟩ := Kd.R_slice HO287.out; subst eo8) | ((with_reducible refine gate_callee (f := 51) rfl ?_); refine ga_ (some 8) Tryd.func51 #[.slice Ao8 y285.length co8, .int .i64 8] ?_; (with_reducible refine (slices_Repeat_int_int.calls _ _ y285 8 t288 _ ?side1 ?side2 A2.out).mono ?_); (case side1 => exact kc_ (Kd.R_reads' HO287.out).2.2); (case side2 => exact (Kd.R_reads' HO287.out).2.1); rintro e w9 ⟨v289, rfl, ho0, hb⟩; refine ⟨_, rfl, ?_⟩; have HO290 := Aside0.mk (Kd.R_lower (Kd.R_new' ho0 (Kd.R_lt (kr_ HO287.out))) (below_size (lb1_ HB.out GE284.out))); replace HO287 := Aside0.mk (Kd.R_elder' (kr_ HO287.out) (Kd.R_base ho0) hb); replace BK284 := Aside0.mk (bb_ (bk_ BK284.out) hb); replace HB := Aside0.mk (below_step (lb1_ HB.out GE284.out) hb); (try clear hb); (try clear hb2); (try clear hk); (try clear hi); (try clear ho0); have p4 : 0 ≤ (0 : Int) := (by omega); have q4 : (0 : Int) < ((t288.length : Int) : Int) := dt_; have qi4 : (0 < t288.length) = True := eq_true (by omega); obtain ⟨go4, co4, eo4, gb4, gl4, cl4, HG4⟩ := Kd.R_form HO290.out (by omega); (first | cases eo4 | (injection eo4 with ea_ en_ ec_; (first | subst ea_ | (injection ea_ with ea_; subst ea_)); subst ec_; clear en_)); have GB4 := Aside0.mk gb4; have GG4 := Aside0.mk HG4; clear gb4 gl4 HG4; obtain ⟨hx4_0, hf4_0⟩ := Kd.R_celln 0 HO290.out (0 : Int) p4 q4; (try rw [show ((0 : Int)).toNat = 0 from rfl] at hx4_0); (try simp only [Nat.reduceMul, Nat.zero_mul, Nat.zero_add, Nat.reduceAdd] at hx4_0); (try rw [show ((0 : Int)).toNat = 0 from rfl] at hf4_0); (try simp only [Nat.reduceMul, Nat.zero_mul, Nat.zero_add, Nat.reduceAdd] at hf4_0); replace p4 := eq_true p4; replace q4 := eq_true q4; have n_ := Aside0.mk (Kd.R_mono (ok' := (fun k_ => some k_ ≠ (.slice Ao8 y285.length co8 : Value).ownBlock)) HO290.out (fun k_ hk => hk.2)); clear HO290; have HO290 := n_; clear n_; obtain ⟨hy10_, hz10_⟩ := Kd.R_celln 0 HO290.out (0 : Int) (by omega) (dt_); (try simp only [Int.reduceToNat, Int.toNat_zero, Int.toNat_ofNat, Nat.reduceMul, Nat.zero_mul, Nat.zero_add] at hy10_ hz10_); (try rw [show ((0 : Int)).toNat = 0 from rfl] at hy10_); (try rw [show ((0 : Int)).toNat = 0 from rfl] at hz10_); have HP10 := Kd.R_putg HO290.out (0 : Int) 0) | ((with_reducible refine gate_store (t := 3) (p := 10) rfl ?_); refine store_event (t := 3) (p := 10) (v := ?vo_w11) (w1 := (w9.setCell ⟨go4, (0 : Int).toNat, none⟩ (.int .i64 0))) ?hg ?ho ?hn ?hr ?_; (case ho => rfl); (case hg => rfl); (case hn => rfl); (case hr => first | (go_simp; done) | (go_simp; rfl)); intro w11 hw; have hg : w9.grownBy w11 (some go4) := (by rw [hw]; exact HP10.2); have hp_ : Kd.R (Kd.int .i64) 3 w11 w.heap.size (fun k_ => some k_ ≠ (.slice Ao8 y285.length co8 : Value).ownBlock) (.slice (some ⟨go4, 0, none⟩) t288.length co4) y291 := (by rw [hw, Ny291.out]; exact HP10.1); clear HP10; replace BK284 := Aside0.mk (blk_grown (g := gb284) (o := .cells #[.slice A0_0 l0_0.length c0_0, .slice A0_1 l0_1.length c0_1, .slice A0_2 l0_2.length c0_2, .int .i64 a0_3, .int .i64 a0_4] 34 (0, 0)) (bk_ BK284.out) hg (Kd.R_ne HO290.out BK284.out (by decide))); replace HO287 := Aside0.mk (Kd.R_after (v := (.slice (some ⟨go4, 0, none⟩) t288.length co4)) (v1 := (.slice (some ⟨go4, 0, none⟩) t288.length co4)) (ok := (fun _ => True)) (kr_ HO287.out) hg (.inl rfl)); replace HO290 := Aside0.mk (hp_); replace HB := Aside0.mk ((by rw [hw]; exact below_set (HB.out) GB4.out : Below w.heap.size w w11)); clear hg hw hp_))
  go_loopg [11] k (fun kq v11 w' => ∃ (x4_1 : List Int) (x11_1 : Int), v11 = .int .i64 x11_1 ∧ Aside0 (impl_Exploration_wayOut.l0 kq x4_1 x11_1 l0_0 l0_1 l0_2 a0_3 a0_4 = some (r1, r2)) ∧ Aside0 (kq ≤ k) ∧ Aside0 (Kd.R (Kd.int .i64) 3 w' w.heap.size (fun _ => True) (.slice (some ⟨go4, 0, none⟩) t288.length co4) x4_1) ∧ Aside0 (w'.heap[gb284]? = some (.cells #[(.slice A0_0 l0_0.length c0_0), (.slice A0_1 l0_1.length c0_1), (.slice A0_2 l0_2.length c0_2), .int .i64 a0_3, .int .i64 a0_4] 34 (0, 0))) ∧ Aside0 (Below w.heap.size w w'))
  case atStart => exact ⟨(y291), (0), (by first | rfl | (simp; done) | (simp [*]; done)), H', ⟨Nat.le_refl _⟩, ⟨krm_ HO290.out (fun _ hk => trivial)⟩, ⟨bk_ BK284.out⟩, ⟨lb1_ HB.out GE284.out⟩⟩
  case round =>
   clear H'
   try clear p2
   try clear c3
   try clear c3b0
   try clear c3b1
   try clear p4
   try clear q4
   try clear hx4
   try clear qi4
   try clear hf4
   try clear c5
   try clear hx4_0
   try clear p4
   try clear q4
   obtain ⟨x4_1, x11_1, rfl, HA, HK1, HO_4, BK284, HB⟩ := hrel
   have hl4_1 := (Kd.R_reads' HO_4.out).1
   rw [hl4_1] at HO_4
   (try simp only [hl4_1])
   (try simp only [hl4_1] at BK284)
   cases gk with
   | zero => exact absurd HA.out (by simp [impl_Exploration_wayOut.l0])
   | succ k1 =>
    have H := HA.out
    clear HA
    simp only [impl_Exploration_wayOut.l0] at H
    by_cases c12 : x11_1 < 8
    ·
     rw [if_pos c12] at H
     have c12b0 : decide (x11_1 < 8) = true := decide_eq_true c12
     clear c12
     have H' := Aside0.mk H
     clear H
     obtain ⟨hcz13_0, hcz13_1, hcz13_2, hcz13_3, hcz13_4⟩ := cz5_ BK284.out
     obtain ⟨hfz13_0, hfz13_1, hfz13_2, hfz13_3, hfz13_4⟩ := fz5_ BK284.out
     go_wp2
     go_loopg [16] k1 (fun kq v16 w' => ∃ (x4_2 : List Int) (x16_2 : Int), v16 = .int .i64 x16_2 ∧ Aside0 (impl_Exploration_wayOut.l1 kq x4_2 x11_1 l0_0 (l0_0.length : Int) x16_2 l0_0 l0_1 l0_2 a0_3 a0_4 = some (r1, r2)) ∧ Aside0 (kq ≤ k1) ∧ Aside0 (Kd.R (Kd.int .i64) 3 w' w.heap.size (fun _ => True) (.slice (some ⟨go4, 0, none⟩) x4_1.length co4) x4_2) ∧ Aside0 (w'.heap[gb284]? = some (.cells #[(.slice A0_0 l0_0.length c0_0), (.slice A0_1 l0_1.length c0_1), (.slice A0_2 l0_2.length c0_2), .int .i64 a0_3, .int .i64 a0_4] 34 (0, 0))) ∧ Aside0 (Below w.heap.size w w'))
     case atStart => exact ⟨(x4_1), (0), (by first | rfl | (simp; done) | (simp [*]; done)), H', ⟨Nat.le_refl _⟩, ⟨by (try simp only [hl4_1]); (with_reducible repeat (first | apply Kd.R_alloc | apply Kd.R_drewN | apply Kd.R_drew)); exact HO_4.out⟩, ⟨by (try simp only [hl4_1]); (with_reducible repeat (first | refine blk_drewN ?_ _ | refine blk_drew ?_ | refine blk_alloc ?_ _)); exact BK284.out⟩, ⟨lb1_ HB.out GE284.out⟩⟩
     case round =>
      clear H'
      try clear c1
      try clear p2
      try clear c3
      try clear c3b0
      try clear c3b1
      try clear p4
      try clear q4
      try clear hx4
      try clear qi4
      try clear hf4
      try clear c5
      try clear c12
      try clear c12b0
      try clear hcz13_0 hcz13_1 hcz13_2 hcz13_3 hcz13_4
      try clear hfz13_0 hfz13_1 hfz13_2 hfz13_3 hfz13_4
      try clear hx4_0
      try clear p2
      try clear p4
      try clear q4
      obtain ⟨x4_2, x16_2, rfl, HA, HK2, HO_4, BK284, HB⟩ := hrel
      have hl4_2 := (Kd.R_reads' HO_4.out).1
      rw [hl4_2] at HO_4
      (try simp only [hl4_2])
      (try simp only [hl4_2] at BK284)
      cases gk with
      | zero => exact absurd HA.out (by simp [impl_Exploration_wayOut.l1])
      | succ k2 =>
       have H := HA.out
       clear HA
       simp only [impl_Exploration_wayOut.l1] at H
       by_cases c14 : x16_2 < (l0_0.length : Int)
       ·
        rw [if_pos c14] at H
        have c14b0 : decide (x16_2 < (l0_0.length : Int)) = true := decide_eq_true c14; clear c14
        by_cases c15 : 0 ≤ x16_2
        ·
         rw [if_pos c15] at H
         have c15b0 : decide (0 ≤ x16_2) = true := decide_eq_true c15; clear c15
         by_cases c16 : x16_2 < (l0_0.length : Int)
         ·
          rw [if_pos c16] at H
          have c16b0 : decide (x16_2 < (l0_0.length : Int)) = true := decide_eq_true c16; clear c16
          by_cases c17 : 0 ≤ ((rd_T53 l0_0 x16_2).f0)
          ·
           rw [if_pos c17] at H
           have c17b0 : decide (0 ≤ ((rd_T53 l0_0 x16_2).f0)) = true := decide_eq_true c17; clear c17
           by_cases c18 : ((rd_T53 l0_0 x16_2).f0) < (l0_1.length : Int)
           ·
            rw [if_pos c18] at H
            have c18b0 : decide (((rd_T53 l0_0 x16_2).f0) < (l0_1.length : Int)) = true := decide_eq_true c18; clear c18
            obtain ⟨bq19, hbq19⟩ : ∃ b_ : Bool, b_ = (rdOf false l0_1 ((rd_T53 l0_0 x16_2).f0)) := ⟨_, rfl⟩
            replace H : (if bq19 = true then (if 0 ≤ ((rd_T53 l0_0 x16_2).f1) then (if ((rd_T53 l0_0 x16_2).f1) < (l0_1.length : Int) then (if rdOf false l0_1 ((rd_T53 l0_0 x16_2).f1) = true then (if ((rd_T53 l0_0 x16_2).f0) < (x4_2.length : Int) then (if ((rd_T53 l0_0 x16_2).f1) < (x4_2.length : Int) then ((some (x4_2.set (((rd_T53 l0_0 x16_2).f0) : Int).toNat (mn (rd x4_2 ((rd_T53 l0_0 x16_2).f0)) (wrap64 ((rd x4_2 ((rd_T53 l0_0 x16_2).f1)) + ((rd_T53 l0_0 x16_2).f2)))) : List Int)).bind fun y300 => (impl_Exploration_wayOut.l1 k2 (y300.set (((rd_T53 l0_0 x16_2).f1) : Int).toNat (mn (rd y300 ((rd_T53 l0_0 x16_2).f1)) (wrap64 ((rd y300 ((rd_T53 l0_0 x16_2).f0)) + ((rd_T53 l0_0 x16_2).f2))))) x11_1 l0_0 (l0_0.length : Int) (wrap64 (x16_2 + 1)) l0_0 l0_1 l0_2 a0_3 a0_4)) else (none)) else (none)) else (impl_Exploration_wayOut.l1 k2 x4_2 x11_1 l0_0 (l0_0.length : Int) (wrap64 (x16_2 + 1)) l0_0 l0_1 l0_2 a0_3 a0_4)) else (none)) else (none)) else (impl_Exploration_wayOut.l1 k2 x4_2 x11_1 l0_0 (l0_0.length : Int) (wrap64 (x16_2 + 1)) l0_0 l0_1 l0_2 a0_3 a0_4)) = some (r1, r2) := by rw [← hbq19] at H; exact H
            have Nbq19 := Aside0.mk hbq19; clear hbq19
            by_cases c20 : bq19 = true
            ·
             subst c20
             have H1 : (if 0 ≤ ((rd_T53 l0_0 x16_2).f1) then (if ((rd_T53 l0_0 x16_2).f1) < (l0_1.length : Int) then (if rdOf false l0_1 ((rd_T53 l0_0 x16_2).f1) = true then (if ((rd_T53 l0_0 x16_2).f0) < (x4_2.length : Int) then (if ((rd_T53 l0_0 x16_2).f1) < (x4_2.length : Int) then ((some (x4_2.set (((rd_T53 l0_0 x16_2).f0) : Int).toNat (mn (rd x4_2 ((rd_T53 l0_0 x16_2).f0)) (wrap64 ((rd x4_2 ((rd_T53 l0_0 x16_2).f1)) + ((rd_T53 l0_0 x16_2).f2)))) : List Int)).bind fun y300 => (impl_Exploration_wayOut.l1 k2 (y300.set (((rd_T53 l0_0 x16_2).f1) : Int).toNat (mn (rd y300 ((rd_T53 l0_0 x16_2).f1)) (wrap64 ((rd y300 ((rd_T53 l0_0 x16_2).f0)) + ((rd_T53 l0_0 x16_2).f2))))) x11_1 l0_0 (l0_0.length : Int) (wrap64 (x16_2 + 1)) l0_0 l0_1 l0_2 a0_3 a0_4)) else (none)) else (none)) else (impl_Exploration_wayOut.l1 k2 x4_2 x11_1 l0_0 (l0_0.length : Int) (wrap64 (x16_2 + 1)) l0_0 l0_1 l0_2 a0_3 a0_4)) else (none)) else (none)) = some (r1, r2) := by rw [if_pos rfl] at H; exact H
             clear H; have H := H1; clear H1
             by_cases c21 : 0 ≤ ((rd_T53 l0_0 x16_2).f1)
             ·
              rw [if_pos c21] at H
              have c21b0 : decide (0 ≤ ((rd_T53 l0_0 x16_2).f1)) = true := decide_eq_true c21; clear c21
              by_cases c22 : ((rd_T53 l0_0 x16_2).f1) < (l0_1.length : Int)
              ·
               rw [if_pos c22] at H
               have c22b0 : decide (((rd_T53 l0_0 x16_2).f1) < (l0_1.length : Int)) = true := decide_eq_true c22; clear c22
               obtain ⟨bq23, hbq23⟩ : ∃ b_ : Bool, b_ = (rdOf false l0_1 ((rd_T53 l0_0 x16_2).f1)) := ⟨_, rfl⟩
               replace H : (if bq23 = true then (if ((rd_T53 l0_0 x16_2).f0) < (x4_2.length : Int) then (if ((rd_T53 l0_0 x16_2).f1) < (x4_2.length : Int) then ((some (x4_2.set (((rd_T53 l0_0 x16_2).f0) : Int).toNat (mn (rd x4_2 ((rd_T53 l0_0 x16_2).f0)) (wrap64 ((rd x4_2 ((rd_T53 l0_0 x16_2).f1)) + ((rd_T53 l0_0 x16_2).f2)))) : List Int)).bind fun y300 => (impl_Exploration_wayOut.l1 k2 (y300.set (((rd_T53 l0_0 x16_2).f1) : Int).toNat (mn (rd y300 ((rd_T53 l0_0 x16_2).f1)) (wrap64 ((rd y300 ((rd_T53 l0_0 x16_2).f0)) + ((rd_T53 l0_0 x16_2).f2))))) x11_1 l0_0 (l0_0.length : Int) (wrap64 (x16_2 + 1)) l0_0 l0_1 l0_2 a0_3 a0_4)) else (none)) else (none)) else (impl_Exploration_wayOut.l1 k2 x4_2 x11_1 l0_0 (l0_0.length : Int) (wrap64 (x16_2 + 1)) l0_0 l0_1 l0_2 a0_3 a0_4)) = some (r1, r2) := by rw [← hbq23] at H; exact H
               have Nbq23 := Aside0.mk hbq23; clear hbq23
               by_cases c24 : bq23 = true
               ·
                subst c24
                have H1 : (if ((rd_T53 l0_0 x16_2).f0) < (x4_2.length : Int) then (if ((rd_T53 l0_0 x16_2).f1) < (x4_2.length : Int) then ((some (x4_2.set (((rd_T53 l0_0 x16_2).f0) : Int).toNat (mn (rd x4_2 ((rd_T53 l0_0 x16_2).f0)) (wrap64 ((rd x4_2 ((rd_T53 l0_0 x16_2).f1)) + ((rd_T53 l0_0 x16_2).f2)))) : List Int)).bind fun y300 => (impl_Exploration_wayOut.l1 k2 (y300.set (((rd_T53 l0_0 x16_2).f1) : Int).toNat (mn (rd y300 ((rd_T53 l0_0 x16_2).f1)) (wrap64 ((rd y300 ((rd_T53 l0_0 x16_2).f0)) + ((rd_T53 l0_0 x16_2).f2))))) x11_1 l0_0 (l0_0.length : Int) (wrap64 (x16_2 + 1)) l0_0 l0_1 l0_2 a0_3 a0_4)) else (none)) else (none)) = some (r1, r2) := by rw [if_pos rfl] at H; exact H
                clear H; have H := H1; clear H1
                by_cases c25 : ((rd_T53 l0_0 x16_2).f0) < (x4_2.length : Int)
                ·
                 rw [if_pos c25] at H
                 have c25b0 : decide (((rd_T53 l0_0 x16_2).f0) < (x4_2.length : Int)) = true := decide_eq_true c25; clear c25
                 by_cases c26 : ((rd_T53 l0_0 x16_2).f1) < (x4_2.length : Int)
                 ·
                  rw [if_pos c26] at H
                  have c26b0 : decide (((rd_T53 l0_0 x16_2).f1) < (x4_2.length : Int)) = true := decide_eq_true c26; clear c26
                  obtain ⟨ji27, hji27⟩ : ∃ j_ : Int, (mn (rd x4_2 ((rd_T53 l0_0 x16_2).f0)) (wrap64 ((rd x4_2 ((rd_T53 l0_0 x16_2).f1)) + ((rd_T53 l0_0 x16_2).f2)))) = j_ := ⟨_, rfl⟩
                  replace H : ((some (x4_2.set (((rd_T53 l0_0 x16_2).f0) : Int).toNat (ji27) : List Int)).bind fun y300 => (impl_Exploration_wayOut.l1 k2 (y300.set (((rd_T53 l0_0 x16_2).f1) : Int).toNat (mn (rd y300 ((rd_T53 l0_0 x16_2).f1)) (wrap64 ((rd y300 ((rd_T53 l0_0 x16_2).f0)) + ((rd_T53 l0_0 x16_2).f2))))) x11_1 l0_0 (l0_0.length : Int) (wrap64 (x16_2 + 1)) l0_0 l0_1 l0_2 a0_3 a0_4)) = some (r1, r2) := by first | (rw [hji27] at H; exact H) | (simp only [hji27] at H ⊢; exact H)
                  have hji27_ : (if (wrap64 ((rd x4_2 ((rd_T53 l0_0 x16_2).f1)) + ((rd_T53 l0_0 x16_2).f2))) < (rd x4_2 ((rd_T53 l0_0 x16_2).f0)) then (wrap64 ((rd x4_2 ((rd_T53 l0_0 x16_2).f1)) + ((rd_T53 l0_0 x16_2).f2))) else (rd x4_2 ((rd_T53 l0_0 x16_2).f0))) = ji27 := hji27
                  obtain ⟨y300, hy300⟩ : ∃ y_ : List Int, y_ = (x4_2.set (((rd_T53 l0_0 x16_2).f0) : Int).toNat (ji27)) := ⟨_, rfl⟩
                  replace H : (impl_Exploration_wayOut.l1 k2 (y300.set (((rd_T53 l0_0 x16_2).f1) : Int).toNat (mn (rd y300 ((rd_T53 l0_0 x16_2).f1)) (wrap64 ((rd y300 ((rd_T53 l0_0 x16_2).f0)) + ((rd_T53 l0_0 x16_2).f2))))) x11_1 l0_0 (l0_0.length : Int) (wrap64 (x16_2 + 1)) l0_0 l0_1 l0_2 a0_3 a0_4) = some (r1, r2) := by first | (rw [hy300]; with_reducible exact H) | (have H2_ := (Option.bind_some _ _).symm.trans H; rw [hy300]; with_reducible exact H2_) | (have H2_ := (Option.bind_some _ _).symm.trans H; with_reducible exact H2_) | with_reducible exact H | (rw [hy300]; exact H) | exact H
                  have Ny300 := Aside0.mk hy300; clear hy300
                  obtain ⟨ji29, hji29⟩ : ∃ j_ : Int, (mn (rd y300 ((rd_T53 l0_0 x16_2).f1)) (wrap64 ((rd y300 ((rd_T53 l0_0 x16_2).f0)) + ((rd_T53 l0_0 x16_2).f2)))) = j_ := ⟨_, rfl⟩
                  replace H : (impl_Exploration_wayOut.l1 k2 (y300.set (((rd_T53 l0_0 x16_2).f1) : Int).toNat (ji29)) x11_1 l0_0 (l0_0.length : Int) (wrap64 (x16_2 + 1)) l0_0 l0_1 l0_2 a0_3 a0_4) = some (r1, r2) := by first | (rw [hji29] at H; exact H) | (simp only [hji29] at H ⊢; exact H)
                  have hji29_ : (if (wrap64 ((rd y300 ((rd_T53 l0_0 x16_2).f0)) + ((rd_T53 l0_0 x16_2).f2))) < (rd y300 ((rd_T53 l0_0 x16_2).f1)) then (wrap64 ((rd y300 ((rd_T53 l0_0 x16_2).f0)) + ((rd_T53 l0_0 x16_2).f2))) else (rd y300 ((rd_T53 l0_0 x16_2).f1))) = ji29 := hji29
                  obtain ⟨y303, hy303⟩ : ∃ y_ : List Int, y_ = (y300.set (((rd_T53 l0_0 x16_2).f1) : Int).toNat (ji29)) := ⟨_, rfl⟩
                  replace H : (impl_Exploration_wayOut.l1 k2 y303 x11_1 l0_0 (l0_0.length : Int) (wrap64 (x16_2 + 1)) l0_0 l0_1 l0_2 a0_3 a0_4) = some (r1, r2) := by first | (rw [hy303]; with_reducible exact H) | (have H2_ := (Option.bind_some _ _).symm.trans H; rw [hy303]; with_reducible exact H2_) | (have H2_ := (Option.bind_some _ _).symm.trans H; with_reducible exact H2_) | with_reducible exact H | (rw [hy303]; exact H) | exact H
                  have Ny303 := Aside0.mk hy303; clear hy303; have H' := Aside0.mk H; clear H; have p294 : 0 ≤ (x16_2 : Int) := dt_; have q294 : x16_2 < (l0_0.length : Int) := dt_; obtain ⟨ad294, e294, hx294_0, hx294_1, hx294_2, hx294_3, hx294_4⟩ := at_T53 HR0_0.out x16_2 p294 q294
                  cases e294
                  replace hx294_0 := bc_ HB.out hx294_0; replace hx294_1 := bc_ HB.out hx294_1; replace hx294_2 := bc_ HB.out hx294_2; replace hx294_3 := bc_ HB.out hx294_3; replace hx294_4 := bc_ HB.out hx294_4; replace p294 := eq_true p294; replace q294 := eq_true q294
                  try go_wp2_with (first | ((with_reducible refine gate_dst (N := 6) rfl ?_); refine box_event ?hg (N := 6) ?hd (cs := #[.int .i64 0, .int .i64 0, .int .i64 0, .int .i64 0, .int .i64 0]) (t := 53) ?hr ?_; (case hd => rfl); (case hg => rfl); (case hr => first | (go_simp; done) | (go_simp; rfl)); intro gb295 hg w31 hbox hb; replace HO_4 := Aside0.mk (Kd.R_below (kr_ HO_4.out) hb); have BK295 := Aside0.mk (hbox); have GW295 := Aside0.mk ((bz_ hg (lb1_ HB.out GE284.out))); have GE295 := Aside0.mk ((bz_ hg (lb1_ HB.out GE284.out))); replace HB := Aside0.mk (below_step (lb1_ HB.out GE284.out) hb); have NB284_295 := Aside0.mk ((by rw [hg]; exact Nat.ne_of_lt (blk_lt (g := gb284) (o := .cells #[.slice (some ad294) l0_0.length c0_0, .slice A0_1 l0_1.length c0_1, .slice A0_2 l0_2.length c0_2, .int .i64 a0_3, .int .i64 a0_4] 34 (0, 0)) (bk_ BK284.out)) : gb284 ≠ gb295)); have NB295_284 := Aside0.mk ((by rw [hg]; exact Nat.ne_of_gt (blk_lt (g := gb284) (o := .cells #[.slice (some ad294) l0_0.length c0_0, .slice A0_1 l0_1.length c0_1, .slice A0_2 l0_2.length c0_2, .int .i64 a0_3, .int .i64 a0_4] 34 (0, 0)) (bk_ BK284.out)) : gb295 ≠ gb284)); replace BK284 := Aside0.mk (bb_ (bk_ BK284.out) hb); clear hb hbox hg; have hnb32 := NB295_284.out; have hnc32 := NB284_295.out; obtain ⟨hcz33_0, hcz33_1, hcz33_2, hcz33_3, hcz33_4⟩ := cz5_ BK295.out; obtain ⟨hfz33_0, hfz33_1, hfz33_2, hfz33_3, hfz33_4⟩ := fz5_ BK295.out; obtain ⟨hcz34_0, hcz34_1, hcz34_2, hcz34_3, hcz34_4⟩ := cz5_ BK284.out; obtain ⟨hfz34_0, hfz34_1, hfz34_2, hfz34_3, hfz34_4⟩ := fz5_ BK284.out; have p296 : 0 ≤ (((rd_T53 l0_0 x16_2).f0) : Int) := dt_; have q296 : ((rd_T53 l0_0 x16_2).f0) < (l0_1.length : Int) := dt_; obtain ⟨ad296, e296, hx296_0⟩ := Kd.at_bool HR0_1.out ((rd_T53 l0_0 x16_2).f0) p296 q296; (try rw [← Nbq19.out] at hx296_0); (try rw [← Nbq23.out] at hx296_0); cases e296; have hn296_0 : ad296.block ≠ gb295 := Nat.ne_of_lt (Nat.lt_of_lt_of_le (by have := World.block_lt_of_cell? _ _ hx296_0; first | rwa [add_block] at this | exact this) GW295.out); have hn296_1 : ad296.block ≠ gb295 := Nat.ne_of_lt (Nat.lt_of_lt_of_le (by have := World.block_lt_of_cell? _ _ hx296_0; first | rwa [add_block] at this | exact this) GW295.out); have hn296_2 : ad296.block ≠ gb295 := Nat.ne_of_lt (Nat.lt_of_lt_of_le (by have := World.block_lt_of_cell? _ _ hx296_0; first | rwa [add_block] at this | exact this) GW295.out); have hn296_3 : ad296.block ≠ gb295 := Nat.ne_of_lt (Nat.lt_of_lt_of_le (by have := World.block_lt_of_cell? _ _ hx296_0; first | rwa [add_block] at this | exact this) GW295.out); have hn296_4 : ad296.block ≠ gb295 := Nat.ne_of_lt (Nat.lt_of_lt_of_le (by have := World.block_lt_of_cell? _ _ hx296_0; first | rwa [add_block] at this | exact this) GW295.out); replace hx296_0 := bc_ HB.out hx296_0; replace hx296_0 := (cell_far (p := ⟨gb295, 0, none⟩) (by first | (rw [add_block]; exact hn296_0) | (show (Addr.add _ _).block ≠ _; rw [add_block]; exact hn296_0) | exact hn296_0) (.int .i64 ((rd_T53 l0_0 x16_2).f0))).trans hx296_0; replace hx296_0 := (cell_far (p := ⟨gb295, 1, none⟩) (by first | (rw [add_block]; exact hn296_1) | (show (Addr.add _ _).block ≠ _; rw [add_block]; exact hn296_1) | exact hn296_1) (.int .i64 ((rd_T53 l0_0 x16_2).f1))).trans hx296_0; replace hx296_0 := (cell_far (p := ⟨gb295, 2, none⟩) (by first | (rw [add_block]; exact hn296_2) | (show (Addr.add _ _).block ≠ _; rw [add_block]; exact hn296_2) | exact hn296_2) (.int .i64 ((rd_T53 l0_0 x16_2).f2))).trans hx296_0; replace hx296_0 := (cell_far (p := ⟨gb295, 3, none⟩) (by first | (rw [add_block]; exact hn296_3) | (show (Addr.add _ _).block ≠ _; rw [add_block]; exact hn296_3) | exact hn296_3) (.int .i64 ((rd_T53 l0_0 x16_2).f3))).trans hx296_0; replace hx296_0 := (cell_far (p := ⟨gb295, 4, none⟩) (by first | (rw [add_block]; exact hn296_4) | (show (Addr.add _ _).block ≠ _; rw [add_block]; exact hn296_4) | exact hn296_4) (.int .i64 ((rd_T53 l0_0 x16_2).f4))).trans hx296_0; clear hn296_0; clear hn296_1; clear hn296_2; clear hn296_3; clear hn296_4; replace p296 := eq_true p296; replace q296 := eq_true q296; have p297 : 0 ≤ (((rd_T53 l0_0 x16_2).f1) : Int) := dt_; have q297 : ((rd_T53 l0_0 x16_2).f1) < (l0_1.length : Int) := dt_; obtain ⟨ad297, e297, hx297_0⟩ := Kd.at_bool HR0_1.out ((rd_T53 l0_0 x16_2).f1) p297 q297; (try rw [← Nbq19.out] at hx297_0); (try rw [← Nbq23.out] at hx297_0); obtain rfl : ad296 = ad297 := (by injection e297); have hn297_0 : ad296.block ≠ gb295 := Nat.ne_of_lt (Nat.lt_of_lt_of_le (by have := World.block_lt_of_cell? _ _ hx297_0; first | rwa [add_block] at this | exact this) GW295.out); have hn297_1 : ad296.block ≠ gb295 := Nat.ne_of_lt (Nat.lt_of_lt_of_le (by have := World.block_lt_of_cell? _ _ hx297_0; first | rwa [add_block] at this | exact this) GW295.out); have hn297_2 : ad296.block ≠ gb295 := Nat.ne_of_lt (Nat.lt_of_lt_of_le (by have := World.block_lt_of_cell? _ _ hx297_0; first | rwa [add_block] at this | exact this) GW295.out); have hn297_3 : ad296.block ≠ gb295 := Nat.ne_of_lt (Nat.lt_of_lt_of_le (by have := World.block_lt_of_cell? _ _ hx297_0; first | rwa [add_block] at this | exact this) GW295.out); have hn297_4 : ad296.block ≠ gb295 := Nat.ne_of_lt (Nat.lt_of_lt_of_le (by have := World.block_lt_of_cell? _ _ hx297_0; first | rwa [add_block] at this | exact this) GW295.out); replace hx297_0 := bc_ HB.out hx297_0; replace hx297_0 := (cell_far (p := ⟨gb295, 0, none⟩) (by first | (rw [add_block]; exact hn297_0) | (show (Addr.add _ _).block ≠ _; rw [add_block]; exact hn297_0) | exact hn297_0) (.int .i64 ((rd_T53 l0_0 x16_2).f0))).trans hx297_0; replace hx297_0 := (cell_far (p := ⟨gb295, 1, none⟩) (by first | (rw [add_block]; exact hn297_1) | (show (Addr.add _ _).block ≠ _; rw [add_block]; exact hn297_1) | exact hn297_1) (.int .i64 ((rd_T53 l0_0 x16_2).f1))).trans hx297_0; replace hx297_0 := (cell_far (p := ⟨gb295, 2, none⟩) (by first | (rw [add_block]; exact hn297_2) | (show (Addr.add _ _).block ≠ _; rw [add_block]; exact hn297_2) | exact hn297_2) (.int .i64 ((rd_T53 l0_0 x16_2).f2))).trans hx297_0; replace hx297_0 := (cell_far (p := ⟨gb295, 3, none⟩) (by first | (rw [add_block]; exact hn297_3) | (show (Addr.add _ _).block ≠ _; rw [add_block]; exact hn297_3) | exact hn297_3) (.int .i64 ((rd_T53 l0_0 x16_2).f3))).trans hx297_0; replace hx297_0 := (cell_far (p := ⟨gb295, 4, none⟩) (by first | (rw [add_block]; exact hn297_4) | (show (Addr.add _ _).block ≠ _; rw [add_block]; exact hn297_4) | exact hn297_4) (.int .i64 ((rd_T53 l0_0 x16_2).f4))).trans hx297_0; clear hn297_0; clear hn297_1; clear hn297_2; clear hn297_3; clear hn297_4; replace p297 := eq_true p297; replace q297 := eq_true q297))
                  have n0_ : Aside0 (Kd.R (Kd.int .i64) 3 (((((w31.setCell ⟨gb295, 0, none⟩ (.int .i64 ((rd_T53 l0_0 x16_2).f0))).setCell ⟨gb295, 1, none⟩ (.int .i64 ((rd_T53 l0_0 x16_2).f1))).setCell ⟨gb295, 2, none⟩ (.int .i64 ((rd_T53 l0_0 x16_2).f2))).setCell ⟨gb295, 3, none⟩ (.int .i64 ((rd_T53 l0_0 x16_2).f3))).setCell ⟨gb295, 4, none⟩ (.int .i64 ((rd_T53 l0_0 x16_2).f4))) w.heap.size (fun _ => True) (.slice (some ⟨go4, 0, none⟩) x4_2.length co4) x4_2) := ⟨by (with_reducible repeat (first | apply Kd.R_alloc | apply Kd.R_drewN | apply Kd.R_drew)); exact Kd.R_mono (Kd.R_far (p := ⟨gb295, 4, none⟩) (Kd.R_far (p := ⟨gb295, 3, none⟩) (Kd.R_far (p := ⟨gb295, 2, none⟩) (Kd.R_far (p := ⟨gb295, 1, none⟩) (Kd.R_far (p := ⟨gb295, 0, none⟩) (Kd.R_types HO_4.out BK295.out (by decide)) (fun _ hk => hk.2) (.int .i64 ((rd_T53 l0_0 x16_2).f0))) (fun _ hk => hk.2) (.int .i64 ((rd_T53 l0_0 x16_2).f1))) (fun _ hk => hk.2) (.int .i64 ((rd_T53 l0_0 x16_2).f2))) (fun _ hk => hk.2) (.int .i64 ((rd_T53 l0_0 x16_2).f3))) (fun _ hk => hk.2) (.int .i64 ((rd_T53 l0_0 x16_2).f4))) (fun _ hk => trivial)⟩
                  have n1_ : Aside0 ((((((w31.setCell ⟨gb295, 0, none⟩ (.int .i64 ((rd_T53 l0_0 x16_2).f0))).setCell ⟨gb295, 1, none⟩ (.int .i64 ((rd_T53 l0_0 x16_2).f1))).setCell ⟨gb295, 2, none⟩ (.int .i64 ((rd_T53 l0_0 x16_2).f2))).setCell ⟨gb295, 3, none⟩ (.int .i64 ((rd_T53 l0_0 x16_2).f3))).setCell ⟨gb295, 4, none⟩ (.int .i64 ((rd_T53 l0_0 x16_2).f4))).heap[gb284]? = some (.cells #[.slice (some ad294) l0_0.length c0_0, .slice (some ad296) l0_1.length c0_1, .slice A0_2 l0_2.length c0_2, .int .i64 a0_3, .int .i64 a0_4] 34 (0, 0))) := ⟨by (with_reducible repeat (first | refine blk_drewN ?_ _ | refine blk_drew ?_ | refine blk_alloc ?_ _)); refine blk_far ?_ NB284_295.out _; (with_reducible repeat (first | refine blk_drewN ?_ _ | refine blk_drew ?_ | refine blk_alloc ?_ _)); refine blk_far ?_ NB284_295.out _; (with_reducible repeat (first | refine blk_drewN ?_ _ | refine blk_drew ?_ | refine blk_alloc ?_ _)); refine blk_far ?_ NB284_295.out _; (with_reducible repeat (first | refine blk_drewN ?_ _ | refine blk_drew ?_ | refine blk_alloc ?_ _)); refine blk_far ?_ NB284_295.out _; (with_reducible repeat (first | refine blk_drewN ?_ _ | refine blk_drew ?_ | refine blk_alloc ?_ _)); refine blk_far ?_ NB284_295.out _; (with_reducible repeat (first | refine blk_drewN ?_ _ | refine blk_drew ?_ | refine blk_alloc ?_ _)); exact BK284.out⟩
                  have n2_ : Aside0 ((((((w31.setCell ⟨gb295, 0, none⟩ (.int .i64 ((rd_T53 l0_0 x16_2).f0))).setCell ⟨gb295, 1, none⟩ (.int .i64 ((rd_T53 l0_0 x16_2).f1))).setCell ⟨gb295, 2, none⟩ (.int .i64 ((rd_T53 l0_0 x16_2).f2))).setCell ⟨gb295, 3, none⟩ (.int .i64 ((rd_T53 l0_0 x16_2).f3))).setCell ⟨gb295, 4, none⟩ (.int .i64 ((rd_T53 l0_0 x16_2).f4))).heap[gb295]? = some (.cells #[.int .i64 ((rd_T53 l0_0 x16_2).f0), .int .i64 ((rd_T53 l0_0 x16_2).f1), .int .i64 ((rd_T53 l0_0 x16_2).f2), .int .i64 ((rd_T53 l0_0 x16_2).f3), .int .i64 ((rd_T53 l0_0 x16_2).f4)] 53 (0, 0))) := ⟨by (with_reducible repeat (first | refine blk_drewN ?_ _ | refine blk_drew ?_ | refine blk_alloc ?_ _)); refine blk_put (cs := #[.int .i64 ((rd_T53 l0_0 x16_2).f0), .int .i64 ((rd_T53 l0_0 x16_2).f1), .int .i64 ((rd_T53 l0_0 x16_2).f2), .int .i64 ((rd_T53 l0_0 x16_2).f3), .int .i64 0]) ?_ 4 _ rfl; (with_reducible repeat (first | refine blk_drewN ?_ _ | refine blk_drew ?_ | refine blk_alloc ?_ _)); refine blk_put (cs := #[.int .i64 ((rd_T53 l0_0 x16_2).f0), .int .i64 ((rd_T53 l0_0 x16_2).f1), .int .i64 ((rd_T53 l0_0 x16_2).f2), .int .i64 0, .int .i64 0]) ?_ 3 _ rfl; (with_reducible repeat (first | refine blk_drewN ?_ _ | refine blk_drew ?_ | refine blk_alloc ?_ _)); refine blk_put (cs := #[.int .i64 ((rd_T53 l0_0 x16_2).f0), .int .i64 ((rd_T53 l0_0 x16_2).f1), .int .i64 0, .int .i64 0, .int .i64 0]) ?_ 2 _ rfl; (with_reducible repeat (first | refine blk_drewN ?_ _ | refine blk_drew ?_ | refine blk_alloc ?_ _)); refine blk_put (cs := #[.int .i64 ((rd_T53 l0_0 x16_2).f0), .int .i64 0, .int .i64 0, .int .i64 0, .int .i64 0]) ?_ 1 _ rfl; (with_reducible repeat (first | refine blk_drewN ?_ _ | refine blk_drew ?_ | refine blk_alloc ?_ _)); refine blk_put (cs := #[.int .i64 0, .int .i64 0, .int .i64 0, .int .i64 0, .int .i64 0]) ?_ 0 _ rfl; (with_reducible repeat (first | refine blk_drewN ?_ _ | refine blk_drew ?_ | refine blk_alloc ?_ _)); exact BK295.out⟩
                  have n3_ : Aside0 (Below w.heap.size w (((((w31.setCell ⟨gb295, 0, none⟩ (.int .i64 ((rd_T53 l0_0 x16_2).f0))).setCell ⟨gb295, 1, none⟩ (.int .i64 ((rd_T53 l0_0 x16_2).f1))).setCell ⟨gb295, 2, none⟩ (.int .i64 ((rd_T53 l0_0 x16_2).f2))).setCell ⟨gb295, 3, none⟩ (.int .i64 ((rd_T53 l0_0 x16_2).f3))).setCell ⟨gb295, 4, none⟩ (.int .i64 ((rd_T53 l0_0 x16_2).f4)))) := ⟨lb2_ HB.out GE284.out GE295.out⟩
                  (try clear HO_4); (try clear BK284); (try clear BK295); (try clear HB); generalize (((((w31.setCell ⟨gb295, 0, none⟩ (.int .i64 ((rd_T53 l0_0 x16_2).f0))).setCell ⟨gb295, 1, none⟩ (.int .i64 ((rd_T53 l0_0 x16_2).f1))).setCell ⟨gb295, 2, none⟩ (.int .i64 ((rd_T53 l0_0 x16_2).f2))).setCell ⟨gb295, 3, none⟩ (.int .i64 ((rd_T53 l0_0 x16_2).f3))).setCell ⟨gb295, 4, none⟩ (.int .i64 ((rd_T53 l0_0 x16_2).f4))) = w35 at n0_ n1_ n2_ n3_ ⊢; have HO_4 := n0_; have BK284 := n1_; have BK295 := n2_; have HB := n3_; clear n0_ n1_ n2_ n3_; replace HO_4 := Aside0.mk (Kd.R_drew HO_4.out); replace BK284 := Aside0.mk (blk_drew BK284.out); replace BK295 := Aside0.mk (blk_drew BK295.out); replace HB := Aside0.mk (below_drew1 HB.out); have p298 : 0 ≤ (((rd_T53 l0_0 x16_2).f0) : Int) := dt_; have q298 : ((rd_T53 l0_0 x16_2).f0) < (x4_2.length : Int) := dt_; obtain ⟨ad298, e298, hx298_0⟩ := Kd.at_int (Kd.R_reads' HO_4.out).2.2 ((rd_T53 l0_0 x16_2).f0) p298 q298
                  obtain rfl : (⟨go4, 0, none⟩ : Addr) = ad298 := (by injection e298)
                  (first | simp only [add_plain] at hx298_0 | simp only [add_at] at hx298_0 | simp only [Addr.add, Nat.zero_add] at hx298_0 | skip)
                  replace p298 := eq_true p298; replace q298 := eq_true q298; have p299 : 0 ≤ (((rd_T53 l0_0 x16_2).f1) : Int) := dt_; have q299 : ((rd_T53 l0_0 x16_2).f1) < (x4_2.length : Int) := dt_; obtain ⟨ad299, e299, hx299_0⟩ := Kd.at_int (Kd.R_reads' HO_4.out).2.2 ((rd_T53 l0_0 x16_2).f1) p299 q299
                  obtain rfl : (⟨go4, 0, none⟩ : Addr) = ad299 := (by injection e299)
                  (first | simp only [add_plain] at hx299_0 | simp only [add_at] at hx299_0 | simp only [Addr.add, Nat.zero_add] at hx299_0 | skip)
                  replace p299 := eq_true p299; replace q299 := eq_true q299; have p28 : 0 ≤ (((rd_T53 l0_0 x16_2).f0) : Int) := dt_; have q28 : (((rd_T53 l0_0 x16_2).f0) : Int) < ((x4_2.length : Int) : Int) := dt_; obtain ⟨hx28_0, hf28_0⟩ := Kd.R_celln 0 HO_4.out (((rd_T53 l0_0 x16_2).f0) : Int) p28 q28; replace p28 := eq_true p28; replace q28 := eq_true q28; have HP37 := Kd.R_putn HO_4.out (((rd_T53 l0_0 x16_2).f0) : Int) ji27
                  rw [← Ny300.out] at HP37
                  have HQ37 := Aside0.mk HP37; clear HP37; refine start_ (n := 19) (S := fun w' => w'.cell? ⟨gb295, 0, none⟩ = some (.int .i64 ((rd_T53 l0_0 x16_2).f0)) ∧ w'.cell? ⟨gb295, 1, none⟩ = some (.int .i64 ((rd_T53 l0_0 x16_2).f1)) ∧ w'.cell? ⟨gb295, 2, none⟩ = some (.int .i64 ((rd_T53 l0_0 x16_2).f2)) ∧ w'.cell? ⟨gb295, 3, none⟩ = some (.int .i64 ((rd_T53 l0_0 x16_2).f3)) ∧ w'.cell? ⟨gb295, 4, none⟩ = some (.int .i64 ((rd_T53 l0_0 x16_2).f4)) ∧ w'.cell? ⟨go4, (((rd_T53 l0_0 x16_2).f0)).toNat, none⟩ = some (.int .i64 (rd x4_2 ((rd_T53 l0_0 x16_2).f0))) ∧ w'.cell? ⟨go4, (((rd_T53 l0_0 x16_2).f1)).toNat, none⟩ = some (.int .i64 (rd x4_2 ((rd_T53 l0_0 x16_2).f1)))) (ds := [18]) impl_Exploration_wayOut.mk0 (by kernel_rfl) rfl rfl ⟨(blk_cell BK295.out 0).trans rfl, (blk_cell BK295.out 1).trans rfl, (blk_cell BK295.out 2).trans rfl, (blk_cell BK295.out 3).trans rfl, (blk_cell BK295.out 4).trans rfl, hx298_0, hx299_0⟩ (fun hHeld => ?_); refine with_tabW impl_Exploration_wayOut.tab9 impl_Exploration_wayOut.bits9 (fun HT_ HW_ => ?_); generalize w35.drew = w36 at HO_4 BK284 BK295 HB HQ37 hf28_0 hx28_0 hx298_0 hx299_0 hHeld ⊢; refine pz_ HT_ 0 (some 34) impl_Exploration_wayOut.mk1 ?_; refine pz_ HT_ 1 (some 35) impl_Exploration_wayOut.mk2 ?_; refine pz_ HT_ 3 (some 37) impl_Exploration_wayOut.mk3 ?_; refine pz_ HT_ 4 (some 38) impl_Exploration_wayOut.mk4 ?_; refine pz_ HT_ 8 (some 42) impl_Exploration_wayOut.mk5 ?_; refine pz_ HT_ 9 (some 43) impl_Exploration_wayOut.mk6 ?_; refine pz_ HT_ 13 (some 47) impl_Exploration_wayOut.mk7 ?_; refine take_ (i := 2) (N := some 36) (v := ?_) (a' := ?_) impl_Exploration_wayOut.mk8 rfl rfl (take_ofW HT_.out HW_.out (by kernel_rfl)) (fun _ _ _ h => h) (Or.inl ⟨by rfl, ?_⟩) hHeld ?_ ?_; rotate_left
                  ·
                   rintro w' ⟨s0, s1, s2, s3, s4, s5, s6⟩; go_simp; (with_reducible rfl)
                  rotate_left
                  ·
                   simp only [Act.put, List.setIfInBounds_toArray, List.set_cons_zero, List.set_cons_succ, i64_w, i32_w]; rfl
                  refine take_ (i := 5) (N := some 39) (v := ?_) (a' := ?_) impl_Exploration_wayOut.mk9 rfl rfl (take_ofW HT_.out HW_.out (by kernel_rfl)) (fun _ _ _ h => h) (Or.inl ⟨by rfl, ?_⟩) hHeld ?_ ?_; rotate_left
                  ·
                   rintro w' ⟨s0, s1, s2, s3, s4, s5, s6⟩; go_simp; (with_reducible rfl)
                  rotate_left
                  ·
                   simp only [Act.put, List.setIfInBounds_toArray, List.set_cons_zero, List.set_cons_succ, i64_w, i32_w]; rfl
                  refine pz_ HT_ 6 (some 40) impl_Exploration_wayOut.mk10 ?_; refine take_ (i := 7) (N := some 41) (v := ?_) (a' := ?_) impl_Exploration_wayOut.mk11 rfl rfl (take_ofW HT_.out HW_.out (by kernel_rfl)) (fun _ _ _ h => h) (Or.inl ⟨by rfl, ?_⟩) hHeld ?_ ?_; rotate_left
                  ·
                   rintro w' ⟨s0, s1, s2, s3, s4, s5, s6⟩; go_simp; (with_reducible rfl)
                  rotate_left
                  ·
                   simp only [Act.put, List.setIfInBounds_toArray, List.set_cons_zero, List.set_cons_succ, i64_w, i32_w]; rfl
                  refine take_ (i := 10) (N := some 44) (v := ?_) (a' := ?_) impl_Exploration_wayOut.mk12 rfl rfl (take_ofW HT_.out HW_.out (by kernel_rfl)) (fun _ _ _ h => h) (Or.inl ⟨by rfl, ?_⟩) hHeld ?_ ?_; rotate_left
                  ·
                   rintro w' ⟨s0, s1, s2, s3, s4, s5, s6⟩; go_simp; (with_reducible rfl)
                  rotate_left
                  ·
                   simp only [Act.put, List.setIfInBounds_toArray, List.set_cons_zero, List.set_cons_succ, i64_w, i32_w]; rfl
                  refine pz_ HT_ 11 (some 45) impl_Exploration_wayOut.mk13 ?_; refine take_ (i := 12) (N := some 46) (v := ?_) (a' := ?_) impl_Exploration_wayOut.mk14 rfl rfl (take_ofW HT_.out HW_.out (by kernel_rfl)) (fun _ _ _ h => h) (Or.inl ⟨by rfl, ?_⟩) hHeld ?_ ?_; rotate_left
                  ·
                   rintro w' ⟨s0, s1, s2, s3, s4, s5, s6⟩; go_simp; (with_reducible rfl)
                  rotate_left
                  ·
                   simp only [Act.put, List.setIfInBounds_toArray, List.set_cons_zero, List.set_cons_succ, i64_w, i32_w]; rfl
                  refine take_ (i := 14) (N := some 48) (v := ?_) (a' := ?_) impl_Exploration_wayOut.mk15 rfl rfl (take_ofW HT_.out HW_.out (by kernel_rfl)) (fun _ _ _ h => h) (Or.inl ⟨by rfl, ?_⟩) hHeld ?_ ?_; rotate_left
                  ·
                   rintro w' ⟨s0, s1, s2, s3, s4, s5, s6⟩; go_simp; (with_reducible rfl)
                  rotate_left
                  ·
                   simp only [Act.put, List.setIfInBounds_toArray, List.set_cons_zero, List.set_cons_succ, i64_w, i32_w]; rfl
                  refine pz_ HT_ 15 (some 49) impl_Exploration_wayOut.mk16 ?_; refine pz_ HT_ 16 (some 50) impl_Exploration_wayOut.mk17 ?_; refine pz_ HT_ 17 (some 51) impl_Exploration_wayOut.mk18 ?_; refine last_ (i := 18) (N := none) impl_Exploration_wayOut.mk19 rfl rfl (one_of HT_.out (by kernel_rfl)) (by decide) (fun K hK => ?_); refine skip_ (w1 := ?_) (by rfl) rfl ?_ ?_; rotate_left
                  ·
                   go_simp; rfl
                  refine hK.out _ _ ?_; clear hK K; refine done_ (done_of HT_.out (by kernel_rfl)) ?_
                  try go_wp2
                  have n0_ : Aside0 (Kd.R (Kd.int .i64) 3 (w36.setCell ⟨go4, (((rd_T53 l0_0 x16_2).f0) : Int).toNat, none⟩ (.int .i64 ji27)) w.heap.size (fun _ => True) (.slice (some ⟨go4, 0, none⟩) x4_2.length co4) y300) := ⟨kr_ HQ37.out⟩
                  have n1_ : Aside0 ((w36.setCell ⟨go4, (((rd_T53 l0_0 x16_2).f0) : Int).toNat, none⟩ (.int .i64 ji27)).heap[gb284]? = some (.cells #[.slice (some ad294) l0_0.length c0_0, .slice (some ad296) l0_1.length c0_1, .slice A0_2 l0_2.length c0_2, .int .i64 a0_3, .int .i64 a0_4] 34 (0, 0))) := ⟨by (with_reducible repeat (first | refine blk_drewN ?_ _ | refine blk_drew ?_ | refine blk_alloc ?_ _)); refine blk_far ?_ (by have h_ := Kd.R_ne HO_4.out BK284.out (by decide); intro e_; exact h_ (by rw [e_]; rfl)) _; (with_reducible repeat (first | refine blk_drewN ?_ _ | refine blk_drew ?_ | refine blk_alloc ?_ _)); exact BK284.out⟩
                  have n2_ : Aside0 ((w36.setCell ⟨go4, (((rd_T53 l0_0 x16_2).f0) : Int).toNat, none⟩ (.int .i64 ji27)).heap[gb295]? = some (.cells #[.int .i64 ((rd_T53 l0_0 x16_2).f0), .int .i64 ((rd_T53 l0_0 x16_2).f1), .int .i64 ((rd_T53 l0_0 x16_2).f2), .int .i64 ((rd_T53 l0_0 x16_2).f3), .int .i64 ((rd_T53 l0_0 x16_2).f4)] 53 (0, 0))) := ⟨by (with_reducible repeat (first | refine blk_drewN ?_ _ | refine blk_drew ?_ | refine blk_alloc ?_ _)); refine blk_far ?_ (by have h_ := Kd.R_ne HO_4.out BK295.out (by decide); intro e_; exact h_ (by rw [e_]; rfl)) _; (with_reducible repeat (first | refine blk_drewN ?_ _ | refine blk_drew ?_ | refine blk_alloc ?_ _)); exact BK295.out⟩
                  have n3_ : Aside0 (Below w.heap.size w (w36.setCell ⟨go4, (((rd_T53 l0_0 x16_2).f0) : Int).toNat, none⟩ (.int .i64 ji27))) := ⟨lb3_ HB.out GB4.out GE284.out GE295.out⟩
                  (try clear HO_4); (try clear BK284); (try clear BK295); (try clear HB); generalize (w36.setCell ⟨go4, (((rd_T53 l0_0 x16_2).f0) : Int).toNat, none⟩ (.int .i64 ji27)) = w38 at n0_ n1_ n2_ n3_ ⊢; have HO_4 := n0_; have BK284 := n1_; have BK295 := n2_; have HB := n3_; clear n0_ n1_ n2_ n3_; replace HO_4 := Aside0.mk (Kd.R_drew HO_4.out); replace BK284 := Aside0.mk (blk_drew BK284.out); replace BK295 := Aside0.mk (blk_drew BK295.out); replace HB := Aside0.mk (below_drew1 HB.out); have p301 : 0 ≤ (((rd_T53 l0_0 x16_2).f1) : Int) := dt_
                  have q301 : ((rd_T53 l0_0 x16_2).f1) < (y300.length : Int) := (by have h_ : (((rd_T53 l0_0 x16_2).f1) : Int) < ((x4_2.length : Int) : Int) := dt_; first | (have e_ := (Kd.R_reads' HO_4.out).1; omega) | simpa only [Ny300.out, List.length_set] using h_)
                  have ql301 : ((((rd_T53 l0_0 x16_2).f1) : Int) < ((x4_2.length : Int) : Int)) = True := eq_true (dt_); obtain ⟨ad301, e301, hx301_0⟩ := Kd.at_int (Kd.R_reads' HO_4.out).2.2 ((rd_T53 l0_0 x16_2).f1) p301 q301
                  obtain rfl : (⟨go4, 0, none⟩ : Addr) = ad301 := (by injection e301)
                  (first | simp only [add_plain] at hx301_0 | simp only [add_at] at hx301_0 | simp only [Addr.add, Nat.zero_add] at hx301_0 | skip)
                  replace p301 := eq_true p301; replace q301 := eq_true q301; have p302 : 0 ≤ (((rd_T53 l0_0 x16_2).f0) : Int) := dt_
                  have q302 : ((rd_T53 l0_0 x16_2).f0) < (y300.length : Int) := (by have h_ : (((rd_T53 l0_0 x16_2).f0) : Int) < ((x4_2.length : Int) : Int) := dt_; first | (have e_ := (Kd.R_reads' HO_4.out).1; omega) | simpa only [Ny300.out, List.length_set] using h_)
                  have ql302 : ((((rd_T53 l0_0 x16_2).f0) : Int) < ((x4_2.length : Int) : Int)) = True := eq_true (dt_); obtain ⟨ad302, e302, hx302_0⟩ := Kd.at_int (Kd.R_reads' HO_4.out).2.2 ((rd_T53 l0_0 x16_2).f0) p302 q302
                  obtain rfl : (⟨go4, 0, none⟩ : Addr) = ad302 := (by injection e302)
                  (first | simp only [add_plain] at hx302_0 | simp only [add_at] at hx302_0 | simp only [Addr.add, Nat.zero_add] at hx302_0 | skip)
                  replace p302 := eq_true p302; replace q302 := eq_true q302; have p30 : 0 ≤ (((rd_T53 l0_0 x16_2).f1) : Int) := dt_; have q30 : (((rd_T53 l0_0 x16_2).f1) : Int) < ((x4_2.length : Int) : Int) := dt_; obtain ⟨hx30_0, hf30_0⟩ := Kd.R_celln 0 HO_4.out (((rd_T53 l0_0 x16_2).f1) : Int) p30 q30; replace p30 := eq_true p30; replace q30 := eq_true q30; have HP40 := Kd.R_putn HO_4.out (((rd_T53 l0_0 x16_2).f1) : Int) ji29
                  rw [← Ny303.out] at HP40
                  have HQ40 := Aside0.mk HP40; clear HP40; refine start_ (n := 19) (S := fun w' => w'.cell? ⟨gb295, 0, none⟩ = some (.int .i64 ((rd_T53 l0_0 x16_2).f0)) ∧ w'.cell? ⟨gb295, 1, none⟩ = some (.int .i64 ((rd_T53 l0_0 x16_2).f1)) ∧ w'.cell? ⟨gb295, 2, none⟩ = some (.int .i64 ((rd_T53 l0_0 x16_2).f2)) ∧ w'.cell? ⟨gb295, 3, none⟩ = some (.int .i64 ((rd_T53 l0_0 x16_2).f3)) ∧ w'.cell? ⟨gb295, 4, none⟩ = some (.int .i64 ((rd_T53 l0_0 x16_2).f4)) ∧ w'.cell? ⟨go4, (((rd_T53 l0_0 x16_2).f1)).toNat, none⟩ = some (.int .i64 (rd y300 ((rd_T53 l0_0 x16_2).f1))) ∧ w'.cell? ⟨go4, (((rd_T53 l0_0 x16_2).f0)).toNat, none⟩ = some (.int .i64 (rd y300 ((rd_T53 l0_0 x16_2).f0)))) (ds := [18]) impl_Exploration_wayOut.mk0 (by kernel_rfl) rfl rfl ⟨(blk_cell BK295.out 0).trans rfl, (blk_cell BK295.out 1).trans rfl, (blk_cell BK295.out 2).trans rfl, (blk_cell BK295.out 3).trans rfl, (blk_cell BK295.out 4).trans rfl, hx301_0, hx302_0⟩ (fun hHeld => ?_); refine with_tabW impl_Exploration_wayOut.tab10 impl_Exploration_wayOut.bits10 (fun HT_ HW_ => ?_); generalize w38.drew = w39 at HO_4 BK284 BK295 HB HQ37 HQ40 hf30_0 hx301_0 hx302_0 hx30_0 hHeld ⊢; refine pz_ HT_ 0 (some 52) impl_Exploration_wayOut.mk1 ?_; refine pz_ HT_ 1 (some 53) impl_Exploration_wayOut.mk2 ?_; refine pz_ HT_ 3 (some 55) impl_Exploration_wayOut.mk3 ?_; refine pz_ HT_ 4 (some 56) impl_Exploration_wayOut.mk4 ?_; refine pz_ HT_ 8 (some 60) impl_Exploration_wayOut.mk5 ?_; refine pz_ HT_ 9 (some 61) impl_Exploration_wayOut.mk6 ?_; refine pz_ HT_ 13 (some 65) impl_Exploration_wayOut.mk7 ?_; refine take_ (i := 2) (N := some 54) (v := ?_) (a' := ?_) impl_Exploration_wayOut.mk8 rfl rfl (take_ofW HT_.out HW_.out (by kernel_rfl)) (fun _ _ _ h => h) (Or.inl ⟨by rfl, ?_⟩) hHeld ?_ ?_; rotate_left
                  ·
                   rintro w' ⟨s0, s1, s2, s3, s4, s5, s6⟩; go_simp; (with_reducible rfl)
                  rotate_left
                  ·
                   simp only [Act.put, List.setIfInBounds_toArray, List.set_cons_zero, List.set_cons_succ, i64_w, i32_w]; rfl
                  refine take_ (i := 5) (N := some 57) (v := ?_) (a' := ?_) impl_Exploration_wayOut.mk9 rfl rfl (take_ofW HT_.out HW_.out (by kernel_rfl)) (fun _ _ _ h => h) (Or.inl ⟨by rfl, ?_⟩) hHeld ?_ ?_; rotate_left
                  ·
                   rintro w' ⟨s0, s1, s2, s3, s4, s5, s6⟩; go_simp; (with_reducible rfl)
                  rotate_left
                  ·
                   simp only [Act.put, List.setIfInBounds_toArray, List.set_cons_zero, List.set_cons_succ, i64_w, i32_w]; rfl
                  refine pz_ HT_ 6 (some 58) impl_Exploration_wayOut.mk10 ?_; refine take_ (i := 7) (N := some 59) (v := ?_) (a' := ?_) impl_Exploration_wayOut.mk11 rfl rfl (take_ofW HT_.out HW_.out (by kernel_rfl)) (fun _ _ _ h => h) (Or.inl ⟨by rfl, ?_⟩) hHeld ?_ ?_; rotate_left
                  ·
                   rintro w' ⟨s0, s1, s2, s3, s4, s5, s6⟩; go_simp; (with_reducible rfl)
                  rotate_left
                  ·
                   simp only [Act.put, List.setIfInBounds_toArray, List.set_cons_zero, List.set_cons_succ, i64_w, i32_w]; rfl
                  refine take_ (i := 10) (N := some 62) (v := ?_) (a' := ?_) impl_Exploration_wayOut.mk12 rfl rfl (take_ofW HT_.out HW_.out (by kernel_rfl)) (fun _ _ _ h => h) (Or.inl ⟨by rfl, ?_⟩) hHeld ?_ ?_; rotate_left
                  ·
                   rintro w' ⟨s0, s1, s2, s3, s4, s5, s6⟩; go_simp; (with_reducible rfl)
                  rotate_left
                  ·
                   simp only [Act.put, List.setIfInBounds_toArray, List.set_cons_zero, List.set_cons_succ, i64_w, i32_w]; rfl
                  refine pz_ HT_ 11 (some 63) impl_Exploration_wayOut.mk13 ?_; refine take_ (i := 12) (N := some 64) (v := ?_) (a' := ?_) impl_Exploration_wayOut.mk14 rfl rfl (take_ofW HT_.out HW_.out (by kernel_rfl)) (fun _ _ _ h => h) (Or.inl ⟨by rfl, ?_⟩) hHeld ?_ ?_; rotate_left
                  ·
                   rintro w' ⟨s0, s1, s2, s3, s4, s5, s6⟩; go_simp; (with_reducible rfl)
                  rotate_left
                  ·
                   simp only [Act.put, List.setIfInBounds_toArray, List.set_cons_zero, List.set_cons_succ, i64_w, i32_w]; rfl
                  refine take_ (i := 14) (N := some 66) (v := ?_) (a' := ?_) impl_Exploration_wayOut.mk15 rfl rfl (take_ofW HT_.out HW_.out (by kernel_rfl)) (fun _ _ _ h => h) (Or.inl ⟨by rfl, ?_⟩) hHeld ?_ ?_; rotate_left
                  ·
                   rintro w' ⟨s0, s1, s2, s3, s4, s5, s6⟩; go_simp; (with_reducible rfl)
                  rotate_left
                  ·
                   simp only [Act.put, List.setIfInBounds_toArray, List.set_cons_zero, List.set_cons_succ, i64_w, i32_w]; rfl
                  refine pz_ HT_ 15 (some 67) impl_Exploration_wayOut.mk16 ?_; refine pz_ HT_ 16 (some 68) impl_Exploration_wayOut.mk17 ?_; refine pz_ HT_ 17 (some 69) impl_Exploration_wayOut.mk18 ?_; refine last_ (i := 18) (N := none) impl_Exploration_wayOut.mk19 rfl rfl (one_of HT_.out (by kernel_rfl)) (by decide) (fun K hK => ?_); refine skip_ (w1 := ?_) (by rfl) rfl ?_ ?_; rotate_left
                  ·
                   go_simp; rfl
                  refine hK.out _ _ ?_; clear hK K; refine done_ (done_of HT_.out (by kernel_rfl)) ?_
                  try go_wp2
                  (try simp only [← hl4_2])
                  go_roundg k2
                  case measure => have := HK1.out; have := HK2.out; omega
                  case rel => exact ⟨(y303), (wrap64 (x16_2 + 1)), (by first | rfl | (simp; done) | (simp [*]; done)), H', ⟨by have := HK1.out; have := HK2.out; omega⟩, ⟨by (try simp only [hl4_1]); (try simp only [hl4_2]); (with_reducible repeat (first | apply Kd.R_alloc | apply Kd.R_drewN | apply Kd.R_drew)); exact HQ40.out⟩, ⟨by (try simp only [hl4_1]); (try simp only [hl4_2]); (with_reducible repeat (first | refine blk_drewN ?_ _ | refine blk_drew ?_ | refine blk_alloc ?_ _)); refine blk_far ?_ (by have h_ := Kd.R_ne HO_4.out BK284.out (by decide); intro e_; exact h_ (by rw [e_]; rfl)) _; (with_reducible repeat (first | refine blk_drewN ?_ _ | refine blk_drew ?_ | refine blk_alloc ?_ _)); exact BK284.out⟩, ⟨lb3_ HB.out GB4.out GE284.out GE295.out⟩⟩
                 ·
                  rw [if_neg c26] at H
                  exact absurd H (by simp)
                ·
                 rw [if_neg c25] at H
                 exact absurd H (by simp)
               ·
                replace c24 := Bool.eq_false_iff.mpr c24; subst c24
                have H1 : (impl_Exploration_wayOut.l1 k2 x4_2 x11_1 l0_0 (l0_0.length : Int) (wrap64 (x16_2 + 1)) l0_0 l0_1 l0_2 a0_3 a0_4) = some (r1, r2) := by rw [if_neg (show ¬ (false = true) by decide)] at H; exact H
                clear H; have H := H1; clear H1; have H' := Aside0.mk H; clear H; have p294 : 0 ≤ (x16_2 : Int) := dt_; have q294 : x16_2 < (l0_0.length : Int) := dt_; obtain ⟨ad294, e294, hx294_0, hx294_1, hx294_2, hx294_3, hx294_4⟩ := at_T53 HR0_0.out x16_2 p294 q294
                cases e294
                replace hx294_0 := bc_ HB.out hx294_0; replace hx294_1 := bc_ HB.out hx294_1; replace hx294_2 := bc_ HB.out hx294_2; replace hx294_3 := bc_ HB.out hx294_3; replace hx294_4 := bc_ HB.out hx294_4; replace p294 := eq_true p294; replace q294 := eq_true q294
                go_wp2_with (first | ((with_reducible refine gate_dst (N := 6) rfl ?_); refine box_event ?hg (N := 6) ?hd (cs := #[.int .i64 0, .int .i64 0, .int .i64 0, .int .i64 0, .int .i64 0]) (t := 53) ?hr ?_; (case hd => rfl); (case hg => rfl); (case hr => first | (go_simp; done) | (go_simp; rfl)); intro gb295 hg w41 hbox hb; replace HO_4 := Aside0.mk (Kd.R_below (kr_ HO_4.out) hb); have BK295 := Aside0.mk (hbox); have GW295 := Aside0.mk ((bz_ hg (lb1_ HB.out GE284.out))); have GE295 := Aside0.mk ((bz_ hg (lb1_ HB.out GE284.out))); replace HB := Aside0.mk (below_step (lb1_ HB.out GE284.out) hb); have NB284_295 := Aside0.mk ((by rw [hg]; exact Nat.ne_of_lt (blk_lt (g := gb284) (o := .cells #[.slice (some ad294) l0_0.length c0_0, .slice A0_1 l0_1.length c0_1, .slice A0_2 l0_2.length c0_2, .int .i64 a0_3, .int .i64 a0_4] 34 (0, 0)) (bk_ BK284.out)) : gb284 ≠ gb295)); have NB295_284 := Aside0.mk ((by rw [hg]; exact Nat.ne_of_gt (blk_lt (g := gb284) (o := .cells #[.slice (some ad294) l0_0.length c0_0, .slice A0_1 l0_1.length c0_1, .slice A0_2 l0_2.length c0_2, .int .i64 a0_3, .int .i64 a0_4] 34 (0, 0)) (bk_ BK284.out)) : gb295 ≠ gb284)); replace BK284 := Aside0.mk (bb_ (bk_ BK284.out) hb); clear hb hbox hg; have hnb42 := NB295_284.out; have hnc42 := NB284_295.out; obtain ⟨hcz43_0, hcz43_1, hcz43_2, hcz43_3, hcz43_4⟩ := cz5_ BK295.out; obtain ⟨hfz43_0, hfz43_1, hfz43_2, hfz43_3, hfz43_4⟩ := fz5_ BK295.out; obtain ⟨hcz44_0, hcz44_1, hcz44_2, hcz44_3, hcz44_4⟩ := cz5_ BK284.out; obtain ⟨hfz44_0, hfz44_1, hfz44_2, hfz44_3, hfz44_4⟩ := fz5_ BK284.out; have p296 : 0 ≤ (((rd_T53 l0_0 x16_2).f0) : Int) := dt_; have q296 : ((rd_T53 l0_0 x16_2).f0) < (l0_1.length : Int) := dt_; obtain ⟨ad296, e296, hx296_0⟩ := Kd.at_bool HR0_1.out ((rd_T53 l0_0 x16_2).f0) p296 q296; (try rw [← Nbq19.out] at hx296_0); (try rw [← Nbq23.out] at hx296_0); cases e296; have hn296_0 : ad296.block ≠ gb295 := Nat.ne_of_lt (Nat.lt_of_lt_of_le (by have := World.block_lt_of_cell? _ _ hx296_0; first | rwa [add_block] at this | exact this) GW295.out); have hn296_1 : ad296.block ≠ gb295 := Nat.ne_of_lt (Nat.lt_of_lt_of_le (by have := World.block_lt_of_cell? _ _ hx296_0; first | rwa [add_block] at this | exact this) GW295.out); have hn296_2 : ad296.block ≠ gb295 := Nat.ne_of_lt (Nat.lt_of_lt_of_le (by have := World.block_lt_of_cell? _ _ hx296_0; first | rwa [add_block] at this | exact this) GW295.out); have hn296_3 : ad296.block ≠ gb295 := Nat.ne_of_lt (Nat.lt_of_lt_of_le (by have := World.block_lt_of_cell? _ _ hx296_0; first | rwa [add_block] at this | exact this) GW295.out); have hn296_4 : ad296.block ≠ gb295 := Nat.ne_of_lt (Nat.lt_of_lt_of_le (by have := World.block_lt_of_cell? _ _ hx296_0; first | rwa [add_block] at this | exact this) GW295.out); replace hx296_0 := bc_ HB.out hx296_0; replace hx296_0 := (cell_far (p := ⟨gb295, 0, none⟩) (by first | (rw [add_block]; exact hn296_0) | (show (Addr.add _ _).block ≠ _; rw [add_block]; exact hn296_0) | exact hn296_0) (.int .i64 ((rd_T53 l0_0 x16_2).f0))).trans hx296_0; replace hx296_0 := (cell_far (p := ⟨gb295, 1, none⟩) (by first | (rw [add_block]; exact hn296_1) | (show (Addr.add _ _).block ≠ _; rw [add_block]; exact hn296_1) | exact hn296_1) (.int .i64 ((rd_T53 l0_0 x16_2).f1))).trans hx296_0; replace hx296_0 := (cell_far (p := ⟨gb295, 2, none⟩) (by first | (rw [add_block]; exact hn296_2) | (show (Addr.add _ _).block ≠ _; rw [add_block]; exact hn296_2) | exact hn296_2) (.int .i64 ((rd_T53 l0_0 x16_2).f2))).trans hx296_0; replace hx296_0 := (cell_far (p := ⟨gb295, 3, none⟩) (by first | (rw [add_block]; exact hn296_3) | (show (Addr.add _ _).block ≠ _; rw [add_block]; exact hn296_3) | exact hn296_3) (.int .i64 ((rd_T53 l0_0 x16_2).f3))).trans hx296_0; replace hx296_0 := (cell_far (p := ⟨gb295, 4, none⟩) (by first | (rw [add_block]; exact hn296_4) | (show (Addr.add _ _).block ≠ _; rw [add_block]; exact hn296_4) | exact hn296_4) (.int .i64 ((rd_T53 l0_0 x16_2).f4))).trans hx296_0; clear hn296_0; clear hn296_1; clear hn296_2; clear hn296_3; clear hn296_4; replace p296 := eq_true p296; replace q296 := eq_true q296; have p297 : 0 ≤ (((rd_T53 l0_0 x16_2).f1) : Int) := dt_; have q297 : ((rd_T53 l0_0 x16_2).f1) < (l0_1.length : Int) := dt_; obtain ⟨ad297, e297, hx297_0⟩ := Kd.at_bool HR0_1.out ((rd_T53 l0_0 x16_2).f1) p297 q297; (try rw [← Nbq19.out] at hx297_0); (try rw [← Nbq23.out] at hx297_0); obtain rfl : ad296 = ad297 := (by injection e297); have hn297_0 : ad296.block ≠ gb295 := Nat.ne_of_lt (Nat.lt_of_lt_of_le (by have := World.block_lt_of_cell? _ _ hx297_0; first | rwa [add_block] at this | exact this) GW295.out); have hn297_1 : ad296.block ≠ gb295 := Nat.ne_of_lt (Nat.lt_of_lt_of_le (by have := World.block_lt_of_cell? _ _ hx297_0; first | rwa [add_block] at this | exact this) GW295.out); have hn297_2 : ad296.block ≠ gb295 := Nat.ne_of_lt (Nat.lt_of_lt_of_le (by have := World.block_lt_of_cell? _ _ hx297_0; first | rwa [add_block] at this | exact this) GW295.out); have hn297_3 : ad296.block ≠ gb295 := Nat.ne_of_lt (Nat.lt_of_lt_of_le (by have := World.block_lt_of_cell? _ _ hx297_0; first | rwa [add_block] at this | exact this) GW295.out); have hn297_4 : ad296.block ≠ gb295 := Nat.ne_of_lt (Nat.lt_of_lt_of_le (by have := World.block_lt_of_cell? _ _ hx297_0; first | rwa [add_block] at this | exact this) GW295.out); replace hx297_0 := bc_ HB.out hx297_0; replace hx297_0 := (cell_far (p := ⟨gb295, 0, none⟩) (by first | (rw [add_block]; exact hn297_0) | (show (Addr.add _ _).block ≠ _; rw [add_block]; exact hn297_0) | exact hn297_0) (.int .i64 ((rd_T53 l0_0 x16_2).f0))).trans hx297_0; replace hx297_0 := (cell_far (p := ⟨gb295, 1, none⟩) (by first | (rw [add_block]; exact hn297_1) | (show (Addr.add _ _).block ≠ _; rw [add_block]; exact hn297_1) | exact hn297_1) (.int .i64 ((rd_T53 l0_0 x16_2).f1))).trans hx297_0; replace hx297_0 := (cell_far (p := ⟨gb295, 2, none⟩) (by first | (rw [add_block]; exact hn297_2) | (show (Addr.add _ _).block ≠ _; rw [add_block]; exact hn297_2) | exact hn297_2) (.int .i64 ((rd_T53 l0_0 x16_2).f2))).trans hx297_0; replace hx297_0 := (cell_far (p := ⟨gb295, 3, none⟩) (by first | (rw [add_block]; exact hn297_3) | (show (Addr.add _ _).block ≠ _; rw [add_block]; exact hn297_3) | exact hn297_3) (.int .i64 ((rd_T53 l0_0 x16_2).f3))).trans hx297_0; replace hx297_0 := (cell_far (p := ⟨gb295, 4, none⟩) (by first | (rw [add_block]; exact hn297_4) | (show (Addr.add _ _).block ≠ _; rw [add_block]; exact hn297_4) | exact hn297_4) (.int .i64 ((rd_T53 l0_0 x16_2).f4))).trans hx297_0; clear hn297_0; clear hn297_1; clear hn297_2; clear hn297_3; clear hn297_4; replace p297 := eq_true p297; replace q297 := eq_true q297))
                (try simp only [← hl4_2])
                go_roundg k2
                case measure => have := HK1.out; have := HK2.out; omega
                case rel => exact ⟨(x4_2), (wrap64 (x16_2 + 1)), (by first | rfl | (simp; done) | (simp [*]; done)), H', ⟨by have := HK1.out; have := HK2.out; omega⟩, ⟨by (try simp only [hl4_1]); (try simp only [hl4_2]); (with_reducible repeat (first | apply Kd.R_alloc | apply Kd.R_drewN | apply Kd.R_drew)); exact Kd.R_mono (Kd.R_far (p := ⟨gb295, 4, none⟩) (Kd.R_far (p := ⟨gb295, 3, none⟩) (Kd.R_far (p := ⟨gb295, 2, none⟩) (Kd.R_far (p := ⟨gb295, 1, none⟩) (Kd.R_far (p := ⟨gb295, 0, none⟩) (Kd.R_types HO_4.out BK295.out (by decide)) (fun _ hk => hk.2) (.int .i64 ((rd_T53 l0_0 x16_2).f0))) (fun _ hk => hk.2) (.int .i64 ((rd_T53 l0_0 x16_2).f1))) (fun _ hk => hk.2) (.int .i64 ((rd_T53 l0_0 x16_2).f2))) (fun _ hk => hk.2) (.int .i64 ((rd_T53 l0_0 x16_2).f3))) (fun _ hk => hk.2) (.int .i64 ((rd_T53 l0_0 x16_2).f4))) (fun _ hk => trivial)⟩, ⟨by (try simp only [hl4_1]); (try simp only [hl4_2]); (with_reducible repeat (first | refine blk_drewN ?_ _ | refine blk_drew ?_ | refine blk_alloc ?_ _)); refine blk_far ?_ NB284_295.out _; (with_reducible repeat (first | refine blk_drewN ?_ _ | refine blk_drew ?_ | refine blk_alloc ?_ _)); refine blk_far ?_ NB284_295.out _; (with_reducible repeat (first | refine blk_drewN ?_ _ | refine blk_drew ?_ | refine blk_alloc ?_ _)); refine blk_far ?_ NB284_295.out _; (with_reducible repeat (first | refine blk_drewN ?_ _ | refine blk_drew ?_ | refine blk_alloc ?_ _)); refine blk_far ?_ NB284_295.out _; (with_reducible repeat (first | refine blk_drewN ?_ _ | refine blk_drew ?_ | refine blk_alloc ?_ _)); refine blk_far ?_ NB284_295.out _; (with_reducible repeat (first | refine blk_drewN ?_ _ | refine blk_drew ?_ | refine blk_alloc ?_ _)); exact BK284.out⟩, ⟨lb2_ HB.out GE284.out GE295.out⟩⟩
              ·
               rw [if_neg c22] at H
               exact absurd H (by simp)
             ·
              rw [if_neg c21] at H
              exact absurd H (by simp)
            ·
             replace c20 := Bool.eq_false_iff.mpr c20; subst c20
             have H1 : (impl_Exploration_wayOut.l1 k2 x4_2 x11_1 l0_0 (l0_0.length : Int) (wrap64 (x16_2 + 1)) l0_0 l0_1 l0_2 a0_3 a0_4) = some (r1, r2) := by rw [if_neg (show ¬ (false = true) by decide)] at H; exact H
             clear H; have H := H1; clear H1; have H' := Aside0.mk H; clear H; have p294 : 0 ≤ (x16_2 : Int) := dt_; have q294 : x16_2 < (l0_0.length : Int) := dt_; obtain ⟨ad294, e294, hx294_0, hx294_1, hx294_2, hx294_3, hx294_4⟩ := at_T53 HR0_0.out x16_2 p294 q294
             cases e294
             replace hx294_0 := bc_ HB.out hx294_0; replace hx294_1 := bc_ HB.out hx294_1; replace hx294_2 := bc_ HB.out hx294_2; replace hx294_3 := bc_ HB.out hx294_3; replace hx294_4 := bc_ HB.out hx294_4; replace p294 := eq_true p294; replace q294 := eq_true q294
             go_wp2_with (first | ((with_reducible refine gate_dst (N := 6) rfl ?_); refine box_event ?hg (N := 6) ?hd (cs := #[.int .i64 0, .int .i64 0, .int .i64 0, .int .i64 0, .int .i64 0]) (t := 53) ?hr ?_; (case hd => rfl); (case hg => rfl); (case hr => first | (go_simp; done) | (go_simp; rfl)); intro gb295 hg w45 hbox hb; replace HO_4 := Aside0.mk (Kd.R_below (kr_ HO_4.out) hb); have BK295 := Aside0.mk (hbox); have GW295 := Aside0.mk ((bz_ hg (lb1_ HB.out GE284.out))); have GE295 := Aside0.mk ((bz_ hg (lb1_ HB.out GE284.out))); replace HB := Aside0.mk (below_step (lb1_ HB.out GE284.out) hb); have NB284_295 := Aside0.mk ((by rw [hg]; exact Nat.ne_of_lt (blk_lt (g := gb284) (o := .cells #[.slice (some ad294) l0_0.length c0_0, .slice A0_1 l0_1.length c0_1, .slice A0_2 l0_2.length c0_2, .int .i64 a0_3, .int .i64 a0_4] 34 (0, 0)) (bk_ BK284.out)) : gb284 ≠ gb295)); have NB295_284 := Aside0.mk ((by rw [hg]; exact Nat.ne_of_gt (blk_lt (g := gb284) (o := .cells #[.slice (some ad294) l0_0.length c0_0, .slice A0_1 l0_1.length c0_1, .slice A0_2 l0_2.length c0_2, .int .i64 a0_3, .int .i64 a0_4] 34 (0, 0)) (bk_ BK284.out)) : gb295 ≠ gb284)); replace BK284 := Aside0.mk (bb_ (bk_ BK284.out) hb); clear hb hbox hg; have hnb46 := NB295_284.out; have hnc46 := NB284_295.out; obtain ⟨hcz47_0, hcz47_1, hcz47_2, hcz47_3, hcz47_4⟩ := cz5_ BK295.out; obtain ⟨hfz47_0, hfz47_1, hfz47_2, hfz47_3, hfz47_4⟩ := fz5_ BK295.out; obtain ⟨hcz48_0, hcz48_1, hcz48_2, hcz48_3, hcz48_4⟩ := cz5_ BK284.out; obtain ⟨hfz48_0, hfz48_1, hfz48_2, hfz48_3, hfz48_4⟩ := fz5_ BK284.out; have p296 : 0 ≤ (((rd_T53 l0_0 x16_2).f0) : Int) := dt_; have q296 : ((rd_T53 l0_0 x16_2).f0) < (l0_1.length : Int) := dt_; obtain ⟨ad296, e296, hx296_0⟩ := Kd.at_bool HR0_1.out ((rd_T53 l0_0 x16_2).f0) p296 q296; (try rw [← Nbq19.out] at hx296_0); cases e296; have hn296_0 : ad296.block ≠ gb295 := Nat.ne_of_lt (Nat.lt_of_lt_of_le (by have := World.block_lt_of_cell? _ _ hx296_0; first | rwa [add_block] at this | exact this) GW295.out); have hn296_1 : ad296.block ≠ gb295 := Nat.ne_of_lt (Nat.lt_of_lt_of_le (by have := World.block_lt_of_cell? _ _ hx296_0; first | rwa [add_block] at this | exact this) GW295.out); have hn296_2 : ad296.block ≠ gb295 := Nat.ne_of_lt (Nat.lt_of_lt_of_le (by have := World.block_lt_of_cell? _ _ hx296_0; first | rwa [add_block] at this | exact this) GW295.out); have hn296_3 : ad296.block ≠ gb295 := Nat.ne_of_lt (Nat.lt_of_lt_of_le (by have := World.block_lt_of_cell? _ _ hx296_0; first | rwa [add_block] at this | exact this) GW295.out); have hn296_4 : ad296.block ≠ gb295 := Nat.ne_of_lt (Nat.lt_of_lt_of_le (by have := World.block_lt_of_cell? _ _ hx296_0; first | rwa [add_block] at this | exact this) GW295.out); replace hx296_0 := bc_ HB.out hx296_0; replace hx296_0 := (cell_far (p := ⟨gb295, 0, none⟩) (by first | (rw [add_block]; exact hn296_0) | (show (Addr.add _ _).block ≠ _; rw [add_block]; exact hn296_0) | exact hn296_0) (.int .i64 ((rd_T53 l0_0 x16_2).f0))).trans hx296_0; replace hx296_0 := (cell_far (p := ⟨gb295, 1, none⟩) (by first | (rw [add_block]; exact hn296_1) | (show (Addr.add _ _).block ≠ _; rw [add_block]; exact hn296_1) | exact hn296_1) (.int .i64 ((rd_T53 l0_0 x16_2).f1))).trans hx296_0; replace hx296_0 := (cell_far (p := ⟨gb295, 2, none⟩) (by first | (rw [add_block]; exact hn296_2) | (show (Addr.add _ _).block ≠ _; rw [add_block]; exact hn296_2) | exact hn296_2) (.int .i64 ((rd_T53 l0_0 x16_2).f2))).trans hx296_0; replace hx296_0 := (cell_far (p := ⟨gb295, 3, none⟩) (by first | (rw [add_block]; exact hn296_3) | (show (Addr.add _ _).block ≠ _; rw [add_block]; exact hn296_3) | exact hn296_3) (.int .i64 ((rd_T53 l0_0 x16_2).f3))).trans hx296_0; replace hx296_0 := (cell_far (p := ⟨gb295, 4, none⟩) (by first | (rw [add_block]; exact hn296_4) | (show (Addr.add _ _).block ≠ _; rw [add_block]; exact hn296_4) | exact hn296_4) (.int .i64 ((rd_T53 l0_0 x16_2).f4))).trans hx296_0; clear hn296_0; clear hn296_1; clear hn296_2; clear hn296_3; clear hn296_4; replace p296 := eq_true p296; replace q296 := eq_true q296))
             (try simp only [← hl4_2])
             go_roundg k2
             case measure => have := HK1.out; have := HK2.out; omega
             case rel => exact ⟨(x4_2), (wrap64 (x16_2 + 1)), (by first | rfl | (simp; done) | (simp [*]; done)), H', ⟨by have := HK1.out; have := HK2.out; omega⟩, ⟨by (try simp only [hl4_1]); (try simp only [hl4_2]); (with_reducible repeat (first | apply Kd.R_alloc | apply Kd.R_drewN | apply Kd.R_drew)); exact Kd.R_mono (Kd.R_far (p := ⟨gb295, 4, none⟩) (Kd.R_far (p := ⟨gb295, 3, none⟩) (Kd.R_far (p := ⟨gb295, 2, none⟩) (Kd.R_far (p := ⟨gb295, 1, none⟩) (Kd.R_far (p := ⟨gb295, 0, none⟩) (Kd.R_types HO_4.out BK295.out (by decide)) (fun _ hk => hk.2) (.int .i64 ((rd_T53 l0_0 x16_2).f0))) (fun _ hk => hk.2) (.int .i64 ((rd_T53 l0_0 x16_2).f1))) (fun _ hk => hk.2) (.int .i64 ((rd_T53 l0_0 x16_2).f2))) (fun _ hk => hk.2) (.int .i64 ((rd_T53 l0_0 x16_2).f3))) (fun _ hk => hk.2) (.int .i64 ((rd_T53 l0_0 x16_2).f4))) (fun _ hk => trivial)⟩, ⟨by (try simp only [hl4_1]); (try simp only [hl4_2]); (with_reducible repeat (first | refine blk_drewN ?_ _ | refine blk_drew ?_ | refine blk_alloc ?_ _)); refine blk_far ?_ NB284_295.out _; (with_reducible repeat (first | refine blk_drewN ?_ _ | refine blk_drew ?_ | refine blk_alloc ?_ _)); refine blk_far ?_ NB284_295.out _; (with_reducible repeat (first | refine blk_drewN ?_ _ | refine blk_drew ?_ | refine blk_alloc ?_ _)); refine blk_far ?_ NB284_295.out _; (with_reducible repeat (first | refine blk_drewN ?_ _ | refine blk_drew ?_ | refine blk_alloc ?_ _)); refine blk_far ?_ NB284_295.out _; (with_reducible repeat (first | refine blk_drewN ?_ _ | refine blk_drew ?_ | refine blk_alloc ?_ _)); refine blk_far ?_ NB284_295.out _; (with_reducible repeat (first | refine blk_drewN ?_ _ | refine blk_drew ?_ | refine blk_alloc ?_ _)); exact BK284.out⟩, ⟨lb2_ HB.out GE284.out GE295.out⟩⟩
           ·
            rw [if_neg c18] at H
            exact absurd H (by simp)
          ·
           rw [if_neg c17] at H
           exact absurd H (by simp)
         ·
          rw [if_neg c16] at H
          exact absurd H (by simp)
        ·
         rw [if_neg c15] at H
         exact absurd H (by simp)
       ·
        rw [if_neg c14] at H
        have c14b0 : decide (x16_2 < (l0_0.length : Int)) = false := decide_eq_false c14; clear c14; have H' := Aside0.mk H; clear H
        go_wp2
        (try simp only [← hl4_1, ← hl4_2])
        go_roundg k2
        case measure => have := HK1.out; have := HK2.out; omega
        case rel => exact ⟨(x4_2), (wrap64 (x11_1 + 1)), (by first | rfl | (simp; done) | (simp [*]; done)), H', ⟨by have := HK1.out; have := HK2.out; omega⟩, ⟨by (try simp only [hl4_1]); (try simp only [hl4_2]); (with_reducible repeat (first | apply Kd.R_alloc | apply Kd.R_drewN | apply Kd.R_drew)); exact HO_4.out⟩, ⟨by (try simp only [hl4_1]); (try simp only [hl4_2]); (with_reducible repeat (first | refine blk_drewN ?_ _ | refine blk_drew ?_ | refine blk_alloc ?_ _)); exact BK284.out⟩, ⟨lb1_ HB.out GE284.out⟩⟩
    ·
     rw [if_neg c12] at H
     have c12b0 : decide (x11_1 < 8) = false := decide_eq_false c12
     clear c12
     by_cases c49 : 0 ≤ a0_3
     ·
      rw [if_pos c49] at H
      have c49b0 : decide (0 ≤ a0_3) = true := decide_eq_true c49
      clear c49
      by_cases c50 : a0_3 < (x4_1.length : Int)
      ·
       rw [if_pos c50] at H
       have c50b0 : decide (a0_3 < (x4_1.length : Int)) = true := decide_eq_true c50
       clear c50
       simp only [Option.some.injEq, Prod.mk.injEq] at H
       obtain ⟨rfl, rfl⟩ := H
       try go_wp2
       replace HO_4 := Aside0.mk (Kd.R_drew HO_4.out)
       replace BK284 := Aside0.mk (blk_drew BK284.out)
       replace HB := Aside0.mk (below_drew1 HB.out)
       have p292 : 0 ≤ (a0_3 : Int) := dt_
       have q292 : a0_3 < (x4_1.length : Int) := dt_
       obtain ⟨ad292, e292, hx292_0⟩ := Kd.at_int (Kd.R_reads' HO_4.out).2.2 a0_3 p292 q292
       obtain rfl : (⟨go4, 0, none⟩ : Addr) = ad292 := (by injection e292)
       (first | simp only [add_plain] at hx292_0 | simp only [add_at] at hx292_0 | simp only [Addr.add, Nat.zero_add] at hx292_0 | skip)
       replace p292 := eq_true p292
       replace q292 := eq_true q292
       have p293 : 0 ≤ (a0_3 : Int) := dt_
       have q293 : a0_3 < (x4_1.length : Int) := dt_
       obtain ⟨ad293, e293, hx293_0⟩ := Kd.at_int (Kd.R_reads' HO_4.out).2.2 a0_3 p293 q293
       obtain rfl : (⟨go4, 0, none⟩ : Addr) = ad293 := (by injection e293)
       (first | simp only [add_plain] at hx293_0 | simp only [add_at] at hx293_0 | simp only [Addr.add, Nat.zero_add] at hx293_0 | skip)
       replace p293 := eq_true p293
       replace q293 := eq_true q293
       refine start_ (n := 13) (S := fun w' => w'.cell? ⟨gb284, 0, none⟩ = some (.slice A0_0 l0_0.length c0_0) ∧ w'.cell? ⟨gb284, 1, none⟩ = some (.slice A0_1 l0_1.length c0_1) ∧ w'.cell? ⟨gb284, 2, none⟩ = some (.slice A0_2 l0_2.length c0_2) ∧ w'.cell? ⟨gb284, 3, none⟩ = some (.int .i64 a0_3) ∧ w'.cell? ⟨gb284, 4, none⟩ = some (.int .i64 a0_4) ∧ w'.cell? ⟨go4, (a0_3).toNat, none⟩ = some (.int .i64 (rd x4_1 a0_3)) ∧ w'.cell? ⟨go4, (a0_3).toNat, none⟩ = some (.int .i64 (rd x4_1 a0_3))) (ds := []) impl_Exploration_wayOut.mk20 (by kernel_rfl) rfl rfl ⟨(blk_cell BK284.out 0).trans rfl, (blk_cell BK284.out 1).trans rfl, (blk_cell BK284.out 2).trans rfl, (blk_cell BK284.out 3).trans rfl, (blk_cell BK284.out 4).trans rfl, hx292_0, hx293_0⟩ (fun hHeld => ?_); refine with_tabW impl_Exploration_wayOut.tab13 impl_Exploration_wayOut.bits13 (fun HT_ HW_ => ?_)
       generalize wr.drew = w51 at HO_4 BK284 HB hx292_0 hx293_0 hHeld ⊢
       refine pz_ HT_ 0 (some 72) impl_Exploration_wayOut.mk21 ?_
       refine pz_ HT_ 1 (some 73) impl_Exploration_wayOut.mk22 ?_
       refine pz_ HT_ 5 (some 77) impl_Exploration_wayOut.mk23 ?_
       refine pz_ HT_ 6 (some 78) impl_Exploration_wayOut.mk24 ?_
       refine take_ (i := 2) (N := some 74) (v := ?_) (a' := ?_) impl_Exploration_wayOut.mk25 rfl rfl (take_ofW HT_.out HW_.out (by kernel_rfl)) (fun _ _ _ h => h) (Or.inl ⟨by rfl, ?_⟩) hHeld ?_ ?_
       rotate_left
       ·
        rintro w' ⟨s0, s1, s2, s3, s4, s5, s6⟩; go_simp; (with_reducible rfl)
       rotate_left
       ·
        simp only [Act.put, List.setIfInBounds_toArray, List.set_cons_zero, List.set_cons_succ, i64_w, i32_w]; rfl
       refine pz_ HT_ 3 (some 75) impl_Exploration_wayOut.mk26 ?_
       refine take_ (i := 4) (N := some 76) (v := ?_) (a' := ?_) impl_Exploration_wayOut.mk27 rfl rfl (take_ofW HT_.out HW_.out (by kernel_rfl)) (fun _ _ _ h => h) (Or.inl ⟨by rfl, ?_⟩) hHeld ?_ ?_
       rotate_left
       ·
        rintro w' ⟨s0, s1, s2, s3, s4, s5, s6⟩; go_simp; (with_reducible rfl)
       rotate_left
       ·
        simp only [Act.put, List.setIfInBounds_toArray, List.set_cons_zero, List.set_cons_succ, i64_w, i32_w]; rfl
       refine pz_ HT_ 11 (some 2) impl_Exploration_wayOut.mk28 ?_
       refine take_ (i := 7) (N := some 79) (v := ?_) (a' := ?_) impl_Exploration_wayOut.mk29 rfl rfl (take_ofW HT_.out HW_.out (by kernel_rfl)) (fun _ _ _ h => h) (Or.inl ⟨by rfl, ?_⟩) hHeld ?_ ?_
       rotate_left
       ·
        rintro w' ⟨s0, s1, s2, s3, s4, s5, s6⟩; go_simp; (with_reducible rfl)
       rotate_left
       ·
        simp only [Act.put, List.setIfInBounds_toArray, List.set_cons_zero, List.set_cons_succ, i64_w, i32_w]; rfl
       refine pz_ HT_ 8 (some 80) impl_Exploration_wayOut.mk30 ?_
       refine take_ (i := 9) (N := some 81) (v := ?_) (a' := ?_) impl_Exploration_wayOut.mk31 rfl rfl (take_ofW HT_.out HW_.out (by kernel_rfl)) (fun _ _ _ h => h) (Or.inl ⟨by rfl, ?_⟩) hHeld ?_ ?_
       rotate_left
       ·
        rintro w' ⟨s0, s1, s2, s3, s4, s5, s6⟩; go_simp; (with_reducible rfl)
       rotate_left
       ·
        simp only [Act.put, List.setIfInBounds_toArray, List.set_cons_zero, List.set_cons_succ, i64_w, i32_w]; rfl
       refine pz_ HT_ 10 (some 82) impl_Exploration_wayOut.mk32 ?_
       refine pz_ HT_ 12 (some 3) impl_Exploration_wayOut.mk33 ?_
       refine done_ (done_of HT_.out (by kernel_rfl)) ?_
       try go_wp2
       go_ret2
       exact ⟨rr_, lb1_ HB.out GE284.out⟩
      ·
       rw [if_neg c50] at H
       exact absurd H (by simp)
     ·
      rw [if_neg c49] at H
      exact absurd H (by simp)
 ·
  rw [if_neg c3] at H
  exact absurd H (by simp)
def impl_IsExploration.j0 : Nat → Bool → List (S53) → List Bool → List Bool → Int → Int → Option (Bool)
 | 0, _, _, _, _, _, _ => none
 | k + 1, x32, x305000, x305001, x305002, x305003, x305004 => if x32 = true then (some false) else (if 0 < (x305001.length : Int) then (if rdOf false x305001 0 = true then (if 0 ≤ x305003 then (if x305003 < (x305001.length : Int) then (if rdOf false x305001 x305003 = true then ((impl_Exploration_wayOut.f k x305000 x305001 x305002 x305003 x305004).bind fun bt310 => (if bt310.2 = true then (some (decide (bt310.1 ≤ x305004))) else (some false))) else (some false)) else (none)) else (none)) else (some false)) else (none))
def impl_IsExploration.f (k : Nat) (l0_0 : List (S53)) (l0_1 : List Bool) (l0_2 : List Bool) (a0_3 : Int) (a0_4 : Int) : Option (Bool) := (impl_areLegs.f k l0_0).bind fun t305 => (if t305 = true then (if (l0_1.length : Int) = 8 then (if (l0_2.length : Int) = 8 then ((impl_isStation.f a0_3).bind fun t306 => (if t306 = true then ((impl_within.f a0_4 0 100000).bind fun t307 => (impl_IsExploration.j0 k (!t307) l0_0 l0_1 l0_2 a0_3 a0_4)) else (impl_IsExploration.j0 k true l0_0 l0_1 l0_2 a0_3 a0_4))) else (impl_IsExploration.j0 k true l0_0 l0_1 l0_2 a0_3 a0_4)) else (impl_IsExploration.j0 k true l0_0 l0_1 l0_2 a0_3 a0_4)) else (impl_IsExploration.j0 k true l0_0 l0_1 l0_2 a0_3 a0_4))
theorem impl_IsExploration.calls (k : Nat) (A0_0 : Option Addr) (c0_0 : Nat) (l0_0 : List (S53)) (A0_1 : Option Addr) (c0_1 : Nat) (l0_1 : List Bool) (A0_2 : Option Addr) (c0_2 : Nat) (l0_2 : List Bool) (a0_3 : Int) (a0_4 : Int) (r : Bool) (w : World) (hr0_0 : Kd.C k53 w A0_0 l0_0.length l0_0) (hc0_0 : l0_0.length ≤ c0_0) (hr0_1 : Kd.C Kd.bool w A0_1 l0_1.length l0_1) (hc0_1 : l0_1.length ≤ c0_1) (hr0_2 : Kd.C Kd.bool w A0_2 l0_2.length l0_2) (hc0_2 : l0_2.length ≤ c0_2) (h : impl_IsExploration.f k l0_0 l0_1 l0_2 a0_3 a0_4 = some r) :
  Calls Tryd.prog 17 #[.agg #[.slice A0_0 l0_0.length c0_0, .slice A0_1 l0_1.length c0_1, .slice A0_2 l0_2.length c0_2, .int .i64 a0_3, .int .i64 a0_4]] w fun e w' => e = .returned (.bool r) ∧ Below w.heap.size w w' := by
 have hu34 := Tryd.underlying34
 have HR0_0 := Aside0.mk hr0_0
 have HC0_0 := Aside0.mk hc0_0
 clear hr0_0 hc0_0
 have HR0_1 := Aside0.mk hr0_1
 have HC0_1 := Aside0.mk hc0_1
 clear hr0_1 hc0_1
 have HR0_2 := Aside0.mk hr0_2
 have HC0_2 := Aside0.mk hc0_2
 clear hr0_2 hc0_2
 have HB := Aside0.mk (Below.refl w.heap.size w)
 have H : ((impl_areLegs.f k l0_0).bind fun t305 => (if t305 = true then (if (l0_1.length : Int) = 8 then (if (l0_2.length : Int) = 8 then ((impl_isStation.f a0_3).bind fun t306 => (if t306 = true then ((impl_within.f a0_4 0 100000).bind fun t307 => (impl_IsExploration.j0 k (!t307) l0_0 l0_1 l0_2 a0_3 a0_4)) else (impl_IsExploration.j0 k true l0_0 l0_1 l0_2 a0_3 a0_4))) else (impl_IsExploration.j0 k true l0_0 l0_1 l0_2 a0_3 a0_4)) else (impl_IsExploration.j0 k true l0_0 l0_1 l0_2 a0_3 a0_4)) else (impl_IsExploration.j0 k true l0_0 l0_1 l0_2 a0_3 a0_4))) = some r := h
 clear h
 have HC2 := Aside0.mk H
 clear H
 go_enter Tryd.func17, Tryd.ntmps17
 go_upto_region 1 with (first | ((with_reducible refine gate_dst (N := 1) rfl ?_); (try (refine gate_guard (by rfl) ?_; dsimp only)); refine box_event ?hg (N := 1) ?hd (cs := #[.slice A0_0 l0_0.length c0_0, .slice A0_1 l0_1.length c0_1, .slice A0_2 l0_2.length c0_2, .int .i64 a0_3, .int .i64 a0_4]) (t := 34) ?hr ?_; (case hd => rfl); (case hg => rfl); (case hr => first | (go_simp; done) | (go_simp; rfl)); intro gb304 hg w3 hbox hb; have BK304 := Aside0.mk (hbox); have GW304 := Aside0.mk ((bz_ hg (lb0_ HB.out))); have GE304 := Aside0.mk ((bz_ hg (lb0_ HB.out))); replace HB := Aside0.mk (below_step (lb0_ HB.out) hb); clear hb hbox hg))
 (try simp only [Act.put, List.setIfInBounds_toArray, List.set_cons_zero, List.set_cons_succ])
 go_cut [32] (fun v32 wc => ∃ (kq : Nat) (x32_1 : Bool), v32 = .bool x32_1 ∧ Aside0 (impl_IsExploration.j0 kq x32_1 l0_0 l0_1 l0_2 a0_3 a0_4 = some r) ∧ Aside0 (kq ≤ k) ∧ Aside0 (wc.heap[gb304]? = some (.cells #[(.slice A0_0 l0_0.length c0_0), (.slice A0_1 l0_1.length c0_1), (.slice A0_2 l0_2.length c0_2), .int .i64 a0_3, .int .i64 a0_4] 34 (0, 0))) ∧ Aside0 (Below w.heap.size w wc))
 case first =>
  have H := HC2.out
  clear HC2
  replace H := Option.bind_eq_some_iff.mp H
  obtain ⟨t305, A40, H⟩ := H
  replace H : (if t305 = true then (if (l0_1.length : Int) = 8 then (if (l0_2.length : Int) = 8 then ((impl_isStation.f a0_3).bind fun t306 => (if t306 = true then ((impl_within.f a0_4 0 100000).bind fun t307 => (impl_IsExploration.j0 k (!t307) l0_0 l0_1 l0_2 a0_3 a0_4)) else (impl_IsExploration.j0 k true l0_0 l0_1 l0_2 a0_3 a0_4))) else (impl_IsExploration.j0 k true l0_0 l0_1 l0_2 a0_3 a0_4)) else (impl_IsExploration.j0 k true l0_0 l0_1 l0_2 a0_3 a0_4)) else (impl_IsExploration.j0 k true l0_0 l0_1 l0_2 a0_3 a0_4)) = some r := H
  have A4 := Aside0.mk A40
  clear A40
  by_cases c5 : t305 = true
  ·
   subst c5
   have H1 : (if (l0_1.length : Int) = 8 then (if (l0_2.length : Int) = 8 then ((impl_isStation.f a0_3).bind fun t306 => (if t306 = true then ((impl_within.f a0_4 0 100000).bind fun t307 => (impl_IsExploration.j0 k (!t307) l0_0 l0_1 l0_2 a0_3 a0_4)) else (impl_IsExploration.j0 k true l0_0 l0_1 l0_2 a0_3 a0_4))) else (impl_IsExploration.j0 k true l0_0 l0_1 l0_2 a0_3 a0_4)) else (impl_IsExploration.j0 k true l0_0 l0_1 l0_2 a0_3 a0_4)) = some r := by rw [if_pos rfl] at H; exact H
   clear H
   have H := H1
   clear H1
   by_cases c6 : (l0_1.length : Int) = 8
   ·
    rw [if_pos c6] at H
    have c6b0 : ((l0_1.length : Int) == 8) = true := beq_iff_eq.mpr c6
    have c6b1 : ((l0_1.length : Int) != 8) = false := bne_eq_false_iff_eq.mpr c6
    clear c6
    (first | rw [c6b0] | (simp only [i64_w, i32_w]; rw [c6b0]) | skip)
    by_cases c7 : (l0_2.length : Int) = 8
    ·
     rw [if_pos c7] at H
     have c7b0 : ((l0_2.length : Int) == 8) = true := beq_iff_eq.mpr c7
     have c7b1 : ((l0_2.length : Int) != 8) = false := bne_eq_false_iff_eq.mpr c7
     clear c7
     replace H := Option.bind_eq_some_iff.mp H
     obtain ⟨t306, A80, H⟩ := H
     replace H : (if t306 = true then ((impl_within.f a0_4 0 100000).bind fun t307 => (impl_IsExploration.j0 k (!t307) l0_0 l0_1 l0_2 a0_3 a0_4)) else (impl_IsExploration.j0 k true l0_0 l0_1 l0_2 a0_3 a0_4)) = some r := H
     have A8 := Aside0.mk A80
     clear A80
     by_cases c9 : t306 = true
     ·
      subst c9
      have H1 : ((impl_within.f a0_4 0 100000).bind fun t307 => (impl_IsExploration.j0 k (!t307) l0_0 l0_1 l0_2 a0_3 a0_4)) = some r := by rw [if_pos rfl] at H; exact H
      clear H
      have H := H1
      clear H1
      replace H := Option.bind_eq_some_iff.mp H
      obtain ⟨t307, A100, H⟩ := H
      replace H : (impl_IsExploration.j0 k (!t307) l0_0 l0_1 l0_2 a0_3 a0_4) = some r := H
      have A10 := Aside0.mk A100
      clear A100
      have H' := Aside0.mk H
      clear H
      obtain ⟨hcz11_0, hcz11_1, hcz11_2, hcz11_3, hcz11_4⟩ := cz5_ BK304.out
      obtain ⟨hfz11_0, hfz11_1, hfz11_2, hfz11_3, hfz11_4⟩ := fz5_ BK304.out
      go_wp2_with (first | ((with_reducible refine gate_callee (f := 35) rfl ?_); refine ga_ (some 7) Tryd.func35 #[.slice A0_0 l0_0.length c0_0] ?_; (with_reducible refine (impl_areLegs.calls k _ _ l0_0 true _ ?side1 ?side2 A4.out).mono ?_); (case side1 => exact kc_ (Kd.C_below HR0_0.out HB.out)); (case side2 => exact HC0_0.out); rintro e w12 ⟨rfl, hb⟩; refine ⟨_, rfl, ?_⟩; replace BK304 := Aside0.mk (bb_ (bk_ BK304.out) hb); replace HB := Aside0.mk (below_step (lb1_ HB.out GE304.out) hb); (try clear hb); (try clear hb2); (try clear hk); (try clear hi); obtain ⟨hcz13_0, hcz13_1, hcz13_2, hcz13_3, hcz13_4⟩ := cz5_ BK304.out; obtain ⟨hfz13_0, hfz13_1, hfz13_2, hfz13_3, hfz13_4⟩ := fz5_ BK304.out) | (go_at_call 36; (with_reducible refine (impl_isStation.calls a0_3 true _ A8.out).mono ?_); rintro e w' ⟨rfl, ⟨nd, rfl⟩⟩) | (go_at_call 37; (with_reducible refine (impl_within.calls a0_4 0 100000 t307 _ A10.out).mono ?_); rintro e w' ⟨rfl, ⟨nd, rfl⟩⟩))
      go_meet
      case rel => exact ⟨_, (!t307), (by first | rfl | (simp; done) | (simp [*]; done)), H', ⟨by first | omega | exact Nat.le_refl _⟩, ⟨bk_ BK304.out⟩, ⟨lb1_ HB.out GE304.out⟩⟩
     ·
      replace c9 := Bool.eq_false_iff.mpr c9
      subst c9
      have H1 : (impl_IsExploration.j0 k true l0_0 l0_1 l0_2 a0_3 a0_4) = some r := by rw [if_neg (show ¬ (false = true) by decide)] at H; exact H
      clear H
      have H := H1
      clear H1
      have H' := Aside0.mk H
      clear H
      obtain ⟨hcz14_0, hcz14_1, hcz14_2, hcz14_3, hcz14_4⟩ := cz5_ BK304.out
      obtain ⟨hfz14_0, hfz14_1, hfz14_2, hfz14_3, hfz14_4⟩ := fz5_ BK304.out
      go_wp2_with (first | ((with_reducible refine gate_callee (f := 35) rfl ?_); refine ga_ (some 7) Tryd.func35 #[.slice A0_0 l0_0.length c0_0] ?_; (with_reducible refine (impl_areLegs.calls k _ _ l0_0 true _ ?side1 ?side2 A4.out).mono ?_); (case side1 => exact kc_ (Kd.C_below HR0_0.out HB.out)); (case side2 => exact HC0_0.out); rintro e w15 ⟨rfl, hb⟩; refine ⟨_, rfl, ?_⟩; replace BK304 := Aside0.mk (bb_ (bk_ BK304.out) hb); replace HB := Aside0.mk (below_step (lb1_ HB.out GE304.out) hb); (try clear hb); (try clear hb2); (try clear hk); (try clear hi); obtain ⟨hcz16_0, hcz16_1, hcz16_2, hcz16_3, hcz16_4⟩ := cz5_ BK304.out; obtain ⟨hfz16_0, hfz16_1, hfz16_2, hfz16_3, hfz16_4⟩ := fz5_ BK304.out) | (go_at_call 36; (with_reducible refine (impl_isStation.calls a0_3 false _ A8.out).mono ?_); rintro e w' ⟨rfl, ⟨nd, rfl⟩⟩))
      go_meet
      case rel => exact ⟨_, (true), (by first | rfl | (simp; done) | (simp [*]; done)), H', ⟨by first | omega | exact Nat.le_refl _⟩, ⟨bk_ BK304.out⟩, ⟨lb1_ HB.out GE304.out⟩⟩
    ·
     rw [if_neg c7] at H
     have c7b0 : ((l0_2.length : Int) == 8) = false := beq_eq_false_iff_ne.mpr c7
     have c7b1 : ((l0_2.length : Int) != 8) = true := bne_iff_ne.mpr c7
     have H' := Aside0.mk H
     clear H
     obtain ⟨hcz17_0, hcz17_1, hcz17_2, hcz17_3, hcz17_4⟩ := cz5_ BK304.out
     obtain ⟨hfz17_0, hfz17_1, hfz17_2, hfz17_3, hfz17_4⟩ := fz5_ BK304.out
     go_wp2_with (first | ((with_reducible refine gate_callee (f := 35) rfl ?_); refine ga_ (some 7) Tryd.func35 #[.slice A0_0 l0_0.length c0_0] ?_; (with_reducible refine (impl_areLegs.calls k _ _ l0_0 true _ ?side1 ?side2 A4.out).mono ?_); (case side1 => exact kc_ (Kd.C_below HR0_0.out HB.out)); (case side2 => exact HC0_0.out); rintro e w18 ⟨rfl, hb⟩; refine ⟨_, rfl, ?_⟩; replace BK304 := Aside0.mk (bb_ (bk_ BK304.out) hb); replace HB := Aside0.mk (below_step (lb1_ HB.out GE304.out) hb); (try clear hb); (try clear hb2); (try clear hk); (try clear hi); obtain ⟨hcz19_0, hcz19_1, hcz19_2, hcz19_3, hcz19_4⟩ := cz5_ BK304.out; obtain ⟨hfz19_0, hfz19_1, hfz19_2, hfz19_3, hfz19_4⟩ := fz5_ BK304.out))
     go_meet
     case rel => exact ⟨_, (true), (by first | rfl | (simp; done) | (simp [*]; done)), H', ⟨by first | omega | exact Nat.le_refl _⟩, ⟨bk_ BK304.out⟩, ⟨lb1_ HB.out GE304.out⟩⟩
   ·
    rw [if_neg c6] at H
    have c6b0 : ((l0_1.length : Int) == 8) = false := beq_eq_false_iff_ne.mpr c6
    have c6b1 : ((l0_1.length : Int) != 8) = true := bne_iff_ne.mpr c6
    (first | rw [c6b0] | (simp only [i64_w, i32_w]; rw [c6b0]) | skip)
    have H' := Aside0.mk H
    clear H
    obtain ⟨hcz20_0, hcz20_1, hcz20_2, hcz20_3, hcz20_4⟩ := cz5_ BK304.out
    obtain ⟨hfz20_0, hfz20_1, hfz20_2, hfz20_3, hfz20_4⟩ := fz5_ BK304.out
    go_wp2_with (first | ((with_reducible refine gate_callee (f := 35) rfl ?_); refine ga_ (some 7) Tryd.func35 #[.slice A0_0 l0_0.length c0_0] ?_; (with_reducible refine (impl_areLegs.calls k _ _ l0_0 true _ ?side1 ?side2 A4.out).mono ?_); (case side1 => exact kc_ (Kd.C_below HR0_0.out HB.out)); (case side2 => exact HC0_0.out); rintro e w21 ⟨rfl, hb⟩; refine ⟨_, rfl, ?_⟩; replace BK304 := Aside0.mk (bb_ (bk_ BK304.out) hb); replace HB := Aside0.mk (below_step (lb1_ HB.out GE304.out) hb); (try clear hb); (try clear hb2); (try clear hk); (try clear hi); obtain ⟨hcz22_0, hcz22_1, hcz22_2, hcz22_3, hcz22_4⟩ := cz5_ BK304.out; obtain ⟨hfz22_0, hfz22_1, hfz22_2, hfz22_3, hfz22_4⟩ := fz5_ BK304.out))
    go_meet
    case rel => exact ⟨_, (true), (by first | rfl | (simp; done) | (simp [*]; done)), H', ⟨by first | omega | exact Nat.le_refl _⟩, ⟨bk_ BK304.out⟩, ⟨lb1_ HB.out GE304.out⟩⟩
  ·
   replace c5 := Bool.eq_false_iff.mpr c5
   subst c5
   have H1 : (impl_IsExploration.j0 k true l0_0 l0_1 l0_2 a0_3 a0_4) = some r := by rw [if_neg (show ¬ (false = true) by decide)] at H; exact H
   clear H
   have H := H1
   clear H1
   have H' := Aside0.mk H
   clear H
   obtain ⟨hcz23_0, hcz23_1, hcz23_2, hcz23_3, hcz23_4⟩ := cz5_ BK304.out
   obtain ⟨hfz23_0, hfz23_1, hfz23_2, hfz23_3, hfz23_4⟩ := fz5_ BK304.out
   go_wp2_with (first | ((with_reducible refine gate_callee (f := 35) rfl ?_); refine ga_ (some 7) Tryd.func35 #[.slice A0_0 l0_0.length c0_0] ?_; (with_reducible refine (impl_areLegs.calls k _ _ l0_0 false _ ?side1 ?side2 A4.out).mono ?_); (case side1 => exact kc_ (Kd.C_below HR0_0.out HB.out)); (case side2 => exact HC0_0.out); rintro e w24 ⟨rfl, hb⟩; refine ⟨_, rfl, ?_⟩; replace BK304 := Aside0.mk (bb_ (bk_ BK304.out) hb); replace HB := Aside0.mk (below_step (lb1_ HB.out GE304.out) hb); (try clear hb); (try clear hb2); (try clear hk); (try clear hi)))
   go_meet
   case rel => exact ⟨_, (true), (by first | rfl | (simp; done) | (simp [*]; done)), H', ⟨by first | omega | exact Nat.le_refl _⟩, ⟨bk_ BK304.out⟩, ⟨lb1_ HB.out GE304.out⟩⟩
 case rest =>
  clear HC2
  try clear c1
  try clear p2
  try clear c3
  try clear c5
  try clear c6
  try clear c6b0
  try clear c6b1
  try clear c7
  try clear c7b0
  try clear c7b1
  try clear c9
  try clear c17
  try clear hcz11_0 hcz11_1 hcz11_2 hcz11_3 hcz11_4
  try clear hcz13_0 hcz13_1 hcz13_2 hcz13_3 hcz13_4
  try clear hcz14_0 hcz14_1 hcz14_2 hcz14_3 hcz14_4
  try clear hcz16_0 hcz16_1 hcz16_2 hcz16_3 hcz16_4
  try clear hcz17_0 hcz17_1 hcz17_2 hcz17_3 hcz17_4
  try clear hcz19_0 hcz19_1 hcz19_2 hcz19_3 hcz19_4
  try clear hcz20_0 hcz20_1 hcz20_2 hcz20_3 hcz20_4
  try clear hcz22_0 hcz22_1 hcz22_2 hcz22_3 hcz22_4
  try clear hcz23_0 hcz23_1 hcz23_2 hcz23_3 hcz23_4
  try clear hfz11_0 hfz11_1 hfz11_2 hfz11_3 hfz11_4
  try clear hfz13_0 hfz13_1 hfz13_2 hfz13_3 hfz13_4
  try clear hfz14_0 hfz14_1 hfz14_2 hfz14_3 hfz14_4
  try clear hfz16_0 hfz16_1 hfz16_2 hfz16_3 hfz16_4
  try clear hfz17_0 hfz17_1 hfz17_2 hfz17_3 hfz17_4
  try clear hfz19_0 hfz19_1 hfz19_2 hfz19_3 hfz19_4
  try clear hfz20_0 hfz20_1 hfz20_2 hfz20_3 hfz20_4
  try clear hfz22_0 hfz22_1 hfz22_2 hfz22_3 hfz22_4
  try clear hfz23_0 hfz23_1 hfz23_2 hfz23_3 hfz23_4
  obtain ⟨kq, x32_1, rfl, HA, HJ1, BK304, HB⟩ := hcut
  cases kq with
  | zero => exact absurd HA.out (by simp [impl_IsExploration.j0])
  | succ kj1 =>
   have H := HA.out
   clear HA
   simp only [impl_IsExploration.j0] at H
   by_cases c25 : x32_1 = true
   ·
    subst c25
    have H1 : (some false) = some r := by rw [if_pos rfl] at H; exact H
    clear H
    have H := H1
    clear H1
    obtain rfl := Option.some.inj H
    go_wp2
    go_ret
    exact ⟨rr_, lb1_ HB.out GE304.out⟩
   ·
    replace c25 := Bool.eq_false_iff.mpr c25
    subst c25
    have H1 : (if 0 < (l0_1.length : Int) then (if rdOf false l0_1 0 = true then (if 0 ≤ a0_3 then (if a0_3 < (l0_1.length : Int) then (if rdOf false l0_1 a0_3 = true then ((impl_Exploration_wayOut.f kj1 l0_0 l0_1 l0_2 a0_3 a0_4).bind fun bt310 => (if bt310.2 = true then (some (decide (bt310.1 ≤ a0_4))) else (some false))) else (some false)) else (none)) else (none)) else (some false)) else (none)) = some r := by rw [if_neg (show ¬ (false = true) by decide)] at H; exact H
    clear H
    have H := H1
    clear H1
    by_cases c26 : 0 < (l0_1.length : Int)
    ·
     rw [if_pos c26] at H
     have c26b0 : decide (0 < (l0_1.length : Int)) = true := decide_eq_true c26
     have c26b1 : decide (0 < l0_1.length) = true := decide_eq_true (by omega)
     clear c26
     obtain ⟨bq27, hbq27⟩ : ∃ b_ : Bool, b_ = (rdOf false l0_1 0) := ⟨_, rfl⟩
     replace H : (if bq27 = true then (if 0 ≤ a0_3 then (if a0_3 < (l0_1.length : Int) then (if rdOf false l0_1 a0_3 = true then ((impl_Exploration_wayOut.f kj1 l0_0 l0_1 l0_2 a0_3 a0_4).bind fun bt310 => (if bt310.2 = true then (some (decide (bt310.1 ≤ a0_4))) else (some false))) else (some false)) else (none)) else (none)) else (some false)) = some r := by rw [← hbq27] at H; exact H
     have Nbq27 := Aside0.mk hbq27
     clear hbq27
     by_cases c28 : bq27 = true
     ·
      subst c28
      have H1 : (if 0 ≤ a0_3 then (if a0_3 < (l0_1.length : Int) then (if rdOf false l0_1 a0_3 = true then ((impl_Exploration_wayOut.f kj1 l0_0 l0_1 l0_2 a0_3 a0_4).bind fun bt310 => (if bt310.2 = true then (some (decide (bt310.1 ≤ a0_4))) else (some false))) else (some false)) else (none)) else (none)) = some r := by rw [if_pos rfl] at H; exact H
      clear H
      have H := H1
      clear H1
      by_cases c29 : 0 ≤ a0_3
      ·
       rw [if_pos c29] at H
       have c29b0 : decide (0 ≤ a0_3) = true := decide_eq_true c29
       clear c29
       by_cases c30 : a0_3 < (l0_1.length : Int)
       ·
        rw [if_pos c30] at H
        have c30b0 : decide (a0_3 < (l0_1.length : Int)) = true := decide_eq_true c30; clear c30
        obtain ⟨bq31, hbq31⟩ : ∃ b_ : Bool, b_ = (rdOf false l0_1 a0_3) := ⟨_, rfl⟩
        replace H : (if bq31 = true then ((impl_Exploration_wayOut.f kj1 l0_0 l0_1 l0_2 a0_3 a0_4).bind fun bt310 => (if bt310.2 = true then (some (decide (bt310.1 ≤ a0_4))) else (some false))) else (some false)) = some r := by rw [← hbq31] at H; exact H
        have Nbq31 := Aside0.mk hbq31; clear hbq31
        by_cases c32 : bq31 = true
        ·
         subst c32
         have H1 : ((impl_Exploration_wayOut.f kj1 l0_0 l0_1 l0_2 a0_3 a0_4).bind fun bt310 => (if bt310.2 = true then (some (decide (bt310.1 ≤ a0_4))) else (some false))) = some r := by rw [if_pos rfl] at H; exact H
         clear H; have H := H1; clear H1; replace H := Option.bind_eq_some_iff.mp H; obtain ⟨⟨t310, t311⟩, A330, H⟩ := H; replace H : (if t311 = true then (some (decide (t310 ≤ a0_4))) else (some false)) = some r := H; have A33 := Aside0.mk A330; clear A330
         by_cases c34 : t311 = true
         ·
          subst c34
          have H1 : (some (decide (t310 ≤ a0_4))) = some r := by rw [if_pos rfl] at H; exact H
          clear H; have H := H1; clear H1; obtain rfl := Option.some.inj H; obtain ⟨hcz35_0, hcz35_1, hcz35_2, hcz35_3, hcz35_4⟩ := cz5_ BK304.out; obtain ⟨hfz35_0, hfz35_1, hfz35_2, hfz35_3, hfz35_4⟩ := fz5_ BK304.out
          have p308 : 0 ≤ (0 : Int) := (by omega)
          have q308 : 0 < (l0_1.length : Int) := dt_; obtain ⟨ad308, e308, hx308_0⟩ := Kd.at_bool HR0_1.out 0 p308 q308; (try rw [← Nbq27.out] at hx308_0); (try rw [← Nbq31.out] at hx308_0)
          cases e308
          have qi308 : (0 < l0_1.length) = True := eq_true (by omega); (try rw [show ((0 : Int)).toNat = 0 from rfl] at hx308_0); (try rw [Addr.add_zero'] at hx308_0); replace hx308_0 := bc_ HB.out hx308_0; replace p308 := eq_true p308; replace q308 := eq_true q308; have p309 : 0 ≤ (a0_3 : Int) := dt_; have q309 : a0_3 < (l0_1.length : Int) := dt_; obtain ⟨ad309, e309, hx309_0⟩ := Kd.at_bool HR0_1.out a0_3 p309 q309; (try rw [← Nbq27.out] at hx309_0); (try rw [← Nbq31.out] at hx309_0)
          obtain rfl : ad308 = ad309 := (by injection e309)
          replace hx309_0 := bc_ HB.out hx309_0; replace p309 := eq_true p309; replace q309 := eq_true q309
          go_wp2_with (first | ((with_reducible refine gate_callee (f := 38) rfl ?_); refine ga_ (some 49) Tryd.func38 #[.agg #[.slice A0_0 l0_0.length c0_0, .slice (some ad308) l0_1.length c0_1, .slice A0_2 l0_2.length c0_2, .int .i64 a0_3, .int .i64 a0_4]] ?_; (with_reducible refine (impl_Exploration_wayOut.calls kj1 _ _ l0_0 _ _ l0_1 _ _ l0_2 a0_3 a0_4 t310 true _ ?side1 ?side2 ?side3 ?side4 ?side5 ?side6 A33.out).mono ?_); (case side1 => exact kc_ (Kd.C_below HR0_0.out HB.out)); (case side2 => exact HC0_0.out); (case side3 => exact kc_ (Kd.C_below HR0_1.out HB.out)); (case side4 => exact HC0_1.out); (case side5 => exact kc_ (Kd.C_below HR0_2.out HB.out)); (case side6 => exact HC0_2.out); rintro e w36 ⟨rfl, hb⟩; refine ⟨_, rfl, ?_⟩; replace BK304 := Aside0.mk (bb_ (bk_ BK304.out) hb); replace HB := Aside0.mk (below_step (lb1_ HB.out GE304.out) hb); (try clear hb); (try clear hb2); (try clear hk); (try clear hi); obtain ⟨hcz37_0, hcz37_1, hcz37_2, hcz37_3, hcz37_4⟩ := cz5_ BK304.out; obtain ⟨hfz37_0, hfz37_1, hfz37_2, hfz37_3, hfz37_4⟩ := fz5_ BK304.out))
          go_ret
          exact ⟨rr_, lb1_ HB.out GE304.out⟩
         ·
          replace c34 := Bool.eq_false_iff.mpr c34; subst c34
          have H1 : (some false) = some r := by rw [if_neg (show ¬ (false = true) by decide)] at H; exact H
          clear H; have H := H1; clear H1; obtain rfl := Option.some.inj H; obtain ⟨hcz38_0, hcz38_1, hcz38_2, hcz38_3, hcz38_4⟩ := cz5_ BK304.out; obtain ⟨hfz38_0, hfz38_1, hfz38_2, hfz38_3, hfz38_4⟩ := fz5_ BK304.out
          have p308 : 0 ≤ (0 : Int) := (by omega)
          have q308 : 0 < (l0_1.length : Int) := dt_; obtain ⟨ad308, e308, hx308_0⟩ := Kd.at_bool HR0_1.out 0 p308 q308; (try rw [← Nbq27.out] at hx308_0); (try rw [← Nbq31.out] at hx308_0)
          cases e308
          have qi308 : (0 < l0_1.length) = True := eq_true (by omega); (try rw [show ((0 : Int)).toNat = 0 from rfl] at hx308_0); (try rw [Addr.add_zero'] at hx308_0); replace hx308_0 := bc_ HB.out hx308_0; replace p308 := eq_true p308; replace q308 := eq_true q308; have p309 : 0 ≤ (a0_3 : Int) := dt_; have q309 : a0_3 < (l0_1.length : Int) := dt_; obtain ⟨ad309, e309, hx309_0⟩ := Kd.at_bool HR0_1.out a0_3 p309 q309; (try rw [← Nbq27.out] at hx309_0); (try rw [← Nbq31.out] at hx309_0)
          obtain rfl : ad308 = ad309 := (by injection e309)
          replace hx309_0 := bc_ HB.out hx309_0; replace p309 := eq_true p309; replace q309 := eq_true q309
          go_wp2_with (first | ((with_reducible refine gate_callee (f := 38) rfl ?_); refine ga_ (some 49) Tryd.func38 #[.agg #[.slice A0_0 l0_0.length c0_0, .slice (some ad308) l0_1.length c0_1, .slice A0_2 l0_2.length c0_2, .int .i64 a0_3, .int .i64 a0_4]] ?_; (with_reducible refine (impl_Exploration_wayOut.calls kj1 _ _ l0_0 _ _ l0_1 _ _ l0_2 a0_3 a0_4 t310 false _ ?side1 ?side2 ?side3 ?side4 ?side5 ?side6 A33.out).mono ?_); (case side1 => exact kc_ (Kd.C_below HR0_0.out HB.out)); (case side2 => exact HC0_0.out); (case side3 => exact kc_ (Kd.C_below HR0_1.out HB.out)); (case side4 => exact HC0_1.out); (case side5 => exact kc_ (Kd.C_below HR0_2.out HB.out)); (case side6 => exact HC0_2.out); rintro e w39 ⟨rfl, hb⟩; refine ⟨_, rfl, ?_⟩; replace BK304 := Aside0.mk (bb_ (bk_ BK304.out) hb); replace HB := Aside0.mk (below_step (lb1_ HB.out GE304.out) hb); (try clear hb); (try clear hb2); (try clear hk); (try clear hi)))
          go_ret
          exact ⟨rr_, lb1_ HB.out GE304.out⟩
        ·
         replace c32 := Bool.eq_false_iff.mpr c32; subst c32
         have H1 : (some false) = some r := by rw [if_neg (show ¬ (false = true) by decide)] at H; exact H
         clear H; have H := H1; clear H1; obtain rfl := Option.some.inj H; obtain ⟨hcz40_0, hcz40_1, hcz40_2, hcz40_3, hcz40_4⟩ := cz5_ BK304.out; obtain ⟨hfz40_0, hfz40_1, hfz40_2, hfz40_3, hfz40_4⟩ := fz5_ BK304.out
         have p308 : 0 ≤ (0 : Int) := (by omega)
         have q308 : 0 < (l0_1.length : Int) := dt_; obtain ⟨ad308, e308, hx308_0⟩ := Kd.at_bool HR0_1.out 0 p308 q308; (try rw [← Nbq27.out] at hx308_0); (try rw [← Nbq31.out] at hx308_0)
         cases e308
         have qi308 : (0 < l0_1.length) = True := eq_true (by omega); (try rw [show ((0 : Int)).toNat = 0 from rfl] at hx308_0); (try rw [Addr.add_zero'] at hx308_0); replace hx308_0 := bc_ HB.out hx308_0; replace p308 := eq_true p308; replace q308 := eq_true q308; have p309 : 0 ≤ (a0_3 : Int) := dt_; have q309 : a0_3 < (l0_1.length : Int) := dt_; obtain ⟨ad309, e309, hx309_0⟩ := Kd.at_bool HR0_1.out a0_3 p309 q309; (try rw [← Nbq27.out] at hx309_0); (try rw [← Nbq31.out] at hx309_0)
         obtain rfl : ad308 = ad309 := (by injection e309)
         replace hx309_0 := bc_ HB.out hx309_0; replace p309 := eq_true p309; replace q309 := eq_true q309
         go_wp2
         go_ret
         exact ⟨rr_, lb1_ HB.out GE304.out⟩
       ·
        rw [if_neg c30] at H
        exact absurd H (by simp)
      ·
       rw [if_neg c29] at H
       exact absurd H (by simp)
     ·
      replace c28 := Bool.eq_false_iff.mpr c28
      subst c28
      have H1 : (some false) = some r := by rw [if_neg (show ¬ (false = true) by decide)] at H; exact H
      clear H
      have H := H1
      clear H1
      obtain rfl := Option.some.inj H
      obtain ⟨hcz41_0, hcz41_1, hcz41_2, hcz41_3, hcz41_4⟩ := cz5_ BK304.out
      obtain ⟨hfz41_0, hfz41_1, hfz41_2, hfz41_3, hfz41_4⟩ := fz5_ BK304.out
      have p308 : 0 ≤ (0 : Int) := (by omega)
      have q308 : 0 < (l0_1.length : Int) := dt_
      obtain ⟨ad308, e308, hx308_0⟩ := Kd.at_bool HR0_1.out 0 p308 q308
      (try rw [← Nbq27.out] at hx308_0)
      cases e308
      have qi308 : (0 < l0_1.length) = True := eq_true (by omega)
      (try rw [show ((0 : Int)).toNat = 0 from rfl] at hx308_0)
      (try rw [Addr.add_zero'] at hx308_0)
      replace hx308_0 := bc_ HB.out hx308_0
      replace p308 := eq_true p308
      replace q308 := eq_true q308
      go_wp2
      go_ret
      exact ⟨rr_, lb1_ HB.out GE304.out⟩
    ·
     rw [if_neg c26] at H
     exact absurd H (by simp)
def stringslite_Index.f (a0 : ByteArray) (a1 : ByteArray) : Option Int := if a1.size = 1 then some (Lib.indexByte a0.data.toList (a1.data.toList.headD 0)) else none
theorem stringslite_Index.calls (a0 : ByteArray) (a1 : ByteArray) (r : Int) (w : World) (h : stringslite_Index.f a0 a1 = some r) :
  Calls Tryd.prog 91 #[.string a0, .string a1] w fun e w' => e = .returned (.int .i64 r) ∧ Drawn0 w w' := by
 unfold stringslite_Index.f at h
 by_cases h0 : a1.size = 1
 ·
  rw [if_pos h0] at h
  obtain rfl := Option.some.inj h
  obtain ⟨⟨l⟩⟩ := a1
  match l, h0 with
  | [c], _ =>
   refine (Tryd.stringslite_Index_one a0 c w).mono ?_
   rintro e w' ⟨rfl, rfl⟩
   exact ⟨rfl, Drawn0.refl _⟩
 ·
  rw [if_neg h0] at h
  cases h
end Go.Proofs.YtckigdechhmegaaDoor.Pr

namespace Go.Proofs.YtckigdechhmegaaDoor.Pr
open Go.RowKit Go.Proofs.YtckigdechhmegaaDoorW.PrintWords Go.Proofs.YtckigdechhmegaaDoorW.PrintLast Go.Proofs.YtckigdechhmegaaDoorW.PrintMore
attribute [local go_sem] max2_int min2_int max_two min_two max_three min_three max_four min_four sc_in sx_in   -- for this text's walks alone
set_option linter.unusedVariables false
set_option linter.unusedSimpArgs false
def stringslite_Cut.f (a0 : ByteArray) (a1 : ByteArray) : Option (ByteArray × ByteArray × Bool) := (stringslite_Index.f a0 a1).bind fun t314 => (if t314 ≥ 0 then (if 0 ≤ t314 then (if t314 ≤ (a0.size : Int) then (if 0 ≤ (wrap64 (t314 + (a1.size : Int))) then (if (wrap64 (t314 + (a1.size : Int))) ≤ (a0.size : Int) then (some (sx a0 (0) ((t314 : Int).toNat), sx a0 (((wrap64 (t314 + (a1.size : Int))) : Int).toNat) (a0.size), true)) else (none)) else (none)) else (none)) else (none)) else (some (a0, (⟨#[]⟩ : ByteArray), false)))
theorem stringslite_Cut.calls (a0 : ByteArray) (a1 : ByteArray) (r1 : ByteArray) (r2 : ByteArray) (r3 : Bool) (w : World) (h : stringslite_Cut.f a0 a1 = some (r1, r2, r3)) :
  Calls Tryd.prog 81 #[.string a0, .string a1] w fun e w' => e = .returned (.tuple #[.string r1, .string r2, .bool r3]) ∧ Drawn0 w w' := by
 have H : ((stringslite_Index.f a0 a1).bind fun t314 => (if t314 ≥ 0 then (if 0 ≤ t314 then (if t314 ≤ (a0.size : Int) then (if 0 ≤ (wrap64 (t314 + (a1.size : Int))) then (if (wrap64 (t314 + (a1.size : Int))) ≤ (a0.size : Int) then (some (sx a0 (0) ((t314 : Int).toNat), sx a0 (((wrap64 (t314 + (a1.size : Int))) : Int).toNat) (a0.size), true)) else (none)) else (none)) else (none)) else (none)) else (some (a0, (⟨#[]⟩ : ByteArray), false)))) = some (r1, r2, r3) := h
 clear h
 replace H := Option.bind_eq_some_iff.mp H
 obtain ⟨t314, A30, H⟩ := H
 replace H : (if t314 ≥ 0 then (if 0 ≤ t314 then (if t314 ≤ (a0.size : Int) then (if 0 ≤ (wrap64 (t314 + (a1.size : Int))) then (if (wrap64 (t314 + (a1.size : Int))) ≤ (a0.size : Int) then (some (sx a0 (0) ((t314 : Int).toNat), sx a0 (((wrap64 (t314 + (a1.size : Int))) : Int).toNat) (a0.size), true)) else (none)) else (none)) else (none)) else (none)) else (some (a0, (⟨#[]⟩ : ByteArray), false))) = some (r1, r2, r3) := H
 have A3 := Aside0.mk A30
 clear A30
 by_cases c4 : t314 ≥ 0
 ·
  rw [if_pos c4] at H
  have c4b0 : decide (0 ≤ t314) = true := decide_eq_true c4
  clear c4
  by_cases c5 : 0 ≤ t314
  ·
   rw [if_pos c5] at H
   have c5b0 := eq_true c5
   have c5b1 : decide (0 ≤ t314) = true := decide_eq_true c5
   clear c5
   by_cases c6 : t314 ≤ (a0.size : Int)
   ·
    rw [if_pos c6] at H
    have c6b0 := eq_true c6
    have c6b1 : decide (t314 ≤ (a0.size : Int)) = true := decide_eq_true c6
    clear c6
    obtain ⟨ji7, hji7⟩ : ∃ j_ : Int, (wrap64 (t314 + (a1.size : Int))) = j_ := ⟨_, rfl⟩
    replace H : (if 0 ≤ (ji7) then (if (ji7) ≤ (a0.size : Int) then (some (sx a0 (0) ((t314 : Int).toNat), sx a0 (((ji7) : Int).toNat) (a0.size), true)) else (none)) else (none)) = some (r1, r2, r3) := by first | (rw [hji7] at H; exact H) | (simp only [hji7] at H ⊢; exact H)
    (try rw [hji7] at A3)
    have hji7w : (IntKind.i64.wrap (t314 + (a1.size : Int))) = ji7 := (i64_w _).trans hji7
    by_cases c8 : 0 ≤ (ji7)
    ·
     rw [if_pos c8] at H
     have c8b0 := eq_true c8
     have c8b1 : decide (0 ≤ (ji7)) = true := decide_eq_true c8
     clear c8
     by_cases c9 : (ji7) ≤ (a0.size : Int)
     ·
      rw [if_pos c9] at H
      have c9b0 := eq_true c9
      have c9b1 : decide ((ji7) ≤ (a0.size : Int)) = true := decide_eq_true c9
      clear c9
      simp only [Option.some.injEq, Prod.mk.injEq] at H
      obtain ⟨rfl, rfl, rfl⟩ := H
      go_enter Tryd.func81, Tryd.ntmps81
      go_wp2_with (first | (go_at_call 91; (with_reducible refine (stringslite_Index.calls a0 a1 t314 _ A3.out).mono ?_); rintro e w' ⟨rfl, ⟨nd, rfl⟩⟩; (try first | exact ⟨rfl, _, World.drewN_drewN _ _ _⟩ | exact ⟨rfl, _, Eq.trans (World.drewN_drewN _ _ _) (congrArg (World.drewN _) (Nat.add_assoc _ _ _))⟩)))
      repeat (go_quiet (first | (go_at_call 91; (with_reducible refine (stringslite_Index.calls a0 a1 t314 _ A3.out).mono ?_); rintro e w' ⟨rfl, ⟨nd, rfl⟩⟩; (try first | exact ⟨rfl, _, World.drewN_drewN _ _ _⟩ | exact ⟨rfl, _, Eq.trans (World.drewN_drewN _ _ _) (congrArg (World.drewN _) (Nat.add_assoc _ _ _))⟩))); try go_wp2_with (first | (go_at_call 91; (with_reducible refine (stringslite_Index.calls a0 a1 t314 _ A3.out).mono ?_); rintro e w' ⟨rfl, ⟨nd, rfl⟩⟩; (try first | exact ⟨rfl, _, World.drewN_drewN _ _ _⟩ | exact ⟨rfl, _, Eq.trans (World.drewN_drewN _ _ _) (congrArg (World.drewN _) (Nat.add_assoc _ _ _))⟩))))
      go_ret3
      exact ⟨by first | rfl | (simp; done) | (simp only [← hji7] <;> (first | rfl | simp)) | (simp [*]; done), by repeat (first | exact Drawn0.refl _ | apply Drawn0.step)⟩
     ·
      rw [if_neg c9] at H
      exact absurd H (by simp)
    ·
     rw [if_neg c8] at H
     exact absurd H (by simp)
   ·
    rw [if_neg c6] at H
    exact absurd H (by simp)
  ·
   rw [if_neg c5] at H
   exact absurd H (by simp)
 ·
  rw [if_neg c4] at H
  have c4b0 : decide (0 ≤ t314) = false := decide_eq_false c4
  clear c4
  simp only [Option.some.injEq, Prod.mk.injEq] at H
  obtain ⟨rfl, rfl, rfl⟩ := H
  go_enter Tryd.func81, Tryd.ntmps81
  go_wp2_with (first | (go_at_call 91; (with_reducible refine (stringslite_Index.calls a0 a1 t314 _ A3.out).mono ?_); rintro e w' ⟨rfl, ⟨nd, rfl⟩⟩; (try first | exact ⟨rfl, _, World.drewN_drewN _ _ _⟩ | exact ⟨rfl, _, Eq.trans (World.drewN_drewN _ _ _) (congrArg (World.drewN _) (Nat.add_assoc _ _ _))⟩)))
  repeat (go_quiet (first | (go_at_call 91; (with_reducible refine (stringslite_Index.calls a0 a1 t314 _ A3.out).mono ?_); rintro e w' ⟨rfl, ⟨nd, rfl⟩⟩; (try first | exact ⟨rfl, _, World.drewN_drewN _ _ _⟩ | exact ⟨rfl, _, Eq.trans (World.drewN_drewN _ _ _) (congrArg (World.drewN _) (Nat.add_assoc _ _ _))⟩))); try go_wp2_with (first | (go_at_call 91; (with_reducible refine (stringslite_Index.calls a0 a1 t314 _ A3.out).mono ?_); rintro e w' ⟨rfl, ⟨nd, rfl⟩⟩; (try first | exact ⟨rfl, _, World.drewN_drewN _ _ _⟩ | exact ⟨rfl, _, Eq.trans (World.drewN_drewN _ _ _) (congrArg (World.drewN _) (Nat.add_assoc _ _ _))⟩))))
  go_ret3
  exact ⟨by first | rfl | (simp; done) | (simp [*]; done), by repeat (first | exact Drawn0.refl _ | apply Drawn0.step)⟩
end Go.Proofs.YtckigdechhmegaaDoor.Pr

namespace Go.Proofs.YtckigdechhmegaaDoor.Pr
open Go.RowKit Go.Proofs.YtckigdechhmegaaDoorW.PrintWords Go.Proofs.YtckigdechhmegaaDoorW.PrintLast Go.Proofs.YtckigdechhmegaaDoorW.PrintMore
attribute [local go_sem] max2_int min2_int max_two min_two max_three min_three max_four min_four   -- for this text's walks alone
set_option linter.unusedVariables false
set_option linter.unusedSimpArgs false
def strings_Cut.f (a0 : ByteArray) (a1 : ByteArray) : Option (ByteArray × ByteArray × Bool) := (stringslite_Cut.f a0 a1).bind fun bt315 => (some (bt315.1, bt315.2.1, bt315.2.2))
theorem strings_Cut.calls (a0 : ByteArray) (a1 : ByteArray) (r1 : ByteArray) (r2 : ByteArray) (r3 : Bool) (w : World) (h : strings_Cut.f a0 a1 = some (r1, r2, r3)) :
  Calls Tryd.prog 70 #[.string a0, .string a1] w fun e w' => e = .returned (.tuple #[.string r1, .string r2, .bool r3]) ∧ Drawn0 w w' := by
 have H : ((stringslite_Cut.f a0 a1).bind fun bt315 => (some (bt315.1, bt315.2.1, bt315.2.2))) = some (r1, r2, r3) := h
 clear h
 replace H := Option.bind_eq_some_iff.mp H
 obtain ⟨⟨t315, t316, t317⟩, A30, H⟩ := H
 replace H : (some (t315, t316, t317)) = some (r1, r2, r3) := H
 have A3 := Aside0.mk A30
 clear A30
 simp only [Option.some.injEq, Prod.mk.injEq] at H
 obtain ⟨rfl, rfl, rfl⟩ := H
 go_enter Tryd.func70, Tryd.ntmps70
 go_wp2_with (first | ((with_reducible refine gate_callee (f := 81) rfl ?_); refine ga_ (some 9) Tryd.func81 #[.string a0, .string a1] ?_; (with_reducible refine (stringslite_Cut.calls a0 a1 t315 t316 t317 _ A3.out).mono ?_); rintro e w' ⟨rfl, ⟨nd, rfl⟩⟩; refine ⟨_, rfl, ?_⟩))
 go_ret3
 exact ⟨by first | rfl | (simp; done) | (simp [*]; done), by repeat (first | exact Drawn0.refl _ | apply Drawn0.step)⟩
def impl_isPlain.l0 : Nat → ByteArray → Int → Int → Option (Bool)
 | 0, _, _, _ => none
 | k + 1, x0, x5, x6 => if x6 < x5 then (if 0 ≤ x6 then (if x6 < (x0.size : Int) then ((impl_within.f (wrap64 (bt x0 x6)) 32 126).bind fun t318 => (if t318 = true then (if (bt x0 x6) = 35 then (some false) else (impl_isPlain.l0 k x0 x5 (wrap64 (x6 + 1)))) else (some false))) else (none)) else (none)) else (some true)
def impl_isPlain.f (k : Nat) (a0 : ByteArray) : Option (Bool) := impl_isPlain.l0 k a0 (a0.size : Int) 0
theorem impl_isPlain.calls (k : Nat) (a0 : ByteArray) (r : Bool) (w : World) (h : impl_isPlain.f k a0 = some r) :
  Calls Tryd.prog 83 #[.string a0] w fun e w' => e = .returned (.bool r) ∧ Drawn0 w w' := by
 have H : (impl_isPlain.l0 k a0 (a0.size : Int) 0) = some r := h
 clear h
 have H' := Aside0.mk H
 clear H
 go_enter Tryd.func83, Tryd.ntmps83
 go_wp2
 go_loopg [6] k (fun kq v6 w' => ∃ (x6_1 : Int), v6 = .int .i64 x6_1 ∧ Aside0 (impl_isPlain.l0 kq a0 (a0.size : Int) x6_1 = some r) ∧ Aside0 (kq ≤ k) ∧ Drawn0 w w')
 case atStart => exact ⟨(0), (by first | rfl | (simp; done) | (simp [*]; done)), H', ⟨Nat.le_refl _⟩, by repeat (first | exact Drawn0.refl _ | apply Drawn0.step)⟩
 case round =>
  clear H'
  obtain ⟨x6_1, rfl, HA, HK1, ⟨m1, rfl⟩⟩ := hrel
  cases gk with
  | zero => exact absurd HA.out (by simp [impl_isPlain.l0])
  | succ k1 =>
   have H := HA.out
   clear HA
   simp only [impl_isPlain.l0] at H
   by_cases c2 : x6_1 < (a0.size : Int)
   ·
    rw [if_pos c2] at H
    have c2b0 : decide (x6_1 < (a0.size : Int)) = true := decide_eq_true c2
    clear c2
    by_cases c3 : 0 ≤ x6_1
    ·
     rw [if_pos c3] at H
     have c3b0 : decide (0 ≤ x6_1) = true := decide_eq_true c3
     clear c3
     by_cases c4 : x6_1 < (a0.size : Int)
     ·
      rw [if_pos c4] at H
      have c4b0 : decide (x6_1 < (a0.size : Int)) = true := decide_eq_true c4
      clear c4
      replace H := Option.bind_eq_some_iff.mp H
      obtain ⟨t318, A60, H⟩ := H
      replace H : (if t318 = true then (if (bt a0 x6_1) = 35 then (some false) else (impl_isPlain.l0 k1 a0 (a0.size : Int) (wrap64 (x6_1 + 1)))) else (some false)) = some r := H
      have A6 := Aside0.mk A60
      clear A60
      by_cases c7 : t318 = true
      ·
       subst c7
       have H1 : (if (bt a0 x6_1) = 35 then (some false) else (impl_isPlain.l0 k1 a0 (a0.size : Int) (wrap64 (x6_1 + 1)))) = some r := by rw [if_pos rfl] at H; exact H
       clear H
       have H := H1
       clear H1
       by_cases c9 : (bt a0 x6_1) = 35
       ·
        rw [if_pos c9] at H
        have c9b0 : ((bt a0 x6_1) == 35) = true := beq_iff_eq.mpr c9; have c9b1 : ((bt a0 x6_1) != 35) = false := bne_eq_false_iff_eq.mpr c9; clear c9; obtain rfl := Option.some.inj H; have p5 : 0 ≤ (x6_1 : Int) := dt_; have q5 : x6_1 < (a0.size : Int) := dt_; have hx5 := bt_at a0 x6_1; replace p5 := eq_true p5; replace q5 := eq_true q5
        go_wp2_with (first | ((with_reducible refine gate_callee (f := 37) rfl ?_); refine ga_ (some 13) Tryd.func37 #[.int .i64 (wrap64 (bt a0 x6_1)), .int .i64 32, .int .i64 126] ?_; (with_reducible refine (impl_within.calls (wrap64 (bt a0 x6_1)) 32 126 true _ A6.out).mono ?_); rintro e w' ⟨rfl, ⟨nd, rfl⟩⟩; refine ⟨_, rfl, ?_⟩; have p8 : 0 ≤ (x6_1 : Int) := dt_; have q8 : x6_1 < (a0.size : Int) := dt_; have hx8 := bt_at a0 x6_1; replace p8 := eq_true p8; replace q8 := eq_true q8))
        go_ret
        exact ⟨by first | rfl | (simp; done) | (simp [*]; done), by repeat (first | exact Drawn0.refl _ | apply Drawn0.step)⟩
       ·
        rw [if_neg c9] at H
        have c9b0 : ((bt a0 x6_1) == 35) = false := beq_eq_false_iff_ne.mpr c9; have c9b1 : ((bt a0 x6_1) != 35) = true := bne_iff_ne.mpr c9; have H' := Aside0.mk H; clear H; have p5 : 0 ≤ (x6_1 : Int) := dt_; have q5 : x6_1 < (a0.size : Int) := dt_; have hx5 := bt_at a0 x6_1; replace p5 := eq_true p5; replace q5 := eq_true q5
        go_wp2_with (first | ((with_reducible refine gate_callee (f := 37) rfl ?_); refine ga_ (some 13) Tryd.func37 #[.int .i64 (wrap64 (bt a0 x6_1)), .int .i64 32, .int .i64 126] ?_; (with_reducible refine (impl_within.calls (wrap64 (bt a0 x6_1)) 32 126 true _ A6.out).mono ?_); rintro e w' ⟨rfl, ⟨nd, rfl⟩⟩; refine ⟨_, rfl, ?_⟩; have p8 : 0 ≤ (x6_1 : Int) := dt_; have q8 : x6_1 < (a0.size : Int) := dt_; have hx8 := bt_at a0 x6_1; replace p8 := eq_true p8; replace q8 := eq_true q8))
        go_roundg k1
        case measure => have := HK1.out; omega
        case rel => exact ⟨(wrap64 (x6_1 + 1)), (by first | rfl | (simp; done) | (simp [*]; done)), H', ⟨by have := HK1.out; omega⟩, by repeat (first | exact Drawn0.refl _ | apply Drawn0.step)⟩
      ·
       replace c7 := Bool.eq_false_iff.mpr c7
       subst c7
       have H1 : (some false) = some r := by rw [if_neg (show ¬ (false = true) by decide)] at H; exact H
       clear H
       have H := H1
       clear H1
       obtain rfl := Option.some.inj H
       have p5 : 0 ≤ (x6_1 : Int) := dt_
       have q5 : x6_1 < (a0.size : Int) := dt_
       have hx5 := bt_at a0 x6_1
       replace p5 := eq_true p5
       replace q5 := eq_true q5
       go_wp2_with (first | ((with_reducible refine gate_callee (f := 37) rfl ?_); refine ga_ (some 13) Tryd.func37 #[.int .i64 (wrap64 (bt a0 x6_1)), .int .i64 32, .int .i64 126] ?_; (with_reducible refine (impl_within.calls (wrap64 (bt a0 x6_1)) 32 126 false _ A6.out).mono ?_); rintro e w' ⟨rfl, ⟨nd, rfl⟩⟩; refine ⟨_, rfl, ?_⟩))
       go_ret
       exact ⟨by first | rfl | (simp; done) | (simp [*]; done), by repeat (first | exact Drawn0.refl _ | apply Drawn0.step)⟩
     ·
      rw [if_neg c4] at H
      exact absurd H (by simp)
    ·
     rw [if_neg c3] at H
     exact absurd H (by simp)
   ·
    rw [if_neg c2] at H
    have c2b0 : decide (x6_1 < (a0.size : Int)) = false := decide_eq_false c2
    clear c2
    obtain rfl := Option.some.inj H
    go_wp2
    go_ret
    exact ⟨by first | rfl | (simp; done) | (simp [*]; done), by repeat (first | exact Drawn0.refl _ | apply Drawn0.step)⟩
def strings_Index.f (a0 : ByteArray) (a1 : ByteArray) : Option (Int) := (stringslite_Index.f a0 a1).bind fun t319 => (some t319)
theorem strings_Index.calls (a0 : ByteArray) (a1 : ByteArray) (r : Int) (w : World) (h : strings_Index.f a0 a1 = some r) :
  Calls Tryd.prog 99 #[.string a0, .string a1] w fun e w' => e = .returned (.int .i64 r) ∧ Drawn0 w w' := by
 have H : ((stringslite_Index.f a0 a1).bind fun t319 => (some t319)) = some r := h
 clear h
 replace H := Option.bind_eq_some_iff.mp H
 obtain ⟨t319, A30, H⟩ := H
 replace H : (some t319) = some r := H
 have A3 := Aside0.mk A30
 clear A30
 obtain rfl := Option.some.inj H
 go_enter Tryd.func99, Tryd.ntmps99
 go_wp2_with (first | ((with_reducible refine gate_callee (f := 91) rfl ?_); refine ga_ (some 7) Tryd.func91 #[.string a0, .string a1] ?_; (with_reducible refine (stringslite_Index.calls a0 a1 t319 _ A3.out).mono ?_); rintro e w' ⟨rfl, ⟨nd, rfl⟩⟩; refine ⟨_, rfl, ?_⟩))
 go_ret
 exact ⟨by first | rfl | (simp; done) | (simp [*]; done), by repeat (first | exact Drawn0.refl _ | apply Drawn0.step)⟩
def strings_Contains.f (a0 : ByteArray) (a1 : ByteArray) : Option (Bool) := (strings_Index.f a0 a1).bind fun t320 => (some (decide (t320 ≥ 0)))
theorem strings_Contains.calls (a0 : ByteArray) (a1 : ByteArray) (r : Bool) (w : World) (h : strings_Contains.f a0 a1 = some r) :
  Calls Tryd.prog 92 #[.string a0, .string a1] w fun e w' => e = .returned (.bool r) ∧ Drawn0 w w' := by
 have H : ((strings_Index.f a0 a1).bind fun t320 => (some (decide (t320 ≥ 0)))) = some r := h
 clear h
 replace H := Option.bind_eq_some_iff.mp H
 obtain ⟨t320, A30, H⟩ := H
 replace H : (some (decide (t320 ≥ 0))) = some r := H
 have A3 := Aside0.mk A30
 clear A30
 obtain rfl := Option.some.inj H
 go_enter Tryd.func92, Tryd.ntmps92
 go_wp2_with (first | ((with_reducible refine gate_callee (f := 99) rfl ?_); refine ga_ (some 7) Tryd.func99 #[.string a0, .string a1] ?_; (with_reducible refine (strings_Index.calls a0 a1 t320 _ A3.out).mono ?_); rintro e w' ⟨rfl, ⟨nd, rfl⟩⟩; refine ⟨_, rfl, ?_⟩))
 go_ret
 exact ⟨by first | rfl | (simp; done) | (simp [*]; done), by repeat (first | exact Drawn0.refl _ | apply Drawn0.step)⟩
def impl_isCommand.f (k : Nat) (a0 : ByteArray) : Option (Bool) := (impl_within.f (a0.size : Int) 1 160).bind fun t321 => (if t321 = true then ((impl_isPlain.f k a0).bind fun t322 => (if t322 = true then ((strings_Contains.f a0 (⟨#[64]⟩ : ByteArray)).bind fun t323 => (some (!t323))) else (some false))) else (some false))
theorem impl_isCommand.calls (k : Nat) (a0 : ByteArray) (r : Bool) (w : World) (h : impl_isCommand.f k a0 = some r) :
  Calls Tryd.prog 82 #[.string a0] w fun e w' => e = .returned (.bool r) ∧ Drawn0 w w' := by
 have H : ((impl_within.f (a0.size : Int) 1 160).bind fun t321 => (if t321 = true then ((impl_isPlain.f k a0).bind fun t322 => (if t322 = true then ((strings_Contains.f a0 (⟨#[64]⟩ : ByteArray)).bind fun t323 => (some (!t323))) else (some false))) else (some false))) = some r := h
 clear h
 replace H := Option.bind_eq_some_iff.mp H
 obtain ⟨t321, A20, H⟩ := H
 replace H : (if t321 = true then ((impl_isPlain.f k a0).bind fun t322 => (if t322 = true then ((strings_Contains.f a0 (⟨#[64]⟩ : ByteArray)).bind fun t323 => (some (!t323))) else (some false))) else (some false)) = some r := H
 have A2 := Aside0.mk A20
 clear A20
 by_cases c3 : t321 = true
 ·
  subst c3
  have H1 : ((impl_isPlain.f k a0).bind fun t322 => (if t322 = true then ((strings_Contains.f a0 (⟨#[64]⟩ : ByteArray)).bind fun t323 => (some (!t323))) else (some false))) = some r := by rw [if_pos rfl] at H; exact H
  clear H
  have H := H1
  clear H1
  replace H := Option.bind_eq_some_iff.mp H
  obtain ⟨t322, A40, H⟩ := H
  replace H : (if t322 = true then ((strings_Contains.f a0 (⟨#[64]⟩ : ByteArray)).bind fun t323 => (some (!t323))) else (some false)) = some r := H
  have A4 := Aside0.mk A40
  clear A40
  by_cases c5 : t322 = true
  ·
   subst c5
   have H1 : ((strings_Contains.f a0 (⟨#[64]⟩ : ByteArray)).bind fun t323 => (some (!t323))) = some r := by rw [if_pos rfl] at H; exact H
   clear H
   have H := H1
   clear H1
   replace H := Option.bind_eq_some_iff.mp H
   obtain ⟨t323, A60, H⟩ := H
   replace H : (some (!t323)) = some r := H
   have A6 := Aside0.mk A60
   clear A60
   obtain rfl := Option.some.inj H
   go_enter Tryd.func82, Tryd.ntmps82
   go_wp2_with (first | ((with_reducible refine gate_callee (f := 37) rfl ?_); refine ga_ (some 5) Tryd.func37 #[.int .i64 (a0.size : Int), .int .i64 1, .int .i64 160] ?_; (with_reducible refine (impl_within.calls (a0.size : Int) 1 160 true _ A2.out).mono ?_); rintro e w' ⟨rfl, ⟨nd, rfl⟩⟩; refine ⟨_, rfl, ?_⟩) | (go_at_call 83; (with_reducible refine (impl_isPlain.calls k a0 true _ A4.out).mono ?_); rintro e w' ⟨rfl, ⟨nd, rfl⟩⟩) | (go_at_call 92; (with_reducible refine (strings_Contains.calls a0 (⟨#[64]⟩ : ByteArray) t323 _ A6.out).mono ?_); rintro e w' ⟨rfl, ⟨nd, rfl⟩⟩))
   go_ret
   exact ⟨by first | rfl | (simp; done) | (simp [*]; done), by repeat (first | exact Drawn0.refl _ | apply Drawn0.step)⟩
  ·
   replace c5 := Bool.eq_false_iff.mpr c5
   subst c5
   have H1 : (some false) = some r := by rw [if_neg (show ¬ (false = true) by decide)] at H; exact H
   clear H
   have H := H1
   clear H1
   obtain rfl := Option.some.inj H
   go_enter Tryd.func82, Tryd.ntmps82
   go_wp2_with (first | ((with_reducible refine gate_callee (f := 37) rfl ?_); refine ga_ (some 5) Tryd.func37 #[.int .i64 (a0.size : Int), .int .i64 1, .int .i64 160] ?_; (with_reducible refine (impl_within.calls (a0.size : Int) 1 160 true _ A2.out).mono ?_); rintro e w' ⟨rfl, ⟨nd, rfl⟩⟩; refine ⟨_, rfl, ?_⟩) | (go_at_call 83; (with_reducible refine (impl_isPlain.calls k a0 false _ A4.out).mono ?_); rintro e w' ⟨rfl, ⟨nd, rfl⟩⟩))
   go_ret
   exact ⟨by first | rfl | (simp; done) | (simp [*]; done), by repeat (first | exact Drawn0.refl _ | apply Drawn0.step)⟩
 ·
  replace c3 := Bool.eq_false_iff.mpr c3
  subst c3
  have H1 : (some false) = some r := by rw [if_neg (show ¬ (false = true) by decide)] at H; exact H
  clear H
  have H := H1
  clear H1
  obtain rfl := Option.some.inj H
  go_enter Tryd.func82, Tryd.ntmps82
  go_wp2_with (first | ((with_reducible refine gate_callee (f := 37) rfl ?_); refine ga_ (some 5) Tryd.func37 #[.int .i64 (a0.size : Int), .int .i64 1, .int .i64 160] ?_; (with_reducible refine (impl_within.calls (a0.size : Int) 1 160 false _ A2.out).mono ?_); rintro e w' ⟨rfl, ⟨nd, rfl⟩⟩; refine ⟨_, rfl, ?_⟩))
  go_ret
  exact ⟨by first | rfl | (simp; done) | (simp [*]; done), by repeat (first | exact Drawn0.refl _ | apply Drawn0.step)⟩
def impl_IsValidRecord.f (k : Nat) (a0_0 : ByteArray) (a0_1 : ByteArray) : Option (Bool) := (impl_isCommand.f k a0_0).bind fun t325 => (if t325 = true then (if (a0_1.size : Int) ≤ 200 then ((impl_isPlain.f k a0_1).bind fun t326 => (some t326)) else (some false)) else (some false))
theorem impl_IsValidRecord.calls (k : Nat) (a0_0 : ByteArray) (a0_1 : ByteArray) (r : Bool) (w : World) (h : impl_IsValidRecord.f k a0_0 a0_1 = some r) :
  Calls Tryd.prog 71 #[.agg #[.string a0_0, .string a0_1]] w fun e w' => e = .returned (.bool r) ∧ Below w.heap.size w w' := by
 have hu97 := Tryd.underlying97
 have HB := Aside0.mk (Below.refl w.heap.size w)
 have H : ((impl_isCommand.f k a0_0).bind fun t325 => (if t325 = true then (if (a0_1.size : Int) ≤ 200 then ((impl_isPlain.f k a0_1).bind fun t326 => (some t326)) else (some false)) else (some false))) = some r := h
 clear h
 replace H := Option.bind_eq_some_iff.mp H
 obtain ⟨t325, A20, H⟩ := H
 replace H : (if t325 = true then (if (a0_1.size : Int) ≤ 200 then ((impl_isPlain.f k a0_1).bind fun t326 => (some t326)) else (some false)) else (some false)) = some r := H
 have A2 := Aside0.mk A20
 clear A20
 by_cases c3 : t325 = true
 ·
  subst c3
  have H1 : (if (a0_1.size : Int) ≤ 200 then ((impl_isPlain.f k a0_1).bind fun t326 => (some t326)) else (some false)) = some r := by rw [if_pos rfl] at H; exact H
  clear H
  have H := H1
  clear H1
  by_cases c4 : (a0_1.size : Int) ≤ 200
  ·
   rw [if_pos c4] at H
   have c4b0 : decide ((a0_1.size : Int) ≤ 200) = true := decide_eq_true c4
   have c4b1 : decide (a0_1.size ≤ 200) = true := decide_eq_true (by omega)
   clear c4
   replace H := Option.bind_eq_some_iff.mp H
   obtain ⟨t326, A50, H⟩ := H
   replace H : (some t326) = some r := H
   have A5 := Aside0.mk A50
   clear A50
   obtain rfl := Option.some.inj H
   go_enter Tryd.func71, Tryd.ntmps71
   go_wp2_with (first | ((with_reducible refine gate_dst (N := 1) rfl ?_); (try (refine gate_guard (by rfl) ?_; dsimp only)); refine box_event ?hg (N := 1) ?hd (cs := #[.string a0_0, .string a0_1]) (t := 97) ?hr ?_; (case hd => rfl); (case hg => rfl); (case hr => first | (go_simp; done) | (go_simp; rfl)); intro gb324 hg w6 hbox hb; have BK324 := Aside0.mk (hbox); have GW324 := Aside0.mk ((bz_ hg (lb0_ HB.out))); have GE324 := Aside0.mk ((bz_ hg (lb0_ HB.out))); replace HB := Aside0.mk (below_step (lb0_ HB.out) hb); clear hb hbox hg; obtain ⟨hcz7_0, hcz7_1⟩ := cz2_ BK324.out; obtain ⟨hfz7_0, hfz7_1⟩ := fz2_ BK324.out) | ((with_reducible refine gate_callee (f := 82) rfl ?_); refine ga_ (some 5) Tryd.func82 #[.string a0_0] ?_; (with_reducible refine (impl_isCommand.calls k a0_0 true _ A2.out).mono ?_); rintro e w' ⟨rfl, ⟨nd, rfl⟩⟩; refine ⟨_, rfl, ?_⟩) | (go_at_call 83; (with_reducible refine (impl_isPlain.calls k a0_1 t326 _ A5.out).mono ?_); rintro e w' ⟨rfl, ⟨nd, rfl⟩⟩))
   go_ret
   exact ⟨rr_, lb1_ HB.out GE324.out⟩
  ·
   rw [if_neg c4] at H
   have c4b0 : decide ((a0_1.size : Int) ≤ 200) = false := decide_eq_false c4
   have c4b1 : decide (a0_1.size ≤ 200) = false := decide_eq_false (by omega)
   clear c4
   obtain rfl := Option.some.inj H
   go_enter Tryd.func71, Tryd.ntmps71
   go_wp2_with (first | ((with_reducible refine gate_dst (N := 1) rfl ?_); (try (refine gate_guard (by rfl) ?_; dsimp only)); refine box_event ?hg (N := 1) ?hd (cs := #[.string a0_0, .string a0_1]) (t := 97) ?hr ?_; (case hd => rfl); (case hg => rfl); (case hr => first | (go_simp; done) | (go_simp; rfl)); intro gb324 hg w8 hbox hb; have BK324 := Aside0.mk (hbox); have GW324 := Aside0.mk ((bz_ hg (lb0_ HB.out))); have GE324 := Aside0.mk ((bz_ hg (lb0_ HB.out))); replace HB := Aside0.mk (below_step (lb0_ HB.out) hb); clear hb hbox hg; obtain ⟨hcz9_0, hcz9_1⟩ := cz2_ BK324.out; obtain ⟨hfz9_0, hfz9_1⟩ := fz2_ BK324.out) | ((with_reducible refine gate_callee (f := 82) rfl ?_); refine ga_ (some 5) Tryd.func82 #[.string a0_0] ?_; (with_reducible refine (impl_isCommand.calls k a0_0 true _ A2.out).mono ?_); rintro e w' ⟨rfl, ⟨nd, rfl⟩⟩; refine ⟨_, rfl, ?_⟩))
   go_ret
   exact ⟨rr_, lb1_ HB.out GE324.out⟩
 ·
  replace c3 := Bool.eq_false_iff.mpr c3
  subst c3
  have H1 : (some false) = some r := by rw [if_neg (show ¬ (false = true) by decide)] at H; exact H
  clear H
  have H := H1
  clear H1
  obtain rfl := Option.some.inj H
  go_enter Tryd.func71, Tryd.ntmps71
  go_wp2_with (first | ((with_reducible refine gate_dst (N := 1) rfl ?_); (try (refine gate_guard (by rfl) ?_; dsimp only)); refine box_event ?hg (N := 1) ?hd (cs := #[.string a0_0, .string a0_1]) (t := 97) ?hr ?_; (case hd => rfl); (case hg => rfl); (case hr => first | (go_simp; done) | (go_simp; rfl)); intro gb324 hg w10 hbox hb; have BK324 := Aside0.mk (hbox); have GW324 := Aside0.mk ((bz_ hg (lb0_ HB.out))); have GE324 := Aside0.mk ((bz_ hg (lb0_ HB.out))); replace HB := Aside0.mk (below_step (lb0_ HB.out) hb); clear hb hbox hg; obtain ⟨hcz11_0, hcz11_1⟩ := cz2_ BK324.out; obtain ⟨hfz11_0, hfz11_1⟩ := fz2_ BK324.out) | ((with_reducible refine gate_callee (f := 82) rfl ?_); refine ga_ (some 5) Tryd.func82 #[.string a0_0] ?_; (with_reducible refine (impl_isCommand.calls k a0_0 false _ A2.out).mono ?_); rintro e w' ⟨rfl, ⟨nd, rfl⟩⟩; refine ⟨_, rfl, ?_⟩))
  go_ret
  exact ⟨rr_, lb1_ HB.out GE324.out⟩
def impl_checksum.l0 : Nat → ByteArray → Int → Int → Int → Option (Int)
 | 0, _, _, _, _ => none
 | k + 1, x0, x3, x6, x7 => if x7 < x6 then (if 0 ≤ x7 then (if x7 < (x0.size : Int) then (impl_checksum.l0 k x0 (Int.tmod (wrap64 ((wrap64 ((wrap64 (41 * x3)) + (wrap64 (bt x0 x7)))) + 1)) 999979) x6 (wrap64 (x7 + 1))) else (none)) else (none)) else (some x3)
def impl_checksum.f (k : Nat) (a0 : ByteArray) : Option (Int) := impl_checksum.l0 k a0 7 (a0.size : Int) 0
theorem impl_checksum.calls (k : Nat) (a0 : ByteArray) (r : Int) (w : World) (h : impl_checksum.f k a0 = some r) :
  Calls Tryd.prog 84 #[.string a0] w fun e w' => e = .returned (.int .i64 r) ∧ Drawn0 w w' := by
 have H : (impl_checksum.l0 k a0 7 (a0.size : Int) 0) = some r := h
 clear h
 have H' := Aside0.mk H
 clear H
 go_enter Tryd.func84, Tryd.ntmps84
 go_wp2
 go_loopg [3, 7] k (fun kq v3 v7 w' => ∃ (x3_1 : Int) (x7_1 : Int), v3 = .int .i64 x3_1 ∧ v7 = .int .i64 x7_1 ∧ Aside0 (impl_checksum.l0 kq a0 x3_1 (a0.size : Int) x7_1 = some r) ∧ Aside0 (kq ≤ k) ∧ Drawn0 w w')
 case atStart => exact ⟨(7), (0), (by first | rfl | (simp; done) | (simp [*]; done)), (by first | rfl | (simp; done) | (simp [*]; done)), H', ⟨Nat.le_refl _⟩, by repeat (first | exact Drawn0.refl _ | apply Drawn0.step)⟩
 case round =>
  clear H'
  obtain ⟨x3_1, x7_1, rfl, rfl, HA, HK1, ⟨m1, rfl⟩⟩ := hrel
  cases gk with
  | zero => exact absurd HA.out (by simp [impl_checksum.l0])
  | succ k1 =>
   have H := HA.out
   clear HA
   simp only [impl_checksum.l0] at H
   by_cases c2 : x7_1 < (a0.size : Int)
   ·
    rw [if_pos c2] at H
    have c2b0 : decide (x7_1 < (a0.size : Int)) = true := decide_eq_true c2
    clear c2
    by_cases c3 : 0 ≤ x7_1
    ·
     rw [if_pos c3] at H
     have c3b0 : decide (0 ≤ x7_1) = true := decide_eq_true c3
     clear c3
     by_cases c4 : x7_1 < (a0.size : Int)
     ·
      rw [if_pos c4] at H
      have c4b0 : decide (x7_1 < (a0.size : Int)) = true := decide_eq_true c4
      clear c4
      have H' := Aside0.mk H
      clear H
      have p5 : 0 ≤ (x7_1 : Int) := dt_
      have q5 : x7_1 < (a0.size : Int) := dt_
      have hx5 := bt_at a0 x7_1
      replace p5 := eq_true p5
      replace q5 := eq_true q5
      go_wp2
      go_roundg k1
      case measure => have := HK1.out; omega
      case rel => exact ⟨(Int.tmod (wrap64 ((wrap64 ((wrap64 (41 * x3_1)) + (wrap64 (bt a0 x7_1)))) + 1)) 999979), (wrap64 (x7_1 + 1)), (by first | rfl | (simp; done) | (simp [*]; done)), (by first | rfl | (simp; done) | (simp [*]; done)), H', ⟨by have := HK1.out; omega⟩, by repeat (first | exact Drawn0.refl _ | apply Drawn0.step)⟩
     ·
      rw [if_neg c4] at H
      exact absurd H (by simp)
    ·
     rw [if_neg c3] at H
     exact absurd H (by simp)
   ·
    rw [if_neg c2] at H
    have c2b0 : decide (x7_1 < (a0.size : Int)) = false := decide_eq_false c2
    clear c2
    obtain rfl := Option.some.inj H
    go_wp2
    go_ret
    exact ⟨by first | rfl | (simp; done) | (simp [*]; done), by repeat (first | exact Drawn0.refl _ | apply Drawn0.step)⟩
end Go.Proofs.YtckigdechhmegaaDoor.Pr

namespace Go.Proofs.YtckigdechhmegaaDoor.Pr
open Go.RowKit Go.Proofs.YtckigdechhmegaaDoorW.PrintWords Go.Proofs.YtckigdechhmegaaDoorW.PrintLast Go.Proofs.YtckigdechhmegaaDoorW.PrintMore
attribute [local go_sem] max2_int min2_int max_two min_two max_three min_three max_four min_four sc_in sx_in   -- for this text's walks alone
set_option linter.unusedVariables false
set_option linter.unusedSimpArgs false
def impl_encode.f (k : Nat) (a0 : Int) (a1_0 : ByteArray) (a1_1 : ByteArray) : Option (ByteArray) := (impl_decimal.f a0).bind fun t348 => (if t348.size + 1 ≤ 9223372036854775807 then (if (sc t348 (⟨#[32]⟩ : ByteArray)).size + a1_0.size ≤ 9223372036854775807 then (if (sc (sc t348 (⟨#[32]⟩ : ByteArray)) a1_0).size + 1 ≤ 9223372036854775807 then (if (sc (sc (sc t348 (⟨#[32]⟩ : ByteArray)) a1_0) (⟨#[64]⟩ : ByteArray)).size + a1_1.size ≤ 9223372036854775807 then (if (sc (sc (sc (sc t348 (⟨#[32]⟩ : ByteArray)) a1_0) (⟨#[64]⟩ : ByteArray)) a1_1).size + 1 ≤ 9223372036854775807 then ((impl_checksum.f k (sc (sc (sc (sc t348 (⟨#[32]⟩ : ByteArray)) a1_0) (⟨#[64]⟩ : ByteArray)) a1_1)).bind fun t349 => ((impl_decimal.f t349).bind fun t350 => (if (sc (sc (sc (sc (sc t348 (⟨#[32]⟩ : ByteArray)) a1_0) (⟨#[64]⟩ : ByteArray)) a1_1) (⟨#[35]⟩ : ByteArray)).size + t350.size ≤ 9223372036854775807 then (if (sc (sc (sc (sc (sc (sc t348 (⟨#[32]⟩ : ByteArray)) a1_0) (⟨#[64]⟩ : ByteArray)) a1_1) (⟨#[35]⟩ : ByteArray)) t350).size + 1 ≤ 9223372036854775807 then (some (sc (sc (sc (sc (sc (sc (sc t348 (⟨#[32]⟩ : ByteArray)) a1_0) (⟨#[64]⟩ : ByteArray)) a1_1) (⟨#[35]⟩ : ByteArray)) t350) (⟨#[10]⟩ : ByteArray))) else (none)) else (none)))) else (none)) else (none)) else (none)) else (none)) else (none))
def impl_encode.T1 : Bool × List (List Nat × List Nat) := (true, [([], []), ([0], [0]), ([1], [1]), ([], []), ([3], [3]), ([2, 4], [2, 4]), ([5], [5]), ([], []), ([7], [7]), ([6, 8], [6, 8]), ([9, 1, 0, 1, 2, 3, 4, 5, 6, 7, 8, 9], [9])])
def impl_encode.B1 : List Nat := [0, 1, 3, 0, 8, 31, 63, 0, 128, 511, 1023]
theorem impl_encode.tab1 : rtab .any (opsOf Tryd.f72 1) = impl_encode.T1 := by kernel_rfl
theorem impl_encode.bits1 : waitsOk impl_encode.T1.2 impl_encode.B1 = true := by kernel_rfl
abbrev impl_encode.mk0 : Array Bool := #[false, false, false, false, false, false, false, false, false, false, false]
abbrev impl_encode.mk1 : Array Bool := #[true, false, false, false, false, false, false, false, false, false, false]
abbrev impl_encode.mk2 : Array Bool := #[true, false, false, true, false, false, false, false, false, false, false]
abbrev impl_encode.mk3 : Array Bool := #[true, false, false, true, false, false, false, true, false, false, false]
abbrev impl_encode.mk4 : Array Bool := #[true, false, false, true, true, false, false, true, false, false, false]
abbrev impl_encode.mk5 : Array Bool := #[true, false, false, true, true, false, false, true, true, false, false]
abbrev impl_encode.mk6 : Array Bool := #[true, true, false, true, true, false, false, true, true, false, false]
abbrev impl_encode.mk7 : Array Bool := #[true, true, true, true, true, false, false, true, true, false, false]
abbrev impl_encode.mk8 : Array Bool := #[true, true, true, true, true, true, false, true, true, false, false]
abbrev impl_encode.mk9 : Array Bool := #[true, true, true, true, true, true, true, true, true, false, false]
abbrev impl_encode.mk10 : Array Bool := #[true, true, true, true, true, true, true, true, true, true, false]
abbrev impl_encode.mk11 : Array Bool := #[true, true, true, true, true, true, true, true, true, true, true]
theorem impl_encode.calls (k : Nat) (a0 : Int) (a1_0 : ByteArray) (a1_1 : ByteArray) (r : ByteArray) (w : World) (h : impl_encode.f k a0 a1_0 a1_1 = some r) (hT : Tb w) :
  Calls Tryd.prog 72 #[.int .i64 a0, .agg #[.string a1_0, .string a1_1]] w fun e w' => e = .returned (.string r) ∧ Below w.heap.size w w' := by
 have HT := Aside0.mk hT
 clear hT
 have hu97 := Tryd.underlying97
 have HB := Aside0.mk (Below.refl w.heap.size w)
 have H : ((impl_decimal.f a0).bind fun t348 => (if t348.size + 1 ≤ 9223372036854775807 then (if (sc t348 (⟨#[32]⟩ : ByteArray)).size + a1_0.size ≤ 9223372036854775807 then (if (sc (sc t348 (⟨#[32]⟩ : ByteArray)) a1_0).size + 1 ≤ 9223372036854775807 then (if (sc (sc (sc t348 (⟨#[32]⟩ : ByteArray)) a1_0) (⟨#[64]⟩ : ByteArray)).size + a1_1.size ≤ 9223372036854775807 then (if (sc (sc (sc (sc t348 (⟨#[32]⟩ : ByteArray)) a1_0) (⟨#[64]⟩ : ByteArray)) a1_1).size + 1 ≤ 9223372036854775807 then ((impl_checksum.f k (sc (sc (sc (sc t348 (⟨#[32]⟩ : ByteArray)) a1_0) (⟨#[64]⟩ : ByteArray)) a1_1)).bind fun t349 => ((impl_decimal.f t349).bind fun t350 => (if (sc (sc (sc (sc (sc t348 (⟨#[32]⟩ : ByteArray)) a1_0) (⟨#[64]⟩ : ByteArray)) a1_1) (⟨#[35]⟩ : ByteArray)).size + t350.size ≤ 9223372036854775807 then (if (sc (sc (sc (sc (sc (sc t348 (⟨#[32]⟩ : ByteArray)) a1_0) (⟨#[64]⟩ : ByteArray)) a1_1) (⟨#[35]⟩ : ByteArray)) t350).size + 1 ≤ 9223372036854775807 then (some (sc (sc (sc (sc (sc (sc (sc t348 (⟨#[32]⟩ : ByteArray)) a1_0) (⟨#[64]⟩ : ByteArray)) a1_1) (⟨#[35]⟩ : ByteArray)) t350) (⟨#[10]⟩ : ByteArray))) else (none)) else (none)))) else (none)) else (none)) else (none)) else (none)) else (none))) = some r := h
 clear h
 replace H := Option.bind_eq_some_iff.mp H
 obtain ⟨t348, A30, H⟩ := H
 replace H : (if t348.size + 1 ≤ 9223372036854775807 then (if (sc t348 (⟨#[32]⟩ : ByteArray)).size + a1_0.size ≤ 9223372036854775807 then (if (sc (sc t348 (⟨#[32]⟩ : ByteArray)) a1_0).size + 1 ≤ 9223372036854775807 then (if (sc (sc (sc t348 (⟨#[32]⟩ : ByteArray)) a1_0) (⟨#[64]⟩ : ByteArray)).size + a1_1.size ≤ 9223372036854775807 then (if (sc (sc (sc (sc t348 (⟨#[32]⟩ : ByteArray)) a1_0) (⟨#[64]⟩ : ByteArray)) a1_1).size + 1 ≤ 9223372036854775807 then ((impl_checksum.f k (sc (sc (sc (sc t348 (⟨#[32]⟩ : ByteArray)) a1_0) (⟨#[64]⟩ : ByteArray)) a1_1)).bind fun t349 => ((impl_decimal.f t349).bind fun t350 => (if (sc (sc (sc (sc (sc t348 (⟨#[32]⟩ : ByteArray)) a1_0) (⟨#[64]⟩ : ByteArray)) a1_1) (⟨#[35]⟩ : ByteArray)).size + t350.size ≤ 9223372036854775807 then (if (sc (sc (sc (sc (sc (sc t348 (⟨#[32]⟩ : ByteArray)) a1_0) (⟨#[64]⟩ : ByteArray)) a1_1) (⟨#[35]⟩ : ByteArray)) t350).size + 1 ≤ 9223372036854775807 then (some (sc (sc (sc (sc (sc (sc (sc t348 (⟨#[32]⟩ : ByteArray)) a1_0) (⟨#[64]⟩ : ByteArray)) a1_1) (⟨#[35]⟩ : ByteArray)) t350) (⟨#[10]⟩ : ByteArray))) else (none)) else (none)))) else (none)) else (none)) else (none)) else (none)) else (none)) = some r := H
 have A3 := Aside0.mk A30
 clear A30
 by_cases c4 : t348.size + 1 ≤ 9223372036854775807
 ·
  rw [if_pos c4] at H
  have c4b0 := eq_true c4
  have c4b1 : decide (t348.size + 1 ≤ 9223372036854775807) = true := decide_eq_true c4
  try have c4b2 : (9223372036854775807 < t348.size + 1) = False := eq_false (Nat.not_lt.2 c4)
  by_cases c5 : (sc t348 (⟨#[32]⟩ : ByteArray)).size + a1_0.size ≤ 9223372036854775807
  ·
   rw [if_pos c5] at H
   have c5b0 := eq_true c5
   have c5b1 : decide ((sc t348 (⟨#[32]⟩ : ByteArray)).size + a1_0.size ≤ 9223372036854775807) = true := decide_eq_true c5
   try have c5b2 : (9223372036854775807 < (sc t348 (⟨#[32]⟩ : ByteArray)).size + a1_0.size) = False := eq_false (Nat.not_lt.2 c5)
   by_cases c6 : (sc (sc t348 (⟨#[32]⟩ : ByteArray)) a1_0).size + 1 ≤ 9223372036854775807
   ·
    rw [if_pos c6] at H
    have c6b0 := eq_true c6
    have c6b1 : decide ((sc (sc t348 (⟨#[32]⟩ : ByteArray)) a1_0).size + 1 ≤ 9223372036854775807) = true := decide_eq_true c6
    try have c6b2 : (9223372036854775807 < (sc (sc t348 (⟨#[32]⟩ : ByteArray)) a1_0).size + 1) = False := eq_false (Nat.not_lt.2 c6)
    by_cases c7 : (sc (sc (sc t348 (⟨#[32]⟩ : ByteArray)) a1_0) (⟨#[64]⟩ : ByteArray)).size + a1_1.size ≤ 9223372036854775807
    ·
     rw [if_pos c7] at H
     have c7b0 := eq_true c7
     have c7b1 : decide ((sc (sc (sc t348 (⟨#[32]⟩ : ByteArray)) a1_0) (⟨#[64]⟩ : ByteArray)).size + a1_1.size ≤ 9223372036854775807) = true := decide_eq_true c7
     try have c7b2 : (9223372036854775807 < (sc (sc (sc t348 (⟨#[32]⟩ : ByteArray)) a1_0) (⟨#[64]⟩ : ByteArray)).size + a1_1.size) = False := eq_false (Nat.not_lt.2 c7)
     by_cases c8 : (sc (sc (sc (sc t348 (⟨#[32]⟩ : ByteArray)) a1_0) (⟨#[64]⟩ : ByteArray)) a1_1).size + 1 ≤ 9223372036854775807
     ·
      rw [if_pos c8] at H
      have c8b0 := eq_true c8
      have c8b1 : decide ((sc (sc (sc (sc t348 (⟨#[32]⟩ : ByteArray)) a1_0) (⟨#[64]⟩ : ByteArray)) a1_1).size + 1 ≤ 9223372036854775807) = true := decide_eq_true c8
      try have c8b2 : (9223372036854775807 < (sc (sc (sc (sc t348 (⟨#[32]⟩ : ByteArray)) a1_0) (⟨#[64]⟩ : ByteArray)) a1_1).size + 1) = False := eq_false (Nat.not_lt.2 c8)
      replace H := Option.bind_eq_some_iff.mp H
      obtain ⟨t349, A90, H⟩ := H
      replace H : ((impl_decimal.f t349).bind fun t350 => (if (sc (sc (sc (sc (sc t348 (⟨#[32]⟩ : ByteArray)) a1_0) (⟨#[64]⟩ : ByteArray)) a1_1) (⟨#[35]⟩ : ByteArray)).size + t350.size ≤ 9223372036854775807 then (if (sc (sc (sc (sc (sc (sc t348 (⟨#[32]⟩ : ByteArray)) a1_0) (⟨#[64]⟩ : ByteArray)) a1_1) (⟨#[35]⟩ : ByteArray)) t350).size + 1 ≤ 9223372036854775807 then (some (sc (sc (sc (sc (sc (sc (sc t348 (⟨#[32]⟩ : ByteArray)) a1_0) (⟨#[64]⟩ : ByteArray)) a1_1) (⟨#[35]⟩ : ByteArray)) t350) (⟨#[10]⟩ : ByteArray))) else (none)) else (none))) = some r := H
      have A9 := Aside0.mk A90
      clear A90
      replace H := Option.bind_eq_some_iff.mp H
      obtain ⟨t350, A100, H⟩ := H
      replace H : (if (sc (sc (sc (sc (sc t348 (⟨#[32]⟩ : ByteArray)) a1_0) (⟨#[64]⟩ : ByteArray)) a1_1) (⟨#[35]⟩ : ByteArray)).size + t350.size ≤ 9223372036854775807 then (if (sc (sc (sc (sc (sc (sc t348 (⟨#[32]⟩ : ByteArray)) a1_0) (⟨#[64]⟩ : ByteArray)) a1_1) (⟨#[35]⟩ : ByteArray)) t350).size + 1 ≤ 9223372036854775807 then (some (sc (sc (sc (sc (sc (sc (sc t348 (⟨#[32]⟩ : ByteArray)) a1_0) (⟨#[64]⟩ : ByteArray)) a1_1) (⟨#[35]⟩ : ByteArray)) t350) (⟨#[10]⟩ : ByteArray))) else (none)) else (none)) = some r := H
      have A10 := Aside0.mk A100
      clear A100
      by_cases c11 : (sc (sc (sc (sc (sc t348 (⟨#[32]⟩ : ByteArray)) a1_0) (⟨#[64]⟩ : ByteArray)) a1_1) (⟨#[35]⟩ : ByteArray)).size + t350.size ≤ 9223372036854775807
      ·
       rw [if_pos c11] at H
       have c11b0 := eq_true c11
       have c11b1 : decide ((sc (sc (sc (sc (sc t348 (⟨#[32]⟩ : ByteArray)) a1_0) (⟨#[64]⟩ : ByteArray)) a1_1) (⟨#[35]⟩ : ByteArray)).size + t350.size ≤ 9223372036854775807) = true := decide_eq_true c11
       try have c11b2 : (9223372036854775807 < (sc (sc (sc (sc (sc t348 (⟨#[32]⟩ : ByteArray)) a1_0) (⟨#[64]⟩ : ByteArray)) a1_1) (⟨#[35]⟩ : ByteArray)).size + t350.size) = False := eq_false (Nat.not_lt.2 c11)
       by_cases c12 : (sc (sc (sc (sc (sc (sc t348 (⟨#[32]⟩ : ByteArray)) a1_0) (⟨#[64]⟩ : ByteArray)) a1_1) (⟨#[35]⟩ : ByteArray)) t350).size + 1 ≤ 9223372036854775807
       ·
        rw [if_pos c12] at H
        have c12b0 := eq_true c12; have c12b1 : decide ((sc (sc (sc (sc (sc (sc t348 (⟨#[32]⟩ : ByteArray)) a1_0) (⟨#[64]⟩ : ByteArray)) a1_1) (⟨#[35]⟩ : ByteArray)) t350).size + 1 ≤ 9223372036854775807) = true := decide_eq_true c12
        try have c12b2 : (9223372036854775807 < (sc (sc (sc (sc (sc (sc t348 (⟨#[32]⟩ : ByteArray)) a1_0) (⟨#[64]⟩ : ByteArray)) a1_1) (⟨#[35]⟩ : ByteArray)) t350).size + 1) = False := eq_false (Nat.not_lt.2 c12)
        obtain rfl := Option.some.inj H
        go_enter Tryd.func72, Tryd.ntmps72
        try go_wp2_with (first | ((with_reducible refine gate_dst (N := 3) rfl ?_); refine box_event ?hg (N := 3) ?hd (cs := #[.string a1_0, .string a1_1]) (t := 97) ?hr ?_; (case hd => rfl); (case hg => rfl); (case hr => first | (go_simp; done) | (go_simp; rfl)); intro gb347 hg w13 hbox hb; have BK347 := Aside0.mk (hbox); have GW347 := Aside0.mk ((bz_ hg (lb0_ HB.out))); have GE347 := Aside0.mk ((bz_ hg (lb0_ HB.out))); replace HB := Aside0.mk (below_step (lb0_ HB.out) hb); clear hb hbox hg))
        replace BK347 := Aside0.mk (blk_drew BK347.out); replace HB := Aside0.mk (below_drew1 HB.out); refine start_ (n := 11) (S := fun w' => w'.cell? ⟨gb347, 0, none⟩ = some (.string a1_0) ∧ w'.cell? ⟨gb347, 1, none⟩ = some (.string a1_1)) (ds := []) impl_encode.mk0 (by kernel_rfl) rfl rfl ⟨(blk_cell BK347.out 0).trans rfl, (blk_cell BK347.out 1).trans rfl⟩ (fun hHeld => ?_); refine with_tabW impl_encode.tab1 impl_encode.bits1 (fun HT_ HW_ => ?_); generalize w13.drew = w14 at BK347 HB hHeld ⊢; refine pz_ HT_ 0 (some 6) impl_encode.mk1 ?_; refine pz_ HT_ 3 (some 9) impl_encode.mk2 ?_; refine pz_ HT_ 7 (some 13) impl_encode.mk3 ?_; refine take_ (i := 4) (N := some 10) (v := ?_) (a' := ?_) impl_encode.mk4 rfl rfl (take_ofW HT_.out HW_.out (by kernel_rfl)) (fun _ _ _ h => h) (Or.inl ⟨by rfl, ?_⟩) hHeld ?_ ?_; rotate_left
        ·
         rintro w' ⟨s0, s1⟩; go_simp; (with_reducible rfl)
        rotate_left
        ·
         simp only [Act.put, List.setIfInBounds_toArray, List.set_cons_zero, List.set_cons_succ, i64_w, i32_w]; rfl
        refine take_ (i := 8) (N := some 14) (v := ?_) (a' := ?_) impl_encode.mk5 rfl rfl (take_ofW HT_.out HW_.out (by kernel_rfl)) (fun _ _ _ h => h) (Or.inl ⟨by rfl, ?_⟩) hHeld ?_ ?_; rotate_left
        ·
         rintro w' ⟨s0, s1⟩; go_simp; (with_reducible rfl)
        rotate_left
        ·
         simp only [Act.put, List.setIfInBounds_toArray, List.set_cons_zero, List.set_cons_succ, i64_w, i32_w]; rfl
        refine one_ (i := 1) (N := some 7) impl_encode.mk6 rfl rfl (one_of HT_.out (by kernel_rfl)) (by decide) (fun K hK => ?_); refine gs_ Tryd.func27 #[.int .i64 a0] ?_; (with_reducible refine (impl_decimal.calls a0 t348 _ A3.out ?sideT).mono ?_)
        case sideT => first | (with_reducible exact HT.out) | (with_reducible exact Tb.step HT.out HB.out) | exact Tb.step HT.out (by repeat (first | (with_reducible first | exact HB.out | apply below_alloc | apply pw_below_drewN | apply below_drew1 | refine below_set ?_ GE347.out) | exact HB.out | exact Below.refl _ _))
        rintro e w15 ⟨rfl, hb⟩; refine ⟨_, rfl, ?_⟩; replace BK347 := Aside0.mk (bb_ (bk_ BK347.out) hb); replace HB := Aside0.mk (below_step (lb1_ HB.out GE347.out) hb); (try clear hb); (try clear hb2); (try clear hk); (try clear hi); refine hK.out _ _ ⟨(blk_cell BK347.out 0).trans rfl, (blk_cell BK347.out 1).trans rfl⟩ (fun hHeld => ?_); clear hK K; refine na_ ?_; refine pz_ HT_ 2 (some 8) impl_encode.mk7 ?_; refine pz_ HT_ 5 (some 11) impl_encode.mk8 ?_; refine pz_ HT_ 6 (some 12) impl_encode.mk9 ?_; refine pz_ HT_ 9 (some 15) impl_encode.mk10 ?_; refine pz_ HT_ 10 (some 5) impl_encode.mk11 ?_; refine done_ (done_of HT_.out (by kernel_rfl)) ?_
        try go_wp2_with (first | ((with_reducible refine gate_callee (f := 84) rfl ?_); refine ga_ (some 19) Tryd.func84 #[.string (sc (sc (sc (sc t348 (⟨#[32]⟩ : ByteArray)) a1_0) (⟨#[64]⟩ : ByteArray)) a1_1)] ?_; (with_reducible refine (impl_checksum.calls k (sc (sc (sc (sc t348 (⟨#[32]⟩ : ByteArray)) a1_0) (⟨#[64]⟩ : ByteArray)) a1_1) t349 _ A9.out).mono ?_); rintro e w' ⟨rfl, ⟨nd, rfl⟩⟩; refine ⟨_, rfl, ?_⟩) | ((with_reducible refine gate_callee (f := 27) rfl ?_); refine ga_ (some 20) Tryd.func27 #[.int .i64 t349] ?_; (with_reducible refine (impl_decimal.calls t349 t350 _ A10.out ?sideT).mono ?_); (case sideT => first | (with_reducible exact HT.out) | (with_reducible exact Tb.step HT.out HB.out) | exact Tb.step HT.out (by repeat (first | (with_reducible first | exact HB.out | apply below_alloc | apply pw_below_drewN | apply below_drew1 | refine below_set ?_ GE347.out) | exact HB.out | exact Below.refl _ _))); rintro e w16 ⟨rfl, hb⟩; refine ⟨_, rfl, ?_⟩; replace BK347 := Aside0.mk (bb_ (bk_ BK347.out) hb); replace HB := Aside0.mk (below_step (lb1_ HB.out GE347.out) hb); (try clear hb); (try clear hb2); (try clear hk); (try clear hi)))
        go_ret
        exact ⟨rr_, lb1_ HB.out GE347.out⟩
       ·
        rw [if_neg c12] at H
        exact absurd H (by simp)
      ·
       rw [if_neg c11] at H
       exact absurd H (by simp)
     ·
      rw [if_neg c8] at H
      exact absurd H (by simp)
    ·
     rw [if_neg c7] at H
     exact absurd H (by simp)
   ·
    rw [if_neg c6] at H
    exact absurd H (by simp)
  ·
   rw [if_neg c5] at H
   exact absurd H (by simp)
 ·
  rw [if_neg c4] at H
  exact absurd H (by simp)
def impl_readRecord.f (k : Nat) (a0 : Int) (a1 : ByteArray) : Option (ByteArray × ByteArray × Int × Bool) := (strings_Cut.f a1 (⟨#[10]⟩ : ByteArray)).bind fun bt352 => ((strings_Cut.f bt352.1 (⟨#[35]⟩ : ByteArray)).bind fun bt355 => ((strings_Cut.f bt355.1 (⟨#[32]⟩ : ByteArray)).bind fun bt358 => ((strings_Cut.f bt358.2.1 (⟨#[64]⟩ : ByteArray)).bind fun bt361 => (if bt352.2.2 = true then (if a0 ≥ 60 then (some ((⟨#[]⟩ : ByteArray), (⟨#[]⟩ : ByteArray), 0, false)) else ((impl_IsValidRecord.f k bt361.1 bt361.2.1).bind fun t365 => (if t365 = true then ((impl_encode.f k a0 bt361.1 bt361.2.1).bind fun t366 => (if bt352.1.size + 1 ≤ 9223372036854775807 then (if t366.toList = (sc bt352.1 (⟨#[10]⟩ : ByteArray)).toList then (some (bt361.1, bt361.2.1, wrap64 ((bt352.1.size : Int) + 1), true)) else (some ((⟨#[]⟩ : ByteArray), (⟨#[]⟩ : ByteArray), 0, false))) else (none))) else (some ((⟨#[]⟩ : ByteArray), (⟨#[]⟩ : ByteArray), 0, false))))) else (some ((⟨#[]⟩ : ByteArray), (⟨#[]⟩ : ByteArray), 0, false))))))
theorem impl_readRecord.calls (k : Nat) (a0 : Int) (a1 : ByteArray) (r1 : ByteArray) (r2 : ByteArray) (r3 : Int) (r4 : Bool) (w : World) (h : impl_readRecord.f k a0 a1 = some (r1, r2, r3, r4)) (hT : Tb w) :
  Calls Tryd.prog 62 #[.int .i64 a0, .string a1] w fun e w' => e = .returned (.tuple #[.agg #[.string r1, .string r2], .int .i64 r3, .bool r4]) ∧ Below w.heap.size w w' := by
 have HT := Aside0.mk hT
 clear hT
 have hu97 := Tryd.underlying97
 have HB := Aside0.mk (Below.refl w.heap.size w)
 have H : ((strings_Cut.f a1 (⟨#[10]⟩ : ByteArray)).bind fun bt352 => ((strings_Cut.f bt352.1 (⟨#[35]⟩ : ByteArray)).bind fun bt355 => ((strings_Cut.f bt355.1 (⟨#[32]⟩ : ByteArray)).bind fun bt358 => ((strings_Cut.f bt358.2.1 (⟨#[64]⟩ : ByteArray)).bind fun bt361 => (if bt352.2.2 = true then (if a0 ≥ 60 then (some ((⟨#[]⟩ : ByteArray), (⟨#[]⟩ : ByteArray), 0, false)) else ((impl_IsValidRecord.f k bt361.1 bt361.2.1).bind fun t365 => (if t365 = true then ((impl_encode.f k a0 bt361.1 bt361.2.1).bind fun t366 => (if bt352.1.size + 1 ≤ 9223372036854775807 then (if t366.toList = (sc bt352.1 (⟨#[10]⟩ : ByteArray)).toList then (some (bt361.1, bt361.2.1, wrap64 ((bt352.1.size : Int) + 1), true)) else (some ((⟨#[]⟩ : ByteArray), (⟨#[]⟩ : ByteArray), 0, false))) else (none))) else (some ((⟨#[]⟩ : ByteArray), (⟨#[]⟩ : ByteArray), 0, false))))) else (some ((⟨#[]⟩ : ByteArray), (⟨#[]⟩ : ByteArray), 0, false))))))) = some (r1, r2, r3, r4) := h
 clear h
 replace H := Option.bind_eq_some_iff.mp H
 obtain ⟨⟨t352, t353, t354⟩, A30, H⟩ := H
 replace H : ((strings_Cut.f t352 (⟨#[35]⟩ : ByteArray)).bind fun bt355 => ((strings_Cut.f bt355.1 (⟨#[32]⟩ : ByteArray)).bind fun bt358 => ((strings_Cut.f bt358.2.1 (⟨#[64]⟩ : ByteArray)).bind fun bt361 => (if t354 = true then (if a0 ≥ 60 then (some ((⟨#[]⟩ : ByteArray), (⟨#[]⟩ : ByteArray), 0, false)) else ((impl_IsValidRecord.f k bt361.1 bt361.2.1).bind fun t365 => (if t365 = true then ((impl_encode.f k a0 bt361.1 bt361.2.1).bind fun t366 => (if t352.size + 1 ≤ 9223372036854775807 then (if t366.toList = (sc t352 (⟨#[10]⟩ : ByteArray)).toList then (some (bt361.1, bt361.2.1, wrap64 ((t352.size : Int) + 1), true)) else (some ((⟨#[]⟩ : ByteArray), (⟨#[]⟩ : ByteArray), 0, false))) else (none))) else (some ((⟨#[]⟩ : ByteArray), (⟨#[]⟩ : ByteArray), 0, false))))) else (some ((⟨#[]⟩ : ByteArray), (⟨#[]⟩ : ByteArray), 0, false)))))) = some (r1, r2, r3, r4) := H
 have A3 := Aside0.mk A30
 clear A30
 replace H := Option.bind_eq_some_iff.mp H
 obtain ⟨⟨t355, t356, t357⟩, A40, H⟩ := H
 replace H : ((strings_Cut.f t355 (⟨#[32]⟩ : ByteArray)).bind fun bt358 => ((strings_Cut.f bt358.2.1 (⟨#[64]⟩ : ByteArray)).bind fun bt361 => (if t354 = true then (if a0 ≥ 60 then (some ((⟨#[]⟩ : ByteArray), (⟨#[]⟩ : ByteArray), 0, false)) else ((impl_IsValidRecord.f k bt361.1 bt361.2.1).bind fun t365 => (if t365 = true then ((impl_encode.f k a0 bt361.1 bt361.2.1).bind fun t366 => (if t352.size + 1 ≤ 9223372036854775807 then (if t366.toList = (sc t352 (⟨#[10]⟩ : ByteArray)).toList then (some (bt361.1, bt361.2.1, wrap64 ((t352.size : Int) + 1), true)) else (some ((⟨#[]⟩ : ByteArray), (⟨#[]⟩ : ByteArray), 0, false))) else (none))) else (some ((⟨#[]⟩ : ByteArray), (⟨#[]⟩ : ByteArray), 0, false))))) else (some ((⟨#[]⟩ : ByteArray), (⟨#[]⟩ : ByteArray), 0, false))))) = some (r1, r2, r3, r4) := H
 have A4 := Aside0.mk A40
 clear A40
 replace H := Option.bind_eq_some_iff.mp H
 obtain ⟨⟨t358, t359, t360⟩, A50, H⟩ := H
 replace H : ((strings_Cut.f t359 (⟨#[64]⟩ : ByteArray)).bind fun bt361 => (if t354 = true then (if a0 ≥ 60 then (some ((⟨#[]⟩ : ByteArray), (⟨#[]⟩ : ByteArray), 0, false)) else ((impl_IsValidRecord.f k bt361.1 bt361.2.1).bind fun t365 => (if t365 = true then ((impl_encode.f k a0 bt361.1 bt361.2.1).bind fun t366 => (if t352.size + 1 ≤ 9223372036854775807 then (if t366.toList = (sc t352 (⟨#[10]⟩ : ByteArray)).toList then (some (bt361.1, bt361.2.1, wrap64 ((t352.size : Int) + 1), true)) else (some ((⟨#[]⟩ : ByteArray), (⟨#[]⟩ : ByteArray), 0, false))) else (none))) else (some ((⟨#[]⟩ : ByteArray), (⟨#[]⟩ : ByteArray), 0, false))))) else (some ((⟨#[]⟩ : ByteArray), (⟨#[]⟩ : ByteArray), 0, false)))) = some (r1, r2, r3, r4) := H
 have A5 := Aside0.mk A50
 clear A50
 replace H := Option.bind_eq_some_iff.mp H
 obtain ⟨⟨t361, t362, t363⟩, A60, H⟩ := H
 replace H : (if t354 = true then (if a0 ≥ 60 then (some ((⟨#[]⟩ : ByteArray), (⟨#[]⟩ : ByteArray), 0, false)) else ((impl_IsValidRecord.f k t361 t362).bind fun t365 => (if t365 = true then ((impl_encode.f k a0 t361 t362).bind fun t366 => (if t352.size + 1 ≤ 9223372036854775807 then (if t366.toList = (sc t352 (⟨#[10]⟩ : ByteArray)).toList then (some (t361, t362, wrap64 ((t352.size : Int) + 1), true)) else (some ((⟨#[]⟩ : ByteArray), (⟨#[]⟩ : ByteArray), 0, false))) else (none))) else (some ((⟨#[]⟩ : ByteArray), (⟨#[]⟩ : ByteArray), 0, false))))) else (some ((⟨#[]⟩ : ByteArray), (⟨#[]⟩ : ByteArray), 0, false))) = some (r1, r2, r3, r4) := H
 have A6 := Aside0.mk A60
 clear A60
 by_cases c7 : t354 = true
 ·
  subst c7
  have H1 : (if a0 ≥ 60 then (some ((⟨#[]⟩ : ByteArray), (⟨#[]⟩ : ByteArray), 0, false)) else ((impl_IsValidRecord.f k t361 t362).bind fun t365 => (if t365 = true then ((impl_encode.f k a0 t361 t362).bind fun t366 => (if t352.size + 1 ≤ 9223372036854775807 then (if t366.toList = (sc t352 (⟨#[10]⟩ : ByteArray)).toList then (some (t361, t362, wrap64 ((t352.size : Int) + 1), true)) else (some ((⟨#[]⟩ : ByteArray), (⟨#[]⟩ : ByteArray), 0, false))) else (none))) else (some ((⟨#[]⟩ : ByteArray), (⟨#[]⟩ : ByteArray), 0, false))))) = some (r1, r2, r3, r4) := by rw [if_pos rfl] at H; exact H
  clear H
  have H := H1
  clear H1
  by_cases c8 : a0 ≥ 60
  ·
   rw [if_pos c8] at H
   have c8b0 : decide (60 ≤ a0) = true := decide_eq_true c8
   clear c8
   simp only [Option.some.injEq, Prod.mk.injEq] at H
   obtain ⟨rfl, rfl, rfl, rfl⟩ := H
   go_enter Tryd.func62, Tryd.ntmps62
   go_wp2_with (first | ((with_reducible refine gate_dst (N := 4) rfl ?_); refine box_event ?hg (N := 4) ?hd (cs := #[.string (⟨#[]⟩ : ByteArray), .string (⟨#[]⟩ : ByteArray)]) (t := 97) ?hr ?_; (case hd => rfl); (case hg => rfl); (case hr => first | (go_simp; done) | (go_simp; rfl)); intro gb351 hg w9 hbox hb; have BK351 := Aside0.mk (hbox); have GW351 := Aside0.mk ((bz_ hg (lb0_ HB.out))); have GE351 := Aside0.mk ((bz_ hg (lb0_ HB.out))); replace HB := Aside0.mk (below_step (lb0_ HB.out) hb); clear hb hbox hg) | ((with_reducible refine gate_callee (f := 70) rfl ?_); refine ga_ (some 22) Tryd.func70 #[.string a1, .string (⟨#[10]⟩ : ByteArray)] ?_; (with_reducible refine (strings_Cut.calls a1 (⟨#[10]⟩ : ByteArray) t352 t353 true _ A3.out).mono ?_); rintro e w' ⟨rfl, ⟨nd, rfl⟩⟩; refine ⟨_, rfl, ?_⟩; (try (rw [drewN_self w9]; generalize hq_ : World.drewN w9 _ = w9; have n0_ : Aside0 (w9.heap[gb351]? = some (.cells #[.string (⟨#[]⟩ : ByteArray), .string (⟨#[]⟩ : ByteArray)] 97 (0, 0))) := ⟨by rw [← hq_]; exact (bk_ BK351.out)⟩; have n1_ : Aside0 (Below w.heap.size w w9) := ⟨by rw [← hq_]; exact (lb1_ HB.out GE351.out)⟩; clear BK351 HB hq_; have BK351 := n0_; have HB := n1_; clear n0_ n1_))) | ((with_reducible refine gate_callee (f := 70) rfl ?_); refine ga_ (some 28) Tryd.func70 #[.string t352, .string (⟨#[35]⟩ : ByteArray)] ?_; (with_reducible refine (strings_Cut.calls t352 (⟨#[35]⟩ : ByteArray) t355 t356 t357 _ A4.out).mono ?_); rintro e w' ⟨rfl, ⟨nd, rfl⟩⟩; refine ⟨_, rfl, ?_⟩; (try (rw [drewN_self w9]; generalize hq_ : World.drewN w9 _ = w9; have n0_ : Aside0 (w9.heap[gb351]? = some (.cells #[.string (⟨#[]⟩ : ByteArray), .string (⟨#[]⟩ : ByteArray)] 97 (0, 0))) := ⟨by rw [← hq_]; exact (bk_ BK351.out)⟩; have n1_ : Aside0 (Below w.heap.size w w9) := ⟨by rw [← hq_]; exact (lb1_ HB.out GE351.out)⟩; clear BK351 HB hq_; have BK351 := n0_; have HB := n1_; clear n0_ n1_))) | ((with_reducible refine gate_callee (f := 70) rfl ?_); refine ga_ (some 34) Tryd.func70 #[.string t355, .string (⟨#[32]⟩ : ByteArray)] ?_; (with_reducible refine (strings_Cut.calls t355 (⟨#[32]⟩ : ByteArray) t358 t359 t360 _ A5.out).mono ?_); rintro e w' ⟨rfl, ⟨nd, rfl⟩⟩; refine ⟨_, rfl, ?_⟩; (try (rw [drewN_self w9]; generalize hq_ : World.drewN w9 _ = w9; have n0_ : Aside0 (w9.heap[gb351]? = some (.cells #[.string (⟨#[]⟩ : ByteArray), .string (⟨#[]⟩ : ByteArray)] 97 (0, 0))) := ⟨by rw [← hq_]; exact (bk_ BK351.out)⟩; have n1_ : Aside0 (Below w.heap.size w w9) := ⟨by rw [← hq_]; exact (lb1_ HB.out GE351.out)⟩; clear BK351 HB hq_; have BK351 := n0_; have HB := n1_; clear n0_ n1_))) | ((with_reducible refine gate_callee (f := 70) rfl ?_); refine ga_ (some 40) Tryd.func70 #[.string t359, .string (⟨#[64]⟩ : ByteArray)] ?_; (with_reducible refine (strings_Cut.calls t359 (⟨#[64]⟩ : ByteArray) t361 t362 t363 _ A6.out).mono ?_); rintro e w' ⟨rfl, ⟨nd, rfl⟩⟩; refine ⟨_, rfl, ?_⟩; (try (rw [drewN_self w9]; generalize hq_ : World.drewN w9 _ = w9; have n0_ : Aside0 (w9.heap[gb351]? = some (.cells #[.string (⟨#[]⟩ : ByteArray), .string (⟨#[]⟩ : ByteArray)] 97 (0, 0))) := ⟨by rw [← hq_]; exact (bk_ BK351.out)⟩; have n1_ : Aside0 (Below w.heap.size w w9) := ⟨by rw [← hq_]; exact (lb1_ HB.out GE351.out)⟩; clear BK351 HB hq_; have BK351 := n0_; have HB := n1_; clear n0_ n1_))) | ((with_reducible refine gate_dst (N := 19) rfl ?_); refine box_event ?hg (N := 19) ?hd (cs := #[.string (⟨#[]⟩ : ByteArray), .string (⟨#[]⟩ : ByteArray)]) (t := 97) ?hr ?_; (case hd => rfl); (case hg => rfl); (case hr => first | (go_simp; done) | (go_simp; rfl)); intro gb364 hg w10 hbox hb; have BK364 := Aside0.mk (hbox); have GW364 := Aside0.mk ((bz_ hg (lb1_ HB.out GE351.out))); have GE364 := Aside0.mk ((bz_ hg (lb1_ HB.out GE351.out))); replace HB := Aside0.mk (below_step (lb1_ HB.out GE351.out) hb); have NB351_364 := Aside0.mk ((by rw [hg]; exact Nat.ne_of_lt (blk_lt (g := gb351) (o := .cells #[.string (⟨#[]⟩ : ByteArray), .string (⟨#[]⟩ : ByteArray)] 97 (0, 0)) (bk_ BK351.out)) : gb351 ≠ gb364)); have NB364_351 := Aside0.mk ((by rw [hg]; exact Nat.ne_of_gt (blk_lt (g := gb351) (o := .cells #[.string (⟨#[]⟩ : ByteArray), .string (⟨#[]⟩ : ByteArray)] 97 (0, 0)) (bk_ BK351.out)) : gb364 ≠ gb351)); replace BK351 := Aside0.mk (bb_ (bk_ BK351.out) hb); clear hb hbox hg; have hnb11 := NB364_351.out; have hnc11 := NB351_364.out; obtain ⟨hcz12_0, hcz12_1⟩ := cz2_ BK364.out; obtain ⟨hfz12_0, hfz12_1⟩ := fz2_ BK364.out; obtain ⟨hcz13_0, hcz13_1⟩ := cz2_ BK351.out; obtain ⟨hfz13_0, hfz13_1⟩ := fz2_ BK351.out))
   refine bodyPost_ret (results_ctt rfl _ _ gb351 97 #[.string (⟨#[]⟩ : ByteArray), .string (⟨#[]⟩ : ByteArray)] (0, 0) _ rfl (by (with_reducible repeat (first | refine blk_drewN ?_ _ | refine blk_drew ?_ | refine blk_alloc ?_ _)); refine blk_put (cs := #[.string (⟨#[]⟩ : ByteArray), .string (⟨#[]⟩ : ByteArray)]) ?_ 1 _ rfl; (with_reducible repeat (first | refine blk_drewN ?_ _ | refine blk_drew ?_ | refine blk_alloc ?_ _)); refine blk_put (cs := #[.string (⟨#[]⟩ : ByteArray), .string (⟨#[]⟩ : ByteArray)]) ?_ 0 _ rfl; (with_reducible repeat (first | refine blk_drewN ?_ _ | refine blk_drew ?_ | refine blk_alloc ?_ _)); refine blk_far ?_ NB351_364.out _; (with_reducible repeat (first | refine blk_drewN ?_ _ | refine blk_drew ?_ | refine blk_alloc ?_ _)); refine blk_far ?_ NB351_364.out _; (with_reducible repeat (first | refine blk_drewN ?_ _ | refine blk_drew ?_ | refine blk_alloc ?_ _)); exact BK351.out) Tryd.underlying97 rfl (by kernel_rfl)) rfl ?_
   exact ⟨by first | rfl | (simp [errW_none, errW_some] <;> rfl) | (simp [*, errW_none, errW_some] <;> rfl) | (have hw_ : ∀ n : Nat, (n + 1 ≤ 9223372036854775807) → wrap64 ((n : Int) + 1) = (n : Int) + 1 := fun n hn => by unfold wrap64; omega); (rw [hw_ _ (by first | assumption | omega)]); rfl, lb2_ HB.out GE351.out GE364.out⟩
  ·
   rw [if_neg c8] at H
   have c8b0 : decide (60 ≤ a0) = false := decide_eq_false c8
   clear c8
   replace H := Option.bind_eq_some_iff.mp H
   obtain ⟨t365, A140, H⟩ := H
   replace H : (if t365 = true then ((impl_encode.f k a0 t361 t362).bind fun t366 => (if t352.size + 1 ≤ 9223372036854775807 then (if t366.toList = (sc t352 (⟨#[10]⟩ : ByteArray)).toList then (some (t361, t362, wrap64 ((t352.size : Int) + 1), true)) else (some ((⟨#[]⟩ : ByteArray), (⟨#[]⟩ : ByteArray), 0, false))) else (none))) else (some ((⟨#[]⟩ : ByteArray), (⟨#[]⟩ : ByteArray), 0, false))) = some (r1, r2, r3, r4) := H
   have A14 := Aside0.mk A140
   clear A140
   by_cases c15 : t365 = true
   ·
    subst c15
    have H1 : ((impl_encode.f k a0 t361 t362).bind fun t366 => (if t352.size + 1 ≤ 9223372036854775807 then (if t366.toList = (sc t352 (⟨#[10]⟩ : ByteArray)).toList then (some (t361, t362, wrap64 ((t352.size : Int) + 1), true)) else (some ((⟨#[]⟩ : ByteArray), (⟨#[]⟩ : ByteArray), 0, false))) else (none))) = some (r1, r2, r3, r4) := by rw [if_pos rfl] at H; exact H
    clear H
    have H := H1
    clear H1
    replace H := Option.bind_eq_some_iff.mp H
    obtain ⟨t366, A160, H⟩ := H
    replace H : (if t352.size + 1 ≤ 9223372036854775807 then (if t366.toList = (sc t352 (⟨#[10]⟩ : ByteArray)).toList then (some (t361, t362, wrap64 ((t352.size : Int) + 1), true)) else (some ((⟨#[]⟩ : ByteArray), (⟨#[]⟩ : ByteArray), 0, false))) else (none)) = some (r1, r2, r3, r4) := H
    have A16 := Aside0.mk A160
    clear A160
    by_cases c17 : t352.size + 1 ≤ 9223372036854775807
    ·
     rw [if_pos c17] at H
     have c17b0 := eq_true c17
     have c17b1 : decide (t352.size + 1 ≤ 9223372036854775807) = true := decide_eq_true c17
     try have c17b2 : (9223372036854775807 < t352.size + 1) = False := eq_false (Nat.not_lt.2 c17)
     by_cases c18 : t366.toList = (sc t352 (⟨#[10]⟩ : ByteArray)).toList
     ·
      rw [if_pos c18] at H
      have c18b0 : (t366.toList == (sc t352 (⟨#[10]⟩ : ByteArray)).toList) = true := beq_iff_eq.mpr c18
      have c18b1 : (t366.toList != (sc t352 (⟨#[10]⟩ : ByteArray)).toList) = false := bne_eq_false_iff_eq.mpr c18
      clear c18
      simp only [Option.some.injEq, Prod.mk.injEq] at H
      obtain ⟨rfl, rfl, rfl, rfl⟩ := H
      go_enter Tryd.func62, Tryd.ntmps62
      go_wp2_with (first | ((with_reducible refine gate_dst (N := 4) rfl ?_); refine box_event ?hg (N := 4) ?hd (cs := #[.string (⟨#[]⟩ : ByteArray), .string (⟨#[]⟩ : ByteArray)]) (t := 97) ?hr ?_; (case hd => rfl); (case hg => rfl); (case hr => first | (go_simp; done) | (go_simp; rfl)); intro gb351 hg w19 hbox hb; have BK351 := Aside0.mk (hbox); have GW351 := Aside0.mk ((bz_ hg (lb0_ HB.out))); have GE351 := Aside0.mk ((bz_ hg (lb0_ HB.out))); replace HB := Aside0.mk (below_step (lb0_ HB.out) hb); clear hb hbox hg) | ((with_reducible refine gate_callee (f := 70) rfl ?_); refine ga_ (some 22) Tryd.func70 #[.string a1, .string (⟨#[10]⟩ : ByteArray)] ?_; (with_reducible refine (strings_Cut.calls a1 (⟨#[10]⟩ : ByteArray) t352 t353 true _ A3.out).mono ?_); rintro e w' ⟨rfl, ⟨nd, rfl⟩⟩; refine ⟨_, rfl, ?_⟩; (try (rw [drewN_self w19]; generalize hq_ : World.drewN w19 _ = w19; have n0_ : Aside0 (w19.heap[gb351]? = some (.cells #[.string (⟨#[]⟩ : ByteArray), .string (⟨#[]⟩ : ByteArray)] 97 (0, 0))) := ⟨by rw [← hq_]; exact (bk_ BK351.out)⟩; have n1_ : Aside0 (Below w.heap.size w w19) := ⟨by rw [← hq_]; exact (lb1_ HB.out GE351.out)⟩; clear BK351 HB hq_; have BK351 := n0_; have HB := n1_; clear n0_ n1_))) | ((with_reducible refine gate_callee (f := 70) rfl ?_); refine ga_ (some 28) Tryd.func70 #[.string t352, .string (⟨#[35]⟩ : ByteArray)] ?_; (with_reducible refine (strings_Cut.calls t352 (⟨#[35]⟩ : ByteArray) t355 t356 t357 _ A4.out).mono ?_); rintro e w' ⟨rfl, ⟨nd, rfl⟩⟩; refine ⟨_, rfl, ?_⟩; (try (rw [drewN_self w19]; generalize hq_ : World.drewN w19 _ = w19; have n0_ : Aside0 (w19.heap[gb351]? = some (.cells #[.string (⟨#[]⟩ : ByteArray), .string (⟨#[]⟩ : ByteArray)] 97 (0, 0))) := ⟨by rw [← hq_]; exact (bk_ BK351.out)⟩; have n1_ : Aside0 (Below w.heap.size w w19) := ⟨by rw [← hq_]; exact (lb1_ HB.out GE351.out)⟩; clear BK351 HB hq_; have BK351 := n0_; have HB := n1_; clear n0_ n1_))) | ((with_reducible refine gate_callee (f := 70) rfl ?_); refine ga_ (some 34) Tryd.func70 #[.string t355, .string (⟨#[32]⟩ : ByteArray)] ?_; (with_reducible refine (strings_Cut.calls t355 (⟨#[32]⟩ : ByteArray) t358 t359 t360 _ A5.out).mono ?_); rintro e w' ⟨rfl, ⟨nd, rfl⟩⟩; refine ⟨_, rfl, ?_⟩; (try (rw [drewN_self w19]; generalize hq_ : World.drewN w19 _ = w19; have n0_ : Aside0 (w19.heap[gb351]? = some (.cells #[.string (⟨#[]⟩ : ByteArray), .string (⟨#[]⟩ : ByteArray)] 97 (0, 0))) := ⟨by rw [← hq_]; exact (bk_ BK351.out)⟩; have n1_ : Aside0 (Below w.heap.size w w19) := ⟨by rw [← hq_]; exact (lb1_ HB.out GE351.out)⟩; clear BK351 HB hq_; have BK351 := n0_; have HB := n1_; clear n0_ n1_))) | ((with_reducible refine gate_callee (f := 70) rfl ?_); refine ga_ (some 40) Tryd.func70 #[.string t359, .string (⟨#[64]⟩ : ByteArray)] ?_; (with_reducible refine (strings_Cut.calls t359 (⟨#[64]⟩ : ByteArray) t361 t362 t363 _ A6.out).mono ?_); rintro e w' ⟨rfl, ⟨nd, rfl⟩⟩; refine ⟨_, rfl, ?_⟩; (try (rw [drewN_self w19]; generalize hq_ : World.drewN w19 _ = w19; have n0_ : Aside0 (w19.heap[gb351]? = some (.cells #[.string (⟨#[]⟩ : ByteArray), .string (⟨#[]⟩ : ByteArray)] 97 (0, 0))) := ⟨by rw [← hq_]; exact (bk_ BK351.out)⟩; have n1_ : Aside0 (Below w.heap.size w w19) := ⟨by rw [← hq_]; exact (lb1_ HB.out GE351.out)⟩; clear BK351 HB hq_; have BK351 := n0_; have HB := n1_; clear n0_ n1_))) | ((with_reducible refine gate_dst (N := 19) rfl ?_); refine box_event ?hg (N := 19) ?hd (cs := #[.string (⟨#[]⟩ : ByteArray), .string (⟨#[]⟩ : ByteArray)]) (t := 97) ?hr ?_; (case hd => rfl); (case hg => rfl); (case hr => first | (go_simp; done) | (go_simp; rfl)); intro gb364 hg w20 hbox hb; have BK364 := Aside0.mk (hbox); have GW364 := Aside0.mk ((bz_ hg (lb1_ HB.out GE351.out))); have GE364 := Aside0.mk ((bz_ hg (lb1_ HB.out GE351.out))); replace HB := Aside0.mk (below_step (lb1_ HB.out GE351.out) hb); have NB351_364 := Aside0.mk ((by rw [hg]; exact Nat.ne_of_lt (blk_lt (g := gb351) (o := .cells #[.string (⟨#[]⟩ : ByteArray), .string (⟨#[]⟩ : ByteArray)] 97 (0, 0)) (bk_ BK351.out)) : gb351 ≠ gb364)); have NB364_351 := Aside0.mk ((by rw [hg]; exact Nat.ne_of_gt (blk_lt (g := gb351) (o := .cells #[.string (⟨#[]⟩ : ByteArray), .string (⟨#[]⟩ : ByteArray)] 97 (0, 0)) (bk_ BK351.out)) : gb364 ≠ gb351)); replace BK351 := Aside0.mk (bb_ (bk_ BK351.out) hb); clear hb hbox hg; have hnb21 := NB364_351.out; have hnc21 := NB351_364.out; obtain ⟨hcz22_0, hcz22_1⟩ := cz2_ BK364.out; obtain ⟨hfz22_0, hfz22_1⟩ := fz2_ BK364.out) | (go_at_call 71; (with_reducible refine (impl_IsValidRecord.calls k t361 t362 true _ A14.out).mono ?_); rintro e w23 ⟨rfl, hb⟩; replace BK351 := Aside0.mk (blk_below (g := gb351) (o := .cells #[.string (⟨#[]⟩ : ByteArray), .string (⟨#[]⟩ : ByteArray)] 97 (0, 0)) (by (with_reducible repeat (first | refine blk_drewN ?_ _ | refine blk_drew ?_ | refine blk_alloc ?_ _)); refine blk_far ?_ NB351_364.out _; (with_reducible repeat (first | refine blk_drewN ?_ _ | refine blk_drew ?_ | refine blk_alloc ?_ _)); refine blk_far ?_ NB351_364.out _; (with_reducible repeat (first | refine blk_drewN ?_ _ | refine blk_drew ?_ | refine blk_alloc ?_ _)); exact BK351.out) hb); replace BK364 := Aside0.mk (blk_below (g := gb364) (o := .cells #[.string t361, .string t362] 97 (0, 0)) (by (with_reducible repeat (first | refine blk_drewN ?_ _ | refine blk_drew ?_ | refine blk_alloc ?_ _)); refine blk_put (cs := #[.string t361, .string (⟨#[]⟩ : ByteArray)]) ?_ 1 _ rfl; (with_reducible repeat (first | refine blk_drewN ?_ _ | refine blk_drew ?_ | refine blk_alloc ?_ _)); refine blk_put (cs := #[.string (⟨#[]⟩ : ByteArray), .string (⟨#[]⟩ : ByteArray)]) ?_ 0 _ rfl; (with_reducible repeat (first | refine blk_drewN ?_ _ | refine blk_drew ?_ | refine blk_alloc ?_ _)); exact BK364.out) hb); replace HB := Aside0.mk (below_step (lb2_ HB.out GE351.out GE364.out) hb); (try clear hb); (try clear hb2); (try clear hk); (try clear hi); obtain ⟨hcz24_0, hcz24_1⟩ := cz2_ BK364.out; obtain ⟨hfz24_0, hfz24_1⟩ := fz2_ BK364.out) | (go_at_call 72; (with_reducible refine (impl_encode.calls k a0 t361 t362 t366 _ A16.out ?sideT).mono ?_); (case sideT => first | (with_reducible exact HT.out) | (with_reducible exact Tb.step HT.out HB.out) | exact Tb.step HT.out (by repeat (first | (with_reducible first | exact HB.out | apply below_alloc | apply pw_below_drewN | apply below_drew1 | refine below_set ?_ GE351.out | refine below_set ?_ GE364.out) | exact HB.out | exact Below.refl _ _))); rintro e w25 ⟨rfl, hb⟩; replace BK351 := Aside0.mk (bb_ (bk_ BK351.out) hb); replace BK364 := Aside0.mk (bb_ (bk_ BK364.out) hb); replace HB := Aside0.mk (below_step (lb2_ HB.out GE351.out GE364.out) hb); (try clear hb); (try clear hb2); (try clear hk); (try clear hi); obtain ⟨hcz26_0, hcz26_1⟩ := cz2_ BK364.out; obtain ⟨hfz26_0, hfz26_1⟩ := fz2_ BK364.out; obtain ⟨hcz27_0, hcz27_1⟩ := cz2_ BK351.out; obtain ⟨hfz27_0, hfz27_1⟩ := fz2_ BK351.out))
      refine bodyPost_ret (results_ctt rfl _ _ gb351 97 #[.string t361, .string t362] (0, 0) _ rfl (by (with_reducible repeat (first | refine blk_drewN ?_ _ | refine blk_drew ?_ | refine blk_alloc ?_ _)); refine blk_put (cs := #[.string t361, .string (⟨#[]⟩ : ByteArray)]) ?_ 1 _ rfl; (with_reducible repeat (first | refine blk_drewN ?_ _ | refine blk_drew ?_ | refine blk_alloc ?_ _)); refine blk_put (cs := #[.string (⟨#[]⟩ : ByteArray), .string (⟨#[]⟩ : ByteArray)]) ?_ 0 _ rfl; (with_reducible repeat (first | refine blk_drewN ?_ _ | refine blk_drew ?_ | refine blk_alloc ?_ _)); exact BK351.out) Tryd.underlying97 rfl (by kernel_rfl)) rfl ?_
      exact ⟨by first | rfl | (simp [errW_none, errW_some] <;> rfl) | (simp [*, errW_none, errW_some] <;> rfl) | (have hw_ : ∀ n : Nat, (n + 1 ≤ 9223372036854775807) → wrap64 ((n : Int) + 1) = (n : Int) + 1 := fun n hn => by unfold wrap64; omega); (rw [hw_ _ (by first | assumption | omega)]); rfl, lb2_ HB.out GE351.out GE364.out⟩
     ·
      rw [if_neg c18] at H
      have c18b0 : (t366.toList == (sc t352 (⟨#[10]⟩ : ByteArray)).toList) = false := beq_eq_false_iff_ne.mpr c18
      have c18b1 : (t366.toList != (sc t352 (⟨#[10]⟩ : ByteArray)).toList) = true := bne_iff_ne.mpr c18
      simp only [Option.some.injEq, Prod.mk.injEq] at H
      obtain ⟨rfl, rfl, rfl, rfl⟩ := H
      go_enter Tryd.func62, Tryd.ntmps62
      go_wp2_with (first | ((with_reducible refine gate_dst (N := 4) rfl ?_); refine box_event ?hg (N := 4) ?hd (cs := #[.string (⟨#[]⟩ : ByteArray), .string (⟨#[]⟩ : ByteArray)]) (t := 97) ?hr ?_; (case hd => rfl); (case hg => rfl); (case hr => first | (go_simp; done) | (go_simp; rfl)); intro gb351 hg w28 hbox hb; have BK351 := Aside0.mk (hbox); have GW351 := Aside0.mk ((bz_ hg (lb0_ HB.out))); have GE351 := Aside0.mk ((bz_ hg (lb0_ HB.out))); replace HB := Aside0.mk (below_step (lb0_ HB.out) hb); clear hb hbox hg) | ((with_reducible refine gate_callee (f := 70) rfl ?_); refine ga_ (some 22) Tryd.func70 #[.string a1, .string (⟨#[10]⟩ : ByteArray)] ?_; (with_reducible refine (strings_Cut.calls a1 (⟨#[10]⟩ : ByteArray) t352 t353 true _ A3.out).mono ?_); rintro e w' ⟨rfl, ⟨nd, rfl⟩⟩; refine ⟨_, rfl, ?_⟩; (try (rw [drewN_self w28]; generalize hq_ : World.drewN w28 _ = w28; have n0_ : Aside0 (w28.heap[gb351]? = some (.cells #[.string (⟨#[]⟩ : ByteArray), .string (⟨#[]⟩ : ByteArray)] 97 (0, 0))) := ⟨by rw [← hq_]; exact (bk_ BK351.out)⟩; have n1_ : Aside0 (Below w.heap.size w w28) := ⟨by rw [← hq_]; exact (lb1_ HB.out GE351.out)⟩; clear BK351 HB hq_; have BK351 := n0_; have HB := n1_; clear n0_ n1_))) | ((with_reducible refine gate_callee (f := 70) rfl ?_); refine ga_ (some 28) Tryd.func70 #[.string t352, .string (⟨#[35]⟩ : ByteArray)] ?_; (with_reducible refine (strings_Cut.calls t352 (⟨#[35]⟩ : ByteArray) t355 t356 t357 _ A4.out).mono ?_); rintro e w' ⟨rfl, ⟨nd, rfl⟩⟩; refine ⟨_, rfl, ?_⟩; (try (rw [drewN_self w28]; generalize hq_ : World.drewN w28 _ = w28; have n0_ : Aside0 (w28.heap[gb351]? = some (.cells #[.string (⟨#[]⟩ : ByteArray), .string (⟨#[]⟩ : ByteArray)] 97 (0, 0))) := ⟨by rw [← hq_]; exact (bk_ BK351.out)⟩; have n1_ : Aside0 (Below w.heap.size w w28) := ⟨by rw [← hq_]; exact (lb1_ HB.out GE351.out)⟩; clear BK351 HB hq_; have BK351 := n0_; have HB := n1_; clear n0_ n1_))) | ((with_reducible refine gate_callee (f := 70) rfl ?_); refine ga_ (some 34) Tryd.func70 #[.string t355, .string (⟨#[32]⟩ : ByteArray)] ?_; (with_reducible refine (strings_Cut.calls t355 (⟨#[32]⟩ : ByteArray) t358 t359 t360 _ A5.out).mono ?_); rintro e w' ⟨rfl, ⟨nd, rfl⟩⟩; refine ⟨_, rfl, ?_⟩; (try (rw [drewN_self w28]; generalize hq_ : World.drewN w28 _ = w28; have n0_ : Aside0 (w28.heap[gb351]? = some (.cells #[.string (⟨#[]⟩ : ByteArray), .string (⟨#[]⟩ : ByteArray)] 97 (0, 0))) := ⟨by rw [← hq_]; exact (bk_ BK351.out)⟩; have n1_ : Aside0 (Below w.heap.size w w28) := ⟨by rw [← hq_]; exact (lb1_ HB.out GE351.out)⟩; clear BK351 HB hq_; have BK351 := n0_; have HB := n1_; clear n0_ n1_))) | ((with_reducible refine gate_callee (f := 70) rfl ?_); refine ga_ (some 40) Tryd.func70 #[.string t359, .string (⟨#[64]⟩ : ByteArray)] ?_; (with_reducible refine (strings_Cut.calls t359 (⟨#[64]⟩ : ByteArray) t361 t362 t363 _ A6.out).mono ?_); rintro e w' ⟨rfl, ⟨nd, rfl⟩⟩; refine ⟨_, rfl, ?_⟩; (try (rw [drewN_self w28]; generalize hq_ : World.drewN w28 _ = w28; have n0_ : Aside0 (w28.heap[gb351]? = some (.cells #[.string (⟨#[]⟩ : ByteArray), .string (⟨#[]⟩ : ByteArray)] 97 (0, 0))) := ⟨by rw [← hq_]; exact (bk_ BK351.out)⟩; have n1_ : Aside0 (Below w.heap.size w w28) := ⟨by rw [← hq_]; exact (lb1_ HB.out GE351.out)⟩; clear BK351 HB hq_; have BK351 := n0_; have HB := n1_; clear n0_ n1_))) | ((with_reducible refine gate_dst (N := 19) rfl ?_); refine box_event ?hg (N := 19) ?hd (cs := #[.string (⟨#[]⟩ : ByteArray), .string (⟨#[]⟩ : ByteArray)]) (t := 97) ?hr ?_; (case hd => rfl); (case hg => rfl); (case hr => first | (go_simp; done) | (go_simp; rfl)); intro gb364 hg w29 hbox hb; have BK364 := Aside0.mk (hbox); have GW364 := Aside0.mk ((bz_ hg (lb1_ HB.out GE351.out))); have GE364 := Aside0.mk ((bz_ hg (lb1_ HB.out GE351.out))); replace HB := Aside0.mk (below_step (lb1_ HB.out GE351.out) hb); have NB351_364 := Aside0.mk ((by rw [hg]; exact Nat.ne_of_lt (blk_lt (g := gb351) (o := .cells #[.string (⟨#[]⟩ : ByteArray), .string (⟨#[]⟩ : ByteArray)] 97 (0, 0)) (bk_ BK351.out)) : gb351 ≠ gb364)); have NB364_351 := Aside0.mk ((by rw [hg]; exact Nat.ne_of_gt (blk_lt (g := gb351) (o := .cells #[.string (⟨#[]⟩ : ByteArray), .string (⟨#[]⟩ : ByteArray)] 97 (0, 0)) (bk_ BK351.out)) : gb364 ≠ gb351)); replace BK351 := Aside0.mk (bb_ (bk_ BK351.out) hb); clear hb hbox hg; have hnb30 := NB364_351.out; have hnc30 := NB351_364.out; obtain ⟨hcz31_0, hcz31_1⟩ := cz2_ BK364.out; obtain ⟨hfz31_0, hfz31_1⟩ := fz2_ BK364.out) | (go_at_call 71; (with_reducible refine (impl_IsValidRecord.calls k t361 t362 true _ A14.out).mono ?_); rintro e w32 ⟨rfl, hb⟩; replace BK351 := Aside0.mk (blk_below (g := gb351) (o := .cells #[.string (⟨#[]⟩ : ByteArray), .string (⟨#[]⟩ : ByteArray)] 97 (0, 0)) (by (with_reducible repeat (first | refine blk_drewN ?_ _ | refine blk_drew ?_ | refine blk_alloc ?_ _)); refine blk_far ?_ NB351_364.out _; (with_reducible repeat (first | refine blk_drewN ?_ _ | refine blk_drew ?_ | refine blk_alloc ?_ _)); refine blk_far ?_ NB351_364.out _; (with_reducible repeat (first | refine blk_drewN ?_ _ | refine blk_drew ?_ | refine blk_alloc ?_ _)); exact BK351.out) hb); replace BK364 := Aside0.mk (blk_below (g := gb364) (o := .cells #[.string t361, .string t362] 97 (0, 0)) (by (with_reducible repeat (first | refine blk_drewN ?_ _ | refine blk_drew ?_ | refine blk_alloc ?_ _)); refine blk_put (cs := #[.string t361, .string (⟨#[]⟩ : ByteArray)]) ?_ 1 _ rfl; (with_reducible repeat (first | refine blk_drewN ?_ _ | refine blk_drew ?_ | refine blk_alloc ?_ _)); refine blk_put (cs := #[.string (⟨#[]⟩ : ByteArray), .string (⟨#[]⟩ : ByteArray)]) ?_ 0 _ rfl; (with_reducible repeat (first | refine blk_drewN ?_ _ | refine blk_drew ?_ | refine blk_alloc ?_ _)); exact BK364.out) hb); replace HB := Aside0.mk (below_step (lb2_ HB.out GE351.out GE364.out) hb); (try clear hb); (try clear hb2); (try clear hk); (try clear hi); obtain ⟨hcz33_0, hcz33_1⟩ := cz2_ BK364.out; obtain ⟨hfz33_0, hfz33_1⟩ := fz2_ BK364.out) | (go_at_call 72; (with_reducible refine (impl_encode.calls k a0 t361 t362 t366 _ A16.out ?sideT).mono ?_); (case sideT => first | (with_reducible exact HT.out) | (with_reducible exact Tb.step HT.out HB.out) | exact Tb.step HT.out (by repeat (first | (with_reducible first | exact HB.out | apply below_alloc | apply pw_below_drewN | apply below_drew1 | refine below_set ?_ GE351.out | refine below_set ?_ GE364.out) | exact HB.out | exact Below.refl _ _))); rintro e w34 ⟨rfl, hb⟩; replace BK351 := Aside0.mk (bb_ (bk_ BK351.out) hb); replace BK364 := Aside0.mk (bb_ (bk_ BK364.out) hb); replace HB := Aside0.mk (below_step (lb2_ HB.out GE351.out GE364.out) hb); (try clear hb); (try clear hb2); (try clear hk); (try clear hi); obtain ⟨hcz35_0, hcz35_1⟩ := cz2_ BK351.out; obtain ⟨hfz35_0, hfz35_1⟩ := fz2_ BK351.out))
      refine bodyPost_ret (results_ctt rfl _ _ gb351 97 #[.string (⟨#[]⟩ : ByteArray), .string (⟨#[]⟩ : ByteArray)] (0, 0) _ rfl (by (with_reducible repeat (first | refine blk_drewN ?_ _ | refine blk_drew ?_ | refine blk_alloc ?_ _)); refine blk_put (cs := #[.string (⟨#[]⟩ : ByteArray), .string (⟨#[]⟩ : ByteArray)]) ?_ 1 _ rfl; (with_reducible repeat (first | refine blk_drewN ?_ _ | refine blk_drew ?_ | refine blk_alloc ?_ _)); refine blk_put (cs := #[.string (⟨#[]⟩ : ByteArray), .string (⟨#[]⟩ : ByteArray)]) ?_ 0 _ rfl; (with_reducible repeat (first | refine blk_drewN ?_ _ | refine blk_drew ?_ | refine blk_alloc ?_ _)); exact BK351.out) Tryd.underlying97 rfl (by kernel_rfl)) rfl ?_
      exact ⟨by first | rfl | (simp [errW_none, errW_some] <;> rfl) | (simp [*, errW_none, errW_some] <;> rfl) | (have hw_ : ∀ n : Nat, (n + 1 ≤ 9223372036854775807) → wrap64 ((n : Int) + 1) = (n : Int) + 1 := fun n hn => by unfold wrap64; omega); (rw [hw_ _ (by first | assumption | omega)]); rfl, lb2_ HB.out GE351.out GE364.out⟩
    ·
     rw [if_neg c17] at H
     exact absurd H (by simp)
   ·
    replace c15 := Bool.eq_false_iff.mpr c15
    subst c15
    have H1 : (some ((⟨#[]⟩ : ByteArray), (⟨#[]⟩ : ByteArray), 0, false)) = some (r1, r2, r3, r4) := by rw [if_neg (show ¬ (false = true) by decide)] at H; exact H
    clear H
    have H := H1
    clear H1
    simp only [Option.some.injEq, Prod.mk.injEq] at H
    obtain ⟨rfl, rfl, rfl, rfl⟩ := H
    go_enter Tryd.func62, Tryd.ntmps62
    go_wp2_with (first | ((with_reducible refine gate_dst (N := 4) rfl ?_); refine box_event ?hg (N := 4) ?hd (cs := #[.string (⟨#[]⟩ : ByteArray), .string (⟨#[]⟩ : ByteArray)]) (t := 97) ?hr ?_; (case hd => rfl); (case hg => rfl); (case hr => first | (go_simp; done) | (go_simp; rfl)); intro gb351 hg w36 hbox hb; have BK351 := Aside0.mk (hbox); have GW351 := Aside0.mk ((bz_ hg (lb0_ HB.out))); have GE351 := Aside0.mk ((bz_ hg (lb0_ HB.out))); replace HB := Aside0.mk (below_step (lb0_ HB.out) hb); clear hb hbox hg) | ((with_reducible refine gate_callee (f := 70) rfl ?_); refine ga_ (some 22) Tryd.func70 #[.string a1, .string (⟨#[10]⟩ : ByteArray)] ?_; (with_reducible refine (strings_Cut.calls a1 (⟨#[10]⟩ : ByteArray) t352 t353 true _ A3.out).mono ?_); rintro e w' ⟨rfl, ⟨nd, rfl⟩⟩; refine ⟨_, rfl, ?_⟩; (try (rw [drewN_self w36]; generalize hq_ : World.drewN w36 _ = w36; have n0_ : Aside0 (w36.heap[gb351]? = some (.cells #[.string (⟨#[]⟩ : ByteArray), .string (⟨#[]⟩ : ByteArray)] 97 (0, 0))) := ⟨by rw [← hq_]; exact (bk_ BK351.out)⟩; have n1_ : Aside0 (Below w.heap.size w w36) := ⟨by rw [← hq_]; exact (lb1_ HB.out GE351.out)⟩; clear BK351 HB hq_; have BK351 := n0_; have HB := n1_; clear n0_ n1_))) | ((with_reducible refine gate_callee (f := 70) rfl ?_); refine ga_ (some 28) Tryd.func70 #[.string t352, .string (⟨#[35]⟩ : ByteArray)] ?_; (with_reducible refine (strings_Cut.calls t352 (⟨#[35]⟩ : ByteArray) t355 t356 t357 _ A4.out).mono ?_); rintro e w' ⟨rfl, ⟨nd, rfl⟩⟩; refine ⟨_, rfl, ?_⟩; (try (rw [drewN_self w36]; generalize hq_ : World.drewN w36 _ = w36; have n0_ : Aside0 (w36.heap[gb351]? = some (.cells #[.string (⟨#[]⟩ : ByteArray), .string (⟨#[]⟩ : ByteArray)] 97 (0, 0))) := ⟨by rw [← hq_]; exact (bk_ BK351.out)⟩; have n1_ : Aside0 (Below w.heap.size w w36) := ⟨by rw [← hq_]; exact (lb1_ HB.out GE351.out)⟩; clear BK351 HB hq_; have BK351 := n0_; have HB := n1_; clear n0_ n1_))) | ((with_reducible refine gate_callee (f := 70) rfl ?_); refine ga_ (some 34) Tryd.func70 #[.string t355, .string (⟨#[32]⟩ : ByteArray)] ?_; (with_reducible refine (strings_Cut.calls t355 (⟨#[32]⟩ : ByteArray) t358 t359 t360 _ A5.out).mono ?_); rintro e w' ⟨rfl, ⟨nd, rfl⟩⟩; refine ⟨_, rfl, ?_⟩; (try (rw [drewN_self w36]; generalize hq_ : World.drewN w36 _ = w36; have n0_ : Aside0 (w36.heap[gb351]? = some (.cells #[.string (⟨#[]⟩ : ByteArray), .string (⟨#[]⟩ : ByteArray)] 97 (0, 0))) := ⟨by rw [← hq_]; exact (bk_ BK351.out)⟩; have n1_ : Aside0 (Below w.heap.size w w36) := ⟨by rw [← hq_]; exact (lb1_ HB.out GE351.out)⟩; clear BK351 HB hq_; have BK351 := n0_; have HB := n1_; clear n0_ n1_))) | ((with_reducible refine gate_callee (f := 70) rfl ?_); refine ga_ (some 40) Tryd.func70 #[.string t359, .string (⟨#[64]⟩ : ByteArray)] ?_; (with_reducible refine (strings_Cut.calls t359 (⟨#[64]⟩ : ByteArray) t361 t362 t363 _ A6.out).mono ?_); rintro e w' ⟨rfl, ⟨nd, rfl⟩⟩; refine ⟨_, rfl, ?_⟩; (try (rw [drewN_self w36]; generalize hq_ : World.drewN w36 _ = w36; have n0_ : Aside0 (w36.heap[gb351]? = some (.cells #[.string (⟨#[]⟩ : ByteArray), .string (⟨#[]⟩ : ByteArray)] 97 (0, 0))) := ⟨by rw [← hq_]; exact (bk_ BK351.out)⟩; have n1_ : Aside0 (Below w.heap.size w w36) := ⟨by rw [← hq_]; exact (lb1_ HB.out GE351.out)⟩; clear BK351 HB hq_; have BK351 := n0_; have HB := n1_; clear n0_ n1_))) | ((with_reducible refine gate_dst (N := 19) rfl ?_); refine box_event ?hg (N := 19) ?hd (cs := #[.string (⟨#[]⟩ : ByteArray), .string (⟨#[]⟩ : ByteArray)]) (t := 97) ?hr ?_; (case hd => rfl); (case hg => rfl); (case hr => first | (go_simp; done) | (go_simp; rfl)); intro gb364 hg w37 hbox hb; have BK364 := Aside0.mk (hbox); have GW364 := Aside0.mk ((bz_ hg (lb1_ HB.out GE351.out))); have GE364 := Aside0.mk ((bz_ hg (lb1_ HB.out GE351.out))); replace HB := Aside0.mk (below_step (lb1_ HB.out GE351.out) hb); have NB351_364 := Aside0.mk ((by rw [hg]; exact Nat.ne_of_lt (blk_lt (g := gb351) (o := .cells #[.string (⟨#[]⟩ : ByteArray), .string (⟨#[]⟩ : ByteArray)] 97 (0, 0)) (bk_ BK351.out)) : gb351 ≠ gb364)); have NB364_351 := Aside0.mk ((by rw [hg]; exact Nat.ne_of_gt (blk_lt (g := gb351) (o := .cells #[.string (⟨#[]⟩ : ByteArray), .string (⟨#[]⟩ : ByteArray)] 97 (0, 0)) (bk_ BK351.out)) : gb364 ≠ gb351)); replace BK351 := Aside0.mk (bb_ (bk_ BK351.out) hb); clear hb hbox hg; have hnb38 := NB364_351.out; have hnc38 := NB351_364.out; obtain ⟨hcz39_0, hcz39_1⟩ := cz2_ BK364.out; obtain ⟨hfz39_0, hfz39_1⟩ := fz2_ BK364.out) | (go_at_call 71; (with_reducible refine (impl_IsValidRecord.calls k t361 t362 false _ A14.out).mono ?_); rintro e w40 ⟨rfl, hb⟩; replace BK351 := Aside0.mk (blk_below (g := gb351) (o := .cells #[.string (⟨#[]⟩ : ByteArray), .string (⟨#[]⟩ : ByteArray)] 97 (0, 0)) (by (with_reducible repeat (first | refine blk_drewN ?_ _ | refine blk_drew ?_ | refine blk_alloc ?_ _)); refine blk_far ?_ NB351_364.out _; (with_reducible repeat (first | refine blk_drewN ?_ _ | refine blk_drew ?_ | refine blk_alloc ?_ _)); refine blk_far ?_ NB351_364.out _; (with_reducible repeat (first | refine blk_drewN ?_ _ | refine blk_drew ?_ | refine blk_alloc ?_ _)); exact BK351.out) hb); replace BK364 := Aside0.mk (blk_below (g := gb364) (o := .cells #[.string t361, .string t362] 97 (0, 0)) (by (with_reducible repeat (first | refine blk_drewN ?_ _ | refine blk_drew ?_ | refine blk_alloc ?_ _)); refine blk_put (cs := #[.string t361, .string (⟨#[]⟩ : ByteArray)]) ?_ 1 _ rfl; (with_reducible repeat (first | refine blk_drewN ?_ _ | refine blk_drew ?_ | refine blk_alloc ?_ _)); refine blk_put (cs := #[.string (⟨#[]⟩ : ByteArray), .string (⟨#[]⟩ : ByteArray)]) ?_ 0 _ rfl; (with_reducible repeat (first | refine blk_drewN ?_ _ | refine blk_drew ?_ | refine blk_alloc ?_ _)); exact BK364.out) hb); replace HB := Aside0.mk (below_step (lb2_ HB.out GE351.out GE364.out) hb); (try clear hb); (try clear hb2); (try clear hk); (try clear hi); obtain ⟨hcz41_0, hcz41_1⟩ := cz2_ BK351.out; obtain ⟨hfz41_0, hfz41_1⟩ := fz2_ BK351.out))
    refine bodyPost_ret (results_ctt rfl _ _ gb351 97 #[.string (⟨#[]⟩ : ByteArray), .string (⟨#[]⟩ : ByteArray)] (0, 0) _ rfl (by (with_reducible repeat (first | refine blk_drewN ?_ _ | refine blk_drew ?_ | refine blk_alloc ?_ _)); refine blk_put (cs := #[.string (⟨#[]⟩ : ByteArray), .string (⟨#[]⟩ : ByteArray)]) ?_ 1 _ rfl; (with_reducible repeat (first | refine blk_drewN ?_ _ | refine blk_drew ?_ | refine blk_alloc ?_ _)); refine blk_put (cs := #[.string (⟨#[]⟩ : ByteArray), .string (⟨#[]⟩ : ByteArray)]) ?_ 0 _ rfl; (with_reducible repeat (first | refine blk_drewN ?_ _ | refine blk_drew ?_ | refine blk_alloc ?_ _)); exact BK351.out) Tryd.underlying97 rfl (by kernel_rfl)) rfl ?_
    exact ⟨by first | rfl | (simp [errW_none, errW_some] <;> rfl) | (simp [*, errW_none, errW_some] <;> rfl) | (have hw_ : ∀ n : Nat, (n + 1 ≤ 9223372036854775807) → wrap64 ((n : Int) + 1) = (n : Int) + 1 := fun n hn => by unfold wrap64; omega); (rw [hw_ _ (by first | assumption | omega)]); rfl, lb2_ HB.out GE351.out GE364.out⟩
 ·
  replace c7 := Bool.eq_false_iff.mpr c7
  subst c7
  have H1 : (some ((⟨#[]⟩ : ByteArray), (⟨#[]⟩ : ByteArray), 0, false)) = some (r1, r2, r3, r4) := by rw [if_neg (show ¬ (false = true) by decide)] at H; exact H
  clear H
  have H := H1
  clear H1
  simp only [Option.some.injEq, Prod.mk.injEq] at H
  obtain ⟨rfl, rfl, rfl, rfl⟩ := H
  go_enter Tryd.func62, Tryd.ntmps62
  go_wp2_with (first | ((with_reducible refine gate_dst (N := 4) rfl ?_); refine box_event ?hg (N := 4) ?hd (cs := #[.string (⟨#[]⟩ : ByteArray), .string (⟨#[]⟩ : ByteArray)]) (t := 97) ?hr ?_; (case hd => rfl); (case hg => rfl); (case hr => first | (go_simp; done) | (go_simp; rfl)); intro gb351 hg w42 hbox hb; have BK351 := Aside0.mk (hbox); have GW351 := Aside0.mk ((bz_ hg (lb0_ HB.out))); have GE351 := Aside0.mk ((bz_ hg (lb0_ HB.out))); replace HB := Aside0.mk (below_step (lb0_ HB.out) hb); clear hb hbox hg) | ((with_reducible refine gate_callee (f := 70) rfl ?_); refine ga_ (some 22) Tryd.func70 #[.string a1, .string (⟨#[10]⟩ : ByteArray)] ?_; (with_reducible refine (strings_Cut.calls a1 (⟨#[10]⟩ : ByteArray) t352 t353 false _ A3.out).mono ?_); rintro e w' ⟨rfl, ⟨nd, rfl⟩⟩; refine ⟨_, rfl, ?_⟩; (try (rw [drewN_self w42]; generalize hq_ : World.drewN w42 _ = w42; have n0_ : Aside0 (w42.heap[gb351]? = some (.cells #[.string (⟨#[]⟩ : ByteArray), .string (⟨#[]⟩ : ByteArray)] 97 (0, 0))) := ⟨by rw [← hq_]; exact (bk_ BK351.out)⟩; have n1_ : Aside0 (Below w.heap.size w w42) := ⟨by rw [← hq_]; exact (lb1_ HB.out GE351.out)⟩; clear BK351 HB hq_; have BK351 := n0_; have HB := n1_; clear n0_ n1_))) | ((with_reducible refine gate_callee (f := 70) rfl ?_); refine ga_ (some 28) Tryd.func70 #[.string t352, .string (⟨#[35]⟩ : ByteArray)] ?_; (with_reducible refine (strings_Cut.calls t352 (⟨#[35]⟩ : ByteArray) t355 t356 t357 _ A4.out).mono ?_); rintro e w' ⟨rfl, ⟨nd, rfl⟩⟩; refine ⟨_, rfl, ?_⟩; (try (rw [drewN_self w42]; generalize hq_ : World.drewN w42 _ = w42; have n0_ : Aside0 (w42.heap[gb351]? = some (.cells #[.string (⟨#[]⟩ : ByteArray), .string (⟨#[]⟩ : ByteArray)] 97 (0, 0))) := ⟨by rw [← hq_]; exact (bk_ BK351.out)⟩; have n1_ : Aside0 (Below w.heap.size w w42) := ⟨by rw [← hq_]; exact (lb1_ HB.out GE351.out)⟩; clear BK351 HB hq_; have BK351 := n0_; have HB := n1_; clear n0_ n1_))) | ((with_reducible refine gate_callee (f := 70) rfl ?_); refine ga_ (some 34) Tryd.func70 #[.string t355, .string (⟨#[32]⟩ : ByteArray)] ?_; (with_reducible refine (strings_Cut.calls t355 (⟨#[32]⟩ : ByteArray) t358 t359 t360 _ A5.out).mono ?_); rintro e w' ⟨rfl, ⟨nd, rfl⟩⟩; refine ⟨_, rfl, ?_⟩; (try (rw [drewN_self w42]; generalize hq_ : World.drewN w42 _ = w42; have n0_ : Aside0 (w42.heap[gb351]? = some (.cells #[.string (⟨#[]⟩ : ByteArray), .string (⟨#[]⟩ : ByteArray)] 97 (0, 0))) := ⟨by rw [← hq_]; exact (bk_ BK351.out)⟩; have n1_ : Aside0 (Below w.heap.size w w42) := ⟨by rw [← hq_]; exact (lb1_ HB.out GE351.out)⟩; clear BK351 HB hq_; have BK351 := n0_; have HB := n1_; clear n0_ n1_))) | ((with_reducible refine gate_callee (f := 70) rfl ?_); refine ga_ (some 40) Tryd.func70 #[.string t359, .string (⟨#[64]⟩ : ByteArray)] ?_; (with_reducible refine (strings_Cut.calls t359 (⟨#[64]⟩ : ByteArray) t361 t362 t363 _ A6.out).mono ?_); rintro e w' ⟨rfl, ⟨nd, rfl⟩⟩; refine ⟨_, rfl, ?_⟩; (try (rw [drewN_self w42]; generalize hq_ : World.drewN w42 _ = w42; have n0_ : Aside0 (w42.heap[gb351]? = some (.cells #[.string (⟨#[]⟩ : ByteArray), .string (⟨#[]⟩ : ByteArray)] 97 (0, 0))) := ⟨by rw [← hq_]; exact (bk_ BK351.out)⟩; have n1_ : Aside0 (Below w.heap.size w w42) := ⟨by rw [← hq_]; exact (lb1_ HB.out GE351.out)⟩; clear BK351 HB hq_; have BK351 := n0_; have HB := n1_; clear n0_ n1_))) | ((with_reducible refine gate_dst (N := 19) rfl ?_); refine box_event ?hg (N := 19) ?hd (cs := #[.string (⟨#[]⟩ : ByteArray), .string (⟨#[]⟩ : ByteArray)]) (t := 97) ?hr ?_; (case hd => rfl); (case hg => rfl); (case hr => first | (go_simp; done) | (go_simp; rfl)); intro gb364 hg w43 hbox hb; have BK364 := Aside0.mk (hbox); have GW364 := Aside0.mk ((bz_ hg (lb1_ HB.out GE351.out))); have GE364 := Aside0.mk ((bz_ hg (lb1_ HB.out GE351.out))); replace HB := Aside0.mk (below_step (lb1_ HB.out GE351.out) hb); have NB351_364 := Aside0.mk ((by rw [hg]; exact Nat.ne_of_lt (blk_lt (g := gb351) (o := .cells #[.string (⟨#[]⟩ : ByteArray), .string (⟨#[]⟩ : ByteArray)] 97 (0, 0)) (bk_ BK351.out)) : gb351 ≠ gb364)); have NB364_351 := Aside0.mk ((by rw [hg]; exact Nat.ne_of_gt (blk_lt (g := gb351) (o := .cells #[.string (⟨#[]⟩ : ByteArray), .string (⟨#[]⟩ : ByteArray)] 97 (0, 0)) (bk_ BK351.out)) : gb364 ≠ gb351)); replace BK351 := Aside0.mk (bb_ (bk_ BK351.out) hb); clear hb hbox hg; have hnb44 := NB364_351.out; have hnc44 := NB351_364.out; obtain ⟨hcz45_0, hcz45_1⟩ := cz2_ BK364.out; obtain ⟨hfz45_0, hfz45_1⟩ := fz2_ BK364.out; obtain ⟨hcz46_0, hcz46_1⟩ := cz2_ BK351.out; obtain ⟨hfz46_0, hfz46_1⟩ := fz2_ BK351.out))
  refine bodyPost_ret (results_ctt rfl _ _ gb351 97 #[.string (⟨#[]⟩ : ByteArray), .string (⟨#[]⟩ : ByteArray)] (0, 0) _ rfl (by (with_reducible repeat (first | refine blk_drewN ?_ _ | refine blk_drew ?_ | refine blk_alloc ?_ _)); refine blk_put (cs := #[.string (⟨#[]⟩ : ByteArray), .string (⟨#[]⟩ : ByteArray)]) ?_ 1 _ rfl; (with_reducible repeat (first | refine blk_drewN ?_ _ | refine blk_drew ?_ | refine blk_alloc ?_ _)); refine blk_put (cs := #[.string (⟨#[]⟩ : ByteArray), .string (⟨#[]⟩ : ByteArray)]) ?_ 0 _ rfl; (with_reducible repeat (first | refine blk_drewN ?_ _ | refine blk_drew ?_ | refine blk_alloc ?_ _)); refine blk_far ?_ NB351_364.out _; (with_reducible repeat (first | refine blk_drewN ?_ _ | refine blk_drew ?_ | refine blk_alloc ?_ _)); refine blk_far ?_ NB351_364.out _; (with_reducible repeat (first | refine blk_drewN ?_ _ | refine blk_drew ?_ | refine blk_alloc ?_ _)); exact BK351.out) Tryd.underlying97 rfl (by kernel_rfl)) rfl ?_
  exact ⟨by first | rfl | (simp [errW_none, errW_some] <;> rfl) | (simp [*, errW_none, errW_some] <;> rfl) | (have hw_ : ∀ n : Nat, (n + 1 ≤ 9223372036854775807) → wrap64 ((n : Int) + 1) = (n : Int) + 1 := fun n hn => by unfold wrap64; omega); (rw [hw_ _ (by first | assumption | omega)]); rfl, lb2_ HB.out GE351.out GE364.out⟩
def impl_readRecords.l0 : Nat → ByteArray → List (S97) → List Int → Option ((List (S97)) × List Int)
 | 0, _, _, _ => none
 | k + 1, x0, x4, x5 => if 0 ≤ (wrap64 ((x5.length : Int) - 1)) then (if (wrap64 ((x5.length : Int) - 1)) < (x5.length : Int) then (if 0 ≤ (rd x5 (wrap64 ((x5.length : Int) - 1))) then (if (rd x5 (wrap64 ((x5.length : Int) - 1))) ≤ (x0.size : Int) then ((impl_readRecord.f k (x4.length : Int) (sx x0 (((rd x5 (wrap64 ((x5.length : Int) - 1))) : Int).toNat) (x0.size))).bind fun bt371 => (if bt371.2.2.2 = true then (if x4.length < 4398046511104 then (if x5.length < 17592186044416 then (impl_readRecords.l0 k x0 (x4 ++ [(⟨bt371.1, bt371.2.1⟩ : S97)]) (x5 ++ [wrap64 ((rd x5 (wrap64 ((x5.length : Int) - 1))) + bt371.2.2.1)])) else (none)) else (none)) else (some (x4, x5)))) else (none)) else (none)) else (none)) else (none)
def impl_readRecords.f (k : Nat) (a0 : ByteArray) : Option ((List (S97)) × List Int) := impl_readRecords.l0 k a0 ([] : List (S97)) (([0] : List Int))
theorem impl_readRecords.calls (k : Nat) (a0 : ByteArray) (r1 : List (S97)) (r2 : List Int) (w : World) (h : impl_readRecords.f k a0 = some (r1, r2)) (hT : Tb w) :
  Calls Tryd.prog 52 #[.string a0] w fun e w' => ∃ v0_ v1_ : Value, e = .returned (.tuple #[v0_, v1_]) ∧ Kd.R k97 97 w' w.heap.size (fun _ => True) v0_ r1 ∧ Kd.R (Kd.int .i64) 3 w' w.heap.size (fun _ => True) v1_ r2 ∧ Below w.heap.size w w' := by
 have HT := Aside0.mk hT
 clear hT
 have hu97 := Tryd.underlying97
 have HB := Aside0.mk (Below.refl w.heap.size w)
 have H : (impl_readRecords.l0 k a0 ([] : List (S97)) (([0] : List Int))) = some (r1, r2) := h
 clear h
 obtain ⟨y367, hy367⟩ : ∃ y_ : List Int, y_ = (([0] : List Int)) := ⟨_, rfl⟩
 replace H : (impl_readRecords.l0 k a0 ([] : List (S97)) y367) = some (r1, r2) := by first | (rw [hy367]; with_reducible exact H) | (have H2_ := (Option.bind_some _ _).symm.trans H; rw [hy367]; with_reducible exact H2_) | (have H2_ := (Option.bind_some _ _).symm.trans H; with_reducible exact H2_) | with_reducible exact H | (rw [hy367]; exact H) | exact H
 have Ny367 := Aside0.mk hy367
 clear hy367
 have H' := Aside0.mk H
 clear H
 go_enter Tryd.func52, Tryd.ntmps52
 go_wp2_with (first | ((with_reducible refine gate_dst (N := 10) rfl ?_); refine Kd.R_lit (Kd.int .i64) _ 3 ?hg (N := 10) ?hd (xs := ([0] : List Int)) (inner := [.int .i64 0]) (ok := fun _ => True) (okp := fun _ => True) ?hr ?hp (fun _ hk => hk) trivial (Below.refl _ _) (Nat.le_refl _) (by simp) ?_; (case hd => rfl); (case hg => rfl); (case hr => first | (go_simp; done) | (go_simp; rfl)); (case hp => exact (Reps.one (show Kd.M (Kd.int .i64) _ _ _ 0 [.int .i64 0] from rfl) (Reps.none _ _))); intro v368 w2 ho3 hb hg_ hnew_; clear hg_ hnew_; replace ho3 := ry_ Ny367.out ho3; have HO369 := Aside0.mk (Kd.R_lower ho3 (below_size (lb0_ HB.out))); replace HB := Aside0.mk (below_step (lb0_ HB.out) hb); clear hb ho3))
 go_loopg [4, 5] k (fun kq v4 v5 w' => ∃ (x4_1 : List (S97)) (x5_1 : List Int), Aside0 (impl_readRecords.l0 kq a0 x4_1 x5_1 = some (r1, r2)) ∧ Aside0 (kq ≤ k) ∧ Aside0 (Kd.R k97 97 w' w.heap.size (fun _ => True) v4 x4_1) ∧ Aside0 (Kd.R (Kd.int .i64) 3 w' w.heap.size (fun _ => True) v5 x5_1) ∧ Aside0 (Below w.heap.size w w'))
 case atStart => exact ⟨(([] : List (S97))), (y367), H', ⟨Nat.le_refl _⟩, ⟨by first | exact Kd.R_nil _ _ _ _ _ | exact Kd.N_nil _ _ _ _ _ | exact Kd.V_nil _ _ _ _ _ | exact Kd.Q_nil _ _ _ _ _ | exact Kd.S_nil _ _ _ _ _⟩, ⟨kr_ HO369.out⟩, ⟨lb0_ HB.out⟩⟩
 case round =>
  clear H'
  try clear p2
  obtain ⟨x4_1, x5_1, HA, HK1, HO_4, HO_5, HB⟩ := hrel
  cases gk with
  | zero => exact absurd HA.out (by simp [impl_readRecords.l0])
  | succ k1 =>
   have H := HA.out
   clear HA
   simp only [impl_readRecords.l0] at H
   obtain ⟨ji4, hji4⟩ : ∃ j_ : Int, (wrap64 ((x5_1.length : Int) - 1)) = j_ := ⟨_, rfl⟩
   replace H : (if 0 ≤ (ji4) then (if (ji4) < (x5_1.length : Int) then (if 0 ≤ (rd x5_1 (ji4)) then (if (rd x5_1 (ji4)) ≤ (a0.size : Int) then ((impl_readRecord.f k1 (x4_1.length : Int) (sx a0 (((rd x5_1 (ji4)) : Int).toNat) (a0.size))).bind fun bt371 => (if bt371.2.2.2 = true then (if x4_1.length < 4398046511104 then (if x5_1.length < 17592186044416 then (impl_readRecords.l0 k1 a0 (x4_1 ++ [(⟨bt371.1, bt371.2.1⟩ : S97)]) (x5_1 ++ [wrap64 ((rd x5_1 (ji4)) + bt371.2.2.1)])) else (none)) else (none)) else (some (x4_1, x5_1)))) else (none)) else (none)) else (none)) else (none)) = some (r1, r2) := by first | (rw [hji4] at H; exact H) | (simp only [hji4] at H ⊢; exact H)
   have hji4w : (IntKind.i64.wrap ((x5_1.length : Int) - 1)) = ji4 := (i64_w _).trans hji4
   by_cases c5 : 0 ≤ (ji4)
   ·
    rw [if_pos c5] at H
    have c5b0 : decide (0 ≤ (ji4)) = true := decide_eq_true c5
    clear c5
    by_cases c6 : (ji4) < (x5_1.length : Int)
    ·
     rw [if_pos c6] at H
     have c6b0 : decide ((ji4) < (x5_1.length : Int)) = true := decide_eq_true c6
     clear c6
     by_cases c7 : 0 ≤ (rd x5_1 (ji4))
     ·
      rw [if_pos c7] at H
      have c7b0 := eq_true c7
      have c7b1 : decide (0 ≤ (rd x5_1 (ji4))) = true := decide_eq_true c7
      clear c7
      by_cases c8 : (rd x5_1 (ji4)) ≤ (a0.size : Int)
      ·
       rw [if_pos c8] at H
       have c8b0 := eq_true c8
       have c8b1 : decide ((rd x5_1 (ji4)) ≤ (a0.size : Int)) = true := decide_eq_true c8
       clear c8
       replace H := Option.bind_eq_some_iff.mp H
       obtain ⟨⟨t371, t372, t373, t374⟩, A90, H⟩ := H
       replace H : (if t374 = true then (if x4_1.length < 4398046511104 then (if x5_1.length < 17592186044416 then (impl_readRecords.l0 k1 a0 (x4_1 ++ [(⟨t371, t372⟩ : S97)]) (x5_1 ++ [wrap64 ((rd x5_1 (ji4)) + t373)])) else (none)) else (none)) else (some (x4_1, x5_1))) = some (r1, r2) := H
       have A9 := Aside0.mk A90
       clear A90
       by_cases c10 : t374 = true
       ·
        subst c10
        have H1 : (if x4_1.length < 4398046511104 then (if x5_1.length < 17592186044416 then (impl_readRecords.l0 k1 a0 (x4_1 ++ [(⟨t371, t372⟩ : S97)]) (x5_1 ++ [wrap64 ((rd x5_1 (ji4)) + t373)])) else (none)) else (none)) = some (r1, r2) := by rw [if_pos rfl] at H; exact H
        clear H; have H := H1; clear H1
        by_cases c11 : x4_1.length < 4398046511104
        ·
         rw [if_pos c11] at H
         have LMc11 := Aside0.mk c11; clear c11
         obtain ⟨y376, hy376⟩ : ∃ y_ : List (S97), y_ = (x4_1 ++ [(⟨t371, t372⟩ : S97)]) := ⟨_, rfl⟩
         replace H : (if x5_1.length < 17592186044416 then (impl_readRecords.l0 k1 a0 y376 (x5_1 ++ [wrap64 ((rd x5_1 (ji4)) + t373)])) else (none)) = some (r1, r2) := by first | (rw [hy376]; with_reducible exact H) | (have H2_ := (Option.bind_some _ _).symm.trans H; rw [hy376]; with_reducible exact H2_) | (have H2_ := (Option.bind_some _ _).symm.trans H; with_reducible exact H2_) | with_reducible exact H | (rw [hy376]; exact H) | exact H
         have Ny376 := Aside0.mk hy376; clear hy376
         by_cases c12 : x5_1.length < 17592186044416
         ·
          rw [if_pos c12] at H
          have LMc12 := Aside0.mk c12; clear c12
          obtain ⟨y379, hy379⟩ : ∃ y_ : List Int, y_ = (x5_1 ++ [wrap64 ((rd x5_1 (ji4)) + t373)]) := ⟨_, rfl⟩
          replace H : (impl_readRecords.l0 k1 a0 y376 y379) = some (r1, r2) := by first | (rw [hy379]; with_reducible exact H) | (have H2_ := (Option.bind_some _ _).symm.trans H; rw [hy379]; with_reducible exact H2_) | (have H2_ := (Option.bind_some _ _).symm.trans H; with_reducible exact H2_) | with_reducible exact H | (rw [hy379]; exact H) | exact H
          have Ny379 := Aside0.mk hy379; clear hy379; have H' := Aside0.mk H; clear H; obtain ⟨Ao13, co13, eo13⟩ := Kd.R_slice HO_5.out; subst eo13; have p370 : 0 ≤ ((ji4) : Int) := dt_; have q370 : (ji4) < (x5_1.length : Int) := dt_; obtain ⟨ad370, e370, hx370_0⟩ := Kd.at_int (Kd.R_reads' HO_5.out).2.2 (ji4) p370 q370
          cases e370
          replace p370 := eq_true p370; replace q370 := eq_true q370; obtain ⟨Ao14, co14, eo14⟩ := Kd.R_slice HO_4.out; subst eo14
          go_wp2_with (first | ((with_reducible refine gate_callee (f := 62) rfl ?_); refine goesL_ (some 23) rfl rfl Tryd.func62 (by kernel_rfl) rfl #[.int .i64 (x4_1.length : Int), .string (sx a0 (((rd x5_1 (ji4)) : Int).toNat) (a0.size))] rfl (by (try simp only [List.map_toArray, List.map_cons, List.map_nil]); first | done | (simp only [hji4]; rfl) | rfl | (simp only [List.length_drop, List.length_take]; rfl)) ?_; (with_reducible refine (impl_readRecord.calls k1 (x4_1.length : Int) (sx a0 (((rd x5_1 (ji4)) : Int).toNat) (a0.size)) t371 t372 t373 true _ A9.out ?sideT).mono ?_); (case sideT => first | (with_reducible exact HT.out) | (with_reducible exact Tb.step HT.out HB.out) | exact Tb.step HT.out (by repeat (first | (with_reducible first | exact HB.out | apply below_alloc | apply pw_below_drewN | apply below_drew1 | refine below_set ?_ GE375.out) | exact HB.out | exact Below.refl _ _))); rintro e w15 ⟨rfl, hb⟩; refine ⟨_, rfl, ?_⟩; replace HO_4 := Aside0.mk (Kd.R_below (kr_ HO_4.out) hb); replace HO_5 := Aside0.mk (Kd.R_below (kr_ HO_5.out) hb); replace HB := Aside0.mk (below_step (lb0_ HB.out) hb); (try clear hb); (try clear hb2); (try clear hk); (try clear hi)) | ((with_reducible refine gate_dst (N := 7) rfl ?_); refine box_event ?hg (N := 7) ?hd (cs := #[.string (⟨#[]⟩ : ByteArray), .string (⟨#[]⟩ : ByteArray)]) (t := 97) ?hr ?_; (case hd => rfl); (case hg => rfl); (case hr => first | (go_simp; done) | (go_simp; rfl)); intro gb375 hg w16 hbox hb; replace HO_4 := Aside0.mk (Kd.R_below (Kd.R_elderB (kr_ HO_4.out) gb375 (Nat.le_of_eq hg.symm)) hb); replace HO_5 := Aside0.mk (Kd.R_below (kr_ HO_5.out) hb); have BK375 := Aside0.mk (hbox); have GW375 := Aside0.mk ((bz_ hg (lb0_ HB.out))); have GE375 := Aside0.mk ((bz_ hg (lb0_ HB.out))); replace HB := Aside0.mk (below_step (lb0_ HB.out) hb); clear hb hbox hg; obtain ⟨hcz17_0, hcz17_1⟩ := cz2_ BK375.out; obtain ⟨hfz17_0, hfz17_1⟩ := fz2_ BK375.out) | ((with_reducible refine gate_builtin (b := .append) (xs := #[.tmp 31, .tmp 33]) rfl ?_); at_builtin; refine Kd.R_append k97 (w0 := w) w.heap.size rfl (.tmp 31) (.tmp 33) 74 97 (.agg #[(.string ⟨#[]⟩), (.string ⟨#[]⟩)]) 32 rfl Tryd.underlying74 info97 rfl (by decide) (by omega) (.slice Ao14 x4_1.length co14) x4_1 (⟨t371, t372⟩ : S97) [.string t371, .string t372] (fun k_ => k_ ≠ gb375) (fun _ => False) rfl (by first | (go_simp; done) | (go_simp; rfl)) ?aP (fun _ hk => hk.elim) ?aF ?aO ?aB ?aS ?aL ?_; (case aP => exact k97_mkM _ _ _ (⟨t371, t372⟩ : S97)); (case aB => exact (lb1_ HB.out GE375.out)); (case aF => exact (fun k_ hk => Kd.freshB (g := gb375) (o := .cells #[.string t371, .string t372] 97 (0, 0)) (by (with_reducible repeat (first | refine blk_drewN ?_ _ | refine blk_drew ?_ | refine blk_alloc ?_ _)); refine blk_put (cs := #[.string t371, .string (⟨#[]⟩ : ByteArray)]) ?_ 1 _ rfl; (with_reducible repeat (first | refine blk_drewN ?_ _ | refine blk_drew ?_ | refine blk_alloc ?_ _)); refine blk_put (cs := #[.string (⟨#[]⟩ : ByteArray), .string (⟨#[]⟩ : ByteArray)]) ?_ 0 _ rfl; (with_reducible repeat (first | refine blk_drewN ?_ _ | refine blk_drew ?_ | refine blk_alloc ?_ _)); exact BK375.out) k_ hk)); (case aO => exact (by (with_reducible repeat (first | apply Kd.R_alloc | apply Kd.R_drewN | apply Kd.R_drew)); exact Kd.R_mono (Kd.R_far (p := ⟨gb375, 1, none⟩) (Kd.R_far (p := ⟨gb375, 0, none⟩) (Kd.R_mono HO_4.out (fun k_ hk => (⟨hk, hk.2⟩ : _ ∧ k_ ≠ gb375))) (fun _ hk => hk.2) (.string t371)) (fun _ hk => hk.2) (.string t372)) (fun _ hk => hk.1.2))); (case aS => exact (below_size (lb1_ HB.out GE375.out))); (case aL => have := LMc11.out; omega); intro v377 w18 ho hb hg hat; rw [← Ny376.out] at ho; replace HO_5 := Aside0.mk (Kd.R_over' (kg_ HO_5.out BK375.out) (Kd.R_typed (by (with_reducible repeat (first | apply Kd.R_alloc | apply Kd.R_drewN | apply Kd.R_drew)); exact (Kd.R_mono (Kd.R_far (p := ⟨gb375, 1, none⟩) (Kd.R_far (p := ⟨gb375, 0, none⟩) (Kd.R_mono HO_4.out (fun k_ hk => (⟨hk, hk.2⟩ : _ ∧ k_ ≠ gb375))) (fun _ hk => hk.2) (.string t371)) (fun _ hk => hk.2) (.string t372)) (fun _ h_ => h_.1)))) (by decide) hg); replace BK375 := Aside0.mk (blk_grown (g := gb375) (o := .cells #[.string t371, .string t372] 97 (0, 0)) (by (with_reducible repeat (first | refine blk_drewN ?_ _ | refine blk_drew ?_ | refine blk_alloc ?_ _)); refine blk_put (cs := #[.string t371, .string (⟨#[]⟩ : ByteArray)]) ?_ 1 _ rfl; (with_reducible repeat (first | refine blk_drewN ?_ _ | refine blk_drew ?_ | refine blk_alloc ?_ _)); refine blk_put (cs := #[.string (⟨#[]⟩ : ByteArray), .string (⟨#[]⟩ : ByteArray)]) ?_ 0 _ rfl; (with_reducible repeat (first | refine blk_drewN ?_ _ | refine blk_drew ?_ | refine blk_alloc ?_ _)); exact BK375.out) hg (Kd.R_away HO_4.out (fun _ hk => hk.2))); replace HB := Aside0.mk (hb); have HO378 := Aside0.mk (ho); clear HO_4; clear ho hb hg hat) | ((with_reducible refine gate_builtin (b := .append) (xs := #[.tmp 35, .tmp 39]) rfl ?_); at_builtin; refine Kd.R_append (Kd.int .i64) (w0 := w) w.heap.size rfl (.tmp 35) (.tmp 39) 86 3 (.int .i64 0) 8 rfl Tryd.underlying86 info3 rfl (by decide) (by omega) (.slice (some ad370) x5_1.length co13) x5_1 (wrap64 ((rd x5_1 (ji4)) + t373)) [.int .i64 (wrap64 ((rd x5_1 (ji4)) + t373))] (fun _ => True) (fun _ => False) rfl rfl ?aP (fun _ hk => hk.elim) ?aF ?aO ?aB ?aS ?aL ?_; (case aP => exact rfl); (case aB => exact (lb1_ HB.out GE375.out)); (case aF => exact (fun _ _ => trivial)); (case aO => exact (kr_ HO_5.out)); (case aS => exact (below_size (lb1_ HB.out GE375.out))); (case aL => have := LMc12.out; omega); intro v380 w19 ho hb hg hat; rw [← Ny379.out] at ho; replace BK375 := Aside0.mk (blk_grown (g := gb375) (o := .cells #[.string t371, .string t372] 97 (0, 0)) (bk_ BK375.out) hg (Kd.R_ne HO_5.out BK375.out (by decide))); replace HO378 := Aside0.mk (Kd.R_over' (kr_ HO378.out) (Kd.R_typed (kr_ HO_5.out)) (by decide) hg); replace HB := Aside0.mk (hb); have HO381 := Aside0.mk (ho); clear HO_5; clear ho hb hg hat))
          go_roundg k1
          case measure => have := HK1.out; omega
          case rel => exact ⟨(y376), (y379), H', ⟨by have := HK1.out; omega⟩, ⟨krm_ HO378.out (fun _ hk => trivial)⟩, ⟨kr_ HO381.out⟩, ⟨lb1_ HB.out GE375.out⟩⟩
         ·
          rw [if_neg c12] at H
          exact absurd H (by simp)
        ·
         rw [if_neg c11] at H
         exact absurd H (by simp)
       ·
        replace c10 := Bool.eq_false_iff.mpr c10; subst c10
        have H1 : (some (x4_1, x5_1)) = some (r1, r2) := by rw [if_neg (show ¬ (false = true) by decide)] at H; exact H
        clear H; have H := H1; clear H1; simp only [Option.some.injEq, Prod.mk.injEq] at H; obtain ⟨rfl, rfl⟩ := H; obtain ⟨Ao20, co20, eo20⟩ := Kd.R_slice HO_5.out; subst eo20; have p370 : 0 ≤ ((ji4) : Int) := dt_; have q370 : (ji4) < (x5_1.length : Int) := dt_; obtain ⟨ad370, e370, hx370_0⟩ := Kd.at_int (Kd.R_reads' HO_5.out).2.2 (ji4) p370 q370
        cases e370
        replace p370 := eq_true p370; replace q370 := eq_true q370; obtain ⟨Ao21, co21, eo21⟩ := Kd.R_slice HO_4.out; subst eo21
        go_wp2_with (first | ((with_reducible refine gate_callee (f := 62) rfl ?_); refine goesL_ (some 23) rfl rfl Tryd.func62 (by kernel_rfl) rfl #[.int .i64 (x4_1.length : Int), .string (sx a0 (((rd x5_1 (ji4)) : Int).toNat) (a0.size))] rfl (by (try simp only [List.map_toArray, List.map_cons, List.map_nil]); first | done | (simp only [hji4]; rfl) | rfl | (simp only [List.length_drop, List.length_take]; rfl)) ?_; (with_reducible refine (impl_readRecord.calls k1 (x4_1.length : Int) (sx a0 (((rd x5_1 (ji4)) : Int).toNat) (a0.size)) t371 t372 t373 false _ A9.out ?sideT).mono ?_); (case sideT => first | (with_reducible exact HT.out) | (with_reducible exact Tb.step HT.out HB.out) | exact Tb.step HT.out (by repeat (first | (with_reducible first | exact HB.out | apply below_alloc | apply pw_below_drewN | apply below_drew1 | refine below_set ?_ GE375.out) | exact HB.out | exact Below.refl _ _))); rintro e w22 ⟨rfl, hb⟩; refine ⟨_, rfl, ?_⟩; replace HO_4 := Aside0.mk (Kd.R_below (kr_ HO_4.out) hb); replace HO_5 := Aside0.mk (Kd.R_below (kr_ HO_5.out) hb); replace HB := Aside0.mk (below_step (lb0_ HB.out) hb); (try clear hb); (try clear hb2); (try clear hk); (try clear hi)) | ((with_reducible refine gate_dst (N := 7) rfl ?_); refine box_event ?hg (N := 7) ?hd (cs := #[.string (⟨#[]⟩ : ByteArray), .string (⟨#[]⟩ : ByteArray)]) (t := 97) ?hr ?_; (case hd => rfl); (case hg => rfl); (case hr => first | (go_simp; done) | (go_simp; rfl)); intro gb375 hg w23 hbox hb; replace HO_4 := Aside0.mk (Kd.R_below (Kd.R_elderB (kr_ HO_4.out) gb375 (Nat.le_of_eq hg.symm)) hb); replace HO_5 := Aside0.mk (Kd.R_below (kr_ HO_5.out) hb); have BK375 := Aside0.mk (hbox); have GW375 := Aside0.mk ((bz_ hg (lb0_ HB.out))); have GE375 := Aside0.mk ((bz_ hg (lb0_ HB.out))); replace HB := Aside0.mk (below_step (lb0_ HB.out) hb); clear hb hbox hg; obtain ⟨hcz24_0, hcz24_1⟩ := cz2_ BK375.out; obtain ⟨hfz24_0, hfz24_1⟩ := fz2_ BK375.out))
        go_ret2
        exact ⟨_, _, by first | rfl | (simp [errW_none, errW_some] <;> rfl) | (simp only [← hji4]; first | rfl | (simp [errW_none, errW_some] <;> rfl)) | (simp [*, errW_none, errW_some] <;> rfl), by (with_reducible repeat (first | apply Kd.R_alloc | apply Kd.R_drewN | apply Kd.R_drew)); exact Kd.R_mono (Kd.R_far (p := ⟨gb375, 1, none⟩) (Kd.R_far (p := ⟨gb375, 0, none⟩) (Kd.R_mono HO_4.out (fun k_ hk => (⟨hk, hk.2⟩ : _ ∧ k_ ≠ gb375))) (fun _ hk => hk.2) (.string t371)) (fun _ hk => hk.2) (.string t372)) (fun _ hk => trivial), by (with_reducible repeat (first | apply Kd.R_alloc | apply Kd.R_drewN | apply Kd.R_drew)); exact Kd.R_mono (Kd.R_far (p := ⟨gb375, 1, none⟩) (Kd.R_far (p := ⟨gb375, 0, none⟩) (Kd.R_types HO_5.out BK375.out (by decide)) (fun _ hk => hk.2) (.string t371)) (fun _ hk => hk.2) (.string t372)) (fun _ hk => trivial), lb1_ HB.out GE375.out⟩
      ·
       rw [if_neg c8] at H
       exact absurd H (by simp)
     ·
      rw [if_neg c7] at H
      exact absurd H (by simp)
    ·
     rw [if_neg c6] at H
     exact absurd H (by simp)
   ·
    rw [if_neg c5] at H
    exact absurd H (by simp)
end Go.Proofs.YtckigdechhmegaaDoor.Pr

namespace Go.Proofs.YtckigdechhmegaaDoor.Pr
open Go.RowKit Go.Proofs.YtckigdechhmegaaDoorW.PrintWords Go.Proofs.YtckigdechhmegaaDoorW.PrintLast Go.Proofs.YtckigdechhmegaaDoorW.PrintMore
attribute [local go_sem] max2_int min2_int max_two min_two max_three min_three max_four min_four   -- for this text's walks alone
set_option linter.unusedVariables false
set_option linter.unusedSimpArgs false
def slices_Index_int_int.l0 : Nat → List Int → Int → Int → Int → Option (Int)
 | 0, _, _, _, _ => none
 | k + 1, x0, x1, x7, x8 => if x8 < x7 then (if 0 ≤ x8 then (if x8 < (x0.length : Int) then (if x1 = (rd x0 x8) then (some x8) else (slices_Index_int_int.l0 k x0 x1 x7 (wrap64 (x8 + 1)))) else (none)) else (none)) else (some (-1))
def slices_Index_int_int.f (k : Nat) (l0 : List Int) (a1 : Int) : Option (Int) := slices_Index_int_int.l0 k l0 a1 (l0.length : Int) 0
theorem slices_Index_int_int.calls (k : Nat) (A0 : Option Addr) (c0 : Nat) (l0 : List Int) (a1 : Int) (r : Int) (w : World) (hr0 : Kd.C (Kd.int .i64) w A0 l0.length l0) (hc0 : l0.length ≤ c0) (h : slices_Index_int_int.f k l0 a1 = some r) :
  Calls Tryd.prog 73 #[.slice A0 l0.length c0, .int .i64 a1] w fun e w' => e = .returned (.int .i64 r) ∧ Drawn0 w w' := by
 have HR0 := Aside0.mk hr0
 have HC0 := Aside0.mk hc0
 clear hr0 hc0
 have H : (slices_Index_int_int.l0 k l0 a1 (l0.length : Int) 0) = some r := h
 clear h
 have H' := Aside0.mk H
 clear H
 go_enter Tryd.func73, Tryd.ntmps73
 go_wp2
 go_loopg [8] k (fun kq v8 w' => ∃ (x8_1 : Int), v8 = .int .i64 x8_1 ∧ Aside0 (slices_Index_int_int.l0 kq l0 a1 (l0.length : Int) x8_1 = some r) ∧ Aside0 (kq ≤ k) ∧ Drawn0 w w')
 case atStart => exact ⟨(0), (by first | rfl | (simp; done) | (simp [*]; done)), H', ⟨Nat.le_refl _⟩, by repeat (first | exact Drawn0.refl _ | apply Drawn0.step)⟩
 case round =>
  clear H'
  try clear p2
  obtain ⟨x8_1, rfl, HA, HK1, ⟨m1, rfl⟩⟩ := hrel
  cases gk with
  | zero => exact absurd HA.out (by simp [slices_Index_int_int.l0])
  | succ k1 =>
   have H := HA.out
   clear HA
   simp only [slices_Index_int_int.l0] at H
   by_cases c3 : x8_1 < (l0.length : Int)
   ·
    rw [if_pos c3] at H
    have c3b0 : decide (x8_1 < (l0.length : Int)) = true := decide_eq_true c3
    clear c3
    by_cases c4 : 0 ≤ x8_1
    ·
     rw [if_pos c4] at H
     have c4b0 : decide (0 ≤ x8_1) = true := decide_eq_true c4
     clear c4
     by_cases c5 : x8_1 < (l0.length : Int)
     ·
      rw [if_pos c5] at H
      have c5b0 : decide (x8_1 < (l0.length : Int)) = true := decide_eq_true c5
      clear c5
      by_cases c6 : a1 = (rd l0 x8_1)
      ·
       rw [if_pos c6] at H
       have c6b0 : (a1 == (rd l0 x8_1)) = true := beq_iff_eq.mpr c6
       have c6b1 : (a1 != (rd l0 x8_1)) = false := bne_eq_false_iff_eq.mpr c6
       clear c6
       obtain rfl := Option.some.inj H
       have p382 : 0 ≤ (x8_1 : Int) := dt_
       have q382 : x8_1 < (l0.length : Int) := dt_
       obtain ⟨ad382, e382, hx382_0⟩ := Kd.at_int HR0.out x8_1 p382 q382
       cases e382
       replace p382 := eq_true p382
       replace q382 := eq_true q382
       go_wp2
       go_ret
       exact ⟨by first | rfl | (simp; done) | (simp [*]; done), by repeat (first | exact Drawn0.refl _ | apply Drawn0.step)⟩
      ·
       rw [if_neg c6] at H
       have c6b0 : (a1 == (rd l0 x8_1)) = false := beq_eq_false_iff_ne.mpr c6
       have c6b1 : (a1 != (rd l0 x8_1)) = true := bne_iff_ne.mpr c6
       have H' := Aside0.mk H
       clear H
       have p382 : 0 ≤ (x8_1 : Int) := dt_
       have q382 : x8_1 < (l0.length : Int) := dt_
       obtain ⟨ad382, e382, hx382_0⟩ := Kd.at_int HR0.out x8_1 p382 q382
       cases e382
       replace p382 := eq_true p382
       replace q382 := eq_true q382
       go_wp2
       go_roundg k1
       case measure => have := HK1.out; omega
       case rel => exact ⟨(wrap64 (x8_1 + 1)), (by first | rfl | (simp; done) | (simp [*]; done)), H', ⟨by have := HK1.out; omega⟩, by repeat (first | exact Drawn0.refl _ | apply Drawn0.step)⟩
     ·
      rw [if_neg c5] at H
      exact absurd H (by simp)
    ·
     rw [if_neg c4] at H
     exact absurd H (by simp)
   ·
    rw [if_neg c3] at H
    have c3b0 : decide (x8_1 < (l0.length : Int)) = false := decide_eq_false c3
    clear c3
    obtain rfl := Option.some.inj H
    go_wp2
    go_ret
    exact ⟨by first | rfl | (simp; done) | (simp [*]; done), by repeat (first | exact Drawn0.refl _ | apply Drawn0.step)⟩
def slices_Contains_int_int.f (k : Nat) (l0 : List Int) (a1 : Int) : Option (Bool) := (slices_Index_int_int.f k l0 a1).bind fun t383 => (some (decide (t383 ≥ 0)))
theorem slices_Contains_int_int.calls (k : Nat) (A0 : Option Addr) (c0 : Nat) (l0 : List Int) (a1 : Int) (r : Bool) (w : World) (hr0 : Kd.C (Kd.int .i64) w A0 l0.length l0) (hc0 : l0.length ≤ c0) (h : slices_Contains_int_int.f k l0 a1 = some r) :
  Calls Tryd.prog 63 #[.slice A0 l0.length c0, .int .i64 a1] w fun e w' => e = .returned (.bool r) ∧ Drawn0 w w' := by
 have HR0 := Aside0.mk hr0
 have HC0 := Aside0.mk hc0
 clear hr0 hc0
 have H : ((slices_Index_int_int.f k l0 a1).bind fun t383 => (some (decide (t383 ≥ 0)))) = some r := h
 clear h
 replace H := Option.bind_eq_some_iff.mp H
 obtain ⟨t383, A30, H⟩ := H
 replace H : (some (decide (t383 ≥ 0))) = some r := H
 have A3 := Aside0.mk A30
 clear A30
 obtain rfl := Option.some.inj H
 go_enter Tryd.func63, Tryd.ntmps63
 go_wp2_with (first | ((with_reducible refine gate_callee (f := 73) rfl ?_); refine ga_ (some 7) Tryd.func73 #[.slice A0 l0.length c0, .int .i64 a1] ?_; (with_reducible refine (slices_Index_int_int.calls k _ _ l0 a1 t383 _ ?side1 ?side2 A3.out).mono ?_); (case side1 => exact kc_ HR0.out); (case side2 => exact HC0.out); rintro e w' ⟨rfl, ⟨nd, rfl⟩⟩; refine ⟨_, rfl, ?_⟩))
 go_ret
 exact ⟨by first | rfl | (simp; done) | (simp [*]; done), by repeat (first | exact Drawn0.refl _ | apply Drawn0.step)⟩
def impl_has.f (k : Nat) (l0 : List Int) (a1 : Int) : Option (Bool) := (slices_Contains_int_int.f k l0 a1).bind fun t384 => (some t384)
theorem impl_has.calls (k : Nat) (A0 : Option Addr) (c0 : Nat) (l0 : List Int) (a1 : Int) (r : Bool) (w : World) (hr0 : Kd.C (Kd.int .i64) w A0 l0.length l0) (hc0 : l0.length ≤ c0) (h : impl_has.f k l0 a1 = some r) :
  Calls Tryd.prog 53 #[.slice A0 l0.length c0, .int .i64 a1] w fun e w' => e = .returned (.bool r) ∧ Drawn0 w w' := by
 have HR0 := Aside0.mk hr0
 have HC0 := Aside0.mk hc0
 clear hr0 hc0
 have H : ((slices_Contains_int_int.f k l0 a1).bind fun t384 => (some t384)) = some r := h
 clear h
 replace H := Option.bind_eq_some_iff.mp H
 obtain ⟨t384, A30, H⟩ := H
 replace H : (some t384) = some r := H
 have A3 := Aside0.mk A30
 clear A30
 obtain rfl := Option.some.inj H
 go_enter Tryd.func53, Tryd.ntmps53
 go_wp2_with (first | ((with_reducible refine gate_callee (f := 63) rfl ?_); refine ga_ (some 7) Tryd.func63 #[.slice A0 l0.length c0, .int .i64 a1] ?_; (with_reducible refine (slices_Contains_int_int.calls k _ _ l0 a1 t384 _ ?side1 ?side2 A3.out).mono ?_); (case side1 => exact kc_ HR0.out); (case side2 => exact HC0.out); rintro e w' ⟨rfl, ⟨nd, rfl⟩⟩; refine ⟨_, rfl, ?_⟩))
 go_ret
 exact ⟨by first | rfl | (simp; done) | (simp [*]; done), by repeat (first | exact Drawn0.refl _ | apply Drawn0.step)⟩
end Go.Proofs.YtckigdechhmegaaDoor.Pr

namespace Go.Proofs.YtckigdechhmegaaDoor.Pr
open Go.RowKit Go.Proofs.YtckigdechhmegaaDoorW.PrintWords Go.Proofs.YtckigdechhmegaaDoorW.PrintLast Go.Proofs.YtckigdechhmegaaDoorW.PrintMore
attribute [local go_sem] max2_int min2_int max_two min_two max_three min_three max_four min_four sc_in sx_in   -- for this text's walks alone
set_option linter.unusedVariables false
set_option linter.unusedSimpArgs false
def impl_records.f (k : Nat) (a0_0 : ByteArray) (a0_1 : ByteArray) (a0_2 : Int) : Option ((List (S97)) × Bool) := if a0_0.size + a0_1.size ≤ 9223372036854775807 then ((impl_readRecords.f k (sc a0_0 a0_1)).bind fun bt386 => (if 0 ≤ (wrap64 ((bt386.2.length : Int) - 1)) then (if (wrap64 ((bt386.2.length : Int) - 1)) < (bt386.2.length : Int) then (if (rd bt386.2 (wrap64 ((bt386.2.length : Int) - 1))) = ((sc a0_0 a0_1).size : Int) then ((impl_has.f k bt386.2 (a0_0.size : Int)).bind fun t393 => (if t393 = true then (if a0_2 = (bt386.1.length : Int) then (some (bt386.1, true)) else (some (([] : List (S97)), false))) else (some (([] : List (S97)), false)))) else (some (([] : List (S97)), false))) else (none)) else (none))) else (none)
theorem impl_records.calls (k : Nat) (a0_0 : ByteArray) (a0_1 : ByteArray) (a0_2 : Int) (r1 : List (S97)) (r2 : Bool) (w : World) (h : impl_records.f k a0_0 a0_1 a0_2 = some (r1, r2)) (hT : Tb w) :
  Calls Tryd.prog 39 #[.agg #[.string a0_0, .string a0_1, .int .i64 a0_2]] w fun e w' => ∃ v0_ : Value, e = .returned (.tuple #[v0_, .bool r2]) ∧ Kd.R k97 97 w' w.heap.size (fun _ => True) v0_ r1 ∧ Below w.heap.size w w' := by
 have HT := Aside0.mk hT
 clear hT
 have hu35 := Tryd.underlying35
 have HB := Aside0.mk (Below.refl w.heap.size w)
 have H : (if a0_0.size + a0_1.size ≤ 9223372036854775807 then ((impl_readRecords.f k (sc a0_0 a0_1)).bind fun bt386 => (if 0 ≤ (wrap64 ((bt386.2.length : Int) - 1)) then (if (wrap64 ((bt386.2.length : Int) - 1)) < (bt386.2.length : Int) then (if (rd bt386.2 (wrap64 ((bt386.2.length : Int) - 1))) = ((sc a0_0 a0_1).size : Int) then ((impl_has.f k bt386.2 (a0_0.size : Int)).bind fun t393 => (if t393 = true then (if a0_2 = (bt386.1.length : Int) then (some (bt386.1, true)) else (some (([] : List (S97)), false))) else (some (([] : List (S97)), false)))) else (some (([] : List (S97)), false))) else (none)) else (none))) else (none)) = some (r1, r2) := h
 clear h
 by_cases c2 : a0_0.size + a0_1.size ≤ 9223372036854775807
 ·
  rw [if_pos c2] at H
  have c2b0 := eq_true c2
  have c2b1 : decide (a0_0.size + a0_1.size ≤ 9223372036854775807) = true := decide_eq_true c2
  try have c2b2 : (9223372036854775807 < a0_0.size + a0_1.size) = False := eq_false (Nat.not_lt.2 c2)
  replace H := Option.bind_eq_some_iff.mp H
  obtain ⟨⟨t386, t387⟩, A30, H⟩ := H
  replace H : (if 0 ≤ (wrap64 ((t387.length : Int) - 1)) then (if (wrap64 ((t387.length : Int) - 1)) < (t387.length : Int) then (if (rd t387 (wrap64 ((t387.length : Int) - 1))) = ((sc a0_0 a0_1).size : Int) then ((impl_has.f k t387 (a0_0.size : Int)).bind fun t393 => (if t393 = true then (if a0_2 = (t386.length : Int) then (some (t386, true)) else (some (([] : List (S97)), false))) else (some (([] : List (S97)), false)))) else (some (([] : List (S97)), false))) else (none)) else (none)) = some (r1, r2) := H
  have A3 := Aside0.mk A30
  clear A30
  obtain ⟨ji4, hji4⟩ : ∃ j_ : Int, (wrap64 ((t387.length : Int) - 1)) = j_ := ⟨_, rfl⟩
  replace H : (if 0 ≤ (ji4) then (if (ji4) < (t387.length : Int) then (if (rd t387 (ji4)) = ((sc a0_0 a0_1).size : Int) then ((impl_has.f k t387 (a0_0.size : Int)).bind fun t393 => (if t393 = true then (if a0_2 = (t386.length : Int) then (some (t386, true)) else (some (([] : List (S97)), false))) else (some (([] : List (S97)), false)))) else (some (([] : List (S97)), false))) else (none)) else (none)) = some (r1, r2) := by first | (rw [hji4] at H; exact H) | (simp only [hji4] at H ⊢; exact H)
  (try rw [hji4] at A3)
  have hji4w : (IntKind.i64.wrap ((t387.length : Int) - 1)) = ji4 := (i64_w _).trans hji4
  by_cases c5 : 0 ≤ (ji4)
  ·
   rw [if_pos c5] at H
   have c5b0 : decide (0 ≤ (ji4)) = true := decide_eq_true c5
   clear c5
   by_cases c6 : (ji4) < (t387.length : Int)
   ·
    rw [if_pos c6] at H
    have c6b0 : decide ((ji4) < (t387.length : Int)) = true := decide_eq_true c6
    clear c6
    by_cases c7 : (rd t387 (ji4)) = ((sc a0_0 a0_1).size : Int)
    ·
     rw [if_pos c7] at H
     have c7b0 : ((rd t387 (ji4)) == ((sc a0_0 a0_1).size : Int)) = true := beq_iff_eq.mpr c7
     have c7b1 : ((rd t387 (ji4)) != ((sc a0_0 a0_1).size : Int)) = false := bne_eq_false_iff_eq.mpr c7
     clear c7
     replace H := Option.bind_eq_some_iff.mp H
     obtain ⟨t393, A80, H⟩ := H
     replace H : (if t393 = true then (if a0_2 = (t386.length : Int) then (some (t386, true)) else (some (([] : List (S97)), false))) else (some (([] : List (S97)), false))) = some (r1, r2) := H
     have A8 := Aside0.mk A80
     clear A80
     by_cases c9 : t393 = true
     ·
      subst c9
      have H1 : (if a0_2 = (t386.length : Int) then (some (t386, true)) else (some (([] : List (S97)), false))) = some (r1, r2) := by rw [if_pos rfl] at H; exact H
      clear H
      have H := H1
      clear H1
      by_cases c10 : a0_2 = (t386.length : Int)
      ·
       rw [if_pos c10] at H
       have c10b0 : (a0_2 == (t386.length : Int)) = true := beq_iff_eq.mpr c10
       have c10b1 : (a0_2 != (t386.length : Int)) = false := bne_eq_false_iff_eq.mpr c10
       clear c10
       simp only [Option.some.injEq, Prod.mk.injEq] at H
       obtain ⟨rfl, rfl⟩ := H
       go_enter Tryd.func39, Tryd.ntmps39
       go_wp2_with (first | ((with_reducible refine gate_dst (N := 1) rfl ?_); (try (refine gate_guard (by rfl) ?_; dsimp only)); refine box_event ?hg (N := 1) ?hd (cs := #[.string a0_0, .string a0_1, .int .i64 a0_2]) (t := 35) ?hr ?_; (case hd => rfl); (case hg => rfl); (case hr => first | (go_simp; done) | (go_simp; rfl)); intro gb385 hg w11 hbox hb; have BK385 := Aside0.mk (hbox); have GW385 := Aside0.mk ((bz_ hg (lb0_ HB.out))); have GE385 := Aside0.mk ((bz_ hg (lb0_ HB.out))); replace HB := Aside0.mk (below_step (lb0_ HB.out) hb); clear hb hbox hg; obtain ⟨hcz12_0, hcz12_1, hcz12_2⟩ := cz3_ BK385.out; obtain ⟨hfz12_0, hfz12_1, hfz12_2⟩ := fz3_ BK385.out) | ((with_reducible refine gate_callee (f := 52) rfl ?_); refine ga_ (some 14) Tryd.func52 #[.string (sc a0_0 a0_1)] ?_; (with_reducible refine (impl_readRecords.calls k (sc a0_0 a0_1) t386 t387 _ A3.out ?sideT).mono ?_); (case sideT => first | (with_reducible exact HT.out) | (with_reducible exact Tb.step HT.out HB.out) | exact Tb.step HT.out (by repeat (first | (with_reducible first | exact HB.out | apply below_alloc | apply pw_below_drewN | apply below_drew1 | refine below_set ?_ GE385.out) | exact HB.out | exact Below.refl _ _))); rintro e w13 ⟨v388, v390, rfl, ho0, ho1, hb⟩; refine ⟨_, rfl, ?_⟩; have HO389 := Aside0.mk (Kd.R_lower ho0 (below_size (lb1_ HB.out GE385.out))); have HO391 := Aside0.mk (Kd.R_lower ho1 (below_size (lb1_ HB.out GE385.out))); replace BK385 := Aside0.mk (bb_ (bk_ BK385.out) hb); replace HB := Aside0.mk (below_step (lb1_ HB.out GE385.out) hb); (try clear hb); (try clear hb2); (try clear hk); (try clear hi); (try clear ho0); (try clear ho1); obtain ⟨Ao14, co14, eo14⟩ := Kd.R_slice HO391.out; subst eo14; have p392 : 0 ≤ ((ji4) : Int) := dt_; have q392 : (ji4) < (t387.length : Int) := dt_; obtain ⟨ad392, e392, hx392_0⟩ := Kd.at_int (Kd.R_reads' HO391.out).2.2 (ji4) p392 q392; cases e392; replace p392 := eq_true p392; replace q392 := eq_true q392; obtain ⟨hcz15_0, hcz15_1, hcz15_2⟩ := cz3_ BK385.out; obtain ⟨hfz15_0, hfz15_1, hfz15_2⟩ := fz3_ BK385.out) | (go_at_call 53; (with_reducible refine (impl_has.calls k _ _ t387 (a0_0.size : Int) true _ ?side1 ?side2 A8.out).mono ?_); (case side1 => exact kc_ (Kd.R_reads' HO391.out).2.2); (case side2 => exact (Kd.R_reads' HO391.out).2.1); rintro e w' ⟨rfl, ⟨nd, rfl⟩⟩; obtain ⟨Ao16, co16, eo16⟩ := Kd.R_slice HO389.out; subst eo16))
       go_ret2
       exact ⟨_, by first | rfl | (simp [errW_none, errW_some] <;> rfl) | (simp only [← hji4]; first | rfl | (simp [errW_none, errW_some] <;> rfl)) | (simp [*, errW_none, errW_some] <;> rfl), kr_ HO389.out, lb1_ HB.out GE385.out⟩
      ·
       rw [if_neg c10] at H
       have c10b0 : (a0_2 == (t386.length : Int)) = false := beq_eq_false_iff_ne.mpr c10
       have c10b1 : (a0_2 != (t386.length : Int)) = true := bne_iff_ne.mpr c10
       simp only [Option.some.injEq, Prod.mk.injEq] at H
       obtain ⟨rfl, rfl⟩ := H
       go_enter Tryd.func39, Tryd.ntmps39
       go_wp2_with (first | ((with_reducible refine gate_dst (N := 1) rfl ?_); (try (refine gate_guard (by rfl) ?_; dsimp only)); refine box_event ?hg (N := 1) ?hd (cs := #[.string a0_0, .string a0_1, .int .i64 a0_2]) (t := 35) ?hr ?_; (case hd => rfl); (case hg => rfl); (case hr => first | (go_simp; done) | (go_simp; rfl)); intro gb385 hg w17 hbox hb; have BK385 := Aside0.mk (hbox); have GW385 := Aside0.mk ((bz_ hg (lb0_ HB.out))); have GE385 := Aside0.mk ((bz_ hg (lb0_ HB.out))); replace HB := Aside0.mk (below_step (lb0_ HB.out) hb); clear hb hbox hg; obtain ⟨hcz18_0, hcz18_1, hcz18_2⟩ := cz3_ BK385.out; obtain ⟨hfz18_0, hfz18_1, hfz18_2⟩ := fz3_ BK385.out) | ((with_reducible refine gate_callee (f := 52) rfl ?_); refine ga_ (some 14) Tryd.func52 #[.string (sc a0_0 a0_1)] ?_; (with_reducible refine (impl_readRecords.calls k (sc a0_0 a0_1) t386 t387 _ A3.out ?sideT).mono ?_); (case sideT => first | (with_reducible exact HT.out) | (with_reducible exact Tb.step HT.out HB.out) | exact Tb.step HT.out (by repeat (first | (with_reducible first | exact HB.out | apply below_alloc | apply pw_below_drewN | apply below_drew1 | refine below_set ?_ GE385.out) | exact HB.out | exact Below.refl _ _))); rintro e w19 ⟨v388, v390, rfl, ho0, ho1, hb⟩; refine ⟨_, rfl, ?_⟩; have HO389 := Aside0.mk (Kd.R_lower ho0 (below_size (lb1_ HB.out GE385.out))); have HO391 := Aside0.mk (Kd.R_lower ho1 (below_size (lb1_ HB.out GE385.out))); replace BK385 := Aside0.mk (bb_ (bk_ BK385.out) hb); replace HB := Aside0.mk (below_step (lb1_ HB.out GE385.out) hb); (try clear hb); (try clear hb2); (try clear hk); (try clear hi); (try clear ho0); (try clear ho1); obtain ⟨Ao20, co20, eo20⟩ := Kd.R_slice HO391.out; subst eo20; have p392 : 0 ≤ ((ji4) : Int) := dt_; have q392 : (ji4) < (t387.length : Int) := dt_; obtain ⟨ad392, e392, hx392_0⟩ := Kd.at_int (Kd.R_reads' HO391.out).2.2 (ji4) p392 q392; cases e392; replace p392 := eq_true p392; replace q392 := eq_true q392; obtain ⟨hcz21_0, hcz21_1, hcz21_2⟩ := cz3_ BK385.out; obtain ⟨hfz21_0, hfz21_1, hfz21_2⟩ := fz3_ BK385.out) | (go_at_call 53; (with_reducible refine (impl_has.calls k _ _ t387 (a0_0.size : Int) true _ ?side1 ?side2 A8.out).mono ?_); (case side1 => exact kc_ (Kd.R_reads' HO391.out).2.2); (case side2 => exact (Kd.R_reads' HO391.out).2.1); rintro e w' ⟨rfl, ⟨nd, rfl⟩⟩; obtain ⟨Ao22, co22, eo22⟩ := Kd.R_slice HO389.out; subst eo22))
       go_ret2
       exact ⟨_, by first | rfl | (simp [errW_none, errW_some] <;> rfl) | (simp only [← hji4]; first | rfl | (simp [errW_none, errW_some] <;> rfl)) | (simp [*, errW_none, errW_some] <;> rfl), by first | exact Kd.R_nil _ _ _ _ _ | exact Kd.N_nil _ _ _ _ _ | exact Kd.V_nil _ _ _ _ _ | exact Kd.Q_nil _ _ _ _ _ | exact Kd.S_nil _ _ _ _ _, lb1_ HB.out GE385.out⟩
     ·
      replace c9 := Bool.eq_false_iff.mpr c9
      subst c9
      have H1 : (some (([] : List (S97)), false)) = some (r1, r2) := by rw [if_neg (show ¬ (false = true) by decide)] at H; exact H
      clear H
      have H := H1
      clear H1
      simp only [Option.some.injEq, Prod.mk.injEq] at H
      obtain ⟨rfl, rfl⟩ := H
      go_enter Tryd.func39, Tryd.ntmps39
      go_wp2_with (first | ((with_reducible refine gate_dst (N := 1) rfl ?_); (try (refine gate_guard (by rfl) ?_; dsimp only)); refine box_event ?hg (N := 1) ?hd (cs := #[.string a0_0, .string a0_1, .int .i64 a0_2]) (t := 35) ?hr ?_; (case hd => rfl); (case hg => rfl); (case hr => first | (go_simp; done) | (go_simp; rfl)); intro gb385 hg w23 hbox hb; have BK385 := Aside0.mk (hbox); have GW385 := Aside0.mk ((bz_ hg (lb0_ HB.out))); have GE385 := Aside0.mk ((bz_ hg (lb0_ HB.out))); replace HB := Aside0.mk (below_step (lb0_ HB.out) hb); clear hb hbox hg; obtain ⟨hcz24_0, hcz24_1, hcz24_2⟩ := cz3_ BK385.out; obtain ⟨hfz24_0, hfz24_1, hfz24_2⟩ := fz3_ BK385.out) | ((with_reducible refine gate_callee (f := 52) rfl ?_); refine ga_ (some 14) Tryd.func52 #[.string (sc a0_0 a0_1)] ?_; (with_reducible refine (impl_readRecords.calls k (sc a0_0 a0_1) t386 t387 _ A3.out ?sideT).mono ?_); (case sideT => first | (with_reducible exact HT.out) | (with_reducible exact Tb.step HT.out HB.out) | exact Tb.step HT.out (by repeat (first | (with_reducible first | exact HB.out | apply below_alloc | apply pw_below_drewN | apply below_drew1 | refine below_set ?_ GE385.out) | exact HB.out | exact Below.refl _ _))); rintro e w25 ⟨v388, v390, rfl, ho0, ho1, hb⟩; refine ⟨_, rfl, ?_⟩; have HO389 := Aside0.mk (Kd.R_lower ho0 (below_size (lb1_ HB.out GE385.out))); have HO391 := Aside0.mk (Kd.R_lower ho1 (below_size (lb1_ HB.out GE385.out))); replace BK385 := Aside0.mk (bb_ (bk_ BK385.out) hb); replace HB := Aside0.mk (below_step (lb1_ HB.out GE385.out) hb); (try clear hb); (try clear hb2); (try clear hk); (try clear hi); (try clear ho0); (try clear ho1); obtain ⟨Ao26, co26, eo26⟩ := Kd.R_slice HO391.out; subst eo26; have p392 : 0 ≤ ((ji4) : Int) := dt_; have q392 : (ji4) < (t387.length : Int) := dt_; obtain ⟨ad392, e392, hx392_0⟩ := Kd.at_int (Kd.R_reads' HO391.out).2.2 (ji4) p392 q392; cases e392; replace p392 := eq_true p392; replace q392 := eq_true q392; obtain ⟨hcz27_0, hcz27_1, hcz27_2⟩ := cz3_ BK385.out; obtain ⟨hfz27_0, hfz27_1, hfz27_2⟩ := fz3_ BK385.out) | (go_at_call 53; (with_reducible refine (impl_has.calls k _ _ t387 (a0_0.size : Int) false _ ?side1 ?side2 A8.out).mono ?_); (case side1 => exact kc_ (Kd.R_reads' HO391.out).2.2); (case side2 => exact (Kd.R_reads' HO391.out).2.1); rintro e w' ⟨rfl, ⟨nd, rfl⟩⟩))
      go_ret2
      exact ⟨_, by first | rfl | (simp [errW_none, errW_some] <;> rfl) | (simp only [← hji4]; first | rfl | (simp [errW_none, errW_some] <;> rfl)) | (simp [*, errW_none, errW_some] <;> rfl), by first | exact Kd.R_nil _ _ _ _ _ | exact Kd.N_nil _ _ _ _ _ | exact Kd.V_nil _ _ _ _ _ | exact Kd.Q_nil _ _ _ _ _ | exact Kd.S_nil _ _ _ _ _, lb1_ HB.out GE385.out⟩
    ·
     rw [if_neg c7] at H
     have c7b0 : ((rd t387 (ji4)) == ((sc a0_0 a0_1).size : Int)) = false := beq_eq_false_iff_ne.mpr c7
     have c7b1 : ((rd t387 (ji4)) != ((sc a0_0 a0_1).size : Int)) = true := bne_iff_ne.mpr c7
     simp only [Option.some.injEq, Prod.mk.injEq] at H
     obtain ⟨rfl, rfl⟩ := H
     go_enter Tryd.func39, Tryd.ntmps39
     go_wp2_with (first | ((with_reducible refine gate_dst (N := 1) rfl ?_); (try (refine gate_guard (by rfl) ?_; dsimp only)); refine box_event ?hg (N := 1) ?hd (cs := #[.string a0_0, .string a0_1, .int .i64 a0_2]) (t := 35) ?hr ?_; (case hd => rfl); (case hg => rfl); (case hr => first | (go_simp; done) | (go_simp; rfl)); intro gb385 hg w28 hbox hb; have BK385 := Aside0.mk (hbox); have GW385 := Aside0.mk ((bz_ hg (lb0_ HB.out))); have GE385 := Aside0.mk ((bz_ hg (lb0_ HB.out))); replace HB := Aside0.mk (below_step (lb0_ HB.out) hb); clear hb hbox hg; obtain ⟨hcz29_0, hcz29_1, hcz29_2⟩ := cz3_ BK385.out; obtain ⟨hfz29_0, hfz29_1, hfz29_2⟩ := fz3_ BK385.out) | ((with_reducible refine gate_callee (f := 52) rfl ?_); refine ga_ (some 14) Tryd.func52 #[.string (sc a0_0 a0_1)] ?_; (with_reducible refine (impl_readRecords.calls k (sc a0_0 a0_1) t386 t387 _ A3.out ?sideT).mono ?_); (case sideT => first | (with_reducible exact HT.out) | (with_reducible exact Tb.step HT.out HB.out) | exact Tb.step HT.out (by repeat (first | (with_reducible first | exact HB.out | apply below_alloc | apply pw_below_drewN | apply below_drew1 | refine below_set ?_ GE385.out) | exact HB.out | exact Below.refl _ _))); rintro e w30 ⟨v388, v390, rfl, ho0, ho1, hb⟩; refine ⟨_, rfl, ?_⟩; have HO389 := Aside0.mk (Kd.R_lower ho0 (below_size (lb1_ HB.out GE385.out))); have HO391 := Aside0.mk (Kd.R_lower ho1 (below_size (lb1_ HB.out GE385.out))); replace BK385 := Aside0.mk (bb_ (bk_ BK385.out) hb); replace HB := Aside0.mk (below_step (lb1_ HB.out GE385.out) hb); (try clear hb); (try clear hb2); (try clear hk); (try clear hi); (try clear ho0); (try clear ho1); obtain ⟨Ao31, co31, eo31⟩ := Kd.R_slice HO391.out; subst eo31; have p392 : 0 ≤ ((ji4) : Int) := dt_; have q392 : (ji4) < (t387.length : Int) := dt_; obtain ⟨ad392, e392, hx392_0⟩ := Kd.at_int (Kd.R_reads' HO391.out).2.2 (ji4) p392 q392; cases e392; replace p392 := eq_true p392; replace q392 := eq_true q392))
     go_ret2
     exact ⟨_, by first | rfl | (simp [errW_none, errW_some] <;> rfl) | (simp only [← hji4]; first | rfl | (simp [errW_none, errW_some] <;> rfl)) | (simp [*, errW_none, errW_some] <;> rfl), by first | exact Kd.R_nil _ _ _ _ _ | exact Kd.N_nil _ _ _ _ _ | exact Kd.V_nil _ _ _ _ _ | exact Kd.Q_nil _ _ _ _ _ | exact Kd.S_nil _ _ _ _ _, lb1_ HB.out GE385.out⟩
   ·
    rw [if_neg c6] at H
    exact absurd H (by simp)
  ·
   rw [if_neg c5] at H
   exact absurd H (by simp)
 ·
  rw [if_neg c2] at H
  exact absurd H (by simp)
end Go.Proofs.YtckigdechhmegaaDoor.Pr

namespace Go.Proofs.YtckigdechhmegaaDoor.Pr
open Go.RowKit Go.Proofs.YtckigdechhmegaaDoorW.PrintWords Go.Proofs.YtckigdechhmegaaDoorW.PrintLast Go.Proofs.YtckigdechhmegaaDoorW.PrintMore
attribute [local go_sem] max2_int min2_int max_two min_two max_three min_three max_four min_four   -- for this text's walks alone
set_option linter.unusedVariables false
set_option linter.unusedSimpArgs false
def impl_IsValidLog.f (k : Nat) (a0_0 : ByteArray) (a0_1 : ByteArray) (a0_2 : Int) : Option (Bool) := (impl_records.f k a0_0 a0_1 a0_2).bind fun bt395 => (some bt395.2)
theorem impl_IsValidLog.calls (k : Nat) (a0_0 : ByteArray) (a0_1 : ByteArray) (a0_2 : Int) (r : Bool) (w : World) (h : impl_IsValidLog.f k a0_0 a0_1 a0_2 = some r) (hT : Tb w) :
  Calls Tryd.prog 18 #[.agg #[.string a0_0, .string a0_1, .int .i64 a0_2]] w fun e w' => e = .returned (.bool r) ∧ Below w.heap.size w w' := by
 have HT := Aside0.mk hT
 clear hT
 have hu35 := Tryd.underlying35
 have HB := Aside0.mk (Below.refl w.heap.size w)
 have H : ((impl_records.f k a0_0 a0_1 a0_2).bind fun bt395 => (some bt395.2)) = some r := h
 clear h
 replace H := Option.bind_eq_some_iff.mp H
 obtain ⟨⟨t395, t398⟩, A20, H⟩ := H
 replace H : (some t398) = some r := H
 have A2 := Aside0.mk A20
 clear A20
 obtain rfl := Option.some.inj H
 go_enter Tryd.func18, Tryd.ntmps18
 go_wp2_with (first | ((with_reducible refine gate_dst (N := 1) rfl ?_); refine box_event ?hg (N := 1) ?hd (cs := #[.string a0_0, .string a0_1, .int .i64 a0_2]) (t := 35) ?hr ?_; (case hd => rfl); (case hg => rfl); (case hr => first | (go_simp; done) | (go_simp; rfl)); intro gb394 hg w3 hbox hb; have BK394 := Aside0.mk (hbox); have GW394 := Aside0.mk ((bz_ hg (lb0_ HB.out))); have GE394 := Aside0.mk ((bz_ hg (lb0_ HB.out))); replace HB := Aside0.mk (below_step (lb0_ HB.out) hb); clear hb hbox hg; obtain ⟨hcz4_0, hcz4_1, hcz4_2⟩ := cz3_ BK394.out; obtain ⟨hfz4_0, hfz4_1, hfz4_2⟩ := fz3_ BK394.out) | ((with_reducible refine gate_callee (f := 39) rfl ?_); refine ga_ (some 7) Tryd.func39 #[.agg #[.string a0_0, .string a0_1, .int .i64 a0_2]] ?_; (with_reducible refine (impl_records.calls k a0_0 a0_1 a0_2 t395 t398 _ A2.out ?sideT).mono ?_); (case sideT => first | (with_reducible exact HT.out) | (with_reducible exact Tb.step HT.out HB.out) | exact Tb.step HT.out (by repeat (first | (with_reducible first | exact HB.out | apply below_alloc | apply pw_below_drewN | apply below_drew1 | refine below_set ?_ GE394.out) | exact HB.out | exact Below.refl _ _))); rintro e w5 ⟨v396, rfl, ho0, hb⟩; refine ⟨_, rfl, ?_⟩; have HO397 := Aside0.mk (Kd.R_lower ho0 (below_size (lb1_ HB.out GE394.out))); replace BK394 := Aside0.mk (bb_ (bk_ BK394.out) hb); replace HB := Aside0.mk (below_step (lb1_ HB.out GE394.out) hb); (try clear hb); (try clear hb2); (try clear hk); (try clear hi); (try clear ho0)))
 go_ret
 exact ⟨rr_, lb1_ HB.out GE394.out⟩
def impl_IsValidConsole.f (k : Nat) (l0_0 : List (S53)) (l0_1 : List Bool) (l0_2 : List Bool) (a0_3 : Int) (a0_4 : Int) (a0_5 : ByteArray) (a0_6 : ByteArray) (a0_7 : Int) : Option (Bool) := (impl_IsExploration.f k l0_0 l0_1 l0_2 a0_3 a0_4).bind fun t400 => (if t400 = true then ((impl_IsValidLog.f k a0_5 a0_6 a0_7).bind fun t401 => (some t401)) else (some false))
theorem impl_IsValidConsole.calls (k : Nat) (A0_0 : Option Addr) (c0_0 : Nat) (l0_0 : List (S53)) (A0_1 : Option Addr) (c0_1 : Nat) (l0_1 : List Bool) (A0_2 : Option Addr) (c0_2 : Nat) (l0_2 : List Bool) (a0_3 : Int) (a0_4 : Int) (a0_5 : ByteArray) (a0_6 : ByteArray) (a0_7 : Int) (r : Bool) (w : World) (hr0_0 : Kd.C k53 w A0_0 l0_0.length l0_0) (hc0_0 : l0_0.length ≤ c0_0) (hr0_1 : Kd.C Kd.bool w A0_1 l0_1.length l0_1) (hc0_1 : l0_1.length ≤ c0_1) (hr0_2 : Kd.C Kd.bool w A0_2 l0_2.length l0_2) (hc0_2 : l0_2.length ≤ c0_2) (h : impl_IsValidConsole.f k l0_0 l0_1 l0_2 a0_3 a0_4 a0_5 a0_6 a0_7 = some r) (hT : Tb w) :
  Calls Tryd.prog 8 #[.agg #[.slice A0_0 l0_0.length c0_0, .slice A0_1 l0_1.length c0_1, .slice A0_2 l0_2.length c0_2, .int .i64 a0_3, .int .i64 a0_4, .string a0_5, .string a0_6, .int .i64 a0_7]] w fun e w' => e = .returned (.bool r) ∧ Below w.heap.size w w' := by
 have HT := Aside0.mk hT
 clear hT
 have hu37 := Tryd.underlying37
 have hu34 := Tryd.underlying34
 have hu35 := Tryd.underlying35
 have HR0_0 := Aside0.mk hr0_0
 have HC0_0 := Aside0.mk hc0_0
 clear hr0_0 hc0_0
 have HR0_1 := Aside0.mk hr0_1
 have HC0_1 := Aside0.mk hc0_1
 clear hr0_1 hc0_1
 have HR0_2 := Aside0.mk hr0_2
 have HC0_2 := Aside0.mk hc0_2
 clear hr0_2 hc0_2
 have HB := Aside0.mk (Below.refl w.heap.size w)
 have H : ((impl_IsExploration.f k l0_0 l0_1 l0_2 a0_3 a0_4).bind fun t400 => (if t400 = true then ((impl_IsValidLog.f k a0_5 a0_6 a0_7).bind fun t401 => (some t401)) else (some false))) = some r := h
 clear h
 replace H := Option.bind_eq_some_iff.mp H
 obtain ⟨t400, A20, H⟩ := H
 replace H : (if t400 = true then ((impl_IsValidLog.f k a0_5 a0_6 a0_7).bind fun t401 => (some t401)) else (some false)) = some r := H
 have A2 := Aside0.mk A20
 clear A20
 by_cases c3 : t400 = true
 ·
  subst c3
  have H1 : ((impl_IsValidLog.f k a0_5 a0_6 a0_7).bind fun t401 => (some t401)) = some r := by rw [if_pos rfl] at H; exact H
  clear H
  have H := H1
  clear H1
  replace H := Option.bind_eq_some_iff.mp H
  obtain ⟨t401, A40, H⟩ := H
  replace H : (some t401) = some r := H
  have A4 := Aside0.mk A40
  clear A40
  obtain rfl := Option.some.inj H
  go_enter Tryd.func8, Tryd.ntmps8
  go_wp2_with (first | ((with_reducible refine gate_dst (N := 1) rfl ?_); refine box_event ?hg (N := 1) ?hd (cs := #[.slice A0_0 l0_0.length c0_0, .slice A0_1 l0_1.length c0_1, .slice A0_2 l0_2.length c0_2, .int .i64 a0_3, .int .i64 a0_4, .string a0_5, .string a0_6, .int .i64 a0_7]) (t := 37) ?hr ?_; (case hd => rfl); (case hg => rfl); (case hr => first | (go_simp; done) | (go_simp; rfl)); intro gb399 hg w5 hbox hb; have BK399 := Aside0.mk (hbox); have GW399 := Aside0.mk ((bz_ hg (lb0_ HB.out))); have GE399 := Aside0.mk ((bz_ hg (lb0_ HB.out))); replace HB := Aside0.mk (below_step (lb0_ HB.out) hb); clear hb hbox hg; obtain ⟨hcz6_0, hcz6_1, hcz6_2, hcz6_3, hcz6_4, hcz6_5, hcz6_6, hcz6_7⟩ := cz8_ BK399.out; obtain ⟨hfz6_0, hfz6_1, hfz6_2, hfz6_3, hfz6_4, hfz6_5, hfz6_6, hfz6_7⟩ := fz8_ BK399.out) | ((with_reducible refine gate_callee (f := 17) rfl ?_); refine ga_ (some 5) Tryd.func17 #[.agg #[.slice A0_0 l0_0.length c0_0, .slice A0_1 l0_1.length c0_1, .slice A0_2 l0_2.length c0_2, .int .i64 a0_3, .int .i64 a0_4]] ?_; (with_reducible refine (impl_IsExploration.calls k _ _ l0_0 _ _ l0_1 _ _ l0_2 a0_3 a0_4 true _ ?side1 ?side2 ?side3 ?side4 ?side5 ?side6 A2.out).mono ?_); (case side1 => exact kc_ (Kd.C_below HR0_0.out HB.out)); (case side2 => exact HC0_0.out); (case side3 => exact kc_ (Kd.C_below HR0_1.out HB.out)); (case side4 => exact HC0_1.out); (case side5 => exact kc_ (Kd.C_below HR0_2.out HB.out)); (case side6 => exact HC0_2.out); rintro e w7 ⟨rfl, hb⟩; refine ⟨_, rfl, ?_⟩; replace BK399 := Aside0.mk (bb_ (bk_ BK399.out) hb); replace HB := Aside0.mk (below_step (lb1_ HB.out GE399.out) hb); (try clear hb); (try clear hb2); (try clear hk); (try clear hi); obtain ⟨hcz8_0, hcz8_1, hcz8_2, hcz8_3, hcz8_4, hcz8_5, hcz8_6, hcz8_7⟩ := cz8_ BK399.out; obtain ⟨hfz8_0, hfz8_1, hfz8_2, hfz8_3, hfz8_4, hfz8_5, hfz8_6, hfz8_7⟩ := fz8_ BK399.out) | (go_at_call 18; (with_reducible refine (impl_IsValidLog.calls k a0_5 a0_6 a0_7 t401 _ A4.out ?sideT).mono ?_); (case sideT => first | (with_reducible exact HT.out) | (with_reducible exact Tb.step HT.out HB.out) | exact Tb.step HT.out (by repeat (first | (with_reducible first | exact HB.out | apply below_alloc | apply pw_below_drewN | apply below_drew1 | refine below_set ?_ GE399.out) | exact HB.out | exact Below.refl _ _))); rintro e w9 ⟨rfl, hb⟩; replace BK399 := Aside0.mk (bb_ (bk_ BK399.out) hb); replace HB := Aside0.mk (below_step (lb1_ HB.out GE399.out) hb); (try clear hb); (try clear hb2); (try clear hk); (try clear hi)))
  go_ret
  exact ⟨rr_, lb1_ HB.out GE399.out⟩
 ·
  replace c3 := Bool.eq_false_iff.mpr c3
  subst c3
  have H1 : (some false) = some r := by rw [if_neg (show ¬ (false = true) by decide)] at H; exact H
  clear H
  have H := H1
  clear H1
  obtain rfl := Option.some.inj H
  go_enter Tryd.func8, Tryd.ntmps8
  go_wp2_with (first | ((with_reducible refine gate_dst (N := 1) rfl ?_); refine box_event ?hg (N := 1) ?hd (cs := #[.slice A0_0 l0_0.length c0_0, .slice A0_1 l0_1.length c0_1, .slice A0_2 l0_2.length c0_2, .int .i64 a0_3, .int .i64 a0_4, .string a0_5, .string a0_6, .int .i64 a0_7]) (t := 37) ?hr ?_; (case hd => rfl); (case hg => rfl); (case hr => first | (go_simp; done) | (go_simp; rfl)); intro gb399 hg w10 hbox hb; have BK399 := Aside0.mk (hbox); have GW399 := Aside0.mk ((bz_ hg (lb0_ HB.out))); have GE399 := Aside0.mk ((bz_ hg (lb0_ HB.out))); replace HB := Aside0.mk (below_step (lb0_ HB.out) hb); clear hb hbox hg; obtain ⟨hcz11_0, hcz11_1, hcz11_2, hcz11_3, hcz11_4, hcz11_5, hcz11_6, hcz11_7⟩ := cz8_ BK399.out; obtain ⟨hfz11_0, hfz11_1, hfz11_2, hfz11_3, hfz11_4, hfz11_5, hfz11_6, hfz11_7⟩ := fz8_ BK399.out) | ((with_reducible refine gate_callee (f := 17) rfl ?_); refine ga_ (some 5) Tryd.func17 #[.agg #[.slice A0_0 l0_0.length c0_0, .slice A0_1 l0_1.length c0_1, .slice A0_2 l0_2.length c0_2, .int .i64 a0_3, .int .i64 a0_4]] ?_; (with_reducible refine (impl_IsExploration.calls k _ _ l0_0 _ _ l0_1 _ _ l0_2 a0_3 a0_4 false _ ?side1 ?side2 ?side3 ?side4 ?side5 ?side6 A2.out).mono ?_); (case side1 => exact kc_ (Kd.C_below HR0_0.out HB.out)); (case side2 => exact HC0_0.out); (case side3 => exact kc_ (Kd.C_below HR0_1.out HB.out)); (case side4 => exact HC0_1.out); (case side5 => exact kc_ (Kd.C_below HR0_2.out HB.out)); (case side6 => exact HC0_2.out); rintro e w12 ⟨rfl, hb⟩; refine ⟨_, rfl, ?_⟩; replace BK399 := Aside0.mk (bb_ (bk_ BK399.out) hb); replace HB := Aside0.mk (below_step (lb1_ HB.out GE399.out) hb); (try clear hb); (try clear hb2); (try clear hk); (try clear hi)))
  go_ret
  exact ⟨rr_, lb1_ HB.out GE399.out⟩
end Go.Proofs.YtckigdechhmegaaDoor.Pr

