/-
What is proved: parts of the law FnLog: what the functions that it reaches compute, and the plain law.
Conditions: those of each theorem.
-/
import Derived.Test.YtdpinnhgkocjhaaDoorCFnLog1
namespace Go.Proofs.YtdpinnhgkocjhaaDoor.Pr
open Go.RowKit Go.Proofs.YtdpinnhgkocjhaaDoorW.PrintWords Go.Proofs.YtdpinnhgkocjhaaDoorW.PrintLast Go.Proofs.YtdpinnhgkocjhaaDoorW.PrintMore
attribute [local go_sem] max2_int min2_int max_two min_two max_three min_three max_four min_four sc_in sx_in   -- for this text's walks alone
set_option linter.unusedVariables false
set_option linter.unusedSimpArgs false
mutual
def spec_l27Open.l0 : Nat → ByteArray → List (S27) → Int → Option ((List (S27)) × Int)
 | 0, _, _, _ => none
 | k + 1, x0, x4, x5 => if x5 < (x0.size : Int) then (spec_l27Open.j1 k x0 x4 x5 (decide ((x4.length : Int) < 60))) else (spec_l27Open.j1 k x0 x4 x5 false)
def spec_l27Open.j1 : Nat → ByteArray → List (S27) → Int → Bool → Option ((List (S27)) × Int)
 | 0, _, _, _, _ => none
 | k + 1, x0, x4, x5, x18 => if x18 = true then (if 0 ≤ x5 then (if x5 ≤ (x0.size : Int) then ((spec_l1Split.f k (sx x0 ((x5 : Int).toNat) (x0.size)) 10).bind fun t195 => (if 0 < (t195.length : Int) then ((spec_l27Read.f k (rdOf ByteArray.empty t195 0) (x4.length : Int)).bind fun bt199 => (if (t195.length : Int) < 2 then (some (x4, x5)) else (if bt199.2.2 = true then (if x4.length < 4398046511104 then (spec_l27Open.l0 k x0 (x4 ++ [(⟨bt199.1, bt199.2.1⟩ : S27)]) (wrap64 ((wrap64 (x5 + ((rdOf ByteArray.empty t195 0).size : Int))) + 1))) else (none)) else (some (x4, x5))))) else (none))) else (none)) else (none)) else (some (x4, x5))
end
def spec_l27Open.f (k : Nat) (a0 : ByteArray) : Option ((List (S27)) × Int) := spec_l27Open.l0 k a0 (([] : List (S27))) 0
set_option maxHeartbeats 8000000 in
set_option maxRecDepth 100000 in
theorem spec_l27Open.calls (k : Nat) (a0 : ByteArray) (r1 : List (S27)) (r2 : Int) (w : World) (h : spec_l27Open.f k a0 = some (r1, r2)) :
  Calls Tryd.prog 47 #[.string a0] w fun e w' => ∃ v0_ : Value, e = .returned (.tuple #[v0_, .int .i64 r2]) ∧ Kd.R k27 27 w' w.heap.size (fun _ => True) v0_ r1 ∧ Below w.heap.size w w' := by
 have hu27 := Tryd.underlying27
 have HB := Aside0.mk (Below.refl w.heap.size w)
 have H : (spec_l27Open.l0 k a0 (([] : List (S27))) 0) = some (r1, r2) := h
 clear h
 obtain ⟨y192, hy192⟩ : ∃ y_ : List (S27), y_ = (([] : List (S27))) := ⟨_, rfl⟩
 replace H : (spec_l27Open.l0 k a0 y192 0) = some (r1, r2) := by first | (rw [hy192]; with_reducible exact H) | (have H2_ := (Option.bind_some _ _).symm.trans H; rw [hy192]; with_reducible exact H2_) | (have H2_ := (Option.bind_some _ _).symm.trans H; with_reducible exact H2_) | with_reducible exact H | (rw [hy192]; exact H) | exact H
 have Ny192 := Aside0.mk hy192
 clear hy192
 have H' := Aside0.mk H
 clear H
 go_enter Tryd.func47, Tryd.ntmps47
 go_wp2_with (first | ((with_reducible refine gate_dst (N := 9) rfl ?_); (try (refine gate_guard (by rfl) ?_; dsimp only)); refine Kd.R_lit k27 _ 27 ?hg (N := 9) ?hd (xs := ([] : List (S27))) (inner := []) (ok := fun _ => True) (okp := fun _ => True) ?hr ?hp (fun _ hk => hk) trivial (Below.refl _ _) (Nat.le_refl _) (by simp) ?_; (case hd => rfl); (case hg => rfl); (case hr => first | (go_simp; done) | (go_simp; rfl)); (case hp => exact (Reps.none _ _)); intro v193 w2 ho3 hb hg_ hnew_; clear hg_ hnew_; replace ho3 := ry_ Ny192.out ho3; have HO194 := Aside0.mk (Kd.R_lower ho3 (below_size (lb0_ HB.out))); replace HB := Aside0.mk (below_step (lb0_ HB.out) hb); clear hb ho3))
 go_loopg [4, 5] k (fun kq v4 v5 w' => ∃ (x4_1 : List (S27)) (x5_1 : Int), v5 = .int .i64 x5_1 ∧ Aside0 (spec_l27Open.l0 kq a0 x4_1 x5_1 = some (r1, r2)) ∧ Aside0 (kq ≤ k) ∧ Aside0 (Kd.R k27 27 w' w.heap.size (fun _ => True) v4 x4_1) ∧ Aside0 (Below w.heap.size w w'))
 case atStart => exact ⟨(y192), (0), (by first | rfl | (simp; done) | (simp [*]; done)), H', ⟨Nat.le_refl _⟩, ⟨kr_ HO194.out⟩, ⟨lb0_ HB.out⟩⟩
 case round =>
  clear H'
  try clear p2
  obtain ⟨x4_1, x5_1, rfl, HA, HK1, HO_4, HB⟩ := hrel
  cases gk with
  | zero => exact absurd HA.out (by simp [spec_l27Open.l0])
  | succ k1 =>
   have H := HA.out
   clear HA
   simp only [spec_l27Open.l0] at H
   have HC4 := Aside0.mk H
   clear H
   go_upto_region 3 with (fail)
   go_cut [18] (fun v18 wc => ∃ (kq : Nat) (x18_3 : Bool), v18 = .bool x18_3 ∧ Aside0 (spec_l27Open.j1 kq a0 x4_1 x5_1 x18_3 = some (r1, r2)) ∧ Aside0 (kq ≤ k1) ∧ Aside0 (Kd.R k27 27 wc w.heap.size (fun _ => True) u4 x4_1) ∧ Aside0 (Below w.heap.size w wc))
   case first =>
    have H := HC4.out
    clear HC4
    by_cases c5 : x5_1 < (a0.size : Int)
    ·
     rw [if_pos c5] at H
     have c5b0 : decide (x5_1 < (a0.size : Int)) = true := decide_eq_true c5
     clear c5
     (first | rw [c5b0] | (simp only [i64_w, i32_w]; rw [c5b0]) | skip)
     have H' := Aside0.mk H
     clear H
     obtain ⟨Ao6, co6, eo6⟩ := Kd.R_slice HO_4.out
     subst eo6
     go_wp2
     go_meet
     case rel => exact ⟨_, (decide ((x4_1.length : Int) < 60)), (by first | rfl | (simp; done) | (simp [*]; done)), H', ⟨by have := HK1.out; first | omega | exact Nat.le_refl _⟩, ⟨kr_ HO_4.out⟩, ⟨lb0_ HB.out⟩⟩
    ·
     rw [if_neg c5] at H
     have c5b0 : decide (x5_1 < (a0.size : Int)) = false := decide_eq_false c5
     clear c5
     (first | rw [c5b0] | (simp only [i64_w, i32_w]; rw [c5b0]) | skip)
     have H' := Aside0.mk H
     clear H
     go_wp2
     go_meet
     case rel => exact ⟨_, (false), (by first | rfl | (simp; done) | (simp [*]; done)), H', ⟨by have := HK1.out; first | omega | exact Nat.le_refl _⟩, ⟨kr_ HO_4.out⟩, ⟨lb0_ HB.out⟩⟩
   case rest =>
    clear HC4
    try clear p2
    try clear c4
    try clear c5
    try clear c5b0
    try clear p2
    obtain ⟨kq, x18_3, rfl, HA, HJ3, HO_4, HB⟩ := hcut
    cases kq with
    | zero => exact absurd HA.out (by simp [spec_l27Open.j1])
    | succ kj3 =>
     have H := HA.out
     clear HA
     simp only [spec_l27Open.j1] at H
     by_cases c7 : x18_3 = true
     ·
      subst c7
      have H1 : (if 0 ≤ x5_1 then (if x5_1 ≤ (a0.size : Int) then ((spec_l1Split.f kj3 (sx a0 ((x5_1 : Int).toNat) (a0.size)) 10).bind fun t195 => (if 0 < (t195.length : Int) then ((spec_l27Read.f kj3 (rdOf ByteArray.empty t195 0) (x4_1.length : Int)).bind fun bt199 => (if (t195.length : Int) < 2 then (some (x4_1, x5_1)) else (if bt199.2.2 = true then (if x4_1.length < 4398046511104 then (spec_l27Open.l0 kj3 a0 (x4_1 ++ [(⟨bt199.1, bt199.2.1⟩ : S27)]) (wrap64 ((wrap64 (x5_1 + ((rdOf ByteArray.empty t195 0).size : Int))) + 1))) else (none)) else (some (x4_1, x5_1))))) else (none))) else (none)) else (none)) = some (r1, r2) := by rw [if_pos rfl] at H; exact H
      clear H
      have H := H1
      clear H1
      by_cases c8 : 0 ≤ x5_1
      ·
       rw [if_pos c8] at H
       have c8b0 := eq_true c8
       have c8b1 : decide (0 ≤ x5_1) = true := decide_eq_true c8
       clear c8
       by_cases c9 : x5_1 ≤ (a0.size : Int)
       ·
        rw [if_pos c9] at H
        have c9b0 := eq_true c9; have c9b1 : decide (x5_1 ≤ (a0.size : Int)) = true := decide_eq_true c9; clear c9; replace H := Option.bind_eq_some_iff.mp H; obtain ⟨t195, A100, H⟩ := H; replace H : (if 0 < (t195.length : Int) then ((spec_l27Read.f kj3 (rdOf ByteArray.empty t195 0) (x4_1.length : Int)).bind fun bt199 => (if (t195.length : Int) < 2 then (some (x4_1, x5_1)) else (if bt199.2.2 = true then (if x4_1.length < 4398046511104 then (spec_l27Open.l0 kj3 a0 (x4_1 ++ [(⟨bt199.1, bt199.2.1⟩ : S27)]) (wrap64 ((wrap64 (x5_1 + ((rdOf ByteArray.empty t195 0).size : Int))) + 1))) else (none)) else (some (x4_1, x5_1))))) else (none)) = some (r1, r2) := H; have A10 := Aside0.mk A100; clear A100
        by_cases c11 : 0 < (t195.length : Int)
        ·
         rw [if_pos c11] at H
         have c11b0 : decide (0 < (t195.length : Int)) = true := decide_eq_true c11; have c11b1 : decide (0 < t195.length) = true := decide_eq_true (by omega); clear c11; replace H := Option.bind_eq_some_iff.mp H; obtain ⟨⟨t199, t200, t201⟩, A120, H⟩ := H; replace H : (if (t195.length : Int) < 2 then (some (x4_1, x5_1)) else (if t201 = true then (if x4_1.length < 4398046511104 then (spec_l27Open.l0 kj3 a0 (x4_1 ++ [(⟨t199, t200⟩ : S27)]) (wrap64 ((wrap64 (x5_1 + ((rdOf ByteArray.empty t195 0).size : Int))) + 1))) else (none)) else (some (x4_1, x5_1)))) = some (r1, r2) := H; have A12 := Aside0.mk A120; clear A120
         by_cases c13 : (t195.length : Int) < 2
         ·
          rw [if_pos c13] at H
          have c13b0 : decide ((t195.length : Int) < 2) = true := decide_eq_true c13; have c13b1 : decide (t195.length < 2) = true := decide_eq_true (by omega); clear c13; simp only [Option.some.injEq, Prod.mk.injEq] at H; obtain ⟨rfl, rfl⟩ := H
          go_wp2_with (first | ((with_reducible refine gate_callee (f := 68) rfl ?_); refine ga_ (some 22) Tryd.func68 #[.string (sx a0 ((x5_1 : Int).toNat) (a0.size)), .int .u8 10] ?_; (with_reducible refine (spec_l1Split.calls kj3 (sx a0 ((x5_1 : Int).toNat) (a0.size)) 10 t195 _ A10.out).mono ?_); rintro e w14 ⟨v196, rfl, ho0, hb⟩; refine ⟨_, rfl, ?_⟩; replace HO_4 := Aside0.mk (Kd.R_below (kr_ HO_4.out) hb); have HO197 := Aside0.mk (Kd.R_lower ho0 (below_size (lb0_ HB.out))); replace HB := Aside0.mk (below_step (lb0_ HB.out) hb); (try clear hb); (try clear hb2); (try clear hk); (try clear hi); (try clear ho0); obtain ⟨Ao15, co15, eo15⟩ := Kd.R_slice HO197.out; subst eo15; have p198 : 0 ≤ (0 : Int) := (by omega); have q198 : 0 < (t195.length : Int) := dt_; obtain ⟨ad198, e198, hx198_0⟩ := Kd.at_string (Kd.R_reads' HO197.out).2.2 0 p198 q198; cases e198; have qi198 : (0 < t195.length) = True := eq_true (by omega); (try rw [show ((0 : Int)).toNat = 0 from rfl] at hx198_0); (try rw [Addr.add_zero'] at hx198_0); replace p198 := eq_true p198; replace q198 := eq_true q198; obtain ⟨Ao16, co16, eo16⟩ := Kd.R_slice HO_4.out; subst eo16) | ((with_reducible refine gate_callee (f := 69) rfl ?_); refine ga_ (some 29) Tryd.func69 #[.string (rdOf ByteArray.empty t195 0), .int .i64 (x4_1.length : Int)] ?_; (with_reducible refine (spec_l27Read.calls kj3 (rdOf ByteArray.empty t195 0) (x4_1.length : Int) t199 t200 t201 _ A12.out).mono ?_); rintro e w17 ⟨rfl, hb⟩; refine ⟨_, rfl, ?_⟩; replace HO_4 := Aside0.mk (Kd.R_below (kr_ HO_4.out) hb); replace HO197 := Aside0.mk (Kd.R_below (kr_ HO197.out) hb); replace HB := Aside0.mk (below_step (lb0_ HB.out) hb); (try clear hb); (try clear hb2); (try clear hk); (try clear hi)) | ((with_reducible refine gate_dst (N := 7) rfl ?_); (try (refine gate_guard (by rfl) ?_; dsimp only)); refine box_event ?hg (N := 7) ?hd (cs := #[.string (⟨#[]⟩ : ByteArray), .string (⟨#[]⟩ : ByteArray)]) (t := 27) ?hr ?_; (case hd => rfl); (case hg => rfl); (case hr => first | (go_simp; done) | (go_simp; rfl)); intro gb202 hg w18 hbox hb; replace HO_4 := Aside0.mk (Kd.R_below (Kd.R_elderB (kr_ HO_4.out) gb202 (Nat.le_of_eq hg.symm)) hb); replace HO197 := Aside0.mk (Kd.R_below (kr_ HO197.out) hb); have BK202 := Aside0.mk (hbox); have GW202 := Aside0.mk ((bz_ hg (lb0_ HB.out))); have GE202 := Aside0.mk ((bz_ hg (lb0_ HB.out))); replace HB := Aside0.mk (below_step (lb0_ HB.out) hb); clear hb hbox hg; obtain ⟨hcz19_0, hcz19_1⟩ := cz2_ BK202.out; obtain ⟨hfz19_0, hfz19_1⟩ := fz2_ BK202.out))
          go_ret2
          exact ⟨_, rr_, by (with_reducible repeat (first | apply Kd.R_alloc | apply Kd.R_drewN | apply Kd.R_drew)); exact Kd.R_mono (Kd.R_far (p := ⟨gb202, 1, none⟩) (Kd.R_far (p := ⟨gb202, 0, none⟩) (Kd.R_mono HO_4.out (fun k_ hk => (⟨hk, hk.2⟩ : _ ∧ k_ ≠ gb202))) (fun _ hk => hk.2) (.string t199)) (fun _ hk => hk.2) (.string t200)) (fun _ hk => trivial), lb1_ HB.out GE202.out⟩
         ·
          rw [if_neg c13] at H
          have c13b0 : decide ((t195.length : Int) < 2) = false := decide_eq_false c13; have c13b1 : decide (t195.length < 2) = false := decide_eq_false (by omega); clear c13
          by_cases c20 : t201 = true
          ·
           subst c20
           have H1 : (if x4_1.length < 4398046511104 then (spec_l27Open.l0 kj3 a0 (x4_1 ++ [(⟨t199, t200⟩ : S27)]) (wrap64 ((wrap64 (x5_1 + ((rdOf ByteArray.empty t195 0).size : Int))) + 1))) else (none)) = some (r1, r2) := by rw [if_pos rfl] at H; exact H
           clear H; have H := H1; clear H1
           by_cases c21 : x4_1.length < 4398046511104
           ·
            rw [if_pos c21] at H
            have LMc21 := Aside0.mk c21; clear c21
            obtain ⟨y203, hy203⟩ : ∃ y_ : List (S27), y_ = (x4_1 ++ [(⟨t199, t200⟩ : S27)]) := ⟨_, rfl⟩
            replace H : (spec_l27Open.l0 kj3 a0 y203 (wrap64 ((wrap64 (x5_1 + ((rdOf ByteArray.empty t195 0).size : Int))) + 1))) = some (r1, r2) := by first | (rw [hy203]; with_reducible exact H) | (have H2_ := (Option.bind_some _ _).symm.trans H; rw [hy203]; with_reducible exact H2_) | (have H2_ := (Option.bind_some _ _).symm.trans H; with_reducible exact H2_) | with_reducible exact H | (rw [hy203]; exact H) | exact H
            have Ny203 := Aside0.mk hy203; clear hy203; have H' := Aside0.mk H; clear H
            go_wp2_with (first | ((with_reducible refine gate_callee (f := 68) rfl ?_); refine ga_ (some 22) Tryd.func68 #[.string (sx a0 ((x5_1 : Int).toNat) (a0.size)), .int .u8 10] ?_; (with_reducible refine (spec_l1Split.calls kj3 (sx a0 ((x5_1 : Int).toNat) (a0.size)) 10 t195 _ A10.out).mono ?_); rintro e w22 ⟨v196, rfl, ho0, hb⟩; refine ⟨_, rfl, ?_⟩; replace HO_4 := Aside0.mk (Kd.R_below (kr_ HO_4.out) hb); have HO197 := Aside0.mk (Kd.R_lower ho0 (below_size (lb0_ HB.out))); replace HB := Aside0.mk (below_step (lb0_ HB.out) hb); (try clear hb); (try clear hb2); (try clear hk); (try clear hi); (try clear ho0); obtain ⟨Ao23, co23, eo23⟩ := Kd.R_slice HO197.out; subst eo23; have p198 : 0 ≤ (0 : Int) := (by omega); have q198 : 0 < (t195.length : Int) := dt_; obtain ⟨ad198, e198, hx198_0⟩ := Kd.at_string (Kd.R_reads' HO197.out).2.2 0 p198 q198; cases e198; have qi198 : (0 < t195.length) = True := eq_true (by omega); (try rw [show ((0 : Int)).toNat = 0 from rfl] at hx198_0); (try rw [Addr.add_zero'] at hx198_0); replace p198 := eq_true p198; replace q198 := eq_true q198; obtain ⟨Ao24, co24, eo24⟩ := Kd.R_slice HO_4.out; subst eo24) | ((with_reducible refine gate_callee (f := 69) rfl ?_); refine ga_ (some 29) Tryd.func69 #[.string (rdOf ByteArray.empty t195 0), .int .i64 (x4_1.length : Int)] ?_; (with_reducible refine (spec_l27Read.calls kj3 (rdOf ByteArray.empty t195 0) (x4_1.length : Int) t199 t200 true _ A12.out).mono ?_); rintro e w25 ⟨rfl, hb⟩; refine ⟨_, rfl, ?_⟩; replace HO_4 := Aside0.mk (Kd.R_below (kr_ HO_4.out) hb); replace HO197 := Aside0.mk (Kd.R_below (kr_ HO197.out) hb); replace HB := Aside0.mk (below_step (lb0_ HB.out) hb); (try clear hb); (try clear hb2); (try clear hk); (try clear hi)) | ((with_reducible refine gate_dst (N := 7) rfl ?_); (try (refine gate_guard (by rfl) ?_; dsimp only)); refine box_event ?hg (N := 7) ?hd (cs := #[.string (⟨#[]⟩ : ByteArray), .string (⟨#[]⟩ : ByteArray)]) (t := 27) ?hr ?_; (case hd => rfl); (case hg => rfl); (case hr => first | (go_simp; done) | (go_simp; rfl)); intro gb202 hg w26 hbox hb; replace HO_4 := Aside0.mk (Kd.R_below (Kd.R_elderB (kr_ HO_4.out) gb202 (Nat.le_of_eq hg.symm)) hb); replace HO197 := Aside0.mk (Kd.R_below (kr_ HO197.out) hb); have BK202 := Aside0.mk (hbox); have GW202 := Aside0.mk ((bz_ hg (lb0_ HB.out))); have GE202 := Aside0.mk ((bz_ hg (lb0_ HB.out))); replace HB := Aside0.mk (below_step (lb0_ HB.out) hb); clear hb hbox hg; obtain ⟨hcz27_0, hcz27_1⟩ := cz2_ BK202.out; obtain ⟨hfz27_0, hfz27_1⟩ := fz2_ BK202.out) | ((with_reducible refine gate_builtin (b := .append) (xs := #[.tmp 39, .tmp 41]) rfl ?_); (try (refine gate_guard (by rfl) ?_; dsimp only)); at_builtin; refine Kd.R_append k27 (w0 := w) w.heap.size rfl (.tmp 39) (.tmp 41) 48 27 (.agg #[(.string ⟨#[]⟩), (.string ⟨#[]⟩)]) 32 rfl Tryd.underlying48 info27 rfl (by decide) (by omega) (.slice Ao24 x4_1.length co24) x4_1 (⟨t199, t200⟩ : S27) [.string t199, .string t200] (fun k_ => k_ ≠ gb202) (fun _ => False) rfl (by first | (go_simp; done) | (go_simp; rfl)) ?aP (fun _ hk => hk.elim) ?aF ?aO ?aB ?aS ?aL ?_; (case aP => exact k27_mkM _ _ _ (⟨t199, t200⟩ : S27)); (case aB => exact (lb1_ HB.out GE202.out)); (case aF => exact (fun k_ hk => Kd.freshB (g := gb202) (o := .cells #[.string t199, .string t200] 27 (0, 0)) (by (with_reducible repeat (first | refine blk_drewN ?_ _ | refine blk_drew ?_ | refine blk_alloc ?_ _)); refine blk_put (cs := #[.string t199, .string (⟨#[]⟩ : ByteArray)]) ?_ 1 _ rfl; (with_reducible repeat (first | refine blk_drewN ?_ _ | refine blk_drew ?_ | refine blk_alloc ?_ _)); refine blk_put (cs := #[.string (⟨#[]⟩ : ByteArray), .string (⟨#[]⟩ : ByteArray)]) ?_ 0 _ rfl; (with_reducible repeat (first | refine blk_drewN ?_ _ | refine blk_drew ?_ | refine blk_alloc ?_ _)); exact BK202.out) k_ hk)); (case aO => exact (by (with_reducible repeat (first | apply Kd.R_alloc | apply Kd.R_drewN | apply Kd.R_drew)); exact Kd.R_mono (Kd.R_far (p := ⟨gb202, 1, none⟩) (Kd.R_far (p := ⟨gb202, 0, none⟩) (Kd.R_mono HO_4.out (fun k_ hk => (⟨hk, hk.2⟩ : _ ∧ k_ ≠ gb202))) (fun _ hk => hk.2) (.string t199)) (fun _ hk => hk.2) (.string t200)) (fun _ hk => hk.1.2))); (case aS => exact (below_size (lb1_ HB.out GE202.out))); (case aL => have := LMc21.out; omega); intro v204 w28 ho hb hg hat; rw [← Ny203.out] at ho; replace HO197 := Aside0.mk (Kd.R_over' (kg_ HO197.out BK202.out) (Kd.R_typed (by (with_reducible repeat (first | apply Kd.R_alloc | apply Kd.R_drewN | apply Kd.R_drew)); exact (Kd.R_mono (Kd.R_far (p := ⟨gb202, 1, none⟩) (Kd.R_far (p := ⟨gb202, 0, none⟩) (Kd.R_mono HO_4.out (fun k_ hk => (⟨hk, hk.2⟩ : _ ∧ k_ ≠ gb202))) (fun _ hk => hk.2) (.string t199)) (fun _ hk => hk.2) (.string t200)) (fun _ h_ => h_.1)))) (by decide) hg); replace BK202 := Aside0.mk (blk_grown (g := gb202) (o := .cells #[.string t199, .string t200] 27 (0, 0)) (by (with_reducible repeat (first | refine blk_drewN ?_ _ | refine blk_drew ?_ | refine blk_alloc ?_ _)); refine blk_put (cs := #[.string t199, .string (⟨#[]⟩ : ByteArray)]) ?_ 1 _ rfl; (with_reducible repeat (first | refine blk_drewN ?_ _ | refine blk_drew ?_ | refine blk_alloc ?_ _)); refine blk_put (cs := #[.string (⟨#[]⟩ : ByteArray), .string (⟨#[]⟩ : ByteArray)]) ?_ 0 _ rfl; (with_reducible repeat (first | refine blk_drewN ?_ _ | refine blk_drew ?_ | refine blk_alloc ?_ _)); exact BK202.out) hg (Kd.R_away HO_4.out (fun _ hk => hk.2))); replace HB := Aside0.mk (hb); have HO205 := Aside0.mk (ho); clear HO_4; clear ho hb hg hat; have p206 : 0 ≤ (0 : Int) := (by omega); have q206 : 0 < (t195.length : Int) := dt_; obtain ⟨ad206, e206, hx206_0⟩ := Kd.at_string (Kd.R_reads' HO197.out).2.2 0 p206 q206; obtain rfl : ad198 = ad206 := (by injection e206); have qi206 : (0 < t195.length) = True := eq_true (by omega); (try rw [show ((0 : Int)).toNat = 0 from rfl] at hx206_0); (try rw [Addr.add_zero'] at hx206_0); replace p206 := eq_true p206; replace q206 := eq_true q206))
            go_roundg kj3
            case measure => have := HK1.out; have := HJ3.out; omega
            case rel => exact ⟨(y203), (wrap64 ((wrap64 (x5_1 + ((rdOf ByteArray.empty t195 0).size : Int))) + 1)), (by first | rfl | (simp; done) | (simp [*]; done)), H', ⟨by have := HK1.out; have := HJ3.out; omega⟩, ⟨krm_ HO205.out (fun _ hk => trivial)⟩, ⟨lb1_ HB.out GE202.out⟩⟩
           ·
            rw [if_neg c21] at H
            exact absurd H (by simp)
          ·
           replace c20 := Bool.eq_false_iff.mpr c20; subst c20
           have H1 : (some (x4_1, x5_1)) = some (r1, r2) := by rw [if_neg (show ¬ (false = true) by decide)] at H; exact H
           clear H; have H := H1; clear H1; simp only [Option.some.injEq, Prod.mk.injEq] at H; obtain ⟨rfl, rfl⟩ := H
           go_wp2_with (first | ((with_reducible refine gate_callee (f := 68) rfl ?_); refine ga_ (some 22) Tryd.func68 #[.string (sx a0 ((x5_1 : Int).toNat) (a0.size)), .int .u8 10] ?_; (with_reducible refine (spec_l1Split.calls kj3 (sx a0 ((x5_1 : Int).toNat) (a0.size)) 10 t195 _ A10.out).mono ?_); rintro e w29 ⟨v196, rfl, ho0, hb⟩; refine ⟨_, rfl, ?_⟩; replace HO_4 := Aside0.mk (Kd.R_below (kr_ HO_4.out) hb); have HO197 := Aside0.mk (Kd.R_lower ho0 (below_size (lb0_ HB.out))); replace HB := Aside0.mk (below_step (lb0_ HB.out) hb); (try clear hb); (try clear hb2); (try clear hk); (try clear hi); (try clear ho0); obtain ⟨Ao30, co30, eo30⟩ := Kd.R_slice HO197.out; subst eo30; have p198 : 0 ≤ (0 : Int) := (by omega); have q198 : 0 < (t195.length : Int) := dt_; obtain ⟨ad198, e198, hx198_0⟩ := Kd.at_string (Kd.R_reads' HO197.out).2.2 0 p198 q198; cases e198; have qi198 : (0 < t195.length) = True := eq_true (by omega); (try rw [show ((0 : Int)).toNat = 0 from rfl] at hx198_0); (try rw [Addr.add_zero'] at hx198_0); replace p198 := eq_true p198; replace q198 := eq_true q198; obtain ⟨Ao31, co31, eo31⟩ := Kd.R_slice HO_4.out; subst eo31) | ((with_reducible refine gate_callee (f := 69) rfl ?_); refine ga_ (some 29) Tryd.func69 #[.string (rdOf ByteArray.empty t195 0), .int .i64 (x4_1.length : Int)] ?_; (with_reducible refine (spec_l27Read.calls kj3 (rdOf ByteArray.empty t195 0) (x4_1.length : Int) t199 t200 false _ A12.out).mono ?_); rintro e w32 ⟨rfl, hb⟩; refine ⟨_, rfl, ?_⟩; replace HO_4 := Aside0.mk (Kd.R_below (kr_ HO_4.out) hb); replace HO197 := Aside0.mk (Kd.R_below (kr_ HO197.out) hb); replace HB := Aside0.mk (below_step (lb0_ HB.out) hb); (try clear hb); (try clear hb2); (try clear hk); (try clear hi)) | ((with_reducible refine gate_dst (N := 7) rfl ?_); (try (refine gate_guard (by rfl) ?_; dsimp only)); refine box_event ?hg (N := 7) ?hd (cs := #[.string (⟨#[]⟩ : ByteArray), .string (⟨#[]⟩ : ByteArray)]) (t := 27) ?hr ?_; (case hd => rfl); (case hg => rfl); (case hr => first | (go_simp; done) | (go_simp; rfl)); intro gb202 hg w33 hbox hb; replace HO_4 := Aside0.mk (Kd.R_below (Kd.R_elderB (kr_ HO_4.out) gb202 (Nat.le_of_eq hg.symm)) hb); replace HO197 := Aside0.mk (Kd.R_below (kr_ HO197.out) hb); have BK202 := Aside0.mk (hbox); have GW202 := Aside0.mk ((bz_ hg (lb0_ HB.out))); have GE202 := Aside0.mk ((bz_ hg (lb0_ HB.out))); replace HB := Aside0.mk (below_step (lb0_ HB.out) hb); clear hb hbox hg; obtain ⟨hcz34_0, hcz34_1⟩ := cz2_ BK202.out; obtain ⟨hfz34_0, hfz34_1⟩ := fz2_ BK202.out))
           go_ret2
           exact ⟨_, rr_, by (with_reducible repeat (first | apply Kd.R_alloc | apply Kd.R_drewN | apply Kd.R_drew)); exact Kd.R_mono (Kd.R_far (p := ⟨gb202, 1, none⟩) (Kd.R_far (p := ⟨gb202, 0, none⟩) (Kd.R_mono HO_4.out (fun k_ hk => (⟨hk, hk.2⟩ : _ ∧ k_ ≠ gb202))) (fun _ hk => hk.2) (.string t199)) (fun _ hk => hk.2) (.string t200)) (fun _ hk => trivial), lb1_ HB.out GE202.out⟩
        ·
         rw [if_neg c11] at H
         exact absurd H (by simp)
       ·
        rw [if_neg c9] at H
        exact absurd H (by simp)
      ·
       rw [if_neg c8] at H
       exact absurd H (by simp)
     ·
      replace c7 := Bool.eq_false_iff.mpr c7
      subst c7
      have H1 : (some (x4_1, x5_1)) = some (r1, r2) := by rw [if_neg (show ¬ (false = true) by decide)] at H; exact H
      clear H
      have H := H1
      clear H1
      simp only [Option.some.injEq, Prod.mk.injEq] at H
      obtain ⟨rfl, rfl⟩ := H
      go_wp2
      go_ret2
      exact ⟨_, rr_, kr_ HO_4.out, lb0_ HB.out⟩
def spec_l27Log.f (k : Nat) (a0_0 : ByteArray) (a0_1 : ByteArray) (a0_2 : Int) : Option (Bool) := if (wrap64 ((a0_0.size : Int) + (a0_1.size : Int))) > 30000 then (some false) else (if a0_0.size + a0_1.size ≤ 9223372036854775807 then ((spec_l27Open.f k (sc a0_0 a0_1)).bind fun bt272 => ((spec_l27Open.f k a0_0).bind fun bt276 => (if bt272.2 = (wrap64 ((a0_0.size : Int) + (a0_1.size : Int))) then (if bt276.2 = (a0_0.size : Int) then (some ((bt272.1.length : Int) == a0_2)) else (some false)) else (some false)))) else (none))
set_option maxHeartbeats 8000000 in
set_option maxRecDepth 100000 in
theorem spec_l27Log.calls (k : Nat) (a0_0 : ByteArray) (a0_1 : ByteArray) (a0_2 : Int) (r : Bool) (w : World) (h : spec_l27Log.f k a0_0 a0_1 a0_2 = some r) :
  Calls Tryd.prog 49 #[.agg #[.string a0_0, .string a0_1, .int .i64 a0_2]] w fun e w' => e = .returned (.bool r) ∧ Below w.heap.size w w' := by
 have hu31 := Tryd.underlying31
 have HB := Aside0.mk (Below.refl w.heap.size w)
 have H : (if (wrap64 ((a0_0.size : Int) + (a0_1.size : Int))) > 30000 then (some false) else (if a0_0.size + a0_1.size ≤ 9223372036854775807 then ((spec_l27Open.f k (sc a0_0 a0_1)).bind fun bt272 => ((spec_l27Open.f k a0_0).bind fun bt276 => (if bt272.2 = (wrap64 ((a0_0.size : Int) + (a0_1.size : Int))) then (if bt276.2 = (a0_0.size : Int) then (some ((bt272.1.length : Int) == a0_2)) else (some false)) else (some false)))) else (none))) = some r := h
 clear h
 by_cases c2 : (wrap64 ((a0_0.size : Int) + (a0_1.size : Int))) > 30000
 ·
  rw [if_pos c2] at H
  have c2b0 : decide (30000 < (wrap64 ((a0_0.size : Int) + (a0_1.size : Int)))) = true := decide_eq_true c2
  try (have c2b0w := c2b0; rw [show wrap64 ((a0_0.size : Int) + (a0_1.size : Int)) = (a0_0.size : Int) + (a0_1.size : Int) from by unfold wrap64; omega] at c2b0w)
  clear c2
  obtain rfl := Option.some.inj H
  go_enter Tryd.func49, Tryd.ntmps49
  go_wp2_with (first | ((with_reducible refine gate_dst (N := 1) rfl ?_); (try (refine gate_guard (by rfl) ?_; dsimp only)); refine box_event ?hg (N := 1) ?hd (cs := #[.string a0_0, .string a0_1, .int .i64 a0_2]) (t := 31) ?hr ?_; (case hd => rfl); (case hg => rfl); (case hr => first | (go_simp; done) | (go_simp; rfl)); intro gb271 hg w3 hbox hb; have BK271 := Aside0.mk (hbox); have GW271 := Aside0.mk ((bz_ hg (lb0_ HB.out))); have GE271 := Aside0.mk ((bz_ hg (lb0_ HB.out))); replace HB := Aside0.mk (below_step (lb0_ HB.out) hb); clear hb hbox hg; obtain ⟨hcz4_0, hcz4_1, hcz4_2⟩ := cz3_ BK271.out; obtain ⟨hfz4_0, hfz4_1, hfz4_2⟩ := fz3_ BK271.out))
  go_ret
  exact ⟨rr_, lb1_ HB.out GE271.out⟩
 ·
  rw [if_neg c2] at H
  have c2b0 : decide (30000 < (wrap64 ((a0_0.size : Int) + (a0_1.size : Int)))) = false := decide_eq_false c2
  try (have c2b0w := c2b0; rw [show wrap64 ((a0_0.size : Int) + (a0_1.size : Int)) = (a0_0.size : Int) + (a0_1.size : Int) from by unfold wrap64; omega] at c2b0w)
  clear c2
  by_cases c5 : a0_0.size + a0_1.size ≤ 9223372036854775807
  ·
   rw [if_pos c5] at H
   have c5b0 := eq_true c5
   try (have c2b0w := c2b0; rw [show wrap64 ((a0_0.size : Int) + (a0_1.size : Int)) = (a0_0.size : Int) + (a0_1.size : Int) from by unfold wrap64; omega] at c2b0w)
   try (have c2b0w := c2b0; rw [show wrap64 ((a0_0.size : Int) + (a0_1.size : Int)) = (a0_0.size : Int) + (a0_1.size : Int) from by unfold wrap64; omega] at c2b0w)
   have c5b1 : decide (a0_0.size + a0_1.size ≤ 9223372036854775807) = true := decide_eq_true c5
   try have c5b2 : (9223372036854775807 < a0_0.size + a0_1.size) = False := eq_false (Nat.not_lt.2 c5)
   replace H := Option.bind_eq_some_iff.mp H
   obtain ⟨⟨t272, t273⟩, A60, H⟩ := H
   replace H : ((spec_l27Open.f k a0_0).bind fun bt276 => (if t273 = (wrap64 ((a0_0.size : Int) + (a0_1.size : Int))) then (if bt276.2 = (a0_0.size : Int) then (some ((t272.length : Int) == a0_2)) else (some false)) else (some false))) = some r := H
   have A6 := Aside0.mk A60
   clear A60
   replace H := Option.bind_eq_some_iff.mp H
   obtain ⟨⟨t276, t277⟩, A70, H⟩ := H
   replace H : (if t273 = (wrap64 ((a0_0.size : Int) + (a0_1.size : Int))) then (if t277 = (a0_0.size : Int) then (some ((t272.length : Int) == a0_2)) else (some false)) else (some false)) = some r := H
   have A7 := Aside0.mk A70
   clear A70
   by_cases c8 : t273 = (wrap64 ((a0_0.size : Int) + (a0_1.size : Int)))
   ·
    rw [if_pos c8] at H
    have c8b0 : (t273 == (wrap64 ((a0_0.size : Int) + (a0_1.size : Int)))) = true := beq_iff_eq.mpr c8
    try (have c8b0w := c8b0; rw [show wrap64 ((a0_0.size : Int) + (a0_1.size : Int)) = (a0_0.size : Int) + (a0_1.size : Int) from by unfold wrap64; omega] at c8b0w)
    have c8b1 : (t273 != (wrap64 ((a0_0.size : Int) + (a0_1.size : Int)))) = false := bne_eq_false_iff_eq.mpr c8
    try (have c8b1w := c8b1; rw [show wrap64 ((a0_0.size : Int) + (a0_1.size : Int)) = (a0_0.size : Int) + (a0_1.size : Int) from by unfold wrap64; omega] at c8b1w)
    clear c8
    by_cases c9 : t277 = (a0_0.size : Int)
    ·
     rw [if_pos c9] at H
     have c9b0 : (t277 == (a0_0.size : Int)) = true := beq_iff_eq.mpr c9
     have c9b1 : (t277 != (a0_0.size : Int)) = false := bne_eq_false_iff_eq.mpr c9
     clear c9
     obtain rfl := Option.some.inj H
     go_enter Tryd.func49, Tryd.ntmps49
     go_wp2_with (first | ((with_reducible refine gate_dst (N := 1) rfl ?_); (try (refine gate_guard (by rfl) ?_; dsimp only)); refine box_event ?hg (N := 1) ?hd (cs := #[.string a0_0, .string a0_1, .int .i64 a0_2]) (t := 31) ?hr ?_; (case hd => rfl); (case hg => rfl); (case hr => first | (go_simp; done) | (go_simp; rfl)); intro gb271 hg w10 hbox hb; have BK271 := Aside0.mk (hbox); have GW271 := Aside0.mk ((bz_ hg (lb0_ HB.out))); have GE271 := Aside0.mk ((bz_ hg (lb0_ HB.out))); replace HB := Aside0.mk (below_step (lb0_ HB.out) hb); clear hb hbox hg; obtain ⟨hcz11_0, hcz11_1, hcz11_2⟩ := cz3_ BK271.out; obtain ⟨hfz11_0, hfz11_1, hfz11_2⟩ := fz3_ BK271.out) | ((with_reducible refine gate_callee (f := 47) rfl ?_); refine ga_ (some 21) Tryd.func47 #[.string (sc a0_0 a0_1)] ?_; (with_reducible refine (spec_l27Open.calls k (sc a0_0 a0_1) t272 t273 _ A6.out).mono ?_); rintro e w12 ⟨v274, rfl, ho0, hb⟩; refine ⟨_, rfl, ?_⟩; have HO275 := Aside0.mk (Kd.R_lower ho0 (below_size (lb1_ HB.out GE271.out))); replace BK271 := Aside0.mk (bb_ (bk_ BK271.out) hb); replace HB := Aside0.mk (below_step (lb1_ HB.out GE271.out) hb); (try clear hb); (try clear hb2); (try clear hk); (try clear hi); (try clear ho0); obtain ⟨hcz13_0, hcz13_1, hcz13_2⟩ := cz3_ BK271.out; obtain ⟨hfz13_0, hfz13_1, hfz13_2⟩ := fz3_ BK271.out) | ((with_reducible refine gate_callee (f := 47) rfl ?_); refine ga_ (some 27) Tryd.func47 #[.string a0_0] ?_; (with_reducible refine (spec_l27Open.calls k a0_0 t276 t277 _ A7.out).mono ?_); rintro e w14 ⟨v278, rfl, ho0, hb⟩; refine ⟨_, rfl, ?_⟩; have HO279 := Aside0.mk (Kd.R_lower (Kd.R_new' ho0 (Kd.R_lt (kr_ HO275.out))) (below_size (lb1_ HB.out GE271.out))); replace HO275 := Aside0.mk (Kd.R_elder' (kr_ HO275.out) (Kd.R_base ho0) hb); replace BK271 := Aside0.mk (bb_ (bk_ BK271.out) hb); replace HB := Aside0.mk (below_step (lb1_ HB.out GE271.out) hb); (try clear hb); (try clear hb2); (try clear hk); (try clear hi); (try clear ho0); obtain ⟨hcz15_0, hcz15_1, hcz15_2⟩ := cz3_ BK271.out; obtain ⟨hfz15_0, hfz15_1, hfz15_2⟩ := fz3_ BK271.out; obtain ⟨Ao16, co16, eo16⟩ := Kd.R_slice HO275.out; subst eo16))
     go_ret
     exact ⟨rr_, lb1_ HB.out GE271.out⟩
    ·
     rw [if_neg c9] at H
     have c9b0 : (t277 == (a0_0.size : Int)) = false := beq_eq_false_iff_ne.mpr c9
     have c9b1 : (t277 != (a0_0.size : Int)) = true := bne_iff_ne.mpr c9
     obtain rfl := Option.some.inj H
     go_enter Tryd.func49, Tryd.ntmps49
     go_wp2_with (first | ((with_reducible refine gate_dst (N := 1) rfl ?_); (try (refine gate_guard (by rfl) ?_; dsimp only)); refine box_event ?hg (N := 1) ?hd (cs := #[.string a0_0, .string a0_1, .int .i64 a0_2]) (t := 31) ?hr ?_; (case hd => rfl); (case hg => rfl); (case hr => first | (go_simp; done) | (go_simp; rfl)); intro gb271 hg w17 hbox hb; have BK271 := Aside0.mk (hbox); have GW271 := Aside0.mk ((bz_ hg (lb0_ HB.out))); have GE271 := Aside0.mk ((bz_ hg (lb0_ HB.out))); replace HB := Aside0.mk (below_step (lb0_ HB.out) hb); clear hb hbox hg; obtain ⟨hcz18_0, hcz18_1, hcz18_2⟩ := cz3_ BK271.out; obtain ⟨hfz18_0, hfz18_1, hfz18_2⟩ := fz3_ BK271.out) | ((with_reducible refine gate_callee (f := 47) rfl ?_); refine ga_ (some 21) Tryd.func47 #[.string (sc a0_0 a0_1)] ?_; (with_reducible refine (spec_l27Open.calls k (sc a0_0 a0_1) t272 t273 _ A6.out).mono ?_); rintro e w19 ⟨v274, rfl, ho0, hb⟩; refine ⟨_, rfl, ?_⟩; have HO275 := Aside0.mk (Kd.R_lower ho0 (below_size (lb1_ HB.out GE271.out))); replace BK271 := Aside0.mk (bb_ (bk_ BK271.out) hb); replace HB := Aside0.mk (below_step (lb1_ HB.out GE271.out) hb); (try clear hb); (try clear hb2); (try clear hk); (try clear hi); (try clear ho0); obtain ⟨hcz20_0, hcz20_1, hcz20_2⟩ := cz3_ BK271.out; obtain ⟨hfz20_0, hfz20_1, hfz20_2⟩ := fz3_ BK271.out) | ((with_reducible refine gate_callee (f := 47) rfl ?_); refine ga_ (some 27) Tryd.func47 #[.string a0_0] ?_; (with_reducible refine (spec_l27Open.calls k a0_0 t276 t277 _ A7.out).mono ?_); rintro e w21 ⟨v278, rfl, ho0, hb⟩; refine ⟨_, rfl, ?_⟩; have HO279 := Aside0.mk (Kd.R_lower (Kd.R_new' ho0 (Kd.R_lt (kr_ HO275.out))) (below_size (lb1_ HB.out GE271.out))); replace HO275 := Aside0.mk (Kd.R_elder' (kr_ HO275.out) (Kd.R_base ho0) hb); replace BK271 := Aside0.mk (bb_ (bk_ BK271.out) hb); replace HB := Aside0.mk (below_step (lb1_ HB.out GE271.out) hb); (try clear hb); (try clear hb2); (try clear hk); (try clear hi); (try clear ho0); obtain ⟨hcz22_0, hcz22_1, hcz22_2⟩ := cz3_ BK271.out; obtain ⟨hfz22_0, hfz22_1, hfz22_2⟩ := fz3_ BK271.out))
     go_ret
     exact ⟨rr_, lb1_ HB.out GE271.out⟩
   ·
    rw [if_neg c8] at H
    have c8b0 : (t273 == (wrap64 ((a0_0.size : Int) + (a0_1.size : Int)))) = false := beq_eq_false_iff_ne.mpr c8
    try (have c8b0w := c8b0; rw [show wrap64 ((a0_0.size : Int) + (a0_1.size : Int)) = (a0_0.size : Int) + (a0_1.size : Int) from by unfold wrap64; omega] at c8b0w)
    have c8b1 : (t273 != (wrap64 ((a0_0.size : Int) + (a0_1.size : Int)))) = true := bne_iff_ne.mpr c8
    try (have c8b1w := c8b1; rw [show wrap64 ((a0_0.size : Int) + (a0_1.size : Int)) = (a0_0.size : Int) + (a0_1.size : Int) from by unfold wrap64; omega] at c8b1w)
    obtain rfl := Option.some.inj H
    go_enter Tryd.func49, Tryd.ntmps49
    go_wp2_with (first | ((with_reducible refine gate_dst (N := 1) rfl ?_); (try (refine gate_guard (by rfl) ?_; dsimp only)); refine box_event ?hg (N := 1) ?hd (cs := #[.string a0_0, .string a0_1, .int .i64 a0_2]) (t := 31) ?hr ?_; (case hd => rfl); (case hg => rfl); (case hr => first | (go_simp; done) | (go_simp; rfl)); intro gb271 hg w23 hbox hb; have BK271 := Aside0.mk (hbox); have GW271 := Aside0.mk ((bz_ hg (lb0_ HB.out))); have GE271 := Aside0.mk ((bz_ hg (lb0_ HB.out))); replace HB := Aside0.mk (below_step (lb0_ HB.out) hb); clear hb hbox hg; obtain ⟨hcz24_0, hcz24_1, hcz24_2⟩ := cz3_ BK271.out; obtain ⟨hfz24_0, hfz24_1, hfz24_2⟩ := fz3_ BK271.out) | ((with_reducible refine gate_callee (f := 47) rfl ?_); refine ga_ (some 21) Tryd.func47 #[.string (sc a0_0 a0_1)] ?_; (with_reducible refine (spec_l27Open.calls k (sc a0_0 a0_1) t272 t273 _ A6.out).mono ?_); rintro e w25 ⟨v274, rfl, ho0, hb⟩; refine ⟨_, rfl, ?_⟩; have HO275 := Aside0.mk (Kd.R_lower ho0 (below_size (lb1_ HB.out GE271.out))); replace BK271 := Aside0.mk (bb_ (bk_ BK271.out) hb); replace HB := Aside0.mk (below_step (lb1_ HB.out GE271.out) hb); (try clear hb); (try clear hb2); (try clear hk); (try clear hi); (try clear ho0); obtain ⟨hcz26_0, hcz26_1, hcz26_2⟩ := cz3_ BK271.out; obtain ⟨hfz26_0, hfz26_1, hfz26_2⟩ := fz3_ BK271.out) | ((with_reducible refine gate_callee (f := 47) rfl ?_); refine ga_ (some 27) Tryd.func47 #[.string a0_0] ?_; (with_reducible refine (spec_l27Open.calls k a0_0 t276 t277 _ A7.out).mono ?_); rintro e w27 ⟨v278, rfl, ho0, hb⟩; refine ⟨_, rfl, ?_⟩; have HO279 := Aside0.mk (Kd.R_lower (Kd.R_new' ho0 (Kd.R_lt (kr_ HO275.out))) (below_size (lb1_ HB.out GE271.out))); replace HO275 := Aside0.mk (Kd.R_elder' (kr_ HO275.out) (Kd.R_base ho0) hb); replace BK271 := Aside0.mk (bb_ (bk_ BK271.out) hb); replace HB := Aside0.mk (below_step (lb1_ HB.out GE271.out) hb); (try clear hb); (try clear hb2); (try clear hk); (try clear hi); (try clear ho0); obtain ⟨hcz28_0, hcz28_1, hcz28_2⟩ := cz3_ BK271.out; obtain ⟨hfz28_0, hfz28_1, hfz28_2⟩ := fz3_ BK271.out))
    go_ret
    exact ⟨rr_, lb1_ HB.out GE271.out⟩
  ·
   rw [if_neg c5] at H
   exact absurd H (by simp)
end Go.Proofs.YtdpinnhgkocjhaaDoor.Pr

namespace Go.Proofs.YtdpinnhgkocjhaaDoor.Pr
open Go.RowKit Go.Proofs.YtdpinnhgkocjhaaDoorW.PrintWords Go.Proofs.YtdpinnhgkocjhaaDoorW.PrintLast Go.Proofs.YtdpinnhgkocjhaaDoorW.PrintMore
attribute [local go_sem] max2_int min2_int max_two min_two max_three min_three max_four min_four   -- for this text's walks alone
set_option linter.unusedVariables false
set_option linter.unusedSimpArgs false
def spec_IsValidLog.f (k : Nat) (a0_0 : ByteArray) (a0_1 : ByteArray) (a0_2 : Int) : Option (Bool) := (spec_l27Log.f k a0_0 a0_1 a0_2).bind fun t281 => (some t281)
set_option maxHeartbeats 8000000 in
set_option maxRecDepth 100000 in
theorem spec_IsValidLog.calls (k : Nat) (a0_0 : ByteArray) (a0_1 : ByteArray) (a0_2 : Int) (r : Bool) (w : World) (h : spec_IsValidLog.f k a0_0 a0_1 a0_2 = some r) :
  Calls Tryd.prog 21 #[.agg #[.string a0_0, .string a0_1, .int .i64 a0_2]] w fun e w' => e = .returned (.bool r) ∧ Below w.heap.size w w' := by
 have hu31 := Tryd.underlying31
 have HB := Aside0.mk (Below.refl w.heap.size w)
 have H : ((spec_l27Log.f k a0_0 a0_1 a0_2).bind fun t281 => (some t281)) = some r := h
 clear h
 replace H := Option.bind_eq_some_iff.mp H
 obtain ⟨t281, A20, H⟩ := H
 replace H : (some t281) = some r := H
 have A2 := Aside0.mk A20
 clear A20
 obtain rfl := Option.some.inj H
 go_enter Tryd.func21, Tryd.ntmps21
 go_wp2_with (first | ((with_reducible refine gate_dst (N := 1) rfl ?_); refine box_event ?hg (N := 1) ?hd (cs := #[.string a0_0, .string a0_1, .int .i64 a0_2]) (t := 31) ?hr ?_; (case hd => rfl); (case hg => rfl); (case hr => first | (go_simp; done) | (go_simp; rfl)); intro gb280 hg w3 hbox hb; have BK280 := Aside0.mk (hbox); have GW280 := Aside0.mk ((bz_ hg (lb0_ HB.out))); have GE280 := Aside0.mk ((bz_ hg (lb0_ HB.out))); replace HB := Aside0.mk (below_step (lb0_ HB.out) hb); clear hb hbox hg; obtain ⟨hcz4_0, hcz4_1, hcz4_2⟩ := cz3_ BK280.out; obtain ⟨hfz4_0, hfz4_1, hfz4_2⟩ := fz3_ BK280.out) | ((with_reducible refine gate_callee (f := 49) rfl ?_); refine ga_ (some 4) Tryd.func49 #[.agg #[.string a0_0, .string a0_1, .int .i64 a0_2]] ?_; (with_reducible refine (spec_l27Log.calls k a0_0 a0_1 a0_2 t281 _ A2.out).mono ?_); rintro e w5 ⟨rfl, hb⟩; refine ⟨_, rfl, ?_⟩; replace BK280 := Aside0.mk (bb_ (bk_ BK280.out) hb); replace HB := Aside0.mk (below_step (lb1_ HB.out GE280.out) hb); (try clear hb); (try clear hb2); (try clear hk); (try clear hi)))
 go_ret
 exact ⟨rr_, lb1_ HB.out GE280.out⟩
def slices_Index_int_int.l0 : Nat → List Int → Int → Int → Int → Option (Int)
 | 0, _, _, _, _ => none
 | k + 1, x0, x1, x7, x8 => if x8 < x7 then (if 0 ≤ x8 then (if x8 < (x0.length : Int) then (if x1 = (rd x0 x8) then (some x8) else (slices_Index_int_int.l0 k x0 x1 x7 (wrap64 (x8 + 1)))) else (none)) else (none)) else (some (-1))
def slices_Index_int_int.f (k : Nat) (l0 : List Int) (a1 : Int) : Option (Int) := slices_Index_int_int.l0 k l0 a1 (l0.length : Int) 0
set_option maxHeartbeats 8000000 in
set_option maxRecDepth 100000 in
theorem slices_Index_int_int.calls (k : Nat) (A0 : Option Addr) (c0 : Nat) (l0 : List Int) (a1 : Int) (r : Int) (w : World) (hr0 : Kd.C (Kd.int .i64) w A0 l0.length l0) (hc0 : l0.length ≤ c0) (h : slices_Index_int_int.f k l0 a1 = some r) :
  Calls Tryd.prog 82 #[.slice A0 l0.length c0, .int .i64 a1] w fun e w' => e = .returned (.int .i64 r) ∧ Drawn0 w w' := by
 have HR0 := Aside0.mk hr0
 have HC0 := Aside0.mk hc0
 clear hr0 hc0
 have H : (slices_Index_int_int.l0 k l0 a1 (l0.length : Int) 0) = some r := h
 clear h
 have H' := Aside0.mk H
 clear H
 go_enter Tryd.func82, Tryd.ntmps82
 go_wp2
 go_loopg [8] k (fun kq v8 w' => ∃ (x8_1 : Int), v8 = .int .i64 x8_1 ∧ Aside0 (slices_Index_int_int.l0 kq l0 a1 (l0.length : Int) x8_1 = some r) ∧ Aside0 (kq ≤ k) ∧ Drawn0 w w')
 case atStart => exact ⟨(0), (by first | rfl | (simp; done) | (simp [*]; done)), H', ⟨Nat.le_refl _⟩, by repeat (first | exact Drawn0.refl _ | apply Drawn0.step)⟩
 case round =>
  clear H'
  try clear p2
  obtain ⟨x8_1, rfl, HA, HK1, ⟨m1, rfl⟩⟩ := hrel
  cases gk with
  | zero => exact absurd HA.out (by simp [slices_Index_int_int.l0])
  | succ k1 =>
   have H := HA.out
   clear HA
   simp only [slices_Index_int_int.l0] at H
   by_cases c3 : x8_1 < (l0.length : Int)
   ·
    rw [if_pos c3] at H
    have c3b0 : decide (x8_1 < (l0.length : Int)) = true := decide_eq_true c3
    clear c3
    by_cases c4 : 0 ≤ x8_1
    ·
     rw [if_pos c4] at H
     have c4b0 : decide (0 ≤ x8_1) = true := decide_eq_true c4
     clear c4
     by_cases c5 : x8_1 < (l0.length : Int)
     ·
      rw [if_pos c5] at H
      have c5b0 : decide (x8_1 < (l0.length : Int)) = true := decide_eq_true c5
      clear c5
      by_cases c6 : a1 = (rd l0 x8_1)
      ·
       rw [if_pos c6] at H
       have c6b0 : (a1 == (rd l0 x8_1)) = true := beq_iff_eq.mpr c6
       have c6b1 : (a1 != (rd l0 x8_1)) = false := bne_eq_false_iff_eq.mpr c6
       clear c6
       obtain rfl := Option.some.inj H
       have p285 : 0 ≤ (x8_1 : Int) := dt_
       have q285 : x8_1 < (l0.length : Int) := dt_
       obtain ⟨ad285, e285, hx285_0⟩ := Kd.at_int HR0.out x8_1 p285 q285
       cases e285
       replace p285 := eq_true p285
       replace q285 := eq_true q285
       go_wp2
       go_ret
       exact ⟨by first | rfl | (simp; done) | (simp [*]; done), by repeat (first | exact Drawn0.refl _ | apply Drawn0.step)⟩
      ·
       rw [if_neg c6] at H
       have c6b0 : (a1 == (rd l0 x8_1)) = false := beq_eq_false_iff_ne.mpr c6
       have c6b1 : (a1 != (rd l0 x8_1)) = true := bne_iff_ne.mpr c6
       have H' := Aside0.mk H
       clear H
       have p285 : 0 ≤ (x8_1 : Int) := dt_
       have q285 : x8_1 < (l0.length : Int) := dt_
       obtain ⟨ad285, e285, hx285_0⟩ := Kd.at_int HR0.out x8_1 p285 q285
       cases e285
       replace p285 := eq_true p285
       replace q285 := eq_true q285
       go_wp2
       go_roundg k1
       case measure => have := HK1.out; omega
       case rel => exact ⟨(wrap64 (x8_1 + 1)), (by first | rfl | (simp; done) | (simp [*]; done)), H', ⟨by have := HK1.out; omega⟩, by repeat (first | exact Drawn0.refl _ | apply Drawn0.step)⟩
     ·
      rw [if_neg c5] at H
      exact absurd H (by simp)
    ·
     rw [if_neg c4] at H
     exact absurd H (by simp)
   ·
    rw [if_neg c3] at H
    have c3b0 : decide (x8_1 < (l0.length : Int)) = false := decide_eq_false c3
    clear c3
    obtain rfl := Option.some.inj H
    go_wp2
    go_ret
    exact ⟨by first | rfl | (simp; done) | (simp [*]; done), by repeat (first | exact Drawn0.refl _ | apply Drawn0.step)⟩
def slices_Contains_int_int.f (k : Nat) (l0 : List Int) (a1 : Int) : Option (Bool) := (slices_Index_int_int.f k l0 a1).bind fun t286 => (some (decide (t286 ≥ 0)))
set_option maxHeartbeats 8000000 in
set_option maxRecDepth 100000 in
theorem slices_Contains_int_int.calls (k : Nat) (A0 : Option Addr) (c0 : Nat) (l0 : List Int) (a1 : Int) (r : Bool) (w : World) (hr0 : Kd.C (Kd.int .i64) w A0 l0.length l0) (hc0 : l0.length ≤ c0) (h : slices_Contains_int_int.f k l0 a1 = some r) :
  Calls Tryd.prog 78 #[.slice A0 l0.length c0, .int .i64 a1] w fun e w' => e = .returned (.bool r) ∧ Drawn0 w w' := by
 have HR0 := Aside0.mk hr0
 have HC0 := Aside0.mk hc0
 clear hr0 hc0
 have H : ((slices_Index_int_int.f k l0 a1).bind fun t286 => (some (decide (t286 ≥ 0)))) = some r := h
 clear h
 replace H := Option.bind_eq_some_iff.mp H
 obtain ⟨t286, A30, H⟩ := H
 replace H : (some (decide (t286 ≥ 0))) = some r := H
 have A3 := Aside0.mk A30
 clear A30
 obtain rfl := Option.some.inj H
 go_enter Tryd.func78, Tryd.ntmps78
 go_wp2_with (first | ((with_reducible refine gate_callee (f := 82) rfl ?_); refine ga_ (some 7) Tryd.func82 #[.slice A0 l0.length c0, .int .i64 a1] ?_; (with_reducible refine (slices_Index_int_int.calls k _ _ l0 a1 t286 _ ?side1 ?side2 A3.out).mono ?_); (case side1 => exact kc_ HR0.out); (case side2 => exact HC0.out); rintro e w' ⟨rfl, ⟨nd, rfl⟩⟩; refine ⟨_, rfl, ?_⟩))
 go_ret
 exact ⟨by first | rfl | (simp; done) | (simp [*]; done), by repeat (first | exact Drawn0.refl _ | apply Drawn0.step)⟩
def impl_has.f (k : Nat) (l0 : List Int) (a1 : Int) : Option (Bool) := (slices_Contains_int_int.f k l0 a1).bind fun t287 => (some t287)
set_option maxHeartbeats 8000000 in
set_option maxRecDepth 100000 in
theorem impl_has.calls (k : Nat) (A0 : Option Addr) (c0 : Nat) (l0 : List Int) (a1 : Int) (r : Bool) (w : World) (hr0 : Kd.C (Kd.int .i64) w A0 l0.length l0) (hc0 : l0.length ≤ c0) (h : impl_has.f k l0 a1 = some r) :
  Calls Tryd.prog 71 #[.slice A0 l0.length c0, .int .i64 a1] w fun e w' => e = .returned (.bool r) ∧ Drawn0 w w' := by
 have HR0 := Aside0.mk hr0
 have HC0 := Aside0.mk hc0
 clear hr0 hc0
 have H : ((slices_Contains_int_int.f k l0 a1).bind fun t287 => (some t287)) = some r := h
 clear h
 replace H := Option.bind_eq_some_iff.mp H
 obtain ⟨t287, A30, H⟩ := H
 replace H : (some t287) = some r := H
 have A3 := Aside0.mk A30
 clear A30
 obtain rfl := Option.some.inj H
 go_enter Tryd.func71, Tryd.ntmps71
 go_wp2_with (first | ((with_reducible refine gate_callee (f := 78) rfl ?_); refine ga_ (some 7) Tryd.func78 #[.slice A0 l0.length c0, .int .i64 a1] ?_; (with_reducible refine (slices_Contains_int_int.calls k _ _ l0 a1 t287 _ ?side1 ?side2 A3.out).mono ?_); (case side1 => exact kc_ HR0.out); (case side2 => exact HC0.out); rintro e w' ⟨rfl, ⟨nd, rfl⟩⟩; refine ⟨_, rfl, ?_⟩))
 go_ret
 exact ⟨by first | rfl | (simp; done) | (simp [*]; done), by repeat (first | exact Drawn0.refl _ | apply Drawn0.step)⟩
end Go.Proofs.YtdpinnhgkocjhaaDoor.Pr

namespace Go.Proofs.YtdpinnhgkocjhaaDoor.Pr
open Go.RowKit Go.Proofs.YtdpinnhgkocjhaaDoorW.PrintWords Go.Proofs.YtdpinnhgkocjhaaDoorW.PrintLast Go.Proofs.YtdpinnhgkocjhaaDoorW.PrintMore
attribute [local go_sem] max2_int min2_int max_two min_two max_three min_three max_four min_four sc_in sx_in   -- for this text's walks alone
set_option linter.unusedVariables false
set_option linter.unusedSimpArgs false
def impl_records.f (k : Nat) (a0_0 : ByteArray) (a0_1 : ByteArray) (a0_2 : Int) : Option ((List (S27)) × Bool) := if a0_0.size + a0_1.size ≤ 9223372036854775807 then ((impl_readRecords.f k (sc a0_0 a0_1)).bind fun bt289 => (if 0 ≤ (wrap64 ((bt289.2.length : Int) - 1)) then (if (wrap64 ((bt289.2.length : Int) - 1)) < (bt289.2.length : Int) then (if (rd bt289.2 (wrap64 ((bt289.2.length : Int) - 1))) = ((sc a0_0 a0_1).size : Int) then ((impl_has.f k bt289.2 (a0_0.size : Int)).bind fun t296 => (if t296 = true then (if a0_2 = (bt289.1.length : Int) then (some (bt289.1, true)) else (some (([] : List (S27)), false))) else (some (([] : List (S27)), false)))) else (some (([] : List (S27)), false))) else (none)) else (none))) else (none)
set_option maxHeartbeats 8000000 in
set_option maxRecDepth 100000 in
theorem impl_records.calls (k : Nat) (a0_0 : ByteArray) (a0_1 : ByteArray) (a0_2 : Int) (r1 : List (S27)) (r2 : Bool) (w : World) (h : impl_records.f k a0_0 a0_1 a0_2 = some (r1, r2)) (hT : Tb w) :
  Calls Tryd.prog 50 #[.agg #[.string a0_0, .string a0_1, .int .i64 a0_2]] w fun e w' => ∃ v0_ : Value, e = .returned (.tuple #[v0_, .bool r2]) ∧ Kd.R k27 27 w' w.heap.size (fun _ => True) v0_ r1 ∧ Below w.heap.size w w' := by
 have HT := Aside0.mk hT
 clear hT
 have hu31 := Tryd.underlying31
 have HB := Aside0.mk (Below.refl w.heap.size w)
 have H : (if a0_0.size + a0_1.size ≤ 9223372036854775807 then ((impl_readRecords.f k (sc a0_0 a0_1)).bind fun bt289 => (if 0 ≤ (wrap64 ((bt289.2.length : Int) - 1)) then (if (wrap64 ((bt289.2.length : Int) - 1)) < (bt289.2.length : Int) then (if (rd bt289.2 (wrap64 ((bt289.2.length : Int) - 1))) = ((sc a0_0 a0_1).size : Int) then ((impl_has.f k bt289.2 (a0_0.size : Int)).bind fun t296 => (if t296 = true then (if a0_2 = (bt289.1.length : Int) then (some (bt289.1, true)) else (some (([] : List (S27)), false))) else (some (([] : List (S27)), false)))) else (some (([] : List (S27)), false))) else (none)) else (none))) else (none)) = some (r1, r2) := h
 clear h
 by_cases c2 : a0_0.size + a0_1.size ≤ 9223372036854775807
 ·
  rw [if_pos c2] at H
  have c2b0 := eq_true c2
  have c2b1 : decide (a0_0.size + a0_1.size ≤ 9223372036854775807) = true := decide_eq_true c2
  try have c2b2 : (9223372036854775807 < a0_0.size + a0_1.size) = False := eq_false (Nat.not_lt.2 c2)
  replace H := Option.bind_eq_some_iff.mp H
  obtain ⟨⟨t289, t290⟩, A30, H⟩ := H
  replace H : (if 0 ≤ (wrap64 ((t290.length : Int) - 1)) then (if (wrap64 ((t290.length : Int) - 1)) < (t290.length : Int) then (if (rd t290 (wrap64 ((t290.length : Int) - 1))) = ((sc a0_0 a0_1).size : Int) then ((impl_has.f k t290 (a0_0.size : Int)).bind fun t296 => (if t296 = true then (if a0_2 = (t289.length : Int) then (some (t289, true)) else (some (([] : List (S27)), false))) else (some (([] : List (S27)), false)))) else (some (([] : List (S27)), false))) else (none)) else (none)) = some (r1, r2) := H
  have A3 := Aside0.mk A30
  clear A30
  obtain ⟨ji4, hji4⟩ : ∃ j_ : Int, (wrap64 ((t290.length : Int) - 1)) = j_ := ⟨_, rfl⟩
  replace H : (if 0 ≤ (ji4) then (if (ji4) < (t290.length : Int) then (if (rd t290 (ji4)) = ((sc a0_0 a0_1).size : Int) then ((impl_has.f k t290 (a0_0.size : Int)).bind fun t296 => (if t296 = true then (if a0_2 = (t289.length : Int) then (some (t289, true)) else (some (([] : List (S27)), false))) else (some (([] : List (S27)), false)))) else (some (([] : List (S27)), false))) else (none)) else (none)) = some (r1, r2) := by first | (rw [hji4] at H; exact H) | (simp only [hji4] at H ⊢; exact H)
  (try rw [hji4] at A3)
  have hji4w : (IntKind.i64.wrap ((t290.length : Int) - 1)) = ji4 := (i64_w _).trans hji4
  by_cases c5 : 0 ≤ (ji4)
  ·
   rw [if_pos c5] at H
   have c5b0 : decide (0 ≤ (ji4)) = true := decide_eq_true c5
   clear c5
   by_cases c6 : (ji4) < (t290.length : Int)
   ·
    rw [if_pos c6] at H
    have c6b0 : decide ((ji4) < (t290.length : Int)) = true := decide_eq_true c6
    clear c6
    by_cases c7 : (rd t290 (ji4)) = ((sc a0_0 a0_1).size : Int)
    ·
     rw [if_pos c7] at H
     have c7b0 : ((rd t290 (ji4)) == ((sc a0_0 a0_1).size : Int)) = true := beq_iff_eq.mpr c7
     have c7b1 : ((rd t290 (ji4)) != ((sc a0_0 a0_1).size : Int)) = false := bne_eq_false_iff_eq.mpr c7
     clear c7
     replace H := Option.bind_eq_some_iff.mp H
     obtain ⟨t296, A80, H⟩ := H
     replace H : (if t296 = true then (if a0_2 = (t289.length : Int) then (some (t289, true)) else (some (([] : List (S27)), false))) else (some (([] : List (S27)), false))) = some (r1, r2) := H
     have A8 := Aside0.mk A80
     clear A80
     by_cases c9 : t296 = true
     ·
      subst c9
      have H1 : (if a0_2 = (t289.length : Int) then (some (t289, true)) else (some (([] : List (S27)), false))) = some (r1, r2) := by rw [if_pos rfl] at H; exact H
      clear H
      have H := H1
      clear H1
      by_cases c10 : a0_2 = (t289.length : Int)
      ·
       rw [if_pos c10] at H
       have c10b0 : (a0_2 == (t289.length : Int)) = true := beq_iff_eq.mpr c10
       have c10b1 : (a0_2 != (t289.length : Int)) = false := bne_eq_false_iff_eq.mpr c10
       clear c10
       simp only [Option.some.injEq, Prod.mk.injEq] at H
       obtain ⟨rfl, rfl⟩ := H
       go_enter Tryd.func50, Tryd.ntmps50
       go_wp2_with (first | ((with_reducible refine gate_dst (N := 1) rfl ?_); (try (refine gate_guard (by rfl) ?_; dsimp only)); refine box_event ?hg (N := 1) ?hd (cs := #[.string a0_0, .string a0_1, .int .i64 a0_2]) (t := 31) ?hr ?_; (case hd => rfl); (case hg => rfl); (case hr => first | (go_simp; done) | (go_simp; rfl)); intro gb288 hg w11 hbox hb; have BK288 := Aside0.mk (hbox); have GW288 := Aside0.mk ((bz_ hg (lb0_ HB.out))); have GE288 := Aside0.mk ((bz_ hg (lb0_ HB.out))); replace HB := Aside0.mk (below_step (lb0_ HB.out) hb); clear hb hbox hg; obtain ⟨hcz12_0, hcz12_1, hcz12_2⟩ := cz3_ BK288.out; obtain ⟨hfz12_0, hfz12_1, hfz12_2⟩ := fz3_ BK288.out) | ((with_reducible refine gate_callee (f := 48) rfl ?_); refine ga_ (some 14) Tryd.func48 #[.string (sc a0_0 a0_1)] ?_; (with_reducible refine (impl_readRecords.calls k (sc a0_0 a0_1) t289 t290 _ A3.out ?sideT).mono ?_); (case sideT => first | exact HT.out | exact Tb.step HT.out HB.out | exact Tb.step HT.out (by repeat (first | (with_reducible first | exact HB.out | apply below_alloc | apply pw_below_drewN | apply below_drew1 | refine below_set ?_ GE288.out) | exact HB.out | exact Below.refl _ _))); rintro e w13 ⟨v291, v293, rfl, ho0, ho1, hb⟩; refine ⟨_, rfl, ?_⟩; have HO292 := Aside0.mk (Kd.R_lower ho0 (below_size (lb1_ HB.out GE288.out))); have HO294 := Aside0.mk (Kd.R_lower ho1 (below_size (lb1_ HB.out GE288.out))); replace BK288 := Aside0.mk (bb_ (bk_ BK288.out) hb); replace HB := Aside0.mk (below_step (lb1_ HB.out GE288.out) hb); (try clear hb); (try clear hb2); (try clear hk); (try clear hi); (try clear ho0); (try clear ho1); obtain ⟨Ao14, co14, eo14⟩ := Kd.R_slice HO294.out; subst eo14; have p295 : 0 ≤ ((ji4) : Int) := dt_; have q295 : (ji4) < (t290.length : Int) := dt_; obtain ⟨ad295, e295, hx295_0⟩ := Kd.at_int (Kd.R_reads' HO294.out).2.2 (ji4) p295 q295; cases e295; replace p295 := eq_true p295; replace q295 := eq_true q295; obtain ⟨hcz15_0, hcz15_1, hcz15_2⟩ := cz3_ BK288.out; obtain ⟨hfz15_0, hfz15_1, hfz15_2⟩ := fz3_ BK288.out) | (go_at_call 71; (with_reducible refine (impl_has.calls k _ _ t290 (a0_0.size : Int) true _ ?side1 ?side2 A8.out).mono ?_); (case side1 => exact kc_ (Kd.R_reads' HO294.out).2.2); (case side2 => exact (Kd.R_reads' HO294.out).2.1); rintro e w' ⟨rfl, ⟨nd, rfl⟩⟩; obtain ⟨Ao16, co16, eo16⟩ := Kd.R_slice HO292.out; subst eo16))
       go_ret2
       exact ⟨_, by first | rfl | (simp [errW_none, errW_some] <;> rfl) | (simp only [← hji4]; first | rfl | (simp [errW_none, errW_some] <;> rfl)) | (simp [*, errW_none, errW_some] <;> rfl), kr_ HO292.out, lb1_ HB.out GE288.out⟩
      ·
       rw [if_neg c10] at H
       have c10b0 : (a0_2 == (t289.length : Int)) = false := beq_eq_false_iff_ne.mpr c10
       have c10b1 : (a0_2 != (t289.length : Int)) = true := bne_iff_ne.mpr c10
       simp only [Option.some.injEq, Prod.mk.injEq] at H
       obtain ⟨rfl, rfl⟩ := H
       go_enter Tryd.func50, Tryd.ntmps50
       go_wp2_with (first | ((with_reducible refine gate_dst (N := 1) rfl ?_); (try (refine gate_guard (by rfl) ?_; dsimp only)); refine box_event ?hg (N := 1) ?hd (cs := #[.string a0_0, .string a0_1, .int .i64 a0_2]) (t := 31) ?hr ?_; (case hd => rfl); (case hg => rfl); (case hr => first | (go_simp; done) | (go_simp; rfl)); intro gb288 hg w17 hbox hb; have BK288 := Aside0.mk (hbox); have GW288 := Aside0.mk ((bz_ hg (lb0_ HB.out))); have GE288 := Aside0.mk ((bz_ hg (lb0_ HB.out))); replace HB := Aside0.mk (below_step (lb0_ HB.out) hb); clear hb hbox hg; obtain ⟨hcz18_0, hcz18_1, hcz18_2⟩ := cz3_ BK288.out; obtain ⟨hfz18_0, hfz18_1, hfz18_2⟩ := fz3_ BK288.out) | ((with_reducible refine gate_callee (f := 48) rfl ?_); refine ga_ (some 14) Tryd.func48 #[.string (sc a0_0 a0_1)] ?_; (with_reducible refine (impl_readRecords.calls k (sc a0_0 a0_1) t289 t290 _ A3.out ?sideT).mono ?_); (case sideT => first | exact HT.out | exact Tb.step HT.out HB.out | exact Tb.step HT.out (by repeat (first | (with_reducible first | exact HB.out | apply below_alloc | apply pw_below_drewN | apply below_drew1 | refine below_set ?_ GE288.out) | exact HB.out | exact Below.refl _ _))); rintro e w19 ⟨v291, v293, rfl, ho0, ho1, hb⟩; refine ⟨_, rfl, ?_⟩; have HO292 := Aside0.mk (Kd.R_lower ho0 (below_size (lb1_ HB.out GE288.out))); have HO294 := Aside0.mk (Kd.R_lower ho1 (below_size (lb1_ HB.out GE288.out))); replace BK288 := Aside0.mk (bb_ (bk_ BK288.out) hb); replace HB := Aside0.mk (below_step (lb1_ HB.out GE288.out) hb); (try clear hb); (try clear hb2); (try clear hk); (try clear hi); (try clear ho0); (try clear ho1); obtain ⟨Ao20, co20, eo20⟩ := Kd.R_slice HO294.out; subst eo20; have p295 : 0 ≤ ((ji4) : Int) := dt_; have q295 : (ji4) < (t290.length : Int) := dt_; obtain ⟨ad295, e295, hx295_0⟩ := Kd.at_int (Kd.R_reads' HO294.out).2.2 (ji4) p295 q295; cases e295; replace p295 := eq_true p295; replace q295 := eq_true q295; obtain ⟨hcz21_0, hcz21_1, hcz21_2⟩ := cz3_ BK288.out; obtain ⟨hfz21_0, hfz21_1, hfz21_2⟩ := fz3_ BK288.out) | (go_at_call 71; (with_reducible refine (impl_has.calls k _ _ t290 (a0_0.size : Int) true _ ?side1 ?side2 A8.out).mono ?_); (case side1 => exact kc_ (Kd.R_reads' HO294.out).2.2); (case side2 => exact (Kd.R_reads' HO294.out).2.1); rintro e w' ⟨rfl, ⟨nd, rfl⟩⟩; obtain ⟨Ao22, co22, eo22⟩ := Kd.R_slice HO292.out; subst eo22))
       go_ret2
       exact ⟨_, by first | rfl | (simp [errW_none, errW_some] <;> rfl) | (simp only [← hji4]; first | rfl | (simp [errW_none, errW_some] <;> rfl)) | (simp [*, errW_none, errW_some] <;> rfl), by first | exact Kd.R_nil _ _ _ _ _ | exact Kd.N_nil _ _ _ _ _ | exact Kd.V_nil _ _ _ _ _ | exact Kd.Q_nil _ _ _ _ _ | exact Kd.S_nil _ _ _ _ _, lb1_ HB.out GE288.out⟩
     ·
      replace c9 := Bool.eq_false_iff.mpr c9
      subst c9
      have H1 : (some (([] : List (S27)), false)) = some (r1, r2) := by rw [if_neg (show ¬ (false = true) by decide)] at H; exact H
      clear H
      have H := H1
      clear H1
      simp only [Option.some.injEq, Prod.mk.injEq] at H
      obtain ⟨rfl, rfl⟩ := H
      go_enter Tryd.func50, Tryd.ntmps50
      go_wp2_with (first | ((with_reducible refine gate_dst (N := 1) rfl ?_); (try (refine gate_guard (by rfl) ?_; dsimp only)); refine box_event ?hg (N := 1) ?hd (cs := #[.string a0_0, .string a0_1, .int .i64 a0_2]) (t := 31) ?hr ?_; (case hd => rfl); (case hg => rfl); (case hr => first | (go_simp; done) | (go_simp; rfl)); intro gb288 hg w23 hbox hb; have BK288 := Aside0.mk (hbox); have GW288 := Aside0.mk ((bz_ hg (lb0_ HB.out))); have GE288 := Aside0.mk ((bz_ hg (lb0_ HB.out))); replace HB := Aside0.mk (below_step (lb0_ HB.out) hb); clear hb hbox hg; obtain ⟨hcz24_0, hcz24_1, hcz24_2⟩ := cz3_ BK288.out; obtain ⟨hfz24_0, hfz24_1, hfz24_2⟩ := fz3_ BK288.out) | ((with_reducible refine gate_callee (f := 48) rfl ?_); refine ga_ (some 14) Tryd.func48 #[.string (sc a0_0 a0_1)] ?_; (with_reducible refine (impl_readRecords.calls k (sc a0_0 a0_1) t289 t290 _ A3.out ?sideT).mono ?_); (case sideT => first | exact HT.out | exact Tb.step HT.out HB.out | exact Tb.step HT.out (by repeat (first | (with_reducible first | exact HB.out | apply below_alloc | apply pw_below_drewN | apply below_drew1 | refine below_set ?_ GE288.out) | exact HB.out | exact Below.refl _ _))); rintro e w25 ⟨v291, v293, rfl, ho0, ho1, hb⟩; refine ⟨_, rfl, ?_⟩; have HO292 := Aside0.mk (Kd.R_lower ho0 (below_size (lb1_ HB.out GE288.out))); have HO294 := Aside0.mk (Kd.R_lower ho1 (below_size (lb1_ HB.out GE288.out))); replace BK288 := Aside0.mk (bb_ (bk_ BK288.out) hb); replace HB := Aside0.mk (below_step (lb1_ HB.out GE288.out) hb); (try clear hb); (try clear hb2); (try clear hk); (try clear hi); (try clear ho0); (try clear ho1); obtain ⟨Ao26, co26, eo26⟩ := Kd.R_slice HO294.out; subst eo26; have p295 : 0 ≤ ((ji4) : Int) := dt_; have q295 : (ji4) < (t290.length : Int) := dt_; obtain ⟨ad295, e295, hx295_0⟩ := Kd.at_int (Kd.R_reads' HO294.out).2.2 (ji4) p295 q295; cases e295; replace p295 := eq_true p295; replace q295 := eq_true q295; obtain ⟨hcz27_0, hcz27_1, hcz27_2⟩ := cz3_ BK288.out; obtain ⟨hfz27_0, hfz27_1, hfz27_2⟩ := fz3_ BK288.out) | (go_at_call 71; (with_reducible refine (impl_has.calls k _ _ t290 (a0_0.size : Int) false _ ?side1 ?side2 A8.out).mono ?_); (case side1 => exact kc_ (Kd.R_reads' HO294.out).2.2); (case side2 => exact (Kd.R_reads' HO294.out).2.1); rintro e w' ⟨rfl, ⟨nd, rfl⟩⟩))
      go_ret2
      exact ⟨_, by first | rfl | (simp [errW_none, errW_some] <;> rfl) | (simp only [← hji4]; first | rfl | (simp [errW_none, errW_some] <;> rfl)) | (simp [*, errW_none, errW_some] <;> rfl), by first | exact Kd.R_nil _ _ _ _ _ | exact Kd.N_nil _ _ _ _ _ | exact Kd.V_nil _ _ _ _ _ | exact Kd.Q_nil _ _ _ _ _ | exact Kd.S_nil _ _ _ _ _, lb1_ HB.out GE288.out⟩
    ·
     rw [if_neg c7] at H
     have c7b0 : ((rd t290 (ji4)) == ((sc a0_0 a0_1).size : Int)) = false := beq_eq_false_iff_ne.mpr c7
     have c7b1 : ((rd t290 (ji4)) != ((sc a0_0 a0_1).size : Int)) = true := bne_iff_ne.mpr c7
     simp only [Option.some.injEq, Prod.mk.injEq] at H
     obtain ⟨rfl, rfl⟩ := H
     go_enter Tryd.func50, Tryd.ntmps50
     go_wp2_with (first | ((with_reducible refine gate_dst (N := 1) rfl ?_); (try (refine gate_guard (by rfl) ?_; dsimp only)); refine box_event ?hg (N := 1) ?hd (cs := #[.string a0_0, .string a0_1, .int .i64 a0_2]) (t := 31) ?hr ?_; (case hd => rfl); (case hg => rfl); (case hr => first | (go_simp; done) | (go_simp; rfl)); intro gb288 hg w28 hbox hb; have BK288 := Aside0.mk (hbox); have GW288 := Aside0.mk ((bz_ hg (lb0_ HB.out))); have GE288 := Aside0.mk ((bz_ hg (lb0_ HB.out))); replace HB := Aside0.mk (below_step (lb0_ HB.out) hb); clear hb hbox hg; obtain ⟨hcz29_0, hcz29_1, hcz29_2⟩ := cz3_ BK288.out; obtain ⟨hfz29_0, hfz29_1, hfz29_2⟩ := fz3_ BK288.out) | ((with_reducible refine gate_callee (f := 48) rfl ?_); refine ga_ (some 14) Tryd.func48 #[.string (sc a0_0 a0_1)] ?_; (with_reducible refine (impl_readRecords.calls k (sc a0_0 a0_1) t289 t290 _ A3.out ?sideT).mono ?_); (case sideT => first | exact HT.out | exact Tb.step HT.out HB.out | exact Tb.step HT.out (by repeat (first | (with_reducible first | exact HB.out | apply below_alloc | apply pw_below_drewN | apply below_drew1 | refine below_set ?_ GE288.out) | exact HB.out | exact Below.refl _ _))); rintro e w30 ⟨v291, v293, rfl, ho0, ho1, hb⟩; refine ⟨_, rfl, ?_⟩; have HO292 := Aside0.mk (Kd.R_lower ho0 (below_size (lb1_ HB.out GE288.out))); have HO294 := Aside0.mk (Kd.R_lower ho1 (below_size (lb1_ HB.out GE288.out))); replace BK288 := Aside0.mk (bb_ (bk_ BK288.out) hb); replace HB := Aside0.mk (below_step (lb1_ HB.out GE288.out) hb); (try clear hb); (try clear hb2); (try clear hk); (try clear hi); (try clear ho0); (try clear ho1); obtain ⟨Ao31, co31, eo31⟩ := Kd.R_slice HO294.out; subst eo31; have p295 : 0 ≤ ((ji4) : Int) := dt_; have q295 : (ji4) < (t290.length : Int) := dt_; obtain ⟨ad295, e295, hx295_0⟩ := Kd.at_int (Kd.R_reads' HO294.out).2.2 (ji4) p295 q295; cases e295; replace p295 := eq_true p295; replace q295 := eq_true q295))
     go_ret2
     exact ⟨_, by first | rfl | (simp [errW_none, errW_some] <;> rfl) | (simp only [← hji4]; first | rfl | (simp [errW_none, errW_some] <;> rfl)) | (simp [*, errW_none, errW_some] <;> rfl), by first | exact Kd.R_nil _ _ _ _ _ | exact Kd.N_nil _ _ _ _ _ | exact Kd.V_nil _ _ _ _ _ | exact Kd.Q_nil _ _ _ _ _ | exact Kd.S_nil _ _ _ _ _, lb1_ HB.out GE288.out⟩
   ·
    rw [if_neg c6] at H
    exact absurd H (by simp)
  ·
   rw [if_neg c5] at H
   exact absurd H (by simp)
 ·
  rw [if_neg c2] at H
  exact absurd H (by simp)
end Go.Proofs.YtdpinnhgkocjhaaDoor.Pr

namespace Go.Proofs.YtdpinnhgkocjhaaDoor.Pr
open Go.RowKit Go.Proofs.YtdpinnhgkocjhaaDoorW.PrintWords Go.Proofs.YtdpinnhgkocjhaaDoorW.PrintLast Go.Proofs.YtdpinnhgkocjhaaDoorW.PrintMore
attribute [local go_sem] max2_int min2_int max_two min_two max_three min_three max_four min_four   -- for this text's walks alone
set_option linter.unusedVariables false
set_option linter.unusedSimpArgs false
def impl_IsValidLog.f (k : Nat) (a0_0 : ByteArray) (a0_1 : ByteArray) (a0_2 : Int) : Option (Bool) := (impl_records.f k a0_0 a0_1 a0_2).bind fun bt298 => (some bt298.2)
set_option maxHeartbeats 8000000 in
set_option maxRecDepth 100000 in
theorem impl_IsValidLog.calls (k : Nat) (a0_0 : ByteArray) (a0_1 : ByteArray) (a0_2 : Int) (r : Bool) (w : World) (h : impl_IsValidLog.f k a0_0 a0_1 a0_2 = some r) (hT : Tb w) :
  Calls Tryd.prog 23 #[.agg #[.string a0_0, .string a0_1, .int .i64 a0_2]] w fun e w' => e = .returned (.bool r) ∧ Below w.heap.size w w' := by
 have HT := Aside0.mk hT
 clear hT
 have hu31 := Tryd.underlying31
 have HB := Aside0.mk (Below.refl w.heap.size w)
 have H : ((impl_records.f k a0_0 a0_1 a0_2).bind fun bt298 => (some bt298.2)) = some r := h
 clear h
 replace H := Option.bind_eq_some_iff.mp H
 obtain ⟨⟨t298, t301⟩, A20, H⟩ := H
 replace H : (some t301) = some r := H
 have A2 := Aside0.mk A20
 clear A20
 obtain rfl := Option.some.inj H
 go_enter Tryd.func23, Tryd.ntmps23
 go_wp2_with (first | ((with_reducible refine gate_dst (N := 1) rfl ?_); refine box_event ?hg (N := 1) ?hd (cs := #[.string a0_0, .string a0_1, .int .i64 a0_2]) (t := 31) ?hr ?_; (case hd => rfl); (case hg => rfl); (case hr => first | (go_simp; done) | (go_simp; rfl)); intro gb297 hg w3 hbox hb; have BK297 := Aside0.mk (hbox); have GW297 := Aside0.mk ((bz_ hg (lb0_ HB.out))); have GE297 := Aside0.mk ((bz_ hg (lb0_ HB.out))); replace HB := Aside0.mk (below_step (lb0_ HB.out) hb); clear hb hbox hg; obtain ⟨hcz4_0, hcz4_1, hcz4_2⟩ := cz3_ BK297.out; obtain ⟨hfz4_0, hfz4_1, hfz4_2⟩ := fz3_ BK297.out) | ((with_reducible refine gate_callee (f := 50) rfl ?_); refine ga_ (some 7) Tryd.func50 #[.agg #[.string a0_0, .string a0_1, .int .i64 a0_2]] ?_; (with_reducible refine (impl_records.calls k a0_0 a0_1 a0_2 t298 t301 _ A2.out ?sideT).mono ?_); (case sideT => first | exact HT.out | exact Tb.step HT.out HB.out | exact Tb.step HT.out (by repeat (first | (with_reducible first | exact HB.out | apply below_alloc | apply pw_below_drewN | apply below_drew1 | refine below_set ?_ GE297.out) | exact HB.out | exact Below.refl _ _))); rintro e w5 ⟨v299, rfl, ho0, hb⟩; refine ⟨_, rfl, ?_⟩; have HO300 := Aside0.mk (Kd.R_lower ho0 (below_size (lb1_ HB.out GE297.out))); replace BK297 := Aside0.mk (bb_ (bk_ BK297.out) hb); replace HB := Aside0.mk (below_step (lb1_ HB.out GE297.out) hb); (try clear hb); (try clear hb2); (try clear hk); (try clear hi); (try clear ho0)))
 go_ret
 exact ⟨rr_, lb1_ HB.out GE297.out⟩
end Go.Proofs.YtdpinnhgkocjhaaDoor.Pr

namespace Go.Proofs.YtdpinnhgkocjhaaDoor.Pr
open Go.RowKit Go.Proofs.YtdpinnhgkocjhaaDoorW.PrintWords Go.Proofs.YtdpinnhgkocjhaaDoorW.PrintLast Go.Proofs.YtdpinnhgkocjhaaDoorW.PrintMore
attribute [local go_sem] max2_int min2_int max_two min_two max_three min_three max_four min_four sc_in sx_in   -- for this text's walks alone
set_option linter.unusedVariables false
set_option linter.unusedSimpArgs false
def impl_SyncLog.f (k : Nat) (a0_0 : ByteArray) (a0_1 : ByteArray) (a0_2 : Int) : Option (ByteArray × ByteArray × Int × Bool) := (impl_IsValidLog.f k a0_0 a0_1 a0_2).bind fun t329 => (if t329 = true then (if a0_0.size + a0_1.size ≤ 9223372036854775807 then (some (sc a0_0 a0_1, (⟨#[]⟩ : ByteArray), a0_2, true)) else (none)) else (some ((⟨#[]⟩ : ByteArray), (⟨#[]⟩ : ByteArray), 0, false)))
set_option maxHeartbeats 8000000 in
set_option maxRecDepth 100000 in
theorem impl_SyncLog.calls (k : Nat) (a0_0 : ByteArray) (a0_1 : ByteArray) (a0_2 : Int) (r1 : ByteArray) (r2 : ByteArray) (r3 : Int) (r4 : Bool) (w : World) (h : impl_SyncLog.f k a0_0 a0_1 a0_2 = some (r1, r2, r3, r4)) (hT : Tb w) :
  Calls Tryd.prog 27 #[.agg #[.string a0_0, .string a0_1, .int .i64 a0_2]] w fun e w' => e = .returned (.tuple #[.agg #[.string r1, .string r2, .int .i64 r3], .bool r4]) ∧ Below w.heap.size w w' := by
 have HT := Aside0.mk hT
 clear hT
 have hu31 := Tryd.underlying31
 have HB := Aside0.mk (Below.refl w.heap.size w)
 have H : ((impl_IsValidLog.f k a0_0 a0_1 a0_2).bind fun t329 => (if t329 = true then (if a0_0.size + a0_1.size ≤ 9223372036854775807 then (some (sc a0_0 a0_1, (⟨#[]⟩ : ByteArray), a0_2, true)) else (none)) else (some ((⟨#[]⟩ : ByteArray), (⟨#[]⟩ : ByteArray), 0, false)))) = some (r1, r2, r3, r4) := h
 clear h
 replace H := Option.bind_eq_some_iff.mp H
 obtain ⟨t329, A20, H⟩ := H
 replace H : (if t329 = true then (if a0_0.size + a0_1.size ≤ 9223372036854775807 then (some (sc a0_0 a0_1, (⟨#[]⟩ : ByteArray), a0_2, true)) else (none)) else (some ((⟨#[]⟩ : ByteArray), (⟨#[]⟩ : ByteArray), 0, false))) = some (r1, r2, r3, r4) := H
 have A2 := Aside0.mk A20
 clear A20
 by_cases c3 : t329 = true
 ·
  subst c3
  have H1 : (if a0_0.size + a0_1.size ≤ 9223372036854775807 then (some (sc a0_0 a0_1, (⟨#[]⟩ : ByteArray), a0_2, true)) else (none)) = some (r1, r2, r3, r4) := by rw [if_pos rfl] at H; exact H
  clear H
  have H := H1
  clear H1
  by_cases c4 : a0_0.size + a0_1.size ≤ 9223372036854775807
  ·
   rw [if_pos c4] at H
   have c4b0 := eq_true c4
   have c4b1 : decide (a0_0.size + a0_1.size ≤ 9223372036854775807) = true := decide_eq_true c4
   try have c4b2 : (9223372036854775807 < a0_0.size + a0_1.size) = False := eq_false (Nat.not_lt.2 c4)
   simp only [Option.some.injEq, Prod.mk.injEq] at H
   obtain ⟨rfl, rfl, rfl, rfl⟩ := H
   go_enter Tryd.func27, Tryd.ntmps27
   go_wp2_with (first | ((with_reducible refine gate_dst (N := 1) rfl ?_); refine box_event ?hg (N := 1) ?hd (cs := #[.string a0_0, .string a0_1, .int .i64 a0_2]) (t := 31) ?hr ?_; (case hd => rfl); (case hg => rfl); (case hr => first | (go_simp; done) | (go_simp; rfl)); intro gb327 hg w5 hbox hb; have BK327 := Aside0.mk (hbox); have GW327 := Aside0.mk ((bz_ hg (lb0_ HB.out))); have GE327 := Aside0.mk ((bz_ hg (lb0_ HB.out))); replace HB := Aside0.mk (below_step (lb0_ HB.out) hb); clear hb hbox hg) | ((with_reducible refine gate_dst (N := 2) rfl ?_); refine box_event ?hg (N := 2) ?hd (cs := #[.string (⟨#[]⟩ : ByteArray), .string (⟨#[]⟩ : ByteArray), .int .i64 0]) (t := 31) ?hr ?_; (case hd => rfl); (case hg => rfl); (case hr => first | (go_simp; done) | (go_simp; rfl)); intro gb328 hg w6 hbox hb; have BK328 := Aside0.mk (hbox); have GW328 := Aside0.mk ((bz_ hg (lb1_ HB.out GE327.out))); have GE328 := Aside0.mk ((bz_ hg (lb1_ HB.out GE327.out))); replace HB := Aside0.mk (below_step (lb1_ HB.out GE327.out) hb); have NB327_328 := Aside0.mk ((by rw [hg]; exact Nat.ne_of_lt (blk_lt (g := gb327) (o := .cells #[.string a0_0, .string a0_1, .int .i64 a0_2] 31 (0, 0)) (bk_ BK327.out)) : gb327 ≠ gb328)); have NB328_327 := Aside0.mk ((by rw [hg]; exact Nat.ne_of_gt (blk_lt (g := gb327) (o := .cells #[.string a0_0, .string a0_1, .int .i64 a0_2] 31 (0, 0)) (bk_ BK327.out)) : gb328 ≠ gb327)); replace BK327 := Aside0.mk (bb_ (bk_ BK327.out) hb); clear hb hbox hg; have hnb7 := NB327_328.out; have hnc7 := NB328_327.out; obtain ⟨hcz8_0, hcz8_1, hcz8_2⟩ := cz3_ BK327.out; obtain ⟨hfz8_0, hfz8_1, hfz8_2⟩ := fz3_ BK327.out) | ((with_reducible refine gate_callee (f := 23) rfl ?_); refine ga_ (some 5) Tryd.func23 #[.agg #[.string a0_0, .string a0_1, .int .i64 a0_2]] ?_; (with_reducible refine (impl_IsValidLog.calls k a0_0 a0_1 a0_2 true _ A2.out ?sideT).mono ?_); (case sideT => first | exact HT.out | exact Tb.step HT.out HB.out | exact Tb.step HT.out (by repeat (first | (with_reducible first | exact HB.out | apply below_alloc | apply pw_below_drewN | apply below_drew1 | refine below_set ?_ GE327.out | refine below_set ?_ GE328.out) | exact HB.out | exact Below.refl _ _))); rintro e w9 ⟨rfl, hb⟩; refine ⟨_, rfl, ?_⟩; replace BK327 := Aside0.mk (bb_ (bk_ BK327.out) hb); replace BK328 := Aside0.mk (bb_ (bk_ BK328.out) hb); replace HB := Aside0.mk (below_step (lb2_ HB.out GE327.out GE328.out) hb); (try clear hb); (try clear hb2); (try clear hk); (try clear hi); obtain ⟨hcz10_0, hcz10_1, hcz10_2⟩ := cz3_ BK327.out; obtain ⟨hfz10_0, hfz10_1, hfz10_2⟩ := fz3_ BK327.out; obtain ⟨hcz11_0, hcz11_1, hcz11_2⟩ := cz3_ BK328.out; obtain ⟨hfz11_0, hfz11_1, hfz11_2⟩ := fz3_ BK328.out))
   refine bodyPost_ret (results_ct rfl _ _ gb328 31 #[.string (sc a0_0 a0_1), .string (⟨#[]⟩ : ByteArray), .int .i64 a0_2] (0, 0) _ rfl (by (with_reducible repeat (first | refine blk_drewN ?_ _ | refine blk_drew ?_ | refine blk_alloc ?_ _)); refine blk_put (cs := #[.string (sc a0_0 a0_1), .string (⟨#[]⟩ : ByteArray), .int .i64 0]) ?_ 2 _ rfl; (with_reducible repeat (first | refine blk_drewN ?_ _ | refine blk_drew ?_ | refine blk_alloc ?_ _)); refine blk_put (cs := #[.string (sc a0_0 a0_1), .string (⟨#[]⟩ : ByteArray), .int .i64 0]) ?_ 1 _ rfl; (with_reducible repeat (first | refine blk_drewN ?_ _ | refine blk_drew ?_ | refine blk_alloc ?_ _)); refine blk_put (cs := #[.string (⟨#[]⟩ : ByteArray), .string (⟨#[]⟩ : ByteArray), .int .i64 0]) ?_ 0 _ rfl; (with_reducible repeat (first | refine blk_drewN ?_ _ | refine blk_drew ?_ | refine blk_alloc ?_ _)); exact BK328.out) Tryd.underlying31 rfl (by kernel_rfl)) rfl ?_
   exact ⟨rr_, lb2_ HB.out GE327.out GE328.out⟩
  ·
   rw [if_neg c4] at H
   exact absurd H (by simp)
 ·
  replace c3 := Bool.eq_false_iff.mpr c3
  subst c3
  have H1 : (some ((⟨#[]⟩ : ByteArray), (⟨#[]⟩ : ByteArray), 0, false)) = some (r1, r2, r3, r4) := by rw [if_neg (show ¬ (false = true) by decide)] at H; exact H
  clear H
  have H := H1
  clear H1
  simp only [Option.some.injEq, Prod.mk.injEq] at H
  obtain ⟨rfl, rfl, rfl, rfl⟩ := H
  go_enter Tryd.func27, Tryd.ntmps27
  go_wp2_with (first | ((with_reducible refine gate_dst (N := 1) rfl ?_); refine box_event ?hg (N := 1) ?hd (cs := #[.string a0_0, .string a0_1, .int .i64 a0_2]) (t := 31) ?hr ?_; (case hd => rfl); (case hg => rfl); (case hr => first | (go_simp; done) | (go_simp; rfl)); intro gb327 hg w12 hbox hb; have BK327 := Aside0.mk (hbox); have GW327 := Aside0.mk ((bz_ hg (lb0_ HB.out))); have GE327 := Aside0.mk ((bz_ hg (lb0_ HB.out))); replace HB := Aside0.mk (below_step (lb0_ HB.out) hb); clear hb hbox hg) | ((with_reducible refine gate_dst (N := 2) rfl ?_); refine box_event ?hg (N := 2) ?hd (cs := #[.string (⟨#[]⟩ : ByteArray), .string (⟨#[]⟩ : ByteArray), .int .i64 0]) (t := 31) ?hr ?_; (case hd => rfl); (case hg => rfl); (case hr => first | (go_simp; done) | (go_simp; rfl)); intro gb328 hg w13 hbox hb; have BK328 := Aside0.mk (hbox); have GW328 := Aside0.mk ((bz_ hg (lb1_ HB.out GE327.out))); have GE328 := Aside0.mk ((bz_ hg (lb1_ HB.out GE327.out))); replace HB := Aside0.mk (below_step (lb1_ HB.out GE327.out) hb); have NB327_328 := Aside0.mk ((by rw [hg]; exact Nat.ne_of_lt (blk_lt (g := gb327) (o := .cells #[.string a0_0, .string a0_1, .int .i64 a0_2] 31 (0, 0)) (bk_ BK327.out)) : gb327 ≠ gb328)); have NB328_327 := Aside0.mk ((by rw [hg]; exact Nat.ne_of_gt (blk_lt (g := gb327) (o := .cells #[.string a0_0, .string a0_1, .int .i64 a0_2] 31 (0, 0)) (bk_ BK327.out)) : gb328 ≠ gb327)); replace BK327 := Aside0.mk (bb_ (bk_ BK327.out) hb); clear hb hbox hg; have hnb14 := NB327_328.out; have hnc14 := NB328_327.out; obtain ⟨hcz15_0, hcz15_1, hcz15_2⟩ := cz3_ BK327.out; obtain ⟨hfz15_0, hfz15_1, hfz15_2⟩ := fz3_ BK327.out) | ((with_reducible refine gate_callee (f := 23) rfl ?_); refine ga_ (some 5) Tryd.func23 #[.agg #[.string a0_0, .string a0_1, .int .i64 a0_2]] ?_; (with_reducible refine (impl_IsValidLog.calls k a0_0 a0_1 a0_2 false _ A2.out ?sideT).mono ?_); (case sideT => first | exact HT.out | exact Tb.step HT.out HB.out | exact Tb.step HT.out (by repeat (first | (with_reducible first | exact HB.out | apply below_alloc | apply pw_below_drewN | apply below_drew1 | refine below_set ?_ GE327.out | refine below_set ?_ GE328.out) | exact HB.out | exact Below.refl _ _))); rintro e w16 ⟨rfl, hb⟩; refine ⟨_, rfl, ?_⟩; replace BK327 := Aside0.mk (bb_ (bk_ BK327.out) hb); replace BK328 := Aside0.mk (bb_ (bk_ BK328.out) hb); replace HB := Aside0.mk (below_step (lb2_ HB.out GE327.out GE328.out) hb); (try clear hb); (try clear hb2); (try clear hk); (try clear hi); obtain ⟨hcz17_0, hcz17_1, hcz17_2⟩ := cz3_ BK328.out; obtain ⟨hfz17_0, hfz17_1, hfz17_2⟩ := fz3_ BK328.out))
  refine bodyPost_ret (results_ct rfl _ _ gb328 31 #[.string (⟨#[]⟩ : ByteArray), .string (⟨#[]⟩ : ByteArray), .int .i64 0] (0, 0) _ rfl (by (with_reducible repeat (first | refine blk_drewN ?_ _ | refine blk_drew ?_ | refine blk_alloc ?_ _)); refine blk_put (cs := #[.string (⟨#[]⟩ : ByteArray), .string (⟨#[]⟩ : ByteArray), .int .i64 0]) ?_ 2 _ rfl; (with_reducible repeat (first | refine blk_drewN ?_ _ | refine blk_drew ?_ | refine blk_alloc ?_ _)); refine blk_put (cs := #[.string (⟨#[]⟩ : ByteArray), .string (⟨#[]⟩ : ByteArray), .int .i64 0]) ?_ 1 _ rfl; (with_reducible repeat (first | refine blk_drewN ?_ _ | refine blk_drew ?_ | refine blk_alloc ?_ _)); refine blk_put (cs := #[.string (⟨#[]⟩ : ByteArray), .string (⟨#[]⟩ : ByteArray), .int .i64 0]) ?_ 0 _ rfl; (with_reducible repeat (first | refine blk_drewN ?_ _ | refine blk_drew ?_ | refine blk_alloc ?_ _)); exact BK328.out) Tryd.underlying31 rfl (by kernel_rfl)) rfl ?_
  exact ⟨rr_, lb2_ HB.out GE327.out GE328.out⟩
def spec_AppendRecord.j0 : Nat → Bool → ByteArray → ByteArray → Int → ByteArray → ByteArray → Option (ByteArray × ByteArray × Int × Int)
 | 0, _, _, _, _, _, _ => none
 | k + 1, x13, x350000, x350001, x350002, x351000, x351001 => if x13 = true then (some (x350000, x350001, x350002, 1)) else (if x350002 = 60 then (some (x350000, x350001, x350002, 2)) else ((spec_l27Line.f k x350002 x351000 x351001).bind fun t354 => (if x350001.size + t354.size ≤ 9223372036854775807 then (some (x350000, sc x350001 t354, wrap64 (x350002 + 1), 0)) else (none))))
def spec_AppendRecord.f (k : Nat) (a0_0 : ByteArray) (a0_1 : ByteArray) (a0_2 : Int) (a1_0 : ByteArray) (a1_1 : ByteArray) : Option (ByteArray × ByteArray × Int × Int) := (spec_l27Log.f k a0_0 a0_1 a0_2).bind fun t352 => (if t352 = true then ((spec_l27Good.f k a1_0 a1_1).bind fun t353 => (spec_AppendRecord.j0 k (!t353) a0_0 a0_1 a0_2 a1_0 a1_1)) else (spec_AppendRecord.j0 k true a0_0 a0_1 a0_2 a1_0 a1_1))
def spec_AppendRecord.T5 : Bool × List (List Nat × List Nat) := (true, [([], []), ([0], [0]), ([], []), ([2], [2]), ([], []), ([3, 4], [3, 4]), ([1, 5], [1, 5]), ([0, 1, 2, 3, 4, 5, 6], []), ([7, 6, 5, 0, 1, 2, 3, 4, 5, 6], [6, 7])])
def spec_AppendRecord.B5 : List Nat := [0, 1, 0, 4, 0, 28, 63, 127, 255]
theorem spec_AppendRecord.tab5 : rtab .any (opsOf Tryd.f28 5) = spec_AppendRecord.T5 := by kernel_rfl
theorem spec_AppendRecord.bits5 : waitsOk spec_AppendRecord.T5.2 spec_AppendRecord.B5 = true := by kernel_rfl
abbrev spec_AppendRecord.mk0 : Array Bool := #[false, false, false, false, false, false, false, false, false]
abbrev spec_AppendRecord.mk1 : Array Bool := #[true, false, false, false, false, false, false, false, false]
abbrev spec_AppendRecord.mk2 : Array Bool := #[true, false, true, false, false, false, false, false, false]
abbrev spec_AppendRecord.mk3 : Array Bool := #[true, true, true, false, false, false, false, false, false]
abbrev spec_AppendRecord.mk4 : Array Bool := #[true, true, true, true, false, false, false, false, false]
abbrev spec_AppendRecord.mk5 : Array Bool := #[true, true, true, true, true, false, false, false, false]
abbrev spec_AppendRecord.mk6 : Array Bool := #[true, true, true, true, true, true, false, false, false]
abbrev spec_AppendRecord.mk7 : Array Bool := #[true, true, true, true, true, true, true, false, false]
abbrev spec_AppendRecord.mk8 : Array Bool := #[true, true, true, true, true, true, true, true, false]
abbrev spec_AppendRecord.mk9 : Array Bool := #[true, true, true, true, true, true, true, true, true]
set_option maxHeartbeats 8000000 in
set_option maxRecDepth 100000 in
theorem spec_AppendRecord.calls (k : Nat) (a0_0 : ByteArray) (a0_1 : ByteArray) (a0_2 : Int) (a1_0 : ByteArray) (a1_1 : ByteArray) (r1 : ByteArray) (r2 : ByteArray) (r3 : Int) (r4 : Int) (w : World) (h : spec_AppendRecord.f k a0_0 a0_1 a0_2 a1_0 a1_1 = some (r1, r2, r3, r4)) :
  Calls Tryd.prog 28 #[.agg #[.string a0_0, .string a0_1, .int .i64 a0_2], .agg #[.string a1_0, .string a1_1]] w fun e w' => e = .returned (.tuple #[.agg #[.string r1, .string r2, .int .i64 r3], .int .i64 r4]) ∧ Below w.heap.size w w' := by
 have hu31 := Tryd.underlying31
 have hu27 := Tryd.underlying27
 have HB := Aside0.mk (Below.refl w.heap.size w)
 have H : ((spec_l27Log.f k a0_0 a0_1 a0_2).bind fun t352 => (if t352 = true then ((spec_l27Good.f k a1_0 a1_1).bind fun t353 => (spec_AppendRecord.j0 k (!t353) a0_0 a0_1 a0_2 a1_0 a1_1)) else (spec_AppendRecord.j0 k true a0_0 a0_1 a0_2 a1_0 a1_1))) = some (r1, r2, r3, r4) := h
 clear h
 have HC3 := Aside0.mk H
 clear H
 go_enter Tryd.func28, Tryd.ntmps28
 go_upto_region 1 with (first | ((with_reducible refine gate_dst (N := 2) rfl ?_); refine box_event ?hg (N := 2) ?hd (cs := #[.string a0_0, .string a0_1, .int .i64 a0_2]) (t := 31) ?hr ?_; (case hd => rfl); (case hg => rfl); (case hr => first | (go_simp; done) | (go_simp; rfl)); intro gb349 hg w4 hbox hb; have BK349 := Aside0.mk (hbox); have GW349 := Aside0.mk ((bz_ hg (lb0_ HB.out))); have GE349 := Aside0.mk ((bz_ hg (lb0_ HB.out))); replace HB := Aside0.mk (below_step (lb0_ HB.out) hb); clear hb hbox hg) | ((with_reducible refine gate_dst (N := 3) rfl ?_); refine box_event ?hg (N := 3) ?hd (cs := #[.string a1_0, .string a1_1]) (t := 27) ?hr ?_; (case hd => rfl); (case hg => rfl); (case hr => first | (go_simp; done) | (go_simp; rfl)); intro gb350 hg w5 hbox hb; have BK350 := Aside0.mk (hbox); have GW350 := Aside0.mk ((bz_ hg (lb1_ HB.out GE349.out))); have GE350 := Aside0.mk ((bz_ hg (lb1_ HB.out GE349.out))); replace HB := Aside0.mk (below_step (lb1_ HB.out GE349.out) hb); have NB349_350 := Aside0.mk ((by rw [hg]; exact Nat.ne_of_lt (blk_lt (g := gb349) (o := .cells #[.string a0_0, .string a0_1, .int .i64 a0_2] 31 (0, 0)) (bk_ BK349.out)) : gb349 ≠ gb350)); have NB350_349 := Aside0.mk ((by rw [hg]; exact Nat.ne_of_gt (blk_lt (g := gb349) (o := .cells #[.string a0_0, .string a0_1, .int .i64 a0_2] 31 (0, 0)) (bk_ BK349.out)) : gb350 ≠ gb349)); replace BK349 := Aside0.mk (bb_ (bk_ BK349.out) hb); clear hb hbox hg) | ((with_reducible refine gate_dst (N := 4) rfl ?_); refine box_event ?hg (N := 4) ?hd (cs := #[.string (⟨#[]⟩ : ByteArray), .string (⟨#[]⟩ : ByteArray), .int .i64 0]) (t := 31) ?hr ?_; (case hd => rfl); (case hg => rfl); (case hr => first | (go_simp; done) | (go_simp; rfl)); intro gb351 hg w6 hbox hb; have BK351 := Aside0.mk (hbox); have GW351 := Aside0.mk ((bz_ hg (lb2_ HB.out GE349.out GE350.out))); have GE351 := Aside0.mk ((bz_ hg (lb2_ HB.out GE349.out GE350.out))); replace HB := Aside0.mk (below_step (lb2_ HB.out GE349.out GE350.out) hb); have NB349_351 := Aside0.mk ((by rw [hg]; exact Nat.ne_of_lt (blk_lt (g := gb349) (o := .cells #[.string a0_0, .string a0_1, .int .i64 a0_2] 31 (0, 0)) (bk_ BK349.out)) : gb349 ≠ gb351)); have NB351_349 := Aside0.mk ((by rw [hg]; exact Nat.ne_of_gt (blk_lt (g := gb349) (o := .cells #[.string a0_0, .string a0_1, .int .i64 a0_2] 31 (0, 0)) (bk_ BK349.out)) : gb351 ≠ gb349)); replace BK349 := Aside0.mk (bb_ (bk_ BK349.out) hb); have NB350_351 := Aside0.mk ((by rw [hg]; exact Nat.ne_of_lt (blk_lt (g := gb350) (o := .cells #[.string a1_0, .string a1_1] 27 (0, 0)) (bk_ BK350.out)) : gb350 ≠ gb351)); have NB351_350 := Aside0.mk ((by rw [hg]; exact Nat.ne_of_gt (blk_lt (g := gb350) (o := .cells #[.string a1_0, .string a1_1] 27 (0, 0)) (bk_ BK350.out)) : gb351 ≠ gb350)); replace BK350 := Aside0.mk (bb_ (bk_ BK350.out) hb); clear hb hbox hg))
 (try simp only [Act.put, List.setIfInBounds_toArray, List.set_cons_zero, List.set_cons_succ])
 go_cut [13] (fun v13 wc => ∃ (kq : Nat) (x13_2 : Bool), v13 = .bool x13_2 ∧ Aside0 (spec_AppendRecord.j0 kq x13_2 a0_0 a0_1 a0_2 a1_0 a1_1 = some (r1, r2, r3, r4)) ∧ Aside0 (kq ≤ k) ∧ Aside0 (wc.heap[gb349]? = some (.cells #[.string a0_0, .string a0_1, .int .i64 a0_2] 31 (0, 0))) ∧ Aside0 (wc.heap[gb350]? = some (.cells #[.string a1_0, .string a1_1] 27 (0, 0))) ∧ Aside0 (wc.heap[gb351]? = some (.cells #[.string (⟨#[]⟩ : ByteArray), .string (⟨#[]⟩ : ByteArray), .int .i64 0] 31 (0, 0))) ∧ Aside0 (Below w.heap.size w wc))
 case first =>
  have H := HC3.out
  clear HC3
  replace H := Option.bind_eq_some_iff.mp H
  obtain ⟨t352, A70, H⟩ := H
  replace H : (if t352 = true then ((spec_l27Good.f k a1_0 a1_1).bind fun t353 => (spec_AppendRecord.j0 k (!t353) a0_0 a0_1 a0_2 a1_0 a1_1)) else (spec_AppendRecord.j0 k true a0_0 a0_1 a0_2 a1_0 a1_1)) = some (r1, r2, r3, r4) := H
  have A7 := Aside0.mk A70
  clear A70
  by_cases c8 : t352 = true
  ·
   subst c8
   have H1 : ((spec_l27Good.f k a1_0 a1_1).bind fun t353 => (spec_AppendRecord.j0 k (!t353) a0_0 a0_1 a0_2 a1_0 a1_1)) = some (r1, r2, r3, r4) := by rw [if_pos rfl] at H; exact H
   clear H
   have H := H1
   clear H1
   replace H := Option.bind_eq_some_iff.mp H
   obtain ⟨t353, A90, H⟩ := H
   replace H : (spec_AppendRecord.j0 k (!t353) a0_0 a0_1 a0_2 a1_0 a1_1) = some (r1, r2, r3, r4) := H
   have A9 := Aside0.mk A90
   clear A90
   have H' := Aside0.mk H
   clear H
   have hnb10 := NB349_350.out
   have hnc10 := NB350_349.out
   have hnb11 := NB349_351.out
   have hnc11 := NB351_349.out
   obtain ⟨hcz12_0, hcz12_1, hcz12_2⟩ := cz3_ BK349.out
   obtain ⟨hfz12_0, hfz12_1, hfz12_2⟩ := fz3_ BK349.out
   go_wp2_with (first | ((with_reducible refine gate_callee (f := 49) rfl ?_); refine ga_ (some 7) Tryd.func49 #[.agg #[.string a0_0, .string a0_1, .int .i64 a0_2]] ?_; (with_reducible refine (spec_l27Log.calls k a0_0 a0_1 a0_2 true _ A7.out).mono ?_); rintro e w13 ⟨rfl, hb⟩; refine ⟨_, rfl, ?_⟩; replace BK349 := Aside0.mk (bb_ (bk_ BK349.out) hb); replace BK350 := Aside0.mk (bb_ (bk_ BK350.out) hb); replace BK351 := Aside0.mk (bb_ (bk_ BK351.out) hb); replace HB := Aside0.mk (below_step (lb3_ HB.out GE349.out GE350.out GE351.out) hb); (try clear hb); (try clear hb2); (try clear hk); (try clear hi); have hnb14 := NB350_351.out; have hnc14 := NB351_350.out; obtain ⟨hcz15_0, hcz15_1⟩ := cz2_ BK350.out; obtain ⟨hfz15_0, hfz15_1⟩ := fz2_ BK350.out) | (go_at_call 43; (with_reducible refine (spec_l27Good.calls k a1_0 a1_1 t353 _ A9.out).mono ?_); rintro e w16 ⟨rfl, hb⟩; replace BK349 := Aside0.mk (bb_ (bk_ BK349.out) hb); replace BK350 := Aside0.mk (bb_ (bk_ BK350.out) hb); replace BK351 := Aside0.mk (bb_ (bk_ BK351.out) hb); replace HB := Aside0.mk (below_step (lb3_ HB.out GE349.out GE350.out GE351.out) hb); (try clear hb); (try clear hb2); (try clear hk); (try clear hi)))
   go_meet
   case rel => exact ⟨_, (!t353), (by first | rfl | (simp; done) | (simp [*]; done)), H', ⟨by first | omega | exact Nat.le_refl _⟩, ⟨bk_ BK349.out⟩, ⟨bk_ BK350.out⟩, ⟨bk_ BK351.out⟩, ⟨lb3_ HB.out GE349.out GE350.out GE351.out⟩⟩
  ·
   replace c8 := Bool.eq_false_iff.mpr c8
   subst c8
   have H1 : (spec_AppendRecord.j0 k true a0_0 a0_1 a0_2 a1_0 a1_1) = some (r1, r2, r3, r4) := by rw [if_neg (show ¬ (false = true) by decide)] at H; exact H
   clear H
   have H := H1
   clear H1
   have H' := Aside0.mk H
   clear H
   have hnb17 := NB349_350.out
   have hnc17 := NB350_349.out
   have hnb18 := NB349_351.out
   have hnc18 := NB351_349.out
   obtain ⟨hcz19_0, hcz19_1, hcz19_2⟩ := cz3_ BK349.out
   obtain ⟨hfz19_0, hfz19_1, hfz19_2⟩ := fz3_ BK349.out
   go_wp2_with (first | ((with_reducible refine gate_callee (f := 49) rfl ?_); refine ga_ (some 7) Tryd.func49 #[.agg #[.string a0_0, .string a0_1, .int .i64 a0_2]] ?_; (with_reducible refine (spec_l27Log.calls k a0_0 a0_1 a0_2 false _ A7.out).mono ?_); rintro e w20 ⟨rfl, hb⟩; refine ⟨_, rfl, ?_⟩; replace BK349 := Aside0.mk (bb_ (bk_ BK349.out) hb); replace BK350 := Aside0.mk (bb_ (bk_ BK350.out) hb); replace BK351 := Aside0.mk (bb_ (bk_ BK351.out) hb); replace HB := Aside0.mk (below_step (lb3_ HB.out GE349.out GE350.out GE351.out) hb); (try clear hb); (try clear hb2); (try clear hk); (try clear hi)))
   go_meet
   case rel => exact ⟨_, (true), (by first | rfl | (simp; done) | (simp [*]; done)), H', ⟨by first | omega | exact Nat.le_refl _⟩, ⟨bk_ BK349.out⟩, ⟨bk_ BK350.out⟩, ⟨bk_ BK351.out⟩, ⟨lb3_ HB.out GE349.out GE350.out GE351.out⟩⟩
 case rest =>
  clear HC3
  try clear c1
  try clear c2
  try clear p2
  try clear c4
  try clear c8
  try clear c10
  try clear c11
  try clear c14
  try clear c17
  try clear c18
  try clear hcz12_0 hcz12_1 hcz12_2
  try clear hcz15_0 hcz15_1
  try clear hcz19_0 hcz19_1 hcz19_2
  try clear hfz12_0 hfz12_1 hfz12_2
  try clear hfz15_0 hfz15_1
  try clear hfz19_0 hfz19_1 hfz19_2
  obtain ⟨kq, x13_2, rfl, HA, HJ2, BK349, BK350, BK351, HB⟩ := hcut
  cases kq with
  | zero => exact absurd HA.out (by simp [spec_AppendRecord.j0])
  | succ kj2 =>
   have H := HA.out
   clear HA
   simp only [spec_AppendRecord.j0] at H
   by_cases c21 : x13_2 = true
   ·
    subst c21
    have H1 : (some (a0_0, a0_1, a0_2, 1)) = some (r1, r2, r3, r4) := by rw [if_pos rfl] at H; exact H
    clear H
    have H := H1
    clear H1
    simp only [Option.some.injEq, Prod.mk.injEq] at H
    obtain ⟨rfl, rfl, rfl, rfl⟩ := H
    have hnb22 := NB349_350.out
    have hnc22 := NB350_349.out
    have hnb23 := NB349_351.out
    have hnc23 := NB351_349.out
    obtain ⟨hcz24_0, hcz24_1, hcz24_2⟩ := cz3_ BK349.out
    obtain ⟨hfz24_0, hfz24_1, hfz24_2⟩ := fz3_ BK349.out
    have hnb25 := NB351_350.out
    have hnc25 := NB350_351.out
    obtain ⟨hcz26_0, hcz26_1, hcz26_2⟩ := cz3_ BK351.out
    obtain ⟨hfz26_0, hfz26_1, hfz26_2⟩ := fz3_ BK351.out
    go_wp2
    refine bodyPost_ret (results_ct rfl _ _ gb351 31 #[.string a0_0, .string a0_1, .int .i64 a0_2] (0, 0) _ rfl (by (with_reducible repeat (first | refine blk_drewN ?_ _ | refine blk_drew ?_ | refine blk_alloc ?_ _)); refine blk_put (cs := #[.string a0_0, .string a0_1, .int .i64 0]) ?_ 2 _ rfl; (with_reducible repeat (first | refine blk_drewN ?_ _ | refine blk_drew ?_ | refine blk_alloc ?_ _)); refine blk_put (cs := #[.string a0_0, .string (⟨#[]⟩ : ByteArray), .int .i64 0]) ?_ 1 _ rfl; (with_reducible repeat (first | refine blk_drewN ?_ _ | refine blk_drew ?_ | refine blk_alloc ?_ _)); refine blk_put (cs := #[.string (⟨#[]⟩ : ByteArray), .string (⟨#[]⟩ : ByteArray), .int .i64 0]) ?_ 0 _ rfl; (with_reducible repeat (first | refine blk_drewN ?_ _ | refine blk_drew ?_ | refine blk_alloc ?_ _)); exact BK351.out) Tryd.underlying31 rfl (by kernel_rfl)) rfl ?_
    exact ⟨rr_, lb3_ HB.out GE349.out GE350.out GE351.out⟩
   ·
    replace c21 := Bool.eq_false_iff.mpr c21
    subst c21
    have H1 : (if a0_2 = 60 then (some (a0_0, a0_1, a0_2, 2)) else ((spec_l27Line.f kj2 a0_2 a1_0 a1_1).bind fun t354 => (if a0_1.size + t354.size ≤ 9223372036854775807 then (some (a0_0, sc a0_1 t354, wrap64 (a0_2 + 1), 0)) else (none)))) = some (r1, r2, r3, r4) := by rw [if_neg (show ¬ (false = true) by decide)] at H; exact H
    clear H
    have H := H1
    clear H1
    by_cases c27 : a0_2 = 60
    ·
     rw [if_pos c27] at H
     have c27b0 : (a0_2 == 60) = true := beq_iff_eq.mpr c27
     have c27b1 : (a0_2 != 60) = false := bne_eq_false_iff_eq.mpr c27
     clear c27
     simp only [Option.some.injEq, Prod.mk.injEq] at H
     obtain ⟨rfl, rfl, rfl, rfl⟩ := H
     have hnb28 := NB349_350.out
     have hnc28 := NB350_349.out
     have hnb29 := NB349_351.out
     have hnc29 := NB351_349.out
     obtain ⟨hcz30_0, hcz30_1, hcz30_2⟩ := cz3_ BK349.out
     obtain ⟨hfz30_0, hfz30_1, hfz30_2⟩ := fz3_ BK349.out
     have hnb31 := NB351_350.out
     have hnc31 := NB350_351.out
     obtain ⟨hcz32_0, hcz32_1, hcz32_2⟩ := cz3_ BK351.out
     obtain ⟨hfz32_0, hfz32_1, hfz32_2⟩ := fz3_ BK351.out
     go_wp2
     refine bodyPost_ret (results_ct rfl _ _ gb351 31 #[.string a0_0, .string a0_1, .int .i64 a0_2] (0, 0) _ rfl (by (with_reducible repeat (first | refine blk_drewN ?_ _ | refine blk_drew ?_ | refine blk_alloc ?_ _)); refine blk_put (cs := #[.string a0_0, .string a0_1, .int .i64 0]) ?_ 2 _ rfl; (with_reducible repeat (first | refine blk_drewN ?_ _ | refine blk_drew ?_ | refine blk_alloc ?_ _)); refine blk_put (cs := #[.string a0_0, .string (⟨#[]⟩ : ByteArray), .int .i64 0]) ?_ 1 _ rfl; (with_reducible repeat (first | refine blk_drewN ?_ _ | refine blk_drew ?_ | refine blk_alloc ?_ _)); refine blk_put (cs := #[.string (⟨#[]⟩ : ByteArray), .string (⟨#[]⟩ : ByteArray), .int .i64 0]) ?_ 0 _ rfl; (with_reducible repeat (first | refine blk_drewN ?_ _ | refine blk_drew ?_ | refine blk_alloc ?_ _)); exact BK351.out) Tryd.underlying31 rfl (by kernel_rfl)) rfl ?_
     exact ⟨rr_, lb3_ HB.out GE349.out GE350.out GE351.out⟩
    ·
     rw [if_neg c27] at H
     have c27b0 : (a0_2 == 60) = false := beq_eq_false_iff_ne.mpr c27
     have c27b1 : (a0_2 != 60) = true := bne_iff_ne.mpr c27
     replace H := Option.bind_eq_some_iff.mp H
     obtain ⟨t354, A330, H⟩ := H
     replace H : (if a0_1.size + t354.size ≤ 9223372036854775807 then (some (a0_0, sc a0_1 t354, wrap64 (a0_2 + 1), 0)) else (none)) = some (r1, r2, r3, r4) := H
     have A33 := Aside0.mk A330
     clear A330
     by_cases c34 : a0_1.size + t354.size ≤ 9223372036854775807
     ·
      rw [if_pos c34] at H
      have c34b0 := eq_true c34
      have c34b1 : decide (a0_1.size + t354.size ≤ 9223372036854775807) = true := decide_eq_true c34
      try have c34b2 : (9223372036854775807 < a0_1.size + t354.size) = False := eq_false (Nat.not_lt.2 c34)
      simp only [Option.some.injEq, Prod.mk.injEq] at H
      obtain ⟨rfl, rfl, rfl, rfl⟩ := H
      have hnb35 := NB349_350.out
      have hnc35 := NB350_349.out
      have hnb36 := NB349_351.out
      have hnc36 := NB351_349.out
      obtain ⟨hcz37_0, hcz37_1, hcz37_2⟩ := cz3_ BK349.out
      obtain ⟨hfz37_0, hfz37_1, hfz37_2⟩ := fz3_ BK349.out
      try go_wp2
      replace BK349 := Aside0.mk (blk_drew BK349.out)
      replace BK350 := Aside0.mk (blk_drew BK350.out)
      replace BK351 := Aside0.mk (blk_drew BK351.out)
      replace HB := Aside0.mk (below_drew1 HB.out)
      refine start_ (n := 9) (S := fun w' => w'.cell? ⟨gb349, 0, none⟩ = some (.string a0_0) ∧ w'.cell? ⟨gb349, 1, none⟩ = some (.string a0_1) ∧ w'.cell? ⟨gb349, 2, none⟩ = some (.int .i64 a0_2) ∧ w'.cell? ⟨gb350, 0, none⟩ = some (.string a1_0) ∧ w'.cell? ⟨gb350, 1, none⟩ = some (.string a1_1)) (ds := [8]) spec_AppendRecord.mk0 (by kernel_rfl) rfl rfl ⟨(blk_cell BK349.out 0).trans rfl, (blk_cell BK349.out 1).trans rfl, (blk_cell BK349.out 2).trans rfl, (blk_cell BK350.out 0).trans rfl, (blk_cell BK350.out 1).trans rfl⟩ (fun hHeld => ?_); refine with_tabW spec_AppendRecord.tab5 spec_AppendRecord.bits5 (fun HT_ HW_ => ?_)
      generalize wc.drew = w38 at BK349 BK350 BK351 HB hHeld ⊢
      refine pz_ HT_ 0 (some 19) spec_AppendRecord.mk1 ?_
      refine pz_ HT_ 2 (some 21) spec_AppendRecord.mk2 ?_
      refine take_ (i := 1) (N := some 20) (v := ?_) (a' := ?_) spec_AppendRecord.mk3 rfl rfl (take_ofW HT_.out HW_.out (by kernel_rfl)) (fun _ _ _ h => h) (Or.inl ⟨by rfl, ?_⟩) hHeld ?_ ?_
      rotate_left
      ·
       rintro w' ⟨s0, s1, s2, s3, s4⟩
       go_simp
       with_reducible rfl
      rotate_left
      ·
       simp only [Act.put, List.setIfInBounds_toArray, List.set_cons_zero, List.set_cons_succ, i64_w, i32_w]
       rfl
      refine take_ (i := 3) (N := some 22) (v := ?_) (a' := ?_) spec_AppendRecord.mk4 rfl rfl (take_ofW HT_.out HW_.out (by kernel_rfl)) (fun _ _ _ h => h) (Or.inl ⟨by rfl, ?_⟩) hHeld ?_ ?_
      rotate_left
      ·
       rintro w' ⟨s0, s1, s2, s3, s4⟩
       go_simp
       with_reducible rfl
      rotate_left
      ·
       simp only [Act.put, List.setIfInBounds_toArray, List.set_cons_zero, List.set_cons_succ, i64_w, i32_w]
       rfl
      refine take_ (i := 4) (N := some 23) (v := ?_) (a' := ?_) spec_AppendRecord.mk5 rfl rfl (take_ofW HT_.out HW_.out (by kernel_rfl)) (fun _ _ _ h => h) (Or.inl ⟨by rfl, ?_⟩) hHeld ?_ ?_
      rotate_left
      ·
       rintro w' ⟨s0, s1, s2, s3, s4⟩
       go_simp
       with_reducible rfl
      rotate_left
      ·
       simp only [Act.put, List.setIfInBounds_toArray, List.set_cons_zero, List.set_cons_succ, i64_w, i32_w]
       rfl
      refine one_ (i := 5) (N := some 24) spec_AppendRecord.mk6 rfl rfl (one_of HT_.out (by kernel_rfl)) (by decide) (fun K hK => ?_)
      refine gs_ Tryd.func44 #[.int .i64 a0_2, .agg #[.string a1_0, .string a1_1]] ?_
      with_reducible refine (spec_l27Line.calls kj2 a0_2 a1_0 a1_1 t354 _ A33.out).mono ?_
      rintro e w39 ⟨rfl, hb⟩
      refine ⟨_, rfl, ?_⟩
      replace BK349 := Aside0.mk (bb_ (bk_ BK349.out) hb)
      replace BK350 := Aside0.mk (bb_ (bk_ BK350.out) hb)
      replace BK351 := Aside0.mk (bb_ (bk_ BK351.out) hb)
      replace HB := Aside0.mk (below_step (lb3_ HB.out GE349.out GE350.out GE351.out) hb)
      (try clear hb)
      (try clear hb2)
      (try clear hk)
      (try clear hi)
      refine hK.out _ _ ⟨(blk_cell BK349.out 0).trans rfl, (blk_cell BK349.out 1).trans rfl, (blk_cell BK349.out 2).trans rfl, (blk_cell BK350.out 0).trans rfl, (blk_cell BK350.out 1).trans rfl⟩ (fun hHeld => ?_)
      clear hK K
      refine na_ ?_
      refine pz_ HT_ 6 (some 25) spec_AppendRecord.mk7 ?_
      refine pz_ HT_ 7 (some 26) spec_AppendRecord.mk8 ?_
      refine last_ (i := 8) (N := none) spec_AppendRecord.mk9 rfl rfl (one_of HT_.out (by kernel_rfl)) (by decide) (fun K hK => ?_)
      have hs40 : w39.cell? ⟨gb349, 1, none⟩ = some (.string a0_1) := (blk_cell BK349.out 1).trans rfl
      have hfs40 := blk_frozen BK349.out 1
      have hns40_1 := NB350_349.out
      have hns40_2 := NB351_349.out
      have hms40_1 := NB349_350.out
      have hms40_2 := NB349_351.out
      refine skip_ (w1 := ?_) (by rfl) rfl ?_ ?_
      rotate_left
      ·
       go_simp
       rfl
      refine hK.out _ _ ?_
      clear hK K
      refine done_ (done_of HT_.out (by kernel_rfl)) ?_
      obtain ⟨hcz41_0, hcz41_1, hcz41_2⟩ := cz3_ BK349.out
      obtain ⟨hfz41_0, hfz41_1, hfz41_2⟩ := fz3_ BK349.out
      have hnb42 := NB351_350.out
      have hnc42 := NB350_351.out
      obtain ⟨hcz43_0, hcz43_1, hcz43_2⟩ := cz3_ BK351.out
      obtain ⟨hfz43_0, hfz43_1, hfz43_2⟩ := fz3_ BK351.out
      try go_wp2
      refine bodyPost_ret (results_ct rfl _ _ gb351 31 #[.string a0_0, .string (sc a0_1 t354), .int .i64 (wrap64 (a0_2 + 1))] (0, 0) _ rfl (by (with_reducible repeat (first | refine blk_drewN ?_ _ | refine blk_drew ?_ | refine blk_alloc ?_ _)); refine blk_put (cs := #[.string a0_0, .string (sc a0_1 t354), .int .i64 0]) ?_ 2 _ rfl; (with_reducible repeat (first | refine blk_drewN ?_ _ | refine blk_drew ?_ | refine blk_alloc ?_ _)); refine blk_put (cs := #[.string a0_0, .string (⟨#[]⟩ : ByteArray), .int .i64 0]) ?_ 1 _ rfl; (with_reducible repeat (first | refine blk_drewN ?_ _ | refine blk_drew ?_ | refine blk_alloc ?_ _)); refine blk_put (cs := #[.string (⟨#[]⟩ : ByteArray), .string (⟨#[]⟩ : ByteArray), .int .i64 0]) ?_ 0 _ rfl; (with_reducible repeat (first | refine blk_drewN ?_ _ | refine blk_drew ?_ | refine blk_alloc ?_ _)); refine blk_far ?_ NB351_349.out _; (with_reducible repeat (first | refine blk_drewN ?_ _ | refine blk_drew ?_ | refine blk_alloc ?_ _)); refine blk_far ?_ NB351_349.out _; (with_reducible repeat (first | refine blk_drewN ?_ _ | refine blk_drew ?_ | refine blk_alloc ?_ _)); exact BK351.out) Tryd.underlying31 rfl (by kernel_rfl)) rfl ?_
      exact ⟨rr_, lb3_ HB.out GE349.out GE350.out GE351.out⟩
     ·
      rw [if_neg c34] at H
      exact absurd H (by simp)
def impl_AppendRecord.j0 : Nat → Bool → ByteArray → ByteArray → Int → ByteArray → ByteArray → Option (ByteArray × ByteArray × Int × Int)
 | 0, _, _, _, _, _, _ => none
 | k + 1, x6, x356000, x356001, x356002, x357000, x357001 => if x6 = true then (some (x356000, x356001, x356002, 1)) else (if x356002 = 60 then (some (x356000, x356001, x356002, 2)) else ((impl_encode.f k x356002 x357000 x357001).bind fun t360 => (if x356001.size + t360.size ≤ 9223372036854775807 then (some (x356000, sc x356001 t360, wrap64 (x356002 + 1), 0)) else (none))))
def impl_AppendRecord.f (k : Nat) (a0_0 : ByteArray) (a0_1 : ByteArray) (a0_2 : Int) (a1_0 : ByteArray) (a1_1 : ByteArray) : Option (ByteArray × ByteArray × Int × Int) := (impl_IsValidLog.f k a0_0 a0_1 a0_2).bind fun t358 => (if t358 = true then ((impl_IsValidRecord.f k a1_0 a1_1).bind fun t359 => (impl_AppendRecord.j0 k (!t359) a0_0 a0_1 a0_2 a1_0 a1_1)) else (impl_AppendRecord.j0 k true a0_0 a0_1 a0_2 a1_0 a1_1))
def impl_AppendRecord.T5 : Bool × List (List Nat × List Nat) := (true, [([], []), ([0], [0]), ([], []), ([2], [2]), ([], []), ([4], [4]), ([], []), ([5, 6], [5, 6]), ([3, 7], [3, 7]), ([], []), ([9], [9]), ([10], [10]), ([1, 8, 11], [1, 8, 11]), ([12, 7, 0, 1, 2, 3, 4, 5, 6, 7, 8, 9, 10, 11, 12], [12]), ([13, 0, 1, 2, 3, 4, 5, 6, 7, 8, 9, 10, 11, 12, 13], [])])
def impl_AppendRecord.B5 : List Nat := [0, 1, 0, 4, 0, 16, 0, 112, 252, 0, 512, 1536, 4095, 8191, 16383]
theorem impl_AppendRecord.tab5 : rtab .any (opsOf Tryd.f29 5) = impl_AppendRecord.T5 := by kernel_rfl
theorem impl_AppendRecord.bits5 : waitsOk impl_AppendRecord.T5.2 impl_AppendRecord.B5 = true := by kernel_rfl
abbrev impl_AppendRecord.mk0 : Array Bool := #[false, false, false, false, false, false, false, false, false, false, false, false, false, false, false]
abbrev impl_AppendRecord.mk1 : Array Bool := #[true, false, false, false, false, false, false, false, false, false, false, false, false, false, false]
abbrev impl_AppendRecord.mk2 : Array Bool := #[true, false, true, false, false, false, false, false, false, false, false, false, false, false, false]
abbrev impl_AppendRecord.mk3 : Array Bool := #[true, false, true, false, true, false, false, false, false, false, false, false, false, false, false]
abbrev impl_AppendRecord.mk4 : Array Bool := #[true, false, true, false, true, false, false, false, false, true, false, false, false, false, false]
abbrev impl_AppendRecord.mk5 : Array Bool := #[true, true, true, false, true, false, false, false, false, true, false, false, false, false, false]
abbrev impl_AppendRecord.mk6 : Array Bool := #[true, true, true, true, true, false, false, false, false, true, false, false, false, false, false]
abbrev impl_AppendRecord.mk7 : Array Bool := #[true, true, true, true, true, true, false, false, false, true, false, false, false, false, false]
abbrev impl_AppendRecord.mk8 : Array Bool := #[true, true, true, true, true, true, true, false, false, true, false, false, false, false, false]
abbrev impl_AppendRecord.mk9 : Array Bool := #[true, true, true, true, true, true, true, false, false, true, true, false, false, false, false]
abbrev impl_AppendRecord.mk10 : Array Bool := #[true, true, true, true, true, true, true, false, false, true, true, true, false, false, false]
abbrev impl_AppendRecord.mk11 : Array Bool := #[true, true, true, true, true, true, true, true, false, true, true, true, false, false, false]
abbrev impl_AppendRecord.mk12 : Array Bool := #[true, true, true, true, true, true, true, true, true, true, true, true, false, false, false]
abbrev impl_AppendRecord.mk13 : Array Bool := #[true, true, true, true, true, true, true, true, true, true, true, true, true, false, false]
abbrev impl_AppendRecord.mk14 : Array Bool := #[true, true, true, true, true, true, true, true, true, true, true, true, true, true, false]
abbrev impl_AppendRecord.mk15 : Array Bool := #[true, true, true, true, true, true, true, true, true, true, true, true, true, true, true]
set_option maxHeartbeats 8000000 in
set_option maxRecDepth 100000 in
theorem impl_AppendRecord.calls (k : Nat) (a0_0 : ByteArray) (a0_1 : ByteArray) (a0_2 : Int) (a1_0 : ByteArray) (a1_1 : ByteArray) (r1 : ByteArray) (r2 : ByteArray) (r3 : Int) (r4 : Int) (w : World) (h : impl_AppendRecord.f k a0_0 a0_1 a0_2 a1_0 a1_1 = some (r1, r2, r3, r4)) (hT : Tb w) :
  Calls Tryd.prog 29 #[.agg #[.string a0_0, .string a0_1, .int .i64 a0_2], .agg #[.string a1_0, .string a1_1]] w fun e w' => e = .returned (.tuple #[.agg #[.string r1, .string r2, .int .i64 r3], .int .i64 r4]) ∧ Below w.heap.size w w' := by
 have HT := Aside0.mk hT
 clear hT
 have hu31 := Tryd.underlying31
 have hu27 := Tryd.underlying27
 have HB := Aside0.mk (Below.refl w.heap.size w)
 have H : ((impl_IsValidLog.f k a0_0 a0_1 a0_2).bind fun t358 => (if t358 = true then ((impl_IsValidRecord.f k a1_0 a1_1).bind fun t359 => (impl_AppendRecord.j0 k (!t359) a0_0 a0_1 a0_2 a1_0 a1_1)) else (impl_AppendRecord.j0 k true a0_0 a0_1 a0_2 a1_0 a1_1))) = some (r1, r2, r3, r4) := h
 clear h
 have HC3 := Aside0.mk H
 clear H
 go_enter Tryd.func29, Tryd.ntmps29
 go_upto_region 1 with (first | ((with_reducible refine gate_dst (N := 2) rfl ?_); refine box_event ?hg (N := 2) ?hd (cs := #[.string a0_0, .string a0_1, .int .i64 a0_2]) (t := 31) ?hr ?_; (case hd => rfl); (case hg => rfl); (case hr => first | (go_simp; done) | (go_simp; rfl)); intro gb355 hg w4 hbox hb; have BK355 := Aside0.mk (hbox); have GW355 := Aside0.mk ((bz_ hg (lb0_ HB.out))); have GE355 := Aside0.mk ((bz_ hg (lb0_ HB.out))); replace HB := Aside0.mk (below_step (lb0_ HB.out) hb); clear hb hbox hg) | ((with_reducible refine gate_dst (N := 3) rfl ?_); refine box_event ?hg (N := 3) ?hd (cs := #[.string a1_0, .string a1_1]) (t := 27) ?hr ?_; (case hd => rfl); (case hg => rfl); (case hr => first | (go_simp; done) | (go_simp; rfl)); intro gb356 hg w5 hbox hb; have BK356 := Aside0.mk (hbox); have GW356 := Aside0.mk ((bz_ hg (lb1_ HB.out GE355.out))); have GE356 := Aside0.mk ((bz_ hg (lb1_ HB.out GE355.out))); replace HB := Aside0.mk (below_step (lb1_ HB.out GE355.out) hb); have NB355_356 := Aside0.mk ((by rw [hg]; exact Nat.ne_of_lt (blk_lt (g := gb355) (o := .cells #[.string a0_0, .string a0_1, .int .i64 a0_2] 31 (0, 0)) (bk_ BK355.out)) : gb355 ≠ gb356)); have NB356_355 := Aside0.mk ((by rw [hg]; exact Nat.ne_of_gt (blk_lt (g := gb355) (o := .cells #[.string a0_0, .string a0_1, .int .i64 a0_2] 31 (0, 0)) (bk_ BK355.out)) : gb356 ≠ gb355)); replace BK355 := Aside0.mk (bb_ (bk_ BK355.out) hb); clear hb hbox hg) | ((with_reducible refine gate_dst (N := 4) rfl ?_); refine box_event ?hg (N := 4) ?hd (cs := #[.string (⟨#[]⟩ : ByteArray), .string (⟨#[]⟩ : ByteArray), .int .i64 0]) (t := 31) ?hr ?_; (case hd => rfl); (case hg => rfl); (case hr => first | (go_simp; done) | (go_simp; rfl)); intro gb357 hg w6 hbox hb; have BK357 := Aside0.mk (hbox); have GW357 := Aside0.mk ((bz_ hg (lb2_ HB.out GE355.out GE356.out))); have GE357 := Aside0.mk ((bz_ hg (lb2_ HB.out GE355.out GE356.out))); replace HB := Aside0.mk (below_step (lb2_ HB.out GE355.out GE356.out) hb); have NB355_357 := Aside0.mk ((by rw [hg]; exact Nat.ne_of_lt (blk_lt (g := gb355) (o := .cells #[.string a0_0, .string a0_1, .int .i64 a0_2] 31 (0, 0)) (bk_ BK355.out)) : gb355 ≠ gb357)); have NB357_355 := Aside0.mk ((by rw [hg]; exact Nat.ne_of_gt (blk_lt (g := gb355) (o := .cells #[.string a0_0, .string a0_1, .int .i64 a0_2] 31 (0, 0)) (bk_ BK355.out)) : gb357 ≠ gb355)); replace BK355 := Aside0.mk (bb_ (bk_ BK355.out) hb); have NB356_357 := Aside0.mk ((by rw [hg]; exact Nat.ne_of_lt (blk_lt (g := gb356) (o := .cells #[.string a1_0, .string a1_1] 27 (0, 0)) (bk_ BK356.out)) : gb356 ≠ gb357)); have NB357_356 := Aside0.mk ((by rw [hg]; exact Nat.ne_of_gt (blk_lt (g := gb356) (o := .cells #[.string a1_0, .string a1_1] 27 (0, 0)) (bk_ BK356.out)) : gb357 ≠ gb356)); replace BK356 := Aside0.mk (bb_ (bk_ BK356.out) hb); clear hb hbox hg))
 (try simp only [Act.put, List.setIfInBounds_toArray, List.set_cons_zero, List.set_cons_succ])
 go_cut [6] (fun v6 wc => ∃ (kq : Nat) (x6_2 : Bool), v6 = .bool x6_2 ∧ Aside0 (impl_AppendRecord.j0 kq x6_2 a0_0 a0_1 a0_2 a1_0 a1_1 = some (r1, r2, r3, r4)) ∧ Aside0 (kq ≤ k) ∧ Aside0 (wc.heap[gb355]? = some (.cells #[.string a0_0, .string a0_1, .int .i64 a0_2] 31 (0, 0))) ∧ Aside0 (wc.heap[gb356]? = some (.cells #[.string a1_0, .string a1_1] 27 (0, 0))) ∧ Aside0 (wc.heap[gb357]? = some (.cells #[.string (⟨#[]⟩ : ByteArray), .string (⟨#[]⟩ : ByteArray), .int .i64 0] 31 (0, 0))) ∧ Aside0 (Below w.heap.size w wc))
 case first =>
  have H := HC3.out
  clear HC3
  replace H := Option.bind_eq_some_iff.mp H
  obtain ⟨t358, A70, H⟩ := H
  replace H : (if t358 = true then ((impl_IsValidRecord.f k a1_0 a1_1).bind fun t359 => (impl_AppendRecord.j0 k (!t359) a0_0 a0_1 a0_2 a1_0 a1_1)) else (impl_AppendRecord.j0 k true a0_0 a0_1 a0_2 a1_0 a1_1)) = some (r1, r2, r3, r4) := H
  have A7 := Aside0.mk A70
  clear A70
  by_cases c8 : t358 = true
  ·
   subst c8
   have H1 : ((impl_IsValidRecord.f k a1_0 a1_1).bind fun t359 => (impl_AppendRecord.j0 k (!t359) a0_0 a0_1 a0_2 a1_0 a1_1)) = some (r1, r2, r3, r4) := by rw [if_pos rfl] at H; exact H
   clear H
   have H := H1
   clear H1
   replace H := Option.bind_eq_some_iff.mp H
   obtain ⟨t359, A90, H⟩ := H
   replace H : (impl_AppendRecord.j0 k (!t359) a0_0 a0_1 a0_2 a1_0 a1_1) = some (r1, r2, r3, r4) := H
   have A9 := Aside0.mk A90
   clear A90
   have H' := Aside0.mk H
   clear H
   have hnb10 := NB355_356.out
   have hnc10 := NB356_355.out
   have hnb11 := NB355_357.out
   have hnc11 := NB357_355.out
   obtain ⟨hcz12_0, hcz12_1, hcz12_2⟩ := cz3_ BK355.out
   obtain ⟨hfz12_0, hfz12_1, hfz12_2⟩ := fz3_ BK355.out
   go_wp2_with (first | ((with_reducible refine gate_callee (f := 23) rfl ?_); refine ga_ (some 8) Tryd.func23 #[.agg #[.string a0_0, .string a0_1, .int .i64 a0_2]] ?_; (with_reducible refine (impl_IsValidLog.calls k a0_0 a0_1 a0_2 true _ A7.out ?sideT).mono ?_); (case sideT => first | exact HT.out | exact Tb.step HT.out HB.out | exact Tb.step HT.out (by repeat (first | (with_reducible first | exact HB.out | apply below_alloc | apply pw_below_drewN | apply below_drew1 | refine below_set ?_ GE355.out | refine below_set ?_ GE356.out | refine below_set ?_ GE357.out) | exact HB.out | exact Below.refl _ _))); rintro e w13 ⟨rfl, hb⟩; refine ⟨_, rfl, ?_⟩; replace BK355 := Aside0.mk (bb_ (bk_ BK355.out) hb); replace BK356 := Aside0.mk (bb_ (bk_ BK356.out) hb); replace BK357 := Aside0.mk (bb_ (bk_ BK357.out) hb); replace HB := Aside0.mk (below_step (lb3_ HB.out GE355.out GE356.out GE357.out) hb); (try clear hb); (try clear hb2); (try clear hk); (try clear hi); have hnb14 := NB356_357.out; have hnc14 := NB357_356.out; obtain ⟨hcz15_0, hcz15_1⟩ := cz2_ BK356.out; obtain ⟨hfz15_0, hfz15_1⟩ := fz2_ BK356.out) | (go_at_call 37; (with_reducible refine (impl_IsValidRecord.calls k a1_0 a1_1 t359 _ A9.out).mono ?_); rintro e w16 ⟨rfl, hb⟩; replace BK355 := Aside0.mk (bb_ (bk_ BK355.out) hb); replace BK356 := Aside0.mk (bb_ (bk_ BK356.out) hb); replace BK357 := Aside0.mk (bb_ (bk_ BK357.out) hb); replace HB := Aside0.mk (below_step (lb3_ HB.out GE355.out GE356.out GE357.out) hb); (try clear hb); (try clear hb2); (try clear hk); (try clear hi)))
   go_meet
   case rel => exact ⟨_, (!t359), (by first | rfl | (simp; done) | (simp [*]; done)), H', ⟨by first | omega | exact Nat.le_refl _⟩, ⟨bk_ BK355.out⟩, ⟨bk_ BK356.out⟩, ⟨bk_ BK357.out⟩, ⟨lb3_ HB.out GE355.out GE356.out GE357.out⟩⟩
  ·
   replace c8 := Bool.eq_false_iff.mpr c8
   subst c8
   have H1 : (impl_AppendRecord.j0 k true a0_0 a0_1 a0_2 a1_0 a1_1) = some (r1, r2, r3, r4) := by rw [if_neg (show ¬ (false = true) by decide)] at H; exact H
   clear H
   have H := H1
   clear H1
   have H' := Aside0.mk H
   clear H
   have hnb17 := NB355_356.out
   have hnc17 := NB356_355.out
   have hnb18 := NB355_357.out
   have hnc18 := NB357_355.out
   obtain ⟨hcz19_0, hcz19_1, hcz19_2⟩ := cz3_ BK355.out
   obtain ⟨hfz19_0, hfz19_1, hfz19_2⟩ := fz3_ BK355.out
   go_wp2_with (first | ((with_reducible refine gate_callee (f := 23) rfl ?_); refine ga_ (some 8) Tryd.func23 #[.agg #[.string a0_0, .string a0_1, .int .i64 a0_2]] ?_; (with_reducible refine (impl_IsValidLog.calls k a0_0 a0_1 a0_2 false _ A7.out ?sideT).mono ?_); (case sideT => first | exact HT.out | exact Tb.step HT.out HB.out | exact Tb.step HT.out (by repeat (first | (with_reducible first | exact HB.out | apply below_alloc | apply pw_below_drewN | apply below_drew1 | refine below_set ?_ GE355.out | refine below_set ?_ GE356.out | refine below_set ?_ GE357.out) | exact HB.out | exact Below.refl _ _))); rintro e w20 ⟨rfl, hb⟩; refine ⟨_, rfl, ?_⟩; replace BK355 := Aside0.mk (bb_ (bk_ BK355.out) hb); replace BK356 := Aside0.mk (bb_ (bk_ BK356.out) hb); replace BK357 := Aside0.mk (bb_ (bk_ BK357.out) hb); replace HB := Aside0.mk (below_step (lb3_ HB.out GE355.out GE356.out GE357.out) hb); (try clear hb); (try clear hb2); (try clear hk); (try clear hi)))
   go_meet
   case rel => exact ⟨_, (true), (by first | rfl | (simp; done) | (simp [*]; done)), H', ⟨by first | omega | exact Nat.le_refl _⟩, ⟨bk_ BK355.out⟩, ⟨bk_ BK356.out⟩, ⟨bk_ BK357.out⟩, ⟨lb3_ HB.out GE355.out GE356.out GE357.out⟩⟩
 case rest =>
  clear HC3
  try clear c1
  try clear c2
  try clear p2
  try clear c8
  try clear c10
  try clear c11
  try clear c14
  try clear c17
  try clear c18
  try clear hcz12_0 hcz12_1 hcz12_2
  try clear hcz15_0 hcz15_1
  try clear hcz19_0 hcz19_1 hcz19_2
  try clear hfz12_0 hfz12_1 hfz12_2
  try clear hfz15_0 hfz15_1
  try clear hfz19_0 hfz19_1 hfz19_2
  obtain ⟨kq, x6_2, rfl, HA, HJ2, BK355, BK356, BK357, HB⟩ := hcut
  cases kq with
  | zero => exact absurd HA.out (by simp [impl_AppendRecord.j0])
  | succ kj2 =>
   have H := HA.out
   clear HA
   simp only [impl_AppendRecord.j0] at H
   by_cases c21 : x6_2 = true
   ·
    subst c21
    have H1 : (some (a0_0, a0_1, a0_2, 1)) = some (r1, r2, r3, r4) := by rw [if_pos rfl] at H; exact H
    clear H
    have H := H1
    clear H1
    simp only [Option.some.injEq, Prod.mk.injEq] at H
    obtain ⟨rfl, rfl, rfl, rfl⟩ := H
    have hnb22 := NB355_356.out
    have hnc22 := NB356_355.out
    have hnb23 := NB355_357.out
    have hnc23 := NB357_355.out
    obtain ⟨hcz24_0, hcz24_1, hcz24_2⟩ := cz3_ BK355.out
    obtain ⟨hfz24_0, hfz24_1, hfz24_2⟩ := fz3_ BK355.out
    have hnb25 := NB357_356.out
    have hnc25 := NB356_357.out
    obtain ⟨hcz26_0, hcz26_1, hcz26_2⟩ := cz3_ BK357.out
    obtain ⟨hfz26_0, hfz26_1, hfz26_2⟩ := fz3_ BK357.out
    go_wp2
    refine bodyPost_ret (results_ct rfl _ _ gb357 31 #[.string a0_0, .string a0_1, .int .i64 a0_2] (0, 0) _ rfl (by (with_reducible repeat (first | refine blk_drewN ?_ _ | refine blk_drew ?_ | refine blk_alloc ?_ _)); refine blk_put (cs := #[.string a0_0, .string a0_1, .int .i64 0]) ?_ 2 _ rfl; (with_reducible repeat (first | refine blk_drewN ?_ _ | refine blk_drew ?_ | refine blk_alloc ?_ _)); refine blk_put (cs := #[.string a0_0, .string (⟨#[]⟩ : ByteArray), .int .i64 0]) ?_ 1 _ rfl; (with_reducible repeat (first | refine blk_drewN ?_ _ | refine blk_drew ?_ | refine blk_alloc ?_ _)); refine blk_put (cs := #[.string (⟨#[]⟩ : ByteArray), .string (⟨#[]⟩ : ByteArray), .int .i64 0]) ?_ 0 _ rfl; (with_reducible repeat (first | refine blk_drewN ?_ _ | refine blk_drew ?_ | refine blk_alloc ?_ _)); exact BK357.out) Tryd.underlying31 rfl (by kernel_rfl)) rfl ?_
    exact ⟨rr_, lb3_ HB.out GE355.out GE356.out GE357.out⟩
   ·
    replace c21 := Bool.eq_false_iff.mpr c21
    subst c21
    have H1 : (if a0_2 = 60 then (some (a0_0, a0_1, a0_2, 2)) else ((impl_encode.f kj2 a0_2 a1_0 a1_1).bind fun t360 => (if a0_1.size + t360.size ≤ 9223372036854775807 then (some (a0_0, sc a0_1 t360, wrap64 (a0_2 + 1), 0)) else (none)))) = some (r1, r2, r3, r4) := by rw [if_neg (show ¬ (false = true) by decide)] at H; exact H
    clear H
    have H := H1
    clear H1
    by_cases c27 : a0_2 = 60
    ·
     rw [if_pos c27] at H
     have c27b0 : (a0_2 == 60) = true := beq_iff_eq.mpr c27
     have c27b1 : (a0_2 != 60) = false := bne_eq_false_iff_eq.mpr c27
     clear c27
     simp only [Option.some.injEq, Prod.mk.injEq] at H
     obtain ⟨rfl, rfl, rfl, rfl⟩ := H
     have hnb28 := NB355_356.out
     have hnc28 := NB356_355.out
     have hnb29 := NB355_357.out
     have hnc29 := NB357_355.out
     obtain ⟨hcz30_0, hcz30_1, hcz30_2⟩ := cz3_ BK355.out
     obtain ⟨hfz30_0, hfz30_1, hfz30_2⟩ := fz3_ BK355.out
     have hnb31 := NB357_356.out
     have hnc31 := NB356_357.out
     obtain ⟨hcz32_0, hcz32_1, hcz32_2⟩ := cz3_ BK357.out
     obtain ⟨hfz32_0, hfz32_1, hfz32_2⟩ := fz3_ BK357.out
     go_wp2
     refine bodyPost_ret (results_ct rfl _ _ gb357 31 #[.string a0_0, .string a0_1, .int .i64 a0_2] (0, 0) _ rfl (by (with_reducible repeat (first | refine blk_drewN ?_ _ | refine blk_drew ?_ | refine blk_alloc ?_ _)); refine blk_put (cs := #[.string a0_0, .string a0_1, .int .i64 0]) ?_ 2 _ rfl; (with_reducible repeat (first | refine blk_drewN ?_ _ | refine blk_drew ?_ | refine blk_alloc ?_ _)); refine blk_put (cs := #[.string a0_0, .string (⟨#[]⟩ : ByteArray), .int .i64 0]) ?_ 1 _ rfl; (with_reducible repeat (first | refine blk_drewN ?_ _ | refine blk_drew ?_ | refine blk_alloc ?_ _)); refine blk_put (cs := #[.string (⟨#[]⟩ : ByteArray), .string (⟨#[]⟩ : ByteArray), .int .i64 0]) ?_ 0 _ rfl; (with_reducible repeat (first | refine blk_drewN ?_ _ | refine blk_drew ?_ | refine blk_alloc ?_ _)); exact BK357.out) Tryd.underlying31 rfl (by kernel_rfl)) rfl ?_
     exact ⟨rr_, lb3_ HB.out GE355.out GE356.out GE357.out⟩
    ·
     rw [if_neg c27] at H
     have c27b0 : (a0_2 == 60) = false := beq_eq_false_iff_ne.mpr c27
     have c27b1 : (a0_2 != 60) = true := bne_iff_ne.mpr c27
     replace H := Option.bind_eq_some_iff.mp H
     obtain ⟨t360, A330, H⟩ := H
     replace H : (if a0_1.size + t360.size ≤ 9223372036854775807 then (some (a0_0, sc a0_1 t360, wrap64 (a0_2 + 1), 0)) else (none)) = some (r1, r2, r3, r4) := H
     have A33 := Aside0.mk A330
     clear A330
     by_cases c34 : a0_1.size + t360.size ≤ 9223372036854775807
     ·
      rw [if_pos c34] at H
      have c34b0 := eq_true c34
      have c34b1 : decide (a0_1.size + t360.size ≤ 9223372036854775807) = true := decide_eq_true c34
      try have c34b2 : (9223372036854775807 < a0_1.size + t360.size) = False := eq_false (Nat.not_lt.2 c34)
      simp only [Option.some.injEq, Prod.mk.injEq] at H
      obtain ⟨rfl, rfl, rfl, rfl⟩ := H
      have hnb35 := NB355_356.out
      have hnc35 := NB356_355.out
      have hnb36 := NB355_357.out
      have hnc36 := NB357_355.out
      obtain ⟨hcz37_0, hcz37_1, hcz37_2⟩ := cz3_ BK355.out
      obtain ⟨hfz37_0, hfz37_1, hfz37_2⟩ := fz3_ BK355.out
      try go_wp2
      replace BK355 := Aside0.mk (blk_drew BK355.out)
      replace BK356 := Aside0.mk (blk_drew BK356.out)
      replace BK357 := Aside0.mk (blk_drew BK357.out)
      replace HB := Aside0.mk (below_drew1 HB.out)
      refine start_ (n := 15) (S := fun w' => w'.cell? ⟨gb355, 0, none⟩ = some (.string a0_0) ∧ w'.cell? ⟨gb355, 1, none⟩ = some (.string a0_1) ∧ w'.cell? ⟨gb355, 2, none⟩ = some (.int .i64 a0_2) ∧ w'.cell? ⟨gb356, 0, none⟩ = some (.string a1_0) ∧ w'.cell? ⟨gb356, 1, none⟩ = some (.string a1_1)) (ds := []) impl_AppendRecord.mk0 (by kernel_rfl) rfl rfl ⟨(blk_cell BK355.out 0).trans rfl, (blk_cell BK355.out 1).trans rfl, (blk_cell BK355.out 2).trans rfl, (blk_cell BK356.out 0).trans rfl, (blk_cell BK356.out 1).trans rfl⟩ (fun hHeld => ?_); refine with_tabW impl_AppendRecord.tab5 impl_AppendRecord.bits5 (fun HT_ HW_ => ?_)
      generalize wc.drew = w38 at BK355 BK356 BK357 HB hHeld ⊢
      refine pz_ HT_ 0 (some 21) impl_AppendRecord.mk1 ?_
      refine pz_ HT_ 2 (some 23) impl_AppendRecord.mk2 ?_
      refine pz_ HT_ 4 (some 25) impl_AppendRecord.mk3 ?_
      refine pz_ HT_ 9 (some 30) impl_AppendRecord.mk4 ?_
      refine take_ (i := 1) (N := some 22) (v := ?_) (a' := ?_) impl_AppendRecord.mk5 rfl rfl (take_ofW HT_.out HW_.out (by kernel_rfl)) (fun _ _ _ h => h) (Or.inl ⟨by rfl, ?_⟩) hHeld ?_ ?_
      rotate_left
      ·
       rintro w' ⟨s0, s1, s2, s3, s4⟩
       go_simp
       with_reducible rfl
      rotate_left
      ·
       simp only [Act.put, List.setIfInBounds_toArray, List.set_cons_zero, List.set_cons_succ, i64_w, i32_w]
       rfl
      refine take_ (i := 3) (N := some 24) (v := ?_) (a' := ?_) impl_AppendRecord.mk6 rfl rfl (take_ofW HT_.out HW_.out (by kernel_rfl)) (fun _ _ _ h => h) (Or.inl ⟨by rfl, ?_⟩) hHeld ?_ ?_
      rotate_left
      ·
       rintro w' ⟨s0, s1, s2, s3, s4⟩
       go_simp
       with_reducible rfl
      rotate_left
      ·
       simp only [Act.put, List.setIfInBounds_toArray, List.set_cons_zero, List.set_cons_succ, i64_w, i32_w]
       rfl
      refine take_ (i := 5) (N := some 26) (v := ?_) (a' := ?_) impl_AppendRecord.mk7 rfl rfl (take_ofW HT_.out HW_.out (by kernel_rfl)) (fun _ _ _ h => h) (Or.inl ⟨by rfl, ?_⟩) hHeld ?_ ?_
      rotate_left
      ·
       rintro w' ⟨s0, s1, s2, s3, s4⟩
       go_simp
       with_reducible rfl
      rotate_left
      ·
       simp only [Act.put, List.setIfInBounds_toArray, List.set_cons_zero, List.set_cons_succ, i64_w, i32_w]
       rfl
      refine take_ (i := 6) (N := some 27) (v := ?_) (a' := ?_) impl_AppendRecord.mk8 rfl rfl (take_ofW HT_.out HW_.out (by kernel_rfl)) (fun _ _ _ h => h) (Or.inl ⟨by rfl, ?_⟩) hHeld ?_ ?_
      rotate_left
      ·
       rintro w' ⟨s0, s1, s2, s3, s4⟩
       go_simp
       with_reducible rfl
      rotate_left
      ·
       simp only [Act.put, List.setIfInBounds_toArray, List.set_cons_zero, List.set_cons_succ, i64_w, i32_w]
       rfl
      refine take_ (i := 10) (N := some 31) (v := ?_) (a' := ?_) impl_AppendRecord.mk9 rfl rfl (take_ofW HT_.out HW_.out (by kernel_rfl)) (fun _ _ _ h => h) (Or.inl ⟨by rfl, ?_⟩) hHeld ?_ ?_
      rotate_left
      ·
       rintro w' ⟨s0, s1, s2, s3, s4⟩
       go_simp
       with_reducible rfl
      rotate_left
      ·
       simp only [Act.put, List.setIfInBounds_toArray, List.set_cons_zero, List.set_cons_succ, i64_w, i32_w]
       rfl
      refine pz_ HT_ 11 (some 32) impl_AppendRecord.mk10 ?_
      refine one_ (i := 7) (N := some 28) impl_AppendRecord.mk11 rfl rfl (one_of HT_.out (by kernel_rfl)) (by decide) (fun K hK => ?_)
      refine gs_ Tryd.func46 #[.int .i64 a0_2, .agg #[.string a1_0, .string a1_1]] ?_
      with_reducible refine (impl_encode.calls kj2 a0_2 a1_0 a1_1 t360 _ A33.out ?sideT).mono ?_
      case sideT => first | exact HT.out | exact Tb.step HT.out HB.out | exact Tb.step HT.out (by repeat (first | (with_reducible first | exact HB.out | apply below_alloc | apply pw_below_drewN | apply below_drew1 | refine below_set ?_ GE355.out | refine below_set ?_ GE356.out | refine below_set ?_ GE357.out) | exact HB.out | exact Below.refl _ _))
      rintro e w39 ⟨rfl, hb⟩
      refine ⟨_, rfl, ?_⟩
      replace BK355 := Aside0.mk (bb_ (bk_ BK355.out) hb)
      replace BK356 := Aside0.mk (bb_ (bk_ BK356.out) hb)
      replace BK357 := Aside0.mk (bb_ (bk_ BK357.out) hb)
      replace HB := Aside0.mk (below_step (lb3_ HB.out GE355.out GE356.out GE357.out) hb)
      (try clear hb)
      (try clear hb2)
      (try clear hk)
      (try clear hi)
      refine hK.out _ _ ⟨(blk_cell BK355.out 0).trans rfl, (blk_cell BK355.out 1).trans rfl, (blk_cell BK355.out 2).trans rfl, (blk_cell BK356.out 0).trans rfl, (blk_cell BK356.out 1).trans rfl⟩ (fun hHeld => ?_)
      clear hK K
      refine na_ ?_
      refine pz_ HT_ 8 (some 29) impl_AppendRecord.mk12 ?_
      refine pz_ HT_ 12 (some 33) impl_AppendRecord.mk13 ?_
      refine one_ (i := 13) (N := none) impl_AppendRecord.mk14 rfl rfl (one_of HT_.out (by kernel_rfl)) (by decide) (fun K hK => ?_)
      have hs40 : w39.cell? ⟨gb357, 0, none⟩ = some (.string (⟨#[]⟩ : ByteArray)) := (blk_cell BK357.out 0).trans rfl
      have hfs40 := blk_frozen BK357.out 0
      have hns40_0 := NB355_357.out
      have hns40_1 := NB356_357.out
      have hms40_0 := NB357_355.out
      have hms40_1 := NB357_356.out
      have hs41 : w39.cell? ⟨gb357, 1, none⟩ = some (.string (⟨#[]⟩ : ByteArray)) := (blk_cell BK357.out 1).trans rfl
      have hfs41 := blk_frozen BK357.out 1
      have hns41_0 := NB355_357.out
      have hns41_1 := NB356_357.out
      have hms41_0 := NB357_355.out
      have hms41_1 := NB357_356.out
      have hs42 : w39.cell? ⟨gb357, 2, none⟩ = some (.int .i64 0) := (blk_cell BK357.out 2).trans rfl
      have hfs42 := blk_frozen BK357.out 2
      have hns42_0 := NB355_357.out
      have hns42_1 := NB356_357.out
      have hms42_0 := NB357_355.out
      have hms42_1 := NB357_356.out
      refine skip_ (w1 := ?_) (by rfl) rfl ?_ ?_
      rotate_left
      ·
       go_simp
       rfl
      refine hK.out _ _ ⟨((cell_far (p := ⟨gb357, _, none⟩) NB355_357.out _).trans (((cell_far (p := ⟨gb357, _, none⟩) NB355_357.out _).trans (((cell_far (p := ⟨gb357, _, none⟩) NB355_357.out _).trans (hHeld.1)))))), ((cell_far (p := ⟨gb357, _, none⟩) NB355_357.out _).trans (((cell_far (p := ⟨gb357, _, none⟩) NB355_357.out _).trans (((cell_far (p := ⟨gb357, _, none⟩) NB355_357.out _).trans (hHeld.2.1)))))), ((cell_far (p := ⟨gb357, _, none⟩) NB355_357.out _).trans (((cell_far (p := ⟨gb357, _, none⟩) NB355_357.out _).trans (((cell_far (p := ⟨gb357, _, none⟩) NB355_357.out _).trans (hHeld.2.2.1)))))), ((cell_far (p := ⟨gb357, _, none⟩) NB356_357.out _).trans (((cell_far (p := ⟨gb357, _, none⟩) NB356_357.out _).trans (((cell_far (p := ⟨gb357, _, none⟩) NB356_357.out _).trans (hHeld.2.2.2.1)))))), ((cell_far (p := ⟨gb357, _, none⟩) NB356_357.out _).trans (((cell_far (p := ⟨gb357, _, none⟩) NB356_357.out _).trans (((cell_far (p := ⟨gb357, _, none⟩) NB356_357.out _).trans (hHeld.2.2.2.2))))))⟩ (fun hHeld => ?_)
      clear hK K
      refine pz_ HT_ 14 (some 5) impl_AppendRecord.mk15 ?_
      refine done_ (done_of HT_.out (by kernel_rfl)) ?_
      try go_wp2
      refine bodyPost_ret (results_ct rfl _ _ gb357 31 #[.string a0_0, .string (sc a0_1 t360), .int .i64 (wrap64 (a0_2 + 1))] (0, 0) _ rfl (by (with_reducible repeat (first | refine blk_drewN ?_ _ | refine blk_drew ?_ | refine blk_alloc ?_ _)); refine blk_put (cs := #[.string a0_0, .string (sc a0_1 t360), .int .i64 0]) ?_ 2 _ rfl; (with_reducible repeat (first | refine blk_drewN ?_ _ | refine blk_drew ?_ | refine blk_alloc ?_ _)); refine blk_put (cs := #[.string a0_0, .string (⟨#[]⟩ : ByteArray), .int .i64 0]) ?_ 1 _ rfl; (with_reducible repeat (first | refine blk_drewN ?_ _ | refine blk_drew ?_ | refine blk_alloc ?_ _)); refine blk_put (cs := #[.string (⟨#[]⟩ : ByteArray), .string (⟨#[]⟩ : ByteArray), .int .i64 0]) ?_ 0 _ rfl; (with_reducible repeat (first | refine blk_drewN ?_ _ | refine blk_drew ?_ | refine blk_alloc ?_ _)); exact BK357.out) Tryd.underlying31 rfl (by kernel_rfl)) rfl ?_
      exact ⟨rr_, lb3_ HB.out GE355.out GE356.out GE357.out⟩
     ·
      rw [if_neg c34] at H
      exact absurd H (by simp)
end Go.Proofs.YtdpinnhgkocjhaaDoor.Pr

namespace Go.Proofs.YtdpinnhgkocjhaaDoor.Pr
open Go.RowKit Go.Proofs.YtdpinnhgkocjhaaDoorW.PrintWords Go.Proofs.YtdpinnhgkocjhaaDoorW.PrintLast Go.Proofs.YtdpinnhgkocjhaaDoorW.PrintMore
attribute [local go_sem] max2_int min2_int max_two min_two max_three min_three max_four min_four   -- for this text's walks alone
set_option linter.unusedVariables false
set_option linter.unusedSimpArgs false
def impl_LogRecords.f (k : Nat) (a0_0 : ByteArray) (a0_1 : ByteArray) (a0_2 : Int) : Option ((List (S27)) × Bool) := (impl_records.f k a0_0 a0_1 a0_2).bind fun bt396 => (some (bt396.1, bt396.2))
set_option maxHeartbeats 8000000 in
set_option maxRecDepth 100000 in
theorem impl_LogRecords.calls (k : Nat) (a0_0 : ByteArray) (a0_1 : ByteArray) (a0_2 : Int) (r1 : List (S27)) (r2 : Bool) (w : World) (h : impl_LogRecords.f k a0_0 a0_1 a0_2 = some (r1, r2)) (hT : Tb w) :
  Calls Tryd.prog 31 #[.agg #[.string a0_0, .string a0_1, .int .i64 a0_2]] w fun e w' => ∃ v0_ : Value, e = .returned (.tuple #[v0_, .bool r2]) ∧ Kd.R k27 27 w' w.heap.size (fun _ => True) v0_ r1 ∧ Below w.heap.size w w' := by
 have HT := Aside0.mk hT
 clear hT
 have hu31 := Tryd.underlying31
 have HB := Aside0.mk (Below.refl w.heap.size w)
 have H : ((impl_records.f k a0_0 a0_1 a0_2).bind fun bt396 => (some (bt396.1, bt396.2))) = some (r1, r2) := h
 clear h
 replace H := Option.bind_eq_some_iff.mp H
 obtain ⟨⟨t396, t399⟩, A20, H⟩ := H
 replace H : (some (t396, t399)) = some (r1, r2) := H
 have A2 := Aside0.mk A20
 clear A20
 simp only [Option.some.injEq, Prod.mk.injEq] at H
 obtain ⟨rfl, rfl⟩ := H
 go_enter Tryd.func31, Tryd.ntmps31
 go_wp2_with (first | ((with_reducible refine gate_dst (N := 1) rfl ?_); refine box_event ?hg (N := 1) ?hd (cs := #[.string a0_0, .string a0_1, .int .i64 a0_2]) (t := 31) ?hr ?_; (case hd => rfl); (case hg => rfl); (case hr => first | (go_simp; done) | (go_simp; rfl)); intro gb395 hg w3 hbox hb; have BK395 := Aside0.mk (hbox); have GW395 := Aside0.mk ((bz_ hg (lb0_ HB.out))); have GE395 := Aside0.mk ((bz_ hg (lb0_ HB.out))); replace HB := Aside0.mk (below_step (lb0_ HB.out) hb); clear hb hbox hg; obtain ⟨hcz4_0, hcz4_1, hcz4_2⟩ := cz3_ BK395.out; obtain ⟨hfz4_0, hfz4_1, hfz4_2⟩ := fz3_ BK395.out) | ((with_reducible refine gate_callee (f := 50) rfl ?_); refine ga_ (some 5) Tryd.func50 #[.agg #[.string a0_0, .string a0_1, .int .i64 a0_2]] ?_; (with_reducible refine (impl_records.calls k a0_0 a0_1 a0_2 t396 t399 _ A2.out ?sideT).mono ?_); (case sideT => first | exact HT.out | exact Tb.step HT.out HB.out | exact Tb.step HT.out (by repeat (first | (with_reducible first | exact HB.out | apply below_alloc | apply pw_below_drewN | apply below_drew1 | refine below_set ?_ GE395.out) | exact HB.out | exact Below.refl _ _))); rintro e w5 ⟨v397, rfl, ho0, hb⟩; refine ⟨_, rfl, ?_⟩; have HO398 := Aside0.mk (Kd.R_lower ho0 (below_size (lb1_ HB.out GE395.out))); replace BK395 := Aside0.mk (bb_ (bk_ BK395.out) hb); replace HB := Aside0.mk (below_step (lb1_ HB.out GE395.out) hb); (try clear hb); (try clear hb2); (try clear hk); (try clear hi); (try clear ho0)))
 go_ret2
 exact ⟨_, rr_, kr_ HO398.out, lb1_ HB.out GE395.out⟩
def laws_vBig.f (l0 : List Int) : Option (Bool) := some (decide ((l0.length : Int) > 65536))
set_option maxHeartbeats 8000000 in
set_option maxRecDepth 100000 in
theorem laws_vBig.calls (A0 : Option Addr) (c0 : Nat) (l0 : List Int) (r : Bool) (w : World) (hr0 : Kd.C (Kd.int .u8) w A0 l0.length l0) (hc0 : l0.length ≤ c0) (h : laws_vBig.f l0 = some r) :
  Calls Tryd.prog 35 #[.slice A0 l0.length c0] w fun e w' => e = .returned (.bool r) ∧ Drawn0 w w' := by
 have HR0 := Aside0.mk hr0
 have HC0 := Aside0.mk hc0
 clear hr0 hc0
 have H : (some (decide ((l0.length : Int) > 65536))) = some r := h
 clear h
 obtain rfl := Option.some.inj H
 go_enter Tryd.func35, Tryd.ntmps35
 go_wp2
 go_ret
 exact ⟨by first | rfl | (simp; done) | (simp [*]; done), by repeat (first | exact Drawn0.refl _ | apply Drawn0.step)⟩
def spec_newCur.f (l0 : List Int) : Option (List Int × Int × Int) := some (l0, 0, 0)
def IsS74 (w0 W : World) (g : Nat) (f0 : List Int) (f1 : Int) (f2 : Int) : Prop := ∃ A0 c0, W.heap[g]? = some (.cells #[.slice A0 f0.length c0, .int .i64 f1, .int .u64 f2] 74 (0, 0)) ∧ w0.heap.size ≤ g ∧ Kd.C (Kd.int .u8) w0 A0 f0.length f0
theorem IsS74.grown {w0 W : World} {g : Nat} {f0 : List Int} {f1 : Int} {f2 : Int} {W1 : World} {row : Option Nat} (h : IsS74 w0 W g f0 f1 f2) (hw : W.grownBy W1 row) (hne : some g ≠ row) : IsS74 w0 W1 g f0 f1 f2 := by
 obtain ⟨A0, c0, hb, hg, hr0⟩ := h
 exact ⟨A0, c0, blk_grown hb hw hne, hg, hr0⟩
theorem IsS74.below {w0 W : World} {g : Nat} {f0 : List Int} {f1 : Int} {f2 : Int} {W1 : World} (h : IsS74 w0 W g f0 f1 f2) (hw : Below W.heap.size W W1) : IsS74 w0 W1 g f0 f1 f2 := h.grown (grown_of_below hw none) (by simp)
theorem IsS74.alloc {w0 W : World} {g : Nat} {f0 : List Int} {f1 : Int} {f2 : Int} (h : IsS74 w0 W g f0 f1 f2) (o : Obj) : IsS74 w0 (W.alloc o) g f0 f1 f2 := h.below (below_alloc (Below.refl _ _) o)
theorem IsS74.drewN {w0 W : World} {g : Nat} {f0 : List Int} {f1 : Int} {f2 : Int} (h : IsS74 w0 W g f0 f1 f2) (m : Nat) : IsS74 w0 (W.drewN m) g f0 f1 f2 := h
theorem IsS74.drew {w0 W : World} {g : Nat} {f0 : List Int} {f1 : Int} {f2 : Int} (h : IsS74 w0 W g f0 f1 f2) : IsS74 w0 W.drew g f0 f1 f2 := h
theorem IsS74.at_ {w0 W : World} {g : Nat} {f0 : List Int} {f1 : Int} {f2 : Int} {w' : World} {m : Nat} (hq : W.drewN m = w') (h : IsS74 w0 W g f0 f1 f2) : IsS74 w0 w' g f0 f1 f2 := by subst hq; exact IsS74.drewN h m
theorem IsS74.apart {w0 W : World} {g : Nat} {f0 : List Int} {f1 : Int} {f2 : Int} {α : Type} {d : Kd α} {e : Nat} {base : Nat} {ok : Nat → Prop} {v : Value} {xs : List α} (h : IsS74 w0 W g f0 f1 f2) (ho : d.R e W base ok v xs) (ht : ∀ q, q ∈ e :: d.E → q ≠ 74) : d.R e W base (fun k => ok k ∧ k ≠ g) v xs := by
 obtain ⟨A0, c0, hb, hg, hr0⟩ := h
 exact Kd.R_types ho hb ht
theorem IsS74.own_ne {w0 W : World} {g : Nat} {f0 : List Int} {f1 : Int} {f2 : Int} {α : Type} {d : Kd α} {e : Nat} {base : Nat} {ok : Nat → Prop} {v : Value} {xs : List α} (h : IsS74 w0 W g f0 f1 f2) (ho : d.R e W base ok v xs) (ht : e ≠ 74) : some g ≠ v.ownBlock := by
 obtain ⟨A0, c0, hb, hg, hr0⟩ := h
 exact Kd.R_ne ho hb ht
theorem IsS74.lt {w0 W : World} {g : Nat} {f0 : List Int} {f1 : Int} {f2 : Int} (h : IsS74 w0 W g f0 f1 f2) : g < W.heap.size := by
 obtain ⟨A0, c0, hb, hg, hr0⟩ := h
 exact blk_lt hb
theorem IsS74.ge {w0 W : World} {g : Nat} {f0 : List Int} {f1 : Int} {f2 : Int} (h : IsS74 w0 W g f0 f1 f2) : w0.heap.size ≤ g := by
 obtain ⟨A0, c0, hb, hg, hr0⟩ := h
 exact hg
theorem IsS74.ne_blk {w0 W : World} {g : Nat} {f0 : List Int} {f1 : Int} {f2 : Int} {a : Nat} {cs : Array Value} {t : TypeId} {fr : Nat × Nat} (h : IsS74 w0 W g f0 f1 f2) (hb2 : W.heap[a]? = some (.cells cs t fr)) (ht : t ≠ 74) : g ≠ a := by
 obtain ⟨A0, c0, hb, hg, hr0⟩ := h
 rintro rfl
 rw [hb] at hb2
 injection hb2 with hb2
 injection hb2 with _ ht2
 exact ht ht2.symm
theorem IsS74.far {w0 W : World} {g : Nat} {f0 : List Int} {f1 : Int} {f2 : Int} {p : Addr} (h : IsS74 w0 W g f0 f1 f2) (hne : g ≠ p.block) (u : Value) : IsS74 w0 (W.setCell p u) g f0 f1 f2 := by
 obtain ⟨A0, c0, hb, hg, hr0⟩ := h
 exact ⟨A0, c0, blk_far hb hne u, hg, hr0⟩
theorem cellS74_0 {W : World} {g : Nat} {A0 : Option Addr} {c0 : Nat} {f0 : List Int} {f1 : Int} {f2 : Int} (h : W.heap[g]? = some (.cells #[.slice A0 f0.length c0, .int .i64 f1, .int .u64 f2] 74 (0, 0))) : W.cell? ⟨g, 0, none⟩ = some (.slice A0 f0.length c0) := (blk_cell h 0).trans rfl
theorem cellS74_1 {W : World} {g : Nat} {A0 : Option Addr} {c0 : Nat} {f0 : List Int} {f1 : Int} {f2 : Int} (h : W.heap[g]? = some (.cells #[.slice A0 f0.length c0, .int .i64 f1, .int .u64 f2] 74 (0, 0))) : W.cell? ⟨g, 1, none⟩ = some (.int .i64 f1) := (blk_cell h 1).trans rfl
theorem IsS74.set_1 {w0 W : World} {g : Nat} {f0 : List Int} {f1 : Int} {f2 : Int} (h : IsS74 w0 W g f0 f1 f2) (x : Int) : IsS74 w0 (W.setCell ⟨g, 1, none⟩ (.int .i64 x)) g f0 x f2 := by
 obtain ⟨A0, c0, hb, hg, hr0⟩ := h
 exact ⟨A0, c0, by simpa using blk_set hb 1 (.int .i64 x), hg, hr0⟩
theorem cellS74_2 {W : World} {g : Nat} {A0 : Option Addr} {c0 : Nat} {f0 : List Int} {f1 : Int} {f2 : Int} (h : W.heap[g]? = some (.cells #[.slice A0 f0.length c0, .int .i64 f1, .int .u64 f2] 74 (0, 0))) : W.cell? ⟨g, 2, none⟩ = some (.int .u64 f2) := (blk_cell h 2).trans rfl
theorem IsS74.set_2 {w0 W : World} {g : Nat} {f0 : List Int} {f1 : Int} {f2 : Int} (h : IsS74 w0 W g f0 f1 f2) (x : Int) : IsS74 w0 (W.setCell ⟨g, 2, none⟩ (.int .u64 x)) g f0 f1 x := by
 obtain ⟨A0, c0, hb, hg, hr0⟩ := h
 exact ⟨A0, c0, by simpa using blk_set hb 2 (.int .u64 x), hg, hr0⟩
theorem is74_0 {w0 W W1 : World} {g : Nat} {f0 f0' : List Int} {f1 f1' : Int} {f2 f2' : Int} (h : IsS74 w0 W g f0 f1 f2) (hh : IsS74 w0 W g f0 f1 f2 → IsS74 w0 W1 g f0' f1' f2' := by intro h_ ; repeat (first | (with_reducible first | exact h_ | apply IsS74.alloc | apply IsS74.drewN | apply IsS74.drew | apply IsS74.set_1 | apply IsS74.set_2) | exact h_)) : IsS74 w0 W1 g f0' f1' f2' := hh h
theorem is74_1 {w0 W W1 : World} {g : Nat} {f0 f0' : List Int} {f1 f1' : Int} {f2 f2' : Int} {A : Prop} (h : IsS74 w0 W g f0 f1 f2) (h0 : A) (hh : IsS74 w0 W g f0 f1 f2 → A → IsS74 w0 W1 g f0' f1' f2' := by intro h_ n0_; repeat (first | (with_reducible first | exact h_ | apply IsS74.alloc | apply IsS74.drewN | apply IsS74.drew | apply IsS74.set_1 | apply IsS74.set_2 | refine IsS74.far ?_ n0_ _) | exact h_)) : IsS74 w0 W1 g f0' f1' f2' := hh h h0
theorem is74_2 {w0 W W1 : World} {g : Nat} {f0 f0' : List Int} {f1 f1' : Int} {f2 f2' : Int} {A B : Prop} (h : IsS74 w0 W g f0 f1 f2) (h0 : A) (h1 : B) (hh : IsS74 w0 W g f0 f1 f2 → A → B → IsS74 w0 W1 g f0' f1' f2' := by intro h_ n0_ n1_; repeat (first | (with_reducible first | exact h_ | apply IsS74.alloc | apply IsS74.drewN | apply IsS74.drew | apply IsS74.set_1 | apply IsS74.set_2 | refine IsS74.far ?_ n0_ _ | refine IsS74.far ?_ n1_ _) | exact h_)) : IsS74 w0 W1 g f0' f1' f2' := hh h h0 h1
theorem is74_3 {w0 W W1 : World} {g : Nat} {f0 f0' : List Int} {f1 f1' : Int} {f2 f2' : Int} {A B D : Prop} (h : IsS74 w0 W g f0 f1 f2) (h0 : A) (h1 : B) (h2 : D) (hh : IsS74 w0 W g f0 f1 f2 → A → B → D → IsS74 w0 W1 g f0' f1' f2' := by intro h_ n0_ n1_ n2_; repeat (first | (with_reducible first | exact h_ | apply IsS74.alloc | apply IsS74.drewN | apply IsS74.drew | apply IsS74.set_1 | apply IsS74.set_2 | refine IsS74.far ?_ n0_ _ | refine IsS74.far ?_ n1_ _ | refine IsS74.far ?_ n2_ _) | exact h_)) : IsS74 w0 W1 g f0' f1' f2' := hh h h0 h1 h2
def spec_l1Cur_next.f (s0_0 : List Int) (s0_1 : Int) (s0_2 : Int) : Option (Int × Int × Int) := if s0_1 < (s0_0.length : Int) then (if 0 ≤ s0_1 then (if (wrap64 (s0_1 + 1)) ≤ (s0_0.length : Int) then (some (wrap64 (rd s0_0 s0_1), wrap64 (s0_1 + 1), IntKind.u64.wrap ((IntKind.u64.wrap ((IntKind.u64.wrap (s0_2 * 6364136223846793005)) + (IntKind.u64.wrap (wrap64 (rd s0_0 s0_1))))) + 933933))) else (some (wrap64 (Go.bits .and .u64 ((IntKind.u64.wrap ((IntKind.u64.wrap ((IntKind.u64.wrap (s0_2 * 6364136223846793005)) + (IntKind.u64.wrap (wrap64 (rd s0_0 s0_1))))) + 933933)) / 1099511627776) 255), wrap64 (s0_1 + 1), IntKind.u64.wrap ((IntKind.u64.wrap ((IntKind.u64.wrap (s0_2 * 6364136223846793005)) + (IntKind.u64.wrap (wrap64 (rd s0_0 s0_1))))) + 933933)))) else (none)) else (if (wrap64 (s0_1 + 1)) ≤ (s0_0.length : Int) then (some (0, wrap64 (s0_1 + 1), IntKind.u64.wrap ((IntKind.u64.wrap ((IntKind.u64.wrap (s0_2 * 6364136223846793005)) + 0)) + 933933))) else (some (wrap64 (Go.bits .and .u64 ((IntKind.u64.wrap ((IntKind.u64.wrap ((IntKind.u64.wrap (s0_2 * 6364136223846793005)) + 0)) + 933933)) / 1099511627776) 255), wrap64 (s0_1 + 1), IntKind.u64.wrap ((IntKind.u64.wrap ((IntKind.u64.wrap (s0_2 * 6364136223846793005)) + 0)) + 933933))))
set_option maxHeartbeats 8000000 in
set_option maxRecDepth 100000 in
theorem spec_l1Cur_next.calls (g : Nat) (s0_0 : List Int) (s0_1 : Int) (s0_2 : Int) (r1 : Int) (r2 : Int) (r3 : Int) (w0 w : World) (hI : IsS74 w0 w g s0_0 s0_1 s0_2) (hB : Below w0.heap.size w0 w) (h : spec_l1Cur_next.f s0_0 s0_1 s0_2 = some (r1, r2, r3)) :
  Calls Tryd.prog 72 #[.pointer (some ⟨g, 0, none⟩)] w fun e w' => e = .returned (.int .i64 r1) ∧ IsS74 w0 w' g s0_0 r2 r3 ∧ Below w0.heap.size w0 w' ∧ KeepBut w w' g none := by
 have HI0 := Aside0.mk hI
 have HK := Aside0.mk (KeepBut.refl w g none)
 have HL := Aside0.mk hB.size
 clear hI
 have HW0 := Aside0.mk hB.size
 have HB := Aside0.mk hB
 clear hB
 have H : (if s0_1 < (s0_0.length : Int) then (if 0 ≤ s0_1 then (if (wrap64 (s0_1 + 1)) ≤ (s0_0.length : Int) then (some (wrap64 (rd s0_0 s0_1), wrap64 (s0_1 + 1), IntKind.u64.wrap ((IntKind.u64.wrap ((IntKind.u64.wrap (s0_2 * 6364136223846793005)) + (IntKind.u64.wrap (wrap64 (rd s0_0 s0_1))))) + 933933))) else (some (wrap64 (Go.bits .and .u64 ((IntKind.u64.wrap ((IntKind.u64.wrap ((IntKind.u64.wrap (s0_2 * 6364136223846793005)) + (IntKind.u64.wrap (wrap64 (rd s0_0 s0_1))))) + 933933)) / 1099511627776) 255), wrap64 (s0_1 + 1), IntKind.u64.wrap ((IntKind.u64.wrap ((IntKind.u64.wrap (s0_2 * 6364136223846793005)) + (IntKind.u64.wrap (wrap64 (rd s0_0 s0_1))))) + 933933)))) else (none)) else (if (wrap64 (s0_1 + 1)) ≤ (s0_0.length : Int) then (some (0, wrap64 (s0_1 + 1), IntKind.u64.wrap ((IntKind.u64.wrap ((IntKind.u64.wrap (s0_2 * 6364136223846793005)) + 0)) + 933933))) else (some (wrap64 (Go.bits .and .u64 ((IntKind.u64.wrap ((IntKind.u64.wrap ((IntKind.u64.wrap (s0_2 * 6364136223846793005)) + 0)) + 933933)) / 1099511627776) 255), wrap64 (s0_1 + 1), IntKind.u64.wrap ((IntKind.u64.wrap ((IntKind.u64.wrap (s0_2 * 6364136223846793005)) + 0)) + 933933))))) = some (r1, r2, r3) := h
 clear h
 by_cases c2 : s0_1 < (s0_0.length : Int)
 ·
  rw [if_pos c2] at H
  have c2b0 : decide (s0_1 < (s0_0.length : Int)) = true := decide_eq_true c2
  clear c2
  by_cases c3 : 0 ≤ s0_1
  ·
   rw [if_pos c3] at H
   have c3b0 : decide (0 ≤ s0_1) = true := decide_eq_true c3
   clear c3
   by_cases c4 : (wrap64 (s0_1 + 1)) ≤ (s0_0.length : Int)
   ·
    rw [if_pos c4] at H
    have c4b0 : decide ((wrap64 (s0_1 + 1)) ≤ (s0_0.length : Int)) = true := decide_eq_true c4
    clear c4
    simp only [Option.some.injEq, Prod.mk.injEq] at H
    obtain ⟨rfl, rfl, rfl⟩ := H
    obtain ⟨ASz5_0, cSz5_0, HGz5, hgz5, HSz5_0⟩ := HI0.out
    have hcz5_0 := cellS74_0 HGz5
    have hcz5_1 := cellS74_1 HGz5
    have hcz5_2 := cellS74_2 HGz5
    have hfz5_1 := blk_frozen HGz5 1
    have hfz5_2 := blk_frozen HGz5 2
    clear HGz5 hgz5
    have p445 : 0 ≤ (s0_1 : Int) := dt_
    have q445 : s0_1 < (s0_0.length : Int) := dt_
    obtain ⟨ad445, e445, hx445_0⟩ := Kd.at_int HSz5_0 s0_1 p445 q445
    cases e445
    replace hx445_0 := pw_cell_below HB.out hx445_0
    replace p445 := eq_true p445
    replace q445 := eq_true q445
    go_enter Tryd.func72, Tryd.ntmps72
    go_wp2
    repeat (go_quiet (fail); try go_wp2)
    go_ret
    (try simp only [Int.add_zero])
    exact ⟨rr_, is74_0 HI0.out, lb1_ HB.out (IsS74.ge HI0.out), kb0_ HK.out⟩
   ·
    rw [if_neg c4] at H
    have c4b0 : decide ((wrap64 (s0_1 + 1)) ≤ (s0_0.length : Int)) = false := decide_eq_false c4
    clear c4
    simp only [Option.some.injEq, Prod.mk.injEq] at H
    obtain ⟨rfl, rfl, rfl⟩ := H
    obtain ⟨ASz6_0, cSz6_0, HGz6, hgz6, HSz6_0⟩ := HI0.out
    have hcz6_0 := cellS74_0 HGz6
    have hcz6_1 := cellS74_1 HGz6
    have hcz6_2 := cellS74_2 HGz6
    have hfz6_1 := blk_frozen HGz6 1
    have hfz6_2 := blk_frozen HGz6 2
    clear HGz6 hgz6
    have p445 : 0 ≤ (s0_1 : Int) := dt_
    have q445 : s0_1 < (s0_0.length : Int) := dt_
    obtain ⟨ad445, e445, hx445_0⟩ := Kd.at_int HSz6_0 s0_1 p445 q445
    cases e445
    replace hx445_0 := pw_cell_below HB.out hx445_0
    replace p445 := eq_true p445
    replace q445 := eq_true q445
    go_enter Tryd.func72, Tryd.ntmps72
    go_wp2
    repeat (go_quiet (fail); try go_wp2)
    go_ret
    (try simp only [Int.add_zero])
    exact ⟨rr_, is74_0 HI0.out, lb1_ HB.out (IsS74.ge HI0.out), kb0_ HK.out⟩
  ·
   rw [if_neg c3] at H
   exact absurd H (by simp)
 ·
  rw [if_neg c2] at H
  have c2b0 : decide (s0_1 < (s0_0.length : Int)) = false := decide_eq_false c2
  clear c2
  by_cases c7 : (wrap64 (s0_1 + 1)) ≤ (s0_0.length : Int)
  ·
   rw [if_pos c7] at H
   have c7b0 : decide ((wrap64 (s0_1 + 1)) ≤ (s0_0.length : Int)) = true := decide_eq_true c7
   clear c7
   simp only [Option.some.injEq, Prod.mk.injEq] at H
   obtain ⟨rfl, rfl, rfl⟩ := H
   obtain ⟨ASz8_0, cSz8_0, HGz8, hgz8, HSz8_0⟩ := HI0.out
   have hcz8_0 := cellS74_0 HGz8
   have hcz8_1 := cellS74_1 HGz8
   have hcz8_2 := cellS74_2 HGz8
   have hfz8_1 := blk_frozen HGz8 1
   have hfz8_2 := blk_frozen HGz8 2
   clear HGz8 hgz8
   go_enter Tryd.func72, Tryd.ntmps72
   go_wp2
   repeat (go_quiet (fail); try go_wp2)
   go_ret
   (try simp only [Int.add_zero])
   exact ⟨rr_, is74_0 HI0.out, lb1_ HB.out (IsS74.ge HI0.out), kb0_ HK.out⟩
  ·
   rw [if_neg c7] at H
   have c7b0 : decide ((wrap64 (s0_1 + 1)) ≤ (s0_0.length : Int)) = false := decide_eq_false c7
   clear c7
   simp only [Option.some.injEq, Prod.mk.injEq] at H
   obtain ⟨rfl, rfl, rfl⟩ := H
   obtain ⟨ASz9_0, cSz9_0, HGz9, hgz9, HSz9_0⟩ := HI0.out
   have hcz9_0 := cellS74_0 HGz9
   have hcz9_1 := cellS74_1 HGz9
   have hcz9_2 := cellS74_2 HGz9
   have hfz9_1 := blk_frozen HGz9 1
   have hfz9_2 := blk_frozen HGz9 2
   clear HGz9 hgz9
   go_enter Tryd.func72, Tryd.ntmps72
   go_wp2
   repeat (go_quiet (fail); try go_wp2)
   go_ret
   (try simp only [Int.add_zero])
   exact ⟨rr_, is74_0 HI0.out, lb1_ HB.out (IsS74.ge HI0.out), kb0_ HK.out⟩
def spec_l1Cur_pick.f (s0_0 : List Int) (s0_1 : Int) (s0_2 : Int) (a1 : Int) : Option (Int × Int × Int) := if a1 ≤ 1 then (some (0, s0_1, s0_2)) else ((spec_l1Cur_next.f s0_0 s0_1 s0_2).bind fun bt446 => (if a1 > 200 then ((spec_l1Cur_next.f s0_0 bt446.2.1 bt446.2.2).bind fun bt449 => (if a1 = 0 then (none) else (some (Int.tmod (wrap64 ((wrap64 (bt446.1 * 256)) + bt449.1)) a1, bt449.2.1, bt449.2.2)))) else (if a1 = 0 then (none) else (some (Int.tmod bt446.1 a1, bt446.2.1, bt446.2.2)))))
set_option maxHeartbeats 8000000 in
set_option maxRecDepth 100000 in
theorem spec_l1Cur_pick.calls (g : Nat) (s0_0 : List Int) (s0_1 : Int) (s0_2 : Int) (a1 : Int) (r1 : Int) (r2 : Int) (r3 : Int) (w0 w : World) (hI : IsS74 w0 w g s0_0 s0_1 s0_2) (hB : Below w0.heap.size w0 w) (h : spec_l1Cur_pick.f s0_0 s0_1 s0_2 a1 = some (r1, r2, r3)) :
  Calls Tryd.prog 55 #[.pointer (some ⟨g, 0, none⟩), .int .i64 a1] w fun e w' => e = .returned (.int .i64 r1) ∧ IsS74 w0 w' g s0_0 r2 r3 ∧ Below w0.heap.size w0 w' ∧ KeepBut w w' g none := by
 have HI0 := Aside0.mk hI
 have HK := Aside0.mk (KeepBut.refl w g none)
 have HL := Aside0.mk hB.size
 clear hI
 have HW0 := Aside0.mk hB.size
 have HB := Aside0.mk hB
 clear hB
 have H : (if a1 ≤ 1 then (some (0, s0_1, s0_2)) else ((spec_l1Cur_next.f s0_0 s0_1 s0_2).bind fun bt446 => (if a1 > 200 then ((spec_l1Cur_next.f s0_0 bt446.2.1 bt446.2.2).bind fun bt449 => (if a1 = 0 then (none) else (some (Int.tmod (wrap64 ((wrap64 (bt446.1 * 256)) + bt449.1)) a1, bt449.2.1, bt449.2.2)))) else (if a1 = 0 then (none) else (some (Int.tmod bt446.1 a1, bt446.2.1, bt446.2.2)))))) = some (r1, r2, r3) := h
 clear h
 by_cases c3 : a1 ≤ 1
 ·
  rw [if_pos c3] at H
  have c3b0 : decide (a1 ≤ 1) = true := decide_eq_true c3
  clear c3
  simp only [Option.some.injEq, Prod.mk.injEq] at H
  obtain ⟨rfl, rfl, rfl⟩ := H
  go_enter Tryd.func55, Tryd.ntmps55
  go_wp2
  go_ret
  exact ⟨rr_, is74_0 HI0.out, lb1_ HB.out (IsS74.ge HI0.out), kb0_ HK.out⟩
 ·
  rw [if_neg c3] at H
  have c3b0 : decide (a1 ≤ 1) = false := decide_eq_false c3
  clear c3
  replace H := Option.bind_eq_some_iff.mp H
  obtain ⟨⟨t446, t447, t448⟩, A40, H⟩ := H
  replace H : (if a1 > 200 then ((spec_l1Cur_next.f s0_0 t447 t448).bind fun bt449 => (if a1 = 0 then (none) else (some (Int.tmod (wrap64 ((wrap64 (t446 * 256)) + bt449.1)) a1, bt449.2.1, bt449.2.2)))) else (if a1 = 0 then (none) else (some (Int.tmod t446 a1, t447, t448)))) = some (r1, r2, r3) := H
  have A4 := Aside0.mk A40
  clear A40
  by_cases c5 : a1 > 200
  ·
   rw [if_pos c5] at H
   have c5b0 : decide (200 < a1) = true := decide_eq_true c5
   clear c5
   replace H := Option.bind_eq_some_iff.mp H
   obtain ⟨⟨t449, t450, t451⟩, A60, H⟩ := H
   replace H : (if a1 = 0 then (none) else (some (Int.tmod (wrap64 ((wrap64 (t446 * 256)) + t449)) a1, t450, t451))) = some (r1, r2, r3) := H
   have A6 := Aside0.mk A60
   clear A60
   by_cases c7 : a1 = 0
   ·
    rw [if_pos c7] at H
    exact absurd H (by simp)
   ·
    rw [if_neg c7] at H
    have c7b0 : (a1 == 0) = false := beq_eq_false_iff_ne.mpr c7
    have c7b1 : (a1 != 0) = true := bne_iff_ne.mpr c7
    simp only [Option.some.injEq, Prod.mk.injEq] at H
    obtain ⟨rfl, rfl, rfl⟩ := H
    go_enter Tryd.func55, Tryd.ntmps55
    go_wp2_with (first | ((with_reducible refine gate_callee (f := 72) rfl ?_); refine ga_ (some 9) Tryd.func72 #[.pointer (some ⟨g, 0, none⟩)] ?_; (with_reducible refine (spec_l1Cur_next.calls g s0_0 s0_1 s0_2 t446 t447 t448 w0 _ ?side1 ?side2 A4.out).mono ?_); (case side1 => exact is74_0 HI0.out); (case side2 => exact lb1_ HB.out (IsS74.ge HI0.out)); rintro e w8 ⟨rfl, hi, hb, hk⟩; refine ⟨_, rfl, ?_⟩; replace HK := Aside0.mk (KeepBut.trans (kb0_ HK.out) hk (.inl rfl)); replace HB := Aside0.mk (hb); replace HI0 := Aside0.mk (hi); (try clear hb); (try clear hb2); (try clear hk); (try clear hi)) | ((with_reducible refine gate_callee (f := 72) rfl ?_); refine ga_ (some 15) Tryd.func72 #[.pointer (some ⟨g, 0, none⟩)] ?_; (with_reducible refine (spec_l1Cur_next.calls g s0_0 t447 t448 t449 t450 t451 w0 _ ?side1 ?side2 A6.out).mono ?_); (case side1 => exact is74_0 HI0.out); (case side2 => exact lb1_ HB.out (IsS74.ge HI0.out)); rintro e w9 ⟨rfl, hi, hb, hk⟩; refine ⟨_, rfl, ?_⟩; replace HK := Aside0.mk (KeepBut.trans (kb0_ HK.out) hk (.inl rfl)); replace HB := Aside0.mk (hb); replace HI0 := Aside0.mk (hi); (try clear hb); (try clear hb2); (try clear hk); (try clear hi)))
    go_ret
    exact ⟨rr_, is74_0 HI0.out, lb1_ HB.out (IsS74.ge HI0.out), kb0_ HK.out⟩
  ·
   rw [if_neg c5] at H
   have c5b0 : decide (200 < a1) = false := decide_eq_false c5
   clear c5
   by_cases c10 : a1 = 0
   ·
    rw [if_pos c10] at H
    exact absurd H (by simp)
   ·
    rw [if_neg c10] at H
    have c10b0 : (a1 == 0) = false := beq_eq_false_iff_ne.mpr c10
    have c10b1 : (a1 != 0) = true := bne_iff_ne.mpr c10
    simp only [Option.some.injEq, Prod.mk.injEq] at H
    obtain ⟨rfl, rfl, rfl⟩ := H
    go_enter Tryd.func55, Tryd.ntmps55
    go_wp2_with (first | ((with_reducible refine gate_callee (f := 72) rfl ?_); refine ga_ (some 9) Tryd.func72 #[.pointer (some ⟨g, 0, none⟩)] ?_; (with_reducible refine (spec_l1Cur_next.calls g s0_0 s0_1 s0_2 t446 t447 t448 w0 _ ?side1 ?side2 A4.out).mono ?_); (case side1 => exact is74_0 HI0.out); (case side2 => exact lb1_ HB.out (IsS74.ge HI0.out)); rintro e w11 ⟨rfl, hi, hb, hk⟩; refine ⟨_, rfl, ?_⟩; replace HK := Aside0.mk (KeepBut.trans (kb0_ HK.out) hk (.inl rfl)); replace HB := Aside0.mk (hb); replace HI0 := Aside0.mk (hi); (try clear hb); (try clear hb2); (try clear hk); (try clear hi)))
    go_ret
    exact ⟨rr_, is74_0 HI0.out, lb1_ HB.out (IsS74.ge HI0.out), kb0_ HK.out⟩
def spec_l1Cur_one.f (s0_0 : List Int) (s0_1 : Int) (s0_2 : Int) (a1 : Int) : Option (Bool × Int × Int) := (spec_l1Cur_pick.f s0_0 s0_1 s0_2 a1).bind fun bt452 => (some ((bt452.1 == 0), bt452.2.1, bt452.2.2))
set_option maxHeartbeats 8000000 in
set_option maxRecDepth 100000 in
theorem spec_l1Cur_one.calls (g : Nat) (s0_0 : List Int) (s0_1 : Int) (s0_2 : Int) (a1 : Int) (r1 : Bool) (r2 : Int) (r3 : Int) (w0 w : World) (hI : IsS74 w0 w g s0_0 s0_1 s0_2) (hB : Below w0.heap.size w0 w) (h : spec_l1Cur_one.f s0_0 s0_1 s0_2 a1 = some (r1, r2, r3)) :
  Calls Tryd.prog 54 #[.pointer (some ⟨g, 0, none⟩), .int .i64 a1] w fun e w' => e = .returned (.bool r1) ∧ IsS74 w0 w' g s0_0 r2 r3 ∧ Below w0.heap.size w0 w' ∧ KeepBut w w' g none := by
 have HI0 := Aside0.mk hI
 have HK := Aside0.mk (KeepBut.refl w g none)
 have HL := Aside0.mk hB.size
 clear hI
 have HW0 := Aside0.mk hB.size
 have HB := Aside0.mk hB
 clear hB
 have H : ((spec_l1Cur_pick.f s0_0 s0_1 s0_2 a1).bind fun bt452 => (some ((bt452.1 == 0), bt452.2.1, bt452.2.2))) = some (r1, r2, r3) := h
 clear h
 replace H := Option.bind_eq_some_iff.mp H
 obtain ⟨⟨t452, t453, t454⟩, A30, H⟩ := H
 replace H : (some ((t452 == 0), t453, t454)) = some (r1, r2, r3) := H
 have A3 := Aside0.mk A30
 clear A30
 simp only [Option.some.injEq, Prod.mk.injEq] at H
 obtain ⟨rfl, rfl, rfl⟩ := H
 go_enter Tryd.func54, Tryd.ntmps54
 go_wp2_with (first | ((with_reducible refine gate_callee (f := 55) rfl ?_); refine ga_ (some 7) Tryd.func55 #[.pointer (some ⟨g, 0, none⟩), .int .i64 a1] ?_; (with_reducible refine (spec_l1Cur_pick.calls g s0_0 s0_1 s0_2 a1 t452 t453 t454 w0 _ ?side1 ?side2 A3.out).mono ?_); (case side1 => exact is74_0 HI0.out); (case side2 => exact lb1_ HB.out (IsS74.ge HI0.out)); rintro e w4 ⟨rfl, hi, hb, hk⟩; refine ⟨_, rfl, ?_⟩; replace HK := Aside0.mk (KeepBut.trans (kb0_ HK.out) hk (.inl rfl)); replace HB := Aside0.mk (hb); replace HI0 := Aside0.mk (hi); (try clear hb); (try clear hb2); (try clear hk); (try clear hi)))
 go_ret
 exact ⟨rr_, is74_0 HI0.out, lb1_ HB.out (IsS74.ge HI0.out), kb0_ HK.out⟩
def spec_l1Cur_of.f (s0_0 : List Int) (s0_1 : Int) (s0_2 : Int) (l1 : List ByteArray) : Option (ByteArray × Int × Int) := (spec_l1Cur_pick.f s0_0 s0_1 s0_2 (l1.length : Int)).bind fun bt455 => (if 0 ≤ bt455.1 then (if bt455.1 < (l1.length : Int) then (some (rdOf ByteArray.empty l1 bt455.1, bt455.2.1, bt455.2.2)) else (none)) else (none))
set_option maxHeartbeats 8000000 in
set_option maxRecDepth 100000 in
theorem spec_l1Cur_of.calls (g : Nat) (s0_0 : List Int) (s0_1 : Int) (s0_2 : Int) (A1 : Option Addr) (c1 : Nat) (l1 : List ByteArray) (r1 : ByteArray) (r2 : Int) (r3 : Int) (w0 w : World) (hI : IsS74 w0 w g s0_0 s0_1 s0_2) (hB : Below w0.heap.size w0 w) (hr1 : Kd.C Kd.string w A1 l1.length l1) (hc1 : l1.length ≤ c1) (hf1 : ∀ ad, A1 = some ad → 0 < l1.length → ad.block ≠ g) (h : spec_l1Cur_of.f s0_0 s0_1 s0_2 l1 = some (r1, r2, r3)) :
  Calls Tryd.prog 73 #[.pointer (some ⟨g, 0, none⟩), .slice A1 l1.length c1] w fun e w' => e = .returned (.string r1) ∧ IsS74 w0 w' g s0_0 r2 r3 ∧ Below w0.heap.size w0 w' ∧ KeepBut w w' g none := by
 have HR1 := Aside0.mk hr1
 have HC1 := Aside0.mk hc1
 clear hr1 hc1
 have HI0 := Aside0.mk hI
 have HK := Aside0.mk (KeepBut.refl w g none)
 have HL := Aside0.mk hB.size
 clear hI
 have HW0 := Aside0.mk hB.size
 have HB := Aside0.mk hB
 clear hB
 have H : ((spec_l1Cur_pick.f s0_0 s0_1 s0_2 (l1.length : Int)).bind fun bt455 => (if 0 ≤ bt455.1 then (if bt455.1 < (l1.length : Int) then (some (rdOf ByteArray.empty l1 bt455.1, bt455.2.1, bt455.2.2)) else (none)) else (none))) = some (r1, r2, r3) := h
 clear h
 replace H := Option.bind_eq_some_iff.mp H
 obtain ⟨⟨t455, t456, t457⟩, A30, H⟩ := H
 replace H : (if 0 ≤ t455 then (if t455 < (l1.length : Int) then (some (rdOf ByteArray.empty l1 t455, t456, t457)) else (none)) else (none)) = some (r1, r2, r3) := H
 have A3 := Aside0.mk A30
 clear A30
 by_cases c4 : 0 ≤ t455
 ·
  rw [if_pos c4] at H
  have c4b0 : decide (0 ≤ t455) = true := decide_eq_true c4
  clear c4
  by_cases c5 : t455 < (l1.length : Int)
  ·
   rw [if_pos c5] at H
   have c5b0 : decide (t455 < (l1.length : Int)) = true := decide_eq_true c5
   clear c5
   simp only [Option.some.injEq, Prod.mk.injEq] at H
   obtain ⟨rfl, rfl, rfl⟩ := H
   go_enter Tryd.func73, Tryd.ntmps73
   go_wp2_with (first | ((with_reducible refine gate_callee (f := 55) rfl ?_); refine ga_ (some 9) Tryd.func55 #[.pointer (some ⟨g, 0, none⟩), .int .i64 (l1.length : Int)] ?_; (with_reducible refine (spec_l1Cur_pick.calls g s0_0 s0_1 s0_2 (l1.length : Int) t455 t456 t457 w0 _ ?side1 ?side2 A3.out).mono ?_); (case side1 => exact is74_0 HI0.out); (case side2 => exact lb1_ HB.out (IsS74.ge HI0.out)); rintro e w6 ⟨rfl, hi, hb, hk⟩; refine ⟨_, rfl, ?_⟩; replace HK := Aside0.mk (KeepBut.trans (kb0_ HK.out) hk (.inl rfl)); replace HB := Aside0.mk (hb); replace HI0 := Aside0.mk (hi); (try clear hb); (try clear hb2); (try clear hk); (try clear hi); have p458 : 0 ≤ (t455 : Int) := dt_; have q458 : t455 < (l1.length : Int) := dt_; obtain ⟨ad458, e458, hx458_0⟩ := Kd.at_string HR1.out t455 p458 q458; cases e458; replace hx458_0 := keep_cell HK.out hx458_0 (by first | (rw [add_block]; exact hf1 _ rfl (by omega)) | exact hf1 _ rfl (by omega) | exact hf1 ad458 rfl (by omega)); replace p458 := eq_true p458; replace q458 := eq_true q458))
   go_ret
   exact ⟨rr_, is74_0 HI0.out, lb1_ HB.out (IsS74.ge HI0.out), kb0_ HK.out⟩
  ·
   rw [if_neg c5] at H
   exact absurd H (by simp)
 ·
  rw [if_neg c4] at H
  exact absurd H (by simp)
def spec_l1Cur_logRecord.f (s0_0 : List Int) (s0_1 : Int) (s0_2 : Int) : Option (ByteArray × ByteArray × Int × Int) := (spec_l1Cur_of.f s0_0 s0_1 s0_2 (([(⟨#[99, 111, 117, 110, 116]⟩ : ByteArray), (⟨#[115, 111, 114, 116, 32, 109, 101, 114, 103, 101]⟩ : ByteArray), (⟨#[120]⟩ : ByteArray), (⟨#[115, 101, 108, 101, 99, 116, 32, 50]⟩ : ByteArray), (⟨#[48, 32, 49]⟩ : ByteArray)] : List ByteArray))).bind fun bt463 => ((spec_l1Cur_of.f s0_0 bt463.2.1 bt463.2.2 (([(⟨#[]⟩ : ByteArray), (⟨#[51]⟩ : ByteArray), (⟨#[63]⟩ : ByteArray), (⟨#[97, 64, 98]⟩ : ByteArray), (⟨#[51, 32, 49, 32, 50]⟩ : ByteArray)] : List ByteArray))).bind fun bt469 => ((spec_l1Cur_pick.f s0_0 bt469.2.1 bt469.2.2 24).bind fun bt473 => (if bt473.1 = 0 then (if 3 ≤ 281474976710656 then ((spec_l1Cur_of.f s0_0 bt473.2.1 bt473.2.2 (([(⟨#[]⟩ : ByteArray), (⟨#[97, 64, 98]⟩ : ByteArray), (⟨#[97, 35]⟩ : ByteArray), (⟨#[10]⟩ : ByteArray), strOfNums (List.replicate 3 0)] : List ByteArray))).bind fun bt482 => (some (bt482.1, bt469.1, bt482.2.1, bt482.2.2))) else (none)) else (if bt473.1 = 1 then ((spec_l1Cur_of.f s0_0 bt473.2.1 bt473.2.2 (([(⟨#[35]⟩ : ByteArray), (⟨#[10]⟩ : ByteArray), (⟨#[127]⟩ : ByteArray)] : List ByteArray))).bind fun bt488 => (some (bt463.1, bt488.1, bt488.2.1, bt488.2.2))) else (some (bt463.1, bt469.1, bt473.2.1, bt473.2.2))))))
set_option maxHeartbeats 8000000 in
set_option maxRecDepth 100000 in
theorem spec_l1Cur_logRecord.calls (g : Nat) (s0_0 : List Int) (s0_1 : Int) (s0_2 : Int) (r1 : ByteArray) (r2 : ByteArray) (r3 : Int) (r4 : Int) (w0 w : World) (hI : IsS74 w0 w g s0_0 s0_1 s0_2) (hB : Below w0.heap.size w0 w) (h : spec_l1Cur_logRecord.f s0_0 s0_1 s0_2 = some (r1, r2, r3, r4)) :
  Calls Tryd.prog 56 #[.pointer (some ⟨g, 0, none⟩)] w fun e w' => e = .returned (.agg #[.string r1, .string r2]) ∧ IsS74 w0 w' g s0_0 r3 r4 ∧ Below w0.heap.size w0 w' ∧ KeepBut w w' g none := by
 have hu27 := Tryd.underlying27
 have HI0 := Aside0.mk hI
 have HK := Aside0.mk (KeepBut.refl w g none)
 have HL := Aside0.mk hB.size
 clear hI
 have HW0 := Aside0.mk hB.size
 have HB := Aside0.mk hB
 clear hB
 have H : ((spec_l1Cur_of.f s0_0 s0_1 s0_2 (([(⟨#[99, 111, 117, 110, 116]⟩ : ByteArray), (⟨#[115, 111, 114, 116, 32, 109, 101, 114, 103, 101]⟩ : ByteArray), (⟨#[120]⟩ : ByteArray), (⟨#[115, 101, 108, 101, 99, 116, 32, 50]⟩ : ByteArray), (⟨#[48, 32, 49]⟩ : ByteArray)] : List ByteArray))).bind fun bt463 => ((spec_l1Cur_of.f s0_0 bt463.2.1 bt463.2.2 (([(⟨#[]⟩ : ByteArray), (⟨#[51]⟩ : ByteArray), (⟨#[63]⟩ : ByteArray), (⟨#[97, 64, 98]⟩ : ByteArray), (⟨#[51, 32, 49, 32, 50]⟩ : ByteArray)] : List ByteArray))).bind fun bt469 => ((spec_l1Cur_pick.f s0_0 bt469.2.1 bt469.2.2 24).bind fun bt473 => (if bt473.1 = 0 then (if 3 ≤ 281474976710656 then ((spec_l1Cur_of.f s0_0 bt473.2.1 bt473.2.2 (([(⟨#[]⟩ : ByteArray), (⟨#[97, 64, 98]⟩ : ByteArray), (⟨#[97, 35]⟩ : ByteArray), (⟨#[10]⟩ : ByteArray), strOfNums (List.replicate 3 0)] : List ByteArray))).bind fun bt482 => (some (bt482.1, bt469.1, bt482.2.1, bt482.2.2))) else (none)) else (if bt473.1 = 1 then ((spec_l1Cur_of.f s0_0 bt473.2.1 bt473.2.2 (([(⟨#[35]⟩ : ByteArray), (⟨#[10]⟩ : ByteArray), (⟨#[127]⟩ : ByteArray)] : List ByteArray))).bind fun bt488 => (some (bt463.1, bt488.1, bt488.2.1, bt488.2.2))) else (some (bt463.1, bt469.1, bt473.2.1, bt473.2.2))))))) = some (r1, r2, r3, r4) := h
 clear h
 obtain ⟨y460, hy460⟩ : ∃ y_ : List ByteArray, y_ = (([(⟨#[99, 111, 117, 110, 116]⟩ : ByteArray), (⟨#[115, 111, 114, 116, 32, 109, 101, 114, 103, 101]⟩ : ByteArray), (⟨#[120]⟩ : ByteArray), (⟨#[115, 101, 108, 101, 99, 116, 32, 50]⟩ : ByteArray), (⟨#[48, 32, 49]⟩ : ByteArray)] : List ByteArray)) := ⟨_, rfl⟩
 replace H : ((spec_l1Cur_of.f s0_0 s0_1 s0_2 y460).bind fun bt463 => ((spec_l1Cur_of.f s0_0 bt463.2.1 bt463.2.2 (([(⟨#[]⟩ : ByteArray), (⟨#[51]⟩ : ByteArray), (⟨#[63]⟩ : ByteArray), (⟨#[97, 64, 98]⟩ : ByteArray), (⟨#[51, 32, 49, 32, 50]⟩ : ByteArray)] : List ByteArray))).bind fun bt469 => ((spec_l1Cur_pick.f s0_0 bt469.2.1 bt469.2.2 24).bind fun bt473 => (if bt473.1 = 0 then (if 3 ≤ 281474976710656 then ((spec_l1Cur_of.f s0_0 bt473.2.1 bt473.2.2 (([(⟨#[]⟩ : ByteArray), (⟨#[97, 64, 98]⟩ : ByteArray), (⟨#[97, 35]⟩ : ByteArray), (⟨#[10]⟩ : ByteArray), strOfNums (List.replicate 3 0)] : List ByteArray))).bind fun bt482 => (some (bt482.1, bt469.1, bt482.2.1, bt482.2.2))) else (none)) else (if bt473.1 = 1 then ((spec_l1Cur_of.f s0_0 bt473.2.1 bt473.2.2 (([(⟨#[35]⟩ : ByteArray), (⟨#[10]⟩ : ByteArray), (⟨#[127]⟩ : ByteArray)] : List ByteArray))).bind fun bt488 => (some (bt463.1, bt488.1, bt488.2.1, bt488.2.2))) else (some (bt463.1, bt469.1, bt473.2.1, bt473.2.2))))))) = some (r1, r2, r3, r4) := by first | (rw [hy460]; with_reducible exact H) | (have H2_ := (Option.bind_some _ _).symm.trans H; rw [hy460]; with_reducible exact H2_) | (have H2_ := (Option.bind_some _ _).symm.trans H; with_reducible exact H2_) | with_reducible exact H | (rw [hy460]; exact H) | exact H
 have Ny460 := Aside0.mk hy460
 clear hy460
 replace H := Option.bind_eq_some_iff.mp H
 obtain ⟨⟨t463, t464, t465⟩, A20, H⟩ := H
 replace H : ((spec_l1Cur_of.f s0_0 t464 t465 (([(⟨#[]⟩ : ByteArray), (⟨#[51]⟩ : ByteArray), (⟨#[63]⟩ : ByteArray), (⟨#[97, 64, 98]⟩ : ByteArray), (⟨#[51, 32, 49, 32, 50]⟩ : ByteArray)] : List ByteArray))).bind fun bt469 => ((spec_l1Cur_pick.f s0_0 bt469.2.1 bt469.2.2 24).bind fun bt473 => (if bt473.1 = 0 then (if 3 ≤ 281474976710656 then ((spec_l1Cur_of.f s0_0 bt473.2.1 bt473.2.2 (([(⟨#[]⟩ : ByteArray), (⟨#[97, 64, 98]⟩ : ByteArray), (⟨#[97, 35]⟩ : ByteArray), (⟨#[10]⟩ : ByteArray), strOfNums (List.replicate 3 0)] : List ByteArray))).bind fun bt482 => (some (bt482.1, bt469.1, bt482.2.1, bt482.2.2))) else (none)) else (if bt473.1 = 1 then ((spec_l1Cur_of.f s0_0 bt473.2.1 bt473.2.2 (([(⟨#[35]⟩ : ByteArray), (⟨#[10]⟩ : ByteArray), (⟨#[127]⟩ : ByteArray)] : List ByteArray))).bind fun bt488 => (some (t463, bt488.1, bt488.2.1, bt488.2.2))) else (some (t463, bt469.1, bt473.2.1, bt473.2.2)))))) = some (r1, r2, r3, r4) := H
 have A2 := Aside0.mk A20
 clear A20
 obtain ⟨y466, hy466⟩ : ∃ y_ : List ByteArray, y_ = (([(⟨#[]⟩ : ByteArray), (⟨#[51]⟩ : ByteArray), (⟨#[63]⟩ : ByteArray), (⟨#[97, 64, 98]⟩ : ByteArray), (⟨#[51, 32, 49, 32, 50]⟩ : ByteArray)] : List ByteArray)) := ⟨_, rfl⟩
 replace H : ((spec_l1Cur_of.f s0_0 t464 t465 y466).bind fun bt469 => ((spec_l1Cur_pick.f s0_0 bt469.2.1 bt469.2.2 24).bind fun bt473 => (if bt473.1 = 0 then (if 3 ≤ 281474976710656 then ((spec_l1Cur_of.f s0_0 bt473.2.1 bt473.2.2 (([(⟨#[]⟩ : ByteArray), (⟨#[97, 64, 98]⟩ : ByteArray), (⟨#[97, 35]⟩ : ByteArray), (⟨#[10]⟩ : ByteArray), strOfNums (List.replicate 3 0)] : List ByteArray))).bind fun bt482 => (some (bt482.1, bt469.1, bt482.2.1, bt482.2.2))) else (none)) else (if bt473.1 = 1 then ((spec_l1Cur_of.f s0_0 bt473.2.1 bt473.2.2 (([(⟨#[35]⟩ : ByteArray), (⟨#[10]⟩ : ByteArray), (⟨#[127]⟩ : ByteArray)] : List ByteArray))).bind fun bt488 => (some (t463, bt488.1, bt488.2.1, bt488.2.2))) else (some (t463, bt469.1, bt473.2.1, bt473.2.2)))))) = some (r1, r2, r3, r4) := by first | (rw [hy466]; with_reducible exact H) | (have H2_ := (Option.bind_some _ _).symm.trans H; rw [hy466]; with_reducible exact H2_) | (have H2_ := (Option.bind_some _ _).symm.trans H; with_reducible exact H2_) | with_reducible exact H | (rw [hy466]; exact H) | exact H
 have Ny466 := Aside0.mk hy466
 clear hy466
 replace H := Option.bind_eq_some_iff.mp H
 obtain ⟨⟨t469, t470, t471⟩, A30, H⟩ := H
 replace H : ((spec_l1Cur_pick.f s0_0 t470 t471 24).bind fun bt473 => (if bt473.1 = 0 then (if 3 ≤ 281474976710656 then ((spec_l1Cur_of.f s0_0 bt473.2.1 bt473.2.2 (([(⟨#[]⟩ : ByteArray), (⟨#[97, 64, 98]⟩ : ByteArray), (⟨#[97, 35]⟩ : ByteArray), (⟨#[10]⟩ : ByteArray), strOfNums (List.replicate 3 0)] : List ByteArray))).bind fun bt482 => (some (bt482.1, t469, bt482.2.1, bt482.2.2))) else (none)) else (if bt473.1 = 1 then ((spec_l1Cur_of.f s0_0 bt473.2.1 bt473.2.2 (([(⟨#[35]⟩ : ByteArray), (⟨#[10]⟩ : ByteArray), (⟨#[127]⟩ : ByteArray)] : List ByteArray))).bind fun bt488 => (some (t463, bt488.1, bt488.2.1, bt488.2.2))) else (some (t463, t469, bt473.2.1, bt473.2.2))))) = some (r1, r2, r3, r4) := H
 have A3 := Aside0.mk A30
 clear A30
 replace H := Option.bind_eq_some_iff.mp H
 obtain ⟨⟨t473, t474, t475⟩, A40, H⟩ := H
 replace H : (if t473 = 0 then (if 3 ≤ 281474976710656 then ((spec_l1Cur_of.f s0_0 t474 t475 (([(⟨#[]⟩ : ByteArray), (⟨#[97, 64, 98]⟩ : ByteArray), (⟨#[97, 35]⟩ : ByteArray), (⟨#[10]⟩ : ByteArray), strOfNums (List.replicate 3 0)] : List ByteArray))).bind fun bt482 => (some (bt482.1, t469, bt482.2.1, bt482.2.2))) else (none)) else (if t473 = 1 then ((spec_l1Cur_of.f s0_0 t474 t475 (([(⟨#[35]⟩ : ByteArray), (⟨#[10]⟩ : ByteArray), (⟨#[127]⟩ : ByteArray)] : List ByteArray))).bind fun bt488 => (some (t463, bt488.1, bt488.2.1, bt488.2.2))) else (some (t463, t469, t474, t475)))) = some (r1, r2, r3, r4) := H
 have A4 := Aside0.mk A40
 clear A40
 by_cases c5 : t473 = 0
 ·
  rw [if_pos c5] at H
  have c5b0 : (t473 == 0) = true := beq_iff_eq.mpr c5
  have c5b1 : (t473 != 0) = false := bne_eq_false_iff_eq.mpr c5
  clear c5
  by_cases c6 : 3 ≤ 281474976710656
  ·
   rw [if_pos c6] at H
   have c6b0 := eq_true c6
   have c6b1 : decide (3 ≤ 281474976710656) = true := decide_eq_true c6
   clear c6
   obtain ⟨y476, hy476⟩ : ∃ y_ : List Int, y_ = (List.replicate 3 0) := ⟨_, rfl⟩
   replace H : ((spec_l1Cur_of.f s0_0 t474 t475 (([(⟨#[]⟩ : ByteArray), (⟨#[97, 64, 98]⟩ : ByteArray), (⟨#[97, 35]⟩ : ByteArray), (⟨#[10]⟩ : ByteArray), strOfNums y476] : List ByteArray))).bind fun bt482 => (some (bt482.1, t469, bt482.2.1, bt482.2.2))) = some (r1, r2, r3, r4) := by first | (rw [hy476]; with_reducible exact H) | (have H2_ := (Option.bind_some _ _).symm.trans H; rw [hy476]; with_reducible exact H2_) | (have H2_ := (Option.bind_some _ _).symm.trans H; with_reducible exact H2_) | with_reducible exact H | (rw [hy476]; exact H) | exact H
   have Ny476 := Aside0.mk hy476
   clear hy476
   obtain ⟨y479, hy479⟩ : ∃ y_ : List ByteArray, y_ = (([(⟨#[]⟩ : ByteArray), (⟨#[97, 64, 98]⟩ : ByteArray), (⟨#[97, 35]⟩ : ByteArray), (⟨#[10]⟩ : ByteArray), strOfNums y476] : List ByteArray)) := ⟨_, rfl⟩
   replace H : ((spec_l1Cur_of.f s0_0 t474 t475 y479).bind fun bt482 => (some (bt482.1, t469, bt482.2.1, bt482.2.2))) = some (r1, r2, r3, r4) := by first | (rw [hy479]; with_reducible exact H) | (have H2_ := (Option.bind_some _ _).symm.trans H; rw [hy479]; with_reducible exact H2_) | (have H2_ := (Option.bind_some _ _).symm.trans H; with_reducible exact H2_) | with_reducible exact H | (rw [hy479]; exact H) | exact H
   have Ny479 := Aside0.mk hy479
   clear hy479
   replace H := Option.bind_eq_some_iff.mp H
   obtain ⟨⟨t482, t483, t484⟩, A70, H⟩ := H
   replace H : (some (t482, t469, t483, t484)) = some (r1, r2, r3, r4) := H
   have A7 := Aside0.mk A70
   clear A70
   simp only [Option.some.injEq, Prod.mk.injEq] at H
   obtain ⟨rfl, rfl, rfl, rfl⟩ := H
   go_enter Tryd.func56, Tryd.ntmps56
   go_wp2_with (first | ((with_reducible refine gate_dst (N := 2) rfl ?_); refine box_event ?hg (N := 2) ?hd (cs := #[.string (⟨#[]⟩ : ByteArray), .string (⟨#[]⟩ : ByteArray)]) (t := 27) ?hr ?_; (case hd => rfl); (case hg => rfl); (case hr => first | (go_simp; done) | (go_simp; rfl)); intro gb459 hg w8 hbox hb; replace HB := Aside0.mk (below_step (lb1_ HB.out (IsS74.ge HI0.out)) hb); have BK459 := Aside0.mk (hbox); have GW459 := Aside0.mk ((by rw [hg]; exact (keep_size (w := w) (g := g) (row := none) (kb0_ HK.out)) : w.heap.size ≤ gb459)); have GE459 := Aside0.mk ((Nat.le_trans HW0.out (by rw [hg]; exact (keep_size (w := w) (g := g) (row := none) (kb0_ HK.out)) : w.heap.size ≤ gb459) : w0.heap.size ≤ gb459)); replace HK := Aside0.mk (KeepBut.trans (kb0_ HK.out) (KeepBut.of_below hb g none) (.inl rfl)); have NB0_459 := Aside0.mk ((by rw [hg]; exact Nat.ne_of_lt (IsS74.lt (show IsS74 w0 _ g s0_0 s0_1 s0_2 from is74_0 HI0.out)) : g ≠ gb459)); have NB459_0 := Aside0.mk ((by rw [hg]; exact Nat.ne_of_gt (IsS74.lt (show IsS74 w0 _ g s0_0 s0_1 s0_2 from is74_0 HI0.out)) : gb459 ≠ g)); replace HI0 := Aside0.mk (IsS74.below (is74_0 HI0.out) hb); clear hb hbox hg) | ((with_reducible refine gate_dst (N := 5) rfl ?_); refine Kd.R_lit Kd.string _ 9 ?hg (N := 5) ?hd (xs := ([(⟨#[99, 111, 117, 110, 116]⟩ : ByteArray), (⟨#[115, 111, 114, 116, 32, 109, 101, 114, 103, 101]⟩ : ByteArray), (⟨#[120]⟩ : ByteArray), (⟨#[115, 101, 108, 101, 99, 116, 32, 50]⟩ : ByteArray), (⟨#[48, 32, 49]⟩ : ByteArray)] : List ByteArray)) (inner := [.string (⟨#[99, 111, 117, 110, 116]⟩ : ByteArray), .string (⟨#[115, 111, 114, 116, 32, 109, 101, 114, 103, 101]⟩ : ByteArray), .string (⟨#[120]⟩ : ByteArray), .string (⟨#[115, 101, 108, 101, 99, 116, 32, 50]⟩ : ByteArray), .string (⟨#[48, 32, 49]⟩ : ByteArray)]) (ok := fun _ => True) (okp := fun _ => True) ?hr ?hp (fun _ hk => hk) trivial (Below.refl _ _) (Nat.le_refl _) (by simp) ?_; (case hd => rfl); (case hg => rfl); (case hr => first | (go_simp; done) | (go_simp; rfl)); (case hp => exact (Reps.one (show Kd.M Kd.string _ _ _ (⟨#[99, 111, 117, 110, 116]⟩ : ByteArray) [.string (⟨#[99, 111, 117, 110, 116]⟩ : ByteArray)] from rfl) (Reps.one (show Kd.M Kd.string _ _ _ (⟨#[115, 111, 114, 116, 32, 109, 101, 114, 103, 101]⟩ : ByteArray) [.string (⟨#[115, 111, 114, 116, 32, 109, 101, 114, 103, 101]⟩ : ByteArray)] from rfl) (Reps.one (show Kd.M Kd.string _ _ _ (⟨#[120]⟩ : ByteArray) [.string (⟨#[120]⟩ : ByteArray)] from rfl) (Reps.one (show Kd.M Kd.string _ _ _ (⟨#[115, 101, 108, 101, 99, 116, 32, 50]⟩ : ByteArray) [.string (⟨#[115, 101, 108, 101, 99, 116, 32, 50]⟩ : ByteArray)] from rfl) (Reps.one (show Kd.M Kd.string _ _ _ (⟨#[48, 32, 49]⟩ : ByteArray) [.string (⟨#[48, 32, 49]⟩ : ByteArray)] from rfl) (Reps.none _ _))))))); intro v461 w9 ho10 hb hg_ hnew_; clear hg_ hnew_; replace ho10 := ry_ Ny460.out ho10; have HO462 := Aside0.mk (Kd.R_lower ho10 (keep_size (w := w) (g := g) (row := none) (kb1_ HK.out GW459.out))); replace BK459 := Aside0.mk (bb_ (bk_ BK459.out) hb); replace HK := Aside0.mk (KeepBut.trans (kb1_ HK.out GW459.out) (KeepBut.of_below hb g none) (.inl rfl)); replace HB := Aside0.mk (below_step (lb2_ HB.out (IsS74.ge HI0.out) GE459.out) hb); replace HI0 := Aside0.mk (IsS74.below (is74_1 HI0.out NB0_459.out) hb); clear hb ho10; obtain ⟨Ao11, co11, eo11⟩ := Kd.R_slice HO462.out; subst eo11) | ((with_reducible refine gate_callee (f := 73) rfl ?_); refine ga_ (some 6) Tryd.func73 #[.pointer (some ⟨g, 0, none⟩), .slice Ao11 y460.length co11] ?_; (with_reducible refine (spec_l1Cur_of.calls g s0_0 s0_1 s0_2 _ _ y460 t463 t464 t465 w0 _ ?side1 ?side2 ?side3 ?side4 ?side5 A2.out).mono ?_); (case side1 => exact is74_1 HI0.out NB0_459.out); (case side2 => exact lb2_ HB.out (IsS74.ge HI0.out) GE459.out); (case side3 => exact kc_ (Kd.R_reads' HO462.out).2.2); (case side4 => exact (Kd.R_reads' HO462.out).2.1); (case side5 => exact far_slice (IsS74.own_ne HI0.out HO462.out (by decide))); rintro e w12 ⟨rfl, hi, hb, hk⟩; refine ⟨_, rfl, ?_⟩; replace BK459 := Aside0.mk (KeepBut.blk hk (g' := gb459) (o := .cells #[.string (⟨#[]⟩ : ByteArray), .string (⟨#[]⟩ : ByteArray)] 27 (0, 0)) (bk_ BK459.out) NB459_0.out (by simp)); replace HO462 := Aside0.mk (Kd.R_mono (Kd.R_keep (IsS74.apart (show IsS74 w0 _ g s0_0 s0_1 s0_2 from is74_1 HI0.out NB0_459.out) (kr_ HO462.out) (by decide)) hk (fun _ h => h.2)) (fun _ h => h.1)); replace HK := Aside0.mk (KeepBut.trans (kb1_ HK.out GW459.out) hk (.inl rfl)); replace HB := Aside0.mk (hb); replace HI0 := Aside0.mk (hi); (try clear hb); (try clear hb2); (try clear hk); (try clear hi)) | ((with_reducible refine gate_dst (N := 8) rfl ?_); refine Kd.R_lit Kd.string _ 9 ?hg (N := 8) ?hd (xs := ([(⟨#[]⟩ : ByteArray), (⟨#[51]⟩ : ByteArray), (⟨#[63]⟩ : ByteArray), (⟨#[97, 64, 98]⟩ : ByteArray), (⟨#[51, 32, 49, 32, 50]⟩ : ByteArray)] : List ByteArray)) (inner := [.string (⟨#[]⟩ : ByteArray), .string (⟨#[51]⟩ : ByteArray), .string (⟨#[63]⟩ : ByteArray), .string (⟨#[97, 64, 98]⟩ : ByteArray), .string (⟨#[51, 32, 49, 32, 50]⟩ : ByteArray)]) (ok := fun _ => True) (okp := fun _ => True) ?hr ?hp (fun _ hk => hk) trivial (Below.refl _ _) (Nat.le_refl _) (by simp) ?_; (case hd => rfl); (case hg => rfl); (case hr => first | (go_simp; done) | (go_simp; rfl)); (case hp => exact (Reps.one (show Kd.M Kd.string _ _ _ (⟨#[]⟩ : ByteArray) [.string (⟨#[]⟩ : ByteArray)] from rfl) (Reps.one (show Kd.M Kd.string _ _ _ (⟨#[51]⟩ : ByteArray) [.string (⟨#[51]⟩ : ByteArray)] from rfl) (Reps.one (show Kd.M Kd.string _ _ _ (⟨#[63]⟩ : ByteArray) [.string (⟨#[63]⟩ : ByteArray)] from rfl) (Reps.one (show Kd.M Kd.string _ _ _ (⟨#[97, 64, 98]⟩ : ByteArray) [.string (⟨#[97, 64, 98]⟩ : ByteArray)] from rfl) (Reps.one (show Kd.M Kd.string _ _ _ (⟨#[51, 32, 49, 32, 50]⟩ : ByteArray) [.string (⟨#[51, 32, 49, 32, 50]⟩ : ByteArray)] from rfl) (Reps.none _ _))))))); intro v467 w13 ho14 hb hg_ hnew_; clear hg_ hnew_; replace ho14 := ry_ Ny466.out ho14; have HO468 := Aside0.mk (Kd.R_lower (Kd.R_new' ho14 (Kd.R_lt (kr_ HO462.out))) (keep_size (w := w) (g := g) (row := none) (kb1_ HK.out GW459.out))); replace HO462 := Aside0.mk (Kd.R_elder' (kr_ HO462.out) (Kd.R_base ho14) hb); replace BK459 := Aside0.mk (bb_ (bk_ BK459.out) hb); replace HK := Aside0.mk (KeepBut.trans (kb1_ HK.out GW459.out) (KeepBut.of_below hb g none) (.inl rfl)); replace HB := Aside0.mk (below_step (lb2_ HB.out (IsS74.ge HI0.out) GE459.out) hb); replace HI0 := Aside0.mk (IsS74.below (is74_1 HI0.out NB0_459.out) hb); clear hb ho14; obtain ⟨Ao15, co15, eo15⟩ := Kd.R_slice HO468.out; subst eo15) | ((with_reducible refine gate_callee (f := 73) rfl ?_); refine ga_ (some 9) Tryd.func73 #[.pointer (some ⟨g, 0, none⟩), .slice Ao15 y466.length co15] ?_; (with_reducible refine (spec_l1Cur_of.calls g s0_0 t464 t465 _ _ y466 t469 t470 t471 w0 _ ?side1 ?side2 ?side3 ?side4 ?side5 A3.out).mono ?_); (case side1 => exact is74_1 HI0.out NB0_459.out); (case side2 => exact lb2_ HB.out (IsS74.ge HI0.out) GE459.out); (case side3 => exact kc_ (Kd.R_reads' HO468.out).2.2); (case side4 => exact (Kd.R_reads' HO468.out).2.1); (case side5 => exact far_slice (IsS74.own_ne HI0.out HO468.out (by decide))); rintro e w16 ⟨rfl, hi, hb, hk⟩; refine ⟨_, rfl, ?_⟩; replace BK459 := Aside0.mk (KeepBut.blk hk (g' := gb459) (o := .cells #[.string (⟨#[]⟩ : ByteArray), .string (⟨#[]⟩ : ByteArray)] 27 (0, 0)) (bk_ BK459.out) NB459_0.out (by simp)); replace HO462 := Aside0.mk (Kd.R_mono (Kd.R_keep (IsS74.apart (show IsS74 w0 _ g s0_0 t464 t465 from is74_1 HI0.out NB0_459.out) (kr_ HO462.out) (by decide)) hk (fun _ h => h.2)) (fun _ h => h.1)); replace HO468 := Aside0.mk (Kd.R_mono (Kd.R_keep (IsS74.apart (show IsS74 w0 _ g s0_0 t464 t465 from is74_1 HI0.out NB0_459.out) (kr_ HO468.out) (by decide)) hk (fun _ h => h.2)) (fun _ h => h.1)); replace HK := Aside0.mk (KeepBut.trans (kb1_ HK.out GW459.out) hk (.inl rfl)); replace HB := Aside0.mk (hb); replace HI0 := Aside0.mk (hi); (try clear hb); (try clear hb2); (try clear hk); (try clear hi)) | ((with_reducible refine gate_dst (N := 3) rfl ?_); refine box_event ?hg (N := 3) ?hd (cs := #[.string (⟨#[]⟩ : ByteArray), .string (⟨#[]⟩ : ByteArray)]) (t := 27) ?hr ?_; (case hd => rfl); (case hg => rfl); (case hr => first | (go_simp; done) | (go_simp; rfl)); intro gb472 hg w17 hbox hb; replace HO462 := Aside0.mk (Kd.R_below (kr_ HO462.out) hb); replace HO468 := Aside0.mk (Kd.R_below (kr_ HO468.out) hb); replace HB := Aside0.mk (below_step (lb2_ HB.out (IsS74.ge HI0.out) GE459.out) hb); have BK472 := Aside0.mk (hbox); have GW472 := Aside0.mk ((by rw [hg]; exact (keep_size (w := w) (g := g) (row := none) (kb1_ HK.out GW459.out)) : w.heap.size ≤ gb472)); have GE472 := Aside0.mk ((Nat.le_trans HW0.out (by rw [hg]; exact (keep_size (w := w) (g := g) (row := none) (kb1_ HK.out GW459.out)) : w.heap.size ≤ gb472) : w0.heap.size ≤ gb472)); replace HK := Aside0.mk (KeepBut.trans (kb1_ HK.out GW459.out) (KeepBut.of_below hb g none) (.inl rfl)); have NB459_472 := Aside0.mk ((by rw [hg]; exact Nat.ne_of_lt (blk_lt (g := gb459) (o := .cells #[.string (⟨#[]⟩ : ByteArray), .string (⟨#[]⟩ : ByteArray)] 27 (0, 0)) (bk_ BK459.out)) : gb459 ≠ gb472)); have NB472_459 := Aside0.mk ((by rw [hg]; exact Nat.ne_of_gt (blk_lt (g := gb459) (o := .cells #[.string (⟨#[]⟩ : ByteArray), .string (⟨#[]⟩ : ByteArray)] 27 (0, 0)) (bk_ BK459.out)) : gb472 ≠ gb459)); replace BK459 := Aside0.mk (bb_ (bk_ BK459.out) hb); have NB0_472 := Aside0.mk ((by rw [hg]; exact Nat.ne_of_lt (IsS74.lt (show IsS74 w0 _ g s0_0 t470 t471 from is74_1 HI0.out NB0_459.out)) : g ≠ gb472)); have NB472_0 := Aside0.mk ((by rw [hg]; exact Nat.ne_of_gt (IsS74.lt (show IsS74 w0 _ g s0_0 t470 t471 from is74_1 HI0.out NB0_459.out)) : gb472 ≠ g)); replace HI0 := Aside0.mk (IsS74.below (is74_1 HI0.out NB0_459.out) hb); clear hb hbox hg; have hnb18 := NB472_459.out; have hnc18 := NB459_472.out; have hnb19 := NB472_0.out; have hnc19 := NB0_472.out; obtain ⟨hcz20_0, hcz20_1⟩ := cz2_ BK472.out; obtain ⟨hfz20_0, hfz20_1⟩ := fz2_ BK472.out) | ((with_reducible refine gate_callee (f := 55) rfl ?_); refine ga_ (some 12) Tryd.func55 #[.pointer (some ⟨g, 0, none⟩), .int .i64 24] ?_; (with_reducible refine (spec_l1Cur_pick.calls g s0_0 t470 t471 24 t473 t474 t475 w0 _ ?side1 ?side2 A4.out).mono ?_); (case side1 => exact is74_2 HI0.out NB0_459.out NB0_472.out); (case side2 => exact lb3_ HB.out (IsS74.ge HI0.out) GE459.out GE472.out); rintro e w21 ⟨rfl, hi, hb, hk⟩; refine ⟨_, rfl, ?_⟩; replace BK459 := Aside0.mk (KeepBut.blk hk (g' := gb459) (o := .cells #[.string (⟨#[]⟩ : ByteArray), .string (⟨#[]⟩ : ByteArray)] 27 (0, 0)) (by (with_reducible repeat (first | refine blk_drewN ?_ _ | refine blk_drew ?_ | refine blk_alloc ?_ _)); refine blk_far ?_ NB459_472.out _; (with_reducible repeat (first | refine blk_drewN ?_ _ | refine blk_drew ?_ | refine blk_alloc ?_ _)); refine blk_far ?_ NB459_472.out _; (with_reducible repeat (first | refine blk_drewN ?_ _ | refine blk_drew ?_ | refine blk_alloc ?_ _)); exact BK459.out) NB459_0.out (by simp)); replace HO462 := Aside0.mk (Kd.R_mono (Kd.R_keep (IsS74.apart (show IsS74 w0 _ g s0_0 t470 t471 from is74_2 HI0.out NB0_459.out NB0_472.out) (kg_ HO462.out BK472.out) (by decide)) hk (fun _ h => h.2)) (fun _ h => h.1)); replace HO468 := Aside0.mk (Kd.R_mono (Kd.R_keep (IsS74.apart (show IsS74 w0 _ g s0_0 t470 t471 from is74_2 HI0.out NB0_459.out NB0_472.out) (kg_ HO468.out BK472.out) (by decide)) hk (fun _ h => h.2)) (fun _ h => h.1)); replace BK472 := Aside0.mk (KeepBut.blk hk (g' := gb472) (o := .cells #[.string t463, .string t469] 27 (0, 0)) (by (with_reducible repeat (first | refine blk_drewN ?_ _ | refine blk_drew ?_ | refine blk_alloc ?_ _)); refine blk_put (cs := #[.string t463, .string (⟨#[]⟩ : ByteArray)]) ?_ 1 _ rfl; (with_reducible repeat (first | refine blk_drewN ?_ _ | refine blk_drew ?_ | refine blk_alloc ?_ _)); refine blk_put (cs := #[.string (⟨#[]⟩ : ByteArray), .string (⟨#[]⟩ : ByteArray)]) ?_ 0 _ rfl; (with_reducible repeat (first | refine blk_drewN ?_ _ | refine blk_drew ?_ | refine blk_alloc ?_ _)); exact BK472.out) NB472_0.out (by simp)); replace HK := Aside0.mk (KeepBut.trans (kb2_ HK.out GW459.out GW472.out) hk (.inl rfl)); replace HB := Aside0.mk (hb); replace HI0 := Aside0.mk (hi); (try clear hb); (try clear hb2); (try clear hk); (try clear hi)) | ((with_reducible refine gate_dst (N := 16) rfl ?_); refine Kd.R_make (Kd.int .u8) _ 5 rfl (N := 16) rfl 53 _ _ rfl 3 rfl rfl Tryd.underlying53 (.int .u8 0) 1 info5 rfl (by decide) (by omega) 0 (ok := fun _ => True) (okp := fun _ => True) rfl (fun _ hk => hk) trivial (by omega) (by omega) (Below.refl _ _) (Nat.le_refl _) ?_; intro v477 w22 ho23 hb hg_ hnew_; clear hg_ hnew_; replace ho23 := ry_ Ny476.out ho23; replace HO462 := Aside0.mk (Kd.R_below (kr_ HO462.out) hb); replace HO468 := Aside0.mk (Kd.R_below (kr_ HO468.out) hb); have HO478 := Aside0.mk (Kd.R_lower ho23 (keep_size (w := w) (g := g) (row := none) (kb2_ HK.out GW459.out GW472.out))); replace BK459 := Aside0.mk (bb_ (bk_ BK459.out) hb); replace BK472 := Aside0.mk (bb_ (bk_ BK472.out) hb); replace HK := Aside0.mk (KeepBut.trans (kb2_ HK.out GW459.out GW472.out) (KeepBut.of_below hb g none) (.inl rfl)); replace HB := Aside0.mk (below_step (lb3_ HB.out (IsS74.ge HI0.out) GE459.out GE472.out) hb); replace HI0 := Aside0.mk (IsS74.below (is74_2 HI0.out NB0_459.out NB0_472.out) hb); clear hb ho23; have hcv24 := own_string (P := Tryd.prog) Tryd.underlying53 Tryd.underlying5 Tryd.underlying9 (Kd.own_of_R HO478.out)) | ((with_reducible refine gate_dst (N := 18) rfl ?_); refine Kd.R_lit Kd.string _ 9 ?hg (N := 18) ?hd (xs := ([(⟨#[]⟩ : ByteArray), (⟨#[97, 64, 98]⟩ : ByteArray), (⟨#[97, 35]⟩ : ByteArray), (⟨#[10]⟩ : ByteArray), strOfNums y476] : List ByteArray)) (inner := [.string (⟨#[]⟩ : ByteArray), .string (⟨#[97, 64, 98]⟩ : ByteArray), .string (⟨#[97, 35]⟩ : ByteArray), .string (⟨#[10]⟩ : ByteArray), .string (strOfNums y476)]) (ok := fun _ => True) (okp := fun _ => True) ?hr ?hp (fun _ hk => hk) trivial (Below.refl _ _) (Nat.le_refl _) (by simp) ?_; (case hd => rfl); (case hg => rfl); (case hr => first | (go_simp; done) | (go_simp; rfl)); (case hp => exact (Reps.one (show Kd.M Kd.string _ _ _ (⟨#[]⟩ : ByteArray) [.string (⟨#[]⟩ : ByteArray)] from rfl) (Reps.one (show Kd.M Kd.string _ _ _ (⟨#[97, 64, 98]⟩ : ByteArray) [.string (⟨#[97, 64, 98]⟩ : ByteArray)] from rfl) (Reps.one (show Kd.M Kd.string _ _ _ (⟨#[97, 35]⟩ : ByteArray) [.string (⟨#[97, 35]⟩ : ByteArray)] from rfl) (Reps.one (show Kd.M Kd.string _ _ _ (⟨#[10]⟩ : ByteArray) [.string (⟨#[10]⟩ : ByteArray)] from rfl) (Reps.one (show Kd.M Kd.string _ _ _ (strOfNums y476) [.string (strOfNums y476)] from rfl) (Reps.none _ _))))))); intro v480 w25 ho26 hb hg_ hnew_; clear hg_ hnew_; replace ho26 := ry_ Ny479.out ho26; replace HO478 := Aside0.mk (Kd.R_below (kr_ HO478.out) hb); have HO481 := Aside0.mk (Kd.R_lower (Kd.R_new' (Kd.R_new' ho26 (Kd.R_lt (kr_ HO462.out))) (Kd.R_lt (kr_ HO468.out))) (keep_size (w := w) (g := g) (row := none) (kb2_ HK.out GW459.out GW472.out))); replace HO462 := Aside0.mk (Kd.R_elder' (kr_ HO462.out) (Kd.R_base ho26) hb); replace HO468 := Aside0.mk (Kd.R_elder' (kr_ HO468.out) (Kd.R_base ho26) hb); replace BK459 := Aside0.mk (bb_ (bk_ BK459.out) hb); replace BK472 := Aside0.mk (bb_ (bk_ BK472.out) hb); replace HK := Aside0.mk (KeepBut.trans (kb2_ HK.out GW459.out GW472.out) (KeepBut.of_below hb g none) (.inl rfl)); replace HB := Aside0.mk (below_step (lb3_ HB.out (IsS74.ge HI0.out) GE459.out GE472.out) hb); replace HI0 := Aside0.mk (IsS74.below (is74_2 HI0.out NB0_459.out NB0_472.out) hb); clear hb ho26; obtain ⟨Ao27, co27, eo27⟩ := Kd.R_slice HO481.out; subst eo27) | ((with_reducible refine gate_callee (f := 73) rfl ?_); refine ga_ (some 19) Tryd.func73 #[.pointer (some ⟨g, 0, none⟩), .slice Ao27 y479.length co27] ?_; (with_reducible refine (spec_l1Cur_of.calls g s0_0 t474 t475 _ _ y479 t482 t483 t484 w0 _ ?side1 ?side2 ?side3 ?side4 ?side5 A7.out).mono ?_); (case side1 => exact is74_2 HI0.out NB0_459.out NB0_472.out); (case side2 => exact lb3_ HB.out (IsS74.ge HI0.out) GE459.out GE472.out); (case side3 => exact kc_ (Kd.R_reads' HO481.out).2.2); (case side4 => exact (Kd.R_reads' HO481.out).2.1); (case side5 => exact far_slice (IsS74.own_ne HI0.out HO481.out (by decide))); rintro e w28 ⟨rfl, hi, hb, hk⟩; refine ⟨_, rfl, ?_⟩; replace BK459 := Aside0.mk (KeepBut.blk hk (g' := gb459) (o := .cells #[.string (⟨#[]⟩ : ByteArray), .string (⟨#[]⟩ : ByteArray)] 27 (0, 0)) (bk_ BK459.out) NB459_0.out (by simp)); replace HO462 := Aside0.mk (Kd.R_mono (Kd.R_keep (IsS74.apart (show IsS74 w0 _ g s0_0 t474 t475 from is74_2 HI0.out NB0_459.out NB0_472.out) (kr_ HO462.out) (by decide)) hk (fun _ h => h.2)) (fun _ h => h.1)); replace HO468 := Aside0.mk (Kd.R_mono (Kd.R_keep (IsS74.apart (show IsS74 w0 _ g s0_0 t474 t475 from is74_2 HI0.out NB0_459.out NB0_472.out) (kr_ HO468.out) (by decide)) hk (fun _ h => h.2)) (fun _ h => h.1)); replace BK472 := Aside0.mk (KeepBut.blk hk (g' := gb472) (o := .cells #[.string t463, .string t469] 27 (0, 0)) (bk_ BK472.out) NB472_0.out (by simp)); replace HO478 := Aside0.mk (Kd.R_mono (Kd.R_keep (IsS74.apart (show IsS74 w0 _ g s0_0 t474 t475 from is74_2 HI0.out NB0_459.out NB0_472.out) (kr_ HO478.out) (by decide)) hk (fun _ h => h.2)) (fun _ h => h.1)); replace HO481 := Aside0.mk (Kd.R_mono (Kd.R_keep (IsS74.apart (show IsS74 w0 _ g s0_0 t474 t475 from is74_2 HI0.out NB0_459.out NB0_472.out) (kr_ HO481.out) (by decide)) hk (fun _ h => h.2)) (fun _ h => h.1)); replace HK := Aside0.mk (KeepBut.trans (kb2_ HK.out GW459.out GW472.out) hk (.inl rfl)); replace HB := Aside0.mk (hb); replace HI0 := Aside0.mk (hi); (try clear hb); (try clear hb2); (try clear hk); (try clear hi); obtain ⟨hcz29_0, hcz29_1⟩ := cz2_ BK472.out; obtain ⟨hfz29_0, hfz29_1⟩ := fz2_ BK472.out; have hnb30 := NB459_0.out; have hnc30 := NB0_459.out; obtain ⟨hcz31_0, hcz31_1⟩ := cz2_ BK459.out; obtain ⟨hfz31_0, hfz31_1⟩ := fz2_ BK459.out))
   refine bodyPost_ret (results_cell_row rfl _ _ gb459 27 #[.string t482, .string t469] (0, 0) _ rfl (by (with_reducible repeat (first | refine blk_drewN ?_ _ | refine blk_drew ?_ | refine blk_alloc ?_ _)); refine blk_put (cs := #[.string t482, .string (⟨#[]⟩ : ByteArray)]) ?_ 1 _ rfl; (with_reducible repeat (first | refine blk_drewN ?_ _ | refine blk_drew ?_ | refine blk_alloc ?_ _)); refine blk_put (cs := #[.string (⟨#[]⟩ : ByteArray), .string (⟨#[]⟩ : ByteArray)]) ?_ 0 _ rfl; (with_reducible repeat (first | refine blk_drewN ?_ _ | refine blk_drew ?_ | refine blk_alloc ?_ _)); refine blk_far ?_ NB459_472.out _; (with_reducible repeat (first | refine blk_drewN ?_ _ | refine blk_drew ?_ | refine blk_alloc ?_ _)); exact BK459.out) Tryd.underlying27 rfl (by kernel_rfl)) rfl ?_
   exact ⟨rr_, is74_2 HI0.out NB0_459.out NB0_472.out, lb3_ HB.out (IsS74.ge HI0.out) GE459.out GE472.out, kb2_ HK.out GW459.out GW472.out⟩
  ·
   rw [if_neg c6] at H
   exact absurd H (by simp)
 ·
  rw [if_neg c5] at H
  have c5b0 : (t473 == 0) = false := beq_eq_false_iff_ne.mpr c5
  have c5b1 : (t473 != 0) = true := bne_iff_ne.mpr c5
  by_cases c32 : t473 = 1
  ·
   rw [if_pos c32] at H
   have c32b0 : (t473 == 1) = true := beq_iff_eq.mpr c32
   have c32b1 : (t473 != 1) = false := bne_eq_false_iff_eq.mpr c32
   clear c32
   obtain ⟨y485, hy485⟩ : ∃ y_ : List ByteArray, y_ = (([(⟨#[35]⟩ : ByteArray), (⟨#[10]⟩ : ByteArray), (⟨#[127]⟩ : ByteArray)] : List ByteArray)) := ⟨_, rfl⟩
   replace H : ((spec_l1Cur_of.f s0_0 t474 t475 y485).bind fun bt488 => (some (t463, bt488.1, bt488.2.1, bt488.2.2))) = some (r1, r2, r3, r4) := by first | (rw [hy485]; with_reducible exact H) | (have H2_ := (Option.bind_some _ _).symm.trans H; rw [hy485]; with_reducible exact H2_) | (have H2_ := (Option.bind_some _ _).symm.trans H; with_reducible exact H2_) | with_reducible exact H | (rw [hy485]; exact H) | exact H
   have Ny485 := Aside0.mk hy485
   clear hy485
   replace H := Option.bind_eq_some_iff.mp H
   obtain ⟨⟨t488, t489, t490⟩, A330, H⟩ := H
   replace H : (some (t463, t488, t489, t490)) = some (r1, r2, r3, r4) := H
   have A33 := Aside0.mk A330
   clear A330
   simp only [Option.some.injEq, Prod.mk.injEq] at H
   obtain ⟨rfl, rfl, rfl, rfl⟩ := H
   go_enter Tryd.func56, Tryd.ntmps56
   go_wp2_with (first | ((with_reducible refine gate_dst (N := 2) rfl ?_); refine box_event ?hg (N := 2) ?hd (cs := #[.string (⟨#[]⟩ : ByteArray), .string (⟨#[]⟩ : ByteArray)]) (t := 27) ?hr ?_; (case hd => rfl); (case hg => rfl); (case hr => first | (go_simp; done) | (go_simp; rfl)); intro gb459 hg w34 hbox hb; replace HB := Aside0.mk (below_step (lb1_ HB.out (IsS74.ge HI0.out)) hb); have BK459 := Aside0.mk (hbox); have GW459 := Aside0.mk ((by rw [hg]; exact (keep_size (w := w) (g := g) (row := none) (kb0_ HK.out)) : w.heap.size ≤ gb459)); have GE459 := Aside0.mk ((Nat.le_trans HW0.out (by rw [hg]; exact (keep_size (w := w) (g := g) (row := none) (kb0_ HK.out)) : w.heap.size ≤ gb459) : w0.heap.size ≤ gb459)); replace HK := Aside0.mk (KeepBut.trans (kb0_ HK.out) (KeepBut.of_below hb g none) (.inl rfl)); have NB0_459 := Aside0.mk ((by rw [hg]; exact Nat.ne_of_lt (IsS74.lt (show IsS74 w0 _ g s0_0 s0_1 s0_2 from is74_0 HI0.out)) : g ≠ gb459)); have NB459_0 := Aside0.mk ((by rw [hg]; exact Nat.ne_of_gt (IsS74.lt (show IsS74 w0 _ g s0_0 s0_1 s0_2 from is74_0 HI0.out)) : gb459 ≠ g)); replace HI0 := Aside0.mk (IsS74.below (is74_0 HI0.out) hb); clear hb hbox hg) | ((with_reducible refine gate_dst (N := 5) rfl ?_); refine Kd.R_lit Kd.string _ 9 ?hg (N := 5) ?hd (xs := ([(⟨#[99, 111, 117, 110, 116]⟩ : ByteArray), (⟨#[115, 111, 114, 116, 32, 109, 101, 114, 103, 101]⟩ : ByteArray), (⟨#[120]⟩ : ByteArray), (⟨#[115, 101, 108, 101, 99, 116, 32, 50]⟩ : ByteArray), (⟨#[48, 32, 49]⟩ : ByteArray)] : List ByteArray)) (inner := [.string (⟨#[99, 111, 117, 110, 116]⟩ : ByteArray), .string (⟨#[115, 111, 114, 116, 32, 109, 101, 114, 103, 101]⟩ : ByteArray), .string (⟨#[120]⟩ : ByteArray), .string (⟨#[115, 101, 108, 101, 99, 116, 32, 50]⟩ : ByteArray), .string (⟨#[48, 32, 49]⟩ : ByteArray)]) (ok := fun _ => True) (okp := fun _ => True) ?hr ?hp (fun _ hk => hk) trivial (Below.refl _ _) (Nat.le_refl _) (by simp) ?_; (case hd => rfl); (case hg => rfl); (case hr => first | (go_simp; done) | (go_simp; rfl)); (case hp => exact (Reps.one (show Kd.M Kd.string _ _ _ (⟨#[99, 111, 117, 110, 116]⟩ : ByteArray) [.string (⟨#[99, 111, 117, 110, 116]⟩ : ByteArray)] from rfl) (Reps.one (show Kd.M Kd.string _ _ _ (⟨#[115, 111, 114, 116, 32, 109, 101, 114, 103, 101]⟩ : ByteArray) [.string (⟨#[115, 111, 114, 116, 32, 109, 101, 114, 103, 101]⟩ : ByteArray)] from rfl) (Reps.one (show Kd.M Kd.string _ _ _ (⟨#[120]⟩ : ByteArray) [.string (⟨#[120]⟩ : ByteArray)] from rfl) (Reps.one (show Kd.M Kd.string _ _ _ (⟨#[115, 101, 108, 101, 99, 116, 32, 50]⟩ : ByteArray) [.string (⟨#[115, 101, 108, 101, 99, 116, 32, 50]⟩ : ByteArray)] from rfl) (Reps.one (show Kd.M Kd.string _ _ _ (⟨#[48, 32, 49]⟩ : ByteArray) [.string (⟨#[48, 32, 49]⟩ : ByteArray)] from rfl) (Reps.none _ _))))))); intro v461 w35 ho36 hb hg_ hnew_; clear hg_ hnew_; replace ho36 := ry_ Ny460.out ho36; have HO462 := Aside0.mk (Kd.R_lower ho36 (keep_size (w := w) (g := g) (row := none) (kb1_ HK.out GW459.out))); replace BK459 := Aside0.mk (bb_ (bk_ BK459.out) hb); replace HK := Aside0.mk (KeepBut.trans (kb1_ HK.out GW459.out) (KeepBut.of_below hb g none) (.inl rfl)); replace HB := Aside0.mk (below_step (lb2_ HB.out (IsS74.ge HI0.out) GE459.out) hb); replace HI0 := Aside0.mk (IsS74.below (is74_1 HI0.out NB0_459.out) hb); clear hb ho36; obtain ⟨Ao37, co37, eo37⟩ := Kd.R_slice HO462.out; subst eo37) | ((with_reducible refine gate_callee (f := 73) rfl ?_); refine ga_ (some 6) Tryd.func73 #[.pointer (some ⟨g, 0, none⟩), .slice Ao37 y460.length co37] ?_; (with_reducible refine (spec_l1Cur_of.calls g s0_0 s0_1 s0_2 _ _ y460 t463 t464 t465 w0 _ ?side1 ?side2 ?side3 ?side4 ?side5 A2.out).mono ?_); (case side1 => exact is74_1 HI0.out NB0_459.out); (case side2 => exact lb2_ HB.out (IsS74.ge HI0.out) GE459.out); (case side3 => exact kc_ (Kd.R_reads' HO462.out).2.2); (case side4 => exact (Kd.R_reads' HO462.out).2.1); (case side5 => exact far_slice (IsS74.own_ne HI0.out HO462.out (by decide))); rintro e w38 ⟨rfl, hi, hb, hk⟩; refine ⟨_, rfl, ?_⟩; replace BK459 := Aside0.mk (KeepBut.blk hk (g' := gb459) (o := .cells #[.string (⟨#[]⟩ : ByteArray), .string (⟨#[]⟩ : ByteArray)] 27 (0, 0)) (bk_ BK459.out) NB459_0.out (by simp)); replace HO462 := Aside0.mk (Kd.R_mono (Kd.R_keep (IsS74.apart (show IsS74 w0 _ g s0_0 s0_1 s0_2 from is74_1 HI0.out NB0_459.out) (kr_ HO462.out) (by decide)) hk (fun _ h => h.2)) (fun _ h => h.1)); replace HK := Aside0.mk (KeepBut.trans (kb1_ HK.out GW459.out) hk (.inl rfl)); replace HB := Aside0.mk (hb); replace HI0 := Aside0.mk (hi); (try clear hb); (try clear hb2); (try clear hk); (try clear hi)) | ((with_reducible refine gate_dst (N := 8) rfl ?_); refine Kd.R_lit Kd.string _ 9 ?hg (N := 8) ?hd (xs := ([(⟨#[]⟩ : ByteArray), (⟨#[51]⟩ : ByteArray), (⟨#[63]⟩ : ByteArray), (⟨#[97, 64, 98]⟩ : ByteArray), (⟨#[51, 32, 49, 32, 50]⟩ : ByteArray)] : List ByteArray)) (inner := [.string (⟨#[]⟩ : ByteArray), .string (⟨#[51]⟩ : ByteArray), .string (⟨#[63]⟩ : ByteArray), .string (⟨#[97, 64, 98]⟩ : ByteArray), .string (⟨#[51, 32, 49, 32, 50]⟩ : ByteArray)]) (ok := fun _ => True) (okp := fun _ => True) ?hr ?hp (fun _ hk => hk) trivial (Below.refl _ _) (Nat.le_refl _) (by simp) ?_; (case hd => rfl); (case hg => rfl); (case hr => first | (go_simp; done) | (go_simp; rfl)); (case hp => exact (Reps.one (show Kd.M Kd.string _ _ _ (⟨#[]⟩ : ByteArray) [.string (⟨#[]⟩ : ByteArray)] from rfl) (Reps.one (show Kd.M Kd.string _ _ _ (⟨#[51]⟩ : ByteArray) [.string (⟨#[51]⟩ : ByteArray)] from rfl) (Reps.one (show Kd.M Kd.string _ _ _ (⟨#[63]⟩ : ByteArray) [.string (⟨#[63]⟩ : ByteArray)] from rfl) (Reps.one (show Kd.M Kd.string _ _ _ (⟨#[97, 64, 98]⟩ : ByteArray) [.string (⟨#[97, 64, 98]⟩ : ByteArray)] from rfl) (Reps.one (show Kd.M Kd.string _ _ _ (⟨#[51, 32, 49, 32, 50]⟩ : ByteArray) [.string (⟨#[51, 32, 49, 32, 50]⟩ : ByteArray)] from rfl) (Reps.none _ _))))))); intro v467 w39 ho40 hb hg_ hnew_; clear hg_ hnew_; replace ho40 := ry_ Ny466.out ho40; have HO468 := Aside0.mk (Kd.R_lower (Kd.R_new' ho40 (Kd.R_lt (kr_ HO462.out))) (keep_size (w := w) (g := g) (row := none) (kb1_ HK.out GW459.out))); replace HO462 := Aside0.mk (Kd.R_elder' (kr_ HO462.out) (Kd.R_base ho40) hb); replace BK459 := Aside0.mk (bb_ (bk_ BK459.out) hb); replace HK := Aside0.mk (KeepBut.trans (kb1_ HK.out GW459.out) (KeepBut.of_below hb g none) (.inl rfl)); replace HB := Aside0.mk (below_step (lb2_ HB.out (IsS74.ge HI0.out) GE459.out) hb); replace HI0 := Aside0.mk (IsS74.below (is74_1 HI0.out NB0_459.out) hb); clear hb ho40; obtain ⟨Ao41, co41, eo41⟩ := Kd.R_slice HO468.out; subst eo41) | ((with_reducible refine gate_callee (f := 73) rfl ?_); refine ga_ (some 9) Tryd.func73 #[.pointer (some ⟨g, 0, none⟩), .slice Ao41 y466.length co41] ?_; (with_reducible refine (spec_l1Cur_of.calls g s0_0 t464 t465 _ _ y466 t469 t470 t471 w0 _ ?side1 ?side2 ?side3 ?side4 ?side5 A3.out).mono ?_); (case side1 => exact is74_1 HI0.out NB0_459.out); (case side2 => exact lb2_ HB.out (IsS74.ge HI0.out) GE459.out); (case side3 => exact kc_ (Kd.R_reads' HO468.out).2.2); (case side4 => exact (Kd.R_reads' HO468.out).2.1); (case side5 => exact far_slice (IsS74.own_ne HI0.out HO468.out (by decide))); rintro e w42 ⟨rfl, hi, hb, hk⟩; refine ⟨_, rfl, ?_⟩; replace BK459 := Aside0.mk (KeepBut.blk hk (g' := gb459) (o := .cells #[.string (⟨#[]⟩ : ByteArray), .string (⟨#[]⟩ : ByteArray)] 27 (0, 0)) (bk_ BK459.out) NB459_0.out (by simp)); replace HO462 := Aside0.mk (Kd.R_mono (Kd.R_keep (IsS74.apart (show IsS74 w0 _ g s0_0 t464 t465 from is74_1 HI0.out NB0_459.out) (kr_ HO462.out) (by decide)) hk (fun _ h => h.2)) (fun _ h => h.1)); replace HO468 := Aside0.mk (Kd.R_mono (Kd.R_keep (IsS74.apart (show IsS74 w0 _ g s0_0 t464 t465 from is74_1 HI0.out NB0_459.out) (kr_ HO468.out) (by decide)) hk (fun _ h => h.2)) (fun _ h => h.1)); replace HK := Aside0.mk (KeepBut.trans (kb1_ HK.out GW459.out) hk (.inl rfl)); replace HB := Aside0.mk (hb); replace HI0 := Aside0.mk (hi); (try clear hb); (try clear hb2); (try clear hk); (try clear hi)) | ((with_reducible refine gate_dst (N := 3) rfl ?_); refine box_event ?hg (N := 3) ?hd (cs := #[.string (⟨#[]⟩ : ByteArray), .string (⟨#[]⟩ : ByteArray)]) (t := 27) ?hr ?_; (case hd => rfl); (case hg => rfl); (case hr => first | (go_simp; done) | (go_simp; rfl)); intro gb472 hg w43 hbox hb; replace HO462 := Aside0.mk (Kd.R_below (kr_ HO462.out) hb); replace HO468 := Aside0.mk (Kd.R_below (kr_ HO468.out) hb); replace HB := Aside0.mk (below_step (lb2_ HB.out (IsS74.ge HI0.out) GE459.out) hb); have BK472 := Aside0.mk (hbox); have GW472 := Aside0.mk ((by rw [hg]; exact (keep_size (w := w) (g := g) (row := none) (kb1_ HK.out GW459.out)) : w.heap.size ≤ gb472)); have GE472 := Aside0.mk ((Nat.le_trans HW0.out (by rw [hg]; exact (keep_size (w := w) (g := g) (row := none) (kb1_ HK.out GW459.out)) : w.heap.size ≤ gb472) : w0.heap.size ≤ gb472)); replace HK := Aside0.mk (KeepBut.trans (kb1_ HK.out GW459.out) (KeepBut.of_below hb g none) (.inl rfl)); have NB459_472 := Aside0.mk ((by rw [hg]; exact Nat.ne_of_lt (blk_lt (g := gb459) (o := .cells #[.string (⟨#[]⟩ : ByteArray), .string (⟨#[]⟩ : ByteArray)] 27 (0, 0)) (bk_ BK459.out)) : gb459 ≠ gb472)); have NB472_459 := Aside0.mk ((by rw [hg]; exact Nat.ne_of_gt (blk_lt (g := gb459) (o := .cells #[.string (⟨#[]⟩ : ByteArray), .string (⟨#[]⟩ : ByteArray)] 27 (0, 0)) (bk_ BK459.out)) : gb472 ≠ gb459)); replace BK459 := Aside0.mk (bb_ (bk_ BK459.out) hb); have NB0_472 := Aside0.mk ((by rw [hg]; exact Nat.ne_of_lt (IsS74.lt (show IsS74 w0 _ g s0_0 t470 t471 from is74_1 HI0.out NB0_459.out)) : g ≠ gb472)); have NB472_0 := Aside0.mk ((by rw [hg]; exact Nat.ne_of_gt (IsS74.lt (show IsS74 w0 _ g s0_0 t470 t471 from is74_1 HI0.out NB0_459.out)) : gb472 ≠ g)); replace HI0 := Aside0.mk (IsS74.below (is74_1 HI0.out NB0_459.out) hb); clear hb hbox hg; have hnb44 := NB472_459.out; have hnc44 := NB459_472.out; have hnb45 := NB472_0.out; have hnc45 := NB0_472.out; obtain ⟨hcz46_0, hcz46_1⟩ := cz2_ BK472.out; obtain ⟨hfz46_0, hfz46_1⟩ := fz2_ BK472.out) | ((with_reducible refine gate_callee (f := 55) rfl ?_); refine ga_ (some 12) Tryd.func55 #[.pointer (some ⟨g, 0, none⟩), .int .i64 24] ?_; (with_reducible refine (spec_l1Cur_pick.calls g s0_0 t470 t471 24 t473 t474 t475 w0 _ ?side1 ?side2 A4.out).mono ?_); (case side1 => exact is74_2 HI0.out NB0_459.out NB0_472.out); (case side2 => exact lb3_ HB.out (IsS74.ge HI0.out) GE459.out GE472.out); rintro e w47 ⟨rfl, hi, hb, hk⟩; refine ⟨_, rfl, ?_⟩; replace BK459 := Aside0.mk (KeepBut.blk hk (g' := gb459) (o := .cells #[.string (⟨#[]⟩ : ByteArray), .string (⟨#[]⟩ : ByteArray)] 27 (0, 0)) (by (with_reducible repeat (first | refine blk_drewN ?_ _ | refine blk_drew ?_ | refine blk_alloc ?_ _)); refine blk_far ?_ NB459_472.out _; (with_reducible repeat (first | refine blk_drewN ?_ _ | refine blk_drew ?_ | refine blk_alloc ?_ _)); refine blk_far ?_ NB459_472.out _; (with_reducible repeat (first | refine blk_drewN ?_ _ | refine blk_drew ?_ | refine blk_alloc ?_ _)); exact BK459.out) NB459_0.out (by simp)); replace HO462 := Aside0.mk (Kd.R_mono (Kd.R_keep (IsS74.apart (show IsS74 w0 _ g s0_0 t470 t471 from is74_2 HI0.out NB0_459.out NB0_472.out) (kg_ HO462.out BK472.out) (by decide)) hk (fun _ h => h.2)) (fun _ h => h.1)); replace HO468 := Aside0.mk (Kd.R_mono (Kd.R_keep (IsS74.apart (show IsS74 w0 _ g s0_0 t470 t471 from is74_2 HI0.out NB0_459.out NB0_472.out) (kg_ HO468.out BK472.out) (by decide)) hk (fun _ h => h.2)) (fun _ h => h.1)); replace BK472 := Aside0.mk (KeepBut.blk hk (g' := gb472) (o := .cells #[.string t463, .string t469] 27 (0, 0)) (by (with_reducible repeat (first | refine blk_drewN ?_ _ | refine blk_drew ?_ | refine blk_alloc ?_ _)); refine blk_put (cs := #[.string t463, .string (⟨#[]⟩ : ByteArray)]) ?_ 1 _ rfl; (with_reducible repeat (first | refine blk_drewN ?_ _ | refine blk_drew ?_ | refine blk_alloc ?_ _)); refine blk_put (cs := #[.string (⟨#[]⟩ : ByteArray), .string (⟨#[]⟩ : ByteArray)]) ?_ 0 _ rfl; (with_reducible repeat (first | refine blk_drewN ?_ _ | refine blk_drew ?_ | refine blk_alloc ?_ _)); exact BK472.out) NB472_0.out (by simp)); replace HK := Aside0.mk (KeepBut.trans (kb2_ HK.out GW459.out GW472.out) hk (.inl rfl)); replace HB := Aside0.mk (hb); replace HI0 := Aside0.mk (hi); (try clear hb); (try clear hb2); (try clear hk); (try clear hi)) | ((with_reducible refine gate_dst (N := 24) rfl ?_); refine Kd.R_lit Kd.string _ 9 ?hg (N := 24) ?hd (xs := ([(⟨#[35]⟩ : ByteArray), (⟨#[10]⟩ : ByteArray), (⟨#[127]⟩ : ByteArray)] : List ByteArray)) (inner := [.string (⟨#[35]⟩ : ByteArray), .string (⟨#[10]⟩ : ByteArray), .string (⟨#[127]⟩ : ByteArray)]) (ok := fun _ => True) (okp := fun _ => True) ?hr ?hp (fun _ hk => hk) trivial (Below.refl _ _) (Nat.le_refl _) (by simp) ?_; (case hd => rfl); (case hg => rfl); (case hr => first | (go_simp; done) | (go_simp; rfl)); (case hp => exact (Reps.one (show Kd.M Kd.string _ _ _ (⟨#[35]⟩ : ByteArray) [.string (⟨#[35]⟩ : ByteArray)] from rfl) (Reps.one (show Kd.M Kd.string _ _ _ (⟨#[10]⟩ : ByteArray) [.string (⟨#[10]⟩ : ByteArray)] from rfl) (Reps.one (show Kd.M Kd.string _ _ _ (⟨#[127]⟩ : ByteArray) [.string (⟨#[127]⟩ : ByteArray)] from rfl) (Reps.none _ _))))); intro v486 w48 ho49 hb hg_ hnew_; clear hg_ hnew_; replace ho49 := ry_ Ny485.out ho49; have HO487 := Aside0.mk (Kd.R_lower (Kd.R_new' (Kd.R_new' ho49 (Kd.R_lt (kr_ HO462.out))) (Kd.R_lt (kr_ HO468.out))) (keep_size (w := w) (g := g) (row := none) (kb2_ HK.out GW459.out GW472.out))); replace HO462 := Aside0.mk (Kd.R_elder' (kr_ HO462.out) (Kd.R_base ho49) hb); replace HO468 := Aside0.mk (Kd.R_elder' (kr_ HO468.out) (Kd.R_base ho49) hb); replace BK459 := Aside0.mk (bb_ (bk_ BK459.out) hb); replace BK472 := Aside0.mk (bb_ (bk_ BK472.out) hb); replace HK := Aside0.mk (KeepBut.trans (kb2_ HK.out GW459.out GW472.out) (KeepBut.of_below hb g none) (.inl rfl)); replace HB := Aside0.mk (below_step (lb3_ HB.out (IsS74.ge HI0.out) GE459.out GE472.out) hb); replace HI0 := Aside0.mk (IsS74.below (is74_2 HI0.out NB0_459.out NB0_472.out) hb); clear hb ho49; obtain ⟨Ao50, co50, eo50⟩ := Kd.R_slice HO487.out; subst eo50) | ((with_reducible refine gate_callee (f := 73) rfl ?_); refine ga_ (some 25) Tryd.func73 #[.pointer (some ⟨g, 0, none⟩), .slice Ao50 y485.length co50] ?_; (with_reducible refine (spec_l1Cur_of.calls g s0_0 t474 t475 _ _ y485 t488 t489 t490 w0 _ ?side1 ?side2 ?side3 ?side4 ?side5 A33.out).mono ?_); (case side1 => exact is74_2 HI0.out NB0_459.out NB0_472.out); (case side2 => exact lb3_ HB.out (IsS74.ge HI0.out) GE459.out GE472.out); (case side3 => exact kc_ (Kd.R_reads' HO487.out).2.2); (case side4 => exact (Kd.R_reads' HO487.out).2.1); (case side5 => exact far_slice (IsS74.own_ne HI0.out HO487.out (by decide))); rintro e w51 ⟨rfl, hi, hb, hk⟩; refine ⟨_, rfl, ?_⟩; replace BK459 := Aside0.mk (KeepBut.blk hk (g' := gb459) (o := .cells #[.string (⟨#[]⟩ : ByteArray), .string (⟨#[]⟩ : ByteArray)] 27 (0, 0)) (bk_ BK459.out) NB459_0.out (by simp)); replace HO462 := Aside0.mk (Kd.R_mono (Kd.R_keep (IsS74.apart (show IsS74 w0 _ g s0_0 t474 t475 from is74_2 HI0.out NB0_459.out NB0_472.out) (kr_ HO462.out) (by decide)) hk (fun _ h => h.2)) (fun _ h => h.1)); replace HO468 := Aside0.mk (Kd.R_mono (Kd.R_keep (IsS74.apart (show IsS74 w0 _ g s0_0 t474 t475 from is74_2 HI0.out NB0_459.out NB0_472.out) (kr_ HO468.out) (by decide)) hk (fun _ h => h.2)) (fun _ h => h.1)); replace BK472 := Aside0.mk (KeepBut.blk hk (g' := gb472) (o := .cells #[.string t463, .string t469] 27 (0, 0)) (bk_ BK472.out) NB472_0.out (by simp)); replace HO487 := Aside0.mk (Kd.R_mono (Kd.R_keep (IsS74.apart (show IsS74 w0 _ g s0_0 t474 t475 from is74_2 HI0.out NB0_459.out NB0_472.out) (kr_ HO487.out) (by decide)) hk (fun _ h => h.2)) (fun _ h => h.1)); replace HK := Aside0.mk (KeepBut.trans (kb2_ HK.out GW459.out GW472.out) hk (.inl rfl)); replace HB := Aside0.mk (hb); replace HI0 := Aside0.mk (hi); (try clear hb); (try clear hb2); (try clear hk); (try clear hi); obtain ⟨hcz52_0, hcz52_1⟩ := cz2_ BK472.out; obtain ⟨hfz52_0, hfz52_1⟩ := fz2_ BK472.out; have hnb53 := NB459_0.out; have hnc53 := NB0_459.out; obtain ⟨hcz54_0, hcz54_1⟩ := cz2_ BK459.out; obtain ⟨hfz54_0, hfz54_1⟩ := fz2_ BK459.out))
   refine bodyPost_ret (results_cell_row rfl _ _ gb459 27 #[.string t463, .string t488] (0, 0) _ rfl (by (with_reducible repeat (first | refine blk_drewN ?_ _ | refine blk_drew ?_ | refine blk_alloc ?_ _)); refine blk_put (cs := #[.string t463, .string (⟨#[]⟩ : ByteArray)]) ?_ 1 _ rfl; (with_reducible repeat (first | refine blk_drewN ?_ _ | refine blk_drew ?_ | refine blk_alloc ?_ _)); refine blk_put (cs := #[.string (⟨#[]⟩ : ByteArray), .string (⟨#[]⟩ : ByteArray)]) ?_ 0 _ rfl; (with_reducible repeat (first | refine blk_drewN ?_ _ | refine blk_drew ?_ | refine blk_alloc ?_ _)); refine blk_far ?_ NB459_472.out _; (with_reducible repeat (first | refine blk_drewN ?_ _ | refine blk_drew ?_ | refine blk_alloc ?_ _)); exact BK459.out) Tryd.underlying27 rfl (by kernel_rfl)) rfl ?_
   exact ⟨rr_, is74_2 HI0.out NB0_459.out NB0_472.out, lb3_ HB.out (IsS74.ge HI0.out) GE459.out GE472.out, kb2_ HK.out GW459.out GW472.out⟩
  ·
   rw [if_neg c32] at H
   have c32b0 : (t473 == 1) = false := beq_eq_false_iff_ne.mpr c32
   have c32b1 : (t473 != 1) = true := bne_iff_ne.mpr c32
   simp only [Option.some.injEq, Prod.mk.injEq] at H
   obtain ⟨rfl, rfl, rfl, rfl⟩ := H
   go_enter Tryd.func56, Tryd.ntmps56
   go_wp2_with (first | ((with_reducible refine gate_dst (N := 2) rfl ?_); refine box_event ?hg (N := 2) ?hd (cs := #[.string (⟨#[]⟩ : ByteArray), .string (⟨#[]⟩ : ByteArray)]) (t := 27) ?hr ?_; (case hd => rfl); (case hg => rfl); (case hr => first | (go_simp; done) | (go_simp; rfl)); intro gb459 hg w55 hbox hb; replace HB := Aside0.mk (below_step (lb1_ HB.out (IsS74.ge HI0.out)) hb); have BK459 := Aside0.mk (hbox); have GW459 := Aside0.mk ((by rw [hg]; exact (keep_size (w := w) (g := g) (row := none) (kb0_ HK.out)) : w.heap.size ≤ gb459)); have GE459 := Aside0.mk ((Nat.le_trans HW0.out (by rw [hg]; exact (keep_size (w := w) (g := g) (row := none) (kb0_ HK.out)) : w.heap.size ≤ gb459) : w0.heap.size ≤ gb459)); replace HK := Aside0.mk (KeepBut.trans (kb0_ HK.out) (KeepBut.of_below hb g none) (.inl rfl)); have NB0_459 := Aside0.mk ((by rw [hg]; exact Nat.ne_of_lt (IsS74.lt (show IsS74 w0 _ g s0_0 s0_1 s0_2 from is74_0 HI0.out)) : g ≠ gb459)); have NB459_0 := Aside0.mk ((by rw [hg]; exact Nat.ne_of_gt (IsS74.lt (show IsS74 w0 _ g s0_0 s0_1 s0_2 from is74_0 HI0.out)) : gb459 ≠ g)); replace HI0 := Aside0.mk (IsS74.below (is74_0 HI0.out) hb); clear hb hbox hg) | ((with_reducible refine gate_dst (N := 5) rfl ?_); refine Kd.R_lit Kd.string _ 9 ?hg (N := 5) ?hd (xs := ([(⟨#[99, 111, 117, 110, 116]⟩ : ByteArray), (⟨#[115, 111, 114, 116, 32, 109, 101, 114, 103, 101]⟩ : ByteArray), (⟨#[120]⟩ : ByteArray), (⟨#[115, 101, 108, 101, 99, 116, 32, 50]⟩ : ByteArray), (⟨#[48, 32, 49]⟩ : ByteArray)] : List ByteArray)) (inner := [.string (⟨#[99, 111, 117, 110, 116]⟩ : ByteArray), .string (⟨#[115, 111, 114, 116, 32, 109, 101, 114, 103, 101]⟩ : ByteArray), .string (⟨#[120]⟩ : ByteArray), .string (⟨#[115, 101, 108, 101, 99, 116, 32, 50]⟩ : ByteArray), .string (⟨#[48, 32, 49]⟩ : ByteArray)]) (ok := fun _ => True) (okp := fun _ => True) ?hr ?hp (fun _ hk => hk) trivial (Below.refl _ _) (Nat.le_refl _) (by simp) ?_; (case hd => rfl); (case hg => rfl); (case hr => first | (go_simp; done) | (go_simp; rfl)); (case hp => exact (Reps.one (show Kd.M Kd.string _ _ _ (⟨#[99, 111, 117, 110, 116]⟩ : ByteArray) [.string (⟨#[99, 111, 117, 110, 116]⟩ : ByteArray)] from rfl) (Reps.one (show Kd.M Kd.string _ _ _ (⟨#[115, 111, 114, 116, 32, 109, 101, 114, 103, 101]⟩ : ByteArray) [.string (⟨#[115, 111, 114, 116, 32, 109, 101, 114, 103, 101]⟩ : ByteArray)] from rfl) (Reps.one (show Kd.M Kd.string _ _ _ (⟨#[120]⟩ : ByteArray) [.string (⟨#[120]⟩ : ByteArray)] from rfl) (Reps.one (show Kd.M Kd.string _ _ _ (⟨#[115, 101, 108, 101, 99, 116, 32, 50]⟩ : ByteArray) [.string (⟨#[115, 101, 108, 101, 99, 116, 32, 50]⟩ : ByteArray)] from rfl) (Reps.one (show Kd.M Kd.string _ _ _ (⟨#[48, 32, 49]⟩ : ByteArray) [.string (⟨#[48, 32, 49]⟩ : ByteArray)] from rfl) (Reps.none _ _))))))); intro v461 w56 ho57 hb hg_ hnew_; clear hg_ hnew_; replace ho57 := ry_ Ny460.out ho57; have HO462 := Aside0.mk (Kd.R_lower ho57 (keep_size (w := w) (g := g) (row := none) (kb1_ HK.out GW459.out))); replace BK459 := Aside0.mk (bb_ (bk_ BK459.out) hb); replace HK := Aside0.mk (KeepBut.trans (kb1_ HK.out GW459.out) (KeepBut.of_below hb g none) (.inl rfl)); replace HB := Aside0.mk (below_step (lb2_ HB.out (IsS74.ge HI0.out) GE459.out) hb); replace HI0 := Aside0.mk (IsS74.below (is74_1 HI0.out NB0_459.out) hb); clear hb ho57; obtain ⟨Ao58, co58, eo58⟩ := Kd.R_slice HO462.out; subst eo58) | ((with_reducible refine gate_callee (f := 73) rfl ?_); refine ga_ (some 6) Tryd.func73 #[.pointer (some ⟨g, 0, none⟩), .slice Ao58 y460.length co58] ?_; (with_reducible refine (spec_l1Cur_of.calls g s0_0 s0_1 s0_2 _ _ y460 t463 t464 t465 w0 _ ?side1 ?side2 ?side3 ?side4 ?side5 A2.out).mono ?_); (case side1 => exact is74_1 HI0.out NB0_459.out); (case side2 => exact lb2_ HB.out (IsS74.ge HI0.out) GE459.out); (case side3 => exact kc_ (Kd.R_reads' HO462.out).2.2); (case side4 => exact (Kd.R_reads' HO462.out).2.1); (case side5 => exact far_slice (IsS74.own_ne HI0.out HO462.out (by decide))); rintro e w59 ⟨rfl, hi, hb, hk⟩; refine ⟨_, rfl, ?_⟩; replace BK459 := Aside0.mk (KeepBut.blk hk (g' := gb459) (o := .cells #[.string (⟨#[]⟩ : ByteArray), .string (⟨#[]⟩ : ByteArray)] 27 (0, 0)) (bk_ BK459.out) NB459_0.out (by simp)); replace HO462 := Aside0.mk (Kd.R_mono (Kd.R_keep (IsS74.apart (show IsS74 w0 _ g s0_0 s0_1 s0_2 from is74_1 HI0.out NB0_459.out) (kr_ HO462.out) (by decide)) hk (fun _ h => h.2)) (fun _ h => h.1)); replace HK := Aside0.mk (KeepBut.trans (kb1_ HK.out GW459.out) hk (.inl rfl)); replace HB := Aside0.mk (hb); replace HI0 := Aside0.mk (hi); (try clear hb); (try clear hb2); (try clear hk); (try clear hi)) | ((with_reducible refine gate_dst (N := 8) rfl ?_); refine Kd.R_lit Kd.string _ 9 ?hg (N := 8) ?hd (xs := ([(⟨#[]⟩ : ByteArray), (⟨#[51]⟩ : ByteArray), (⟨#[63]⟩ : ByteArray), (⟨#[97, 64, 98]⟩ : ByteArray), (⟨#[51, 32, 49, 32, 50]⟩ : ByteArray)] : List ByteArray)) (inner := [.string (⟨#[]⟩ : ByteArray), .string (⟨#[51]⟩ : ByteArray), .string (⟨#[63]⟩ : ByteArray), .string (⟨#[97, 64, 98]⟩ : ByteArray), .string (⟨#[51, 32, 49, 32, 50]⟩ : ByteArray)]) (ok := fun _ => True) (okp := fun _ => True) ?hr ?hp (fun _ hk => hk) trivial (Below.refl _ _) (Nat.le_refl _) (by simp) ?_; (case hd => rfl); (case hg => rfl); (case hr => first | (go_simp; done) | (go_simp; rfl)); (case hp => exact (Reps.one (show Kd.M Kd.string _ _ _ (⟨#[]⟩ : ByteArray) [.string (⟨#[]⟩ : ByteArray)] from rfl) (Reps.one (show Kd.M Kd.string _ _ _ (⟨#[51]⟩ : ByteArray) [.string (⟨#[51]⟩ : ByteArray)] from rfl) (Reps.one (show Kd.M Kd.string _ _ _ (⟨#[63]⟩ : ByteArray) [.string (⟨#[63]⟩ : ByteArray)] from rfl) (Reps.one (show Kd.M Kd.string _ _ _ (⟨#[97, 64, 98]⟩ : ByteArray) [.string (⟨#[97, 64, 98]⟩ : ByteArray)] from rfl) (Reps.one (show Kd.M Kd.string _ _ _ (⟨#[51, 32, 49, 32, 50]⟩ : ByteArray) [.string (⟨#[51, 32, 49, 32, 50]⟩ : ByteArray)] from rfl) (Reps.none _ _))))))); intro v467 w60 ho61 hb hg_ hnew_; clear hg_ hnew_; replace ho61 := ry_ Ny466.out ho61; have HO468 := Aside0.mk (Kd.R_lower (Kd.R_new' ho61 (Kd.R_lt (kr_ HO462.out))) (keep_size (w := w) (g := g) (row := none) (kb1_ HK.out GW459.out))); replace HO462 := Aside0.mk (Kd.R_elder' (kr_ HO462.out) (Kd.R_base ho61) hb); replace BK459 := Aside0.mk (bb_ (bk_ BK459.out) hb); replace HK := Aside0.mk (KeepBut.trans (kb1_ HK.out GW459.out) (KeepBut.of_below hb g none) (.inl rfl)); replace HB := Aside0.mk (below_step (lb2_ HB.out (IsS74.ge HI0.out) GE459.out) hb); replace HI0 := Aside0.mk (IsS74.below (is74_1 HI0.out NB0_459.out) hb); clear hb ho61; obtain ⟨Ao62, co62, eo62⟩ := Kd.R_slice HO468.out; subst eo62) | ((with_reducible refine gate_callee (f := 73) rfl ?_); refine ga_ (some 9) Tryd.func73 #[.pointer (some ⟨g, 0, none⟩), .slice Ao62 y466.length co62] ?_; (with_reducible refine (spec_l1Cur_of.calls g s0_0 t464 t465 _ _ y466 t469 t470 t471 w0 _ ?side1 ?side2 ?side3 ?side4 ?side5 A3.out).mono ?_); (case side1 => exact is74_1 HI0.out NB0_459.out); (case side2 => exact lb2_ HB.out (IsS74.ge HI0.out) GE459.out); (case side3 => exact kc_ (Kd.R_reads' HO468.out).2.2); (case side4 => exact (Kd.R_reads' HO468.out).2.1); (case side5 => exact far_slice (IsS74.own_ne HI0.out HO468.out (by decide))); rintro e w63 ⟨rfl, hi, hb, hk⟩; refine ⟨_, rfl, ?_⟩; replace BK459 := Aside0.mk (KeepBut.blk hk (g' := gb459) (o := .cells #[.string (⟨#[]⟩ : ByteArray), .string (⟨#[]⟩ : ByteArray)] 27 (0, 0)) (bk_ BK459.out) NB459_0.out (by simp)); replace HO462 := Aside0.mk (Kd.R_mono (Kd.R_keep (IsS74.apart (show IsS74 w0 _ g s0_0 t464 t465 from is74_1 HI0.out NB0_459.out) (kr_ HO462.out) (by decide)) hk (fun _ h => h.2)) (fun _ h => h.1)); replace HO468 := Aside0.mk (Kd.R_mono (Kd.R_keep (IsS74.apart (show IsS74 w0 _ g s0_0 t464 t465 from is74_1 HI0.out NB0_459.out) (kr_ HO468.out) (by decide)) hk (fun _ h => h.2)) (fun _ h => h.1)); replace HK := Aside0.mk (KeepBut.trans (kb1_ HK.out GW459.out) hk (.inl rfl)); replace HB := Aside0.mk (hb); replace HI0 := Aside0.mk (hi); (try clear hb); (try clear hb2); (try clear hk); (try clear hi)) | ((with_reducible refine gate_dst (N := 3) rfl ?_); refine box_event ?hg (N := 3) ?hd (cs := #[.string (⟨#[]⟩ : ByteArray), .string (⟨#[]⟩ : ByteArray)]) (t := 27) ?hr ?_; (case hd => rfl); (case hg => rfl); (case hr => first | (go_simp; done) | (go_simp; rfl)); intro gb472 hg w64 hbox hb; replace HO462 := Aside0.mk (Kd.R_below (kr_ HO462.out) hb); replace HO468 := Aside0.mk (Kd.R_below (kr_ HO468.out) hb); replace HB := Aside0.mk (below_step (lb2_ HB.out (IsS74.ge HI0.out) GE459.out) hb); have BK472 := Aside0.mk (hbox); have GW472 := Aside0.mk ((by rw [hg]; exact (keep_size (w := w) (g := g) (row := none) (kb1_ HK.out GW459.out)) : w.heap.size ≤ gb472)); have GE472 := Aside0.mk ((Nat.le_trans HW0.out (by rw [hg]; exact (keep_size (w := w) (g := g) (row := none) (kb1_ HK.out GW459.out)) : w.heap.size ≤ gb472) : w0.heap.size ≤ gb472)); replace HK := Aside0.mk (KeepBut.trans (kb1_ HK.out GW459.out) (KeepBut.of_below hb g none) (.inl rfl)); have NB459_472 := Aside0.mk ((by rw [hg]; exact Nat.ne_of_lt (blk_lt (g := gb459) (o := .cells #[.string (⟨#[]⟩ : ByteArray), .string (⟨#[]⟩ : ByteArray)] 27 (0, 0)) (bk_ BK459.out)) : gb459 ≠ gb472)); have NB472_459 := Aside0.mk ((by rw [hg]; exact Nat.ne_of_gt (blk_lt (g := gb459) (o := .cells #[.string (⟨#[]⟩ : ByteArray), .string (⟨#[]⟩ : ByteArray)] 27 (0, 0)) (bk_ BK459.out)) : gb472 ≠ gb459)); replace BK459 := Aside0.mk (bb_ (bk_ BK459.out) hb); have NB0_472 := Aside0.mk ((by rw [hg]; exact Nat.ne_of_lt (IsS74.lt (show IsS74 w0 _ g s0_0 t470 t471 from is74_1 HI0.out NB0_459.out)) : g ≠ gb472)); have NB472_0 := Aside0.mk ((by rw [hg]; exact Nat.ne_of_gt (IsS74.lt (show IsS74 w0 _ g s0_0 t470 t471 from is74_1 HI0.out NB0_459.out)) : gb472 ≠ g)); replace HI0 := Aside0.mk (IsS74.below (is74_1 HI0.out NB0_459.out) hb); clear hb hbox hg; have hnb65 := NB472_459.out; have hnc65 := NB459_472.out; have hnb66 := NB472_0.out; have hnc66 := NB0_472.out; obtain ⟨hcz67_0, hcz67_1⟩ := cz2_ BK472.out; obtain ⟨hfz67_0, hfz67_1⟩ := fz2_ BK472.out) | ((with_reducible refine gate_callee (f := 55) rfl ?_); refine ga_ (some 12) Tryd.func55 #[.pointer (some ⟨g, 0, none⟩), .int .i64 24] ?_; (with_reducible refine (spec_l1Cur_pick.calls g s0_0 t470 t471 24 t473 t474 t475 w0 _ ?side1 ?side2 A4.out).mono ?_); (case side1 => exact is74_2 HI0.out NB0_459.out NB0_472.out); (case side2 => exact lb3_ HB.out (IsS74.ge HI0.out) GE459.out GE472.out); rintro e w68 ⟨rfl, hi, hb, hk⟩; refine ⟨_, rfl, ?_⟩; replace BK459 := Aside0.mk (KeepBut.blk hk (g' := gb459) (o := .cells #[.string (⟨#[]⟩ : ByteArray), .string (⟨#[]⟩ : ByteArray)] 27 (0, 0)) (by (with_reducible repeat (first | refine blk_drewN ?_ _ | refine blk_drew ?_ | refine blk_alloc ?_ _)); refine blk_far ?_ NB459_472.out _; (with_reducible repeat (first | refine blk_drewN ?_ _ | refine blk_drew ?_ | refine blk_alloc ?_ _)); refine blk_far ?_ NB459_472.out _; (with_reducible repeat (first | refine blk_drewN ?_ _ | refine blk_drew ?_ | refine blk_alloc ?_ _)); exact BK459.out) NB459_0.out (by simp)); replace HO462 := Aside0.mk (Kd.R_mono (Kd.R_keep (IsS74.apart (show IsS74 w0 _ g s0_0 t470 t471 from is74_2 HI0.out NB0_459.out NB0_472.out) (kg_ HO462.out BK472.out) (by decide)) hk (fun _ h => h.2)) (fun _ h => h.1)); replace HO468 := Aside0.mk (Kd.R_mono (Kd.R_keep (IsS74.apart (show IsS74 w0 _ g s0_0 t470 t471 from is74_2 HI0.out NB0_459.out NB0_472.out) (kg_ HO468.out BK472.out) (by decide)) hk (fun _ h => h.2)) (fun _ h => h.1)); replace BK472 := Aside0.mk (KeepBut.blk hk (g' := gb472) (o := .cells #[.string t463, .string t469] 27 (0, 0)) (by (with_reducible repeat (first | refine blk_drewN ?_ _ | refine blk_drew ?_ | refine blk_alloc ?_ _)); refine blk_put (cs := #[.string t463, .string (⟨#[]⟩ : ByteArray)]) ?_ 1 _ rfl; (with_reducible repeat (first | refine blk_drewN ?_ _ | refine blk_drew ?_ | refine blk_alloc ?_ _)); refine blk_put (cs := #[.string (⟨#[]⟩ : ByteArray), .string (⟨#[]⟩ : ByteArray)]) ?_ 0 _ rfl; (with_reducible repeat (first | refine blk_drewN ?_ _ | refine blk_drew ?_ | refine blk_alloc ?_ _)); exact BK472.out) NB472_0.out (by simp)); replace HK := Aside0.mk (KeepBut.trans (kb2_ HK.out GW459.out GW472.out) hk (.inl rfl)); replace HB := Aside0.mk (hb); replace HI0 := Aside0.mk (hi); (try clear hb); (try clear hb2); (try clear hk); (try clear hi); obtain ⟨hcz69_0, hcz69_1⟩ := cz2_ BK472.out; obtain ⟨hfz69_0, hfz69_1⟩ := fz2_ BK472.out; have hnb70 := NB459_0.out; have hnc70 := NB0_459.out; obtain ⟨hcz71_0, hcz71_1⟩ := cz2_ BK459.out; obtain ⟨hfz71_0, hfz71_1⟩ := fz2_ BK459.out))
   refine bodyPost_ret (results_cell_row rfl _ _ gb459 27 #[.string t463, .string t469] (0, 0) _ rfl (by (with_reducible repeat (first | refine blk_drewN ?_ _ | refine blk_drew ?_ | refine blk_alloc ?_ _)); refine blk_put (cs := #[.string t463, .string (⟨#[]⟩ : ByteArray)]) ?_ 1 _ rfl; (with_reducible repeat (first | refine blk_drewN ?_ _ | refine blk_drew ?_ | refine blk_alloc ?_ _)); refine blk_put (cs := #[.string (⟨#[]⟩ : ByteArray), .string (⟨#[]⟩ : ByteArray)]) ?_ 0 _ rfl; (with_reducible repeat (first | refine blk_drewN ?_ _ | refine blk_drew ?_ | refine blk_alloc ?_ _)); exact BK459.out) Tryd.underlying27 rfl (by kernel_rfl)) rfl ?_
   exact ⟨rr_, is74_2 HI0.out NB0_459.out NB0_472.out, lb3_ HB.out (IsS74.ge HI0.out) GE459.out GE472.out, kb2_ HK.out GW459.out GW472.out⟩
end Go.Proofs.YtdpinnhgkocjhaaDoor.Pr

namespace Go.Proofs.YtdpinnhgkocjhaaDoor.Pr
open Go.RowKit Go.Proofs.YtdpinnhgkocjhaaDoorW.PrintWords Go.Proofs.YtdpinnhgkocjhaaDoorW.PrintLast Go.Proofs.YtdpinnhgkocjhaaDoorW.PrintMore
attribute [local go_sem] max2_int min2_int max_two min_two max_three min_three max_four min_four sc_in sx_in   -- for this text's walks alone
set_option linter.unusedVariables false
set_option linter.unusedSimpArgs false
def spec_SyncLog.f (k : Nat) (a0_0 : ByteArray) (a0_1 : ByteArray) (a0_2 : Int) : Option (ByteArray × ByteArray × Int × Bool) := (spec_l27Log.f k a0_0 a0_1 a0_2).bind fun t326 => (if t326 = true then (if a0_0.size + a0_1.size ≤ 9223372036854775807 then (some (sc a0_0 a0_1, (⟨#[]⟩ : ByteArray), a0_2, true)) else (none)) else (some ((⟨#[]⟩ : ByteArray), (⟨#[]⟩ : ByteArray), 0, false)))
set_option maxHeartbeats 8000000 in
set_option maxRecDepth 100000 in
theorem spec_SyncLog.calls (k : Nat) (a0_0 : ByteArray) (a0_1 : ByteArray) (a0_2 : Int) (r1 : ByteArray) (r2 : ByteArray) (r3 : Int) (r4 : Bool) (w : World) (h : spec_SyncLog.f k a0_0 a0_1 a0_2 = some (r1, r2, r3, r4)) :
  Calls Tryd.prog 26 #[.agg #[.string a0_0, .string a0_1, .int .i64 a0_2]] w fun e w' => e = .returned (.tuple #[.agg #[.string r1, .string r2, .int .i64 r3], .bool r4]) ∧ Below w.heap.size w w' := by
 have hu31 := Tryd.underlying31
 have HB := Aside0.mk (Below.refl w.heap.size w)
 have H : ((spec_l27Log.f k a0_0 a0_1 a0_2).bind fun t326 => (if t326 = true then (if a0_0.size + a0_1.size ≤ 9223372036854775807 then (some (sc a0_0 a0_1, (⟨#[]⟩ : ByteArray), a0_2, true)) else (none)) else (some ((⟨#[]⟩ : ByteArray), (⟨#[]⟩ : ByteArray), 0, false)))) = some (r1, r2, r3, r4) := h
 clear h
 replace H := Option.bind_eq_some_iff.mp H
 obtain ⟨t326, A20, H⟩ := H
 replace H : (if t326 = true then (if a0_0.size + a0_1.size ≤ 9223372036854775807 then (some (sc a0_0 a0_1, (⟨#[]⟩ : ByteArray), a0_2, true)) else (none)) else (some ((⟨#[]⟩ : ByteArray), (⟨#[]⟩ : ByteArray), 0, false))) = some (r1, r2, r3, r4) := H
 have A2 := Aside0.mk A20
 clear A20
 by_cases c3 : t326 = true
 ·
  subst c3
  have H1 : (if a0_0.size + a0_1.size ≤ 9223372036854775807 then (some (sc a0_0 a0_1, (⟨#[]⟩ : ByteArray), a0_2, true)) else (none)) = some (r1, r2, r3, r4) := by rw [if_pos rfl] at H; exact H
  clear H
  have H := H1
  clear H1
  by_cases c4 : a0_0.size + a0_1.size ≤ 9223372036854775807
  ·
   rw [if_pos c4] at H
   have c4b0 := eq_true c4
   have c4b1 : decide (a0_0.size + a0_1.size ≤ 9223372036854775807) = true := decide_eq_true c4
   try have c4b2 : (9223372036854775807 < a0_0.size + a0_1.size) = False := eq_false (Nat.not_lt.2 c4)
   simp only [Option.some.injEq, Prod.mk.injEq] at H
   obtain ⟨rfl, rfl, rfl, rfl⟩ := H
   go_enter Tryd.func26, Tryd.ntmps26
   go_wp2_with (first | ((with_reducible refine gate_dst (N := 1) rfl ?_); refine box_event ?hg (N := 1) ?hd (cs := #[.string a0_0, .string a0_1, .int .i64 a0_2]) (t := 31) ?hr ?_; (case hd => rfl); (case hg => rfl); (case hr => first | (go_simp; done) | (go_simp; rfl)); intro gb324 hg w5 hbox hb; have BK324 := Aside0.mk (hbox); have GW324 := Aside0.mk ((bz_ hg (lb0_ HB.out))); have GE324 := Aside0.mk ((bz_ hg (lb0_ HB.out))); replace HB := Aside0.mk (below_step (lb0_ HB.out) hb); clear hb hbox hg) | ((with_reducible refine gate_dst (N := 2) rfl ?_); refine box_event ?hg (N := 2) ?hd (cs := #[.string (⟨#[]⟩ : ByteArray), .string (⟨#[]⟩ : ByteArray), .int .i64 0]) (t := 31) ?hr ?_; (case hd => rfl); (case hg => rfl); (case hr => first | (go_simp; done) | (go_simp; rfl)); intro gb325 hg w6 hbox hb; have BK325 := Aside0.mk (hbox); have GW325 := Aside0.mk ((bz_ hg (lb1_ HB.out GE324.out))); have GE325 := Aside0.mk ((bz_ hg (lb1_ HB.out GE324.out))); replace HB := Aside0.mk (below_step (lb1_ HB.out GE324.out) hb); have NB324_325 := Aside0.mk ((by rw [hg]; exact Nat.ne_of_lt (blk_lt (g := gb324) (o := .cells #[.string a0_0, .string a0_1, .int .i64 a0_2] 31 (0, 0)) (bk_ BK324.out)) : gb324 ≠ gb325)); have NB325_324 := Aside0.mk ((by rw [hg]; exact Nat.ne_of_gt (blk_lt (g := gb324) (o := .cells #[.string a0_0, .string a0_1, .int .i64 a0_2] 31 (0, 0)) (bk_ BK324.out)) : gb325 ≠ gb324)); replace BK324 := Aside0.mk (bb_ (bk_ BK324.out) hb); clear hb hbox hg; have hnb7 := NB324_325.out; have hnc7 := NB325_324.out; obtain ⟨hcz8_0, hcz8_1, hcz8_2⟩ := cz3_ BK324.out; obtain ⟨hfz8_0, hfz8_1, hfz8_2⟩ := fz3_ BK324.out) | ((with_reducible refine gate_callee (f := 49) rfl ?_); refine ga_ (some 5) Tryd.func49 #[.agg #[.string a0_0, .string a0_1, .int .i64 a0_2]] ?_; (with_reducible refine (spec_l27Log.calls k a0_0 a0_1 a0_2 true _ A2.out).mono ?_); rintro e w9 ⟨rfl, hb⟩; refine ⟨_, rfl, ?_⟩; replace BK324 := Aside0.mk (bb_ (bk_ BK324.out) hb); replace BK325 := Aside0.mk (bb_ (bk_ BK325.out) hb); replace HB := Aside0.mk (below_step (lb2_ HB.out GE324.out GE325.out) hb); (try clear hb); (try clear hb2); (try clear hk); (try clear hi); obtain ⟨hcz10_0, hcz10_1, hcz10_2⟩ := cz3_ BK324.out; obtain ⟨hfz10_0, hfz10_1, hfz10_2⟩ := fz3_ BK324.out; obtain ⟨hcz11_0, hcz11_1, hcz11_2⟩ := cz3_ BK325.out; obtain ⟨hfz11_0, hfz11_1, hfz11_2⟩ := fz3_ BK325.out))
   refine bodyPost_ret (results_ct rfl _ _ gb325 31 #[.string (sc a0_0 a0_1), .string (⟨#[]⟩ : ByteArray), .int .i64 a0_2] (0, 0) _ rfl (by (with_reducible repeat (first | refine blk_drewN ?_ _ | refine blk_drew ?_ | refine blk_alloc ?_ _)); refine blk_put (cs := #[.string (sc a0_0 a0_1), .string (⟨#[]⟩ : ByteArray), .int .i64 0]) ?_ 2 _ rfl; (with_reducible repeat (first | refine blk_drewN ?_ _ | refine blk_drew ?_ | refine blk_alloc ?_ _)); refine blk_put (cs := #[.string (sc a0_0 a0_1), .string (⟨#[]⟩ : ByteArray), .int .i64 0]) ?_ 1 _ rfl; (with_reducible repeat (first | refine blk_drewN ?_ _ | refine blk_drew ?_ | refine blk_alloc ?_ _)); refine blk_put (cs := #[.string (⟨#[]⟩ : ByteArray), .string (⟨#[]⟩ : ByteArray), .int .i64 0]) ?_ 0 _ rfl; (with_reducible repeat (first | refine blk_drewN ?_ _ | refine blk_drew ?_ | refine blk_alloc ?_ _)); exact BK325.out) Tryd.underlying31 rfl (by kernel_rfl)) rfl ?_
   exact ⟨rr_, lb2_ HB.out GE324.out GE325.out⟩
  ·
   rw [if_neg c4] at H
   exact absurd H (by simp)
 ·
  replace c3 := Bool.eq_false_iff.mpr c3
  subst c3
  have H1 : (some ((⟨#[]⟩ : ByteArray), (⟨#[]⟩ : ByteArray), 0, false)) = some (r1, r2, r3, r4) := by rw [if_neg (show ¬ (false = true) by decide)] at H; exact H
  clear H
  have H := H1
  clear H1
  simp only [Option.some.injEq, Prod.mk.injEq] at H
  obtain ⟨rfl, rfl, rfl, rfl⟩ := H
  go_enter Tryd.func26, Tryd.ntmps26
  go_wp2_with (first | ((with_reducible refine gate_dst (N := 1) rfl ?_); refine box_event ?hg (N := 1) ?hd (cs := #[.string a0_0, .string a0_1, .int .i64 a0_2]) (t := 31) ?hr ?_; (case hd => rfl); (case hg => rfl); (case hr => first | (go_simp; done) | (go_simp; rfl)); intro gb324 hg w12 hbox hb; have BK324 := Aside0.mk (hbox); have GW324 := Aside0.mk ((bz_ hg (lb0_ HB.out))); have GE324 := Aside0.mk ((bz_ hg (lb0_ HB.out))); replace HB := Aside0.mk (below_step (lb0_ HB.out) hb); clear hb hbox hg) | ((with_reducible refine gate_dst (N := 2) rfl ?_); refine box_event ?hg (N := 2) ?hd (cs := #[.string (⟨#[]⟩ : ByteArray), .string (⟨#[]⟩ : ByteArray), .int .i64 0]) (t := 31) ?hr ?_; (case hd => rfl); (case hg => rfl); (case hr => first | (go_simp; done) | (go_simp; rfl)); intro gb325 hg w13 hbox hb; have BK325 := Aside0.mk (hbox); have GW325 := Aside0.mk ((bz_ hg (lb1_ HB.out GE324.out))); have GE325 := Aside0.mk ((bz_ hg (lb1_ HB.out GE324.out))); replace HB := Aside0.mk (below_step (lb1_ HB.out GE324.out) hb); have NB324_325 := Aside0.mk ((by rw [hg]; exact Nat.ne_of_lt (blk_lt (g := gb324) (o := .cells #[.string a0_0, .string a0_1, .int .i64 a0_2] 31 (0, 0)) (bk_ BK324.out)) : gb324 ≠ gb325)); have NB325_324 := Aside0.mk ((by rw [hg]; exact Nat.ne_of_gt (blk_lt (g := gb324) (o := .cells #[.string a0_0, .string a0_1, .int .i64 a0_2] 31 (0, 0)) (bk_ BK324.out)) : gb325 ≠ gb324)); replace BK324 := Aside0.mk (bb_ (bk_ BK324.out) hb); clear hb hbox hg; have hnb14 := NB324_325.out; have hnc14 := NB325_324.out; obtain ⟨hcz15_0, hcz15_1, hcz15_2⟩ := cz3_ BK324.out; obtain ⟨hfz15_0, hfz15_1, hfz15_2⟩ := fz3_ BK324.out) | ((with_reducible refine gate_callee (f := 49) rfl ?_); refine ga_ (some 5) Tryd.func49 #[.agg #[.string a0_0, .string a0_1, .int .i64 a0_2]] ?_; (with_reducible refine (spec_l27Log.calls k a0_0 a0_1 a0_2 false _ A2.out).mono ?_); rintro e w16 ⟨rfl, hb⟩; refine ⟨_, rfl, ?_⟩; replace BK324 := Aside0.mk (bb_ (bk_ BK324.out) hb); replace BK325 := Aside0.mk (bb_ (bk_ BK325.out) hb); replace HB := Aside0.mk (below_step (lb2_ HB.out GE324.out GE325.out) hb); (try clear hb); (try clear hb2); (try clear hk); (try clear hi); obtain ⟨hcz17_0, hcz17_1, hcz17_2⟩ := cz3_ BK325.out; obtain ⟨hfz17_0, hfz17_1, hfz17_2⟩ := fz3_ BK325.out))
  refine bodyPost_ret (results_ct rfl _ _ gb325 31 #[.string (⟨#[]⟩ : ByteArray), .string (⟨#[]⟩ : ByteArray), .int .i64 0] (0, 0) _ rfl (by (with_reducible repeat (first | refine blk_drewN ?_ _ | refine blk_drew ?_ | refine blk_alloc ?_ _)); refine blk_put (cs := #[.string (⟨#[]⟩ : ByteArray), .string (⟨#[]⟩ : ByteArray), .int .i64 0]) ?_ 2 _ rfl; (with_reducible repeat (first | refine blk_drewN ?_ _ | refine blk_drew ?_ | refine blk_alloc ?_ _)); refine blk_put (cs := #[.string (⟨#[]⟩ : ByteArray), .string (⟨#[]⟩ : ByteArray), .int .i64 0]) ?_ 1 _ rfl; (with_reducible repeat (first | refine blk_drewN ?_ _ | refine blk_drew ?_ | refine blk_alloc ?_ _)); refine blk_put (cs := #[.string (⟨#[]⟩ : ByteArray), .string (⟨#[]⟩ : ByteArray), .int .i64 0]) ?_ 0 _ rfl; (with_reducible repeat (first | refine blk_drewN ?_ _ | refine blk_drew ?_ | refine blk_alloc ?_ _)); exact BK325.out) Tryd.underlying31 rfl (by kernel_rfl)) rfl ?_
  exact ⟨rr_, lb2_ HB.out GE324.out GE325.out⟩
end Go.Proofs.YtdpinnhgkocjhaaDoor.Pr

namespace Go.Proofs.YtdpinnhgkocjhaaDoor.Pr
open Go.RowKit Go.Proofs.YtdpinnhgkocjhaaDoorW.PrintWords Go.Proofs.YtdpinnhgkocjhaaDoorW.PrintLast Go.Proofs.YtdpinnhgkocjhaaDoorW.PrintMore
attribute [local go_sem] max2_int min2_int max_two min_two max_three min_three max_four min_four   -- for this text's walks alone
set_option linter.unusedVariables false
set_option linter.unusedSimpArgs false
def spec_l1Cur_log.l0 : Nat → Int → List Int → Int → Int → ByteArray → ByteArray → Int → Option (ByteArray × ByteArray × Int × Int × Int)
 | 0, _, _, _, _, _, _, _ => none
 | k + 1, x4, x1000, x1001, x1002, x493000, x493001, x493002 => if x4 > 0 then ((spec_l1Cur_logRecord.f x1000 x1001 x1002).bind fun bt496 => ((spec_AppendRecord.f k x493000 x493001 x493002 bt496.1 bt496.2.1).bind fun bt500 => ((spec_l1Cur_one.f x1000 bt496.2.2.1 bt496.2.2.2 4).bind fun bt504 => (if bt504.1 = true then ((spec_SyncLog.f k bt500.1 bt500.2.1 bt500.2.2.1).bind fun bt507 => (spec_l1Cur_log.l0 k (wrap64 (x4 - 1)) x1000 bt504.2.1 bt504.2.2 bt507.1 bt507.2.1 bt507.2.2.1)) else (spec_l1Cur_log.l0 k (wrap64 (x4 - 1)) x1000 bt504.2.1 bt504.2.2 bt500.1 bt500.2.1 bt500.2.2.1))))) else (some (x493000, x493001, x493002, x1001, x1002))
def spec_l1Cur_log.f (k : Nat) (s0_0 : List Int) (s0_1 : Int) (s0_2 : Int) : Option (ByteArray × ByteArray × Int × Int × Int) := (spec_l1Cur_pick.f s0_0 s0_1 s0_2 7).bind fun bt493 => (spec_l1Cur_log.l0 k bt493.1 s0_0 bt493.2.1 bt493.2.2 (⟨#[]⟩ : ByteArray) (⟨#[]⟩ : ByteArray) 0)
def spec_l1Cur_log.T5 : Bool × List (List Nat × List Nat) := (true, [([], []), ([], []), ([1], [1]), ([0, 2, 2], [0, 2]), ([3], [3]), ([4], [4]), ([4], [4]), ([5, 3, 0, 1, 2, 3, 4, 5], [5])])
def spec_l1Cur_log.B5 : List Nat := [0, 0, 2, 7, 15, 31, 31, 63]
theorem spec_l1Cur_log.tab5 : rtab .any (opsOf Tryd.f60 5) = spec_l1Cur_log.T5 := by kernel_rfl
theorem spec_l1Cur_log.bits5 : waitsOk spec_l1Cur_log.T5.2 spec_l1Cur_log.B5 = true := by kernel_rfl
set_option maxHeartbeats 8000000 in
set_option maxRecDepth 100000 in
theorem spec_l1Cur_log.calls (k : Nat) (g : Nat) (s0_0 : List Int) (s0_1 : Int) (s0_2 : Int) (r1 : ByteArray) (r2 : ByteArray) (r3 : Int) (r4 : Int) (r5 : Int) (w0 w : World) (hI : IsS74 w0 w g s0_0 s0_1 s0_2) (hB : Below w0.heap.size w0 w) (h : spec_l1Cur_log.f k s0_0 s0_1 s0_2 = some (r1, r2, r3, r4, r5)) :
  Calls Tryd.prog 60 #[.pointer (some ⟨g, 0, none⟩)] w fun e w' => e = .returned (.agg #[.string r1, .string r2, .int .i64 r3]) ∧ IsS74 w0 w' g s0_0 r4 r5 ∧ Below w0.heap.size w0 w' ∧ KeepBut w w' g none := by
 have hu31 := Tryd.underlying31
 have HI0 := Aside0.mk hI
 have HK := Aside0.mk (KeepBut.refl w g none)
 have HL := Aside0.mk hB.size
 clear hI
 have HW0 := Aside0.mk hB.size
 have HB := Aside0.mk hB
 clear hB
 have H : ((spec_l1Cur_pick.f s0_0 s0_1 s0_2 7).bind fun bt493 => (spec_l1Cur_log.l0 k bt493.1 s0_0 bt493.2.1 bt493.2.2 (⟨#[]⟩ : ByteArray) (⟨#[]⟩ : ByteArray) 0)) = some (r1, r2, r3, r4, r5) := h
 clear h
 replace H := Option.bind_eq_some_iff.mp H
 obtain ⟨⟨t493, t494, t495⟩, A20, H⟩ := H
 replace H : (spec_l1Cur_log.l0 k t493 s0_0 t494 t495 (⟨#[]⟩ : ByteArray) (⟨#[]⟩ : ByteArray) 0) = some (r1, r2, r3, r4, r5) := H
 have A2 := Aside0.mk A20
 clear A20
 have H' := Aside0.mk H
 clear H
 go_enter Tryd.func60, Tryd.ntmps60
 go_wp2_with (first | ((with_reducible refine gate_dst (N := 2) rfl ?_); refine box_event ?hg (N := 2) ?hd (cs := #[.string (⟨#[]⟩ : ByteArray), .string (⟨#[]⟩ : ByteArray), .int .i64 0]) (t := 31) ?hr ?_; (case hd => rfl); (case hg => rfl); (case hr => first | (go_simp; done) | (go_simp; rfl)); intro gb491 hg w3 hbox hb; replace HB := Aside0.mk (below_step (lb1_ HB.out (IsS74.ge HI0.out)) hb); have BK491 := Aside0.mk (hbox); have GW491 := Aside0.mk ((by rw [hg]; exact (keep_size (w := w) (g := g) (row := none) (kb0_ HK.out)) : w.heap.size ≤ gb491)); have GE491 := Aside0.mk ((Nat.le_trans HW0.out (by rw [hg]; exact (keep_size (w := w) (g := g) (row := none) (kb0_ HK.out)) : w.heap.size ≤ gb491) : w0.heap.size ≤ gb491)); replace HK := Aside0.mk (KeepBut.trans (kb0_ HK.out) (KeepBut.of_below hb g none) (.inl rfl)); have NB0_491 := Aside0.mk ((by rw [hg]; exact Nat.ne_of_lt (IsS74.lt (show IsS74 w0 _ g s0_0 s0_1 s0_2 from is74_0 HI0.out)) : g ≠ gb491)); have NB491_0 := Aside0.mk ((by rw [hg]; exact Nat.ne_of_gt (IsS74.lt (show IsS74 w0 _ g s0_0 s0_1 s0_2 from is74_0 HI0.out)) : gb491 ≠ g)); replace HI0 := Aside0.mk (IsS74.below (is74_0 HI0.out) hb); clear hb hbox hg) | ((with_reducible refine gate_dst (N := 3) rfl ?_); refine box_event ?hg (N := 3) ?hd (cs := #[.string (⟨#[]⟩ : ByteArray), .string (⟨#[]⟩ : ByteArray), .int .i64 0]) (t := 31) ?hr ?_; (case hd => rfl); (case hg => rfl); (case hr => first | (go_simp; done) | (go_simp; rfl)); intro gb492 hg w4 hbox hb; replace HB := Aside0.mk (below_step (lb2_ HB.out (IsS74.ge HI0.out) GE491.out) hb); have BK492 := Aside0.mk (hbox); have GW492 := Aside0.mk ((by rw [hg]; exact (keep_size (w := w) (g := g) (row := none) (kb1_ HK.out GW491.out)) : w.heap.size ≤ gb492)); have GE492 := Aside0.mk ((Nat.le_trans HW0.out (by rw [hg]; exact (keep_size (w := w) (g := g) (row := none) (kb1_ HK.out GW491.out)) : w.heap.size ≤ gb492) : w0.heap.size ≤ gb492)); replace HK := Aside0.mk (KeepBut.trans (kb1_ HK.out GW491.out) (KeepBut.of_below hb g none) (.inl rfl)); have NB491_492 := Aside0.mk ((by rw [hg]; exact Nat.ne_of_lt (blk_lt (g := gb491) (o := .cells #[.string (⟨#[]⟩ : ByteArray), .string (⟨#[]⟩ : ByteArray), .int .i64 0] 31 (0, 0)) (bk_ BK491.out)) : gb491 ≠ gb492)); have NB492_491 := Aside0.mk ((by rw [hg]; exact Nat.ne_of_gt (blk_lt (g := gb491) (o := .cells #[.string (⟨#[]⟩ : ByteArray), .string (⟨#[]⟩ : ByteArray), .int .i64 0] 31 (0, 0)) (bk_ BK491.out)) : gb492 ≠ gb491)); replace BK491 := Aside0.mk (bb_ (bk_ BK491.out) hb); have NB0_492 := Aside0.mk ((by rw [hg]; exact Nat.ne_of_lt (IsS74.lt (show IsS74 w0 _ g s0_0 s0_1 s0_2 from is74_1 HI0.out NB0_491.out)) : g ≠ gb492)); have NB492_0 := Aside0.mk ((by rw [hg]; exact Nat.ne_of_gt (IsS74.lt (show IsS74 w0 _ g s0_0 s0_1 s0_2 from is74_1 HI0.out NB0_491.out)) : gb492 ≠ g)); replace HI0 := Aside0.mk (IsS74.below (is74_1 HI0.out NB0_491.out) hb); clear hb hbox hg; have hnb5 := NB492_491.out; have hnc5 := NB491_492.out; have hnb6 := NB492_0.out; have hnc6 := NB0_492.out; obtain ⟨hcz7_0, hcz7_1, hcz7_2⟩ := cz3_ BK492.out; obtain ⟨hfz7_0, hfz7_1, hfz7_2⟩ := fz3_ BK492.out) | ((with_reducible refine gate_callee (f := 55) rfl ?_); refine ga_ (some 7) Tryd.func55 #[.pointer (some ⟨g, 0, none⟩), .int .i64 7] ?_; (with_reducible refine (spec_l1Cur_pick.calls g s0_0 s0_1 s0_2 7 t493 t494 t495 w0 _ ?side1 ?side2 A2.out).mono ?_); (case side1 => exact is74_2 HI0.out NB0_491.out NB0_492.out); (case side2 => exact lb3_ HB.out (IsS74.ge HI0.out) GE491.out GE492.out); rintro e w8 ⟨rfl, hi, hb, hk⟩; refine ⟨_, rfl, ?_⟩; replace BK491 := Aside0.mk (KeepBut.blk hk (g' := gb491) (o := .cells #[.string (⟨#[]⟩ : ByteArray), .string (⟨#[]⟩ : ByteArray), .int .i64 0] 31 (0, 0)) (by (with_reducible repeat (first | refine blk_drewN ?_ _ | refine blk_drew ?_ | refine blk_alloc ?_ _)); refine blk_far ?_ NB491_492.out _; (with_reducible repeat (first | refine blk_drewN ?_ _ | refine blk_drew ?_ | refine blk_alloc ?_ _)); refine blk_far ?_ NB491_492.out _; (with_reducible repeat (first | refine blk_drewN ?_ _ | refine blk_drew ?_ | refine blk_alloc ?_ _)); refine blk_far ?_ NB491_492.out _; (with_reducible repeat (first | refine blk_drewN ?_ _ | refine blk_drew ?_ | refine blk_alloc ?_ _)); exact BK491.out) NB491_0.out (by simp)); replace BK492 := Aside0.mk (KeepBut.blk hk (g' := gb492) (o := .cells #[.string (⟨#[]⟩ : ByteArray), .string (⟨#[]⟩ : ByteArray), .int .i64 0] 31 (0, 0)) (by (with_reducible repeat (first | refine blk_drewN ?_ _ | refine blk_drew ?_ | refine blk_alloc ?_ _)); refine blk_put (cs := #[.string (⟨#[]⟩ : ByteArray), .string (⟨#[]⟩ : ByteArray), .int .i64 0]) ?_ 2 _ rfl; (with_reducible repeat (first | refine blk_drewN ?_ _ | refine blk_drew ?_ | refine blk_alloc ?_ _)); refine blk_put (cs := #[.string (⟨#[]⟩ : ByteArray), .string (⟨#[]⟩ : ByteArray), .int .i64 0]) ?_ 1 _ rfl; (with_reducible repeat (first | refine blk_drewN ?_ _ | refine blk_drew ?_ | refine blk_alloc ?_ _)); refine blk_put (cs := #[.string (⟨#[]⟩ : ByteArray), .string (⟨#[]⟩ : ByteArray), .int .i64 0]) ?_ 0 _ rfl; (with_reducible repeat (first | refine blk_drewN ?_ _ | refine blk_drew ?_ | refine blk_alloc ?_ _)); exact BK492.out) NB492_0.out (by simp)); replace HK := Aside0.mk (KeepBut.trans (kb2_ HK.out GW491.out GW492.out) hk (.inl rfl)); replace HB := Aside0.mk (hb); replace HI0 := Aside0.mk (hi); (try clear hb); (try clear hb2); (try clear hk); (try clear hi)))
 go_loopg [4] k (fun kq v4 w' => ∃ (x4_1 : Int) (x1001_1 : Int) (x1002_1 : Int) (x493000_1 : ByteArray) (x493001_1 : ByteArray) (x493002_1 : Int), v4 = .int .i64 x4_1 ∧ Aside0 (spec_l1Cur_log.l0 kq x4_1 s0_0 x1001_1 x1002_1 x493000_1 x493001_1 x493002_1 = some (r1, r2, r3, r4, r5)) ∧ Aside0 (kq ≤ k) ∧ Aside0 (w'.heap[gb491]? = some (.cells #[.string (⟨#[]⟩ : ByteArray), .string (⟨#[]⟩ : ByteArray), .int .i64 0] 31 (0, 0))) ∧ Aside0 (w'.heap[gb492]? = some (.cells #[.string x493000_1, .string x493001_1, .int .i64 x493002_1] 31 (0, 0))) ∧ Aside0 (IsS74 w0 w' g s0_0 x1001_1 x1002_1) ∧ Aside0 (KeepBut w w' g none) ∧ Aside0 (Below w0.heap.size w0 w'))
 case atStart => exact ⟨(t493), (t494), (t495), ((⟨#[]⟩ : ByteArray)), ((⟨#[]⟩ : ByteArray)), (0), (by first | rfl | (simp; done) | (simp [*]; done)), H', ⟨Nat.le_refl _⟩, ⟨bk_ BK491.out⟩, ⟨bk_ BK492.out⟩, ⟨is74_2 HI0.out NB0_491.out NB0_492.out⟩, ⟨kb2_ HK.out GW491.out GW492.out⟩, ⟨lb3_ HB.out (IsS74.ge HI0.out) GE491.out GE492.out⟩⟩
 case round =>
  clear H'
  try clear p2
  try clear c5
  try clear c6
  try clear hcz7_0 hcz7_1 hcz7_2
  try clear hfz7_0 hfz7_1 hfz7_2
  obtain ⟨x4_1, x1001_1, x1002_1, x493000_1, x493001_1, x493002_1, rfl, HA, HK1, BK491, BK492, HI0, HK, HB⟩ := hrel
  cases gk with
  | zero => exact absurd HA.out (by simp [spec_l1Cur_log.l0])
  | succ k1 =>
   have H := HA.out
   clear HA
   simp only [spec_l1Cur_log.l0] at H
   by_cases c9 : x4_1 > 0
   ·
    rw [if_pos c9] at H
    have c9b0 : decide (0 < x4_1) = true := decide_eq_true c9
    clear c9
    replace H := Option.bind_eq_some_iff.mp H
    obtain ⟨⟨t496, t497, t498, t499⟩, A100, H⟩ := H
    replace H : ((spec_AppendRecord.f k1 x493000_1 x493001_1 x493002_1 t496 t497).bind fun bt500 => ((spec_l1Cur_one.f s0_0 t498 t499 4).bind fun bt504 => (if bt504.1 = true then ((spec_SyncLog.f k1 bt500.1 bt500.2.1 bt500.2.2.1).bind fun bt507 => (spec_l1Cur_log.l0 k1 (wrap64 (x4_1 - 1)) s0_0 bt504.2.1 bt504.2.2 bt507.1 bt507.2.1 bt507.2.2.1)) else (spec_l1Cur_log.l0 k1 (wrap64 (x4_1 - 1)) s0_0 bt504.2.1 bt504.2.2 bt500.1 bt500.2.1 bt500.2.2.1)))) = some (r1, r2, r3, r4, r5) := H
    have A10 := Aside0.mk A100
    clear A100
    replace H := Option.bind_eq_some_iff.mp H
    obtain ⟨⟨t500, t501, t502, t503⟩, A110, H⟩ := H
    replace H : ((spec_l1Cur_one.f s0_0 t498 t499 4).bind fun bt504 => (if bt504.1 = true then ((spec_SyncLog.f k1 t500 t501 t502).bind fun bt507 => (spec_l1Cur_log.l0 k1 (wrap64 (x4_1 - 1)) s0_0 bt504.2.1 bt504.2.2 bt507.1 bt507.2.1 bt507.2.2.1)) else (spec_l1Cur_log.l0 k1 (wrap64 (x4_1 - 1)) s0_0 bt504.2.1 bt504.2.2 t500 t501 t502))) = some (r1, r2, r3, r4, r5) := H
    have A11 := Aside0.mk A110
    clear A110
    replace H := Option.bind_eq_some_iff.mp H
    obtain ⟨⟨t504, t505, t506⟩, A120, H⟩ := H
    replace H : (if t504 = true then ((spec_SyncLog.f k1 t500 t501 t502).bind fun bt507 => (spec_l1Cur_log.l0 k1 (wrap64 (x4_1 - 1)) s0_0 t505 t506 bt507.1 bt507.2.1 bt507.2.2.1)) else (spec_l1Cur_log.l0 k1 (wrap64 (x4_1 - 1)) s0_0 t505 t506 t500 t501 t502)) = some (r1, r2, r3, r4, r5) := H
    have A12 := Aside0.mk A120
    clear A120
    by_cases c13 : t504 = true
    ·
     subst c13
     have H1 : ((spec_SyncLog.f k1 t500 t501 t502).bind fun bt507 => (spec_l1Cur_log.l0 k1 (wrap64 (x4_1 - 1)) s0_0 t505 t506 bt507.1 bt507.2.1 bt507.2.2.1)) = some (r1, r2, r3, r4, r5) := by rw [if_pos rfl] at H; exact H
     clear H
     have H := H1
     clear H1
     replace H := Option.bind_eq_some_iff.mp H
     obtain ⟨⟨t507, t508, t509, t510⟩, A140, H⟩ := H
     replace H : (spec_l1Cur_log.l0 k1 (wrap64 (x4_1 - 1)) s0_0 t505 t506 t507 t508 t509) = some (r1, r2, r3, r4, r5) := H
     have A14 := Aside0.mk A140
     clear A140
     have H' := Aside0.mk H
     clear H
     try go_wp2
     replace BK491 := Aside0.mk (blk_drew BK491.out)
     replace BK492 := Aside0.mk (blk_drew BK492.out)
     replace HI0 := Aside0.mk (IsS74.drew HI0.out)
     replace HK := Aside0.mk (keep_drew HK.out)
     replace HB := Aside0.mk (below_drew1 HB.out)
     refine start_ (n := 8) (S := fun w' => w'.cell? ⟨gb492, 0, none⟩ = some (.string x493000_1) ∧ w'.cell? ⟨gb492, 1, none⟩ = some (.string x493001_1) ∧ w'.cell? ⟨gb492, 2, none⟩ = some (.int .i64 x493002_1)) (ds := [7]) #[false, false, false, false, false, false, false, false] (by kernel_rfl) rfl rfl ⟨(blk_cell BK492.out 0).trans rfl, (blk_cell BK492.out 1).trans rfl, (blk_cell BK492.out 2).trans rfl⟩ (fun hHeld => ?_); refine with_tabW spec_l1Cur_log.tab5 spec_l1Cur_log.bits5 (fun HT_ HW_ => ?_)
     generalize wr.drew = w15 at BK491 BK492 HI0 HK HB hHeld ⊢
     refine pz_ HT_ 1 (some 14) #[false, true, false, false, false, false, false, false] ?_
     refine take_ (i := 0) (N := some 13) (v := ?_) (a' := ?_) #[true, true, false, false, false, false, false, false] rfl rfl (take_ofW HT_.out HW_.out (by kernel_rfl)) (fun _ _ _ h => h) (Or.inl ⟨by rfl, ?_⟩) hHeld ?_ ?_
     rotate_left
     ·
      rintro w' ⟨s0, s1, s2⟩
      go_simp
      with_reducible rfl
     rotate_left
     ·
      simp only [Act.put, List.setIfInBounds_toArray, List.set_cons_zero, List.set_cons_succ, i64_w, i32_w]
      rfl
     refine one_ (i := 2) (N := some 15) #[true, true, true, false, false, false, false, false] rfl rfl (one_of HT_.out (by kernel_rfl)) (by decide) (fun K hK => ?_)
     refine gs_ Tryd.func56 #[.pointer (some ⟨g, 0, none⟩)] ?_
     with_reducible refine (spec_l1Cur_logRecord.calls g s0_0 x1001_1 x1002_1 t496 t497 t498 t499 w0 _ ?side1 ?side2 A10.out).mono ?_
     (case side1 => exact is74_2 HI0.out NB0_491.out NB0_492.out)
     (case side2 => exact lb3_ HB.out (IsS74.ge HI0.out) GE491.out GE492.out)
     rintro e w16 ⟨rfl, hi, hb, hk⟩
     refine ⟨_, rfl, ?_⟩
     replace BK491 := Aside0.mk (KeepBut.blk hk (g' := gb491) (o := .cells #[.string (⟨#[]⟩ : ByteArray), .string (⟨#[]⟩ : ByteArray), .int .i64 0] 31 (0, 0)) (bk_ BK491.out) NB491_0.out (by simp))
     replace BK492 := Aside0.mk (KeepBut.blk hk (g' := gb492) (o := .cells #[.string x493000_1, .string x493001_1, .int .i64 x493002_1] 31 (0, 0)) (bk_ BK492.out) NB492_0.out (by simp))
     replace HK := Aside0.mk (KeepBut.trans (kb2_ HK.out GW491.out GW492.out) hk (.inl rfl))
     replace HB := Aside0.mk (hb)
     replace HI0 := Aside0.mk (hi)
     (try clear hb)
     (try clear hb2)
     (try clear hk)
     (try clear hi)
     refine hK.out _ _ ⟨(blk_cell BK492.out 0).trans rfl, (blk_cell BK492.out 1).trans rfl, (blk_cell BK492.out 2).trans rfl⟩ (fun hHeld => ?_)
     clear hK K
     refine na_ ?_
     refine one_ (i := 3) (N := some 16) #[true, true, true, true, false, false, false, false] rfl rfl (one_of HT_.out (by kernel_rfl)) (by decide) (fun K hK => ?_)
     refine gs_ Tryd.func28 #[.agg #[.string x493000_1, .string x493001_1, .int .i64 x493002_1], .agg #[.string t496, .string t497]] ?_
     with_reducible refine (spec_AppendRecord.calls k1 x493000_1 x493001_1 x493002_1 t496 t497 t500 t501 t502 t503 _ A11.out).mono ?_
     rintro e w17 ⟨rfl, hb⟩
     refine ⟨_, rfl, ?_⟩
     replace BK491 := Aside0.mk (bb_ (bk_ BK491.out) hb)
     replace BK492 := Aside0.mk (bb_ (bk_ BK492.out) hb)
     replace HK := Aside0.mk (KeepBut.trans (kb2_ HK.out GW491.out GW492.out) (KeepBut.of_below hb g none) (.inl rfl))
     replace HB := Aside0.mk (below_step (lb3_ HB.out (IsS74.ge HI0.out) GE491.out GE492.out) hb)
     replace HI0 := Aside0.mk (IsS74.below (is74_2 HI0.out NB0_491.out NB0_492.out) hb)
     (try clear hb)
     (try clear hb2)
     (try clear hk)
     (try clear hi)
     refine hK.out _ _ ⟨(blk_cell BK492.out 0).trans rfl, (blk_cell BK492.out 1).trans rfl, (blk_cell BK492.out 2).trans rfl⟩ (fun hHeld => ?_)
     clear hK K
     refine na_ ?_
     refine pz_ HT_ 4 (some 12) #[true, true, true, true, true, false, false, false] ?_
     refine pz_ HT_ 5 (some 17) #[true, true, true, true, true, true, false, false] ?_
     refine pz_ HT_ 6 (some 18) #[true, true, true, true, true, true, true, false] ?_
     refine last_ (i := 7) (N := none) #[true, true, true, true, true, true, true, true] rfl rfl (one_of HT_.out (by kernel_rfl)) (by decide) (fun K hK => ?_)
     have hs18 : w17.cell? ⟨gb492, 0, none⟩ = some (.string x493000_1) := (blk_cell BK492.out 0).trans rfl
     have hfs18 := blk_frozen BK492.out 0
     have hns18_0 := NB491_492.out
     have hms18_0 := NB492_491.out
     have hs19 : w17.cell? ⟨gb492, 1, none⟩ = some (.string x493001_1) := (blk_cell BK492.out 1).trans rfl
     have hfs19 := blk_frozen BK492.out 1
     have hns19_0 := NB491_492.out
     have hms19_0 := NB492_491.out
     have hs20 : w17.cell? ⟨gb492, 2, none⟩ = some (.int .i64 x493002_1) := (blk_cell BK492.out 2).trans rfl
     have hfs20 := blk_frozen BK492.out 2
     have hns20_0 := NB491_492.out
     have hms20_0 := NB492_491.out
     refine skip_ (w1 := ?_) (by rfl) rfl ?_ ?_
     rotate_left
     ·
      go_simp
      rfl
     refine hK.out _ _ ?_
     clear hK K
     refine done_ (done_of HT_.out (by kernel_rfl)) ?_
     try go_wp2_with (first | ((with_reducible refine gate_callee (f := 54) rfl ?_); refine ga_ (some 20) Tryd.func54 #[.pointer (some ⟨g, 0, none⟩), .int .i64 4] ?_; (with_reducible refine (spec_l1Cur_one.calls g s0_0 t498 t499 4 true t505 t506 w0 _ ?side1 ?side2 A12.out).mono ?_); (case side1 => exact is74_2 HI0.out NB0_491.out NB0_492.out); (case side2 => exact lb3_ HB.out (IsS74.ge HI0.out) GE491.out GE492.out); rintro e w21 ⟨rfl, hi, hb, hk⟩; refine ⟨_, rfl, ?_⟩; replace BK491 := Aside0.mk (KeepBut.blk hk (g' := gb491) (o := .cells #[.string (⟨#[]⟩ : ByteArray), .string (⟨#[]⟩ : ByteArray), .int .i64 0] 31 (0, 0)) (by (with_reducible repeat (first | refine blk_drewN ?_ _ | refine blk_drew ?_ | refine blk_alloc ?_ _)); refine blk_far ?_ NB491_492.out _; (with_reducible repeat (first | refine blk_drewN ?_ _ | refine blk_drew ?_ | refine blk_alloc ?_ _)); refine blk_far ?_ NB491_492.out _; (with_reducible repeat (first | refine blk_drewN ?_ _ | refine blk_drew ?_ | refine blk_alloc ?_ _)); refine blk_far ?_ NB491_492.out _; (with_reducible repeat (first | refine blk_drewN ?_ _ | refine blk_drew ?_ | refine blk_alloc ?_ _)); exact BK491.out) NB491_0.out (by simp)); replace BK492 := Aside0.mk (KeepBut.blk hk (g' := gb492) (o := .cells #[.string t500, .string t501, .int .i64 t502] 31 (0, 0)) (by (with_reducible repeat (first | refine blk_drewN ?_ _ | refine blk_drew ?_ | refine blk_alloc ?_ _)); refine blk_put (cs := #[.string t500, .string t501, .int .i64 x493002_1]) ?_ 2 _ rfl; (with_reducible repeat (first | refine blk_drewN ?_ _ | refine blk_drew ?_ | refine blk_alloc ?_ _)); refine blk_put (cs := #[.string t500, .string x493001_1, .int .i64 x493002_1]) ?_ 1 _ rfl; (with_reducible repeat (first | refine blk_drewN ?_ _ | refine blk_drew ?_ | refine blk_alloc ?_ _)); refine blk_put (cs := #[.string x493000_1, .string x493001_1, .int .i64 x493002_1]) ?_ 0 _ rfl; (with_reducible repeat (first | refine blk_drewN ?_ _ | refine blk_drew ?_ | refine blk_alloc ?_ _)); exact BK492.out) NB492_0.out (by simp)); replace HK := Aside0.mk (KeepBut.trans (kb2_ HK.out GW491.out GW492.out) hk (.inl rfl)); replace HB := Aside0.mk (hb); replace HI0 := Aside0.mk (hi); (try clear hb); (try clear hb2); (try clear hk); (try clear hi); have hnb22 := NB492_491.out; have hnc22 := NB491_492.out; have hnb23 := NB492_0.out; have hnc23 := NB0_492.out; obtain ⟨hcz24_0, hcz24_1, hcz24_2⟩ := cz3_ BK492.out; obtain ⟨hfz24_0, hfz24_1, hfz24_2⟩ := fz3_ BK492.out) | ((with_reducible refine gate_callee (f := 26) rfl ?_); refine ga_ (some 23) Tryd.func26 #[.agg #[.string t500, .string t501, .int .i64 t502]] ?_; (with_reducible refine (spec_SyncLog.calls k1 t500 t501 t502 t507 t508 t509 t510 _ A14.out).mono ?_); rintro e w25 ⟨rfl, hb⟩; refine ⟨_, rfl, ?_⟩; replace BK491 := Aside0.mk (bb_ (bk_ BK491.out) hb); replace BK492 := Aside0.mk (bb_ (bk_ BK492.out) hb); replace HK := Aside0.mk (KeepBut.trans (kb2_ HK.out GW491.out GW492.out) (KeepBut.of_below hb g none) (.inl rfl)); replace HB := Aside0.mk (below_step (lb3_ HB.out (IsS74.ge HI0.out) GE491.out GE492.out) hb); replace HI0 := Aside0.mk (IsS74.below (is74_2 HI0.out NB0_491.out NB0_492.out) hb); (try clear hb); (try clear hb2); (try clear hk); (try clear hi); obtain ⟨hcz26_0, hcz26_1, hcz26_2⟩ := cz3_ BK492.out; obtain ⟨hfz26_0, hfz26_1, hfz26_2⟩ := fz3_ BK492.out))
     go_roundg k1
     case measure => have := HK1.out; omega
     case rel => exact ⟨(wrap64 (x4_1 - 1)), (t505), (t506), (t507), (t508), (t509), (by first | rfl | (simp; done) | (simp [*]; done)), H', ⟨by have := HK1.out; omega⟩, ⟨by (with_reducible repeat (first | refine blk_drewN ?_ _ | refine blk_drew ?_ | refine blk_alloc ?_ _)); refine blk_far ?_ NB491_492.out _; (with_reducible repeat (first | refine blk_drewN ?_ _ | refine blk_drew ?_ | refine blk_alloc ?_ _)); refine blk_far ?_ NB491_492.out _; (with_reducible repeat (first | refine blk_drewN ?_ _ | refine blk_drew ?_ | refine blk_alloc ?_ _)); refine blk_far ?_ NB491_492.out _; (with_reducible repeat (first | refine blk_drewN ?_ _ | refine blk_drew ?_ | refine blk_alloc ?_ _)); exact BK491.out⟩, ⟨by (with_reducible repeat (first | refine blk_drewN ?_ _ | refine blk_drew ?_ | refine blk_alloc ?_ _)); refine blk_put (cs := #[.string t507, .string t508, .int .i64 t502]) ?_ 2 _ rfl; (with_reducible repeat (first | refine blk_drewN ?_ _ | refine blk_drew ?_ | refine blk_alloc ?_ _)); refine blk_put (cs := #[.string t507, .string t501, .int .i64 t502]) ?_ 1 _ rfl; (with_reducible repeat (first | refine blk_drewN ?_ _ | refine blk_drew ?_ | refine blk_alloc ?_ _)); refine blk_put (cs := #[.string t500, .string t501, .int .i64 t502]) ?_ 0 _ rfl; (with_reducible repeat (first | refine blk_drewN ?_ _ | refine blk_drew ?_ | refine blk_alloc ?_ _)); exact BK492.out⟩, ⟨is74_2 HI0.out NB0_491.out NB0_492.out⟩, ⟨kb2_ HK.out GW491.out GW492.out⟩, ⟨lb3_ HB.out (IsS74.ge HI0.out) GE491.out GE492.out⟩⟩
    ·
     replace c13 := Bool.eq_false_iff.mpr c13
     subst c13
     have H1 : (spec_l1Cur_log.l0 k1 (wrap64 (x4_1 - 1)) s0_0 t505 t506 t500 t501 t502) = some (r1, r2, r3, r4, r5) := by rw [if_neg (show ¬ (false = true) by decide)] at H; exact H
     clear H
     have H := H1
     clear H1
     have H' := Aside0.mk H
     clear H
     try go_wp2
     replace BK491 := Aside0.mk (blk_drew BK491.out)
     replace BK492 := Aside0.mk (blk_drew BK492.out)
     replace HI0 := Aside0.mk (IsS74.drew HI0.out)
     replace HK := Aside0.mk (keep_drew HK.out)
     replace HB := Aside0.mk (below_drew1 HB.out)
     refine start_ (n := 8) (S := fun w' => w'.cell? ⟨gb492, 0, none⟩ = some (.string x493000_1) ∧ w'.cell? ⟨gb492, 1, none⟩ = some (.string x493001_1) ∧ w'.cell? ⟨gb492, 2, none⟩ = some (.int .i64 x493002_1)) (ds := [7]) #[false, false, false, false, false, false, false, false] (by kernel_rfl) rfl rfl ⟨(blk_cell BK492.out 0).trans rfl, (blk_cell BK492.out 1).trans rfl, (blk_cell BK492.out 2).trans rfl⟩ (fun hHeld => ?_); refine with_tabW spec_l1Cur_log.tab5 spec_l1Cur_log.bits5 (fun HT_ HW_ => ?_)
     generalize wr.drew = w27 at BK491 BK492 HI0 HK HB hHeld ⊢
     refine pz_ HT_ 1 (some 14) #[false, true, false, false, false, false, false, false] ?_
     refine take_ (i := 0) (N := some 13) (v := ?_) (a' := ?_) #[true, true, false, false, false, false, false, false] rfl rfl (take_ofW HT_.out HW_.out (by kernel_rfl)) (fun _ _ _ h => h) (Or.inl ⟨by rfl, ?_⟩) hHeld ?_ ?_
     rotate_left
     ·
      rintro w' ⟨s0, s1, s2⟩
      go_simp
      with_reducible rfl
     rotate_left
     ·
      simp only [Act.put, List.setIfInBounds_toArray, List.set_cons_zero, List.set_cons_succ, i64_w, i32_w]
      rfl
     refine one_ (i := 2) (N := some 15) #[true, true, true, false, false, false, false, false] rfl rfl (one_of HT_.out (by kernel_rfl)) (by decide) (fun K hK => ?_)
     refine gs_ Tryd.func56 #[.pointer (some ⟨g, 0, none⟩)] ?_
     with_reducible refine (spec_l1Cur_logRecord.calls g s0_0 x1001_1 x1002_1 t496 t497 t498 t499 w0 _ ?side1 ?side2 A10.out).mono ?_
     (case side1 => exact is74_2 HI0.out NB0_491.out NB0_492.out)
     (case side2 => exact lb3_ HB.out (IsS74.ge HI0.out) GE491.out GE492.out)
     rintro e w28 ⟨rfl, hi, hb, hk⟩
     refine ⟨_, rfl, ?_⟩
     replace BK491 := Aside0.mk (KeepBut.blk hk (g' := gb491) (o := .cells #[.string (⟨#[]⟩ : ByteArray), .string (⟨#[]⟩ : ByteArray), .int .i64 0] 31 (0, 0)) (bk_ BK491.out) NB491_0.out (by simp))
     replace BK492 := Aside0.mk (KeepBut.blk hk (g' := gb492) (o := .cells #[.string x493000_1, .string x493001_1, .int .i64 x493002_1] 31 (0, 0)) (bk_ BK492.out) NB492_0.out (by simp))
     replace HK := Aside0.mk (KeepBut.trans (kb2_ HK.out GW491.out GW492.out) hk (.inl rfl))
     replace HB := Aside0.mk (hb)
     replace HI0 := Aside0.mk (hi)
     (try clear hb)
     (try clear hb2)
     (try clear hk)
     (try clear hi)
     refine hK.out _ _ ⟨(blk_cell BK492.out 0).trans rfl, (blk_cell BK492.out 1).trans rfl, (blk_cell BK492.out 2).trans rfl⟩ (fun hHeld => ?_)
     clear hK K
     refine na_ ?_
     refine one_ (i := 3) (N := some 16) #[true, true, true, true, false, false, false, false] rfl rfl (one_of HT_.out (by kernel_rfl)) (by decide) (fun K hK => ?_)
     refine gs_ Tryd.func28 #[.agg #[.string x493000_1, .string x493001_1, .int .i64 x493002_1], .agg #[.string t496, .string t497]] ?_
     with_reducible refine (spec_AppendRecord.calls k1 x493000_1 x493001_1 x493002_1 t496 t497 t500 t501 t502 t503 _ A11.out).mono ?_
     rintro e w29 ⟨rfl, hb⟩
     refine ⟨_, rfl, ?_⟩
     replace BK491 := Aside0.mk (bb_ (bk_ BK491.out) hb)
     replace BK492 := Aside0.mk (bb_ (bk_ BK492.out) hb)
     replace HK := Aside0.mk (KeepBut.trans (kb2_ HK.out GW491.out GW492.out) (KeepBut.of_below hb g none) (.inl rfl))
     replace HB := Aside0.mk (below_step (lb3_ HB.out (IsS74.ge HI0.out) GE491.out GE492.out) hb)
     replace HI0 := Aside0.mk (IsS74.below (is74_2 HI0.out NB0_491.out NB0_492.out) hb)
     (try clear hb)
     (try clear hb2)
     (try clear hk)
     (try clear hi)
     refine hK.out _ _ ⟨(blk_cell BK492.out 0).trans rfl, (blk_cell BK492.out 1).trans rfl, (blk_cell BK492.out 2).trans rfl⟩ (fun hHeld => ?_)
     clear hK K
     refine na_ ?_
     refine pz_ HT_ 4 (some 12) #[true, true, true, true, true, false, false, false] ?_
     refine pz_ HT_ 5 (some 17) #[true, true, true, true, true, true, false, false] ?_
     refine pz_ HT_ 6 (some 18) #[true, true, true, true, true, true, true, false] ?_
     refine last_ (i := 7) (N := none) #[true, true, true, true, true, true, true, true] rfl rfl (one_of HT_.out (by kernel_rfl)) (by decide) (fun K hK => ?_)
     have hs30 : w29.cell? ⟨gb492, 0, none⟩ = some (.string x493000_1) := (blk_cell BK492.out 0).trans rfl
     have hfs30 := blk_frozen BK492.out 0
     have hns30_0 := NB491_492.out
     have hms30_0 := NB492_491.out
     have hs31 : w29.cell? ⟨gb492, 1, none⟩ = some (.string x493001_1) := (blk_cell BK492.out 1).trans rfl
     have hfs31 := blk_frozen BK492.out 1
     have hns31_0 := NB491_492.out
     have hms31_0 := NB492_491.out
     have hs32 : w29.cell? ⟨gb492, 2, none⟩ = some (.int .i64 x493002_1) := (blk_cell BK492.out 2).trans rfl
     have hfs32 := blk_frozen BK492.out 2
     have hns32_0 := NB491_492.out
     have hms32_0 := NB492_491.out
     refine skip_ (w1 := ?_) (by rfl) rfl ?_ ?_
     rotate_left
     ·
      go_simp
      rfl
     refine hK.out _ _ ?_
     clear hK K
     refine done_ (done_of HT_.out (by kernel_rfl)) ?_
     try go_wp2_with (first | ((with_reducible refine gate_callee (f := 54) rfl ?_); refine ga_ (some 20) Tryd.func54 #[.pointer (some ⟨g, 0, none⟩), .int .i64 4] ?_; (with_reducible refine (spec_l1Cur_one.calls g s0_0 t498 t499 4 false t505 t506 w0 _ ?side1 ?side2 A12.out).mono ?_); (case side1 => exact is74_2 HI0.out NB0_491.out NB0_492.out); (case side2 => exact lb3_ HB.out (IsS74.ge HI0.out) GE491.out GE492.out); rintro e w33 ⟨rfl, hi, hb, hk⟩; refine ⟨_, rfl, ?_⟩; replace BK491 := Aside0.mk (KeepBut.blk hk (g' := gb491) (o := .cells #[.string (⟨#[]⟩ : ByteArray), .string (⟨#[]⟩ : ByteArray), .int .i64 0] 31 (0, 0)) (by (with_reducible repeat (first | refine blk_drewN ?_ _ | refine blk_drew ?_ | refine blk_alloc ?_ _)); refine blk_far ?_ NB491_492.out _; (with_reducible repeat (first | refine blk_drewN ?_ _ | refine blk_drew ?_ | refine blk_alloc ?_ _)); refine blk_far ?_ NB491_492.out _; (with_reducible repeat (first | refine blk_drewN ?_ _ | refine blk_drew ?_ | refine blk_alloc ?_ _)); refine blk_far ?_ NB491_492.out _; (with_reducible repeat (first | refine blk_drewN ?_ _ | refine blk_drew ?_ | refine blk_alloc ?_ _)); exact BK491.out) NB491_0.out (by simp)); replace BK492 := Aside0.mk (KeepBut.blk hk (g' := gb492) (o := .cells #[.string t500, .string t501, .int .i64 t502] 31 (0, 0)) (by (with_reducible repeat (first | refine blk_drewN ?_ _ | refine blk_drew ?_ | refine blk_alloc ?_ _)); refine blk_put (cs := #[.string t500, .string t501, .int .i64 x493002_1]) ?_ 2 _ rfl; (with_reducible repeat (first | refine blk_drewN ?_ _ | refine blk_drew ?_ | refine blk_alloc ?_ _)); refine blk_put (cs := #[.string t500, .string x493001_1, .int .i64 x493002_1]) ?_ 1 _ rfl; (with_reducible repeat (first | refine blk_drewN ?_ _ | refine blk_drew ?_ | refine blk_alloc ?_ _)); refine blk_put (cs := #[.string x493000_1, .string x493001_1, .int .i64 x493002_1]) ?_ 0 _ rfl; (with_reducible repeat (first | refine blk_drewN ?_ _ | refine blk_drew ?_ | refine blk_alloc ?_ _)); exact BK492.out) NB492_0.out (by simp)); replace HK := Aside0.mk (KeepBut.trans (kb2_ HK.out GW491.out GW492.out) hk (.inl rfl)); replace HB := Aside0.mk (hb); replace HI0 := Aside0.mk (hi); (try clear hb); (try clear hb2); (try clear hk); (try clear hi)))
     go_roundg k1
     case measure => have := HK1.out; omega
     case rel => exact ⟨(wrap64 (x4_1 - 1)), (t505), (t506), (t500), (t501), (t502), (by first | rfl | (simp; done) | (simp [*]; done)), H', ⟨by have := HK1.out; omega⟩, ⟨bk_ BK491.out⟩, ⟨bk_ BK492.out⟩, ⟨is74_2 HI0.out NB0_491.out NB0_492.out⟩, ⟨kb2_ HK.out GW491.out GW492.out⟩, ⟨lb3_ HB.out (IsS74.ge HI0.out) GE491.out GE492.out⟩⟩
   ·
    rw [if_neg c9] at H
    have c9b0 : decide (0 < x4_1) = false := decide_eq_false c9
    clear c9
    simp only [Option.some.injEq, Prod.mk.injEq] at H
    obtain ⟨rfl, rfl, rfl, rfl, rfl⟩ := H
    have hnb34 := NB492_491.out
    have hnc34 := NB491_492.out
    have hnb35 := NB492_0.out
    have hnc35 := NB0_492.out
    obtain ⟨hcz36_0, hcz36_1, hcz36_2⟩ := cz3_ BK492.out
    obtain ⟨hfz36_0, hfz36_1, hfz36_2⟩ := fz3_ BK492.out
    have hnb37 := NB491_0.out
    have hnc37 := NB0_491.out
    obtain ⟨hcz38_0, hcz38_1, hcz38_2⟩ := cz3_ BK491.out
    obtain ⟨hfz38_0, hfz38_1, hfz38_2⟩ := fz3_ BK491.out
    go_wp2
    refine bodyPost_ret (results_cell_row rfl _ _ gb491 31 #[.string x493000_1, .string x493001_1, .int .i64 x493002_1] (0, 0) _ rfl (by (with_reducible repeat (first | refine blk_drewN ?_ _ | refine blk_drew ?_ | refine blk_alloc ?_ _)); refine blk_put (cs := #[.string x493000_1, .string x493001_1, .int .i64 0]) ?_ 2 _ rfl; (with_reducible repeat (first | refine blk_drewN ?_ _ | refine blk_drew ?_ | refine blk_alloc ?_ _)); refine blk_put (cs := #[.string x493000_1, .string (⟨#[]⟩ : ByteArray), .int .i64 0]) ?_ 1 _ rfl; (with_reducible repeat (first | refine blk_drewN ?_ _ | refine blk_drew ?_ | refine blk_alloc ?_ _)); refine blk_put (cs := #[.string (⟨#[]⟩ : ByteArray), .string (⟨#[]⟩ : ByteArray), .int .i64 0]) ?_ 0 _ rfl; (with_reducible repeat (first | refine blk_drewN ?_ _ | refine blk_drew ?_ | refine blk_alloc ?_ _)); exact BK491.out) Tryd.underlying31 rfl (by kernel_rfl)) rfl ?_
    exact ⟨rr_, is74_2 HI0.out NB0_491.out NB0_492.out, lb3_ HB.out (IsS74.ge HI0.out) GE491.out GE492.out, kb2_ HK.out GW491.out GW492.out⟩
end Go.Proofs.YtdpinnhgkocjhaaDoor.Pr

