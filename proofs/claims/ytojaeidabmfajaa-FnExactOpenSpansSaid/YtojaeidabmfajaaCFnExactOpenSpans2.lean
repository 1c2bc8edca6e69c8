/-
What is proved: parts of the law FnExactOpenSpans: what the functions that it reaches compute, and the plain law.
Conditions: those of each theorem.
-/
import Derived.ChangeArms
import Derived.ChangeSlices
import Derived.Deep.Slices
import Derived.RowKit
import Derived.SizedLaws
import Derived.WideShapes
import Derived.Test.YtojaeidabmfajaaCFnExactOpenSpans1
namespace Go.Proofs.Ytojaeidabmfajaa.Pr
open Go.RowKit Go.Proofs.YtojaeidabmfajaaW.PrintWords Go.Proofs.YtojaeidabmfajaaW.PrintLast Go.Proofs.YtojaeidabmfajaaW.PrintMore
attribute [local go_sem] max2_int min2_int max_two min_two max_three min_three max_four min_four   -- for this text's walks alone
set_option linter.unusedVariables false
set_option linter.unusedSimpArgs false
def impl_AreReadings.l0 : Nat → List (S54) → List (S54) → Int → Int → Option (Bool)
 | 0, _, _, _, _ => none
 | k + 1, x0, x5, x6, x7 => if x7 < x6 then (if 0 ≤ x7 then (if x7 < (x5.length : Int) then ((impl_within.f ((rd_T54 x5 x7).f0) 0 999).bind fun t151 => (if t151 = true then ((impl_isLevel.f ((rd_T54 x5 x7).f1)).bind fun t152 => (if t152 = true then (if x7 > 0 then (if 0 ≤ (wrap64 (x7 - 1)) then (if (wrap64 (x7 - 1)) < (x0.length : Int) then (if ((rd_T54 x0 (wrap64 (x7 - 1))).f0) ≥ ((rd_T54 x5 x7).f0) then (some false) else (impl_AreReadings.l0 k x0 x5 x6 (wrap64 (x7 + 1)))) else (none)) else (none)) else (impl_AreReadings.l0 k x0 x5 x6 (wrap64 (x7 + 1)))) else (some false))) else (some false))) else (none)) else (none)) else (some (decide ((x0.length : Int) ≤ 15)))
def impl_AreReadings.f (k : Nat) (l0 : List (S54)) : Option (Bool) := impl_AreReadings.l0 k l0 l0 (l0.length : Int) 0
set_option maxHeartbeats 8000000 in
set_option maxRecDepth 100000 in
theorem impl_AreReadings.calls (k : Nat) (A0 : Option Addr) (c0 : Nat) (l0 : List (S54)) (r : Bool) (w : World) (hr0 : Kd.C k54 w A0 l0.length l0) (hc0 : l0.length ≤ c0) (h : impl_AreReadings.f k l0 = some r) :
  Calls Try.prog 34 #[.slice A0 l0.length c0] w fun e w' => e = .returned (.bool r) ∧ Below w.heap.size w w' := by
 have hu54 := Try.underlying54
 have HR0 := Aside0.mk hr0
 have HC0 := Aside0.mk hc0
 clear hr0 hc0
 have HB := Aside0.mk (Below.refl w.heap.size w)
 have H : (impl_AreReadings.l0 k l0 l0 (l0.length : Int) 0) = some r := h
 clear h
 have H' := Aside0.mk H
 clear H
 go_enter Try.func34, Try.ntmps34
 go_wp2
 repeat (go_quiet (fail); try go_wp2)
 go_loopg [7] k (fun kq v7 w' => ∃ (x7_1 : Int), v7 = .int .i64 x7_1 ∧ Aside0 (impl_AreReadings.l0 kq l0 l0 (l0.length : Int) x7_1 = some r) ∧ Aside0 (kq ≤ k) ∧ Aside0 (Below w.heap.size w w'))
 case atStart => exact ⟨(0), (by first | rfl | (simp; done) | (simp [*]; done)), H', ⟨Nat.le_refl _⟩, ⟨lb0_ HB.out⟩⟩
 case round =>
  clear H'
  obtain ⟨x7_1, rfl, HA, HK1, HB⟩ := hrel
  cases gk with
  | zero => exact absurd HA.out (by simp [impl_AreReadings.l0])
  | succ k1 =>
   have H := HA.out
   clear HA
   simp only [impl_AreReadings.l0] at H
   by_cases c2 : x7_1 < (l0.length : Int)
   ·
    rw [if_pos c2] at H
    have c2b0 : decide (x7_1 < (l0.length : Int)) = true := decide_eq_true c2
    clear c2
    by_cases c3 : 0 ≤ x7_1
    ·
     rw [if_pos c3] at H
     have c3b0 : decide (0 ≤ x7_1) = true := decide_eq_true c3
     clear c3
     by_cases c4 : x7_1 < (l0.length : Int)
     ·
      rw [if_pos c4] at H
      have c4b0 : decide (x7_1 < (l0.length : Int)) = true := decide_eq_true c4
      clear c4
      replace H := Option.bind_eq_some_iff.mp H
      obtain ⟨t151, A50, H⟩ := H
      replace H : (if t151 = true then ((impl_isLevel.f ((rd_T54 l0 x7_1).f1)).bind fun t152 => (if t152 = true then (if x7_1 > 0 then (if 0 ≤ (wrap64 (x7_1 - 1)) then (if (wrap64 (x7_1 - 1)) < (l0.length : Int) then (if ((rd_T54 l0 (wrap64 (x7_1 - 1))).f0) ≥ ((rd_T54 l0 x7_1).f0) then (some false) else (impl_AreReadings.l0 k1 l0 l0 (l0.length : Int) (wrap64 (x7_1 + 1)))) else (none)) else (none)) else (impl_AreReadings.l0 k1 l0 l0 (l0.length : Int) (wrap64 (x7_1 + 1)))) else (some false))) else (some false)) = some r := H
      have A5 := Aside0.mk A50
      clear A50
      by_cases c6 : t151 = true
      ·
       subst c6
       have H1 : ((impl_isLevel.f ((rd_T54 l0 x7_1).f1)).bind fun t152 => (if t152 = true then (if x7_1 > 0 then (if 0 ≤ (wrap64 (x7_1 - 1)) then (if (wrap64 (x7_1 - 1)) < (l0.length : Int) then (if ((rd_T54 l0 (wrap64 (x7_1 - 1))).f0) ≥ ((rd_T54 l0 x7_1).f0) then (some false) else (impl_AreReadings.l0 k1 l0 l0 (l0.length : Int) (wrap64 (x7_1 + 1)))) else (none)) else (none)) else (impl_AreReadings.l0 k1 l0 l0 (l0.length : Int) (wrap64 (x7_1 + 1)))) else (some false))) = some r := by rw [if_pos rfl] at H; exact H
       clear H
       have H := H1
       clear H1
       replace H := Option.bind_eq_some_iff.mp H
       obtain ⟨t152, A70, H⟩ := H
       replace H : (if t152 = true then (if x7_1 > 0 then (if 0 ≤ (wrap64 (x7_1 - 1)) then (if (wrap64 (x7_1 - 1)) < (l0.length : Int) then (if ((rd_T54 l0 (wrap64 (x7_1 - 1))).f0) ≥ ((rd_T54 l0 x7_1).f0) then (some false) else (impl_AreReadings.l0 k1 l0 l0 (l0.length : Int) (wrap64 (x7_1 + 1)))) else (none)) else (none)) else (impl_AreReadings.l0 k1 l0 l0 (l0.length : Int) (wrap64 (x7_1 + 1)))) else (some false)) = some r := H
       have A7 := Aside0.mk A70
       clear A70
       by_cases c8 : t152 = true
       ·
        subst c8
        have H1 : (if x7_1 > 0 then (if 0 ≤ (wrap64 (x7_1 - 1)) then (if (wrap64 (x7_1 - 1)) < (l0.length : Int) then (if ((rd_T54 l0 (wrap64 (x7_1 - 1))).f0) ≥ ((rd_T54 l0 x7_1).f0) then (some false) else (impl_AreReadings.l0 k1 l0 l0 (l0.length : Int) (wrap64 (x7_1 + 1)))) else (none)) else (none)) else (impl_AreReadings.l0 k1 l0 l0 (l0.length : Int) (wrap64 (x7_1 + 1)))) = some r := by rw [if_pos rfl] at H; exact H
        clear H; have H := H1; clear H1
        by_cases c9 : x7_1 > 0
        ·
         rw [if_pos c9] at H
         have c9b0 : decide (0 < x7_1) = true := decide_eq_true c9; clear c9
         obtain ⟨ji10, hji10⟩ : ∃ j_ : Int, (wrap64 (x7_1 - 1)) = j_ := ⟨_, rfl⟩
         replace H : (if 0 ≤ (ji10) then (if (ji10) < (l0.length : Int) then (if ((rd_T54 l0 (ji10)).f0) ≥ ((rd_T54 l0 x7_1).f0) then (some false) else (impl_AreReadings.l0 k1 l0 l0 (l0.length : Int) (wrap64 (x7_1 + 1)))) else (none)) else (none)) = some r := by first | (rw [hji10] at H; exact H) | (simp only [hji10] at H ⊢; exact H)
         (try rw [hji10] at A5); (try rw [hji10] at A7); have hji10w : (IntKind.i64.wrap (x7_1 - 1)) = ji10 := (i64_w _).trans hji10
         by_cases c11 : 0 ≤ (ji10)
         ·
          rw [if_pos c11] at H
          have c11b0 : decide (0 ≤ (ji10)) = true := decide_eq_true c11; clear c11
          by_cases c12 : (ji10) < (l0.length : Int)
          ·
           rw [if_pos c12] at H
           have c12b0 : decide ((ji10) < (l0.length : Int)) = true := decide_eq_true c12; clear c12
           by_cases c13 : ((rd_T54 l0 (ji10)).f0) ≥ ((rd_T54 l0 x7_1).f0)
           ·
            rw [if_pos c13] at H
            have c13b0 : decide (((rd_T54 l0 x7_1).f0) ≤ ((rd_T54 l0 (ji10)).f0)) = true := decide_eq_true c13; clear c13; obtain rfl := Option.some.inj H; have p149 : 0 ≤ (x7_1 : Int) := dt_; have q149 : x7_1 < (l0.length : Int) := dt_; obtain ⟨ad149, e149, hx149_0, hx149_1⟩ := at_T54 HR0.out x7_1 p149 q149
            cases e149
            replace hx149_0 := bc_ HB.out hx149_0; replace hx149_1 := bc_ HB.out hx149_1; replace p149 := eq_true p149; replace q149 := eq_true q149
            go_wp2_with (first | ((with_reducible refine gate_dst (N := 4) rfl ?_); refine box_event ?hg (N := 4) ?hd (cs := #[.int .i64 0, .int .i64 0]) (t := 54) ?hr ?_; (case hd => rfl); (case hg => rfl); (case hr => first | (go_simp; done) | (go_simp; rfl)); intro gb150 hg w14 hbox hb; have BK150 := Aside0.mk (hbox); have GW150 := Aside0.mk ((bz_ hg (lb0_ HB.out))); have GE150 := Aside0.mk ((bz_ hg (lb0_ HB.out))); replace HB := Aside0.mk (below_step (lb0_ HB.out) hb); clear hb hbox hg; obtain ⟨hcz15_0, hcz15_1⟩ := cz2_ BK150.out; obtain ⟨hfz15_0, hfz15_1⟩ := fz2_ BK150.out) | (go_at_call 74; (with_reducible refine (impl_within.calls ((rd_T54 l0 x7_1).f0) 0 999 true _ A5.out).mono ?_); rintro e w' ⟨rfl, ⟨nd, rfl⟩⟩; (try first | exact ⟨rfl, _, World.drewN_drewN _ _ _⟩ | exact ⟨rfl, _, Eq.trans (World.drewN_drewN _ _ _) (congrArg (World.drewN _) (Nat.add_assoc _ _ _))⟩)) | (go_at_call 75; (with_reducible refine (impl_isLevel.calls ((rd_T54 l0 x7_1).f1) true _ A7.out).mono ?_); rintro e w' ⟨rfl, ⟨nd, rfl⟩⟩; (try first | exact ⟨rfl, _, World.drewN_drewN _ _ _⟩ | exact ⟨rfl, _, Eq.trans (World.drewN_drewN _ _ _) (congrArg (World.drewN _) (Nat.add_assoc _ _ _))⟩); have p153 : 0 ≤ ((ji10) : Int) := dt_; have q153 : (ji10) < (l0.length : Int) := dt_; obtain ⟨ad153, e153, hx153_0, hx153_1⟩ := at_T54 HR0.out (ji10) p153 q153; obtain rfl : ad149 = ad153 := (by injection e153); have hn153_0 : ad149.block ≠ gb150 := Nat.ne_of_lt (Nat.lt_of_lt_of_le (by have := World.block_lt_of_cell? _ _ hx153_0; first | rwa [add_block] at this | exact this) GW150.out); have hn153_1 : ad149.block ≠ gb150 := Nat.ne_of_lt (Nat.lt_of_lt_of_le (by have := World.block_lt_of_cell? _ _ hx153_0; first | rwa [add_block] at this | exact this) GW150.out); replace hx153_0 := bc_ HB.out hx153_0; replace hx153_1 := bc_ HB.out hx153_1; replace hx153_0 := (cell_far (p := ⟨gb150, 0, none⟩) (by first | (rw [add_block]; exact hn153_0) | (show (Addr.add _ _).block ≠ _; rw [add_block]; exact hn153_0) | exact hn153_0) (.int .i64 ((rd_T54 l0 x7_1).f0))).trans hx153_0; replace hx153_1 := (cell_far (p := ⟨gb150, 0, none⟩) (by first | (rw [add_block]; exact hn153_0) | (show (Addr.add _ _).block ≠ _; rw [add_block]; exact hn153_0) | exact hn153_0) (.int .i64 ((rd_T54 l0 x7_1).f0))).trans hx153_1; replace hx153_0 := (cell_far (p := ⟨gb150, 1, none⟩) (by first | (rw [add_block]; exact hn153_1) | (show (Addr.add _ _).block ≠ _; rw [add_block]; exact hn153_1) | exact hn153_1) (.int .i64 ((rd_T54 l0 x7_1).f1))).trans hx153_0; replace hx153_1 := (cell_far (p := ⟨gb150, 1, none⟩) (by first | (rw [add_block]; exact hn153_1) | (show (Addr.add _ _).block ≠ _; rw [add_block]; exact hn153_1) | exact hn153_1) (.int .i64 ((rd_T54 l0 x7_1).f1))).trans hx153_1; (try have hy153_0 := fun (n_ : Nat) => (show ((((w14.drewN n_).setCell ⟨gb150, 0, none⟩ (.int .i64 ((rd_T54 l0 x7_1).f0))).setCell ⟨gb150, 1, none⟩ (.int .i64 ((rd_T54 l0 x7_1).f1)))).cell? _ = some _ from hx153_0)); (try have hy153_1 := fun (n_ : Nat) => (show ((((w14.drewN n_).setCell ⟨gb150, 0, none⟩ (.int .i64 ((rd_T54 l0 x7_1).f0))).setCell ⟨gb150, 1, none⟩ (.int .i64 ((rd_T54 l0 x7_1).f1)))).cell? _ = some _ from hx153_1)); clear hn153_0; clear hn153_1; replace p153 := eq_true p153; replace q153 := eq_true q153))
            repeat (go_quiet (first | ((with_reducible refine gate_dst (N := 4) rfl ?_); refine box_event ?hg (N := 4) ?hd (cs := #[.int .i64 0, .int .i64 0]) (t := 54) ?hr ?_; (case hd => rfl); (case hg => rfl); (case hr => first | (go_simp; done) | (go_simp; rfl)); intro gb150 hg w14 hbox hb; have BK150 := Aside0.mk (hbox); have GW150 := Aside0.mk ((bz_ hg (lb0_ HB.out))); have GE150 := Aside0.mk ((bz_ hg (lb0_ HB.out))); replace HB := Aside0.mk (below_step (lb0_ HB.out) hb); clear hb hbox hg; obtain ⟨hcz15_0, hcz15_1⟩ := cz2_ BK150.out; obtain ⟨hfz15_0, hfz15_1⟩ := fz2_ BK150.out) | (go_at_call 74; (with_reducible refine (impl_within.calls ((rd_T54 l0 x7_1).f0) 0 999 true _ A5.out).mono ?_); rintro e w' ⟨rfl, ⟨nd, rfl⟩⟩; (try first | exact ⟨rfl, _, World.drewN_drewN _ _ _⟩ | exact ⟨rfl, _, Eq.trans (World.drewN_drewN _ _ _) (congrArg (World.drewN _) (Nat.add_assoc _ _ _))⟩)) | (go_at_call 75; (with_reducible refine (impl_isLevel.calls ((rd_T54 l0 x7_1).f1) true _ A7.out).mono ?_); rintro e w' ⟨rfl, ⟨nd, rfl⟩⟩; (try first | exact ⟨rfl, _, World.drewN_drewN _ _ _⟩ | exact ⟨rfl, _, Eq.trans (World.drewN_drewN _ _ _) (congrArg (World.drewN _) (Nat.add_assoc _ _ _))⟩); have p153 : 0 ≤ ((ji10) : Int) := dt_; have q153 : (ji10) < (l0.length : Int) := dt_; obtain ⟨ad153, e153, hx153_0, hx153_1⟩ := at_T54 HR0.out (ji10) p153 q153; obtain rfl : ad149 = ad153 := (by injection e153); have hn153_0 : ad149.block ≠ gb150 := Nat.ne_of_lt (Nat.lt_of_lt_of_le (by have := World.block_lt_of_cell? _ _ hx153_0; first | rwa [add_block] at this | exact this) GW150.out); have hn153_1 : ad149.block ≠ gb150 := Nat.ne_of_lt (Nat.lt_of_lt_of_le (by have := World.block_lt_of_cell? _ _ hx153_0; first | rwa [add_block] at this | exact this) GW150.out); replace hx153_0 := bc_ HB.out hx153_0; replace hx153_1 := bc_ HB.out hx153_1; replace hx153_0 := (cell_far (p := ⟨gb150, 0, none⟩) (by first | (rw [add_block]; exact hn153_0) | (show (Addr.add _ _).block ≠ _; rw [add_block]; exact hn153_0) | exact hn153_0) (.int .i64 ((rd_T54 l0 x7_1).f0))).trans hx153_0; replace hx153_1 := (cell_far (p := ⟨gb150, 0, none⟩) (by first | (rw [add_block]; exact hn153_0) | (show (Addr.add _ _).block ≠ _; rw [add_block]; exact hn153_0) | exact hn153_0) (.int .i64 ((rd_T54 l0 x7_1).f0))).trans hx153_1; replace hx153_0 := (cell_far (p := ⟨gb150, 1, none⟩) (by first | (rw [add_block]; exact hn153_1) | (show (Addr.add _ _).block ≠ _; rw [add_block]; exact hn153_1) | exact hn153_1) (.int .i64 ((rd_T54 l0 x7_1).f1))).trans hx153_0; replace hx153_1 := (cell_far (p := ⟨gb150, 1, none⟩) (by first | (rw [add_block]; exact hn153_1) | (show (Addr.add _ _).block ≠ _; rw [add_block]; exact hn153_1) | exact hn153_1) (.int .i64 ((rd_T54 l0 x7_1).f1))).trans hx153_1; (try have hy153_0 := fun (n_ : Nat) => (show ((((w14.drewN n_).setCell ⟨gb150, 0, none⟩ (.int .i64 ((rd_T54 l0 x7_1).f0))).setCell ⟨gb150, 1, none⟩ (.int .i64 ((rd_T54 l0 x7_1).f1)))).cell? _ = some _ from hx153_0)); (try have hy153_1 := fun (n_ : Nat) => (show ((((w14.drewN n_).setCell ⟨gb150, 0, none⟩ (.int .i64 ((rd_T54 l0 x7_1).f0))).setCell ⟨gb150, 1, none⟩ (.int .i64 ((rd_T54 l0 x7_1).f1)))).cell? _ = some _ from hx153_1)); clear hn153_0; clear hn153_1; replace p153 := eq_true p153; replace q153 := eq_true q153)); try go_wp2_with (first | ((with_reducible refine gate_dst (N := 4) rfl ?_); refine box_event ?hg (N := 4) ?hd (cs := #[.int .i64 0, .int .i64 0]) (t := 54) ?hr ?_; (case hd => rfl); (case hg => rfl); (case hr => first | (go_simp; done) | (go_simp; rfl)); intro gb150 hg w14 hbox hb; have BK150 := Aside0.mk (hbox); have GW150 := Aside0.mk ((bz_ hg (lb0_ HB.out))); have GE150 := Aside0.mk ((bz_ hg (lb0_ HB.out))); replace HB := Aside0.mk (below_step (lb0_ HB.out) hb); clear hb hbox hg; obtain ⟨hcz15_0, hcz15_1⟩ := cz2_ BK150.out; obtain ⟨hfz15_0, hfz15_1⟩ := fz2_ BK150.out) | (go_at_call 74; (with_reducible refine (impl_within.calls ((rd_T54 l0 x7_1).f0) 0 999 true _ A5.out).mono ?_); rintro e w' ⟨rfl, ⟨nd, rfl⟩⟩; (try first | exact ⟨rfl, _, World.drewN_drewN _ _ _⟩ | exact ⟨rfl, _, Eq.trans (World.drewN_drewN _ _ _) (congrArg (World.drewN _) (Nat.add_assoc _ _ _))⟩)) | (go_at_call 75; (with_reducible refine (impl_isLevel.calls ((rd_T54 l0 x7_1).f1) true _ A7.out).mono ?_); rintro e w' ⟨rfl, ⟨nd, rfl⟩⟩; (try first | exact ⟨rfl, _, World.drewN_drewN _ _ _⟩ | exact ⟨rfl, _, Eq.trans (World.drewN_drewN _ _ _) (congrArg (World.drewN _) (Nat.add_assoc _ _ _))⟩); have p153 : 0 ≤ ((ji10) : Int) := dt_; have q153 : (ji10) < (l0.length : Int) := dt_; obtain ⟨ad153, e153, hx153_0, hx153_1⟩ := at_T54 HR0.out (ji10) p153 q153; obtain rfl : ad149 = ad153 := (by injection e153); have hn153_0 : ad149.block ≠ gb150 := Nat.ne_of_lt (Nat.lt_of_lt_of_le (by have := World.block_lt_of_cell? _ _ hx153_0; first | rwa [add_block] at this | exact this) GW150.out); have hn153_1 : ad149.block ≠ gb150 := Nat.ne_of_lt (Nat.lt_of_lt_of_le (by have := World.block_lt_of_cell? _ _ hx153_0; first | rwa [add_block] at this | exact this) GW150.out); replace hx153_0 := bc_ HB.out hx153_0; replace hx153_1 := bc_ HB.out hx153_1; replace hx153_0 := (cell_far (p := ⟨gb150, 0, none⟩) (by first | (rw [add_block]; exact hn153_0) | (show (Addr.add _ _).block ≠ _; rw [add_block]; exact hn153_0) | exact hn153_0) (.int .i64 ((rd_T54 l0 x7_1).f0))).trans hx153_0; replace hx153_1 := (cell_far (p := ⟨gb150, 0, none⟩) (by first | (rw [add_block]; exact hn153_0) | (show (Addr.add _ _).block ≠ _; rw [add_block]; exact hn153_0) | exact hn153_0) (.int .i64 ((rd_T54 l0 x7_1).f0))).trans hx153_1; replace hx153_0 := (cell_far (p := ⟨gb150, 1, none⟩) (by first | (rw [add_block]; exact hn153_1) | (show (Addr.add _ _).block ≠ _; rw [add_block]; exact hn153_1) | exact hn153_1) (.int .i64 ((rd_T54 l0 x7_1).f1))).trans hx153_0; replace hx153_1 := (cell_far (p := ⟨gb150, 1, none⟩) (by first | (rw [add_block]; exact hn153_1) | (show (Addr.add _ _).block ≠ _; rw [add_block]; exact hn153_1) | exact hn153_1) (.int .i64 ((rd_T54 l0 x7_1).f1))).trans hx153_1; (try have hy153_0 := fun (n_ : Nat) => (show ((((w14.drewN n_).setCell ⟨gb150, 0, none⟩ (.int .i64 ((rd_T54 l0 x7_1).f0))).setCell ⟨gb150, 1, none⟩ (.int .i64 ((rd_T54 l0 x7_1).f1)))).cell? _ = some _ from hx153_0)); (try have hy153_1 := fun (n_ : Nat) => (show ((((w14.drewN n_).setCell ⟨gb150, 0, none⟩ (.int .i64 ((rd_T54 l0 x7_1).f0))).setCell ⟨gb150, 1, none⟩ (.int .i64 ((rd_T54 l0 x7_1).f1)))).cell? _ = some _ from hx153_1)); clear hn153_0; clear hn153_1; replace p153 := eq_true p153; replace q153 := eq_true q153)))
            go_ret
            exact ⟨by first | rfl | (simp [errW_none, errW_some] <;> rfl) | (simp only [← hji10]; first | rfl | (simp [errW_none, errW_some] <;> rfl)) | (simp [*, errW_none, errW_some] <;> rfl), lb1_ HB.out GE150.out⟩
           ·
            rw [if_neg c13] at H
            have c13b0 : decide (((rd_T54 l0 x7_1).f0) ≤ ((rd_T54 l0 (ji10)).f0)) = false := decide_eq_false c13; clear c13; have H' := Aside0.mk H; clear H; have p149 : 0 ≤ (x7_1 : Int) := dt_; have q149 : x7_1 < (l0.length : Int) := dt_; obtain ⟨ad149, e149, hx149_0, hx149_1⟩ := at_T54 HR0.out x7_1 p149 q149
            cases e149
            replace hx149_0 := bc_ HB.out hx149_0; replace hx149_1 := bc_ HB.out hx149_1; replace p149 := eq_true p149; replace q149 := eq_true q149
            go_wp2_with (first | ((with_reducible refine gate_dst (N := 4) rfl ?_); refine box_event ?hg (N := 4) ?hd (cs := #[.int .i64 0, .int .i64 0]) (t := 54) ?hr ?_; (case hd => rfl); (case hg => rfl); (case hr => first | (go_simp; done) | (go_simp; rfl)); intro gb150 hg w16 hbox hb; have BK150 := Aside0.mk (hbox); have GW150 := Aside0.mk ((bz_ hg (lb0_ HB.out))); have GE150 := Aside0.mk ((bz_ hg (lb0_ HB.out))); replace HB := Aside0.mk (below_step (lb0_ HB.out) hb); clear hb hbox hg; obtain ⟨hcz17_0, hcz17_1⟩ := cz2_ BK150.out; obtain ⟨hfz17_0, hfz17_1⟩ := fz2_ BK150.out) | (go_at_call 74; (with_reducible refine (impl_within.calls ((rd_T54 l0 x7_1).f0) 0 999 true _ A5.out).mono ?_); rintro e w' ⟨rfl, ⟨nd, rfl⟩⟩; (try first | exact ⟨rfl, _, World.drewN_drewN _ _ _⟩ | exact ⟨rfl, _, Eq.trans (World.drewN_drewN _ _ _) (congrArg (World.drewN _) (Nat.add_assoc _ _ _))⟩)) | (go_at_call 75; (with_reducible refine (impl_isLevel.calls ((rd_T54 l0 x7_1).f1) true _ A7.out).mono ?_); rintro e w' ⟨rfl, ⟨nd, rfl⟩⟩; (try first | exact ⟨rfl, _, World.drewN_drewN _ _ _⟩ | exact ⟨rfl, _, Eq.trans (World.drewN_drewN _ _ _) (congrArg (World.drewN _) (Nat.add_assoc _ _ _))⟩); have p153 : 0 ≤ ((ji10) : Int) := dt_; have q153 : (ji10) < (l0.length : Int) := dt_; obtain ⟨ad153, e153, hx153_0, hx153_1⟩ := at_T54 HR0.out (ji10) p153 q153; obtain rfl : ad149 = ad153 := (by injection e153); have hn153_0 : ad149.block ≠ gb150 := Nat.ne_of_lt (Nat.lt_of_lt_of_le (by have := World.block_lt_of_cell? _ _ hx153_0; first | rwa [add_block] at this | exact this) GW150.out); have hn153_1 : ad149.block ≠ gb150 := Nat.ne_of_lt (Nat.lt_of_lt_of_le (by have := World.block_lt_of_cell? _ _ hx153_0; first | rwa [add_block] at this | exact this) GW150.out); replace hx153_0 := bc_ HB.out hx153_0; replace hx153_1 := bc_ HB.out hx153_1; replace hx153_0 := (cell_far (p := ⟨gb150, 0, none⟩) (by first | (rw [add_block]; exact hn153_0) | (show (Addr.add _ _).block ≠ _; rw [add_block]; exact hn153_0) | exact hn153_0) (.int .i64 ((rd_T54 l0 x7_1).f0))).trans hx153_0; replace hx153_1 := (cell_far (p := ⟨gb150, 0, none⟩) (by first | (rw [add_block]; exact hn153_0) | (show (Addr.add _ _).block ≠ _; rw [add_block]; exact hn153_0) | exact hn153_0) (.int .i64 ((rd_T54 l0 x7_1).f0))).trans hx153_1; replace hx153_0 := (cell_far (p := ⟨gb150, 1, none⟩) (by first | (rw [add_block]; exact hn153_1) | (show (Addr.add _ _).block ≠ _; rw [add_block]; exact hn153_1) | exact hn153_1) (.int .i64 ((rd_T54 l0 x7_1).f1))).trans hx153_0; replace hx153_1 := (cell_far (p := ⟨gb150, 1, none⟩) (by first | (rw [add_block]; exact hn153_1) | (show (Addr.add _ _).block ≠ _; rw [add_block]; exact hn153_1) | exact hn153_1) (.int .i64 ((rd_T54 l0 x7_1).f1))).trans hx153_1; (try have hy153_0 := fun (n_ : Nat) => (show ((((w16.drewN n_).setCell ⟨gb150, 0, none⟩ (.int .i64 ((rd_T54 l0 x7_1).f0))).setCell ⟨gb150, 1, none⟩ (.int .i64 ((rd_T54 l0 x7_1).f1)))).cell? _ = some _ from hx153_0)); (try have hy153_1 := fun (n_ : Nat) => (show ((((w16.drewN n_).setCell ⟨gb150, 0, none⟩ (.int .i64 ((rd_T54 l0 x7_1).f0))).setCell ⟨gb150, 1, none⟩ (.int .i64 ((rd_T54 l0 x7_1).f1)))).cell? _ = some _ from hx153_1)); clear hn153_0; clear hn153_1; replace p153 := eq_true p153; replace q153 := eq_true q153))
            repeat (go_quiet (first | ((with_reducible refine gate_dst (N := 4) rfl ?_); refine box_event ?hg (N := 4) ?hd (cs := #[.int .i64 0, .int .i64 0]) (t := 54) ?hr ?_; (case hd => rfl); (case hg => rfl); (case hr => first | (go_simp; done) | (go_simp; rfl)); intro gb150 hg w16 hbox hb; have BK150 := Aside0.mk (hbox); have GW150 := Aside0.mk ((bz_ hg (lb0_ HB.out))); have GE150 := Aside0.mk ((bz_ hg (lb0_ HB.out))); replace HB := Aside0.mk (below_step (lb0_ HB.out) hb); clear hb hbox hg; obtain ⟨hcz17_0, hcz17_1⟩ := cz2_ BK150.out; obtain ⟨hfz17_0, hfz17_1⟩ := fz2_ BK150.out) | (go_at_call 74; (with_reducible refine (impl_within.calls ((rd_T54 l0 x7_1).f0) 0 999 true _ A5.out).mono ?_); rintro e w' ⟨rfl, ⟨nd, rfl⟩⟩; (try first | exact ⟨rfl, _, World.drewN_drewN _ _ _⟩ | exact ⟨rfl, _, Eq.trans (World.drewN_drewN _ _ _) (congrArg (World.drewN _) (Nat.add_assoc _ _ _))⟩)) | (go_at_call 75; (with_reducible refine (impl_isLevel.calls ((rd_T54 l0 x7_1).f1) true _ A7.out).mono ?_); rintro e w' ⟨rfl, ⟨nd, rfl⟩⟩; (try first | exact ⟨rfl, _, World.drewN_drewN _ _ _⟩ | exact ⟨rfl, _, Eq.trans (World.drewN_drewN _ _ _) (congrArg (World.drewN _) (Nat.add_assoc _ _ _))⟩); have p153 : 0 ≤ ((ji10) : Int) := dt_; have q153 : (ji10) < (l0.length : Int) := dt_; obtain ⟨ad153, e153, hx153_0, hx153_1⟩ := at_T54 HR0.out (ji10) p153 q153; obtain rfl : ad149 = ad153 := (by injection e153); have hn153_0 : ad149.block ≠ gb150 := Nat.ne_of_lt (Nat.lt_of_lt_of_le (by have := World.block_lt_of_cell? _ _ hx153_0; first | rwa [add_block] at this | exact this) GW150.out); have hn153_1 : ad149.block ≠ gb150 := Nat.ne_of_lt (Nat.lt_of_lt_of_le (by have := World.block_lt_of_cell? _ _ hx153_0; first | rwa [add_block] at this | exact this) GW150.out); replace hx153_0 := bc_ HB.out hx153_0; replace hx153_1 := bc_ HB.out hx153_1; replace hx153_0 := (cell_far (p := ⟨gb150, 0, none⟩) (by first | (rw [add_block]; exact hn153_0) | (show (Addr.add _ _).block ≠ _; rw [add_block]; exact hn153_0) | exact hn153_0) (.int .i64 ((rd_T54 l0 x7_1).f0))).trans hx153_0; replace hx153_1 := (cell_far (p := ⟨gb150, 0, none⟩) (by first | (rw [add_block]; exact hn153_0) | (show (Addr.add _ _).block ≠ _; rw [add_block]; exact hn153_0) | exact hn153_0) (.int .i64 ((rd_T54 l0 x7_1).f0))).trans hx153_1; replace hx153_0 := (cell_far (p := ⟨gb150, 1, none⟩) (by first | (rw [add_block]; exact hn153_1) | (show (Addr.add _ _).block ≠ _; rw [add_block]; exact hn153_1) | exact hn153_1) (.int .i64 ((rd_T54 l0 x7_1).f1))).trans hx153_0; replace hx153_1 := (cell_far (p := ⟨gb150, 1, none⟩) (by first | (rw [add_block]; exact hn153_1) | (show (Addr.add _ _).block ≠ _; rw [add_block]; exact hn153_1) | exact hn153_1) (.int .i64 ((rd_T54 l0 x7_1).f1))).trans hx153_1; (try have hy153_0 := fun (n_ : Nat) => (show ((((w16.drewN n_).setCell ⟨gb150, 0, none⟩ (.int .i64 ((rd_T54 l0 x7_1).f0))).setCell ⟨gb150, 1, none⟩ (.int .i64 ((rd_T54 l0 x7_1).f1)))).cell? _ = some _ from hx153_0)); (try have hy153_1 := fun (n_ : Nat) => (show ((((w16.drewN n_).setCell ⟨gb150, 0, none⟩ (.int .i64 ((rd_T54 l0 x7_1).f0))).setCell ⟨gb150, 1, none⟩ (.int .i64 ((rd_T54 l0 x7_1).f1)))).cell? _ = some _ from hx153_1)); clear hn153_0; clear hn153_1; replace p153 := eq_true p153; replace q153 := eq_true q153)); try go_wp2_with (first | ((with_reducible refine gate_dst (N := 4) rfl ?_); refine box_event ?hg (N := 4) ?hd (cs := #[.int .i64 0, .int .i64 0]) (t := 54) ?hr ?_; (case hd => rfl); (case hg => rfl); (case hr => first | (go_simp; done) | (go_simp; rfl)); intro gb150 hg w16 hbox hb; have BK150 := Aside0.mk (hbox); have GW150 := Aside0.mk ((bz_ hg (lb0_ HB.out))); have GE150 := Aside0.mk ((bz_ hg (lb0_ HB.out))); replace HB := Aside0.mk (below_step (lb0_ HB.out) hb); clear hb hbox hg; obtain ⟨hcz17_0, hcz17_1⟩ := cz2_ BK150.out; obtain ⟨hfz17_0, hfz17_1⟩ := fz2_ BK150.out) | (go_at_call 74; (with_reducible refine (impl_within.calls ((rd_T54 l0 x7_1).f0) 0 999 true _ A5.out).mono ?_); rintro e w' ⟨rfl, ⟨nd, rfl⟩⟩; (try first | exact ⟨rfl, _, World.drewN_drewN _ _ _⟩ | exact ⟨rfl, _, Eq.trans (World.drewN_drewN _ _ _) (congrArg (World.drewN _) (Nat.add_assoc _ _ _))⟩)) | (go_at_call 75; (with_reducible refine (impl_isLevel.calls ((rd_T54 l0 x7_1).f1) true _ A7.out).mono ?_); rintro e w' ⟨rfl, ⟨nd, rfl⟩⟩; (try first | exact ⟨rfl, _, World.drewN_drewN _ _ _⟩ | exact ⟨rfl, _, Eq.trans (World.drewN_drewN _ _ _) (congrArg (World.drewN _) (Nat.add_assoc _ _ _))⟩); have p153 : 0 ≤ ((ji10) : Int) := dt_; have q153 : (ji10) < (l0.length : Int) := dt_; obtain ⟨ad153, e153, hx153_0, hx153_1⟩ := at_T54 HR0.out (ji10) p153 q153; obtain rfl : ad149 = ad153 := (by injection e153); have hn153_0 : ad149.block ≠ gb150 := Nat.ne_of_lt (Nat.lt_of_lt_of_le (by have := World.block_lt_of_cell? _ _ hx153_0; first | rwa [add_block] at this | exact this) GW150.out); have hn153_1 : ad149.block ≠ gb150 := Nat.ne_of_lt (Nat.lt_of_lt_of_le (by have := World.block_lt_of_cell? _ _ hx153_0; first | rwa [add_block] at this | exact this) GW150.out); replace hx153_0 := bc_ HB.out hx153_0; replace hx153_1 := bc_ HB.out hx153_1; replace hx153_0 := (cell_far (p := ⟨gb150, 0, none⟩) (by first | (rw [add_block]; exact hn153_0) | (show (Addr.add _ _).block ≠ _; rw [add_block]; exact hn153_0) | exact hn153_0) (.int .i64 ((rd_T54 l0 x7_1).f0))).trans hx153_0; replace hx153_1 := (cell_far (p := ⟨gb150, 0, none⟩) (by first | (rw [add_block]; exact hn153_0) | (show (Addr.add _ _).block ≠ _; rw [add_block]; exact hn153_0) | exact hn153_0) (.int .i64 ((rd_T54 l0 x7_1).f0))).trans hx153_1; replace hx153_0 := (cell_far (p := ⟨gb150, 1, none⟩) (by first | (rw [add_block]; exact hn153_1) | (show (Addr.add _ _).block ≠ _; rw [add_block]; exact hn153_1) | exact hn153_1) (.int .i64 ((rd_T54 l0 x7_1).f1))).trans hx153_0; replace hx153_1 := (cell_far (p := ⟨gb150, 1, none⟩) (by first | (rw [add_block]; exact hn153_1) | (show (Addr.add _ _).block ≠ _; rw [add_block]; exact hn153_1) | exact hn153_1) (.int .i64 ((rd_T54 l0 x7_1).f1))).trans hx153_1; (try have hy153_0 := fun (n_ : Nat) => (show ((((w16.drewN n_).setCell ⟨gb150, 0, none⟩ (.int .i64 ((rd_T54 l0 x7_1).f0))).setCell ⟨gb150, 1, none⟩ (.int .i64 ((rd_T54 l0 x7_1).f1)))).cell? _ = some _ from hx153_0)); (try have hy153_1 := fun (n_ : Nat) => (show ((((w16.drewN n_).setCell ⟨gb150, 0, none⟩ (.int .i64 ((rd_T54 l0 x7_1).f0))).setCell ⟨gb150, 1, none⟩ (.int .i64 ((rd_T54 l0 x7_1).f1)))).cell? _ = some _ from hx153_1)); clear hn153_0; clear hn153_1; replace p153 := eq_true p153; replace q153 := eq_true q153)))
            go_roundg k1
            case measure => have := HK1.out; omega
            case rel => exact ⟨(wrap64 (x7_1 + 1)), (by first | rfl | (simp; done) | (simp [*]; done)), H', ⟨by have := HK1.out; omega⟩, ⟨lb1_ HB.out GE150.out⟩⟩
          ·
           rw [if_neg c12] at H
           exact absurd H (by simp)
         ·
          rw [if_neg c11] at H
          exact absurd H (by simp)
        ·
         rw [if_neg c9] at H
         have c9b0 : decide (0 < x7_1) = false := decide_eq_false c9; clear c9; have H' := Aside0.mk H; clear H; have p149 : 0 ≤ (x7_1 : Int) := dt_; have q149 : x7_1 < (l0.length : Int) := dt_; obtain ⟨ad149, e149, hx149_0, hx149_1⟩ := at_T54 HR0.out x7_1 p149 q149
         cases e149
         replace hx149_0 := bc_ HB.out hx149_0; replace hx149_1 := bc_ HB.out hx149_1; replace p149 := eq_true p149; replace q149 := eq_true q149
         go_wp2_with (first | ((with_reducible refine gate_dst (N := 4) rfl ?_); refine box_event ?hg (N := 4) ?hd (cs := #[.int .i64 0, .int .i64 0]) (t := 54) ?hr ?_; (case hd => rfl); (case hg => rfl); (case hr => first | (go_simp; done) | (go_simp; rfl)); intro gb150 hg w18 hbox hb; have BK150 := Aside0.mk (hbox); have GW150 := Aside0.mk ((bz_ hg (lb0_ HB.out))); have GE150 := Aside0.mk ((bz_ hg (lb0_ HB.out))); replace HB := Aside0.mk (below_step (lb0_ HB.out) hb); clear hb hbox hg; obtain ⟨hcz19_0, hcz19_1⟩ := cz2_ BK150.out; obtain ⟨hfz19_0, hfz19_1⟩ := fz2_ BK150.out) | (go_at_call 74; (with_reducible refine (impl_within.calls ((rd_T54 l0 x7_1).f0) 0 999 true _ A5.out).mono ?_); rintro e w' ⟨rfl, ⟨nd, rfl⟩⟩; (try first | exact ⟨rfl, _, World.drewN_drewN _ _ _⟩ | exact ⟨rfl, _, Eq.trans (World.drewN_drewN _ _ _) (congrArg (World.drewN _) (Nat.add_assoc _ _ _))⟩)) | (go_at_call 75; (with_reducible refine (impl_isLevel.calls ((rd_T54 l0 x7_1).f1) true _ A7.out).mono ?_); rintro e w' ⟨rfl, ⟨nd, rfl⟩⟩; (try first | exact ⟨rfl, _, World.drewN_drewN _ _ _⟩ | exact ⟨rfl, _, Eq.trans (World.drewN_drewN _ _ _) (congrArg (World.drewN _) (Nat.add_assoc _ _ _))⟩)))
         repeat (go_quiet (first | ((with_reducible refine gate_dst (N := 4) rfl ?_); refine box_event ?hg (N := 4) ?hd (cs := #[.int .i64 0, .int .i64 0]) (t := 54) ?hr ?_; (case hd => rfl); (case hg => rfl); (case hr => first | (go_simp; done) | (go_simp; rfl)); intro gb150 hg w18 hbox hb; have BK150 := Aside0.mk (hbox); have GW150 := Aside0.mk ((bz_ hg (lb0_ HB.out))); have GE150 := Aside0.mk ((bz_ hg (lb0_ HB.out))); replace HB := Aside0.mk (below_step (lb0_ HB.out) hb); clear hb hbox hg; obtain ⟨hcz19_0, hcz19_1⟩ := cz2_ BK150.out; obtain ⟨hfz19_0, hfz19_1⟩ := fz2_ BK150.out) | (go_at_call 74; (with_reducible refine (impl_within.calls ((rd_T54 l0 x7_1).f0) 0 999 true _ A5.out).mono ?_); rintro e w' ⟨rfl, ⟨nd, rfl⟩⟩; (try first | exact ⟨rfl, _, World.drewN_drewN _ _ _⟩ | exact ⟨rfl, _, Eq.trans (World.drewN_drewN _ _ _) (congrArg (World.drewN _) (Nat.add_assoc _ _ _))⟩)) | (go_at_call 75; (with_reducible refine (impl_isLevel.calls ((rd_T54 l0 x7_1).f1) true _ A7.out).mono ?_); rintro e w' ⟨rfl, ⟨nd, rfl⟩⟩; (try first | exact ⟨rfl, _, World.drewN_drewN _ _ _⟩ | exact ⟨rfl, _, Eq.trans (World.drewN_drewN _ _ _) (congrArg (World.drewN _) (Nat.add_assoc _ _ _))⟩))); try go_wp2_with (first | ((with_reducible refine gate_dst (N := 4) rfl ?_); refine box_event ?hg (N := 4) ?hd (cs := #[.int .i64 0, .int .i64 0]) (t := 54) ?hr ?_; (case hd => rfl); (case hg => rfl); (case hr => first | (go_simp; done) | (go_simp; rfl)); intro gb150 hg w18 hbox hb; have BK150 := Aside0.mk (hbox); have GW150 := Aside0.mk ((bz_ hg (lb0_ HB.out))); have GE150 := Aside0.mk ((bz_ hg (lb0_ HB.out))); replace HB := Aside0.mk (below_step (lb0_ HB.out) hb); clear hb hbox hg; obtain ⟨hcz19_0, hcz19_1⟩ := cz2_ BK150.out; obtain ⟨hfz19_0, hfz19_1⟩ := fz2_ BK150.out) | (go_at_call 74; (with_reducible refine (impl_within.calls ((rd_T54 l0 x7_1).f0) 0 999 true _ A5.out).mono ?_); rintro e w' ⟨rfl, ⟨nd, rfl⟩⟩; (try first | exact ⟨rfl, _, World.drewN_drewN _ _ _⟩ | exact ⟨rfl, _, Eq.trans (World.drewN_drewN _ _ _) (congrArg (World.drewN _) (Nat.add_assoc _ _ _))⟩)) | (go_at_call 75; (with_reducible refine (impl_isLevel.calls ((rd_T54 l0 x7_1).f1) true _ A7.out).mono ?_); rintro e w' ⟨rfl, ⟨nd, rfl⟩⟩; (try first | exact ⟨rfl, _, World.drewN_drewN _ _ _⟩ | exact ⟨rfl, _, Eq.trans (World.drewN_drewN _ _ _) (congrArg (World.drewN _) (Nat.add_assoc _ _ _))⟩))))
         go_roundg k1
         case measure => have := HK1.out; omega
         case rel => exact ⟨(wrap64 (x7_1 + 1)), (by first | rfl | (simp; done) | (simp [*]; done)), H', ⟨by have := HK1.out; omega⟩, ⟨lb1_ HB.out GE150.out⟩⟩
       ·
        replace c8 := Bool.eq_false_iff.mpr c8; subst c8
        have H1 : (some false) = some r := by rw [if_neg (show ¬ (false = true) by decide)] at H; exact H
        clear H; have H := H1; clear H1; obtain rfl := Option.some.inj H; have p149 : 0 ≤ (x7_1 : Int) := dt_; have q149 : x7_1 < (l0.length : Int) := dt_; obtain ⟨ad149, e149, hx149_0, hx149_1⟩ := at_T54 HR0.out x7_1 p149 q149
        cases e149
        replace hx149_0 := bc_ HB.out hx149_0; replace hx149_1 := bc_ HB.out hx149_1; replace p149 := eq_true p149; replace q149 := eq_true q149
        go_wp2_with (first | ((with_reducible refine gate_dst (N := 4) rfl ?_); refine box_event ?hg (N := 4) ?hd (cs := #[.int .i64 0, .int .i64 0]) (t := 54) ?hr ?_; (case hd => rfl); (case hg => rfl); (case hr => first | (go_simp; done) | (go_simp; rfl)); intro gb150 hg w20 hbox hb; have BK150 := Aside0.mk (hbox); have GW150 := Aside0.mk ((bz_ hg (lb0_ HB.out))); have GE150 := Aside0.mk ((bz_ hg (lb0_ HB.out))); replace HB := Aside0.mk (below_step (lb0_ HB.out) hb); clear hb hbox hg; obtain ⟨hcz21_0, hcz21_1⟩ := cz2_ BK150.out; obtain ⟨hfz21_0, hfz21_1⟩ := fz2_ BK150.out) | (go_at_call 74; (with_reducible refine (impl_within.calls ((rd_T54 l0 x7_1).f0) 0 999 true _ A5.out).mono ?_); rintro e w' ⟨rfl, ⟨nd, rfl⟩⟩; (try first | exact ⟨rfl, _, World.drewN_drewN _ _ _⟩ | exact ⟨rfl, _, Eq.trans (World.drewN_drewN _ _ _) (congrArg (World.drewN _) (Nat.add_assoc _ _ _))⟩)) | (go_at_call 75; (with_reducible refine (impl_isLevel.calls ((rd_T54 l0 x7_1).f1) false _ A7.out).mono ?_); rintro e w' ⟨rfl, ⟨nd, rfl⟩⟩; (try first | exact ⟨rfl, _, World.drewN_drewN _ _ _⟩ | exact ⟨rfl, _, Eq.trans (World.drewN_drewN _ _ _) (congrArg (World.drewN _) (Nat.add_assoc _ _ _))⟩)))
        repeat (go_quiet (first | ((with_reducible refine gate_dst (N := 4) rfl ?_); refine box_event ?hg (N := 4) ?hd (cs := #[.int .i64 0, .int .i64 0]) (t := 54) ?hr ?_; (case hd => rfl); (case hg => rfl); (case hr => first | (go_simp; done) | (go_simp; rfl)); intro gb150 hg w20 hbox hb; have BK150 := Aside0.mk (hbox); have GW150 := Aside0.mk ((bz_ hg (lb0_ HB.out))); have GE150 := Aside0.mk ((bz_ hg (lb0_ HB.out))); replace HB := Aside0.mk (below_step (lb0_ HB.out) hb); clear hb hbox hg; obtain ⟨hcz21_0, hcz21_1⟩ := cz2_ BK150.out; obtain ⟨hfz21_0, hfz21_1⟩ := fz2_ BK150.out) | (go_at_call 74; (with_reducible refine (impl_within.calls ((rd_T54 l0 x7_1).f0) 0 999 true _ A5.out).mono ?_); rintro e w' ⟨rfl, ⟨nd, rfl⟩⟩; (try first | exact ⟨rfl, _, World.drewN_drewN _ _ _⟩ | exact ⟨rfl, _, Eq.trans (World.drewN_drewN _ _ _) (congrArg (World.drewN _) (Nat.add_assoc _ _ _))⟩)) | (go_at_call 75; (with_reducible refine (impl_isLevel.calls ((rd_T54 l0 x7_1).f1) false _ A7.out).mono ?_); rintro e w' ⟨rfl, ⟨nd, rfl⟩⟩; (try first | exact ⟨rfl, _, World.drewN_drewN _ _ _⟩ | exact ⟨rfl, _, Eq.trans (World.drewN_drewN _ _ _) (congrArg (World.drewN _) (Nat.add_assoc _ _ _))⟩))); try go_wp2_with (first | ((with_reducible refine gate_dst (N := 4) rfl ?_); refine box_event ?hg (N := 4) ?hd (cs := #[.int .i64 0, .int .i64 0]) (t := 54) ?hr ?_; (case hd => rfl); (case hg => rfl); (case hr => first | (go_simp; done) | (go_simp; rfl)); intro gb150 hg w20 hbox hb; have BK150 := Aside0.mk (hbox); have GW150 := Aside0.mk ((bz_ hg (lb0_ HB.out))); have GE150 := Aside0.mk ((bz_ hg (lb0_ HB.out))); replace HB := Aside0.mk (below_step (lb0_ HB.out) hb); clear hb hbox hg; obtain ⟨hcz21_0, hcz21_1⟩ := cz2_ BK150.out; obtain ⟨hfz21_0, hfz21_1⟩ := fz2_ BK150.out) | (go_at_call 74; (with_reducible refine (impl_within.calls ((rd_T54 l0 x7_1).f0) 0 999 true _ A5.out).mono ?_); rintro e w' ⟨rfl, ⟨nd, rfl⟩⟩; (try first | exact ⟨rfl, _, World.drewN_drewN _ _ _⟩ | exact ⟨rfl, _, Eq.trans (World.drewN_drewN _ _ _) (congrArg (World.drewN _) (Nat.add_assoc _ _ _))⟩)) | (go_at_call 75; (with_reducible refine (impl_isLevel.calls ((rd_T54 l0 x7_1).f1) false _ A7.out).mono ?_); rintro e w' ⟨rfl, ⟨nd, rfl⟩⟩; (try first | exact ⟨rfl, _, World.drewN_drewN _ _ _⟩ | exact ⟨rfl, _, Eq.trans (World.drewN_drewN _ _ _) (congrArg (World.drewN _) (Nat.add_assoc _ _ _))⟩))))
        go_ret
        exact ⟨rr_, lb1_ HB.out GE150.out⟩
      ·
       replace c6 := Bool.eq_false_iff.mpr c6
       subst c6
       have H1 : (some false) = some r := by rw [if_neg (show ¬ (false = true) by decide)] at H; exact H
       clear H
       have H := H1
       clear H1
       obtain rfl := Option.some.inj H
       have p149 : 0 ≤ (x7_1 : Int) := dt_
       have q149 : x7_1 < (l0.length : Int) := dt_
       obtain ⟨ad149, e149, hx149_0, hx149_1⟩ := at_T54 HR0.out x7_1 p149 q149
       cases e149
       replace hx149_0 := bc_ HB.out hx149_0
       replace hx149_1 := bc_ HB.out hx149_1
       replace p149 := eq_true p149
       replace q149 := eq_true q149
       go_wp2_with (first | ((with_reducible refine gate_dst (N := 4) rfl ?_); refine box_event ?hg (N := 4) ?hd (cs := #[.int .i64 0, .int .i64 0]) (t := 54) ?hr ?_; (case hd => rfl); (case hg => rfl); (case hr => first | (go_simp; done) | (go_simp; rfl)); intro gb150 hg w22 hbox hb; have BK150 := Aside0.mk (hbox); have GW150 := Aside0.mk ((bz_ hg (lb0_ HB.out))); have GE150 := Aside0.mk ((bz_ hg (lb0_ HB.out))); replace HB := Aside0.mk (below_step (lb0_ HB.out) hb); clear hb hbox hg; obtain ⟨hcz23_0, hcz23_1⟩ := cz2_ BK150.out; obtain ⟨hfz23_0, hfz23_1⟩ := fz2_ BK150.out) | (go_at_call 74; (with_reducible refine (impl_within.calls ((rd_T54 l0 x7_1).f0) 0 999 false _ A5.out).mono ?_); rintro e w' ⟨rfl, ⟨nd, rfl⟩⟩; (try first | exact ⟨rfl, _, World.drewN_drewN _ _ _⟩ | exact ⟨rfl, _, Eq.trans (World.drewN_drewN _ _ _) (congrArg (World.drewN _) (Nat.add_assoc _ _ _))⟩)))
       repeat (go_quiet (first | ((with_reducible refine gate_dst (N := 4) rfl ?_); refine box_event ?hg (N := 4) ?hd (cs := #[.int .i64 0, .int .i64 0]) (t := 54) ?hr ?_; (case hd => rfl); (case hg => rfl); (case hr => first | (go_simp; done) | (go_simp; rfl)); intro gb150 hg w22 hbox hb; have BK150 := Aside0.mk (hbox); have GW150 := Aside0.mk ((bz_ hg (lb0_ HB.out))); have GE150 := Aside0.mk ((bz_ hg (lb0_ HB.out))); replace HB := Aside0.mk (below_step (lb0_ HB.out) hb); clear hb hbox hg; obtain ⟨hcz23_0, hcz23_1⟩ := cz2_ BK150.out; obtain ⟨hfz23_0, hfz23_1⟩ := fz2_ BK150.out) | (go_at_call 74; (with_reducible refine (impl_within.calls ((rd_T54 l0 x7_1).f0) 0 999 false _ A5.out).mono ?_); rintro e w' ⟨rfl, ⟨nd, rfl⟩⟩; (try first | exact ⟨rfl, _, World.drewN_drewN _ _ _⟩ | exact ⟨rfl, _, Eq.trans (World.drewN_drewN _ _ _) (congrArg (World.drewN _) (Nat.add_assoc _ _ _))⟩))); try go_wp2_with (first | ((with_reducible refine gate_dst (N := 4) rfl ?_); refine box_event ?hg (N := 4) ?hd (cs := #[.int .i64 0, .int .i64 0]) (t := 54) ?hr ?_; (case hd => rfl); (case hg => rfl); (case hr => first | (go_simp; done) | (go_simp; rfl)); intro gb150 hg w22 hbox hb; have BK150 := Aside0.mk (hbox); have GW150 := Aside0.mk ((bz_ hg (lb0_ HB.out))); have GE150 := Aside0.mk ((bz_ hg (lb0_ HB.out))); replace HB := Aside0.mk (below_step (lb0_ HB.out) hb); clear hb hbox hg; obtain ⟨hcz23_0, hcz23_1⟩ := cz2_ BK150.out; obtain ⟨hfz23_0, hfz23_1⟩ := fz2_ BK150.out) | (go_at_call 74; (with_reducible refine (impl_within.calls ((rd_T54 l0 x7_1).f0) 0 999 false _ A5.out).mono ?_); rintro e w' ⟨rfl, ⟨nd, rfl⟩⟩; (try first | exact ⟨rfl, _, World.drewN_drewN _ _ _⟩ | exact ⟨rfl, _, Eq.trans (World.drewN_drewN _ _ _) (congrArg (World.drewN _) (Nat.add_assoc _ _ _))⟩))))
       go_ret
       exact ⟨rr_, lb1_ HB.out GE150.out⟩
     ·
      rw [if_neg c4] at H
      exact absurd H (by simp)
    ·
     rw [if_neg c3] at H
     exact absurd H (by simp)
   ·
    rw [if_neg c2] at H
    have c2b0 : decide (x7_1 < (l0.length : Int)) = false := decide_eq_false c2
    clear c2
    obtain rfl := Option.some.inj H
    go_wp2
    repeat (go_quiet (fail); try go_wp2)
    go_ret
    exact ⟨rr_, lb0_ HB.out⟩
def impl_hours.f (l0 : List (S54)) : Option (Int × Int) := if (l0.length : Int) = 0 then (some (0, (-1))) else (if 0 < (l0.length : Int) then (if 0 ≤ (wrap64 ((l0.length : Int) - 1)) then (if (wrap64 ((l0.length : Int) - 1)) < (l0.length : Int) then (some ((rd_T54 l0 0).f0, (rd_T54 l0 (wrap64 ((l0.length : Int) - 1))).f0)) else (none)) else (none)) else (none))
set_option maxHeartbeats 8000000 in
set_option maxRecDepth 100000 in
theorem impl_hours.calls (A0 : Option Addr) (c0 : Nat) (l0 : List (S54)) (r1 : Int) (r2 : Int) (w : World) (hr0 : Kd.C k54 w A0 l0.length l0) (hc0 : l0.length ≤ c0) (h : impl_hours.f l0 = some (r1, r2)) :
  Calls Try.prog 76 #[.slice A0 l0.length c0] w fun e w' => e = .returned (.tuple #[.int .i64 r1, .int .i64 r2]) ∧ Drawn0 w w' := by
 have HR0 := Aside0.mk hr0
 have HC0 := Aside0.mk hc0
 clear hr0 hc0
 have H : (if (l0.length : Int) = 0 then (some (0, (-1))) else (if 0 < (l0.length : Int) then (if 0 ≤ (wrap64 ((l0.length : Int) - 1)) then (if (wrap64 ((l0.length : Int) - 1)) < (l0.length : Int) then (some ((rd_T54 l0 0).f0, (rd_T54 l0 (wrap64 ((l0.length : Int) - 1))).f0)) else (none)) else (none)) else (none))) = some (r1, r2) := h
 clear h
 by_cases c2 : (l0.length : Int) = 0
 ·
  rw [if_pos c2] at H
  have c2b0 : ((l0.length : Int) == 0) = true := beq_iff_eq.mpr c2
  have c2b1 : ((l0.length : Int) != 0) = false := bne_eq_false_iff_eq.mpr c2
  clear c2
  simp only [Option.some.injEq, Prod.mk.injEq] at H
  obtain ⟨rfl, rfl⟩ := H
  go_enter Try.func76, Try.ntmps76
  go_wp2
  repeat (go_quiet (fail); try go_wp2)
  go_ret2
  exact ⟨by first | rfl | (simp; done) | (simp [*]; done), by repeat (first | exact Drawn0.refl _ | apply Drawn0.step)⟩
 ·
  rw [if_neg c2] at H
  have c2b0 : ((l0.length : Int) == 0) = false := beq_eq_false_iff_ne.mpr c2
  have c2b1 : ((l0.length : Int) != 0) = true := bne_iff_ne.mpr c2
  have c2b2 : ¬ (l0 = []) := fun h_ => c2 (by rw [h_]; rfl)
  by_cases c3 : 0 < (l0.length : Int)
  ·
   rw [if_pos c3] at H
   have c3b0 : decide (0 < (l0.length : Int)) = true := decide_eq_true c3
   have c3b1 : decide (0 < l0.length) = true := decide_eq_true (by omega)
   clear c3
   obtain ⟨ji4, hji4⟩ : ∃ j_ : Int, (wrap64 ((l0.length : Int) - 1)) = j_ := ⟨_, rfl⟩
   replace H : (if 0 ≤ (ji4) then (if (ji4) < (l0.length : Int) then (some ((rd_T54 l0 0).f0, (rd_T54 l0 (ji4)).f0)) else (none)) else (none)) = some (r1, r2) := by first | (rw [hji4] at H; exact H) | (simp only [hji4] at H ⊢; exact H)
   have hji4w : (IntKind.i64.wrap ((l0.length : Int) - 1)) = ji4 := (i64_w _).trans hji4
   by_cases c5 : 0 ≤ (ji4)
   ·
    rw [if_pos c5] at H
    have c5b0 : decide (0 ≤ (ji4)) = true := decide_eq_true c5
    clear c5
    by_cases c6 : (ji4) < (l0.length : Int)
    ·
     rw [if_pos c6] at H
     have c6b0 : decide ((ji4) < (l0.length : Int)) = true := decide_eq_true c6
     clear c6
     simp only [Option.some.injEq, Prod.mk.injEq] at H
     obtain ⟨rfl, rfl⟩ := H
     have p154 : 0 ≤ (0 : Int) := (by omega)
     have q154 : 0 < (l0.length : Int) := dt_
     obtain ⟨ad154, e154, hx154_0, hx154_1⟩ := at_T54 HR0.out 0 p154 q154
     cases e154
     have qi154 : (0 < l0.length) = True := eq_true (by omega)
     (try rw [show ((0 : Int)).toNat = 0 from rfl] at hx154_0)
     (try rw [show 0 * 2 = 0 from rfl] at hx154_0)
     (try rw [Addr.add_zero'] at hx154_0)
     (try rw [show ((0 : Int)).toNat = 0 from rfl] at hx154_1)
     (try rw [show 0 * 2 = 0 from rfl] at hx154_1)
     (try rw [Addr.add_zero'] at hx154_1)
     replace p154 := eq_true p154
     replace q154 := eq_true q154
     have p155 : 0 ≤ ((ji4) : Int) := dt_
     have q155 : (ji4) < (l0.length : Int) := dt_
     obtain ⟨ad155, e155, hx155_0, hx155_1⟩ := at_T54 HR0.out (ji4) p155 q155
     obtain rfl : ad154 = ad155 := (by injection e155)
     replace p155 := eq_true p155
     replace q155 := eq_true q155
     go_enter Try.func76, Try.ntmps76
     go_wp2
     repeat (go_quiet (fail); try go_wp2)
     go_ret2
     exact ⟨by first | rfl | (simp; done) | (simp only [← hji4] <;> (first | rfl | simp)) | (simp [*]; done), by repeat (first | exact Drawn0.refl _ | apply Drawn0.step)⟩
    ·
     rw [if_neg c6] at H
     exact absurd H (by simp)
   ·
    rw [if_neg c5] at H
    exact absurd H (by simp)
  ·
   rw [if_neg c3] at H
   exact absurd H (by simp)
def impl_isStation.f (a0 : Int) : Option (Bool) := (impl_within.f a0 0 7).bind fun t160 => (some t160)
set_option maxHeartbeats 8000000 in
set_option maxRecDepth 100000 in
theorem impl_isStation.calls (a0 : Int) (r : Bool) (w : World) (h : impl_isStation.f a0 = some r) :
  Calls Try.prog 90 #[.int .i64 a0] w fun e w' => e = .returned (.bool r) ∧ Drawn0 w w' := by
 have H : ((impl_within.f a0 0 7).bind fun t160 => (some t160)) = some r := h
 clear h
 replace H := Option.bind_eq_some_iff.mp H
 obtain ⟨t160, A20, H⟩ := H
 replace H : (some t160) = some r := H
 have A2 := Aside0.mk A20
 clear A20
 obtain rfl := Option.some.inj H
 go_enter Try.func90, Try.ntmps90
 go_wp2_with (first | ((with_reducible refine gate_callee (f := 74) rfl ?_); refine ga_ (some 4) Try.func74 #[.int .i64 a0, .int .i64 0, .int .i64 7] ?_; (with_reducible refine (impl_within.calls a0 0 7 t160 _ A2.out).mono ?_); rintro e w' ⟨rfl, ⟨nd, rfl⟩⟩; refine ⟨_, rfl, ?_⟩))
 go_ret
 exact ⟨by first | rfl | (simp; done) | (simp [*]; done), by repeat (first | exact Drawn0.refl _ | apply Drawn0.step)⟩
def impl_isSump.f (a0_0 : Int) (a0_1 : Int) (a0_2 : Int) : Option (Bool) := (impl_isStation.f a0_0).bind fun t162 => (if t162 = true then ((impl_isLevel.f a0_1).bind fun t163 => (if t163 = true then ((impl_isLevel.f a0_2).bind fun t164 => (if t164 = true then (some (decide (a0_2 ≤ a0_1))) else (some false))) else (some false))) else (some false))
set_option maxHeartbeats 8000000 in
set_option maxRecDepth 100000 in
theorem impl_isSump.calls (a0_0 : Int) (a0_1 : Int) (a0_2 : Int) (r : Bool) (w : World) (h : impl_isSump.f a0_0 a0_1 a0_2 = some r) :
  Calls Try.prog 59 #[.agg #[.int .i64 a0_0, .int .i64 a0_1, .int .i64 a0_2]] w fun e w' => e = .returned (.bool r) ∧ Below w.heap.size w w' := by
 have hu30 := Try.underlying30
 have HB := Aside0.mk (Below.refl w.heap.size w)
 have H : ((impl_isStation.f a0_0).bind fun t162 => (if t162 = true then ((impl_isLevel.f a0_1).bind fun t163 => (if t163 = true then ((impl_isLevel.f a0_2).bind fun t164 => (if t164 = true then (some (decide (a0_2 ≤ a0_1))) else (some false))) else (some false))) else (some false))) = some r := h
 clear h
 replace H := Option.bind_eq_some_iff.mp H
 obtain ⟨t162, A20, H⟩ := H
 replace H : (if t162 = true then ((impl_isLevel.f a0_1).bind fun t163 => (if t163 = true then ((impl_isLevel.f a0_2).bind fun t164 => (if t164 = true then (some (decide (a0_2 ≤ a0_1))) else (some false))) else (some false))) else (some false)) = some r := H
 have A2 := Aside0.mk A20
 clear A20
 by_cases c3 : t162 = true
 ·
  subst c3
  have H1 : ((impl_isLevel.f a0_1).bind fun t163 => (if t163 = true then ((impl_isLevel.f a0_2).bind fun t164 => (if t164 = true then (some (decide (a0_2 ≤ a0_1))) else (some false))) else (some false))) = some r := by rw [if_pos rfl] at H; exact H
  clear H
  have H := H1
  clear H1
  replace H := Option.bind_eq_some_iff.mp H
  obtain ⟨t163, A40, H⟩ := H
  replace H : (if t163 = true then ((impl_isLevel.f a0_2).bind fun t164 => (if t164 = true then (some (decide (a0_2 ≤ a0_1))) else (some false))) else (some false)) = some r := H
  have A4 := Aside0.mk A40
  clear A40
  by_cases c5 : t163 = true
  ·
   subst c5
   have H1 : ((impl_isLevel.f a0_2).bind fun t164 => (if t164 = true then (some (decide (a0_2 ≤ a0_1))) else (some false))) = some r := by rw [if_pos rfl] at H; exact H
   clear H
   have H := H1
   clear H1
   replace H := Option.bind_eq_some_iff.mp H
   obtain ⟨t164, A60, H⟩ := H
   replace H : (if t164 = true then (some (decide (a0_2 ≤ a0_1))) else (some false)) = some r := H
   have A6 := Aside0.mk A60
   clear A60
   by_cases c7 : t164 = true
   ·
    subst c7
    have H1 : (some (decide (a0_2 ≤ a0_1))) = some r := by rw [if_pos rfl] at H; exact H
    clear H
    have H := H1
    clear H1
    obtain rfl := Option.some.inj H
    go_enter Try.func59, Try.ntmps59
    go_wp2_with (first | ((with_reducible refine gate_dst (N := 1) rfl ?_); refine box_event ?hg (N := 1) ?hd (cs := #[.int .i64 a0_0, .int .i64 a0_1, .int .i64 a0_2]) (t := 30) ?hr ?_; (case hd => rfl); (case hg => rfl); (case hr => first | (go_simp; done) | (go_simp; rfl)); intro gb161 hg w8 hbox hb; have BK161 := Aside0.mk (hbox); have GW161 := Aside0.mk ((bz_ hg (lb0_ HB.out))); have GE161 := Aside0.mk ((bz_ hg (lb0_ HB.out))); replace HB := Aside0.mk (below_step (lb0_ HB.out) hb); clear hb hbox hg; obtain ⟨hcz9_0, hcz9_1, hcz9_2⟩ := cz3_ BK161.out; obtain ⟨hfz9_0, hfz9_1, hfz9_2⟩ := fz3_ BK161.out) | ((with_reducible refine gate_callee (f := 90) rfl ?_); refine ga_ (some 5) Try.func90 #[.int .i64 a0_0] ?_; (with_reducible refine (impl_isStation.calls a0_0 true _ A2.out).mono ?_); rintro e w' ⟨rfl, ⟨nd, rfl⟩⟩; refine ⟨_, rfl, ?_⟩) | (go_at_call 75; (with_reducible refine (impl_isLevel.calls a0_1 true _ A4.out).mono ?_); rintro e w' ⟨rfl, ⟨nd, rfl⟩⟩) | (go_at_call 75; (with_reducible refine (impl_isLevel.calls a0_2 true _ A6.out).mono ?_); rintro e w' ⟨rfl, ⟨nd, rfl⟩⟩))
    go_ret
    exact ⟨rr_, lb1_ HB.out GE161.out⟩
   ·
    replace c7 := Bool.eq_false_iff.mpr c7
    subst c7
    have H1 : (some false) = some r := by rw [if_neg (show ¬ (false = true) by decide)] at H; exact H
    clear H
    have H := H1
    clear H1
    obtain rfl := Option.some.inj H
    go_enter Try.func59, Try.ntmps59
    go_wp2_with (first | ((with_reducible refine gate_dst (N := 1) rfl ?_); refine box_event ?hg (N := 1) ?hd (cs := #[.int .i64 a0_0, .int .i64 a0_1, .int .i64 a0_2]) (t := 30) ?hr ?_; (case hd => rfl); (case hg => rfl); (case hr => first | (go_simp; done) | (go_simp; rfl)); intro gb161 hg w10 hbox hb; have BK161 := Aside0.mk (hbox); have GW161 := Aside0.mk ((bz_ hg (lb0_ HB.out))); have GE161 := Aside0.mk ((bz_ hg (lb0_ HB.out))); replace HB := Aside0.mk (below_step (lb0_ HB.out) hb); clear hb hbox hg; obtain ⟨hcz11_0, hcz11_1, hcz11_2⟩ := cz3_ BK161.out; obtain ⟨hfz11_0, hfz11_1, hfz11_2⟩ := fz3_ BK161.out) | ((with_reducible refine gate_callee (f := 90) rfl ?_); refine ga_ (some 5) Try.func90 #[.int .i64 a0_0] ?_; (with_reducible refine (impl_isStation.calls a0_0 true _ A2.out).mono ?_); rintro e w' ⟨rfl, ⟨nd, rfl⟩⟩; refine ⟨_, rfl, ?_⟩) | (go_at_call 75; (with_reducible refine (impl_isLevel.calls a0_1 true _ A4.out).mono ?_); rintro e w' ⟨rfl, ⟨nd, rfl⟩⟩) | (go_at_call 75; (with_reducible refine (impl_isLevel.calls a0_2 false _ A6.out).mono ?_); rintro e w' ⟨rfl, ⟨nd, rfl⟩⟩))
    go_ret
    exact ⟨rr_, lb1_ HB.out GE161.out⟩
  ·
   replace c5 := Bool.eq_false_iff.mpr c5
   subst c5
   have H1 : (some false) = some r := by rw [if_neg (show ¬ (false = true) by decide)] at H; exact H
   clear H
   have H := H1
   clear H1
   obtain rfl := Option.some.inj H
   go_enter Try.func59, Try.ntmps59
   go_wp2_with (first | ((with_reducible refine gate_dst (N := 1) rfl ?_); refine box_event ?hg (N := 1) ?hd (cs := #[.int .i64 a0_0, .int .i64 a0_1, .int .i64 a0_2]) (t := 30) ?hr ?_; (case hd => rfl); (case hg => rfl); (case hr => first | (go_simp; done) | (go_simp; rfl)); intro gb161 hg w12 hbox hb; have BK161 := Aside0.mk (hbox); have GW161 := Aside0.mk ((bz_ hg (lb0_ HB.out))); have GE161 := Aside0.mk ((bz_ hg (lb0_ HB.out))); replace HB := Aside0.mk (below_step (lb0_ HB.out) hb); clear hb hbox hg; obtain ⟨hcz13_0, hcz13_1, hcz13_2⟩ := cz3_ BK161.out; obtain ⟨hfz13_0, hfz13_1, hfz13_2⟩ := fz3_ BK161.out) | ((with_reducible refine gate_callee (f := 90) rfl ?_); refine ga_ (some 5) Try.func90 #[.int .i64 a0_0] ?_; (with_reducible refine (impl_isStation.calls a0_0 true _ A2.out).mono ?_); rintro e w' ⟨rfl, ⟨nd, rfl⟩⟩; refine ⟨_, rfl, ?_⟩) | (go_at_call 75; (with_reducible refine (impl_isLevel.calls a0_1 false _ A4.out).mono ?_); rintro e w' ⟨rfl, ⟨nd, rfl⟩⟩))
   go_ret
   exact ⟨rr_, lb1_ HB.out GE161.out⟩
 ·
  replace c3 := Bool.eq_false_iff.mpr c3
  subst c3
  have H1 : (some false) = some r := by rw [if_neg (show ¬ (false = true) by decide)] at H; exact H
  clear H
  have H := H1
  clear H1
  obtain rfl := Option.some.inj H
  go_enter Try.func59, Try.ntmps59
  go_wp2_with (first | ((with_reducible refine gate_dst (N := 1) rfl ?_); refine box_event ?hg (N := 1) ?hd (cs := #[.int .i64 a0_0, .int .i64 a0_1, .int .i64 a0_2]) (t := 30) ?hr ?_; (case hd => rfl); (case hg => rfl); (case hr => first | (go_simp; done) | (go_simp; rfl)); intro gb161 hg w14 hbox hb; have BK161 := Aside0.mk (hbox); have GW161 := Aside0.mk ((bz_ hg (lb0_ HB.out))); have GE161 := Aside0.mk ((bz_ hg (lb0_ HB.out))); replace HB := Aside0.mk (below_step (lb0_ HB.out) hb); clear hb hbox hg; obtain ⟨hcz15_0, hcz15_1, hcz15_2⟩ := cz3_ BK161.out; obtain ⟨hfz15_0, hfz15_1, hfz15_2⟩ := fz3_ BK161.out) | ((with_reducible refine gate_callee (f := 90) rfl ?_); refine ga_ (some 5) Try.func90 #[.int .i64 a0_0] ?_; (with_reducible refine (impl_isStation.calls a0_0 false _ A2.out).mono ?_); rintro e w' ⟨rfl, ⟨nd, rfl⟩⟩; refine ⟨_, rfl, ?_⟩))
  go_ret
  exact ⟨rr_, lb1_ HB.out GE161.out⟩
def impl_absolute.f (a0 : Int) : Option (Int) := some (mx a0 (wrap64 (-a0)))
set_option maxHeartbeats 8000000 in
set_option maxRecDepth 100000 in
theorem impl_absolute.calls (a0 : Int) (r : Int) (w : World) (h : impl_absolute.f a0 = some r) :
  Calls Try.prog 98 #[.int .i64 a0] w fun e w' => e = .returned (.int .i64 r) ∧ Below w.heap.size w w' := by
 have HB := Aside0.mk (Below.refl w.heap.size w)
 have H : (some (mx a0 (wrap64 (-a0)))) = some r := h
 clear h
 obtain ⟨ji2, hji2⟩ : ∃ j_ : Int, (mx a0 (wrap64 (-a0))) = j_ := ⟨_, rfl⟩
 replace H : (some ji2) = some r := by first | (rw [hji2] at H; exact H) | (simp only [hji2] at H ⊢; exact H)
 have hji2_ : (if a0 < (wrap64 (-a0)) then (wrap64 (-a0)) else a0) = ji2 := hji2
 obtain rfl := Option.some.inj H
 go_enter Try.func98, Try.ntmps98
 go_wp2
 go_ret
 exact ⟨by first | rfl | (simp [errW_none, errW_some] <;> rfl) | (simp only [← hji2]; first | rfl | (simp [errW_none, errW_some] <;> rfl)) | (simp [*, errW_none, errW_some] <;> rfl), lb0_ HB.out⟩
def impl_gcd.l0 : Nat → Int → Int → Option (Int)
 | 0, _, _ => none
 | k + 1, x0, x1 => if x1 = 0 then ((impl_absolute.f x0).bind fun t165 => (some t165)) else (impl_gcd.l0 k x1 (Int.tmod x0 x1))
def impl_gcd.f (k : Nat) (a0 : Int) (a1 : Int) : Option (Int) := impl_gcd.l0 k a0 a1
set_option maxHeartbeats 8000000 in
set_option maxRecDepth 100000 in
theorem impl_gcd.calls (k : Nat) (a0 : Int) (a1 : Int) (r : Int) (w : World) (h : impl_gcd.f k a0 a1 = some r) :
  Calls Try.prog 93 #[.int .i64 a0, .int .i64 a1] w fun e w' => e = .returned (.int .i64 r) ∧ Below w.heap.size w w' := by
 have HB := Aside0.mk (Below.refl w.heap.size w)
 have H : (impl_gcd.l0 k a0 a1) = some r := h
 clear h
 have H' := Aside0.mk H
 clear H
 go_enter Try.func93, Try.ntmps93
 go_wp2
 repeat (go_quiet (fail); try go_wp2)
 go_loopg [0, 1] k (fun kq v0 v1 w' => ∃ (x0_1 : Int) (x1_1 : Int), v0 = .int .i64 x0_1 ∧ v1 = .int .i64 x1_1 ∧ Aside0 (impl_gcd.l0 kq x0_1 x1_1 = some r) ∧ Aside0 (kq ≤ k) ∧ Aside0 (Below w.heap.size w w'))
 case atStart => exact ⟨(a0), (a1), (by first | rfl | (simp; done) | (simp [*]; done)), (by first | rfl | (simp; done) | (simp [*]; done)), H', ⟨Nat.le_refl _⟩, ⟨lb0_ HB.out⟩⟩
 case round =>
  clear H'
  try clear p2
  obtain ⟨x0_1, x1_1, rfl, rfl, HA, HK1, HB⟩ := hrel
  cases gk with
  | zero => exact absurd HA.out (by simp [impl_gcd.l0])
  | succ k1 =>
   have H := HA.out
   clear HA
   simp only [impl_gcd.l0] at H
   by_cases c3 : x1_1 = 0
   ·
    rw [if_pos c3] at H
    have c3b0 : (x1_1 == 0) = true := beq_iff_eq.mpr c3
    have c3b1 : (x1_1 != 0) = false := bne_eq_false_iff_eq.mpr c3
    clear c3
    replace H := Option.bind_eq_some_iff.mp H
    obtain ⟨t165, A40, H⟩ := H
    replace H : (some t165) = some r := H
    have A4 := Aside0.mk A40
    clear A40
    obtain rfl := Option.some.inj H
    go_wp2_with (first | (go_at_call 98; (with_reducible refine (impl_absolute.calls x0_1 t165 _ A4.out).mono ?_); rintro e w5 ⟨rfl, hb⟩; replace HB := Aside0.mk (below_step (lb0_ HB.out) hb); (try clear hb); (try clear hb2); (try clear hk); (try clear hi)))
    repeat (go_quiet (first | (go_at_call 98; (with_reducible refine (impl_absolute.calls x0_1 t165 _ A4.out).mono ?_); rintro e w5 ⟨rfl, hb⟩; replace HB := Aside0.mk (below_step (lb0_ HB.out) hb); (try clear hb); (try clear hb2); (try clear hk); (try clear hi))); try go_wp2_with (first | (go_at_call 98; (with_reducible refine (impl_absolute.calls x0_1 t165 _ A4.out).mono ?_); rintro e w5 ⟨rfl, hb⟩; replace HB := Aside0.mk (below_step (lb0_ HB.out) hb); (try clear hb); (try clear hb2); (try clear hk); (try clear hi))))
    go_ret
    exact ⟨rr_, lb0_ HB.out⟩
   ·
    rw [if_neg c3] at H
    have c3b0 : (x1_1 == 0) = false := beq_eq_false_iff_ne.mpr c3
    have c3b1 : (x1_1 != 0) = true := bne_iff_ne.mpr c3
    have H' := Aside0.mk H
    clear H
    go_wp2
    repeat (go_quiet (fail); try go_wp2)
    go_roundg k1
    case measure => have := HK1.out; omega
    case rel => exact ⟨(x1_1), (Int.tmod x0_1 x1_1), (by first | rfl | (simp; done) | (simp [*]; done)), (by first | rfl | (simp; done) | (simp [*]; done)), H', ⟨by have := HK1.out; omega⟩, ⟨lb0_ HB.out⟩⟩
def impl_reduced.f (k : Nat) (a0 : Int) (a1 : Int) : Option (Int × Int) := (impl_gcd.f k a0 a1).bind fun t166 => (if t166 = 0 then (none) else (some (wrap64 (Int.tdiv a0 t166), wrap64 (Int.tdiv a1 t166))))
set_option maxHeartbeats 8000000 in
set_option maxRecDepth 100000 in
theorem impl_reduced.calls (k : Nat) (a0 : Int) (a1 : Int) (r1 : Int) (r2 : Int) (w : World) (h : impl_reduced.f k a0 a1 = some (r1, r2)) :
  Calls Try.prog 71 #[.int .i64 a0, .int .i64 a1] w fun e w' => e = .returned (.tuple #[.int .i64 r1, .int .i64 r2]) ∧ Below w.heap.size w w' := by
 have HB := Aside0.mk (Below.refl w.heap.size w)
 have H : ((impl_gcd.f k a0 a1).bind fun t166 => (if t166 = 0 then (none) else (some (wrap64 (Int.tdiv a0 t166), wrap64 (Int.tdiv a1 t166))))) = some (r1, r2) := h
 clear h
 replace H := Option.bind_eq_some_iff.mp H
 obtain ⟨t166, A30, H⟩ := H
 replace H : (if t166 = 0 then (none) else (some (wrap64 (Int.tdiv a0 t166), wrap64 (Int.tdiv a1 t166)))) = some (r1, r2) := H
 have A3 := Aside0.mk A30
 clear A30
 by_cases c4 : t166 = 0
 ·
  rw [if_pos c4] at H
  exact absurd H (by simp)
 ·
  rw [if_neg c4] at H
  have c4b0 : (t166 == 0) = false := beq_eq_false_iff_ne.mpr c4
  have c4b1 : (t166 != 0) = true := bne_iff_ne.mpr c4
  simp only [Option.some.injEq, Prod.mk.injEq] at H
  obtain ⟨rfl, rfl⟩ := H
  go_enter Try.func71, Try.ntmps71
  go_wp2_with (first | (go_at_call 93; (with_reducible refine (impl_gcd.calls k a0 a1 t166 _ A3.out).mono ?_); rintro e w5 ⟨rfl, hb⟩; replace HB := Aside0.mk (below_step (lb0_ HB.out) hb); (try clear hb); (try clear hb2); (try clear hk); (try clear hi)))
  repeat (go_quiet (first | (go_at_call 93; (with_reducible refine (impl_gcd.calls k a0 a1 t166 _ A3.out).mono ?_); rintro e w5 ⟨rfl, hb⟩; replace HB := Aside0.mk (below_step (lb0_ HB.out) hb); (try clear hb); (try clear hb2); (try clear hk); (try clear hi))); try go_wp2_with (first | (go_at_call 93; (with_reducible refine (impl_gcd.calls k a0 a1 t166 _ A3.out).mono ?_); rintro e w5 ⟨rfl, hb⟩; replace HB := Aside0.mk (below_step (lb0_ HB.out) hb); (try clear hb); (try clear hb2); (try clear hk); (try clear hi))))
  go_ret2
  exact ⟨rr_, lb0_ HB.out⟩
def impl_levelIn.l0 : Nat → List (S54) → Int → Int → Option (Int × Int)
 | 0, _, _, _ => none
 | k + 1, x0, x1, x5 => if (wrap64 (x5 + 1)) < (x0.length : Int) then (if 0 ≤ (wrap64 (x5 + 1)) then (if ((rd_T54 x0 (wrap64 (x5 + 1))).f0) ≤ x1 then (impl_levelIn.l0 k x0 x1 (wrap64 (x5 + 1))) else (if 0 ≤ x5 then (if x5 < (x0.length : Int) then (if ((rd_T54 x0 x5).f0) = x1 then (some ((rd_T54 x0 x5).f1, 1)) else ((impl_reduced.f k (wrap64 ((wrap64 (((rd_T54 x0 x5).f1) * (wrap64 (((rd_T54 x0 (wrap64 (x5 + 1))).f0) - x1)))) + (wrap64 (((rd_T54 x0 (wrap64 (x5 + 1))).f1) * (wrap64 (x1 - ((rd_T54 x0 x5).f0))))))) (wrap64 (((rd_T54 x0 (wrap64 (x5 + 1))).f0) - ((rd_T54 x0 x5).f0)))).bind fun bt173 => (some (bt173.1, bt173.2)))) else (none)) else (none))) else (none)) else (if 0 ≤ x5 then (if x5 < (x0.length : Int) then (if ((rd_T54 x0 x5).f0) = x1 then (some ((rd_T54 x0 x5).f1, 1)) else (if 0 ≤ (wrap64 (x5 + 1)) then (none) else (none))) else (none)) else (none))
def impl_levelIn.f (k : Nat) (l0 : List (S54)) (a1 : Int) : Option (Int × Int) := impl_levelIn.l0 k l0 a1 0
set_option maxHeartbeats 8000000 in
set_option maxRecDepth 100000 in
theorem impl_levelIn.calls (k : Nat) (A0 : Option Addr) (c0 : Nat) (l0 : List (S54)) (a1 : Int) (r1 : Int) (r2 : Int) (w : World) (hr0 : Kd.C k54 w A0 l0.length l0) (hc0 : l0.length ≤ c0) (h : impl_levelIn.f k l0 a1 = some (r1, r2)) :
  Calls Try.prog 69 #[.slice A0 l0.length c0, .int .i64 a1] w fun e w' => e = .returned (.agg #[.int .i64 r1, .int .i64 r2]) ∧ Below w.heap.size w w' := by
 have hu94 := Try.underlying94
 have hu54 := Try.underlying54
 have HR0 := Aside0.mk hr0
 have HC0 := Aside0.mk hc0
 clear hr0 hc0
 have HB := Aside0.mk (Below.refl w.heap.size w)
 have H : (impl_levelIn.l0 k l0 a1 0) = some (r1, r2) := h
 clear h
 have H' := Aside0.mk H
 clear H
 go_enter Try.func69, Try.ntmps69
 go_wp2_with (first | ((with_reducible refine gate_dst (N := 4) rfl ?_); refine box_event ?hg (N := 4) ?hd (cs := #[.int .i64 0, .int .i64 0]) (t := 94) ?hr ?_; (case hd => rfl); (case hg => rfl); (case hr => first | (go_simp; done) | (go_simp; rfl)); intro gb167 hg w3 hbox hb; have BK167 := Aside0.mk (hbox); have GW167 := Aside0.mk ((bz_ hg (lb0_ HB.out))); have GE167 := Aside0.mk ((bz_ hg (lb0_ HB.out))); replace HB := Aside0.mk (below_step (lb0_ HB.out) hb); clear hb hbox hg))
 go_loopg [5] k (fun kq v5 w' => ∃ (x5_1 : Int), v5 = .int .i64 x5_1 ∧ Aside0 (impl_levelIn.l0 kq l0 a1 x5_1 = some (r1, r2)) ∧ Aside0 (kq ≤ k) ∧ Aside0 (w'.heap[gb167]? = some (.cells #[.int .i64 0, .int .i64 0] 94 (0, 0))) ∧ Aside0 (Below w.heap.size w w'))
 case atStart => exact ⟨(0), (by first | rfl | (simp; done) | (simp [*]; done)), H', ⟨Nat.le_refl _⟩, ⟨bk_ BK167.out⟩, ⟨lb1_ HB.out GE167.out⟩⟩
 case round =>
  clear H'
  try clear p2
  obtain ⟨x5_1, rfl, HA, HK1, BK167, HB⟩ := hrel
  cases gk with
  | zero => exact absurd HA.out (by simp [impl_levelIn.l0])
  | succ k1 =>
   have H := HA.out
   clear HA
   simp only [impl_levelIn.l0] at H
   by_cases c4 : (wrap64 (x5_1 + 1)) < (l0.length : Int)
   ·
    rw [if_pos c4] at H
    have c4b0 : decide ((wrap64 (x5_1 + 1)) < (l0.length : Int)) = true := decide_eq_true c4
    clear c4
    obtain ⟨ji5, hji5⟩ : ∃ j_ : Int, (wrap64 (x5_1 + 1)) = j_ := ⟨_, rfl⟩
    replace H : (if 0 ≤ (ji5) then (if ((rd_T54 l0 (ji5)).f0) ≤ a1 then (impl_levelIn.l0 k1 l0 a1 ji5) else (if 0 ≤ x5_1 then (if x5_1 < (l0.length : Int) then (if ((rd_T54 l0 x5_1).f0) = a1 then (some ((rd_T54 l0 x5_1).f1, 1)) else ((impl_reduced.f k1 (wrap64 ((wrap64 (((rd_T54 l0 x5_1).f1) * (wrap64 (((rd_T54 l0 (ji5)).f0) - a1)))) + (wrap64 (((rd_T54 l0 (ji5)).f1) * (wrap64 (a1 - ((rd_T54 l0 x5_1).f0))))))) (wrap64 (((rd_T54 l0 (ji5)).f0) - ((rd_T54 l0 x5_1).f0)))).bind fun bt173 => (some (bt173.1, bt173.2)))) else (none)) else (none))) else (none)) = some (r1, r2) := by first | (rw [hji5] at H; exact H) | (simp only [hji5] at H ⊢; exact H)
    (try rw [hji5] at c4b0)
    have hji5w : (IntKind.i64.wrap (x5_1 + 1)) = ji5 := (i64_w _).trans hji5
    by_cases c6 : 0 ≤ (ji5)
    ·
     rw [if_pos c6] at H
     have c6b0 : decide (0 ≤ (ji5)) = true := decide_eq_true c6
     clear c6
     by_cases c7 : ((rd_T54 l0 (ji5)).f0) ≤ a1
     ·
      rw [if_pos c7] at H
      have c7b0 : decide (((rd_T54 l0 (ji5)).f0) ≤ a1) = true := decide_eq_true c7
      clear c7
      have H' := Aside0.mk H
      clear H
      have p168 : 0 ≤ ((ji5) : Int) := dt_
      have q168 : (ji5) < (l0.length : Int) := dt_
      obtain ⟨ad168, e168, hx168_0, hx168_1⟩ := at_T54 HR0.out (ji5) p168 q168
      cases e168
      replace hx168_0 := bc_ HB.out hx168_0
      replace hx168_1 := bc_ HB.out hx168_1
      replace p168 := eq_true p168
      replace q168 := eq_true q168
      go_wp2
      go_roundg k1
      case measure => have := HK1.out; omega
      case rel => exact ⟨(ji5), (by first | rfl | (simp; done) | (simp only [← hji5] <;> (first | rfl | simp)) | (simp [*]; done)), H', ⟨by have := HK1.out; omega⟩, ⟨bk_ BK167.out⟩, ⟨lb1_ HB.out GE167.out⟩⟩
     ·
      rw [if_neg c7] at H
      have c7b0 : decide (((rd_T54 l0 (ji5)).f0) ≤ a1) = false := decide_eq_false c7
      clear c7
      by_cases c8 : 0 ≤ x5_1
      ·
       rw [if_pos c8] at H
       have c8b0 : decide (0 ≤ x5_1) = true := decide_eq_true c8
       clear c8
       by_cases c9 : x5_1 < (l0.length : Int)
       ·
        rw [if_pos c9] at H
        have c9b0 : decide (x5_1 < (l0.length : Int)) = true := decide_eq_true c9; clear c9
        by_cases c10 : ((rd_T54 l0 x5_1).f0) = a1
        ·
         rw [if_pos c10] at H
         have c10b0 : (((rd_T54 l0 x5_1).f0) == a1) = true := beq_iff_eq.mpr c10; have c10b1 : (((rd_T54 l0 x5_1).f0) != a1) = false := bne_eq_false_iff_eq.mpr c10; clear c10; simp only [Option.some.injEq, Prod.mk.injEq] at H; obtain ⟨rfl, rfl⟩ := H; have p168 : 0 ≤ ((ji5) : Int) := dt_; have q168 : (ji5) < (l0.length : Int) := dt_; obtain ⟨ad168, e168, hx168_0, hx168_1⟩ := at_T54 HR0.out (ji5) p168 q168
         cases e168
         replace hx168_0 := bc_ HB.out hx168_0; replace hx168_1 := bc_ HB.out hx168_1; replace p168 := eq_true p168; replace q168 := eq_true q168; have p169 : 0 ≤ (x5_1 : Int) := dt_; have q169 : x5_1 < (l0.length : Int) := dt_; obtain ⟨ad169, e169, hx169_0, hx169_1⟩ := at_T54 HR0.out x5_1 p169 q169
         obtain rfl : ad168 = ad169 := (by injection e169)
         replace hx169_0 := bc_ HB.out hx169_0; replace hx169_1 := bc_ HB.out hx169_1; replace p169 := eq_true p169; replace q169 := eq_true q169
         go_wp2_with (first | ((with_reducible refine gate_dst (N := 6) rfl ?_); refine box_event ?hg (N := 6) ?hd (cs := #[.int .i64 0, .int .i64 0]) (t := 54) ?hr ?_; (case hd => rfl); (case hg => rfl); (case hr => first | (go_simp; done) | (go_simp; rfl)); intro gb170 hg w11 hbox hb; have BK170 := Aside0.mk (hbox); have GW170 := Aside0.mk ((bz_ hg (lb1_ HB.out GE167.out))); have GE170 := Aside0.mk ((bz_ hg (lb1_ HB.out GE167.out))); replace HB := Aside0.mk (below_step (lb1_ HB.out GE167.out) hb); have NB167_170 := Aside0.mk (nl_ hg BK167.out); have NB170_167 := Aside0.mk (ng_ hg BK167.out); replace BK167 := Aside0.mk (bb_ (bk_ BK167.out) hb); clear hb hbox hg; have hnb12 := NB170_167.out; have hnc12 := NB167_170.out; obtain ⟨hcz13_0, hcz13_1⟩ := cz2_ BK170.out; obtain ⟨hfz13_0, hfz13_1⟩ := fz2_ BK170.out; obtain ⟨hcz14_0, hcz14_1⟩ := cz2_ BK167.out; obtain ⟨hfz14_0, hfz14_1⟩ := fz2_ BK167.out))
         refine bodyPost_ret (results_cell_row rfl _ _ gb167 94 #[.int .i64 ((rd_T54 l0 x5_1).f1), .int .i64 1] (0, 0) _ rfl (by (with_reducible repeat (first | refine blk_drewN ?_ _ | refine blk_drew ?_ | refine blk_alloc ?_ _)); refine blk_put (cs := #[.int .i64 ((rd_T54 l0 x5_1).f1), .int .i64 0]) ?_ 1 _ rfl; (with_reducible repeat (first | refine blk_drewN ?_ _ | refine blk_drew ?_ | refine blk_alloc ?_ _)); refine blk_put (cs := #[.int .i64 0, .int .i64 0]) ?_ 0 _ rfl; (with_reducible repeat (first | refine blk_drewN ?_ _ | refine blk_drew ?_ | refine blk_alloc ?_ _)); refine blk_far ?_ NB167_170.out _; (with_reducible repeat (first | refine blk_drewN ?_ _ | refine blk_drew ?_ | refine blk_alloc ?_ _)); refine blk_far ?_ NB167_170.out _; (with_reducible repeat (first | refine blk_drewN ?_ _ | refine blk_drew ?_ | refine blk_alloc ?_ _)); exact BK167.out) Try.underlying94 rfl (by kernel_rfl)) rfl ?_; exact ⟨by first | rfl | (simp [errW_none, errW_some] <;> rfl) | (simp only [← hji5]; first | rfl | (simp [errW_none, errW_some] <;> rfl)) | (simp [*, errW_none, errW_some] <;> rfl), lb2_ HB.out GE167.out GE170.out⟩
        ·
         rw [if_neg c10] at H
         have c10b0 : (((rd_T54 l0 x5_1).f0) == a1) = false := beq_eq_false_iff_ne.mpr c10; have c10b1 : (((rd_T54 l0 x5_1).f0) != a1) = true := bne_iff_ne.mpr c10; replace H := Option.bind_eq_some_iff.mp H; obtain ⟨⟨t173, t174⟩, A150, H⟩ := H; replace H : (some (t173, t174)) = some (r1, r2) := H; have A15 := Aside0.mk A150; clear A150; simp only [Option.some.injEq, Prod.mk.injEq] at H; obtain ⟨rfl, rfl⟩ := H; have p168 : 0 ≤ ((ji5) : Int) := dt_; have q168 : (ji5) < (l0.length : Int) := dt_; obtain ⟨ad168, e168, hx168_0, hx168_1⟩ := at_T54 HR0.out (ji5) p168 q168
         cases e168
         replace hx168_0 := bc_ HB.out hx168_0; replace hx168_1 := bc_ HB.out hx168_1; replace p168 := eq_true p168; replace q168 := eq_true q168; have p169 : 0 ≤ (x5_1 : Int) := dt_; have q169 : x5_1 < (l0.length : Int) := dt_; obtain ⟨ad169, e169, hx169_0, hx169_1⟩ := at_T54 HR0.out x5_1 p169 q169
         obtain rfl : ad168 = ad169 := (by injection e169)
         replace hx169_0 := bc_ HB.out hx169_0; replace hx169_1 := bc_ HB.out hx169_1; replace p169 := eq_true p169; replace q169 := eq_true q169
         go_wp2_with (first | ((with_reducible refine gate_dst (N := 6) rfl ?_); refine box_event ?hg (N := 6) ?hd (cs := #[.int .i64 0, .int .i64 0]) (t := 54) ?hr ?_; (case hd => rfl); (case hg => rfl); (case hr => first | (go_simp; done) | (go_simp; rfl)); intro gb170 hg w16 hbox hb; have BK170 := Aside0.mk (hbox); have GW170 := Aside0.mk ((bz_ hg (lb1_ HB.out GE167.out))); have GE170 := Aside0.mk ((bz_ hg (lb1_ HB.out GE167.out))); replace HB := Aside0.mk (below_step (lb1_ HB.out GE167.out) hb); have NB167_170 := Aside0.mk (nl_ hg BK167.out); have NB170_167 := Aside0.mk (ng_ hg BK167.out); replace BK167 := Aside0.mk (bb_ (bk_ BK167.out) hb); clear hb hbox hg; have hnb17 := NB170_167.out; have hnc17 := NB167_170.out; obtain ⟨hcz18_0, hcz18_1⟩ := cz2_ BK170.out; obtain ⟨hfz18_0, hfz18_1⟩ := fz2_ BK170.out; have p171 : 0 ≤ ((ji5) : Int) := dt_; have q171 : (ji5) < (l0.length : Int) := dt_; obtain ⟨ad171, e171, hx171_0, hx171_1⟩ := at_T54 HR0.out (ji5) p171 q171; obtain rfl : ad168 = ad171 := (by injection e171); have hn171_0 : ad168.block ≠ gb170 := Nat.ne_of_lt (Nat.lt_of_lt_of_le (by have := World.block_lt_of_cell? _ _ hx171_0; first | rwa [add_block] at this | exact this) GW170.out); have hn171_1 : ad168.block ≠ gb170 := Nat.ne_of_lt (Nat.lt_of_lt_of_le (by have := World.block_lt_of_cell? _ _ hx171_0; first | rwa [add_block] at this | exact this) GW170.out); replace hx171_0 := bc_ HB.out hx171_0; replace hx171_1 := bc_ HB.out hx171_1; replace hx171_0 := (cell_far (p := ⟨gb170, 0, none⟩) (by first | (rw [add_block]; exact hn171_0) | (show (Addr.add _ _).block ≠ _; rw [add_block]; exact hn171_0) | exact hn171_0) (.int .i64 ((rd_T54 l0 x5_1).f0))).trans hx171_0; replace hx171_1 := (cell_far (p := ⟨gb170, 0, none⟩) (by first | (rw [add_block]; exact hn171_0) | (show (Addr.add _ _).block ≠ _; rw [add_block]; exact hn171_0) | exact hn171_0) (.int .i64 ((rd_T54 l0 x5_1).f0))).trans hx171_1; replace hx171_0 := (cell_far (p := ⟨gb170, 1, none⟩) (by first | (rw [add_block]; exact hn171_1) | (show (Addr.add _ _).block ≠ _; rw [add_block]; exact hn171_1) | exact hn171_1) (.int .i64 ((rd_T54 l0 x5_1).f1))).trans hx171_0; replace hx171_1 := (cell_far (p := ⟨gb170, 1, none⟩) (by first | (rw [add_block]; exact hn171_1) | (show (Addr.add _ _).block ≠ _; rw [add_block]; exact hn171_1) | exact hn171_1) (.int .i64 ((rd_T54 l0 x5_1).f1))).trans hx171_1; clear hn171_0; clear hn171_1; replace p171 := eq_true p171; replace q171 := eq_true q171) | ((with_reducible refine gate_dst (N := 7) rfl ?_); refine box_event ?hg (N := 7) ?hd (cs := #[.int .i64 0, .int .i64 0]) (t := 54) ?hr ?_; (case hd => rfl); (case hg => rfl); (case hr => first | (go_simp; done) | (go_simp; rfl)); intro gb172 hg w19 hbox hb; have BK172 := Aside0.mk (hbox); have GW172 := Aside0.mk ((bz_ hg (lb2_ HB.out GE167.out GE170.out))); have GE172 := Aside0.mk ((bz_ hg (lb2_ HB.out GE167.out GE170.out))); replace HB := Aside0.mk (below_step (lb2_ HB.out GE167.out GE170.out) hb); have NB167_172 := Aside0.mk ((by rw [hg]; exact Nat.ne_of_lt (blk_lt (g := gb167) (o := .cells #[.int .i64 0, .int .i64 0] 94 (0, 0)) (by (with_reducible repeat (first | refine blk_drewN ?_ _ | refine blk_drew ?_ | refine blk_alloc ?_ _)); exact (f2_ BK167.out NB167_170.out _ _))) : gb167 ≠ gb172)); have NB172_167 := Aside0.mk ((by rw [hg]; exact Nat.ne_of_gt (blk_lt (g := gb167) (o := .cells #[.int .i64 0, .int .i64 0] 94 (0, 0)) (by (with_reducible repeat (first | refine blk_drewN ?_ _ | refine blk_drew ?_ | refine blk_alloc ?_ _)); exact (f2_ BK167.out NB167_170.out _ _))) : gb172 ≠ gb167)); replace BK167 := Aside0.mk (blk_below (g := gb167) (o := .cells #[.int .i64 0, .int .i64 0] 94 (0, 0)) (by (with_reducible repeat (first | refine blk_drewN ?_ _ | refine blk_drew ?_ | refine blk_alloc ?_ _)); exact (f2_ BK167.out NB167_170.out _ _)) hb); have NB170_172 := Aside0.mk ((by rw [hg]; exact Nat.ne_of_lt (blk_lt (g := gb170) (o := .cells #[.int .i64 ((rd_T54 l0 x5_1).f0), .int .i64 ((rd_T54 l0 x5_1).f1)] 54 (0, 0)) (by (with_reducible repeat (first | refine blk_drewN ?_ _ | refine blk_drew ?_ | refine blk_alloc ?_ _)); exact (p2_ BK170.out _ _))) : gb170 ≠ gb172)); have NB172_170 := Aside0.mk ((by rw [hg]; exact Nat.ne_of_gt (blk_lt (g := gb170) (o := .cells #[.int .i64 ((rd_T54 l0 x5_1).f0), .int .i64 ((rd_T54 l0 x5_1).f1)] 54 (0, 0)) (by (with_reducible repeat (first | refine blk_drewN ?_ _ | refine blk_drew ?_ | refine blk_alloc ?_ _)); exact (p2_ BK170.out _ _))) : gb172 ≠ gb170)); replace BK170 := Aside0.mk (blk_below (g := gb170) (o := .cells #[.int .i64 ((rd_T54 l0 x5_1).f0), .int .i64 ((rd_T54 l0 x5_1).f1)] 54 (0, 0)) (by (with_reducible repeat (first | refine blk_drewN ?_ _ | refine blk_drew ?_ | refine blk_alloc ?_ _)); exact (p2_ BK170.out _ _)) hb); clear hb hbox hg; have hnb20 := NB172_167.out; have hnc20 := NB167_172.out; have hnb21 := NB172_170.out; have hnc21 := NB170_172.out; obtain ⟨hcz22_0, hcz22_1⟩ := cz2_ BK172.out; obtain ⟨hfz22_0, hfz22_1⟩ := fz2_ BK172.out; obtain ⟨hcz23_0, hcz23_1⟩ := cz2_ BK170.out; obtain ⟨hfz23_0, hfz23_1⟩ := fz2_ BK170.out) | ((with_reducible refine gate_callee (f := 71) rfl ?_); refine goesL_ (some 64) rfl rfl Try.func71 (by kernel_rfl) rfl #[.int .i64 (wrap64 ((wrap64 (((rd_T54 l0 x5_1).f1) * (wrap64 (((rd_T54 l0 (ji5)).f0) - a1)))) + (wrap64 (((rd_T54 l0 (ji5)).f1) * (wrap64 (a1 - ((rd_T54 l0 x5_1).f0))))))), .int .i64 (wrap64 (((rd_T54 l0 (ji5)).f0) - ((rd_T54 l0 x5_1).f0)))] rfl (by (try simp only [List.map_toArray, List.map_cons, List.map_nil]); first | done | (simp only [hji5]; rfl) | rfl | (simp only [List.length_drop, List.length_take]; rfl)) ?_; (with_reducible refine (impl_reduced.calls k1 (wrap64 ((wrap64 (((rd_T54 l0 x5_1).f1) * (wrap64 (((rd_T54 l0 (ji5)).f0) - a1)))) + (wrap64 (((rd_T54 l0 (ji5)).f1) * (wrap64 (a1 - ((rd_T54 l0 x5_1).f0))))))) (wrap64 (((rd_T54 l0 (ji5)).f0) - ((rd_T54 l0 x5_1).f0))) t173 t174 _ A15.out).mono ?_); rintro e w24 ⟨rfl, hb⟩; refine ⟨_, rfl, ?_⟩; replace BK167 := Aside0.mk (blk_below (g := gb167) (o := .cells #[.int .i64 0, .int .i64 0] 94 (0, 0)) (by (with_reducible repeat (first | refine blk_drewN ?_ _ | refine blk_drew ?_ | refine blk_alloc ?_ _)); exact (f2_ BK167.out NB167_172.out _ _)) hb); replace BK170 := Aside0.mk (blk_below (g := gb170) (o := .cells #[.int .i64 ((rd_T54 l0 x5_1).f0), .int .i64 ((rd_T54 l0 x5_1).f1)] 54 (0, 0)) (by (with_reducible repeat (first | refine blk_drewN ?_ _ | refine blk_drew ?_ | refine blk_alloc ?_ _)); exact (f2_ BK170.out NB170_172.out _ _)) hb); replace BK172 := Aside0.mk (blk_below (g := gb172) (o := .cells #[.int .i64 ((rd_T54 l0 (ji5)).f0), .int .i64 ((rd_T54 l0 (ji5)).f1)] 54 (0, 0)) (by (with_reducible repeat (first | refine blk_drewN ?_ _ | refine blk_drew ?_ | refine blk_alloc ?_ _)); exact (p2_ BK172.out _ _)) hb); replace HB := Aside0.mk (below_step (lb3_ HB.out GE167.out GE170.out GE172.out) hb); (try clear hb); (try clear hb2); (try clear hk); (try clear hi); obtain ⟨hcz25_0, hcz25_1⟩ := cz2_ BK167.out; obtain ⟨hfz25_0, hfz25_1⟩ := fz2_ BK167.out))
         refine bodyPost_ret (results_cell_row rfl _ _ gb167 94 #[.int .i64 t173, .int .i64 t174] (0, 0) _ rfl (by (with_reducible repeat (first | refine blk_drewN ?_ _ | refine blk_drew ?_ | refine blk_alloc ?_ _)); refine blk_put (cs := #[.int .i64 t173, .int .i64 0]) ?_ 1 _ rfl; (with_reducible repeat (first | refine blk_drewN ?_ _ | refine blk_drew ?_ | refine blk_alloc ?_ _)); refine blk_put (cs := #[.int .i64 0, .int .i64 0]) ?_ 0 _ rfl; (with_reducible repeat (first | refine blk_drewN ?_ _ | refine blk_drew ?_ | refine blk_alloc ?_ _)); exact BK167.out) Try.underlying94 rfl (by kernel_rfl)) rfl ?_; exact ⟨by first | rfl | (simp [errW_none, errW_some] <;> rfl) | (simp only [← hji5]; first | rfl | (simp [errW_none, errW_some] <;> rfl)) | (simp [*, errW_none, errW_some] <;> rfl), lb3_ HB.out GE167.out GE170.out GE172.out⟩
       ·
        rw [if_neg c9] at H
        exact absurd H (by simp)
      ·
       rw [if_neg c8] at H
       exact absurd H (by simp)
    ·
     rw [if_neg c6] at H
     exact absurd H (by simp)
   ·
    rw [if_neg c4] at H
    have c4b0 : decide ((wrap64 (x5_1 + 1)) < (l0.length : Int)) = false := decide_eq_false c4
    clear c4
    by_cases c26 : 0 ≤ x5_1
    ·
     rw [if_pos c26] at H
     have c26b0 : decide (0 ≤ x5_1) = true := decide_eq_true c26
     clear c26
     by_cases c27 : x5_1 < (l0.length : Int)
     ·
      rw [if_pos c27] at H
      have c27b0 : decide (x5_1 < (l0.length : Int)) = true := decide_eq_true c27
      clear c27
      by_cases c28 : ((rd_T54 l0 x5_1).f0) = a1
      ·
       rw [if_pos c28] at H
       have c28b0 : (((rd_T54 l0 x5_1).f0) == a1) = true := beq_iff_eq.mpr c28
       have c28b1 : (((rd_T54 l0 x5_1).f0) != a1) = false := bne_eq_false_iff_eq.mpr c28
       clear c28
       simp only [Option.some.injEq, Prod.mk.injEq] at H
       obtain ⟨rfl, rfl⟩ := H
       have p175 : 0 ≤ (x5_1 : Int) := dt_
       have q175 : x5_1 < (l0.length : Int) := dt_
       obtain ⟨ad175, e175, hx175_0, hx175_1⟩ := at_T54 HR0.out x5_1 p175 q175
       cases e175
       replace hx175_0 := bc_ HB.out hx175_0
       replace hx175_1 := bc_ HB.out hx175_1
       replace p175 := eq_true p175
       replace q175 := eq_true q175
       go_wp2_with (first | ((with_reducible refine gate_dst (N := 6) rfl ?_); refine box_event ?hg (N := 6) ?hd (cs := #[.int .i64 0, .int .i64 0]) (t := 54) ?hr ?_; (case hd => rfl); (case hg => rfl); (case hr => first | (go_simp; done) | (go_simp; rfl)); intro gb176 hg w29 hbox hb; have BK176 := Aside0.mk (hbox); have GW176 := Aside0.mk ((bz_ hg (lb1_ HB.out GE167.out))); have GE176 := Aside0.mk ((bz_ hg (lb1_ HB.out GE167.out))); replace HB := Aside0.mk (below_step (lb1_ HB.out GE167.out) hb); have NB167_176 := Aside0.mk (nl_ hg BK167.out); have NB176_167 := Aside0.mk (ng_ hg BK167.out); replace BK167 := Aside0.mk (bb_ (bk_ BK167.out) hb); clear hb hbox hg; have hnb30 := NB176_167.out; have hnc30 := NB167_176.out; obtain ⟨hcz31_0, hcz31_1⟩ := cz2_ BK176.out; obtain ⟨hfz31_0, hfz31_1⟩ := fz2_ BK176.out; obtain ⟨hcz32_0, hcz32_1⟩ := cz2_ BK167.out; obtain ⟨hfz32_0, hfz32_1⟩ := fz2_ BK167.out))
       refine bodyPost_ret (results_cell_row rfl _ _ gb167 94 #[.int .i64 ((rd_T54 l0 x5_1).f1), .int .i64 1] (0, 0) _ rfl (by (with_reducible repeat (first | refine blk_drewN ?_ _ | refine blk_drew ?_ | refine blk_alloc ?_ _)); refine blk_put (cs := #[.int .i64 ((rd_T54 l0 x5_1).f1), .int .i64 0]) ?_ 1 _ rfl; (with_reducible repeat (first | refine blk_drewN ?_ _ | refine blk_drew ?_ | refine blk_alloc ?_ _)); refine blk_put (cs := #[.int .i64 0, .int .i64 0]) ?_ 0 _ rfl; (with_reducible repeat (first | refine blk_drewN ?_ _ | refine blk_drew ?_ | refine blk_alloc ?_ _)); refine blk_far ?_ NB167_176.out _; (with_reducible repeat (first | refine blk_drewN ?_ _ | refine blk_drew ?_ | refine blk_alloc ?_ _)); refine blk_far ?_ NB167_176.out _; (with_reducible repeat (first | refine blk_drewN ?_ _ | refine blk_drew ?_ | refine blk_alloc ?_ _)); exact BK167.out) Try.underlying94 rfl (by kernel_rfl)) rfl ?_
       exact ⟨rr_, lb2_ HB.out GE167.out GE176.out⟩
      ·
       rw [if_neg c28] at H
       have c28b0 : (((rd_T54 l0 x5_1).f0) == a1) = false := beq_eq_false_iff_ne.mpr c28
       have c28b1 : (((rd_T54 l0 x5_1).f0) != a1) = true := bne_iff_ne.mpr c28
       obtain ⟨ji33, hji33⟩ : ∃ j_ : Int, (wrap64 (x5_1 + 1)) = j_ := ⟨_, rfl⟩
       replace H : (if 0 ≤ (ji33) then (none) else (none)) = some (r1, r2) := by first | (rw [hji33] at H; exact H) | (simp only [hji33] at H ⊢; exact H)
       (try rw [hji33] at c4b0)
       have hji33w : (IntKind.i64.wrap (x5_1 + 1)) = ji33 := (i64_w _).trans hji33
       by_cases c34 : 0 ≤ (ji33)
       ·
        rw [if_pos c34] at H
        exact absurd H (by simp)
       ·
        rw [if_neg c34] at H
        exact absurd H (by simp)
     ·
      rw [if_neg c27] at H
      exact absurd H (by simp)
    ·
     rw [if_neg c26] at H
     exact absurd H (by simp)
def impl_Sump_open.f (k : Nat) (a0_0 : Int) (a0_1 : Int) (a0_2 : Int) (l1 : List (S54)) (a2 : Int) : Option (Bool) := (impl_levelIn.f k l1 a2).bind fun bt178 => (some (decide (bt178.1 ≤ (wrap64 (a0_2 * bt178.2)))))
set_option maxHeartbeats 8000000 in
set_option maxRecDepth 100000 in
theorem impl_Sump_open.calls (k : Nat) (a0_0 : Int) (a0_1 : Int) (a0_2 : Int) (A1 : Option Addr) (c1 : Nat) (l1 : List (S54)) (a2 : Int) (r : Bool) (w : World) (hr1 : Kd.C k54 w A1 l1.length l1) (hc1 : l1.length ≤ c1) (h : impl_Sump_open.f k a0_0 a0_1 a0_2 l1 a2 = some r) :
  Calls Try.prog 60 #[.agg #[.int .i64 a0_0, .int .i64 a0_1, .int .i64 a0_2], .slice A1 l1.length c1, .int .i64 a2] w fun e w' => e = .returned (.bool r) ∧ Below w.heap.size w w' := by
 have hu30 := Try.underlying30
 have hu94 := Try.underlying94
 have HR1 := Aside0.mk hr1
 have HC1 := Aside0.mk hc1
 clear hr1 hc1
 have HB := Aside0.mk (Below.refl w.heap.size w)
 have H : ((impl_levelIn.f k l1 a2).bind fun bt178 => (some (decide (bt178.1 ≤ (wrap64 (a0_2 * bt178.2)))))) = some r := h
 clear h
 replace H := Option.bind_eq_some_iff.mp H
 obtain ⟨⟨t178, t179⟩, A40, H⟩ := H
 replace H : (some (decide (t178 ≤ (wrap64 (a0_2 * t179))))) = some r := H
 have A4 := Aside0.mk A40
 clear A40
 obtain rfl := Option.some.inj H
 go_enter Try.func60, Try.ntmps60
 go_wp2_with (first | ((with_reducible refine gate_dst (N := 3) rfl ?_); refine box_event ?hg (N := 3) ?hd (cs := #[.int .i64 a0_0, .int .i64 a0_1, .int .i64 a0_2]) (t := 30) ?hr ?_; (case hd => rfl); (case hg => rfl); (case hr => first | (go_simp; done) | (go_simp; rfl)); intro gb177 hg w5 hbox hb; have BK177 := Aside0.mk (hbox); have GW177 := Aside0.mk ((bz_ hg (lb0_ HB.out))); have GE177 := Aside0.mk ((bz_ hg (lb0_ HB.out))); replace HB := Aside0.mk (below_step (lb0_ HB.out) hb); clear hb hbox hg) | ((with_reducible refine gate_callee (f := 69) rfl ?_); refine ga_ (some 10) Try.func69 #[.slice A1 l1.length c1, .int .i64 a2] ?_; (with_reducible refine (impl_levelIn.calls k _ _ l1 a2 t178 t179 _ ?side1 ?side2 A4.out).mono ?_); (case side1 => exact kc_ (Kd.C_below HR1.out HB.out)); (case side2 => exact HC1.out); rintro e w6 ⟨rfl, hb⟩; refine ⟨_, rfl, ?_⟩; replace BK177 := Aside0.mk (bb_ (bk_ BK177.out) hb); replace HB := Aside0.mk (below_step (lb1_ HB.out GE177.out) hb); (try clear hb); (try clear hb2); (try clear hk); (try clear hi)) | ((with_reducible refine gate_dst (N := 7) rfl ?_); refine box_event ?hg (N := 7) ?hd (cs := #[.int .i64 0, .int .i64 0]) (t := 94) ?hr ?_; (case hd => rfl); (case hg => rfl); (case hr => first | (go_simp; done) | (go_simp; rfl)); intro gb180 hg w7 hbox hb; have BK180 := Aside0.mk (hbox); have GW180 := Aside0.mk ((bz_ hg (lb1_ HB.out GE177.out))); have GE180 := Aside0.mk ((bz_ hg (lb1_ HB.out GE177.out))); replace HB := Aside0.mk (below_step (lb1_ HB.out GE177.out) hb); have NB177_180 := Aside0.mk (nl_ hg BK177.out); have NB180_177 := Aside0.mk (ng_ hg BK177.out); replace BK177 := Aside0.mk (bb_ (bk_ BK177.out) hb); clear hb hbox hg; have hnb8 := NB180_177.out; have hnc8 := NB177_180.out; obtain ⟨hcz9_0, hcz9_1⟩ := cz2_ BK180.out; obtain ⟨hfz9_0, hfz9_1⟩ := fz2_ BK180.out; obtain ⟨hcz10_0, hcz10_1, hcz10_2⟩ := cz3_ BK177.out; obtain ⟨hfz10_0, hfz10_1, hfz10_2⟩ := fz3_ BK177.out))
 go_ret
 exact ⟨rr_, lb2_ HB.out GE177.out GE180.out⟩
def spanned1_ (k : Nat) (l : List S54) (p q r a b : Int) : Prop := 0 ≤ a ∧ b ≤ 1000000 ∧ (List.range (b - a + 1).toNat).all (fun i => (impl_Sump_open.f k p q r l (a + i)).isSome) = true
instance (k : Nat) (l : List S54) (p q r a b : Int) : Decidable (spanned1_ k l p q r a b) := by unfold spanned1_; infer_instance
def impl_OpenSpans.f (k : Nat) (l0 : List S54) (a1_0 a1_1 a1_2 : Int) : Option (List (List Int) × Bool) :=
 (impl_AreReadings.f k l0).bind fun t1 => if t1 = true then (impl_isSump.f a1_0 a1_1 a1_2).bind fun t2 => if t2 = true then (impl_hours.f l0).bind fun h => if spanned1_ k l0 a1_0 a1_1 a1_2 h.1 h.2 then some ((spansB (fun x => (impl_Sump_open.f k a1_0 a1_1 a1_2 l0 x).getD false) (h.2 - h.1 + 1).toNat h.1 []).map (fun s => [s.1, s.2]), true) else none else some ([], false) else some ([], false)
theorem all_at1_ {p : Int → Bool} {a b : Int} (h : (List.range (b - a + 1).toNat).all (fun i => p (a + i)) = true) (z : Int) (h1 : a ≤ z) (h2 : z ≤ b) : p z = true := by
 have := List.all_eq_true.1 h (z - a).toNat (List.mem_range.2 (by omega))
 rw [show a + ((z - a).toNat : Int) = z by omega] at this
 exact this
set_option maxHeartbeats 8000000 in
set_option maxRecDepth 100000 in
theorem openSpans1_ (k : Nat) (gl gs : Nat) (A0 : Option Addr) (c0 : Nat) (l : List S54) (p q r : Int) (x : Int) (b : Bool) (w : World) (hbl : w.heap[gl]? = some (.cells #[.slice A0 l.length c0] 28 (0, 0))) (hbs : w.heap[gs]? = some (.cells #[.int .i64 p, .int .i64 q, .int .i64 r] 30 (0, 0)))
  (hr0 : Kd.C k54 w A0 l.length l) (hc0 : l.length ≤ c0) (h : impl_Sump_open.f k p q r l x = some b) :
  Calls Try.prog 78 (#[.int .i64 x] ++ #[.pointer (some ⟨gs, 0, none⟩), .pointer (some ⟨gl, 0, none⟩)]) w fun e w' => e = .returned (.bool b) ∧ Below w.heap.size w w' := by
 show Calls Try.prog 78 #[.int .i64 x, .pointer (some ⟨gs, 0, none⟩), .pointer (some ⟨gl, 0, none⟩)] w _
 have hu2 := Try.underlying30
 have hl : w.cell? ⟨gl, 0, none⟩ = some (.slice A0 l.length c0) := (blk_cell hbl 0).trans rfl
 have hs0 : w.cell? ⟨gs, 0, none⟩ = some (.int .i64 p) := (blk_cell hbs 0).trans rfl
 have hs1 : w.cell? ⟨gs, 1, none⟩ = some (.int .i64 q) := (blk_cell hbs 1).trans rfl
 have hs2 : w.cell? ⟨gs, 2, none⟩ = some (.int .i64 r) := (blk_cell hbs 2).trans rfl
 have HR0 := Aside0.mk hr0
 have HC0 := Aside0.mk hc0
 have HF := Aside0.mk h
 clear h hbl hbs hr0 hc0
 go_enter Try.func78, Try.ntmps78
 go_wp2_with (go_at_call 60; refine (impl_Sump_open.calls k p q r A0 c0 l x b _ HR0.out HC0.out HF.out).mono ?_; rintro e w' ⟨rfl, hb⟩; have HB2 := Aside0.mk hb; clear hb)
 go_ret
 exact ⟨rfl, HB2.out⟩
set_option maxHeartbeats 8000000 in
set_option maxRecDepth 100000 in
theorem openSpansS_ (k : Nat) (A0 : Option Addr) (c0 : Nat) (l0 : List S54) (a1_0 a1_1 a1_2 : Int) (r1 : List (List Int)) (r2 : Bool) (w : World) (hr0 : Kd.C k54 w A0 l0.length l0) (hc0 : l0.length ≤ c0) (h : impl_OpenSpans.f k l0 a1_0 a1_1 a1_2 = some (r1, r2)) :
  Calls Try.prog 37 #[.slice A0 l0.length c0, .agg #[.int .i64 a1_0, .int .i64 a1_1, .int .i64 a1_2]] w fun e w' => ∃ (v0_ : Value) (P : List (Nat × Int × Int)), e = .returned (.tuple #[v0_, .bool r2]) ∧ SpS w' w.heap.size v0_ P ∧ (P.map fun p => [p.2.1, p.2.2]) = r1 ∧ Below w.heap.size w w' := by
 unfold impl_OpenSpans.f at h
 obtain ⟨t1, h1, h⟩ := Option.bind_eq_some_iff.mp h
 have hu2 := Try.underlying30
 have HR0 := Aside0.mk hr0
 have HC0 := Aside0.mk hc0
 have E1 := Aside0.mk h1
 clear hr0 hc0 h1
 cases t1 with
 | false =>
  simp only [Bool.false_eq_true, if_false, Option.some.injEq, Prod.mk.injEq] at h
  obtain ⟨rfl, rfl⟩ := h
  go_enter Try.func37, Try.ntmps37
  go_wp2_with (first | ((with_reducible refine gate_dst (N := 2) rfl ?_); refine box_event ?hg (N := 2) ?hd (cs := #[.slice A0 l0.length c0]) (t := 28) ?hr ?_; (case hd => rfl); (case hg => rfl); (case hr => first | (go_simp; done) | (go_simp; rfl)); intro gl hg w2 hbox hb; have BL := Aside0.mk hbox; have BW := Aside0.mk hb; have hl : w2.cell? ⟨gl, 0, none⟩ = some (.slice A0 l0.length c0) := (blk_cell hbox 0).trans rfl; clear hg hbox hb) | ((with_reducible refine gate_dst (N := 3) rfl ?_); refine box_event ?hg (N := 3) ?hd (cs := #[.int .i64 a1_0, .int .i64 a1_1, .int .i64 a1_2]) (t := 30) ?hr ?_; (case hd => rfl); (case hg => rfl); (case hr => first | (go_simp; done) | (go_simp; rfl)); intro gs hg w3 hbox hb; have BS := Aside0.mk hbox; replace hl := bc_ hb hl; replace BL := Aside0.mk (blk_below BL.out hb); replace BW := Aside0.mk (below_step BW.out hb); have hs0 : w3.cell? ⟨gs, 0, none⟩ = some (.int .i64 a1_0) := (blk_cell BS.out 0).trans rfl; have hs1 : w3.cell? ⟨gs, 1, none⟩ = some (.int .i64 a1_1) := (blk_cell BS.out 1).trans rfl; have hs2 : w3.cell? ⟨gs, 2, none⟩ = some (.int .i64 a1_2) := (blk_cell BS.out 2).trans rfl; clear hg hbox hb) | ((with_reducible refine gate_callee (f := 34) rfl ?_); refine ga_ (some 9) Try.func34 #[.slice A0 l0.length c0] ?_; refine (impl_AreReadings.calls k _ _ l0 false _ (Kd.C_below HR0.out BW.out) HC0.out E1.out).mono ?_; rintro e w4 ⟨rfl, hb⟩; refine ⟨_, rfl, ?_⟩; replace hl := bc_ hb hl; replace hs0 := bc_ hb hs0; replace hs1 := bc_ hb hs1; replace hs2 := bc_ hb hs2; replace BL := Aside0.mk (blk_below BL.out hb); replace BS := Aside0.mk (blk_below BS.out hb); replace BW := Aside0.mk (below_step BW.out hb); clear hb))
  go_ret2
  exact ⟨_, [], rr_, SpS.nil _ _, rfl, BW.out⟩
 | true =>
  simp only [if_true] at h
  obtain ⟨t2, h2, h⟩ := Option.bind_eq_some_iff.mp h
  have E2 := Aside0.mk h2
  clear h2
  cases t2 with
  | false =>
   simp only [Bool.false_eq_true, if_false, Option.some.injEq, Prod.mk.injEq] at h
   obtain ⟨rfl, rfl⟩ := h
   go_enter Try.func37, Try.ntmps37
   go_wp2_with (first | ((with_reducible refine gate_dst (N := 2) rfl ?_); refine box_event ?hg (N := 2) ?hd (cs := #[.slice A0 l0.length c0]) (t := 28) ?hr ?_; (case hd => rfl); (case hg => rfl); (case hr => first | (go_simp; done) | (go_simp; rfl)); intro gl hg w2 hbox hb; have BL := Aside0.mk hbox; have BW := Aside0.mk hb; have hl : w2.cell? ⟨gl, 0, none⟩ = some (.slice A0 l0.length c0) := (blk_cell hbox 0).trans rfl; clear hg hbox hb) | ((with_reducible refine gate_dst (N := 3) rfl ?_); refine box_event ?hg (N := 3) ?hd (cs := #[.int .i64 a1_0, .int .i64 a1_1, .int .i64 a1_2]) (t := 30) ?hr ?_; (case hd => rfl); (case hg => rfl); (case hr => first | (go_simp; done) | (go_simp; rfl)); intro gs hg w3 hbox hb; have BS := Aside0.mk hbox; replace hl := bc_ hb hl; replace BL := Aside0.mk (blk_below BL.out hb); replace BW := Aside0.mk (below_step BW.out hb); have hs0 : w3.cell? ⟨gs, 0, none⟩ = some (.int .i64 a1_0) := (blk_cell BS.out 0).trans rfl; have hs1 : w3.cell? ⟨gs, 1, none⟩ = some (.int .i64 a1_1) := (blk_cell BS.out 1).trans rfl; have hs2 : w3.cell? ⟨gs, 2, none⟩ = some (.int .i64 a1_2) := (blk_cell BS.out 2).trans rfl; clear hg hbox hb) | ((with_reducible refine gate_callee (f := 34) rfl ?_); refine ga_ (some 9) Try.func34 #[.slice A0 l0.length c0] ?_; refine (impl_AreReadings.calls k _ _ l0 true _ (Kd.C_below HR0.out BW.out) HC0.out E1.out).mono ?_; rintro e w4 ⟨rfl, hb⟩; refine ⟨_, rfl, ?_⟩; replace hl := bc_ hb hl; replace hs0 := bc_ hb hs0; replace hs1 := bc_ hb hs1; replace hs2 := bc_ hb hs2; replace BL := Aside0.mk (blk_below BL.out hb); replace BS := Aside0.mk (blk_below BS.out hb); replace BW := Aside0.mk (below_step BW.out hb); clear hb) | (go_at_call 59; refine (impl_isSump.calls a1_0 a1_1 a1_2 false _ E2.out).mono ?_; rintro e w5 ⟨rfl, hb⟩; replace hl := bc_ hb hl; replace hs0 := bc_ hb hs0; replace hs1 := bc_ hb hs1; replace hs2 := bc_ hb hs2; replace BL := Aside0.mk (blk_below BL.out hb); replace BS := Aside0.mk (blk_below BS.out hb); replace BW := Aside0.mk (below_step BW.out hb); clear hb))
   go_ret2
   exact ⟨_, [], rr_, SpS.nil _ _, rfl, BW.out⟩
  | true =>
   simp only [if_true] at h
   obtain ⟨⟨x, y⟩, h4, h⟩ := Option.bind_eq_some_iff.mp h
   have E4 := Aside0.mk h4
   clear h4
   simp only at h
   by_cases q : spanned1_ k l0 a1_0 a1_1 a1_2 x y
   ·
    rw [if_pos q] at h
    have SP := Aside0.mk q
    simp only [Option.some.injEq, Prod.mk.injEq] at h
    obtain ⟨h1, rfl⟩ := h
    have HF := Aside0.mk h1
    clear h1 q
    go_enter Try.func37, Try.ntmps37
    go_wp2_with (first | ((with_reducible refine gate_dst (N := 2) rfl ?_); refine box_event ?hg (N := 2) ?hd (cs := #[.slice A0 l0.length c0]) (t := 28) ?hr ?_; (case hd => rfl); (case hg => rfl); (case hr => first | (go_simp; done) | (go_simp; rfl)); intro gl hg w2 hbox hb; have BL := Aside0.mk hbox; have BW := Aside0.mk hb; have hl : w2.cell? ⟨gl, 0, none⟩ = some (.slice A0 l0.length c0) := (blk_cell hbox 0).trans rfl; clear hg hbox hb) | ((with_reducible refine gate_dst (N := 3) rfl ?_); refine box_event ?hg (N := 3) ?hd (cs := #[.int .i64 a1_0, .int .i64 a1_1, .int .i64 a1_2]) (t := 30) ?hr ?_; (case hd => rfl); (case hg => rfl); (case hr => first | (go_simp; done) | (go_simp; rfl)); intro gs hg w3 hbox hb; have BS := Aside0.mk hbox; replace hl := bc_ hb hl; replace BL := Aside0.mk (blk_below BL.out hb); replace BW := Aside0.mk (below_step BW.out hb); have hs0 : w3.cell? ⟨gs, 0, none⟩ = some (.int .i64 a1_0) := (blk_cell BS.out 0).trans rfl; have hs1 : w3.cell? ⟨gs, 1, none⟩ = some (.int .i64 a1_1) := (blk_cell BS.out 1).trans rfl; have hs2 : w3.cell? ⟨gs, 2, none⟩ = some (.int .i64 a1_2) := (blk_cell BS.out 2).trans rfl; clear hg hbox hb) | ((with_reducible refine gate_callee (f := 34) rfl ?_); refine ga_ (some 9) Try.func34 #[.slice A0 l0.length c0] ?_; refine (impl_AreReadings.calls k _ _ l0 true _ (Kd.C_below HR0.out BW.out) HC0.out E1.out).mono ?_; rintro e w4 ⟨rfl, hb⟩; refine ⟨_, rfl, ?_⟩; replace hl := bc_ hb hl; replace hs0 := bc_ hb hs0; replace hs1 := bc_ hb hs1; replace hs2 := bc_ hb hs2; replace BL := Aside0.mk (blk_below BL.out hb); replace BS := Aside0.mk (blk_below BS.out hb); replace BW := Aside0.mk (below_step BW.out hb); clear hb) | (go_at_call 59; refine (impl_isSump.calls a1_0 a1_1 a1_2 true _ E2.out).mono ?_; rintro e w5 ⟨rfl, hb⟩; replace hl := bc_ hb hl; replace hs0 := bc_ hb hs0; replace hs1 := bc_ hb hs1; replace hs2 := bc_ hb hs2; replace BL := Aside0.mk (blk_below BL.out hb); replace BS := Aside0.mk (blk_below BS.out hb); replace BW := Aside0.mk (below_step BW.out hb); clear hb) | ((with_reducible refine gate_callee (f := 76) rfl ?_); refine ga_ (some 18) Try.func76 #[.slice A0 l0.length c0] ?_; refine (impl_hours.calls _ _ l0 x y _ (Kd.C_below HR0.out BW.out) HC0.out E4.out).mono ?_; rintro e w7 ⟨rfl, hd⟩; have hb := hd.below; clear hd; refine ⟨_, rfl, ?_⟩; replace hl := bc_ hb hl; replace hs0 := bc_ hb hs0; replace hs1 := bc_ hb hs1; replace hs2 := bc_ hb hs2; replace BL := Aside0.mk (blk_below BL.out hb); replace BS := Aside0.mk (blk_below BS.out hb); replace BW := Aside0.mk (below_step BW.out hb); clear hb) | (go_at_call 77; refine (spansS_.calls (fun z => (impl_Sump_open.f k a1_0 a1_1 a1_2 l0 z).getD false) 78 #[.pointer (some ⟨gs, 0, none⟩), .pointer (some ⟨gl, 0, none⟩)] (fun _ _ => rfl) x y _ SP.out.1 SP.out.2.1 ?cl).mono ?_; (case cl => (intro W' z hz1 hz2 hW'; obtain ⟨b_, hb_⟩ := Option.isSome_iff_exists.1 (all_at1_ (p := fun z => (impl_Sump_open.f k a1_0 a1_1 a1_2 l0 z).isSome) SP.out.2.2 z hz1 hz2); (rw [show (impl_Sump_open.f k a1_0 a1_1 a1_2 l0 z).getD false = b_ from by rw [hb_]; rfl]); exact openSpans1_ k gl gs A0 c0 l0 a1_0 a1_1 a1_2 z b_ W' (blk_below BL.out hW') (blk_below BS.out hW') (Kd.C_below HR0.out (below_step BW.out hW')) HC0.out hb_)); rintro e w8 ⟨v8, P, rfl, hS8, hP8, hb⟩; have HW := Aside0.mk (below_size BW.out); replace BW := Aside0.mk (below_step BW.out hb); have HS := Aside0.mk (hS8.lower HW.out); have HP := Aside0.mk hP8; clear hl hs0 hs1 hs2 hb hS8 hP8))
    go_ret2
    exact ⟨_, P, rr_, HS.out, by rw [← HF.out, ← HP.out, List.map_map]; rfl, BW.out⟩
   ·
    rw [if_neg q] at h
    cases h
theorem impl_OpenSpans.calls (k : Nat) (A0 : Option Addr) (c0 : Nat) (l0 : List S54) (a1_0 a1_1 a1_2 : Int) (r1 : List (List Int)) (r2 : Bool) (w : World) (hr0 : Kd.C k54 w A0 l0.length l0) (hc0 : l0.length ≤ c0) (h : impl_OpenSpans.f k l0 a1_0 a1_1 a1_2 = some (r1, r2)) :
  Calls Try.prog 37 #[.slice A0 l0.length c0, .agg #[.int .i64 a1_0, .int .i64 a1_1, .int .i64 a1_2]] w fun e w' => ∃ v0_ : Value, e = .returned (.tuple #[v0_, .bool r2]) ∧ Kd.S (Kd.slice 3 (Kd.int .i64)) 36 w' w.heap.size (fun _ => True) v0_ r1 ∧ Below w.heap.size w w' := by
 refine (openSpansS_ k A0 c0 l0 a1_0 a1_1 a1_2 r1 r2 w hr0 hc0 h).mono ?_
 rintro e w' ⟨v, P, rfl, hS, hP, hB⟩
 exact ⟨v, rfl, hP ▸ hS.rowsS, hB⟩
def laws_eqIntS.l0 : Nat → List Int → List Int → Int → Option (Bool)
 | 0, _, _, _ => none
 | k + 1, x0, x1, x5 => if x5 < (x0.length : Int) then (if 0 ≤ x5 then (if x5 < (x1.length : Int) then (if (rd x0 x5) = (rd x1 x5) then (laws_eqIntS.l0 k x0 x1 (wrap64 (x5 + 1))) else (some false)) else (none)) else (none)) else (some true)
def laws_eqIntS.f (k : Nat) (l0 : List Int) (l1 : List Int) : Option (Bool) := if (l0.length : Int) = (l1.length : Int) then (laws_eqIntS.l0 k l0 l1 0) else (some false)
set_option maxHeartbeats 8000000 in
set_option maxRecDepth 100000 in
theorem laws_eqIntS.calls (k : Nat) (A0 : Option Addr) (c0 : Nat) (l0 : List Int) (A1 : Option Addr) (c1 : Nat) (l1 : List Int) (r : Bool) (w : World) (hr0 : Kd.C (Kd.int .i64) w A0 l0.length l0) (hc0 : l0.length ≤ c0) (hr1 : Kd.C (Kd.int .i64) w A1 l1.length l1) (hc1 : l1.length ≤ c1) (h : laws_eqIntS.f k l0 l1 = some r) :
  Calls Try.prog 20 #[.slice A0 l0.length c0, .slice A1 l1.length c1] w fun e w' => e = .returned (.bool r) ∧ Drawn0 w w' := by
 have HR0 := Aside0.mk hr0
 have HC0 := Aside0.mk hc0
 clear hr0 hc0
 have HR1 := Aside0.mk hr1
 have HC1 := Aside0.mk hc1
 clear hr1 hc1
 have H : (if (l0.length : Int) = (l1.length : Int) then (laws_eqIntS.l0 k l0 l1 0) else (some false)) = some r := h
 clear h
 by_cases c3 : (l0.length : Int) = (l1.length : Int)
 ·
  rw [if_pos c3] at H
  have c3b0 : ((l0.length : Int) == (l1.length : Int)) = true := beq_iff_eq.mpr c3
  have c3b1 : ((l0.length : Int) != (l1.length : Int)) = false := bne_eq_false_iff_eq.mpr c3
  have c3b2 : (l0.length == l1.length) = true := by first | simpa using c3 | (simp at c3 ⊢; omega)
  clear c3
  have H' := Aside0.mk H
  clear H
  go_enter Try.func20, Try.ntmps20
  go_wp2
  repeat (go_quiet (fail); try go_wp2)
  go_loopg [5] k (fun kq v5 w' => ∃ (x5_1 : Int), v5 = .int .i64 x5_1 ∧ Aside0 (laws_eqIntS.l0 kq l0 l1 x5_1 = some r) ∧ Aside0 (kq ≤ k) ∧ Drawn0 w w')
  case atStart => exact ⟨(0), (by first | rfl | (simp; done) | (simp [*]; done)), H', ⟨Nat.le_refl _⟩, by repeat (first | exact Drawn0.refl _ | apply Drawn0.step)⟩
  case round =>
   clear H'
   try clear c1
   try clear c2
   try clear p2
   try clear c3
   try clear c3b0
   try clear c3b1
   try clear c3b2
   obtain ⟨x5_1, rfl, HA, HK1, ⟨m1, rfl⟩⟩ := hrel
   cases gk with
   | zero => exact absurd HA.out (by simp [laws_eqIntS.l0])
   | succ k1 =>
    have H := HA.out
    clear HA
    simp only [laws_eqIntS.l0] at H
    by_cases c4 : x5_1 < (l0.length : Int)
    ·
     rw [if_pos c4] at H
     have c4b0 : decide (x5_1 < (l0.length : Int)) = true := decide_eq_true c4
     clear c4
     by_cases c5 : 0 ≤ x5_1
     ·
      rw [if_pos c5] at H
      have c5b0 : decide (0 ≤ x5_1) = true := decide_eq_true c5
      clear c5
      by_cases c6 : x5_1 < (l1.length : Int)
      ·
       rw [if_pos c6] at H
       have c6b0 : decide (x5_1 < (l1.length : Int)) = true := decide_eq_true c6
       clear c6
       by_cases c7 : (rd l0 x5_1) = (rd l1 x5_1)
       ·
        rw [if_pos c7] at H
        have c7b0 : ((rd l0 x5_1) == (rd l1 x5_1)) = true := beq_iff_eq.mpr c7; have c7b1 : ((rd l0 x5_1) != (rd l1 x5_1)) = false := bne_eq_false_iff_eq.mpr c7; clear c7; have H' := Aside0.mk H; clear H; have p239 : 0 ≤ (x5_1 : Int) := dt_; have q239 : x5_1 < (l0.length : Int) := dt_; obtain ⟨ad239, e239, hx239_0⟩ := Kd.at_int HR0.out x5_1 p239 q239
        cases e239
        replace p239 := eq_true p239; replace q239 := eq_true q239; have p240 : 0 ≤ (x5_1 : Int) := dt_; have q240 : x5_1 < (l1.length : Int) := dt_; obtain ⟨ad240, e240, hx240_0⟩ := Kd.at_int HR1.out x5_1 p240 q240
        cases e240
        replace p240 := eq_true p240; replace q240 := eq_true q240
        go_wp2
        repeat (go_quiet (fail); try go_wp2)
        go_roundg k1
        case measure => have := HK1.out; omega
        case rel => exact ⟨(wrap64 (x5_1 + 1)), (by first | rfl | (simp; done) | (simp [*]; done)), H', ⟨by have := HK1.out; omega⟩, by repeat (first | exact Drawn0.refl _ | apply Drawn0.step)⟩
       ·
        rw [if_neg c7] at H
        have c7b0 : ((rd l0 x5_1) == (rd l1 x5_1)) = false := beq_eq_false_iff_ne.mpr c7; have c7b1 : ((rd l0 x5_1) != (rd l1 x5_1)) = true := bne_iff_ne.mpr c7; obtain rfl := Option.some.inj H; have p239 : 0 ≤ (x5_1 : Int) := dt_; have q239 : x5_1 < (l0.length : Int) := dt_; obtain ⟨ad239, e239, hx239_0⟩ := Kd.at_int HR0.out x5_1 p239 q239
        cases e239
        replace p239 := eq_true p239; replace q239 := eq_true q239; have p240 : 0 ≤ (x5_1 : Int) := dt_; have q240 : x5_1 < (l1.length : Int) := dt_; obtain ⟨ad240, e240, hx240_0⟩ := Kd.at_int HR1.out x5_1 p240 q240
        cases e240
        replace p240 := eq_true p240; replace q240 := eq_true q240
        go_wp2
        repeat (go_quiet (fail); try go_wp2)
        go_ret
        exact ⟨by first | rfl | (simp; done) | (simp [*]; done), by repeat (first | exact Drawn0.refl _ | apply Drawn0.step)⟩
      ·
       rw [if_neg c6] at H
       exact absurd H (by simp)
     ·
      rw [if_neg c5] at H
      exact absurd H (by simp)
    ·
     rw [if_neg c4] at H
     have c4b0 : decide (x5_1 < (l0.length : Int)) = false := decide_eq_false c4
     clear c4
     obtain rfl := Option.some.inj H
     go_wp2
     repeat (go_quiet (fail); try go_wp2)
     go_ret
     exact ⟨by first | rfl | (simp; done) | (simp [*]; done), by repeat (first | exact Drawn0.refl _ | apply Drawn0.step)⟩
 ·
  rw [if_neg c3] at H
  have c3b0 : ((l0.length : Int) == (l1.length : Int)) = false := beq_eq_false_iff_ne.mpr c3
  have c3b1 : ((l0.length : Int) != (l1.length : Int)) = true := bne_iff_ne.mpr c3
  have c3b2 : (l0.length == l1.length) = false := by first | simpa using c3 | (simp at c3 ⊢; omega)
  obtain rfl := Option.some.inj H
  go_enter Try.func20, Try.ntmps20
  go_wp2
  repeat (go_quiet (fail); try go_wp2)
  go_ret
  exact ⟨by first | rfl | (simp; done) | (simp [*]; done), by repeat (first | exact Drawn0.refl _ | apply Drawn0.step)⟩
def laws_eqIntSS.l0 : Nat → List (List Int) → List (List Int) → Int → Option (Bool)
 | 0, _, _, _ => none
 | k + 1, x0, x1, x5 => if x5 < (x0.length : Int) then (if 0 ≤ x5 then (if x5 < (x1.length : Int) then ((laws_eqIntS.f k (rd_L9 x0 x5) (rd_L9 x1 x5)).bind fun t502 => (if t502 = true then (laws_eqIntSS.l0 k x0 x1 (wrap64 (x5 + 1))) else (some false))) else (none)) else (none)) else (some true)
def laws_eqIntSS.f (k : Nat) (l0 : List (List Int)) (l1 : List (List Int)) : Option (Bool) := if (l0.length : Int) = (l1.length : Int) then (laws_eqIntSS.l0 k l0 l1 0) else (some false)
set_option maxHeartbeats 8000000 in
set_option maxRecDepth 100000 in
theorem laws_eqIntSS.calls (k : Nat) (A0 : Option Addr) (c0 : Nat) (l0 : List (List Int)) (A1 : Option Addr) (c1 : Nat) (l1 : List (List Int)) (r : Bool) (w : World) (hr0 : Kd.C (Kd.slice 3 (Kd.int .i64)) w A0 l0.length l0) (hc0 : l0.length ≤ c0) (hr1 : Kd.C (Kd.slice 3 (Kd.int .i64)) w A1 l1.length l1) (hc1 : l1.length ≤ c1) (h : laws_eqIntSS.f k l0 l1 = some r) :
  Calls Try.prog 38 #[.slice A0 l0.length c0, .slice A1 l1.length c1] w fun e w' => e = .returned (.bool r) ∧ Drawn0 w w' := by
 have HR0 := Aside0.mk hr0
 have HC0 := Aside0.mk hc0
 clear hr0 hc0
 have HR1 := Aside0.mk hr1
 have HC1 := Aside0.mk hc1
 clear hr1 hc1
 have H : (if (l0.length : Int) = (l1.length : Int) then (laws_eqIntSS.l0 k l0 l1 0) else (some false)) = some r := h
 clear h
 by_cases c3 : (l0.length : Int) = (l1.length : Int)
 ·
  rw [if_pos c3] at H
  have c3b0 : ((l0.length : Int) == (l1.length : Int)) = true := beq_iff_eq.mpr c3
  have c3b1 : ((l0.length : Int) != (l1.length : Int)) = false := bne_eq_false_iff_eq.mpr c3
  have c3b2 : (l0.length == l1.length) = true := by first | simpa using c3 | (simp at c3 ⊢; omega)
  clear c3
  have H' := Aside0.mk H
  clear H
  go_enter Try.func38, Try.ntmps38
  go_wp2
  repeat (go_quiet (fail); try go_wp2)
  go_loopg [5] k (fun kq v5 w' => ∃ (x5_1 : Int), v5 = .int .i64 x5_1 ∧ Aside0 (laws_eqIntSS.l0 kq l0 l1 x5_1 = some r) ∧ Aside0 (kq ≤ k) ∧ Drawn0 w w')
  case atStart => exact ⟨(0), (by first | rfl | (simp; done) | (simp [*]; done)), H', ⟨Nat.le_refl _⟩, by repeat (first | exact Drawn0.refl _ | apply Drawn0.step)⟩
  case round =>
   clear H'
   try clear c1
   try clear p2
   try clear c3
   try clear c3b0
   try clear c3b1
   try clear c3b2
   obtain ⟨x5_1, rfl, HA, HK1, ⟨m1, rfl⟩⟩ := hrel
   cases gk with
   | zero => exact absurd HA.out (by simp [laws_eqIntSS.l0])
   | succ k1 =>
    have H := HA.out
    clear HA
    simp only [laws_eqIntSS.l0] at H
    by_cases c4 : x5_1 < (l0.length : Int)
    ·
     rw [if_pos c4] at H
     have c4b0 : decide (x5_1 < (l0.length : Int)) = true := decide_eq_true c4
     clear c4
     by_cases c5 : 0 ≤ x5_1
     ·
      rw [if_pos c5] at H
      have c5b0 : decide (0 ≤ x5_1) = true := decide_eq_true c5
      clear c5
      by_cases c6 : x5_1 < (l1.length : Int)
      ·
       rw [if_pos c6] at H
       have c6b0 : decide (x5_1 < (l1.length : Int)) = true := decide_eq_true c6
       clear c6
       replace H := Option.bind_eq_some_iff.mp H
       obtain ⟨t502, A70, H⟩ := H
       replace H : (if t502 = true then (laws_eqIntSS.l0 k1 l0 l1 (wrap64 (x5_1 + 1))) else (some false)) = some r := H
       have A7 := Aside0.mk A70
       clear A70
       by_cases c8 : t502 = true
       ·
        subst c8
        have H1 : (laws_eqIntSS.l0 k1 l0 l1 (wrap64 (x5_1 + 1))) = some r := by rw [if_pos rfl] at H; exact H
        clear H; have H := H1; clear H1; have H' := Aside0.mk H; clear H; have p500 : 0 ≤ (x5_1 : Int) := dt_; have q500 : x5_1 < (l0.length : Int) := dt_; obtain ⟨ad500, A500_0, c500_0, e500, hx500_0, hl500_0, hi500_0⟩ := at_L9 HR0.out x5_1 p500 q500
        cases e500
        have HR500_0 := Aside0.mk hi500_0; have HC500_0 := Aside0.mk hl500_0; clear hi500_0 hl500_0; replace p500 := eq_true p500; replace q500 := eq_true q500; have p501 : 0 ≤ (x5_1 : Int) := dt_; have q501 : x5_1 < (l1.length : Int) := dt_; obtain ⟨ad501, A501_0, c501_0, e501, hx501_0, hl501_0, hi501_0⟩ := at_L9 HR1.out x5_1 p501 q501
        cases e501
        have HR501_0 := Aside0.mk hi501_0; have HC501_0 := Aside0.mk hl501_0; clear hi501_0 hl501_0; replace p501 := eq_true p501; replace q501 := eq_true q501
        go_wp2_with (first | (go_at_call 20; (with_reducible refine (laws_eqIntS.calls k1 _ _ (rd_L9 l0 x5_1) _ _ (rd_L9 l1 x5_1) true _ ?side1 ?side2 ?side3 ?side4 A7.out).mono ?_); (case side1 => exact kc_ HR500_0.out); (case side2 => exact HC500_0.out); (case side3 => exact kc_ HR501_0.out); (case side4 => exact HC501_0.out); rintro e w' ⟨rfl, ⟨nd, rfl⟩⟩; (try first | exact ⟨rfl, _, World.drewN_drewN _ _ _⟩ | exact ⟨rfl, _, Eq.trans (World.drewN_drewN _ _ _) (congrArg (World.drewN _) (Nat.add_assoc _ _ _))⟩)))
        repeat (go_quiet (first | (go_at_call 20; (with_reducible refine (laws_eqIntS.calls k1 _ _ (rd_L9 l0 x5_1) _ _ (rd_L9 l1 x5_1) true _ ?side1 ?side2 ?side3 ?side4 A7.out).mono ?_); (case side1 => exact kc_ HR500_0.out); (case side2 => exact HC500_0.out); (case side3 => exact kc_ HR501_0.out); (case side4 => exact HC501_0.out); rintro e w' ⟨rfl, ⟨nd, rfl⟩⟩; (try first | exact ⟨rfl, _, World.drewN_drewN _ _ _⟩ | exact ⟨rfl, _, Eq.trans (World.drewN_drewN _ _ _) (congrArg (World.drewN _) (Nat.add_assoc _ _ _))⟩))); try go_wp2_with (first | (go_at_call 20; (with_reducible refine (laws_eqIntS.calls k1 _ _ (rd_L9 l0 x5_1) _ _ (rd_L9 l1 x5_1) true _ ?side1 ?side2 ?side3 ?side4 A7.out).mono ?_); (case side1 => exact kc_ HR500_0.out); (case side2 => exact HC500_0.out); (case side3 => exact kc_ HR501_0.out); (case side4 => exact HC501_0.out); rintro e w' ⟨rfl, ⟨nd, rfl⟩⟩; (try first | exact ⟨rfl, _, World.drewN_drewN _ _ _⟩ | exact ⟨rfl, _, Eq.trans (World.drewN_drewN _ _ _) (congrArg (World.drewN _) (Nat.add_assoc _ _ _))⟩))))
        go_roundg k1
        case measure => have := HK1.out; omega
        case rel => exact ⟨(wrap64 (x5_1 + 1)), (by first | rfl | (simp; done) | (simp [*]; done)), H', ⟨by have := HK1.out; omega⟩, by repeat (first | exact Drawn0.refl _ | apply Drawn0.step)⟩
       ·
        replace c8 := Bool.eq_false_iff.mpr c8; subst c8
        have H1 : (some false) = some r := by rw [if_neg (show ¬ (false = true) by decide)] at H; exact H
        clear H; have H := H1; clear H1; obtain rfl := Option.some.inj H; have p500 : 0 ≤ (x5_1 : Int) := dt_; have q500 : x5_1 < (l0.length : Int) := dt_; obtain ⟨ad500, A500_0, c500_0, e500, hx500_0, hl500_0, hi500_0⟩ := at_L9 HR0.out x5_1 p500 q500
        cases e500
        have HR500_0 := Aside0.mk hi500_0; have HC500_0 := Aside0.mk hl500_0; clear hi500_0 hl500_0; replace p500 := eq_true p500; replace q500 := eq_true q500; have p501 : 0 ≤ (x5_1 : Int) := dt_; have q501 : x5_1 < (l1.length : Int) := dt_; obtain ⟨ad501, A501_0, c501_0, e501, hx501_0, hl501_0, hi501_0⟩ := at_L9 HR1.out x5_1 p501 q501
        cases e501
        have HR501_0 := Aside0.mk hi501_0; have HC501_0 := Aside0.mk hl501_0; clear hi501_0 hl501_0; replace p501 := eq_true p501; replace q501 := eq_true q501
        go_wp2_with (first | (go_at_call 20; (with_reducible refine (laws_eqIntS.calls k1 _ _ (rd_L9 l0 x5_1) _ _ (rd_L9 l1 x5_1) false _ ?side1 ?side2 ?side3 ?side4 A7.out).mono ?_); (case side1 => exact kc_ HR500_0.out); (case side2 => exact HC500_0.out); (case side3 => exact kc_ HR501_0.out); (case side4 => exact HC501_0.out); rintro e w' ⟨rfl, ⟨nd, rfl⟩⟩; (try first | exact ⟨rfl, _, World.drewN_drewN _ _ _⟩ | exact ⟨rfl, _, Eq.trans (World.drewN_drewN _ _ _) (congrArg (World.drewN _) (Nat.add_assoc _ _ _))⟩)))
        repeat (go_quiet (first | (go_at_call 20; (with_reducible refine (laws_eqIntS.calls k1 _ _ (rd_L9 l0 x5_1) _ _ (rd_L9 l1 x5_1) false _ ?side1 ?side2 ?side3 ?side4 A7.out).mono ?_); (case side1 => exact kc_ HR500_0.out); (case side2 => exact HC500_0.out); (case side3 => exact kc_ HR501_0.out); (case side4 => exact HC501_0.out); rintro e w' ⟨rfl, ⟨nd, rfl⟩⟩; (try first | exact ⟨rfl, _, World.drewN_drewN _ _ _⟩ | exact ⟨rfl, _, Eq.trans (World.drewN_drewN _ _ _) (congrArg (World.drewN _) (Nat.add_assoc _ _ _))⟩))); try go_wp2_with (first | (go_at_call 20; (with_reducible refine (laws_eqIntS.calls k1 _ _ (rd_L9 l0 x5_1) _ _ (rd_L9 l1 x5_1) false _ ?side1 ?side2 ?side3 ?side4 A7.out).mono ?_); (case side1 => exact kc_ HR500_0.out); (case side2 => exact HC500_0.out); (case side3 => exact kc_ HR501_0.out); (case side4 => exact HC501_0.out); rintro e w' ⟨rfl, ⟨nd, rfl⟩⟩; (try first | exact ⟨rfl, _, World.drewN_drewN _ _ _⟩ | exact ⟨rfl, _, Eq.trans (World.drewN_drewN _ _ _) (congrArg (World.drewN _) (Nat.add_assoc _ _ _))⟩))))
        go_ret
        exact ⟨by first | rfl | (simp; done) | (simp [*]; done), by repeat (first | exact Drawn0.refl _ | apply Drawn0.step)⟩
      ·
       rw [if_neg c6] at H
       exact absurd H (by simp)
     ·
      rw [if_neg c5] at H
      exact absurd H (by simp)
    ·
     rw [if_neg c4] at H
     have c4b0 : decide (x5_1 < (l0.length : Int)) = false := decide_eq_false c4
     clear c4
     obtain rfl := Option.some.inj H
     go_wp2
     repeat (go_quiet (fail); try go_wp2)
     go_ret
     exact ⟨by first | rfl | (simp; done) | (simp [*]; done), by repeat (first | exact Drawn0.refl _ | apply Drawn0.step)⟩
 ·
  rw [if_neg c3] at H
  have c3b0 : ((l0.length : Int) == (l1.length : Int)) = false := beq_eq_false_iff_ne.mpr c3
  have c3b1 : ((l0.length : Int) != (l1.length : Int)) = true := bne_iff_ne.mpr c3
  have c3b2 : (l0.length == l1.length) = false := by first | simpa using c3 | (simp at c3 ⊢; omega)
  obtain rfl := Option.some.inj H
  go_enter Try.func38, Try.ntmps38
  go_wp2
  repeat (go_quiet (fail); try go_wp2)
  go_ret
  exact ⟨by first | rfl | (simp; done) | (simp [*]; done), by repeat (first | exact Drawn0.refl _ | apply Drawn0.step)⟩
def laws_markIntS.l0 : Nat → List Int → Int → Int → Option (Int × List Int)
 | 0, _, _, _ => none
 | k + 1, x0, x1, x5 => if x5 < (x0.length : Int) then (if 0 ≤ x5 then (laws_markIntS.l0 k (x0.set (x5 : Int).toNat x1) (wrap64 (x1 + 1)) (wrap64 (x5 + 1))) else (none)) else (some (x1, x0))
def laws_markIntS.f (k : Nat) (l0 : List Int) (a1 : Int) : Option (Int × List Int) := laws_markIntS.l0 k l0 a1 0
set_option maxHeartbeats 8000000 in
set_option maxRecDepth 100000 in
theorem laws_markIntS.calls (k : Nat) (P0_ : Nat → Prop) (u9000_ : Value) (l0 : List Int) (a1 : Int) (r1 : Int) (r2 : List Int) (w0 w : World) (hB : Below w0.heap.size w0 w) (ho0 : Kd.R (Kd.int .i64) 3 w w0.heap.size P0_ u9000_ l0) (h : laws_markIntS.f k l0 a1 = some (r1, r2)) :
  Calls Try.prog 24 #[u9000_, .int .i64 a1] w fun e w' => e = .returned (.int .i64 r1) ∧ Kd.R (Kd.int .i64) 3 w' w0.heap.size (fun k_ => (P0_ k_ ∨ w.heap.size ≤ k_)) u9000_ r2 ∧ Below w0.heap.size w0 w' ∧ Kept w w' (fun k_ => P0_ k_) := by
 have HO0 := Aside0.mk (show Kd.R (Kd.int .i64) 3 w w0.heap.size (fun k_ => (P0_ k_ ∨ w.heap.size ≤ k_)) u9000_ l0 from Kd.R_mono ho0 (fun k_ hk => (.inl hk)))
 have HK := Aside0.mk (Kept.refl w (fun k_ => P0_ k_))
 have HW0 := Aside0.mk hB.size
 have HB := Aside0.mk hB
 clear hB
 have H : (laws_markIntS.l0 k l0 a1 0) = some (r1, r2) := h
 clear h
 have H' := Aside0.mk H
 clear H
 go_enter Try.func24, Try.ntmps24
 go_wp2
 go_loopg [1, 5] k (fun kq v1 v5 w' => ∃ (x0_1 : List Int) (x1_1 : Int) (x5_1 : Int), v1 = .int .i64 x1_1 ∧ v5 = .int .i64 x5_1 ∧ Aside0 (laws_markIntS.l0 kq x0_1 x1_1 x5_1 = some (r1, r2)) ∧ Aside0 (kq ≤ k) ∧ Aside0 (Kd.R (Kd.int .i64) 3 w' w0.heap.size (fun k_ => (P0_ k_ ∨ w.heap.size ≤ k_)) u9000_ x0_1) ∧ Aside0 (Kept w w' (fun k_ => P0_ k_)) ∧ Aside0 (Below w0.heap.size w0 w'))
 case atStart => exact ⟨(l0), (a1), (0), (by first | rfl | (simp; done) | (simp [*]; done)), (by first | rfl | (simp; done) | (simp [*]; done)), H', ⟨Nat.le_refl _⟩, ⟨kr_ HO0.out⟩, ⟨kt_ HK.out⟩, ⟨lb0_ HB.out⟩⟩
 case round =>
  clear H'
  try clear c2
  try clear p2
  obtain ⟨x0_1, x1_1, x5_1, rfl, rfl, HA, HK1, HO_0, HK, HB⟩ := hrel
  cases gk with
  | zero => exact absurd HA.out (by simp [laws_markIntS.l0])
  | succ k1 =>
   have H := HA.out
   clear HA
   simp only [laws_markIntS.l0] at H
   by_cases c3 : x5_1 < (x0_1.length : Int)
   ·
    rw [if_pos c3] at H
    have c3b0 : decide (x5_1 < (x0_1.length : Int)) = true := decide_eq_true c3
    clear c3
    by_cases c4 : 0 ≤ x5_1
    ·
     rw [if_pos c4] at H
     have c4b0 : decide (0 ≤ x5_1) = true := decide_eq_true c4
     clear c4
     obtain ⟨y251, hy251⟩ : ∃ y_ : List Int, y_ = (x0_1.set (x5_1 : Int).toNat x1_1) := ⟨_, rfl⟩
     replace H : (laws_markIntS.l0 k1 y251 (wrap64 (x1_1 + 1)) (wrap64 (x5_1 + 1))) = some (r1, r2) := by first | (rw [hy251]; with_reducible exact H) | (have H2_ := (Option.bind_some _ _).symm.trans H; rw [hy251]; with_reducible exact H2_) | (have H2_ := (Option.bind_some _ _).symm.trans H; with_reducible exact H2_) | with_reducible exact H | (rw [hy251]; exact H) | exact H
     have Ny251 := Aside0.mk hy251
     clear hy251
     have H' := Aside0.mk H
     clear H
     obtain ⟨Ao6, co6, eo6⟩ := Kd.R_slice HO_0.out
     subst eo6
     have p5 : 0 ≤ (x5_1 : Int) := dt_
     have q5 : (x5_1 : Int) < ((x0_1.length : Int) : Int) := dt_
     obtain ⟨go5, co5, eo5, gb5, gl5, cl5, HG5⟩ := Kd.R_form HO_0.out (by omega)
     (first | cases eo5 | (injection eo5 with ea_ en_ ec_; (first | subst ea_ | (injection ea_ with ea_; subst ea_)); subst ec_; clear en_))
     have GB5 := Aside0.mk gb5
     have GG5 := Aside0.mk HG5
     clear gb5 gl5 HG5
     have HMgo5 := Aside0.mk (show (P0_ go5 ∨ w.heap.size ≤ go5) from (HO_0.out.1 _ rfl))
     obtain ⟨hx5_0, hf5_0⟩ := Kd.R_celln 0 HO_0.out (x5_1 : Int) p5 q5
     replace p5 := eq_true p5
     replace q5 := eq_true q5
     have HP7 := Kd.R_putg HO_0.out (x5_1 : Int) x1_1
     go_wp2_with (first | ((with_reducible refine gate_store (t := 3) (p := 15) rfl ?_); refine store_event (t := 3) (p := 15) (v := ?vo_w8) (w1 := (wr.setCell ⟨go5, (x5_1 : Int).toNat, none⟩ (.int .i64 x1_1))) ?hg ?ho ?hn ?hr ?_; (case ho => rfl); (case hg => rfl); (case hn => rfl); (case hr => first | (go_simp; done) | (go_simp; rfl)); intro w8 hw; have hg : wr.grownBy w8 (some go5) := (by rw [hw]; exact HP7.2); have hp_ : Kd.R (Kd.int .i64) 3 w8 w0.heap.size (fun k_ => (P0_ k_ ∨ w.heap.size ≤ k_)) (.slice (some ⟨go5, 0, none⟩) x0_1.length co6) y251 := (by rw [hw, Ny251.out]; exact HP7.1); clear HP7; replace HB := Aside0.mk ((by rw [hw]; exact below_set (HB.out) GB5.out : Below w0.heap.size w0 w8)); replace HK := Aside0.mk (Kept.of_grown (S := (fun k_ => P0_ k_)) hg (kt_ HK.out) (fun k_ e_ => (HO_0.out.1 k_ e_))); replace HO_0 := Aside0.mk (hp_); clear hg hw hp_))
     go_roundg k1
     case measure => have := HK1.out; omega
     case rel => exact ⟨(y251), (wrap64 (x1_1 + 1)), (wrap64 (x5_1 + 1)), (by first | rfl | (simp; done) | (simp [*]; done)), (by first | rfl | (simp; done) | (simp [*]; done)), H', ⟨by have := HK1.out; omega⟩, ⟨by (with_reducible repeat (first | apply Kd.R_alloc | apply Kd.R_drewN | apply Kd.R_drew)); first | exact HO_0.out | (rw [Ny251.out]; exact (Kd.R_putg (Kd.R_drewN HO_0.out _) _ _).1) | (rw [Ny251.out]; exact (Kd.R_putg HO_0.out _ _).1)⟩, ⟨kt_ HK.out⟩, ⟨by repeat (first | (with_reducible first | exact HB.out | apply below_alloc | apply pw_below_drewN | apply below_drew1) | exact HB.out | (first | exact below_set (pw_below_drewN HB.out _) GB5.out | exact below_set HB.out GB5.out))⟩⟩
    ·
     rw [if_neg c4] at H
     exact absurd H (by simp)
   ·
    rw [if_neg c3] at H
    have c3b0 : decide (x5_1 < (x0_1.length : Int)) = false := decide_eq_false c3
    clear c3
    simp only [Option.some.injEq, Prod.mk.injEq] at H
    obtain ⟨rfl, rfl⟩ := H
    obtain ⟨Ao9, co9, eo9⟩ := Kd.R_slice HO_0.out
    subst eo9
    go_wp2
    go_ret
    exact ⟨rr_, kr_ HO_0.out, lb0_ HB.out, kt_ HK.out⟩
def markT_ : Int → List (List Int) → List (List Int)
 | _, [] => []
 | m, _ :: t => [m, m + 1] :: markT_ (m + 2) t
def mkP_ : Int → List (Nat × Int × Int) → List (Nat × Int × Int)
 | _, [] => []
 | m, p :: t => (p.1, m, m + 1) :: mkP_ (m + 2) t
theorem markT_len : ∀ (t : List (List Int)) (m : Int), (markT_ m t).length = t.length
 | [], _ => rfl
 | _ :: t, m => by
  unfold markT_
  rw [List.length_cons, List.length_cons, markT_len t]
theorem mkP_len : ∀ (t : List (Nat × Int × Int)) (m : Int), (mkP_ m t).length = t.length
 | [], _ => rfl
 | _ :: t, m => by
  unfold mkP_
  rw [List.length_cons, List.length_cons, mkP_len t]
theorem mkP_map : ∀ (t : List (Nat × Int × Int)) (m : Int), (mkP_ m t).map (fun p => [p.2.1, p.2.2]) = markT_ m (t.map fun p => [p.2.1, p.2.2])
 | [], _ => rfl
 | p :: t, m => by
  unfold mkP_
  rw [List.map_cons, List.map_cons]
  unfold markT_
  rw [mkP_map t]
theorem mkP_snoc (p : Nat × Int × Int) : ∀ (t : List (Nat × Int × Int)) (m : Int), mkP_ m (t ++ [p]) = mkP_ m t ++ [(p.1, m + 2 * (t.length : Int), m + 2 * (t.length : Int) + 1)]
 | [], m => by
  show [(p.1, m, m + 1)] = [(p.1, m + 2 * ((0 : Nat) : Int), m + 2 * ((0 : Nat) : Int) + 1)]
  rw [show m + 2 * ((0 : Nat) : Int) = m by omega]
 | q :: t, m => by
  rw [List.cons_append]
  unfold mkP_
  rw [mkP_snoc p t, List.cons_append, List.length_cons, show m + 2 + 2 * (t.length : Int) = m + 2 * ((t.length + 1 : Nat) : Int) by omega]
theorem mark2_ (x y m : Int) (h0 : 0 ≤ m) (h1 : m ≤ 1000000) : laws_markIntS.f 10 [x, y] m = some (m + 2, [m, m + 1]) := by
 have w1 : wrap64 (m + 1) = m + 1 := by unfold wrap64; omega
 have w2 : wrap64 (m + 1 + 1) = m + 2 := by unfold wrap64; omega
 have w3 : wrap64 (0 + 1) = 1 := by unfold wrap64; omega
 have w4 : wrap64 (1 + 1) = 2 := by unfold wrap64; omega
 unfold laws_markIntS.f
 simp only [laws_markIntS.l0, List.length_cons, List.length_nil]
 rw [w3, w1]
 simp only [List.length_set, List.length_cons, List.length_nil]
 rw [w4, w2]
 simp
theorem SpS.kept {w w' : World} {base : Nat} {v : Value} {P : List (Nat × Int × Int)} {S : Nat → Prop} (h : SpS w base v P) (hk : Kept w w' S) (hne : ∀ k cs t, w.heap[k]? = some (.cells cs t (0, 0)) → (t = 36 ∨ t = 3) → ¬ S k) : SpS w' base v P := by
 refine ⟨?_, fun p hp => ?_, h.nod⟩
 ·
  refine Kd.R_mono (Kd.R_keptB (Kd.R_bound h.row) hk (fun k hk hs => ?_)) (fun _ _ => trivial)
  obtain ⟨_, _, _, q, hq, cells, hc⟩ := hk
  have e : q = 36 := List.mem_singleton.1 hq
  exact hne k cells q hc (.inl e) hs
 ·
  have hc := h.cel p hp
  exact ⟨hc.1, (hk.2 p.1 (blk_lt hc.2) (hne p.1 _ _ hc.2 (.inr rfl))).trans hc.2⟩
theorem SpS.at_ {w : World} {base : Nat} {v : Value} {P : List (Nat × Int × Int)} (h : SpS w base v P) {i : Nat} {p : Nat × Int × Int} (hi : P[i]? = some p) : ∃ ad c, v = .slice (some ad) P.length c ∧ w.cell? (ad.add i) = some (.slice (some ⟨p.1, 0, none⟩) 2 2) := by
 obtain ⟨hl, hp⟩ := List.getElem?_eq_some_iff.1 hi
 obtain ⟨A, c, e, _, hC⟩ := Kd.R_reads h.row
 obtain ⟨ad, rfl, hc⟩ := ReadsOf.at_ (Kd.reads_of_C (enc := fun b => Value.slice (some ⟨b, 0, none⟩) 2 2) (d := (0 : Nat)) (h1 := fun _ => rfl) hC) (i : Int) (by omega) (by rw [List.length_map]; omega)
 refine ⟨ad, c, by rw [e, List.length_map], ?_⟩
 rw [Int.toNat_natCast] at hc
 rw [hc]
 simp [rdOf, hi]
theorem row2_ {w : World} {base : Nat} {ok : Nat → Prop} {b : Nat} {m1 m2 : Int} (h : (Kd.int .i64).R 3 w base ok (.slice (some ⟨b, 0, none⟩) 2 2) [m1, m2]) : w.heap[b]? = some (.cells #[.int .i64 m1, .int .i64 m2] 3 (0, 0)) := by
 obtain ⟨inner, ho⟩ := Kd.R_own h
 obtain ⟨_, ho⟩ := ho
 rcases ho with ⟨e, _⟩ | ⟨g, cap, cur, e, _, hb, _, _, hs, _⟩
 ·
  cases e
 ·
  injection e with e1 e2 e3
  injection e1 with e1
  injection e1 with e4 e5 e6
  subst e4
  subst e3
  obtain ⟨A, c, e7, _, hC⟩ := Kd.R_reads h
  injection e7 with e8 e9 e10
  obtain ⟨ad, e11, hc⟩ := ReadsOf.at_ (Kd.reads_of_C (enc := Value.int .i64) (d := (0 : Int)) (h1 := fun _ => rfl) hC) (0 : Int) (by decide) (by simp)
  obtain ⟨ad', e12, hc'⟩ := ReadsOf.at_ (Kd.reads_of_C (enc := Value.int .i64) (d := (0 : Int)) (h1 := fun _ => rfl) hC) (1 : Int) (by decide) (by simp)
  rw [e11] at e8
  rw [e12] at e11
  injection e8 with e8
  injection e11 with e11
  subst e8
  subst e11
  have h0 := (blk_cell hb 0).symm.trans hc
  have h1 := (blk_cell hb 1).symm.trans hc'
  have : cur = #[.int .i64 m1, .int .i64 m2] := by
   have hs2 : cur.size = 2 := hs.trans rfl
   apply Array.ext
   ·
    rw [hs2]; rfl
   ·
    intro i hi1 hi2
    have : i = 0 ∨ i = 1 := by omega
    rcases this with rfl | rfl
    ·
     rw [Array.getElem?_eq_getElem (by omega)] at h0
     exact (Option.some.inj h0).trans rfl
    ·
     rw [Array.getElem?_eq_getElem (by omega)] at h1
     exact (Option.some.inj h1).trans rfl
  rw [hb, this]
theorem SpS.mark {w w' : World} {base : Nat} {v : Value} {Q T : List (Nat × Int × Int)} {b : Nat} {x y m1 m2 : Int} (h : SpS w base v (Q ++ (b, x, y) :: T)) (hb : w'.heap[b]? = some (.cells #[.int .i64 m1, .int .i64 m2] 3 (0, 0))) (hk : Kept w w' (fun k => k = b)) : SpS w' base v (Q ++ (b, m1, m2) :: T) := by
 have hc0 := h.cel (b, x, y) (by simp)
 have hmap : (Q ++ (b, m1, m2) :: T).map (·.1) = (Q ++ (b, x, y) :: T).map (·.1) := by simp
 have hn := h.nod
 refine ⟨?_, fun p hp => ?_, by rw [hmap]; exact hn⟩
 ·
  rw [hmap]
  refine Kd.R_mono (Kd.R_keptB (Kd.R_bound h.row) hk (fun k hk hs => ?_)) (fun _ _ => trivial)
  obtain ⟨_, _, _, q, hq, cells, hc⟩ := hk
  have e : q = 36 := List.mem_singleton.1 hq
  subst hs
  rw [hc0.2] at hc
  injection hc with hc
  injection hc with _ hc
  rw [e] at hc
  exact absurd hc (by decide)
 ·
  by_cases e : p.1 = b
  ·
   have hp' : p = (b, m1, m2) := by
    rw [List.map_append, List.map_cons, List.nodup_append] at hn
    obtain ⟨n1, n2, n3⟩ := hn
    rw [List.nodup_cons] at n2
    rcases List.mem_append.1 hp with hp | hp
    ·
     exact absurd e (n3 _ (List.mem_map_of_mem hp) _ List.mem_cons_self)
    ·
     rcases List.mem_cons.1 hp with hp | hp
     ·
      exact hp
     ·
      exact absurd (List.mem_map_of_mem (f := fun q : Nat × Int × Int => q.1) hp) (by rw [e]; exact n2.1)
   subst hp'
   exact ⟨hc0.1, hb⟩
  ·
   have hp' : p ∈ Q ++ (b, x, y) :: T := by
    rcases List.mem_append.1 hp with hp | hp
    ·
     exact List.mem_append_left _ hp
    ·
     rcases List.mem_cons.1 hp with hp | hp
     ·
      exact absurd (by rw [hp]) e
     ·
      exact List.mem_append_right _ (List.mem_cons_of_mem _ hp)
   have hc := h.cel p hp'
   exact ⟨hc.1, (hk.2 p.1 (blk_lt hc.2) e).trans hc.2⟩
set_option maxHeartbeats 8000000 in
set_option maxRecDepth 100000 in
theorem markSS_ (base : Nat) (v : Value) (P : List (Nat × Int × Int)) (w0 w : World) (hB : Below w0.heap.size w0 w) (hb : w0.heap.size ≤ base) (hS : SpS w base v P) (hl : P.length ≤ 100000) :
  Calls Try.prog 39 #[v, .int .i64 1] w fun e w' => e = .returned (.int .i64 (1 + 2 * (P.length : Int))) ∧ SpS w' base v (mkP_ 1 P) ∧ Below w0.heap.size w0 w' ∧ Kept w w' (fun k => base ≤ k) := by
 obtain ⟨A, c, rfl, hc⟩ := hS.slice_
 obtain ⟨n, hn⟩ : ∃ n, P.length = n := ⟨_, rfl⟩
 rw [hn] at hS hl hc ⊢
 have HS0 := Aside0.mk hS
 have HB0 := Aside0.mk hB
 have HN := Aside0.mk hn
 have HBB := Aside0.mk hb
 have HK0 := Aside0.mk (Kept.refl w (fun k => base ≤ k))
 clear hS hB hn hb hc
 go_enter Try.func39, Try.ntmps39
 go_wp2
 go_loopg [1, 5] n (fun gg v1 v5 wr => ∃ kk : Nat, kk ≤ n ∧ n - kk ≤ gg ∧ v1 = .int .i64 (1 + 2 * (kk : Int)) ∧ v5 = .int .i64 kk ∧ Aside0 (SpS wr base (.slice A n c) (mkP_ 1 (P.take kk) ++ P.drop kk)) ∧ Aside0 (Below w0.heap.size w0 wr) ∧ Aside0 (Kept w wr (fun k => base ≤ k)))
 case atStart => exact ⟨0, Nat.zero_le _, by omega, rfl, rfl, ⟨by simpa [mkP_] using HS0.out⟩, HB0, HK0⟩
 case round =>
  clear HS0 HB0 HK0
  obtain ⟨kk, hkk, hgg, rfl, rfl, HS, HB, HK⟩ := hrel
  by_cases hlt : kk < n
  ·
   obtain ⟨⟨b, x, y⟩, hp⟩ : ∃ p, P[kk]? = some p := ⟨P[kk]'(by rw [HN.out]; exact hlt), List.getElem?_eq_getElem _⟩
   have hd : P.drop kk = (b, x, y) :: P.drop (kk + 1) := by
    obtain ⟨h1, h2⟩ := List.getElem?_eq_some_iff.1 hp
    rw [List.drop_eq_getElem_cons h1, h2]
   have ht : P.take (kk + 1) = P.take kk ++ [(b, x, y)] := by rw [List.take_add_one, hp]; rfl
   have htl : (P.take kk).length = kk := by rw [List.length_take, HN.out]; omega
   have hS := HS.out
   rw [hd] at hS
   obtain ⟨ad, c2, e1, hx0⟩ := hS.at_ (i := kk) (p := (b, x, y)) (by rw [List.getElem?_append_right (by rw [mkP_len, htl]; exact Nat.le_refl _), mkP_len, htl, Nat.sub_self]; rfl)
   injection e1 with e1 e2 e3
   subst e1
   clear e2 e3
   have hbx := hS.cel (b, x, y) (by simp)
   have hrow : (Kd.int .i64).R 3 wr w0.heap.size (fun k => k = b) (.slice (some ⟨b, 0, none⟩) 2 2) [x, y] := Kd.R_of_own ⟨rfl, .inr ⟨b, 2, _, rfl, Nat.le_trans HBB.out hbx.1, hbx.2, Nat.le_refl _, by decide, rfl, rfl⟩⟩ (fun k hk => by simpa [Value.ownBlock] using hk.symm)
   have hm := mark2_ x y (1 + 2 * (kk : Int)) (by omega) (by omega)
   have hw1 : wrap64 ((kk : Int) + 1) = ((kk + 1 : Nat) : Int) := by
    unfold wrap64
    omega
   have hz0 : (0 : Int) ≤ (kk : Int) := by omega
   have hz1 : (kk : Int) < (n : Int) := by omega
   have HS1 := Aside0.mk hS
   have HR := Aside0.mk hrow
   have HM := Aside0.mk hm
   have HT := Aside0.mk ht
   have HTL := Aside0.mk htl
   have HG := Aside0.mk hgg
   have HBX := Aside0.mk hbx.1
   clear hS hrow hm ht htl hd hp HS hbx hgg
   go_wp2_with (go_at_call 24; refine (laws_markIntS.calls 10 (fun k => k = b) (.slice (some ⟨b, 0, none⟩) 2 2) [x, y] (1 + 2 * (kk : Int)) (1 + 2 * (kk : Int) + 2) [1 + 2 * (kk : Int), 1 + 2 * (kk : Int) + 1] w0 _ HB.out HR.out HM.out).mono ?_; rintro e w3 ⟨rfl, hr3, hb3, hk3⟩; have HS3 := Aside0.mk (HS1.out.mark (row2_ hr3) hk3); have HB3 := Aside0.mk hb3; have HK3 := Aside0.mk (HK.out.then_ hk3 (fun k e => .inl (by rw [e]; exact HBX.out))); clear hr3 hb3 hk3)
   go_roundg (n - (kk + 1))
   case measure => have := HG.out; omega
   case rel => exact ⟨kk + 1, by omega, by omega, by first | go_num | (congr 1; omega), by go_num, ⟨by rw [HT.out, mkP_snoc, HTL.out, List.append_assoc]; exact HS3.out⟩, HB3, HK3⟩
  ·
   have hltz : ¬ (kk : Int) < (n : Int) := by omega
   obtain rfl : kk = n := by omega
   go_wp2
   go_ret
   refine ⟨rfl, ?_, HB.out, HK.out⟩
   have h := HS.out
   rw [List.take_of_length_le (by rw [HN.out]; exact Nat.le_refl _), List.drop_of_length_le (by rw [HN.out]; exact Nat.le_refl _), List.append_nil] at h
   exact h
def laws_heldIntS.l0 : Nat → List Int → Int → Int → Option (Int)
 | 0, _, _, _ => none
 | k + 1, x0, x1, x5 => if x5 < (x0.length : Int) then (if 0 ≤ x5 then (if (rd x0 x5) = x1 then (laws_heldIntS.l0 k x0 (wrap64 (x1 + 1)) (wrap64 (x5 + 1))) else (some (-1))) else (none)) else (some x1)
def laws_heldIntS.f (k : Nat) (l0 : List Int) (a1 : Int) : Option (Int) := laws_heldIntS.l0 k l0 a1 0
set_option maxHeartbeats 8000000 in
set_option maxRecDepth 100000 in
theorem laws_heldIntS.calls (k : Nat) (A0 : Option Addr) (c0 : Nat) (l0 : List Int) (a1 : Int) (r : Int) (w : World) (hr0 : Kd.C (Kd.int .i64) w A0 l0.length l0) (hc0 : l0.length ≤ c0) (h : laws_heldIntS.f k l0 a1 = some r) :
  Calls Try.prog 25 #[.slice A0 l0.length c0, .int .i64 a1] w fun e w' => e = .returned (.int .i64 r) ∧ Drawn0 w w' := by
 have HR0 := Aside0.mk hr0
 have HC0 := Aside0.mk hc0
 clear hr0 hc0
 have H : (laws_heldIntS.l0 k l0 a1 0) = some r := h
 clear h
 have H' := Aside0.mk H
 clear H
 go_enter Try.func25, Try.ntmps25
 go_wp2
 go_loopg [1, 5] k (fun kq v1 v5 w' => ∃ (x1_1 : Int) (x5_1 : Int), v1 = .int .i64 x1_1 ∧ v5 = .int .i64 x5_1 ∧ Aside0 (laws_heldIntS.l0 kq l0 x1_1 x5_1 = some r) ∧ Aside0 (kq ≤ k) ∧ Drawn0 w w')
 case atStart => exact ⟨(a1), (0), (by first | rfl | (simp; done) | (simp [*]; done)), (by first | rfl | (simp; done) | (simp [*]; done)), H', ⟨Nat.le_refl _⟩, by repeat (first | exact Drawn0.refl _ | apply Drawn0.step)⟩
 case round =>
  clear H'
  try clear c2
  try clear p2
  obtain ⟨x1_1, x5_1, rfl, rfl, HA, HK1, ⟨m1, rfl⟩⟩ := hrel
  cases gk with
  | zero => exact absurd HA.out (by simp [laws_heldIntS.l0])
  | succ k1 =>
   have H := HA.out
   clear HA
   simp only [laws_heldIntS.l0] at H
   by_cases c3 : x5_1 < (l0.length : Int)
   ·
    rw [if_pos c3] at H
    have c3b0 : decide (x5_1 < (l0.length : Int)) = true := decide_eq_true c3
    clear c3
    by_cases c4 : 0 ≤ x5_1
    ·
     rw [if_pos c4] at H
     have c4b0 : decide (0 ≤ x5_1) = true := decide_eq_true c4
     clear c4
     by_cases c5 : (rd l0 x5_1) = x1_1
     ·
      rw [if_pos c5] at H
      have c5b0 : ((rd l0 x5_1) == x1_1) = true := beq_iff_eq.mpr c5
      have c5b1 : ((rd l0 x5_1) != x1_1) = false := bne_eq_false_iff_eq.mpr c5
      clear c5
      have H' := Aside0.mk H
      clear H
      have p252 : 0 ≤ (x5_1 : Int) := dt_
      have q252 : x5_1 < (l0.length : Int) := dt_
      obtain ⟨ad252, e252, hx252_0⟩ := Kd.at_int HR0.out x5_1 p252 q252
      cases e252
      replace p252 := eq_true p252
      replace q252 := eq_true q252
      go_wp2
      go_roundg k1
      case measure => have := HK1.out; omega
      case rel => exact ⟨(wrap64 (x1_1 + 1)), (wrap64 (x5_1 + 1)), (by first | rfl | (simp; done) | (simp [*]; done)), (by first | rfl | (simp; done) | (simp [*]; done)), H', ⟨by have := HK1.out; omega⟩, by repeat (first | exact Drawn0.refl _ | apply Drawn0.step)⟩
     ·
      rw [if_neg c5] at H
      have c5b0 : ((rd l0 x5_1) == x1_1) = false := beq_eq_false_iff_ne.mpr c5
      have c5b1 : ((rd l0 x5_1) != x1_1) = true := bne_iff_ne.mpr c5
      obtain rfl := Option.some.inj H
      have p252 : 0 ≤ (x5_1 : Int) := dt_
      have q252 : x5_1 < (l0.length : Int) := dt_
      obtain ⟨ad252, e252, hx252_0⟩ := Kd.at_int HR0.out x5_1 p252 q252
      cases e252
      replace p252 := eq_true p252
      replace q252 := eq_true q252
      go_wp2
      go_ret
      exact ⟨by first | rfl | (simp; done) | (simp [*]; done), by repeat (first | exact Drawn0.refl _ | apply Drawn0.step)⟩
    ·
     rw [if_neg c4] at H
     exact absurd H (by simp)
   ·
    rw [if_neg c3] at H
    have c3b0 : decide (x5_1 < (l0.length : Int)) = false := decide_eq_false c3
    clear c3
    obtain rfl := Option.some.inj H
    go_wp2
    go_ret
    exact ⟨by first | rfl | (simp; done) | (simp [*]; done), by repeat (first | exact Drawn0.refl _ | apply Drawn0.step)⟩
def laws_heldIntSS.l0 : Nat → List (List Int) → Int → Int → Option (Int)
 | 0, _, _, _ => none
 | k + 1, x0, x1, x5 => if x5 < (x0.length : Int) then (if 0 ≤ x5 then ((laws_heldIntS.f k (rd_L9 x0 x5) x1).bind fun t504 => (if t504 < 0 then (some (-1)) else (laws_heldIntSS.l0 k x0 t504 (wrap64 (x5 + 1))))) else (none)) else (some x1)
def laws_heldIntSS.f (k : Nat) (l0 : List (List Int)) (a1 : Int) : Option (Int) := laws_heldIntSS.l0 k l0 a1 0
set_option maxHeartbeats 8000000 in
set_option maxRecDepth 100000 in
theorem laws_heldIntSS.calls (k : Nat) (A0 : Option Addr) (c0 : Nat) (l0 : List (List Int)) (a1 : Int) (r : Int) (w : World) (hr0 : Kd.C (Kd.slice 3 (Kd.int .i64)) w A0 l0.length l0) (hc0 : l0.length ≤ c0) (h : laws_heldIntSS.f k l0 a1 = some r) :
  Calls Try.prog 40 #[.slice A0 l0.length c0, .int .i64 a1] w fun e w' => e = .returned (.int .i64 r) ∧ Drawn0 w w' := by
 have HR0 := Aside0.mk hr0
 have HC0 := Aside0.mk hc0
 clear hr0 hc0
 have H : (laws_heldIntSS.l0 k l0 a1 0) = some r := h
 clear h
 have H' := Aside0.mk H
 clear H
 go_enter Try.func40, Try.ntmps40
 go_wp2
 go_loopg [1, 5] k (fun kq v1 v5 w' => ∃ (x1_1 : Int) (x5_1 : Int), v1 = .int .i64 x1_1 ∧ v5 = .int .i64 x5_1 ∧ Aside0 (laws_heldIntSS.l0 kq l0 x1_1 x5_1 = some r) ∧ Aside0 (kq ≤ k) ∧ Drawn0 w w')
 case atStart => exact ⟨(a1), (0), (by first | rfl | (simp; done) | (simp [*]; done)), (by first | rfl | (simp; done) | (simp [*]; done)), H', ⟨Nat.le_refl _⟩, by repeat (first | exact Drawn0.refl _ | apply Drawn0.step)⟩
 case round =>
  clear H'
  try clear p2
  obtain ⟨x1_1, x5_1, rfl, rfl, HA, HK1, ⟨m1, rfl⟩⟩ := hrel
  cases gk with
  | zero => exact absurd HA.out (by simp [laws_heldIntSS.l0])
  | succ k1 =>
   have H := HA.out
   clear HA
   simp only [laws_heldIntSS.l0] at H
   by_cases c3 : x5_1 < (l0.length : Int)
   ·
    rw [if_pos c3] at H
    have c3b0 : decide (x5_1 < (l0.length : Int)) = true := decide_eq_true c3
    clear c3
    by_cases c4 : 0 ≤ x5_1
    ·
     rw [if_pos c4] at H
     have c4b0 : decide (0 ≤ x5_1) = true := decide_eq_true c4
     clear c4
     replace H := Option.bind_eq_some_iff.mp H
     obtain ⟨t504, A50, H⟩ := H
     replace H : (if t504 < 0 then (some (-1)) else (laws_heldIntSS.l0 k1 l0 t504 (wrap64 (x5_1 + 1)))) = some r := H
     have A5 := Aside0.mk A50
     clear A50
     by_cases c6 : t504 < 0
     ·
      rw [if_pos c6] at H
      have c6b0 : decide (t504 < 0) = true := decide_eq_true c6
      clear c6
      obtain rfl := Option.some.inj H
      have p503 : 0 ≤ (x5_1 : Int) := dt_
      have q503 : x5_1 < (l0.length : Int) := dt_
      obtain ⟨ad503, A503_0, c503_0, e503, hx503_0, hl503_0, hi503_0⟩ := at_L9 HR0.out x5_1 p503 q503
      cases e503
      have HR503_0 := Aside0.mk hi503_0
      have HC503_0 := Aside0.mk hl503_0
      clear hi503_0 hl503_0
      replace p503 := eq_true p503
      replace q503 := eq_true q503
      go_wp2_with (first | ((with_reducible refine gate_callee (f := 25) rfl ?_); refine ga_ (some 17) Try.func25 #[.slice A503_0 (rd_L9 l0 x5_1).length c503_0, .int .i64 x1_1] ?_; (with_reducible refine (laws_heldIntS.calls k1 _ _ (rd_L9 l0 x5_1) x1_1 t504 _ ?side1 ?side2 A5.out).mono ?_); (case side1 => exact kc_ HR503_0.out); (case side2 => exact HC503_0.out); rintro e w' ⟨rfl, ⟨nd, rfl⟩⟩; refine ⟨_, rfl, ?_⟩))
      go_ret
      exact ⟨by first | rfl | (simp; done) | (simp [*]; done), by repeat (first | exact Drawn0.refl _ | apply Drawn0.step)⟩
     ·
      rw [if_neg c6] at H
      have c6b0 : decide (t504 < 0) = false := decide_eq_false c6
      clear c6
      have H' := Aside0.mk H
      clear H
      have p503 : 0 ≤ (x5_1 : Int) := dt_
      have q503 : x5_1 < (l0.length : Int) := dt_
      obtain ⟨ad503, A503_0, c503_0, e503, hx503_0, hl503_0, hi503_0⟩ := at_L9 HR0.out x5_1 p503 q503
      cases e503
      have HR503_0 := Aside0.mk hi503_0
      have HC503_0 := Aside0.mk hl503_0
      clear hi503_0 hl503_0
      replace p503 := eq_true p503
      replace q503 := eq_true q503
      go_wp2_with (first | ((with_reducible refine gate_callee (f := 25) rfl ?_); refine ga_ (some 17) Try.func25 #[.slice A503_0 (rd_L9 l0 x5_1).length c503_0, .int .i64 x1_1] ?_; (with_reducible refine (laws_heldIntS.calls k1 _ _ (rd_L9 l0 x5_1) x1_1 t504 _ ?side1 ?side2 A5.out).mono ?_); (case side1 => exact kc_ HR503_0.out); (case side2 => exact HC503_0.out); rintro e w' ⟨rfl, ⟨nd, rfl⟩⟩; refine ⟨_, rfl, ?_⟩))
      go_roundg k1
      case measure => have := HK1.out; omega
      case rel => exact ⟨(t504), (wrap64 (x5_1 + 1)), (by first | rfl | (simp; done) | (simp [*]; done)), (by first | rfl | (simp; done) | (simp [*]; done)), H', ⟨by have := HK1.out; omega⟩, by repeat (first | exact Drawn0.refl _ | apply Drawn0.step)⟩
    ·
     rw [if_neg c4] at H
     exact absurd H (by simp)
   ·
    rw [if_neg c3] at H
    have c3b0 : decide (x5_1 < (l0.length : Int)) = false := decide_eq_false c3
    clear c3
    obtain rfl := Option.some.inj H
    go_wp2
    go_ret
    exact ⟨by first | rfl | (simp; done) | (simp [*]; done), by repeat (first | exact Drawn0.refl _ | apply Drawn0.step)⟩
theorem drawn_below_ {w w' : World} (h : Drawn0 w w') : Below w.heap.size w w' := by
 obtain ⟨n, rfl⟩ := h.out
 exact pw_below_drewN (Below.refl _ _) n
theorem SpS.rows_ {w : World} {base : Nat} {v : Value} {P : List (Nat × Int × Int)} {g : List (List Int)} (h : SpS w base v P) (hg : P.map (fun p => [p.2.1, p.2.2]) = g) : (Kd.slice 3 (Kd.int .i64)).R 36 w base (fun _ => True) v g := hg ▸ h.rows
theorem markSN_ (base : Nat) (v : Value) (P : List (Nat × Int × Int)) (n : Nat) (hn : P.length = n) (w0 w : World) (hB : Below w0.heap.size w0 w) (hb : w0.heap.size ≤ base) (hS : SpS w base v P) (hl : n ≤ 100000) :
  Calls Try.prog 39 #[v, .int .i64 1] w fun e w' => e = .returned (.int .i64 (1 + 2 * (n : Int))) ∧ SpS w' base v (mkP_ 1 P) ∧ Below w0.heap.size w0 w' ∧ Kept w w' (fun k => base ≤ k) := by
 subst hn
 exact markSS_ base v P w0 w hB hb hS hl
theorem heldN_ (k : Nat) (A0 : Option Addr) (c0 : Nat) (l0 : List (List Int)) (n : Nat) (hn : l0.length = n) (a1 r : Int) (w : World) (hr0 : Kd.C (Kd.slice 3 (Kd.int .i64)) w A0 l0.length l0) (hc0 : n ≤ c0) (h : laws_heldIntSS.f k l0 a1 = some r) :
  Calls Try.prog 40 #[.slice A0 n c0, .int .i64 a1] w fun e w' => e = .returned (.int .i64 r) ∧ Drawn0 w w' := by
 subst hn
 exact laws_heldIntSS.calls k A0 c0 l0 a1 r w hr0 hc0 h
def laws_FnExactOpenSpans.f (k : Nat) (l0 : List S82) (a1_0 : Int) (a1_1 : Int) (a1_2 : Int) : Option (Bool) :=
 (laws_szReadingS.f l0 1048576).bind fun t1 => (if t1 < 0 then (some true) else ((laws_toReadingS.f k l0).bind fun x => ((spec_OpenSpans.f k x a1_0 a1_1 a1_2).bind fun u => ((impl_OpenSpans.f k x a1_0 a1_1 a1_2).bind fun g => ((laws_eqIntSS.f k g.1 u.1).bind fun q1 => ((laws_eqReadingS.f k x x).bind fun q2 => ((laws_markReadingS.f k x 1).bind fun m => ((laws_heldIntSS.f k (markT_ 1 g.1) 1).bind fun hh => (if q1 = true ∧ q2 = true ∧ g.2 = u.2 ∧ 0 ≤ m.1 ∧ hh = 1 + 2 * (g.1.length : Int) ∧ g.1.length ≤ 100000 then (some true) else (none))))))))))
def spansL5.T : Bool × List (List Nat × List Nat) := (true, [([], []), ([0], [0]), ([], []), ([2, 1], [2]), ([1, 3, 3], [1, 3]), ([4], [4]), ([5], [5]), ([5], [5]), ([6, 4, 0, 1, 2, 3, 4, 5, 6], [6]), ([7, 8, 0, 1, 2, 3, 4, 5, 6, 7, 8], [7])])
def spansL5.B : List Nat := [0, 1, 0, 7, 15, 31, 63, 63, 127, 511]
theorem spansL5.tab : rtab .any (opsOf Try.f6 5) = spansL5.T := by kernel_rfl
theorem spansL5.bits : waitsOk spansL5.T.2 spansL5.B = true := by kernel_rfl
abbrev spansL5.mkE : Array Bool := #[fF,fF,fF,fF,fF,fF,fF,fF,fF,fF]
abbrev spansL5.mk0 : Array Bool := #[tT,fF,fF,fF,fF,fF,fF,fF,fF,fF]
abbrev spansL5.mk0_2 : Array Bool := #[tT,fF,tT,fF,fF,fF,fF,fF,fF,fF]
abbrev spansL5.mk0_1_2 : Array Bool := #[tT,tT,tT,fF,fF,fF,fF,fF,fF,fF]
abbrev spansL5.mk0_1_2_3 : Array Bool := #[tT,tT,tT,tT,fF,fF,fF,fF,fF,fF]
abbrev spansL5.mk0_1_2_3_4 : Array Bool := #[tT,tT,tT,tT,tT,fF,fF,fF,fF,fF]
abbrev spansL5.mk0_1_2_3_4_5 : Array Bool := #[tT,tT,tT,tT,tT,tT,fF,fF,fF,fF]
abbrev spansL5.mk0_1_2_3_4_5_6 : Array Bool := #[tT,tT,tT,tT,tT,tT,tT,fF,fF,fF]
abbrev spansL5.mk0_1_2_3_4_5_6_7 : Array Bool := #[tT,tT,tT,tT,tT,tT,tT,tT,fF,fF]
abbrev spansL5.mk0_1_2_3_4_5_6_7_8 : Array Bool := #[tT,tT,tT,tT,tT,tT,tT,tT,tT,fF]
abbrev spansL5.mk0_1_2_3_4_5_6_7_8_9 : Array Bool := #[tT,tT,tT,tT,tT,tT,tT,tT,tT,tT]
def spansL24.T : Bool × List (List Nat × List Nat) := (true, [([], []), ([0], [0]), ([], []), ([2, 1], [2]), ([1, 3, 3], [1, 3]), ([4], [4]), ([5], [5]), ([5], [5]), ([6, 4, 0, 1, 2, 3, 4, 5, 6], [6]), ([7, 8, 0, 1, 2, 3, 4, 5, 6, 7, 8], [7])])
def spansL24.B : List Nat := [0, 1, 0, 7, 15, 31, 63, 63, 127, 511]
theorem spansL24.tab : rtab .any (opsOf Try.f6 24) = spansL24.T := by kernel_rfl
theorem spansL24.bits : waitsOk spansL24.T.2 spansL24.B = true := by kernel_rfl
abbrev spansL24.mkE : Array Bool := #[fF,fF,fF,fF,fF,fF,fF,fF,fF,fF]
abbrev spansL24.mk0 : Array Bool := #[tT,fF,fF,fF,fF,fF,fF,fF,fF,fF]
abbrev spansL24.mk0_2 : Array Bool := #[tT,fF,tT,fF,fF,fF,fF,fF,fF,fF]
abbrev spansL24.mk0_1_2 : Array Bool := #[tT,tT,tT,fF,fF,fF,fF,fF,fF,fF]
abbrev spansL24.mk0_1_2_3 : Array Bool := #[tT,tT,tT,tT,fF,fF,fF,fF,fF,fF]
abbrev spansL24.mk0_1_2_3_4 : Array Bool := #[tT,tT,tT,tT,tT,fF,fF,fF,fF,fF]
abbrev spansL24.mk0_1_2_3_4_5 : Array Bool := #[tT,tT,tT,tT,tT,tT,fF,fF,fF,fF]
abbrev spansL24.mk0_1_2_3_4_5_6 : Array Bool := #[tT,tT,tT,tT,tT,tT,tT,fF,fF,fF]
abbrev spansL24.mk0_1_2_3_4_5_6_7 : Array Bool := #[tT,tT,tT,tT,tT,tT,tT,tT,fF,fF]
abbrev spansL24.mk0_1_2_3_4_5_6_7_8 : Array Bool := #[tT,tT,tT,tT,tT,tT,tT,tT,tT,fF]
abbrev spansL24.mk0_1_2_3_4_5_6_7_8_9 : Array Bool := #[tT,tT,tT,tT,tT,tT,tT,tT,tT,tT]
set_option maxHeartbeats 64000000 in
set_option maxRecDepth 100000 in
theorem laws_FnExactOpenSpans.calls (k : Nat) (A0 : Option Addr) (c0 : Nat) (l0 : List (S82)) (a1_0 : Int) (a1_1 : Int) (a1_2 : Int) (r : Bool) (w : World) (hr0 : Kd.C k82 w A0 l0.length l0) (hc0 : l0.length ≤ c0) (h : laws_FnExactOpenSpans.f k l0 a1_0 a1_1 a1_2 = some r) :
  Calls Try.prog 6 #[.slice A0 l0.length c0, .agg #[.int .i64 a1_0, .int .i64 a1_1, .int .i64 a1_2]] w fun e w' => e = .returned (.bool r) ∧ Below w.heap.size w w' := by
 have hu24 := Try.underlying24
 have HR0 := Aside0.mk hr0
 have HC0 := Aside0.mk hc0
 clear hr0 hc0
 have HB := Aside0.mk (Below.refl w.heap.size w)
 unfold laws_FnExactOpenSpans.f at h
 replace h := Option.bind_eq_some_iff.mp h
 obtain ⟨t1, a1, h⟩ := h
 have A1 := Aside0.mk a1
 clear a1
 by_cases c1 : t1 < 0
 ·
  rw [if_pos c1] at h
  have n1 : decide (t1 < 0) = true := decide_eq_true c1
  clear c1
  obtain rfl := Option.some.inj h
  clear h
  go_enter Try.func6, Try.ntmps6
  go_wp2_with (first | ((with_reducible refine gate_dst (N := 3) rfl ?_); refine box_event ?hg (N := 3) ?hd (cs := #[.int .i64 a1_0, .int .i64 a1_1, .int .i64 a1_2]) (t := 24) ?hr ?_; (case hd => rfl); (case hg => rfl); (case hr => first | (go_simp; done) | (go_simp; rfl)); intro gb hg wb hbox hb; have BK := Aside0.mk hbox; have GE := Aside0.mk (bz_ hg (lb0_ HB.out)); replace HB := Aside0.mk (below_step HB.out hb); clear hb hbox hg) | ((with_reducible refine gate_callee (f := 10) rfl ?_); refine ga_ (some 18) Try.func10 #[.slice A0 l0.length c0, .int .i64 1048576] ?_; refine (laws_szReadingS.calls _ _ l0 1048576 t1 _ (Kd.C_below HR0.out HB.out) HC0.out A1.out).mono ?_; rintro e ws ⟨rfl, hd⟩; refine ⟨_, rfl, ?_⟩; have hb := drawn_below_ hd; replace BK := Aside0.mk (bb_ BK.out hb); replace HB := Aside0.mk (below_step HB.out hb); clear hb hd))
  go_ret
  exact ⟨rr_, HB.out⟩
 ·
  rw [if_neg c1] at h
  have n1 : decide (t1 < 0) = false := decide_eq_false c1
  clear c1
  replace h := Option.bind_eq_some_iff.mp h
  obtain ⟨x, a2, h⟩ := h
  replace h := Option.bind_eq_some_iff.mp h
  obtain ⟨⟨us, ub⟩, a3, h⟩ := h
  replace h := Option.bind_eq_some_iff.mp h
  obtain ⟨⟨gs, gt⟩, a4, h⟩ := h
  replace h := Option.bind_eq_some_iff.mp h
  obtain ⟨q1, a5, h⟩ := h
  replace h := Option.bind_eq_some_iff.mp h
  obtain ⟨q2, a6, h⟩ := h
  replace h := Option.bind_eq_some_iff.mp h
  obtain ⟨⟨m1, ms⟩, a7, h⟩ := h
  replace h := Option.bind_eq_some_iff.mp h
  obtain ⟨hh, a8, h⟩ := h
  simp only at a3 a4 a5 a6 a7 a8 h
  by_cases hq : q1 = true ∧ q2 = true ∧ gt = ub ∧ 0 ≤ m1 ∧ hh = 1 + 2 * (gs.length : Int) ∧ gs.length ≤ 100000
  ·
   rw [if_pos hq] at h
   obtain rfl := Option.some.inj h
   obtain ⟨rfl, rfl, rfl, h1, rfl, h2⟩ := hq
   have n2 : decide (m1 < 0) = false := decide_eq_false (by omega)
   have n3 : decide (1 + 2 * (gs.length : Int) < 0) = false := decide_eq_false (by omega)
   have n4 : (gt != gt) = false := bne_self_eq_false gt
   have n5 : (1 + 2 * (gs.length : Int) != 1 + 2 * (gs.length : Int)) = false := bne_self_eq_false _
   have A2 := Aside0.mk a2
   have A3 := Aside0.mk a3
   have A4 := Aside0.mk a4
   have A5 := Aside0.mk a5
   have A6 := Aside0.mk a6
   have A7 := Aside0.mk a7
   have A8 := Aside0.mk a8
   have HL := Aside0.mk h2
   clear h a2 a3 a4 a5 a6 a7 a8 h1 h2
   go_enter Try.func6, Try.ntmps6
   try go_wp2_with (first | ((with_reducible refine gate_dst (N := 3) rfl ?_); refine box_event ?hg (N := 3) ?hd (cs := #[.int .i64 a1_0, .int .i64 a1_1, .int .i64 a1_2]) (t := 24) ?hr ?_; (case hd => rfl); (case hg => rfl); (case hr => first | (go_simp; done) | (go_simp; rfl)); intro gb hg wb hbox hb; have BK := Aside0.mk hbox; have GE := Aside0.mk (bz_ hg (lb0_ HB.out)); replace HB := Aside0.mk (below_step HB.out hb); clear hb hbox hg) | ((with_reducible refine gate_callee (f := 10) rfl ?_); refine ga_ (some 18) Try.func10 #[.slice A0 l0.length c0, .int .i64 1048576] ?_; refine (laws_szReadingS.calls _ _ l0 1048576 t1 _ (Kd.C_below HR0.out HB.out) HC0.out A1.out).mono ?_; rintro e ws ⟨rfl, hd⟩; refine ⟨_, rfl, ?_⟩; have hb := drawn_below_ hd; replace BK := Aside0.mk (bb_ BK.out hb); replace HB := Aside0.mk (below_step HB.out hb); clear hb hd))
   replace BK := Aside0.mk (blk_drew BK.out)
   replace HB := Aside0.mk (below_drew HB.out)
   refine start_ (n := 10) (S := fun w' => w'.cell? ⟨gb, 0, none⟩ = some (.int .i64 a1_0) ∧ w'.cell? ⟨gb, 1, none⟩ = some (.int .i64 a1_1) ∧ w'.cell? ⟨gb, 2, none⟩ = some (.int .i64 a1_2)) (ds := []) spansL5.mkE (by kernel_rfl) rfl rfl ⟨(blk_cell BK.out 0).trans rfl, (blk_cell BK.out 1).trans rfl, (blk_cell BK.out 2).trans rfl⟩ (fun hHeld => ?_); refine with_tabW spansL5.tab spansL5.bits (fun HT_ HW_ => ?_)
   generalize ws.drew = wd at BK HB hHeld ⊢
   refine pz_ HT_ 0 (some 22) spansL5.mk0 ?_
   refine tk_ HT_ HW_ hHeld 2 (some 24) spansL5.mk0_2 ?_
   refine one_ (i := 1) (N := some 23) spansL5.mk0_1_2 rfl rfl (one_of HT_.out (by kernel_rfl)) (by decide) (fun K hK => ?_)
   refine gs_ Try.func12 #[.slice A0 l0.length c0] ?_
   refine (laws_toReadingS.calls k _ _ l0 x _ (Kd.C_below HR0.out HB.out) HC0.out A2.out).mono ?_
   rintro e w1 ⟨vx, rfl, ho, hb⟩
   refine ⟨_, rfl, ?_⟩
   have HX := Aside0.mk (Kd.R_lower ho (below_size HB.out))
   replace BK := Aside0.mk (bb_ BK.out hb)
   replace HB := Aside0.mk (below_step HB.out hb)
   clear hb ho
   refine hK.out _ _ ⟨(blk_cell BK.out 0).trans rfl, (blk_cell BK.out 1).trans rfl, (blk_cell BK.out 2).trans rfl⟩ (fun hHeld => ?_)
   clear hK K
   refine na_ ?_
   refine one_ (i := 3) (N := some 25) spansL5.mk0_1_2_3 rfl rfl (one_of HT_.out (by kernel_rfl)) (by decide) (fun K hK => ?_)
   refine gs_ Try.func13 #[.agg #[.int .i64 a1_0, .int .i64 a1_1, .int .i64 a1_2]] ?_
   refine (laws_toSump.calls a1_0 a1_1 a1_2 a1_0 a1_1 a1_2 _ rfl).mono ?_
   rintro e w2 ⟨rfl, hb⟩
   refine ⟨_, rfl, ?_⟩
   replace HX := Aside0.mk (Kd.R_below HX.out hb)
   replace BK := Aside0.mk (bb_ BK.out hb)
   replace HB := Aside0.mk (below_step HB.out hb)
   clear hb
   obtain ⟨Ax, cx, ex⟩ := Kd.R_slice HX.out
   subst ex
   refine hK.out _ _ ⟨(blk_cell BK.out 0).trans rfl, (blk_cell BK.out 1).trans rfl, (blk_cell BK.out 2).trans rfl⟩ (fun hHeld => ?_)
   clear hK K
   refine na_ ?_
   refine one_ (i := 4) (N := some 26) spansL5.mk0_1_2_3_4 rfl rfl (one_of HT_.out (by kernel_rfl)) (by decide) (fun K hK => ?_)
   refine gs_ Try.func36 #[.slice Ax x.length cx, .agg #[.int .i64 a1_0, .int .i64 a1_1, .int .i64 a1_2]] ?_
   refine (spec_OpenSpans.calls k _ _ x a1_0 a1_1 a1_2 us gt _ (Kd.R_reads' HX.out).2.2 (Kd.R_reads' HX.out).2.1 A3.out).mono ?_
   rintro e w3 ⟨vu, rfl, ho, hb⟩
   refine ⟨_, rfl, ?_⟩
   have HU := Aside0.mk (Kd.S_lower ho (below_size HB.out))
   replace BK := Aside0.mk (bb_ BK.out hb)
   replace HB := Aside0.mk (below_step HB.out hb)
   clear hb ho HX
   obtain ⟨Au, cu, eu⟩ := Kd.S_slice HU.out
   subst eu
   refine hK.out _ _ ⟨(blk_cell BK.out 0).trans rfl, (blk_cell BK.out 1).trans rfl, (blk_cell BK.out 2).trans rfl⟩ (fun hHeld => ?_)
   clear hK K
   refine na_ ?_
   refine pz_ HT_ 5 (some 21) spansL5.mk0_1_2_3_4_5 ?_
   refine pz_ HT_ 6 (some 27) spansL5.mk0_1_2_3_4_5_6 ?_
   refine pz_ HT_ 7 (some 28) spansL5.mk0_1_2_3_4_5_6_7 ?_
   refine pz_ HT_ 8 (some 6) spansL5.mk0_1_2_3_4_5_6_7_8 ?_
   refine pz_ HT_ 9 (some 7) spansL5.mk0_1_2_3_4_5_6_7_8_9 ?_
   refine done_ (done_of HT_.out (by kernel_rfl)) ?_
   clear hHeld
   try go_wp2_with (first | ((with_reducible refine gate_callee (f := 12) rfl ?_); refine ga_ (some 30) Try.func12 #[.slice A0 l0.length c0] ?_; refine (laws_toReadingS.calls k _ _ l0 x _ (Kd.C_below HR0.out HB.out) HC0.out A2.out).mono ?_; rintro e w4 ⟨vx, rfl, ho, hb⟩; refine ⟨_, rfl, ?_⟩; have HX := Aside0.mk (Kd.R_lower ho (below_size HB.out)); replace HU := Aside0.mk (Kd.S_below HU.out hb); replace BK := Aside0.mk (bb_ BK.out hb); replace HB := Aside0.mk (below_step HB.out hb); clear hb ho; obtain ⟨hcz0, hcz1, hcz2⟩ := cz3_ BK.out; obtain ⟨hfz0, hfz1, hfz2⟩ := fz3_ BK.out) | ((with_reducible refine gate_callee (f := 13) rfl ?_); refine ga_ (some 34) Try.func13 #[.agg #[.int .i64 a1_0, .int .i64 a1_1, .int .i64 a1_2]] ?_; refine (laws_toSump.calls a1_0 a1_1 a1_2 a1_0 a1_1 a1_2 _ rfl).mono ?_; rintro e w5 ⟨rfl, hb⟩; refine ⟨_, rfl, ?_⟩; replace HU := Aside0.mk (Kd.S_below HU.out hb); replace HX := Aside0.mk (Kd.R_below HX.out hb); replace BK := Aside0.mk (bb_ BK.out hb); replace HB := Aside0.mk (below_step HB.out hb); clear hb hcz0 hcz1 hcz2 hfz0 hfz1 hfz2; obtain ⟨Ax, cx, ex⟩ := Kd.R_slice HX.out; subst ex; have GBL := Aside0.mk (blk_lt BK.out); have HBS := Aside0.mk (below_size HB.out); replace HU := Aside0.mk (Kd.S_mono (ok' := fun k_ => k_ < w5.heap.size) (Kd.S_bound HU.out) (fun _ hk => hk.2.2.1))) | ((with_reducible refine gate_callee (f := 37) rfl ?_); refine ga_ (some 35) Try.func37 #[.slice Ax x.length cx, .agg #[.int .i64 a1_0, .int .i64 a1_1, .int .i64 a1_2]] ?_; refine (openSpansS_ k _ _ x a1_0 a1_1 a1_2 gs gt _ (Kd.R_reads' HX.out).2.2 (Kd.R_reads' HX.out).2.1 A4.out).mono ?_; rintro e w6 ⟨vg, P, rfl, hs, hp, hb⟩; refine ⟨_, rfl, ?_⟩; have HS := Aside0.mk hs; have HP := Aside0.mk hp; have HN := Aside0.mk (show P.length = gs.length from by rw [← hp, List.length_map]); replace HU := Aside0.mk (Kd.S_below HU.out hb); replace HX := Aside0.mk (Kd.R_below HX.out hb); replace BK := Aside0.mk (bb_ BK.out hb); replace HB := Aside0.mk (below_step HB.out hb); clear hb hs hp; obtain ⟨Ag, cg, eg, hcg⟩ := HS.out.slice_; rw [HN.out] at eg; subst eg; clear hcg) | ((with_reducible refine gate_callee (f := 38) rfl ?_); refine ga_ (some 40) Try.func38 #[.slice Ag gs.length cg, .slice Au us.length cu] ?_; refine (laws_eqIntSS.calls k _ _ gs _ _ us true _ (Kd.R_reads' (HS.out.rows_ HP.out)).2.2 (Kd.R_reads' (HS.out.rows_ HP.out)).2.1 (Kd.S_reads' HU.out).2.2 (Kd.S_reads' HU.out).2.1 A5.out).mono ?_; rintro e w7 ⟨rfl, hd⟩; refine ⟨_, rfl, ?_⟩; have hb := drawn_below_ hd; replace HU := Aside0.mk (Kd.S_below HU.out hb); replace HX := Aside0.mk (Kd.R_below HX.out hb); replace HS := Aside0.mk (HS.out.below hb); replace BK := Aside0.mk (bb_ BK.out hb); replace HB := Aside0.mk (below_step HB.out hb); clear hb hd) | ((with_reducible refine gate_callee (f := 12) rfl ?_); refine ga_ (some 49) Try.func12 #[.slice A0 l0.length c0] ?_; refine (laws_toReadingS.calls k _ _ l0 x _ (Kd.C_below HR0.out HB.out) HC0.out A2.out).mono ?_; rintro e w8 ⟨vy, rfl, ho, hb⟩; refine ⟨_, rfl, ?_⟩; have HY := Aside0.mk (Kd.R_lower ho (below_size HB.out)); replace HU := Aside0.mk (Kd.S_below HU.out hb); replace HX := Aside0.mk (Kd.R_below HX.out hb); replace HS := Aside0.mk (HS.out.below hb); replace BK := Aside0.mk (bb_ BK.out hb); replace HB := Aside0.mk (below_step HB.out hb); clear hb ho; obtain ⟨Ay, cy, ey⟩ := Kd.R_slice HY.out; subst ey) | ((with_reducible refine gate_callee (f := 15) rfl ?_); refine ga_ (some 50) Try.func15 #[.slice Ax x.length cx, .slice Ay x.length cy] ?_; refine (laws_eqReadingS.calls k _ _ x _ _ x true _ (Kd.R_reads' HX.out).2.2 (Kd.R_reads' HX.out).2.1 (Kd.R_reads' HY.out).2.2 (Kd.R_reads' HY.out).2.1 A6.out).mono ?_; rintro e w9 ⟨rfl, hb⟩; refine ⟨_, rfl, ?_⟩; clear HY; replace HU := Aside0.mk (Kd.S_below HU.out hb); replace HX := Aside0.mk (Kd.R_below HX.out hb); replace HS := Aside0.mk (HS.out.below hb); replace BK := Aside0.mk (bb_ BK.out hb); replace HB := Aside0.mk (below_step HB.out hb); clear hb) | ((with_reducible refine gate_callee (f := 22) rfl ?_); refine ga_ (some 54) Try.func22 #[.slice Ax x.length cx, .int .i64 1] ?_; refine (laws_markReadingS.calls k (fun k_ => some k_ = (.slice Ax x.length cx : Value).ownBlock) (.slice Ax x.length cx) x 1 m1 ms w _ HB.out (Kd.R_tight rfl HX.out) A7.out).mono ?_; rintro e w10 ⟨rfl, hy_, hb, hkp⟩; refine ⟨_, rfl, ?_⟩; replace HU := Aside0.mk (Kd.S_mono (ok' := fun k_ => k_ < w5.heap.size) (Kd.S_kept (Kd.S_apart' HU.out (Kd.R_typed HX.out) (by decide)) hkp (fun k_ hk_ hs_ => hk_.2 hs_)) (fun _ hk => hk.1)); replace HS := Aside0.mk (HS.out.kept hkp (fun k_ cs_ t_ hc_ ht_ hs_ => by obtain ⟨cells, hx⟩ := Kd.R_typed HX.out k_ hs_.symm; rw [hc_] at hx; injection hx with hx; injection hx with _ hx; exact ht_.elim (fun e_ => absurd (e_ ▸ hx) (by decide)) (fun e_ => absurd (e_ ▸ hx) (by decide)))); replace BK := Aside0.mk ((hkp.2 gb (blk_lt BK.out) (fun hs_ => by have hc_ := BK.out; obtain ⟨cells, hx⟩ := Kd.R_typed HX.out gb hs_.symm; rw [hc_] at hx; injection hx with hx; injection hx with _ hx; exact absurd hx (by decide))).trans BK.out); replace HB := Aside0.mk hb; clear hb hy_ hkp HX) | (go_at_call 38; refine (laws_eqIntSS.calls k _ _ gs _ _ us true _ (Kd.R_reads' (HS.out.rows_ HP.out)).2.2 (Kd.R_reads' (HS.out.rows_ HP.out)).2.1 (Kd.S_reads' HU.out).2.2 (Kd.S_reads' HU.out).2.1 A5.out).mono ?_; rintro e w11 ⟨rfl, hd⟩; have hb := drawn_below_ hd; replace HU := Aside0.mk (Kd.S_below HU.out hb); replace HS := Aside0.mk (HS.out.below hb); replace BK := Aside0.mk (bb_ BK.out hb); replace HB := Aside0.mk (below_step HB.out hb); clear hb hd) | ((with_reducible refine gate_callee (f := 39) rfl ?_); refine ga_ (some 70) Try.func39 #[.slice Ag gs.length cg, .int .i64 1] ?_; refine (markSN_ _ _ P gs.length HN.out w _ HB.out HBS.out HS.out HL.out).mono ?_; rintro e w12 ⟨rfl, hs, hb, hkp⟩; refine ⟨_, rfl, ?_⟩; replace HU := Aside0.mk (Kd.S_kept HU.out hkp (fun k_ hk_ hs_ => absurd hk_ (Nat.not_lt.2 hs_))); replace BK := Aside0.mk ((hkp.2 gb (blk_lt BK.out) (fun hs_ => absurd GBL.out (Nat.not_lt.2 hs_))).trans BK.out); replace HP := Aside0.mk (show (mkP_ 1 P).map (fun p => [p.2.1, p.2.2]) = markT_ 1 gs from by rw [mkP_map, HP.out]); replace HS := Aside0.mk hs; replace HB := Aside0.mk hb; clear hs hb hkp) | ((with_reducible refine gate_callee (f := 40) rfl ?_); refine ga_ (some 73) Try.func40 #[.slice Ag gs.length cg, .int .i64 1] ?_; refine (heldN_ k _ _ (markT_ 1 gs) gs.length (markT_len gs 1) 1 _ _ (Kd.R_reads' (HS.out.rows_ HP.out)).2.2 (Kd.R_reads' (HS.out.rows_ HP.out)).2.1 A8.out).mono ?_; rintro e w13 ⟨rfl, hd⟩; refine ⟨_, rfl, ?_⟩; have hb := drawn_below_ hd; replace HU := Aside0.mk (Kd.S_below HU.out hb); replace HS := Aside0.mk (HS.out.below hb); replace BK := Aside0.mk (bb_ BK.out hb); replace HB := Aside0.mk (below_step HB.out hb); clear hb hd))
   replace BK := Aside0.mk (blk_drew BK.out)
   replace HU := Aside0.mk (Kd.S_drew HU.out)
   replace HS := Aside0.mk (HS.out.below (below_drew (Below.refl _ _)))
   replace HB := Aside0.mk (below_drew HB.out)
   refine start_ (n := 10) (S := fun w' => w'.cell? ⟨gb, 0, none⟩ = some (.int .i64 a1_0) ∧ w'.cell? ⟨gb, 1, none⟩ = some (.int .i64 a1_1) ∧ w'.cell? ⟨gb, 2, none⟩ = some (.int .i64 a1_2)) (ds := []) spansL24.mkE (by kernel_rfl) rfl rfl ⟨(blk_cell BK.out 0).trans rfl, (blk_cell BK.out 1).trans rfl, (blk_cell BK.out 2).trans rfl⟩ (fun hHeld => ?_); refine with_tabW spansL24.tab spansL24.bits (fun HT_ HW_ => ?_)
   generalize w13.drew = w14 at BK HU HS HB hHeld ⊢
   refine pz_ HT_ 0 (some 80) spansL24.mk0 ?_
   refine tk_ HT_ HW_ hHeld 2 (some 82) spansL24.mk0_2 ?_
   refine one_ (i := 1) (N := some 81) spansL24.mk0_1_2 rfl rfl (one_of HT_.out (by kernel_rfl)) (by decide) (fun K hK => ?_)
   refine gs_ Try.func12 #[.slice A0 l0.length c0] ?_
   refine (laws_toReadingS.calls k _ _ l0 x _ (Kd.C_below HR0.out HB.out) HC0.out A2.out).mono ?_
   rintro e w15 ⟨vz, rfl, ho, hb⟩
   refine ⟨_, rfl, ?_⟩
   have HX := Aside0.mk (Kd.R_lower ho (below_size HB.out))
   replace HU := Aside0.mk (Kd.S_below HU.out hb)
   replace HS := Aside0.mk (HS.out.below hb)
   replace BK := Aside0.mk (bb_ BK.out hb)
   replace HB := Aside0.mk (below_step HB.out hb)
   clear hb ho
   refine hK.out _ _ ⟨(blk_cell BK.out 0).trans rfl, (blk_cell BK.out 1).trans rfl, (blk_cell BK.out 2).trans rfl⟩ (fun hHeld => ?_)
   clear hK K
   refine na_ ?_
   refine one_ (i := 3) (N := some 83) spansL24.mk0_1_2_3 rfl rfl (one_of HT_.out (by kernel_rfl)) (by decide) (fun K hK => ?_)
   refine gs_ Try.func13 #[.agg #[.int .i64 a1_0, .int .i64 a1_1, .int .i64 a1_2]] ?_
   refine (laws_toSump.calls a1_0 a1_1 a1_2 a1_0 a1_1 a1_2 _ rfl).mono ?_
   rintro e w16 ⟨rfl, hb⟩
   refine ⟨_, rfl, ?_⟩
   replace HU := Aside0.mk (Kd.S_below HU.out hb)
   replace HS := Aside0.mk (HS.out.below hb)
   replace HX := Aside0.mk (Kd.R_below HX.out hb)
   replace BK := Aside0.mk (bb_ BK.out hb)
   replace HB := Aside0.mk (below_step HB.out hb)
   clear hb
   obtain ⟨Az, cz, ez⟩ := Kd.R_slice HX.out
   subst ez
   refine hK.out _ _ ⟨(blk_cell BK.out 0).trans rfl, (blk_cell BK.out 1).trans rfl, (blk_cell BK.out 2).trans rfl⟩ (fun hHeld => ?_)
   clear hK K
   refine na_ ?_
   refine one_ (i := 4) (N := some 84) spansL24.mk0_1_2_3_4 rfl rfl (one_of HT_.out (by kernel_rfl)) (by decide) (fun K hK => ?_)
   refine gs_ Try.func37 #[.slice Az x.length cz, .agg #[.int .i64 a1_0, .int .i64 a1_1, .int .i64 a1_2]] ?_
   refine (impl_OpenSpans.calls k _ _ x a1_0 a1_1 a1_2 gs gt _ (Kd.R_reads' HX.out).2.2 (Kd.R_reads' HX.out).2.1 A4.out).mono ?_
   rintro e w17 ⟨vh, rfl, ho, hb⟩
   refine ⟨_, rfl, ?_⟩
   have HH := Aside0.mk (Kd.S_lower ho (below_size HB.out))
   replace HU := Aside0.mk (Kd.S_below HU.out hb)
   replace HS := Aside0.mk (HS.out.below hb)
   replace BK := Aside0.mk (bb_ BK.out hb)
   replace HB := Aside0.mk (below_step HB.out hb)
   clear hb ho HX
   obtain ⟨Ah, ch, eh⟩ := Kd.S_slice HH.out
   subst eh
   refine hK.out _ _ ⟨(blk_cell BK.out 0).trans rfl, (blk_cell BK.out 1).trans rfl, (blk_cell BK.out 2).trans rfl⟩ (fun hHeld => ?_)
   clear hK K
   refine na_ ?_
   refine pz_ HT_ 5 (some 79) spansL24.mk0_1_2_3_4_5 ?_
   refine pz_ HT_ 6 (some 85) spansL24.mk0_1_2_3_4_5_6 ?_
   refine pz_ HT_ 7 (some 86) spansL24.mk0_1_2_3_4_5_6_7 ?_
   refine pz_ HT_ 8 (some 14) spansL24.mk0_1_2_3_4_5_6_7_8 ?_
   refine pz_ HT_ 9 (some 15) spansL24.mk0_1_2_3_4_5_6_7_8_9 ?_
   refine done_ (done_of HT_.out (by kernel_rfl)) ?_
   clear hHeld
   go_wp2_with (first | ((with_reducible refine gate_callee (f := 38) rfl ?_); refine ga_ (some 89) Try.func38 #[.slice Ah gs.length ch, .slice Au us.length cu] ?_; refine (laws_eqIntSS.calls k _ _ gs _ _ us true _ (Kd.S_reads' HH.out).2.2 (Kd.S_reads' HH.out).2.1 (Kd.S_reads' HU.out).2.2 (Kd.S_reads' HU.out).2.1 A5.out).mono ?_; rintro e w18 ⟨rfl, hd⟩; refine ⟨_, rfl, ?_⟩; have hb := drawn_below_ hd; replace HS := Aside0.mk (HS.out.below hb); replace HB := Aside0.mk (below_step HB.out hb); clear hb hd HH HU) | ((with_reducible refine gate_callee (f := 40) rfl ?_); refine ga_ (some 98) Try.func40 #[.slice Ag gs.length cg, .int .i64 1] ?_; refine (heldN_ k _ _ (markT_ 1 gs) gs.length (markT_len gs 1) 1 _ _ (Kd.R_reads' (HS.out.rows_ HP.out)).2.2 (Kd.R_reads' (HS.out.rows_ HP.out)).2.1 A8.out).mono ?_; rintro e w19 ⟨rfl, hd⟩; refine ⟨_, rfl, ?_⟩; have hb := drawn_below_ hd; replace HS := Aside0.mk (HS.out.below hb); replace HB := Aside0.mk (below_step HB.out hb); clear hb hd))
   go_ret
   exact ⟨rr_, HB.out⟩
  ·
   rw [if_neg hq] at h
   cases h
end Go.Proofs.Ytojaeidabmfajaa.Pr

namespace Go.Proofs.YtojaeidabmfajaaW.Opens
open Go.ChangeShapes Go.WideShapes Go.RowKit
open Go.Deep (open_slice choose_lt)
open Go.Proofs.YtojaeidabmfajaaW.PrintWords
set_option linter.unusedVariables false
set_option linter.unusedSimpArgs false
def Opn {α : Type} (P : Program) (t : TypeId) (d : Kd α) (wf : α → Prop) : Prop :=
 P.cellsOf t = d.sz ∧ ∀ (H : Type) (enc : TypeId × Value → H) (W : World) (fuel : Nat) (cs : List Value) (x : DataW H × List MemPlace),
  DataW.trod enc P W 0 (fun _ => true) true fuel t cs = some x → (∀ n ∈ x.1.weights P t, n ≤ reachBytes) → ∃ y, d.K W y cs ∧ wf y
theorem Opn.int {P : Program} {t : TypeId} {k : IntKind} (hc : P.cellsOf t = 1) (ht : P.underlying t = some (.int k)) : Opn P t (Kd.int k) (fun n => (Lit.int k n).wf = true) :=
 ⟨hc, fun H enc W fuel cs x h _ => by
  obtain ⟨m, rfl, rfl, hw⟩ := DataW.trod_int ht h
  exact ⟨m, rfl, hw⟩⟩
theorem Opn.bool {P : Program} {t : TypeId} (hc : P.cellsOf t = 1) (ht : P.underlying t = some .bool) : Opn P t Kd.bool (fun _ => True) :=
 ⟨hc, fun H enc W fuel cs x h _ => by
  obtain ⟨m, rfl, rfl⟩ := DataW.trod_bool ht h
  exact ⟨m, rfl, trivial⟩⟩
theorem weightsAll_mem {H : Type} {P : Program} {e : TypeId} : ∀ {l : List (DataW H)} {d : DataW H}, d ∈ l → ∀ n ∈ d.weights P e, n ∈ DataW.weightsAll P e l
 | _ :: r, d, h, n, hn => by
  simp only [DataW.weightsAll, List.mem_append]
  rcases List.mem_cons.1 h with rfl | h
  ·
   exact .inl hn
  ·
   exact .inr (weightsAll_mem h n hn)
theorem Opn.slice {α : Type} (z : α) {P : Program} {t e : TypeId} {d : Kd α} {wf : α → Prop} {B : Nat} (hc : P.cellsOf t = 1) (ht : P.underlying t = some (.slice e)) (hB : P.bytesOf e = B) (h : Opn P e d wf) :
  Opn P t (Kd.slice e d) (fun xs => xs.length ≤ maxLen ∧ xs.length * B ≤ 140737488351232 ∧ ∀ y ∈ xs, wf y) :=
 ⟨hc, fun H enc W fuel cs x hf hw => by
  haveI : Inhabited α := ⟨z⟩
  rcases open_slice ht hf with ⟨rfl, rfl⟩ | ⟨a, len, cap, m, n, D, Pl, rfl, _, hl, hm, hmm, rfl, each⟩
  ·
   exact ⟨[], ⟨none, 0, rfl, Nat.le_refl _, rfl, by simp, fun h => absurd h (Nat.lt_irrefl 0)⟩, by simp, by simp, by simp⟩
  ·
   rw [if_pos rfl] at hmm
   subst hmm
   have hw0 : ∀ n ∈ DataW.weights P t (DataW.slice (H := H) ((List.range len).map D) ((List.range (m - len)).map fun j => D (len + j))), n ≤ reachBytes := hw
   have hww : ∀ i, i < len → ∀ n ∈ (D i).weights P e, n ≤ reachBytes := by
    intro i hi n hn
    refine hw0 n ?_
    simp only [DataW.weights, ht, List.mem_cons, List.mem_append]
    exact .inr (.inl (weightsAll_mem (List.mem_map.2 ⟨i, List.mem_range.2 hi, rfl⟩) n hn))
   have hB2 : len * B ≤ 140737488351232 := by
    have := hw0 ((len + (m - len)) * B) (by simp [DataW.weights, ht, hB])
    refine Nat.le_trans (Nat.mul_le_mul_right _ (by omega)) this
   have hx : ∀ i, i < len → ∃ y, ∃ c : List Value, c.length = d.sz ∧ d.K W y c ∧ wf y ∧ ∀ j u, c[j]? = some u → W.cell? (a.add (i * d.sz + j)) = some u := by
    intro i hi
    obtain ⟨cs', h1, h2⟩ := each i (by omega)
    obtain ⟨y, hy, hwy⟩ := h.2 H enc W n cs' _ h2 (hww i hi)
    obtain ⟨_, hlen, hcell⟩ := World.cells?_some h1
    rw [h.1] at hlen hcell
    refine ⟨y, cs', hlen, hy, hwy, fun j u hu => ?_⟩
    have hj : j < d.sz := by
     have := (List.getElem?_eq_some_iff.1 hu).1
     omega
    have := hcell j hj
    rw [add_add] at this
    exact this.trans hu
   obtain ⟨f, hf'⟩ := choose_lt hx
   refine ⟨(List.range len).map f, ⟨some a, m, by simp, by simpa using hl, by simp, by simp only [maxLen] at hm; simp; omega, fun _ => ⟨a, rfl, fun j p hj => ?_⟩⟩, ?_, ?_, ?_⟩
   ·
    rw [List.getElem?_map] at hj
    have hj' : j < len := by
     by_cases hjl : j < len
     ·
      exact hjl
     ·
      rw [List.getElem?_eq_none (by simp; omega)] at hj
      cases hj
    rw [List.getElem?_range hj'] at hj
    obtain rfl := Option.some.inj hj
    obtain ⟨c, h1, h2, _, h3⟩ := hf' j hj'
    exact ⟨c, h1, h2, h3⟩
   ·
    simp; omega
   ·
    simpa using hB2
   ·
    intro y hy
    obtain ⟨i, hi, rfl⟩ := List.mem_map.1 hy
    obtain ⟨c, _, _, h2, _⟩ := hf' i (List.mem_range.1 hi)
    exact h2⟩
def FOpn {α : Type} (P : Program) (fs : List Field) (off : Nat) (d : Kd α) (wf : α → Prop) : Prop :=
 ∀ (H : Type) (enc : TypeId × Value → H) (W : World) (fuel : Nat) (cs : List Value) (xs : List (DataW H × List MemPlace)),
  xs.length = fs.length → (∀ (i : Nat) (f : Field), fs[i]? = some f → DataW.trod enc P W 0 (fun _ => true) true fuel f.type ((cs.drop f.offset).take (P.cellsOf f.type)) = xs[i]?) →
  (∀ n ∈ DataW.weightsEach P (fs.map (·.type)) (xs.map (·.1)), n ≤ reachBytes) → ∃ y, d.K W y ((cs.drop off).take d.sz) ∧ wf y
theorem FOpn.one {α : Type} {P : Program} {f : Field} {off : Nat} {d : Kd α} {wf : α → Prop} (ho : f.offset = off) (h : Opn P f.type d wf) : FOpn P [f] off d wf := by
 intro H enc W fuel cs xs hl hx hw
 match xs, hl with
 | [x], _ =>
  have h0 := hx 0 f rfl
  rw [ho, h.1] at h0
  exact h.2 H enc W fuel _ x h0 (fun n hn => hw n (by simp only [List.map, DataW.weightsEach, List.mem_append]; exact .inl hn))
theorem FOpn.cons {α β : Type} {P : Program} {f : Field} {fs : List Field} {off : Nat} {d : Kd α} {d' : Kd β} {wf : α → Prop} {wf' : β → Prop} (ho : f.offset = off) (h : Opn P f.type d wf) (h' : FOpn P fs (off + d.sz) d' wf') :
  FOpn P (f :: fs) off (Kd.pair d d') (fun x => wf x.1 ∧ wf' x.2) := by
 intro H enc W fuel cs xs hl hx hw
 match xs, hl with
 | x :: xs, hl =>
  have h0 := hx 0 f rfl
  rw [ho, h.1] at h0
  have hw' : ∀ n ∈ x.1.weights P f.type ++ DataW.weightsEach P (fs.map (·.type)) (xs.map (·.1)), n ≤ reachBytes := hw
  obtain ⟨y, hy, hwy⟩ := h.2 H enc W fuel _ x h0 (fun n hn => hw' n (List.mem_append_left _ hn))
  obtain ⟨y', hy', hwy'⟩ := h' H enc W fuel cs xs (by simpa using hl) (fun i f' hf' => hx (i + 1) f' (by simpa using hf')) (fun n hn => hw' n (List.mem_append_right _ hn))
  refine ⟨(y, y'), ⟨_, _, ?_, hy, hy'⟩, hwy, hwy'⟩
  show (cs.drop off).take (d.sz + d'.sz) = _
  rw [List.take_add, List.drop_drop]
theorem Opn.struct {α β : Type} {P : Program} {t : TypeId} {fs : Array Field} {d : Kd α} {wf : α → Prop} (f : β → α) (g : α → β) (hfg : ∀ x, f (g x) = x) (hc : P.cellsOf t = d.sz) (ht : P.underlying t = some (.struct fs)) (h : FOpn P fs.toList 0 d wf) :
  Opn P t (Kd.iso d f) (fun x => wf (f x)) :=
 ⟨hc, fun H enc W fuel cs x hf hw => by
  obtain ⟨xs, n, rfl, rfl, hl, hxs, each⟩ := DataW.trod_struct ht hf
  obtain ⟨y, hy, hwy⟩ := h H enc W n cs xs (by simpa using hxs) (fun i f' hf' => each i f' (by simpa using hf')) (fun n hn => hw n (by simp only [DataW.weights, ht]; exact hn))
  rw [List.drop_zero, List.take_of_length_le (by rw [hl, hc]; exact Nat.le_refl _)] at hy
  exact ⟨g y, (by rw [← hfg y] at hy; exact hy), (by rw [← hfg y] at hwy; exact hwy)⟩⟩
theorem par_weights {H : Type} {P : Program} {ts : List TypeId} {ds : List (DataW H)} {j : Nat} {t : TypeId} {d : DataW H} (h : (DataW.weightsEach P ts ds).all (· ≤ reachBytes) = true) (ht : ts[j]? = some t) (hd : ds[j]? = some d) :
  ∀ n ∈ d.weights P t, n ≤ reachBytes := fun n hn => of_decide_eq_true (List.all_eq_true.1 h n (DataW.weights_mem_each ht hd n hn))
theorem par_slice {α : Type} {H : Type} {enc : TypeId × Value → H} {P : Program} {W : World} {r : Reach} {b0 : Nat} {t e : TypeId} {d : Kd α} {wf : List α → Prop} {v : Value} {D : DataW H} {ps : List MemPlace}
  (ht : P.underlying t = some (.slice e)) (ho : Opn P t (Kd.slice e d) wf) (hv : Value.okWide P W r b0 t v) (hd : DataW.Trod enc P W 0 (fun _ => true) true t v D ps) (hw : ∀ n ∈ D.weights P t, n ≤ reachBytes) :
  ∃ (A : Option Addr) (l : List α) (c : Nat), v = .slice A l.length c ∧ l.length ≤ c ∧ d.C W A l.length l ∧ wf l := by
 obtain ⟨A, len, cap, rfl⟩ := okWide_slice ht hv
 obtain ⟨fuel, hf⟩ := hd
 obtain ⟨l, ⟨A', c, he, hl, hC⟩, hwl⟩ := ho.2 H enc W fuel _ _ hf hw
 have he' : [Value.slice A len cap] = [.slice A' l.length c] := he
 simp only [List.cons.injEq, Value.slice.injEq, and_true] at he'
 obtain ⟨rfl, rfl, rfl⟩ := he'
 exact ⟨_, l, _, rfl, hl, hC, hwl⟩
theorem par_struct {α : Type} {H : Type} {enc : TypeId × Value → H} {P : Program} {W : World} {r : Reach} {b0 : Nat} {t : TypeId} {fs : Array Field} {d : Kd α} {wf : α → Prop} {v : Value} {D : DataW H} {ps : List MemPlace}
  (ht : P.underlying t = some (.struct fs)) (ho : Opn P t d wf) (hv : Value.okWide P W r b0 t v) (hd : DataW.Trod enc P W 0 (fun _ => true) true t v D ps) (hw : ∀ n ∈ D.weights P t, n ≤ reachBytes) :
  ∃ (cs : List Value) (x : α), v = .agg cs.toArray ∧ d.K W x cs ∧ wf x := by
 obtain ⟨cs, rfl, _⟩ := okWide_struct ht hv
 obtain ⟨fuel, hf⟩ := hd
 obtain ⟨y, hy, hwy⟩ := ho.2 H enc W fuel _ _ hf hw
 exact ⟨cs.toList, y, by simp, hy, hwy⟩
end Go.Proofs.YtojaeidabmfajaaW.Opens

namespace Go.Proofs.Ytojaeidabmfajaa.Pr
open Go.RowKit Go.Proofs.YtojaeidabmfajaaW.PrintWords Go.Proofs.YtojaeidabmfajaaW.PrintLast Go.Proofs.YtojaeidabmfajaaW.Opens
set_option linter.unusedVariables false
def wf82 (x : S82) : Prop := (Lit.int .i64 x.f0).wf = true ∧ (Lit.int .i64 x.f1).wf = true
theorem opn82 : Opn Try.prog 82 k82 wf82 := Opn.struct (fun x : S82 => (x.f0, x.f1)) (fun p => ⟨p.1, p.2⟩) (fun _ => rfl) (by kernel_rfl) Try.underlying82 (FOpn.cons rfl (Opn.int (by kernel_rfl) Try.underlying3) (FOpn.one rfl (Opn.int (by kernel_rfl) Try.underlying3)))
def wfL82 (l : List S82) : Prop := l.length ≤ maxLen ∧ l.length * 16 ≤ 140737488351232 ∧ ∀ y ∈ l, wf82 y
theorem opnL22 : Opn Try.prog 22 (Kd.slice 82 k82) wfL82 := Opn.slice z82 (by kernel_rfl) Try.underlying22 (by kernel_rfl) opn82
def wf24 (x : S24) : Prop := (Lit.int .i64 x.f0).wf = true ∧ (Lit.int .i64 x.f1).wf = true ∧ (Lit.int .i64 x.f2).wf = true
theorem opn24 : Opn Try.prog 24 k24 wf24 := Opn.struct (fun x : S24 => (x.f0, x.f1, x.f2)) (fun p => ⟨p.1, p.2.1, p.2.2⟩) (fun _ => rfl) (by kernel_rfl) Try.underlying24 (FOpn.cons rfl (Opn.int (by kernel_rfl) Try.underlying3) (FOpn.cons rfl (Opn.int (by kernel_rfl) Try.underlying3) (FOpn.one rfl (Opn.int (by kernel_rfl) Try.underlying3))))
theorem kq24_open {w : World} {x : S24} {cs : List Value} (h : k24.K w x cs) : cs = [.int .i64 x.f0, .int .i64 x.f1, .int .i64 x.f2] := by
 obtain ⟨_, _, rfl, rfl, ⟨_, _, rfl, rfl, rfl⟩⟩ := h
 exact rfl
def FnExactOpenSpans.Pure : Prop := ∀ (x0 : (List S82)) (x1 : S24), wfL82 x0 → wf24 x1 → ∃ k, laws_FnExactOpenSpans.f k x0 x1.f0 x1.f1 x1.f2 = some true
end Go.Proofs.Ytojaeidabmfajaa.Pr

namespace Go.Proofs.Ytojaeidabmfajaa.Pr
open Go.RowKit Go.Proofs.YtojaeidabmfajaaW.PrintWords Go.Proofs.YtojaeidabmfajaaW.PrintLast Go.Proofs.YtojaeidabmfajaaW.PrintMore
attribute [local go_sem] max2_int min2_int max_two min_two max_three min_three max_four min_four   -- for this text's walks alone
set_option linter.unusedVariables false
set_option linter.unusedSimpArgs false
def opS_ (k : Nat) (l : List S54) (s : List S30) (x : Int) : Option Bool := if s.all (fun y => (impl_Sump_open.f k y.f0 y.f1 y.f2 l x).isSome) = true then some (!s.any fun y => !(impl_Sump_open.f k y.f0 y.f1 y.f2 l x).getD false) else none
def spanned_ (k : Nat) (l : List S54) (s : List S30) (a b : Int) : Prop := 0 ≤ a ∧ b ≤ 1000000 ∧ (List.range (b - a + 1).toNat).all (fun i => (opS_ k l s (a + i)).isSome) = true
instance (k : Nat) (l : List S54) (s : List S30) (a b : Int) : Decidable (spanned_ k l s a b) := by unfold spanned_; infer_instance
def openFor8.T : Bool × List (List Nat × List Nat) := (true, [([], []), ([0], [0]), ([1], [1]), ([], []), ([3], [3]), ([4], [4]), ([2, 5], [2, 5]), ([6], [6]), ([], []), ([7, 8], [7, 8])])
def openFor8.B : List Nat := [0, 1, 3, 0, 8, 24, 63, 127, 0, 511]
theorem openFor8.tab : rtab .any (opsOf Try.f42 8) = openFor8.T := by kernel_rfl
theorem openFor8.bits : waitsOk openFor8.T.2 openFor8.B = true := by kernel_rfl
end Go.Proofs.Ytojaeidabmfajaa.Pr

namespace Go.Proofs.Ytojaeidabmfajaa.Pr.Pure
open Go.RowKit Go.Proofs.YtojaeidabmfajaaW.PrintWords Go.Proofs.YtojaeidabmfajaaW.PrintLast Go.Proofs.YtojaeidabmfajaaW.PrintMore
set_option linter.unusedVariables false
set_option linter.unusedSimpArgs false
theorem w64 {x : Int} (h1 : -9223372036854775808 ≤ x) (h2 : x ≤ 9223372036854775807) : wrap64 x = x := by
 unfold wrap64
 omega
theorem set_map_step {α β : Type} (f : α → β) (l : List α) (z : β) (i : Nat) (hi : i < l.length) (a : α) (ha : l[i]? = some a) :
  ((l.take i).map f ++ List.replicate (l.length - i) z).set i (f a) = (l.take (i + 1)).map f ++ List.replicate (l.length - (i + 1)) z := by
 have h1 : ((l.take i).map f).length = i := by simp; omega
 rw [List.set_append_right _ _ (by omega), h1, Nat.sub_self]
 obtain ⟨m, hm⟩ : ∃ m, l.length - i = m + 1 := ⟨l.length - i - 1, by omega⟩
 rw [hm, show l.length - (i + 1) = m by omega, List.replicate_succ, List.set_cons_zero, List.take_add_one, ha]
 simp
theorem getD_some {α : Type} (l : List α) (z : α) (i : Nat) (h : i < l.length) : l[i]? = some (l.getD i z) := by
 rw [List.getD_eq_getElem?_getD, List.getElem?_eq_getElem h]
 rfl
theorem obs {α β : Type} (a : α) (f : α → Option β) : (some a).bind f = f a := id (Option.bind_some a f)
def cvReading (x : S82) : S54 := ⟨x.f0, x.f1⟩
theorem toReadingS_l0 (l : List S82) (hl : l.length ≤ 4611686018427387904) (d : Nat) : ∀ (k i : Nat), i + d = l.length → d < k →
  laws_toReadingS.l0 k l ((l.take i).map cvReading ++ List.replicate (l.length - i) z54) i = some (l.map cvReading) := by
 induction d with
 | zero =>
  intro k i hd hk
  obtain ⟨k, rfl⟩ : ∃ m, k = m + 1 := ⟨k - 1, by omega⟩
  simp only [laws_toReadingS.l0]
  rw [if_neg (by omega), List.take_of_length_le (by omega), show l.length - i = 0 by omega]
  simp
 | succ d ih =>
  intro k i hd hk
  obtain ⟨k, rfl⟩ : ∃ m, k = m + 1 := ⟨k - 1, by omega⟩
  simp only [laws_toReadingS.l0, laws_toReading.f, Option.bind_some]
  rw [if_pos (by omega), if_pos (by omega), if_pos (by simp; omega), w64 (by omega) (by omega)]
  have ha : l[i]? = some (rd_T82 l i) := getD_some l z82 i (by omega)
  rw [Int.toNat_natCast]
  have := set_map_step cvReading l z54 i (by omega) _ ha
  rw [show (⟨(rd_T82 l i).f0, (rd_T82 l i).f1⟩ : S54) = cvReading (rd_T82 l i) from rfl, this]
  exact ih k (i + 1) (by omega) (by omega)
theorem toReadingS_eq {l : List S82} (hl : l.length * 16 ≤ 140737488351232) {k : Nat} (hk : l.length < k) : laws_toReadingS.f k l = some (l.map cvReading) := by
 unfold laws_toReadingS.f
 rw [if_pos (by omega), if_pos (by omega), Int.toNat_natCast]
 have := toReadingS_l0 l (by omega) l.length k 0 (by omega) hk
 simpa using this
theorem eqReadingS_self (l : List S54) (hl : l.length ≤ 4611686018427387904) (d : Nat) : ∀ (k : Nat) (i : Int), 0 ≤ i → i + d = l.length → d < k → laws_eqReadingS.l0 k l l i = some true := by
 induction d with
 | zero =>
  intro k i h0 hd hk
  obtain ⟨k, rfl⟩ : ∃ m, k = m + 1 := ⟨k - 1, by omega⟩
  simp only [laws_eqReadingS.l0]
  rw [if_neg (by omega)]
 | succ d ih =>
  intro k i h0 hd hk
  obtain ⟨k, rfl⟩ : ∃ m, k = m + 1 := ⟨k - 1, by omega⟩
  simp only [laws_eqReadingS.l0, laws_eqReading.f, if_true, Option.bind_some]
  rw [if_pos (by omega), if_pos (by omega), if_pos (by omega), w64 (by omega) (by omega)]
  exact ih k (i + 1) (by omega) (by omega) (by omega)
theorem eqReadingS_eq {l : List S54} (hl : l.length ≤ 4611686018427387904) {k : Nat} (hk : l.length < k) : laws_eqReadingS.f k l l = some true := by
 unfold laws_eqReadingS.f
 rw [if_pos rfl]
 exact eqReadingS_self l hl l.length k 0 (by omega) (by omega) hk
theorem markReadingS_l0 (d : Nat) : ∀ (k : Nat) (l : List S54) (a i : Int), l.length ≤ 1152921504606846976 → 0 ≤ i → i + d = l.length → d < k → 0 ≤ a → a + 8 * d ≤ 9223372036854775807 →
  ∃ (b : Int) (l' : List S54), laws_markReadingS.l0 k l a i = some (b, l') ∧ a ≤ b ∧ b ≤ a + 8 * d := by
 induction d with
 | zero =>
  intro k l a i hl h0 hd hk ha hb
  obtain ⟨k, rfl⟩ : ∃ m, k = m + 1 := ⟨k - 1, by omega⟩
  refine ⟨a, l, ?_, by omega, by omega⟩
  simp only [laws_markReadingS.l0]
  rw [if_neg (by omega)]
 | succ d ih =>
  intro k l a i hl h0 hd hk ha hb
  obtain ⟨k, rfl⟩ : ∃ m, k = m + 1 := ⟨k - 1, by omega⟩
  simp only [laws_markReadingS.l0, Option.bind_some]
  rw [if_pos (by omega), if_pos (by omega)]
  rw [w64 (x := a + 1) (by omega) (by omega), w64 (x := a + 1 + 1) (by omega) (by omega), w64 (x := i + 1) (by omega) (by omega)]
  have hL : ∀ L : List S54, L.length = l.length → ∃ (b : Int) (l' : List S54), laws_markReadingS.l0 k L (a + 1 + 1) (i + 1) = some (b, l') ∧ a ≤ b ∧ b ≤ a + 8 * ((d + 1 : Nat) : Int) := fun L hL => by
   obtain ⟨b, l', e, h1, h2⟩ := ih k L (a + 1 + 1) (i + 1) (by omega) (by omega) (by omega) (by omega) (by omega) (by omega)
   exact ⟨b, l', e, by omega, by omega⟩
  exact hL _ (by simp)
theorem markReadingS_eq {l : List S54} (hl : l.length ≤ 70368744177664) {k : Nat} (hk : l.length < k) {a : Int} (h0 : 0 ≤ a) (h1 : a ≤ 1125899906842624) :
  ∃ (b : Int) (l' : List S54), laws_markReadingS.f k l a = some (b, l') ∧ 0 ≤ b ∧ b ≤ a + 8 * l.length := by
 unfold laws_markReadingS.f
 obtain ⟨b, l', e, h2, h3⟩ := markReadingS_l0 l.length k l a 0 (by omega) (by omega) (by omega) hk h0 (by omega)
 exact ⟨b, l', e, by omega, by omega⟩
theorem l1In_eq (a b c : Int) : spec_l1In.f a b c = some (decide (b ≤ a ∧ a ≤ c)) := by
 unfold spec_l1In.f
 by_cases h : a ≥ b
 ·
  rw [if_pos h]; simp [show b ≤ a from h]
 ·
  rw [if_neg h]; simp [show ¬ b ≤ a from h]
theorem within_eq (a b c : Int) : impl_within.f a b c = some (decide (b ≤ a ∧ a ≤ c)) := by
 unfold impl_within.f
 by_cases h : a ≥ b
 ·
  rw [if_pos h]; simp [show b ≤ a from h]
 ·
  rw [if_neg h]; simp [show ¬ b ≤ a from h]
theorem level_eq (a : Int) : spec_l23Level.f a = some (decide (-500 ≤ a ∧ a ≤ 500)) := by
 unfold spec_l23Level.f; rw [l1In_eq]; rfl
theorem isLevel_eq (a : Int) : impl_isLevel.f a = some (decide (-500 ≤ a ∧ a ≤ 500)) := by
 unfold impl_isLevel.f; rw [within_eq]; rfl
def Vr (l : List S54) (i : Int) : Prop := (0 ≤ (rd_T54 l i).f0 ∧ (rd_T54 l i).f0 ≤ 999) ∧ (-500 ≤ (rd_T54 l i).f1 ∧ (rd_T54 l i).f1 ≤ 500) ∧ (0 < i → (rd_T54 l (i - 1)).f0 < (rd_T54 l i).f0)
theorem good_spec (l : List S54) (hl : l.length ≤ 4611686018427387904) (d : Nat) : ∀ (k : Nat) (i : Int), 0 ≤ i → i + d = l.length → d < k →
  ∃ b, spec_l23Good.l0 k l i = some b ∧ (b = true ↔ (∀ j : Int, i ≤ j → j < l.length → Vr l j) ∧ l.length ≤ 15) := by
 induction d with
 | zero =>
  intro k i h0 hd hk
  obtain ⟨k, rfl⟩ : ∃ m, k = m + 1 := ⟨k - 1, by omega⟩
  refine ⟨_, by simp only [spec_l23Good.l0]; rw [if_neg (by omega)], ?_⟩
  rw [decide_eq_true_eq]
  constructor
  ·
   intro h
   exact ⟨fun j h1 h2 => by omega, by omega⟩
  ·
   intro h
   omega
 | succ d ih =>
  intro k i h0 hd hk
  obtain ⟨k, rfl⟩ : ∃ m, k = m + 1 := ⟨k - 1, by omega⟩
  obtain ⟨b, hb, hiff⟩ := ih k (i + 1) (by omega) (by omega) (by omega)
  have hw : wrap64 (i + 1) = i + 1 := w64 (by omega) (by omega)
  have hw' : wrap64 (i - 1) = i - 1 := w64 (by omega) (by omega)
  simp only [spec_l23Good.l0, l1In_eq, level_eq, Option.bind_some, decide_eq_true_eq, hw, hw']
  rw [if_pos (show i < (l.length : Int) by omega), if_pos h0]
  have hno : ¬ Vr l i → (false = true ↔ (∀ j : Int, i ≤ j → j < l.length → Vr l j) ∧ l.length ≤ 15) := fun hn => ⟨fun h => (by cases h), fun h => absurd (h.1 i (by omega) (by omega)) hn⟩
  have hyes : Vr l i → (b = true ↔ (∀ j : Int, i ≤ j → j < l.length → Vr l j) ∧ l.length ≤ 15) := fun hy => by
   rw [hiff]
   refine ⟨fun h => ⟨fun j h1 h2 => ?_, h.2⟩, fun h => ⟨fun j h1 h2 => h.1 j (by omega) h2, h.2⟩⟩
   by_cases e : j = i
   ·
    rw [e]; exact hy
   ·
    exact h.1 j (by omega) h2
  by_cases h1 : 0 ≤ (rd_T54 l i).f0 ∧ (rd_T54 l i).f0 ≤ 999
  ·
   rw [if_pos h1]
   by_cases h2 : -500 ≤ (rd_T54 l i).f1 ∧ (rd_T54 l i).f1 ≤ 500
   ·
    rw [if_pos h2]
    by_cases h3 : i > 0
    ·
     rw [if_pos h3, if_pos (by omega), if_pos (by omega)]
     by_cases h4 : (rd_T54 l (i - 1)).f0 ≥ (rd_T54 l i).f0
     ·
      rw [if_pos h4]
      exact ⟨_, rfl, hno (fun h => by have := h.2.2 h3; omega)⟩
     ·
      rw [if_neg h4]
      exact ⟨_, hb, hyes ⟨h1, h2, fun _ => by omega⟩⟩
    ·
     rw [if_neg h3]
     exact ⟨_, hb, hyes ⟨h1, h2, fun h => absurd h h3⟩⟩
   ·
    rw [if_neg h2]
    exact ⟨_, rfl, hno (fun h => h2 h.2.1)⟩
  ·
   rw [if_neg h1]
   exact ⟨_, rfl, hno (fun h => h1 h.1)⟩
theorem good_impl (l : List S54) : ∀ (k : Nat) (i : Int), impl_AreReadings.l0 k l l (l.length : Int) i = spec_l23Good.l0 k l i
 | 0, i => by simp only [impl_AreReadings.l0, spec_l23Good.l0]
 | k + 1, i => by
  simp only [impl_AreReadings.l0, spec_l23Good.l0, l1In_eq, level_eq, within_eq, isLevel_eq, good_impl l k]
  by_cases h1 : i < (l.length : Int)
  ·
   simp only [if_pos h1]
  ·
   simp only [if_neg h1]
theorem gcd_impl : ∀ (k : Nat) (a b : Int), b.natAbs < k → -9223372036854775807 ≤ a → a ≤ 9223372036854775807 → -9223372036854775807 ≤ b → b ≤ 9223372036854775807 → impl_gcd.l0 k a b = some (Int.gcd a b : Int)
 | 0, _, _, h, _, _, _, _ => by omega
 | k + 1, a, b, h, ha, ha', hb, hb' => by
  simp only [impl_gcd.l0]
  by_cases e : b = 0
  ·
   rw [if_pos e]
   subst e
   simp only [impl_absolute.f, Option.bind_some]
   rw [w64 (by omega) (by omega), Int.gcd_zero_right]
   unfold mx
   split <;> (congr 1; omega)
  ·
   rw [if_neg e]
   have hm : (Int.tmod a b).natAbs = a.natAbs % b.natAbs := Int.natAbs_tmod a b
   have hlt : a.natAbs % b.natAbs < b.natAbs := Nat.mod_lt _ (by omega)
   rw [gcd_impl k b (Int.tmod a b) (by omega) hb hb' (by omega) (by omega)]
   congr 2
   rw [Int.gcd_comm a b]
   show Nat.gcd b.natAbs (Int.tmod a b).natAbs = Nat.gcd b.natAbs a.natAbs
   rw [hm, Nat.gcd_comm, ← Nat.gcd_rec]
theorem gcd_spec : ∀ (k : Nat) (a b : Int), b.toNat < k → 0 ≤ a → 0 ≤ b → spec_l23Common.l0 k a b = some (Int.gcd a b : Int)
 | 0, _, _, h, _, _ => by omega
 | k + 1, a, b, h, ha, hb => by
  simp only [spec_l23Common.l0]
  by_cases e : b > 0
  ·
   rw [if_pos e, if_neg (by omega)]
   have h1 : 0 ≤ Int.tmod a b := Int.tmod_nonneg b ha
   have h2 : Int.tmod a b < b := Int.tmod_lt_of_pos a e
   rw [gcd_spec k b (Int.tmod a b) (by omega) hb h1]
   congr 2
   rw [Int.gcd_comm a b]
   show Nat.gcd b.natAbs (Int.tmod a b).natAbs = Nat.gcd b.natAbs a.natAbs
   rw [Int.natAbs_tmod, Nat.gcd_comm, ← Nat.gcd_rec]
  ·
   rw [if_neg e]
   obtain rfl : b = 0 := by omega
   rw [Int.gcd_zero_right]
   congr 1
   omega
def red (a b : Int) : Int × Int := (Int.tdiv a (Int.gcd a b), Int.tdiv b (Int.gcd a b))
theorem tdiv_bd (a : Int) (g : Int) (hg : 1 ≤ g) {B : Int} (h1 : -B ≤ a) (h2 : a ≤ B) : -B ≤ Int.tdiv a g ∧ Int.tdiv a g ≤ B := by
 have h3 : (Int.tdiv a g).natAbs ≤ a.natAbs := by
  rw [Int.natAbs_tdiv]
  exact Nat.div_le_self _ _
 omega
theorem red_impl {k : Nat} {a b : Int} (hk : b.natAbs < k) (ha : -1000000000000 ≤ a) (ha' : a ≤ 1000000000000) (hb : 1 ≤ b) (hb' : b ≤ 1000000000000) : impl_reduced.f k a b = some (red a b) := by
 have hg : 1 ≤ (Int.gcd a b : Int) := by
  have : 0 < Int.gcd a b := Int.gcd_pos_of_ne_zero_right a (by omega)
  omega
 have h1 := tdiv_bd a _ hg ha ha'
 have h2 := tdiv_bd b _ hg (B := 1000000000000) (by omega) hb'
 unfold impl_reduced.f impl_gcd.f
 rw [gcd_impl k a b hk (by omega) (by omega) (by omega) (by omega)]
 simp only [Option.bind_some]
 rw [if_neg (by omega), w64 (by omega) (by omega), w64 (by omega) (by omega)]
 rfl
theorem red_spec {k : Nat} {a b : Int} (hk : b.natAbs < k) (ha : -1000000000000 ≤ a) (ha' : a ≤ 1000000000000) (hb : 1 ≤ b) (hb' : b ≤ 1000000000000) : spec_l23Reduce.f k a b = some (red a b) := by
 have hg : 1 ≤ (Int.gcd a b : Int) := by
  have : 0 < Int.gcd a b := Int.gcd_pos_of_ne_zero_right a (by omega)
  omega
 have h1 := tdiv_bd a _ hg ha ha'
 have h2 := tdiv_bd b _ hg (B := 1000000000000) (by omega) hb'
 have hm : spec_l1Most.f a (wrap64 (-a)) = some (a.natAbs : Int) := by
  unfold spec_l1Most.f
  rw [w64 (by omega) (by omega)]
  split <;> (congr 1; omega)
 unfold spec_l23Reduce.f spec_l23Common.f
 rw [hm]
 simp only [Option.bind_some]
 rw [gcd_spec k _ b (by omega) (by omega) (by omega)]
 have e : Int.gcd (a.natAbs : Int) b = Int.gcd a b := by
  show Nat.gcd (a.natAbs : Int).natAbs b.natAbs = Nat.gcd a.natAbs b.natAbs
  rw [Int.natAbs_natCast]
 rw [e]
 simp only [Option.bind_some]
 rw [if_neg (by omega), w64 (by omega) (by omega), w64 (by omega) (by omega)]
 rfl
def Good (l : List S54) : Prop := (∀ j : Int, 0 ≤ j → j < l.length → Vr l j) ∧ l.length ≤ 15
theorem Good.mono {l : List S54} (h : Good l) (d : Nat) : ∀ i j : Int, 0 ≤ i → i + d = j → j < l.length → (rd_T54 l i).f0 + d ≤ (rd_T54 l j).f0 := by
 induction d with
 | zero =>
  intro i j h0 hd hj
  obtain rfl : i = j := by omega
  omega
 | succ d ih =>
  intro i j h0 hd hj
  have h1 := ih i (j - 1) h0 (by omega) (by omega)
  have h2 := (h.1 j (by omega) hj).2.2 (by omega)
  omega
def levelAt (l : List S54) (hour : Int) (i : Int) : Int × Int :=
 if (rd_T54 l i).f0 = hour then ((rd_T54 l i).f1, 1)
 else red ((rd_T54 l (i - 1)).f1 * ((rd_T54 l i).f0 - hour) + (rd_T54 l i).f1 * (hour - (rd_T54 l (i - 1)).f0)) ((rd_T54 l i).f0 - (rd_T54 l (i - 1)).f0)
def First (l : List S54) (hour : Int) (i : Int) : Prop := 0 ≤ i ∧ i < l.length ∧ hour ≤ (rd_T54 l i).f0 ∧ (0 < i → (rd_T54 l (i - 1)).f0 < hour)
theorem prod_bd {a b : Int} (h1 : -500 ≤ a) (h2 : a ≤ 500) (h3 : 0 ≤ b) (h4 : b ≤ 999) : -499500 ≤ a * b ∧ a * b ≤ 499500 := by
 constructor
 ·
  have : (-500) * b ≤ a * b := Int.mul_le_mul_of_nonneg_right h1 h3
  omega
 ·
  have : a * b ≤ 500 * b := Int.mul_le_mul_of_nonneg_right h2 h3
  omega
theorem in_spec {l : List S54} (hg : Good l) {hour n : Int} (hn : First l hour n) (hf : (rd_T54 l 0).f0 ≤ hour) (d : Nat) : ∀ (k : Nat) (i : Int), 0 ≤ i → i + d = n → d + 1001 < k →
  spec_l23In.l0 k l hour i = some (levelAt l hour n) := by
 obtain ⟨n0, n1, n2, n3⟩ := hn
 induction d with
 | zero =>
  intro k i h0 hd hk
  obtain ⟨k, rfl⟩ : ∃ m, k = m + 1 := ⟨k - 1, by omega⟩
  obtain rfl : i = n := by omega
  have hl := hg.2
  simp only [spec_l23In.l0]
  rw [if_pos h0, if_pos n1, if_neg (by omega)]
  unfold levelAt
  by_cases e : (rd_T54 l i).f0 = hour
  ·
   rw [if_pos e, if_pos e]
  ·
   have hi : 0 < i := by
    rcases Int.lt_or_le 0 i with h | h
    ·
     exact h
    ·
     obtain rfl : i = 0 := by omega
     omega
   obtain ⟨⟨v1, v2⟩, ⟨v3, v4⟩, v5⟩ := hg.1 i h0 n1
   obtain ⟨⟨u1, u2⟩, ⟨u3, u4⟩, _⟩ := hg.1 (i - 1) (by omega) (by omega)
   have hp := n3 hi
   have b1 := prod_bd u3 u4 (b := (rd_T54 l i).f0 - hour) (by omega) (by omega)
   have b2 := prod_bd v3 v4 (b := hour - (rd_T54 l (i - 1)).f0) (by omega) (by omega)
   rw [if_neg e, if_neg e, w64 (x := i - 1) (by omega) (by omega), if_pos (by omega), if_pos (by omega)]
   rw [w64 (x := (rd_T54 l i).f0 - hour) (by omega) (by omega), w64 (x := hour - (rd_T54 l (i - 1)).f0) (by omega) (by omega), w64 (x := (rd_T54 l (i - 1)).f1 * _) (by omega) (by omega), w64 (x := (rd_T54 l i).f1 * _) (by omega) (by omega), w64 (by omega) (by omega), w64 (by omega) (by omega)]
   rw [red_spec (by omega) (by omega) (by omega) (by omega) (by omega)]
   rfl
 | succ d ih =>
  intro k i h0 hd hk
  obtain ⟨k, rfl⟩ : ∃ m, k = m + 1 := ⟨k - 1, by omega⟩
  have hl := hg.2
  have hm := Good.mono hg d i (n - 1) h0 (by omega) (by omega)
  have hp := n3 (by omega)
  simp only [spec_l23In.l0]
  rw [if_pos h0, if_pos (by omega), if_pos (by omega), w64 (x := i + 1) (by omega) (by omega)]
  exact ih k (i + 1) (by omega) (by omega) (by omega)
theorem in_impl {l : List S54} (hg : Good l) {hour n : Int} (hn : First l hour n) (hf : (rd_T54 l 0).f0 ≤ hour) (d : Nat) : ∀ (k : Nat) (i : Int), 0 ≤ i → (rd_T54 l i).f0 ≤ hour → i + d = n → d + 1001 < k →
  impl_levelIn.l0 k l hour i = some (levelAt l hour n) := by
 obtain ⟨n0, n1, n2, n3⟩ := hn
 have hl := hg.2
 induction d with
 | zero =>
  intro k i h0 hle hd hk
  obtain ⟨k, rfl⟩ : ∃ m, k = m + 1 := ⟨k - 1, by omega⟩
  obtain rfl : i = n := by omega
  have e : (rd_T54 l i).f0 = hour := by omega
  simp only [impl_levelIn.l0]
  rw [w64 (x := i + 1) (by omega) (by omega)]
  unfold levelAt
  by_cases h1 : i + 1 < (l.length : Int)
  ·
   have := (hg.1 (i + 1) (by omega) h1).2.2 (by omega)
   rw [show i + 1 - 1 = i by omega] at this
   rw [if_pos h1, if_pos (by omega), if_neg (by omega), if_pos h0, if_pos n1, if_pos e, if_pos e]
  ·
   rw [if_neg h1, if_pos h0, if_pos n1, if_pos e, if_pos e]
 | succ d ih =>
  intro k i h0 hle hd hk
  obtain ⟨k, rfl⟩ : ∃ m, k = m + 1 := ⟨k - 1, by omega⟩
  simp only [impl_levelIn.l0]
  rw [w64 (x := i + 1) (by omega) (by omega), if_pos (by omega), if_pos (by omega)]
  by_cases h1 : (rd_T54 l (i + 1)).f0 ≤ hour
  ·
   rw [if_pos h1]
   exact ih k (i + 1) (by omega) h1 (by omega) (by omega)
  ·
   have hd0 : d = 0 := by
    rcases Nat.eq_zero_or_pos d with h | h
    ·
     exact h
    ·
     have hm := Good.mono hg (d - 1) (i + 1) (n - 1) (by omega) (by omega) (by omega)
     have hp := n3 (by omega)
     omega
   subst hd0
   obtain rfl : n = i + 1 := by omega
   have hp := n3 (by omega)
   rw [show i + 1 - 1 = i by omega] at hp
   unfold levelAt
   rw [show i + 1 - 1 = i by omega]
   obtain ⟨⟨v1, v2⟩, ⟨v3, v4⟩, v5⟩ := hg.1 (i + 1) (by omega) n1
   obtain ⟨⟨u1, u2⟩, ⟨u3, u4⟩, _⟩ := hg.1 i (by omega) (by omega)
   have b1 := prod_bd u3 u4 (b := (rd_T54 l (i + 1)).f0 - hour) (by omega) (by omega)
   have b2 := prod_bd v3 v4 (b := hour - (rd_T54 l i).f0) (by omega) (by omega)
   rw [if_neg h1, if_pos h0, if_pos (by omega), if_neg (by omega), if_neg (by omega)]
   rw [w64 (x := (rd_T54 l (i + 1)).f0 - hour) (by omega) (by omega), w64 (x := hour - (rd_T54 l i).f0) (by omega) (by omega), w64 (x := (rd_T54 l i).f1 * _) (by omega) (by omega), w64 (x := (rd_T54 l (i + 1)).f1 * _) (by omega) (by omega), w64 (by omega) (by omega), w64 (by omega) (by omega)]
   rw [red_impl (by omega) (by omega) (by omega) (by omega) (by omega)]
   rfl
theorem first_ex {l : List S54} {hour : Int} (h2 : hour ≤ (rd_T54 l ((l.length : Int) - 1)).f0) (d : Nat) : ∀ i : Int, 0 ≤ i → i + d + 1 = l.length → (0 < i → (rd_T54 l (i - 1)).f0 < hour) → ∃ n, First l hour n := by
 induction d with
 | zero =>
  intro i h0 hd h3
  refine ⟨i, h0, by omega, ?_, h3⟩
  rw [show i = (l.length : Int) - 1 by omega]
  exact h2
 | succ d ih =>
  intro i h0 hd h3
  by_cases h4 : hour ≤ (rd_T54 l i).f0
  ·
   exact ⟨i, h0, by omega, h4, h3⟩
  ·
   exact ih (i + 1) (by omega) (by omega) (fun _ => by rw [show i + 1 - 1 = i by omega]; omega)
theorem sump_eq (a b c : Int) : impl_isSump.f a b c = spec_l23Sump.f a b c := by
 unfold impl_isSump.f spec_l23Sump.f impl_isStation.f spec_l4Station.f
 simp only [within_eq, l1In_eq, level_eq, isLevel_eq, Option.bind_some, decide_eq_true_eq]
 by_cases h1 : 0 ≤ a ∧ a ≤ 7
 ·
  rw [if_pos h1, if_pos h1]
  by_cases h2 : -500 ≤ b ∧ b ≤ 500
  ·
   rw [if_pos h2, if_pos h2]
   by_cases h3 : -500 ≤ c ∧ c ≤ 500
   ·
    rw [if_pos h3]
    congr 1
    simp [h3.1]
   ·
    rw [if_neg h3]
    congr 1
    symm
    rw [decide_eq_false_iff_not]
    omega
  ·
   rw [if_neg h2, if_neg h2]
 ·
  rw [if_neg h1, if_neg h1]
def SumpOk (a b c : Int) : Prop := (0 ≤ a ∧ a ≤ 7) ∧ (-500 ≤ b ∧ b ≤ 500) ∧ (-500 ≤ c ∧ c ≤ b)
theorem sump_spec (a b c : Int) : ∃ r, spec_l23Sump.f a b c = some r ∧ (r = true ↔ SumpOk a b c) := by
 unfold spec_l23Sump.f spec_l4Station.f SumpOk
 simp only [l1In_eq, level_eq, Option.bind_some, decide_eq_true_eq]
 by_cases h1 : 0 ≤ a ∧ a ≤ 7
 ·
  rw [if_pos h1]
  by_cases h2 : -500 ≤ b ∧ b ≤ 500
  ·
   rw [if_pos h2]
   exact ⟨_, rfl, by simp [h1, h2]⟩
  ·
   rw [if_neg h2]
   exact ⟨_, rfl, by simp; intro _ _ h3 h4; exact absurd ⟨h3, h4⟩ h2⟩
 ·
  rw [if_neg h1]
  exact ⟨_, rfl, by simp; intro h3 h4; exact absurd ⟨h3, h4⟩ h1⟩
theorem within_spec {l : List S54} (hl : l.length ≤ 4611686018427387904) {k : Nat} (hk : l.length < k) (hour : Int) :
  ∃ b, spec_l23Within.f k l hour = some b ∧ (b = true ↔ Good l ∧ 0 < l.length ∧ (rd_T54 l 0).f0 ≤ hour ∧ hour ≤ (rd_T54 l ((l.length : Int) - 1)).f0) := by
 obtain ⟨b, hb, hi⟩ := good_spec l hl l.length k 0 (by omega) (by omega) hk
 unfold spec_l23Within.f spec_l23Good.f
 rw [hb]
 simp only [Option.bind_some, l1In_eq]
 cases b with
 | false =>
  refine ⟨false, by rw [if_neg (by decide)], ?_⟩
  simp only [Bool.false_eq_true, false_iff]
  intro h
  exact absurd (hi.2 h.1) (by decide)
 | true =>
  have hg : Good l := hi.1 rfl
  rw [if_pos rfl]
  by_cases h : (l.length : Int) > 0
  ·
   rw [if_pos h, if_pos h, w64 (by omega) (by omega), if_pos (by omega), if_pos (by omega)]
   refine ⟨_, rfl, ?_⟩
   rw [decide_eq_true_eq]
   exact ⟨fun h' => ⟨hg, by omega, h'.1, h'.2⟩, fun h' => ⟨h'.2.2.1, h'.2.2.2⟩⟩
  ·
   rw [if_neg h]
   refine ⟨false, rfl, ?_⟩
   simp only [Bool.false_eq_true, false_iff]
   intro h'
   omega
theorem open_fn {l : List S54} (hg : Good l) {hour : Int} (h0 : 0 < l.length) (h1 : (rd_T54 l 0).f0 ≤ hour) (h2 : hour ≤ (rd_T54 l ((l.length : Int) - 1)).f0) :
  ∃ F : Int → Int → Int → Bool, ∀ (k : Nat), 1020 < k → ∀ a b c, spec_l23Open.f k l a b c hour = some (F a b c) ∧ impl_Sump_open.f k a b c l hour = some (F a b c) := by
 obtain ⟨n, hn⟩ := first_ex h2 (l.length - 1) 0 (by omega) (by omega) (fun h => by omega)
 have hl := hg.2
 have hn0 := hn.1
 have hn1 := hn.2.1
 refine ⟨fun a b c => decide ((levelAt l hour n).1 ≤ wrap64 (c * (levelAt l hour n).2)), fun k hk a b c => ?_⟩
 have e1 := in_spec hg hn h1 n.toNat k 0 (by omega) (by omega) (by omega)
 have e2 := in_impl hg hn h1 n.toNat k 0 (by omega) h1 (by omega) (by omega)
 unfold spec_l23Open.f impl_Sump_open.f spec_l23In.f impl_levelIn.f
 rw [e1, e2]
 exact ⟨rfl, rfl⟩
end Go.Proofs.Ytojaeidabmfajaa.Pr.Pure

namespace Go.Proofs.Ytojaeidabmfajaa.Pr.Pure
open Go.RowKit Go.Proofs.YtojaeidabmfajaaW.PrintWords Go.Proofs.YtojaeidabmfajaaW.PrintLast Go.Proofs.YtojaeidabmfajaaW.PrintMore
set_option linter.unusedVariables false
theorem spansB_skip (p : Int → Bool) : ∀ (n : Nat) (x : Int) (acc : List (Int × Int)), (∀ y, x ≤ y → y < x + n → p y = false) → spansB p n x acc = acc := by
 intro n
 induction n with
 | zero => intro x acc _; rfl
 | succ n ih =>
  intro x acc h
  unfold spansB
  rw [if_neg (by rw [h x (Int.le_refl _) (by omega)]; decide)]
  exact ih (x + 1) acc (fun y h1 h2 => h y (by omega) (by omega))
theorem spansB_add (p : Int → Bool) : ∀ (n m : Nat) (x : Int) (acc : List (Int × Int)), spansB p (n + m) x acc = spansB p m (x + n) (spansB p n x acc) := by
 intro n
 induction n with
 | zero => intro m x acc; simp [spansB]
 | succ n ih =>
  intro m x acc
  rw [show n + 1 + m = (n + m) + 1 by omega]
  simp only [spansB]
  rw [ih]
  congr 1
  omega
theorem spansB_congr (p q : Int → Bool) : ∀ (n : Nat) (x : Int) (acc : List (Int × Int)), (∀ y, x ≤ y → y < x + n → p y = q y) → spansB p n x acc = spansB q n x acc := by
 intro n
 induction n with
 | zero => intro x acc _; rfl
 | succ n ih =>
  intro x acc h
  simp only [spansB]
  rw [h x (Int.le_refl _) (by omega)]
  exact ih (x + 1) _ (fun y h1 h2 => h y (by omega) (by omega))
theorem spansB_len (p : Int → Bool) : ∀ (n : Nat) (x : Int) (acc : List (Int × Int)), (spansB p n x acc).length ≤ acc.length + n := by
 intro n
 induction n with
 | zero => intro x acc; exact Nat.le_refl _
 | succ n ih =>
  intro x acc
  have h := ih (x + 1) (if p x = true then stepS acc x else acc)
  have h2 : (if p x = true then stepS acc x else acc).length ≤ acc.length + 1 := by
   split
   ·
    unfold stepS
    split
    ·
     split
     ·
      rw [List.length_append, List.length_dropLast, List.length_singleton]; omega
     ·
      simp
    ·
     simp
   ·
    omega
  simp only [spansB]
  omega
def Wi (l : List S54) (x : Int) : Prop := 0 < l.length ∧ (rd_T54 l 0).f0 ≤ x ∧ x ≤ (rd_T54 l ((l.length : Int) - 1)).f0
instance (l : List S54) (x : Int) : Decidable (Wi l x) := by unfold Wi; infer_instance
def Op (l : List S54) (x a b c : Int) : Bool := (impl_Sump_open.f 2000 a b c l x).getD false
theorem op_both {l : List S54} (hg : Good l) {x : Int} (hw : Wi l x) {k : Nat} (hk : 1020 < k) (a b c : Int) : spec_l23Open.f k l a b c x = some (Op l x a b c) ∧ impl_Sump_open.f k a b c l x = some (Op l x a b c) := by
 obtain ⟨F, hF⟩ := open_fn hg hw.1 hw.2.1 hw.2.2
 have e := (hF 2000 (by decide) a b c).2
 have e2 := hF k hk a b c
 have : Op l x a b c = F a b c := by
  unfold Op
  rw [e]
  rfl
 rw [this]
 exact e2
theorem wi_spec {l : List S54} (hg : Good l) {k : Nat} (hk : 1000 < k) (x : Int) : spec_l23Within.f k l x = some (decide (Wi l x)) := by
 have hl := hg.2
 obtain ⟨b, hb, hi⟩ := within_spec (l := l) (by omega) (k := k) (by omega) x
 rw [hb]
 congr 1
 rw [Bool.eq_iff_iff, hi, decide_eq_true_eq]
 exact ⟨fun h => h.2, fun h => ⟨hg, h⟩⟩
theorem spansB_wi {l : List S54} (hg : Good l) (h0 : 0 < l.length) (p : Int → Bool) (hp : ∀ x, p x = true → Wi l x) :
  spansB p 1000 0 [] = spansB p ((rd_T54 l ((l.length : Int) - 1)).f0 - (rd_T54 l 0).f0 + 1).toNat (rd_T54 l 0).f0 [] := by
 have a := (hg.1 0 (Int.le_refl 0) (by omega)).1
 have b := (hg.1 ((l.length : Int) - 1) (by omega) (by omega)).1
 have m := Good.mono hg (l.length - 1) 0 ((l.length : Int) - 1) (Int.le_refl 0) (by omega) (by omega)
 have hn : ∀ y, ¬ Wi l y → p y = false := fun y hy => by
  cases h : p y with
  | false => rfl
  | true => exact absurd (hp y h) hy
 obtain ⟨f, hf⟩ : ∃ f, (rd_T54 l 0).f0 = f := ⟨_, rfl⟩
 obtain ⟨L, hL⟩ : ∃ L, (rd_T54 l ((l.length : Int) - 1)).f0 = L := ⟨_, rfl⟩
 rw [hf] at a m ⊢
 rw [hL] at b m ⊢
 obtain ⟨n1, e1⟩ : ∃ n1 : Nat, f = n1 := ⟨f.toNat, by omega⟩
 obtain ⟨n2, e2⟩ : ∃ n2 : Nat, L - f + 1 = n2 := ⟨(L - f + 1).toNat, by omega⟩
 rw [show (1000 : Nat) = n1 + (n2 + (1000 - n1 - n2)) by omega, spansB_add, spansB_skip p n1 0 [] (fun y h1 h2 => hn y (fun hw => by have := hw.2.1; omega)), spansB_add]
 rw [show (0 : Int) + (n1 : Int) = f by omega, show (L - f + 1).toNat = n2 by omega]
 exact spansB_skip p _ _ _ (fun y h1 h2 => hn y (fun hw => by have := hw.2.2; omega))
theorem hours_eq {l : List S54} (h0 : 0 < l.length) (hl : l.length ≤ 1000) : impl_hours.f l = some ((rd_T54 l 0).f0, (rd_T54 l ((l.length : Int) - 1)).f0) := by
 unfold impl_hours.f
 have hw : wrap64 ((l.length : Int) - 1) = (l.length : Int) - 1 := w64 (by omega) (by omega)
 rw [hw, if_neg (by omega), if_pos (by omega), if_pos (by omega), if_pos (by omega)]
def rowsS (l : List (Int × Int)) : List (List Int) := l.map fun s => [s.1, s.2]
def OneOp (l : List S54) (a b c x : Int) : Bool := decide (Wi l x) && Op l x a b c
theorem rd_rows (Q : List (Int × Int)) (a b : Int) : rd_L9 (rowsS (Q ++ [(a, b)])) (Q.length : Int) = [a, b] := by
 unfold rowsS
 show (List.map _ (Q ++ [(a, b)])).getD (Q.length : Int).toNat [] = _
 rw [Int.toNat_natCast, List.getD_eq_getElem?_getD, List.getElem?_map, List.getElem?_append_right (Nat.le_refl _), Nat.sub_self]
 rfl
theorem rows_len (l : List (Int × Int)) : (rowsS l).length = l.length := List.length_map _
theorem set_rows (Q : List (Int × Int)) (a b x : Int) : (rowsS (Q ++ [(a, b)])).set Q.length [a, x] = rowsS (Q ++ [(a, x)]) := by
 unfold rowsS
 rw [List.map_append, List.map_append, show Q.length = (List.map (fun s : Int × Int => [s.1, s.2]) Q).length from (List.length_map _).symm, List.set_append_right _ _ (Nat.le_refl _), Nat.sub_self]
 rfl
theorem openS_l0 {l : List S54} (hg : Good l) (a b c : Int) (n : Nat) : ∀ (K : Nat) (x : Int) (acc : List (Int × Int)), x + n = 1000 → 0 ≤ x → acc.length + n ≤ 1000 → 2 * n + 1100 < K →
  spec_OpenSpans.l0 K l (rowsS acc) x a b c = some (rowsS (spansB (OneOp l a b c) n x acc), true) := by
 induction n with
 | zero =>
  intro K x acc hx h0 ha hK
  obtain ⟨K, rfl⟩ : ∃ m, K = m + 1 := ⟨K - 1, by omega⟩
  simp only [spec_OpenSpans.l0]
  rw [if_neg (by omega)]
  rfl
 | succ n ih =>
  intro K x acc hx h0 ha hK
  obtain ⟨K, rfl⟩ : ∃ m, K = m + 2 := ⟨K - 2, by omega⟩
  have hw1 : wrap64 (x + 1) = x + 1 := w64 (by omega) (by omega)
  have hw2 : wrap64 (x - 1) = x - 1 := w64 (by omega) (by omega)
  simp only [spec_OpenSpans.l0]
  rw [if_pos (show x ≤ 999 by omega), wi_spec hg (by omega), obs]
  unfold spansB
  have hno : OneOp l a b c x = false → spec_OpenSpans.j2 (K + 1) l (rowsS acc) x true a b c = some (rowsS (spansB (OneOp l a b c) n (x + 1) (if OneOp l a b c x = true then stepS acc x else acc)), true) := by
   intro h
   simp only [spec_OpenSpans.j2, if_true]
   rw [hw1, h, if_neg (by decide)]
   exact ih K (x + 1) acc (by omega) (by omega) (by omega) (by omega)
  by_cases hw : Wi l x
  ·
   rw [decide_eq_true hw, if_pos rfl, (op_both hg hw (by omega) a b c).1, obs]
   cases ho : Op l x a b c with
   | false => exact hno (by unfold OneOp; rw [ho, Bool.and_false])
   | true =>
    have h1 : OneOp l a b c x = true := by unfold OneOp; rw [decide_eq_true hw, ho]; rfl
    rw [h1, if_pos rfl]
    simp only [Bool.not_true, spec_OpenSpans.j2, Bool.false_eq_true, if_false, rows_len]
    rcases List.eq_nil_or_concat acc with rfl | ⟨Q, s, rfl⟩
    ·
     rw [stepS_new _ _ (fun s hs => by simp at hs)]
     rw [if_neg (by simp), if_pos (by simp), hw1]
     exact ih K (x + 1) [(x, x)] (by omega) (by omega) (by simp; omega) (by omega)
    ·
     rw [List.concat_eq_append] at ha ⊢
     obtain ⟨u, v⟩ := s
     have hQ : Q.length + 1 + (n + 1) ≤ 1000 := by rw [List.length_append, List.length_singleton] at ha; exact ha
     have hl : ((Q ++ [(u, v)]).length : Int) = (Q.length : Int) + 1 := by rw [List.length_append, List.length_singleton]; omega
     have hw3 : wrap64 ((Q.length : Int) + 1 - 1) = (Q.length : Int) := by rw [w64 (by omega) (by omega)]; omega
     rw [hl, hw3, rd_rows]
     rw [if_pos (by omega), if_pos (by omega), if_pos (by omega), if_pos (show (1 : Int) < (([u, v] : List Int).length : Int) from (by simp)), hw2]
     by_cases e : v = x - 1
     ·
      subst e
      rw [if_pos (show rd [u, x - 1] 1 = x - 1 from rfl), if_pos (show (0 : Int) < (([u, x - 1] : List Int).length : Int) from (by simp)), Int.toNat_natCast, show rd [u, x - 1] 0 = u from rfl, set_rows, hw1, stepS_ext]
      exact ih K (x + 1) (Q ++ [(u, x)]) (by omega) (by omega) (by rw [List.length_append, List.length_singleton]; omega) (by omega)
     ·
      rw [if_neg (show ¬ rd [u, v] 1 = x - 1 from e), if_pos (by rw [List.length_append, List.length_singleton]; omega), hw1, stepS_new _ _ (fun s hs => by rw [List.getLast?_concat] at hs; obtain rfl := Option.some.inj hs; exact e)]
      have := ih K (x + 1) ((Q ++ [(u, v)]) ++ [(x, x)]) (by omega) (by omega) (by rw [List.length_append, List.length_append, List.length_singleton, List.length_singleton]; omega) (by omega)
      rw [← this, show rowsS ((Q ++ [(u, v)]) ++ [(x, x)]) = rowsS (Q ++ [(u, v)]) ++ [[x, x]] from (by unfold rowsS; rw [List.map_append]; rfl)]
  ·
   rw [decide_eq_false hw, if_neg (by decide)]
   exact hno (by unfold OneOp; rw [decide_eq_false hw]; rfl)
theorem openSpans_both {l : List S54} (hl : l.length ≤ 4611686018427387904) {k : Nat} (hk : l.length + 4000 < k) (a b c : Int) :
  ∃ sp t, spec_OpenSpans.f k l a b c = some (rowsS sp, t) ∧ impl_OpenSpans.f k l a b c = some (rowsS sp, t) ∧ sp.length ≤ 1000 ∧ (Good l → SumpOk a b c → t = true ∧ sp = spansB (OneOp l a b c) 1000 0 []) := by
 obtain ⟨k, rfl⟩ : ∃ m, k = m + 1 := ⟨k - 1, by omega⟩
 obtain ⟨b1, h1, hi1⟩ := good_spec l hl l.length (k + 1) 0 (by omega) (by omega) (by omega)
 have h1' := (good_impl l (k + 1) 0).trans h1
 obtain ⟨b2, h2, hi2⟩ := sump_spec a b c
 unfold spec_OpenSpans.f impl_OpenSpans.f spec_l23Good.f impl_AreReadings.f
 rw [obs, h1, h1', obs, obs]
 cases b1 with
 | false =>
  rw [if_neg (by decide), if_neg (by decide)]
  simp only [spec_OpenSpans.j0, if_true]
  exact ⟨[], false, rfl, rfl, by simp, fun h => (by have := hi1.2 h; cases this)⟩
 | true =>
  have hg : Good l := hi1.1 rfl
  have hl := hg.2
  rw [if_pos rfl, if_pos rfl, sump_eq, h2, obs, obs]
  cases b2 with
  | false =>
   rw [if_neg (by decide)]
   simp only [Bool.not_false, spec_OpenSpans.j0, if_true]
   exact ⟨[], false, rfl, rfl, by simp, fun _ h => (by have := hi2.2 h; cases this)⟩
  | true =>
   rw [if_pos rfl]
   simp only [Bool.not_true, spec_OpenSpans.j0, Bool.false_eq_true, if_false]
   have e0 := openS_l0 hg a b c 1000 k 0 [] (by decide) (by decide) (by decide) (by omega)
   have hlen := spansB_len (OneOp l a b c) 1000 0 []
   refine ⟨spansB (OneOp l a b c) 1000 0 [], true, e0, ?_, by simpa using hlen, fun _ _ => ⟨rfl, rfl⟩⟩
   by_cases h0 : 0 < l.length
   ·
    have u := (hg.1 0 (Int.le_refl 0) (by omega)).1
    have v := (hg.1 ((l.length : Int) - 1) (by omega) (by omega)).1
    rw [hours_eq h0 (by omega), obs]
    simp only
    have hop : ∀ x, (rd_T54 l 0).f0 ≤ x → x ≤ (rd_T54 l ((l.length : Int) - 1)).f0 → impl_Sump_open.f (k + 1) a b c l x = some (OneOp l a b c x) := fun x x1 x2 => by
     have hw : Wi l x := ⟨h0, x1, x2⟩
     rw [(op_both hg hw (by omega) a b c).2]
     unfold OneOp
     rw [decide_eq_true hw, Bool.true_and]
    rw [if_pos ⟨u.1, by omega, List.all_eq_true.2 (fun i hi => by
     have := List.mem_range.1 hi
     rw [hop _ (by omega) (by omega)]
     rfl)⟩]
    rw [spansB_congr (fun x => (impl_Sump_open.f (k + 1) a b c l x).getD false) (OneOp l a b c) _ _ _ (fun y y1 y2 => by rw [hop y y1 (by omega)]; rfl)]
    rw [← spansB_wi hg h0 (OneOp l a b c) (fun x hx => by
     unfold OneOp at hx
     rw [Bool.and_eq_true] at hx
     exact of_decide_eq_true hx.1)]
    rfl
   ·
    have hz : l.length = 0 := by omega
    unfold impl_hours.f
    rw [if_pos (by omega), obs]
    simp only
    rw [if_pos ⟨by decide, by decide, by rfl⟩]
    rw [show spansB (fun x => (impl_Sump_open.f (k + 1) a b c l x).getD false) (-1 - 0 + 1 : Int).toNat 0 [] = [] from rfl]
    rw [spansB_skip (OneOp l a b c) 1000 0 [] (fun y _ _ => by
     unfold OneOp
     rw [decide_eq_false (fun hw => by have := hw.1; omega)]
     rfl)]
    rfl
end Go.Proofs.Ytojaeidabmfajaa.Pr.Pure

namespace Go.Proofs.Ytojaeidabmfajaa.Pr.Pure
open Go.RowKit Go.Proofs.YtojaeidabmfajaaW.PrintWords Go.Proofs.YtojaeidabmfajaaW.PrintLast Go.Proofs.YtojaeidabmfajaaW.PrintMore Go.Proofs.YtojaeidabmfajaaW.Opens
set_option linter.unusedVariables false
set_option linter.unusedSimpArgs false
theorem eqInts_l0 (l : List Int) (hl : l.length ≤ 100000) (d : Nat) : ∀ (k i : Nat), i + d = l.length → d < k → laws_eqIntS.l0 k l l i = some true := by
 induction d with
 | zero =>
  intro k i hd hk
  obtain ⟨k, rfl⟩ : ∃ m, k = m + 1 := ⟨k - 1, by omega⟩
  simp only [laws_eqIntS.l0]
  rw [if_neg (by omega)]
 | succ d ih =>
  intro k i hd hk
  obtain ⟨k, rfl⟩ : ∃ m, k = m + 1 := ⟨k - 1, by omega⟩
  simp only [laws_eqIntS.l0]
  rw [if_pos (by omega), if_pos (by omega), if_pos (by omega), if_pos trivial, w64 (by omega) (by omega)]
  exact ih k (i + 1) (by omega) (by omega)
theorem rows_rd (sp : List (Int × Int)) (i : Nat) (h : i < sp.length) : rd_L9 (rowsS sp) (i : Int) = [(sp.getD i (0, 0)).1, (sp.getD i (0, 0)).2] := by
 unfold rowsS
 show (List.map _ sp).getD (i : Int).toNat [] = _
 rw [Int.toNat_natCast, List.getD_eq_getElem?_getD, List.getElem?_map, List.getD_eq_getElem?_getD, List.getElem?_eq_getElem h]
 rfl
theorem eqRows_l0 (sp : List (Int × Int)) (hl : sp.length ≤ 1000) (d : Nat) : ∀ (k i : Nat), i + d = sp.length → d + 10 < k → laws_eqIntSS.l0 k (rowsS sp) (rowsS sp) i = some true := by
 induction d with
 | zero =>
  intro k i hd hk
  obtain ⟨k, rfl⟩ : ∃ m, k = m + 1 := ⟨k - 1, by omega⟩
  simp only [laws_eqIntSS.l0, rows_len]
  rw [if_neg (by omega)]
 | succ d ih =>
  intro k i hd hk
  obtain ⟨k, rfl⟩ : ∃ m, k = m + 1 := ⟨k - 1, by omega⟩
  simp only [laws_eqIntSS.l0, rows_len]
  have e : ∀ a b : Int, laws_eqIntS.f k [a, b] [a, b] = some true := fun a b => by
   unfold laws_eqIntS.f
   rw [if_pos rfl]
   exact eqInts_l0 [a, b] (by simp) 2 k 0 (by simp) (by omega)
  rw [if_pos (by omega), if_pos (by omega), if_pos (by omega), rows_rd sp i (by omega), e, obs, if_pos rfl, w64 (by omega) (by omega)]
  exact ih k (i + 1) (by omega) (by omega)
theorem eqRows {sp : List (Int × Int)} (hl : sp.length ≤ 1000) {k : Nat} (hk : sp.length + 10 < k) : laws_eqIntSS.f k (rowsS sp) (rowsS sp) = some true := by
 unfold laws_eqIntSS.f
 rw [if_pos rfl]
 exact eqRows_l0 sp hl sp.length k 0 (by omega) hk
theorem held2 (m : Int) (h0 : 0 ≤ m) (h1 : m ≤ 1000000) {k : Nat} (hk : 4 < k) : laws_heldIntS.f k [m, m + 1] m = some (m + 2) := by
 obtain ⟨k, rfl⟩ : ∃ n, k = n + 3 := ⟨k - 3, by omega⟩
 have r0 : rd [m, m + 1] 0 = m := rfl
 have r1 : rd [m, m + 1] 1 = m + 1 := rfl
 have w1 : wrap64 (m + 1) = m + 1 := w64 (by omega) (by omega)
 have w2 : wrap64 (m + 1 + 1) = m + 1 + 1 := w64 (by omega) (by omega)
 have w3 : wrap64 (0 + 1) = 1 := w64 (by omega) (by omega)
 have w4 : wrap64 (1 + 1) = 2 := w64 (by omega) (by omega)
 unfold laws_heldIntS.f
 simp only [laws_heldIntS.l0, List.length_cons, List.length_nil, w1, w2, w3, w4, r0, r1]
 simp
 omega
theorem markT_rd (m : Int) : ∀ (g : List (List Int)) (m : Int) (i : Nat), i < g.length → (markT_ m g)[i]? = some [m + 2 * (i : Int), m + 2 * (i : Int) + 1]
 | [], _, _, h => absurd h (Nat.not_lt_zero _)
 | _ :: t, m, 0, _ => by
  unfold markT_
  show some [m, m + 1] = some [m + 2 * ((0 : Nat) : Int), m + 2 * ((0 : Nat) : Int) + 1]
  rw [show m + 2 * ((0 : Nat) : Int) = m by omega]
 | _ :: t, m, i + 1, h => by
  unfold markT_
  rw [List.getElem?_cons_succ, markT_rd m t (m + 2) i (by rw [List.length_cons] at h; omega), show m + 2 + 2 * (i : Int) = m + 2 * ((i + 1 : Nat) : Int) by omega]
theorem heldRows_l0 (g : List (List Int)) (hl : g.length ≤ 1000) (d : Nat) : ∀ (k i : Nat), i + d = g.length → d + 10 < k → laws_heldIntSS.l0 k (markT_ 1 g) (1 + 2 * (i : Int)) i = some (1 + 2 * (g.length : Int)) := by
 induction d with
 | zero =>
  intro k i hd hk
  obtain ⟨k, rfl⟩ : ∃ m, k = m + 1 := ⟨k - 1, by omega⟩
  simp only [laws_heldIntSS.l0, markT_len]
  rw [if_neg (by omega), show i = g.length by omega]
 | succ d ih =>
  intro k i hd hk
  obtain ⟨k, rfl⟩ : ∃ m, k = m + 1 := ⟨k - 1, by omega⟩
  have hr : rd_L9 (markT_ 1 g) (i : Int) = [1 + 2 * (i : Int), 1 + 2 * (i : Int) + 1] := by
   show (markT_ 1 g).getD (i : Int).toNat [] = _
   rw [Int.toNat_natCast, List.getD_eq_getElem?_getD, markT_rd 1 g 1 i (by omega)]
   rfl
  simp only [laws_heldIntSS.l0, markT_len]
  rw [if_pos (by omega), if_pos (by omega), hr, held2 _ (by omega) (by omega) (by omega), obs, if_neg (by omega), w64 (x := (i : Int) + 1) (by omega) (by omega), show 1 + 2 * (i : Int) + 2 = 1 + 2 * ((i + 1 : Nat) : Int) by omega]
  exact ih k (i + 1) (by omega) (by omega)
theorem heldRows {g : List (List Int)} (hl : g.length ≤ 1000) {k : Nat} (hk : g.length + 10 < k) : laws_heldIntSS.f k (markT_ 1 g) 1 = some (1 + 2 * (g.length : Int)) :=
 heldRows_l0 g hl g.length k 0 (by omega) hk
theorem FnExactOpenSpans : FnExactOpenSpans.Pure := by
 intro l x hl hx
 obtain ⟨a, b, c⟩ := x
 show ∃ k, laws_FnExactOpenSpans.f k l a b c = some true
 obtain ⟨_, hlb, _⟩ := hl
 have hlm : (l.map cvReading).length = l.length := List.length_map _
 obtain ⟨K, hK⟩ : ∃ K, K = l.length + 6000 := ⟨_, rfl⟩
 obtain ⟨sp, t, e1, e2, e3, _⟩ := openSpans_both (l := l.map cvReading) (by omega) (k := K) (by omega) a b c
 obtain ⟨m, ms, m1, m2, _⟩ := markReadingS_eq (l := l.map cvReading) (by omega) (k := K) (by omega) (a := 1) (by omega) (by omega)
 have h0 : (rowsS sp).length = sp.length := rows_len sp
 refine ⟨K, ?_⟩
 unfold laws_FnExactOpenSpans.f laws_szReadingS.f
 by_cases hs1 : wrap64 (1048576 - (l.length : Int)) < 0
 ·
  rw [if_pos hs1, obs, if_pos (by decide)]
 ·
  rw [if_neg hs1, obs, if_neg hs1, toReadingS_eq hlb (by omega), obs, e1, obs, e2, obs]
  simp only
  rw [eqRows e3 (by omega), obs, eqReadingS_eq (by omega) (by omega), obs, m1, obs, heldRows (by omega) (by omega), obs]
  rw [if_pos (by first | exact ⟨rfl, rfl, rfl, m2, rfl, by omega⟩ | exact ⟨trivial, trivial, trivial, m2, trivial, by omega⟩ | (refine ⟨?_, ?_, ?_, m2, ?_, by omega⟩ <;> first | trivial | rfl))]
end Go.Proofs.Ytojaeidabmfajaa.Pr.Pure

