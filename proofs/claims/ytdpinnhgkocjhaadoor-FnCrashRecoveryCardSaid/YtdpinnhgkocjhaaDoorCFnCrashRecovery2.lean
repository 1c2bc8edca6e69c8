/-
What is proved: parts of the law FnCrashRecovery: what the functions that it reaches compute, and the plain law.
Conditions: those of each theorem.
-/
import Derived.Test.YtdpinnhgkocjhaaDoorCFnCrashRecovery1
namespace Go.Proofs.YtdpinnhgkocjhaaDoor.Pr
open Go.RowKit Go.Proofs.YtdpinnhgkocjhaaDoorW.PrintWords Go.Proofs.YtdpinnhgkocjhaaDoorW.PrintLast Go.Proofs.YtdpinnhgkocjhaaDoorW.PrintMore
attribute [local go_sem] max2_int min2_int max_two min_two max_three min_three max_four min_four sc_in sx_in   -- for this text's walks alone
set_option linter.unusedVariables false
set_option linter.unusedSimpArgs false
def spec_l27Read.j0 : Nat → ByteArray → Int → ByteArray → ByteArray → Bool → Option (ByteArray × ByteArray × Bool)
 | 0, _, _, _, _, _ => none
 | k + 1, x0, x1, x6, x7, x30 => if x30 = true then (some ((⟨#[]⟩ : ByteArray), (⟨#[]⟩ : ByteArray), false)) else (if 0 ≤ (x6.size : Int) then (if (x6.size : Int) ≤ (x7.size : Int) then ((spec_l1Split.f k (sx x7 ((x6.size)) (x7.size)) 64).bind fun t185 => (if 0 < (t185.length : Int) then (if ((rdOf ByteArray.empty t185 0).size : Int) = ((sx x7 ((x6.size)) (x7.size)).size : Int) then (some ((⟨#[]⟩ : ByteArray), (⟨#[]⟩ : ByteArray), false)) else (if 0 ≤ (wrap64 (((rdOf ByteArray.empty t185 0).size : Int) + 1)) then (if (wrap64 (((rdOf ByteArray.empty t185 0).size : Int) + 1)) ≤ ((sx x7 ((x6.size)) (x7.size)).size : Int) then ((spec_l27Good.f k (rdOf ByteArray.empty t185 0) (sx (sx x7 ((x6.size)) (x7.size)) (((wrap64 (((rdOf ByteArray.empty t185 0).size : Int) + 1)) : Int).toNat) ((sx x7 ((x6.size)) (x7.size)).size))).bind fun t190 => (if t190 = true then ((spec_l27Line.f k x1 (rdOf ByteArray.empty t185 0) (sx (sx x7 ((x6.size)) (x7.size)) (((wrap64 (((rdOf ByteArray.empty t185 0).size : Int) + 1)) : Int).toNat) ((sx x7 ((x6.size)) (x7.size)).size))).bind fun t191 => (if x0.size + 1 ≤ 9223372036854775807 then (some (rdOf ByteArray.empty t185 0, sx (sx x7 ((x6.size)) (x7.size)) (((wrap64 (((rdOf ByteArray.empty t185 0).size : Int) + 1)) : Int).toNat) ((sx x7 ((x6.size)) (x7.size)).size), (t191.toList == (sc x0 (⟨#[10]⟩ : ByteArray)).toList))) else (none))) else (some (rdOf ByteArray.empty t185 0, sx (sx x7 ((x6.size)) (x7.size)) (((wrap64 (((rdOf ByteArray.empty t185 0).size : Int) + 1)) : Int).toNat) ((sx x7 ((x6.size)) (x7.size)).size), false)))) else (none)) else (none))) else (none))) else (none)) else (none))
def spec_l27Read.f (k : Nat) (a0 : ByteArray) (a1 : Int) : Option (ByteArray × ByteArray × Bool) := (spec_l1Num.f k a1).bind fun t180 => (if t180.size + 1 ≤ 9223372036854775807 then ((spec_l1Split.f k a0 35).bind fun t181 => (if 0 < (t181.length : Int) then (if ((rdOf ByteArray.empty t181 0).size : Int) < ((sc t180 (⟨#[32]⟩ : ByteArray)).size : Int) then (spec_l27Read.j0 k a0 a1 (sc t180 (⟨#[32]⟩ : ByteArray)) (rdOf ByteArray.empty t181 0) true) else (if 0 ≤ ((sc t180 (⟨#[32]⟩ : ByteArray)).size : Int) then (if ((sc t180 (⟨#[32]⟩ : ByteArray)).size : Int) ≤ ((rdOf ByteArray.empty t181 0).size : Int) then (spec_l27Read.j0 k a0 a1 (sc t180 (⟨#[32]⟩ : ByteArray)) (rdOf ByteArray.empty t181 0) ((sx (rdOf ByteArray.empty t181 0) (0) (((sc t180 (⟨#[32]⟩ : ByteArray)).size))).toList != (sc t180 (⟨#[32]⟩ : ByteArray)).toList)) else (none)) else (none))) else (none))) else (none))
def spec_l27Read.T10 : Bool × List (List Nat × List Nat) := (true, [([], []), ([], []), ([1], [1]), ([2, 2], [2]), ([3], [3]), ([3], [3]), ([4, 5, 3, 3], [3, 4, 5]), ([3], [3]), ([7, 3], [3, 7]), ([6, 8, 3], [3, 6, 8]), ([3, 9], [3, 9]), ([0, 6, 0], [0]), ([10, 11, 0, 1, 2, 3, 4, 5, 6, 7, 8, 9, 10, 11], [10])])
def spec_l27Read.B10 : List Nat := [0, 0, 2, 6, 14, 14, 62, 14, 142, 510, 1022, 127, 4095]
theorem spec_l27Read.tab10 : rtab .any (opsOf Tryd.f69 10) = spec_l27Read.T10 := by kernel_rfl
theorem spec_l27Read.bits10 : waitsOk spec_l27Read.T10.2 spec_l27Read.B10 = true := by kernel_rfl
abbrev spec_l27Read.mk0 : Array Bool := #[false, false, false, false, false, false, false, false, false, false, false, false, false]
abbrev spec_l27Read.mk1 : Array Bool := #[true, false, false, false, false, false, false, false, false, false, false, false, false]
abbrev spec_l27Read.mk2 : Array Bool := #[true, true, false, false, false, false, false, false, false, false, false, false, false]
abbrev spec_l27Read.mk3 : Array Bool := #[true, true, true, false, false, false, false, false, false, false, false, false, false]
abbrev spec_l27Read.mk4 : Array Bool := #[true, true, true, true, false, false, false, false, false, false, false, false, false]
abbrev spec_l27Read.mk5 : Array Bool := #[true, true, true, true, true, false, false, false, false, false, false, false, false]
abbrev spec_l27Read.mk6 : Array Bool := #[true, true, true, true, true, false, false, true, false, false, false, false, false]
abbrev spec_l27Read.mk7 : Array Bool := #[true, true, true, true, true, false, false, true, true, false, false, false, false]
abbrev spec_l27Read.mk8 : Array Bool := #[true, true, true, true, true, true, false, true, true, false, false, false, false]
abbrev spec_l27Read.mk9 : Array Bool := #[true, true, true, true, true, true, true, true, true, false, false, false, false]
abbrev spec_l27Read.mk10 : Array Bool := #[true, true, true, true, true, true, true, true, true, true, false, false, false]
abbrev spec_l27Read.mk11 : Array Bool := #[true, true, true, true, true, true, true, true, true, true, true, false, false]
abbrev spec_l27Read.mk12 : Array Bool := #[true, true, true, true, true, true, true, true, true, true, true, true, false]
abbrev spec_l27Read.mk13 : Array Bool := #[true, true, true, true, true, true, true, true, true, true, true, true, true]
abbrev spec_l27Read.mk14 : Array Bool := #[true, true, true, true, true, true, false, false, false, false, false, false, false]
abbrev spec_l27Read.mk15 : Array Bool := #[true, true, true, true, true, true, true, false, false, false, false, false, false]
abbrev spec_l27Read.mk16 : Array Bool := #[true, true, true, true, true, true, true, true, false, false, false, false, false]
set_option maxHeartbeats 8000000 in
set_option maxRecDepth 100000 in
theorem spec_l27Read.calls (k : Nat) (a0 : ByteArray) (a1 : Int) (r1 : ByteArray) (r2 : ByteArray) (r3 : Bool) (w : World) (h : spec_l27Read.f k a0 a1 = some (r1, r2, r3)) :
  Calls Tryd.prog 69 #[.string a0, .int .i64 a1] w fun e w' => e = .returned (.tuple #[.agg #[.string r1, .string r2], .bool r3]) ∧ Below w.heap.size w w' := by
 have hu27 := Tryd.underlying27
 have HB := Aside0.mk (Below.refl w.heap.size w)
 have H : ((spec_l1Num.f k a1).bind fun t180 => (if t180.size + 1 ≤ 9223372036854775807 then ((spec_l1Split.f k a0 35).bind fun t181 => (if 0 < (t181.length : Int) then (if ((rdOf ByteArray.empty t181 0).size : Int) < ((sc t180 (⟨#[32]⟩ : ByteArray)).size : Int) then (spec_l27Read.j0 k a0 a1 (sc t180 (⟨#[32]⟩ : ByteArray)) (rdOf ByteArray.empty t181 0) true) else (if 0 ≤ ((sc t180 (⟨#[32]⟩ : ByteArray)).size : Int) then (if ((sc t180 (⟨#[32]⟩ : ByteArray)).size : Int) ≤ ((rdOf ByteArray.empty t181 0).size : Int) then (spec_l27Read.j0 k a0 a1 (sc t180 (⟨#[32]⟩ : ByteArray)) (rdOf ByteArray.empty t181 0) ((sx (rdOf ByteArray.empty t181 0) (0) (((sc t180 (⟨#[32]⟩ : ByteArray)).size))).toList != (sc t180 (⟨#[32]⟩ : ByteArray)).toList)) else (none)) else (none))) else (none))) else (none))) = some (r1, r2, r3) := h
 clear h
 replace H := Option.bind_eq_some_iff.mp H
 obtain ⟨t180, A30, H⟩ := H
 replace H : (if t180.size + 1 ≤ 9223372036854775807 then ((spec_l1Split.f k a0 35).bind fun t181 => (if 0 < (t181.length : Int) then (if ((rdOf ByteArray.empty t181 0).size : Int) < ((sc t180 (⟨#[32]⟩ : ByteArray)).size : Int) then (spec_l27Read.j0 k a0 a1 (sc t180 (⟨#[32]⟩ : ByteArray)) (rdOf ByteArray.empty t181 0) true) else (if 0 ≤ ((sc t180 (⟨#[32]⟩ : ByteArray)).size : Int) then (if ((sc t180 (⟨#[32]⟩ : ByteArray)).size : Int) ≤ ((rdOf ByteArray.empty t181 0).size : Int) then (spec_l27Read.j0 k a0 a1 (sc t180 (⟨#[32]⟩ : ByteArray)) (rdOf ByteArray.empty t181 0) ((sx (rdOf ByteArray.empty t181 0) (0) (((sc t180 (⟨#[32]⟩ : ByteArray)).size))).toList != (sc t180 (⟨#[32]⟩ : ByteArray)).toList)) else (none)) else (none))) else (none))) else (none)) = some (r1, r2, r3) := H
 have A3 := Aside0.mk A30
 clear A30
 by_cases c4 : t180.size + 1 ≤ 9223372036854775807
 ·
  rw [if_pos c4] at H
  have c4b0 := eq_true c4
  have c4b1 : decide (t180.size + 1 ≤ 9223372036854775807) = true := decide_eq_true c4
  try have c4b2 : (9223372036854775807 < t180.size + 1) = False := eq_false (Nat.not_lt.2 c4)
  replace H := Option.bind_eq_some_iff.mp H
  obtain ⟨t181, A50, H⟩ := H
  replace H : (if 0 < (t181.length : Int) then (if ((rdOf ByteArray.empty t181 0).size : Int) < ((sc t180 (⟨#[32]⟩ : ByteArray)).size : Int) then (spec_l27Read.j0 k a0 a1 (sc t180 (⟨#[32]⟩ : ByteArray)) (rdOf ByteArray.empty t181 0) true) else (if 0 ≤ ((sc t180 (⟨#[32]⟩ : ByteArray)).size : Int) then (if ((sc t180 (⟨#[32]⟩ : ByteArray)).size : Int) ≤ ((rdOf ByteArray.empty t181 0).size : Int) then (spec_l27Read.j0 k a0 a1 (sc t180 (⟨#[32]⟩ : ByteArray)) (rdOf ByteArray.empty t181 0) ((sx (rdOf ByteArray.empty t181 0) (0) (((sc t180 (⟨#[32]⟩ : ByteArray)).size))).toList != (sc t180 (⟨#[32]⟩ : ByteArray)).toList)) else (none)) else (none))) else (none)) = some (r1, r2, r3) := H
  have A5 := Aside0.mk A50
  clear A50
  by_cases c6 : 0 < (t181.length : Int)
  ·
   rw [if_pos c6] at H
   have c6b0 : decide (0 < (t181.length : Int)) = true := decide_eq_true c6
   have c6b1 : decide (0 < t181.length) = true := decide_eq_true (by omega)
   clear c6
   have HC7 := Aside0.mk H
   clear H
   go_enter Tryd.func69, Tryd.ntmps69
   go_upto_region 3 with (first | ((with_reducible refine gate_dst (N := 4) rfl ?_); (try (refine gate_guard (by rfl) ?_; dsimp only)); refine box_event ?hg (N := 4) ?hd (cs := #[.string (⟨#[]⟩ : ByteArray), .string (⟨#[]⟩ : ByteArray)]) (t := 27) ?hr ?_; (case hd => rfl); (case hg => rfl); (case hr => first | (go_simp; done) | (go_simp; rfl)); intro gb179 hg w8 hbox hb; have BK179 := Aside0.mk (hbox); have GW179 := Aside0.mk ((bz_ hg (lb0_ HB.out))); have GE179 := Aside0.mk ((bz_ hg (lb0_ HB.out))); replace HB := Aside0.mk (below_step (lb0_ HB.out) hb); clear hb hbox hg) | ((with_reducible refine gate_callee (f := 65) rfl ?_); refine ga_ (some 12) Tryd.func65 #[.int .i64 a1] ?_; (with_reducible refine (spec_l1Num.calls k a1 t180 _ A3.out).mono ?_); rintro e w9 ⟨rfl, hb⟩; refine ⟨_, rfl, ?_⟩; replace BK179 := Aside0.mk (bb_ (bk_ BK179.out) hb); replace HB := Aside0.mk (below_step (lb1_ HB.out GE179.out) hb); (try clear hb); (try clear hb2); (try clear hk); (try clear hi)) | ((with_reducible refine gate_callee (f := 68) rfl ?_); refine ga_ (some 15) Tryd.func68 #[.string a0, .int .u8 35] ?_; (with_reducible refine (spec_l1Split.calls k a0 35 t181 _ A5.out).mono ?_); rintro e w10 ⟨v182, rfl, ho0, hb⟩; refine ⟨_, rfl, ?_⟩; have HO183 := Aside0.mk (Kd.R_lower ho0 (below_size (lb1_ HB.out GE179.out))); replace BK179 := Aside0.mk (bb_ (bk_ BK179.out) hb); replace HB := Aside0.mk (below_step (lb1_ HB.out GE179.out) hb); (try clear hb); (try clear hb2); (try clear hk); (try clear hi); (try clear ho0); obtain ⟨Ao11, co11, eo11⟩ := Kd.R_slice HO183.out; subst eo11; have p184 : 0 ≤ (0 : Int) := (by omega); have q184 : 0 < (t181.length : Int) := dt_; obtain ⟨ad184, e184, hx184_0⟩ := Kd.at_string (Kd.R_reads' HO183.out).2.2 0 p184 q184; cases e184; have qi184 : (0 < t181.length) = True := eq_true (by omega); (try rw [show ((0 : Int)).toNat = 0 from rfl] at hx184_0); (try rw [Addr.add_zero'] at hx184_0); replace p184 := eq_true p184; replace q184 := eq_true q184))
   (try simp only [Act.put, List.setIfInBounds_toArray, List.set_cons_zero, List.set_cons_succ])
   go_cut [30] (fun v30 wc => ∃ (kq : Nat) (x30_6 : Bool), v30 = .bool x30_6 ∧ Aside0 (spec_l27Read.j0 kq a0 a1 (sc t180 (⟨#[32]⟩ : ByteArray)) (rdOf ByteArray.empty t181 0) x30_6 = some (r1, r2, r3)) ∧ Aside0 (kq ≤ k) ∧ Aside0 (wc.heap[gb179]? = some (.cells #[.string (⟨#[]⟩ : ByteArray), .string (⟨#[]⟩ : ByteArray)] 27 (0, 0))) ∧ Aside0 (Below w.heap.size w wc))
   case first =>
    have H := HC7.out
    clear HC7
    by_cases c12 : ((rdOf ByteArray.empty t181 0).size : Int) < ((sc t180 (⟨#[32]⟩ : ByteArray)).size : Int)
    ·
     rw [if_pos c12] at H
     have c12b0 : decide (((rdOf ByteArray.empty t181 0).size : Int) < ((sc t180 (⟨#[32]⟩ : ByteArray)).size : Int)) = true := decide_eq_true c12
     have c12b1 : decide ((rdOf ByteArray.empty t181 0).size < (sc t180 (⟨#[32]⟩ : ByteArray)).size) = true := decide_eq_true (Int.ofNat_lt.mp c12)
     clear c12
     (first | rw [c12b0] | (simp only [i64_w, i32_w]; rw [c12b0]) | skip)
     have H' := Aside0.mk H
     clear H
     go_wp2
     go_meet
     case rel => exact ⟨_, (true), (by first | rfl | (simp; done) | (simp [*]; done)), H', ⟨by first | omega | exact Nat.le_refl _⟩, ⟨bk_ BK179.out⟩, ⟨lb1_ HB.out GE179.out⟩⟩
    ·
     rw [if_neg c12] at H
     have c12b0 : decide (((rdOf ByteArray.empty t181 0).size : Int) < ((sc t180 (⟨#[32]⟩ : ByteArray)).size : Int)) = false := decide_eq_false c12
     have c12b1 : decide ((rdOf ByteArray.empty t181 0).size < (sc t180 (⟨#[32]⟩ : ByteArray)).size) = false := decide_eq_false (fun h => c12 (Int.ofNat_lt.mpr h))
     clear c12
     (first | rw [c12b0] | (simp only [i64_w, i32_w]; rw [c12b0]) | skip)
     by_cases c13 : 0 ≤ ((sc t180 (⟨#[32]⟩ : ByteArray)).size : Int)
     ·
      rw [if_pos c13] at H
      have c13b0 := eq_true c13
      have c13b1 : decide (0 ≤ ((sc t180 (⟨#[32]⟩ : ByteArray)).size : Int)) = true := decide_eq_true c13
      clear c13
      by_cases c14 : ((sc t180 (⟨#[32]⟩ : ByteArray)).size : Int) ≤ ((rdOf ByteArray.empty t181 0).size : Int)
      ·
       rw [if_pos c14] at H
       have c14b0 := eq_true c14
       have c14b1 : decide (((sc t180 (⟨#[32]⟩ : ByteArray)).size : Int) ≤ ((rdOf ByteArray.empty t181 0).size : Int)) = true := decide_eq_true c14
       clear c14
       have H' := Aside0.mk H
       clear H
       go_wp2
       go_meet
       case rel => exact ⟨_, (((sx (rdOf ByteArray.empty t181 0) (0) (((sc t180 (⟨#[32]⟩ : ByteArray)).size))).toList != (sc t180 (⟨#[32]⟩ : ByteArray)).toList)), (by first | rfl | (simp; done) | (simp [*]; done)), H', ⟨by first | omega | exact Nat.le_refl _⟩, ⟨bk_ BK179.out⟩, ⟨lb1_ HB.out GE179.out⟩⟩
      ·
       rw [if_neg c14] at H
       exact absurd H (by simp)
     ·
      rw [if_neg c13] at H
      exact absurd H (by simp)
   case rest =>
    clear HC7
    try clear c1
    try clear p1
    try clear q1
    try clear hx1
    try clear qi1
    try clear p2
    try clear c4
    try clear c4b0
    try clear c4b1
    try clear c4b2
    try clear c6
    try clear c6b0
    try clear c6b1
    try clear c12
    try clear c12b0
    try clear c12b1
    try clear c13
    try clear c13b0
    try clear c13b1
    try clear c14
    try clear c14b0
    try clear c14b1
    try clear hx184_0
    try clear p184
    try clear q184
    obtain ⟨kq, x30_6, rfl, HA, HJ6, BK179, HB⟩ := hcut
    cases kq with
    | zero => exact absurd HA.out (by simp [spec_l27Read.j0])
    | succ kj6 =>
     have H := HA.out
     clear HA
     simp only [spec_l27Read.j0] at H
     by_cases c15 : x30_6 = true
     ·
      subst c15
      have H1 : (some ((⟨#[]⟩ : ByteArray), (⟨#[]⟩ : ByteArray), false)) = some (r1, r2, r3) := by rw [if_pos rfl] at H; exact H
      clear H
      have H := H1
      clear H1
      simp only [Option.some.injEq, Prod.mk.injEq] at H
      obtain ⟨rfl, rfl, rfl⟩ := H
      obtain ⟨hcz16_0, hcz16_1⟩ := cz2_ BK179.out
      obtain ⟨hfz16_0, hfz16_1⟩ := fz2_ BK179.out
      go_wp2
      refine bodyPost_ret (results_ct rfl _ _ gb179 27 #[.string (⟨#[]⟩ : ByteArray), .string (⟨#[]⟩ : ByteArray)] (0, 0) _ rfl (by (with_reducible repeat (first | refine blk_drewN ?_ _ | refine blk_drew ?_ | refine blk_alloc ?_ _)); refine blk_put (cs := #[.string (⟨#[]⟩ : ByteArray), .string (⟨#[]⟩ : ByteArray)]) ?_ 1 _ rfl; (with_reducible repeat (first | refine blk_drewN ?_ _ | refine blk_drew ?_ | refine blk_alloc ?_ _)); refine blk_put (cs := #[.string (⟨#[]⟩ : ByteArray), .string (⟨#[]⟩ : ByteArray)]) ?_ 0 _ rfl; (with_reducible repeat (first | refine blk_drewN ?_ _ | refine blk_drew ?_ | refine blk_alloc ?_ _)); exact BK179.out) Tryd.underlying27 rfl (by kernel_rfl)) rfl ?_
      exact ⟨by first | rfl | (simp [errW_none, errW_some] <;> rfl) | (simp [*, errW_none, errW_some] <;> rfl) | (have hw_ : ∀ n : Nat, (n + 1 ≤ 9223372036854775807) → wrap64 ((n : Int) + 1) = (n : Int) + 1 := fun n hn => by unfold wrap64; omega); (rw [hw_ _ (by first | assumption | omega)]); rfl, lb1_ HB.out GE179.out⟩
     ·
      replace c15 := Bool.eq_false_iff.mpr c15
      subst c15
      have H1 : (if 0 ≤ ((sc t180 (⟨#[32]⟩ : ByteArray)).size : Int) then (if ((sc t180 (⟨#[32]⟩ : ByteArray)).size : Int) ≤ ((rdOf ByteArray.empty t181 0).size : Int) then ((spec_l1Split.f kj6 (sx (rdOf ByteArray.empty t181 0) (((sc t180 (⟨#[32]⟩ : ByteArray)).size)) ((rdOf ByteArray.empty t181 0).size)) 64).bind fun t185 => (if 0 < (t185.length : Int) then (if ((rdOf ByteArray.empty t185 0).size : Int) = ((sx (rdOf ByteArray.empty t181 0) (((sc t180 (⟨#[32]⟩ : ByteArray)).size)) ((rdOf ByteArray.empty t181 0).size)).size : Int) then (some ((⟨#[]⟩ : ByteArray), (⟨#[]⟩ : ByteArray), false)) else (if 0 ≤ (wrap64 (((rdOf ByteArray.empty t185 0).size : Int) + 1)) then (if (wrap64 (((rdOf ByteArray.empty t185 0).size : Int) + 1)) ≤ ((sx (rdOf ByteArray.empty t181 0) (((sc t180 (⟨#[32]⟩ : ByteArray)).size)) ((rdOf ByteArray.empty t181 0).size)).size : Int) then ((spec_l27Good.f kj6 (rdOf ByteArray.empty t185 0) (sx (sx (rdOf ByteArray.empty t181 0) (((sc t180 (⟨#[32]⟩ : ByteArray)).size)) ((rdOf ByteArray.empty t181 0).size)) (((wrap64 (((rdOf ByteArray.empty t185 0).size : Int) + 1)) : Int).toNat) ((sx (rdOf ByteArray.empty t181 0) (((sc t180 (⟨#[32]⟩ : ByteArray)).size)) ((rdOf ByteArray.empty t181 0).size)).size))).bind fun t190 => (if t190 = true then ((spec_l27Line.f kj6 a1 (rdOf ByteArray.empty t185 0) (sx (sx (rdOf ByteArray.empty t181 0) (((sc t180 (⟨#[32]⟩ : ByteArray)).size)) ((rdOf ByteArray.empty t181 0).size)) (((wrap64 (((rdOf ByteArray.empty t185 0).size : Int) + 1)) : Int).toNat) ((sx (rdOf ByteArray.empty t181 0) (((sc t180 (⟨#[32]⟩ : ByteArray)).size)) ((rdOf ByteArray.empty t181 0).size)).size))).bind fun t191 => (if a0.size + 1 ≤ 9223372036854775807 then (some (rdOf ByteArray.empty t185 0, sx (sx (rdOf ByteArray.empty t181 0) (((sc t180 (⟨#[32]⟩ : ByteArray)).size)) ((rdOf ByteArray.empty t181 0).size)) (((wrap64 (((rdOf ByteArray.empty t185 0).size : Int) + 1)) : Int).toNat) ((sx (rdOf ByteArray.empty t181 0) (((sc t180 (⟨#[32]⟩ : ByteArray)).size)) ((rdOf ByteArray.empty t181 0).size)).size), (t191.toList == (sc a0 (⟨#[10]⟩ : ByteArray)).toList))) else (none))) else (some (rdOf ByteArray.empty t185 0, sx (sx (rdOf ByteArray.empty t181 0) (((sc t180 (⟨#[32]⟩ : ByteArray)).size)) ((rdOf ByteArray.empty t181 0).size)) (((wrap64 (((rdOf ByteArray.empty t185 0).size : Int) + 1)) : Int).toNat) ((sx (rdOf ByteArray.empty t181 0) (((sc t180 (⟨#[32]⟩ : ByteArray)).size)) ((rdOf ByteArray.empty t181 0).size)).size), false)))) else (none)) else (none))) else (none))) else (none)) else (none)) = some (r1, r2, r3) := by rw [if_neg (show ¬ (false = true) by decide)] at H; exact H
      clear H
      have H := H1
      clear H1
      by_cases c17 : 0 ≤ ((sc t180 (⟨#[32]⟩ : ByteArray)).size : Int)
      ·
       rw [if_pos c17] at H
       have c17b0 := eq_true c17
       have c17b1 : decide (0 ≤ ((sc t180 (⟨#[32]⟩ : ByteArray)).size : Int)) = true := decide_eq_true c17
       clear c17
       by_cases c18 : ((sc t180 (⟨#[32]⟩ : ByteArray)).size : Int) ≤ ((rdOf ByteArray.empty t181 0).size : Int)
       ·
        rw [if_pos c18] at H
        have c18b0 := eq_true c18; have c18b1 : decide (((sc t180 (⟨#[32]⟩ : ByteArray)).size : Int) ≤ ((rdOf ByteArray.empty t181 0).size : Int)) = true := decide_eq_true c18; clear c18; replace H := Option.bind_eq_some_iff.mp H; obtain ⟨t185, A190, H⟩ := H; replace H : (if 0 < (t185.length : Int) then (if ((rdOf ByteArray.empty t185 0).size : Int) = ((sx (rdOf ByteArray.empty t181 0) (((sc t180 (⟨#[32]⟩ : ByteArray)).size)) ((rdOf ByteArray.empty t181 0).size)).size : Int) then (some ((⟨#[]⟩ : ByteArray), (⟨#[]⟩ : ByteArray), false)) else (if 0 ≤ (wrap64 (((rdOf ByteArray.empty t185 0).size : Int) + 1)) then (if (wrap64 (((rdOf ByteArray.empty t185 0).size : Int) + 1)) ≤ ((sx (rdOf ByteArray.empty t181 0) (((sc t180 (⟨#[32]⟩ : ByteArray)).size)) ((rdOf ByteArray.empty t181 0).size)).size : Int) then ((spec_l27Good.f kj6 (rdOf ByteArray.empty t185 0) (sx (sx (rdOf ByteArray.empty t181 0) (((sc t180 (⟨#[32]⟩ : ByteArray)).size)) ((rdOf ByteArray.empty t181 0).size)) (((wrap64 (((rdOf ByteArray.empty t185 0).size : Int) + 1)) : Int).toNat) ((sx (rdOf ByteArray.empty t181 0) (((sc t180 (⟨#[32]⟩ : ByteArray)).size)) ((rdOf ByteArray.empty t181 0).size)).size))).bind fun t190 => (if t190 = true then ((spec_l27Line.f kj6 a1 (rdOf ByteArray.empty t185 0) (sx (sx (rdOf ByteArray.empty t181 0) (((sc t180 (⟨#[32]⟩ : ByteArray)).size)) ((rdOf ByteArray.empty t181 0).size)) (((wrap64 (((rdOf ByteArray.empty t185 0).size : Int) + 1)) : Int).toNat) ((sx (rdOf ByteArray.empty t181 0) (((sc t180 (⟨#[32]⟩ : ByteArray)).size)) ((rdOf ByteArray.empty t181 0).size)).size))).bind fun t191 => (if a0.size + 1 ≤ 9223372036854775807 then (some (rdOf ByteArray.empty t185 0, sx (sx (rdOf ByteArray.empty t181 0) (((sc t180 (⟨#[32]⟩ : ByteArray)).size)) ((rdOf ByteArray.empty t181 0).size)) (((wrap64 (((rdOf ByteArray.empty t185 0).size : Int) + 1)) : Int).toNat) ((sx (rdOf ByteArray.empty t181 0) (((sc t180 (⟨#[32]⟩ : ByteArray)).size)) ((rdOf ByteArray.empty t181 0).size)).size), (t191.toList == (sc a0 (⟨#[10]⟩ : ByteArray)).toList))) else (none))) else (some (rdOf ByteArray.empty t185 0, sx (sx (rdOf ByteArray.empty t181 0) (((sc t180 (⟨#[32]⟩ : ByteArray)).size)) ((rdOf ByteArray.empty t181 0).size)) (((wrap64 (((rdOf ByteArray.empty t185 0).size : Int) + 1)) : Int).toNat) ((sx (rdOf ByteArray.empty t181 0) (((sc t180 (⟨#[32]⟩ : ByteArray)).size)) ((rdOf ByteArray.empty t181 0).size)).size), false)))) else (none)) else (none))) else (none)) = some (r1, r2, r3) := H; have A19 := Aside0.mk A190; clear A190
        by_cases c20 : 0 < (t185.length : Int)
        ·
         rw [if_pos c20] at H
         have c20b0 : decide (0 < (t185.length : Int)) = true := decide_eq_true c20; have c20b1 : decide (0 < t185.length) = true := decide_eq_true (by omega); clear c20
         by_cases c21 : ((rdOf ByteArray.empty t185 0).size : Int) = ((sx (rdOf ByteArray.empty t181 0) (((sc t180 (⟨#[32]⟩ : ByteArray)).size)) ((rdOf ByteArray.empty t181 0).size)).size : Int)
         ·
          rw [if_pos c21] at H
          have c21b0 : (((rdOf ByteArray.empty t185 0).size : Int) == ((sx (rdOf ByteArray.empty t181 0) (((sc t180 (⟨#[32]⟩ : ByteArray)).size)) ((rdOf ByteArray.empty t181 0).size)).size : Int)) = true := beq_iff_eq.mpr c21; have c21b1 : (((rdOf ByteArray.empty t185 0).size : Int) != ((sx (rdOf ByteArray.empty t181 0) (((sc t180 (⟨#[32]⟩ : ByteArray)).size)) ((rdOf ByteArray.empty t181 0).size)).size : Int)) = false := bne_eq_false_iff_eq.mpr c21
          have c21b2 : ((rdOf ByteArray.empty t185 0).size == (sx (rdOf ByteArray.empty t181 0) (((sc t180 (⟨#[32]⟩ : ByteArray)).size)) ((rdOf ByteArray.empty t181 0).size)).size) = true := by first | simpa using c21 | (simp at c21 ⊢; omega)
          clear c21; simp only [Option.some.injEq, Prod.mk.injEq] at H; obtain ⟨rfl, rfl, rfl⟩ := H
          go_wp2_with (first | ((with_reducible refine gate_callee (f := 68) rfl ?_); refine ga_ (some 37) Tryd.func68 #[.string (sx (rdOf ByteArray.empty t181 0) (((sc t180 (⟨#[32]⟩ : ByteArray)).size)) ((rdOf ByteArray.empty t181 0).size)), .int .u8 64] ?_; (with_reducible refine (spec_l1Split.calls kj6 (sx (rdOf ByteArray.empty t181 0) (((sc t180 (⟨#[32]⟩ : ByteArray)).size)) ((rdOf ByteArray.empty t181 0).size)) 64 t185 _ A19.out).mono ?_); rintro e w22 ⟨v186, rfl, ho0, hb⟩; refine ⟨_, rfl, ?_⟩; have HO187 := Aside0.mk (Kd.R_lower ho0 (below_size (lb1_ HB.out GE179.out))); replace BK179 := Aside0.mk (bb_ (bk_ BK179.out) hb); replace HB := Aside0.mk (below_step (lb1_ HB.out GE179.out) hb); (try clear hb); (try clear hb2); (try clear hk); (try clear hi); (try clear ho0); obtain ⟨Ao23, co23, eo23⟩ := Kd.R_slice HO187.out; subst eo23; have p188 : 0 ≤ (0 : Int) := (by omega); have q188 : 0 < (t185.length : Int) := dt_; obtain ⟨ad188, e188, hx188_0⟩ := Kd.at_string (Kd.R_reads' HO187.out).2.2 0 p188 q188; cases e188; have qi188 : (0 < t185.length) = True := eq_true (by omega); (try rw [show ((0 : Int)).toNat = 0 from rfl] at hx188_0); (try rw [Addr.add_zero'] at hx188_0); replace p188 := eq_true p188; replace q188 := eq_true q188; obtain ⟨hcz24_0, hcz24_1⟩ := cz2_ BK179.out; obtain ⟨hfz24_0, hfz24_1⟩ := fz2_ BK179.out))
          refine bodyPost_ret (results_ct rfl _ _ gb179 27 #[.string (⟨#[]⟩ : ByteArray), .string (⟨#[]⟩ : ByteArray)] (0, 0) _ rfl (by (with_reducible repeat (first | refine blk_drewN ?_ _ | refine blk_drew ?_ | refine blk_alloc ?_ _)); refine blk_put (cs := #[.string (⟨#[]⟩ : ByteArray), .string (⟨#[]⟩ : ByteArray)]) ?_ 1 _ rfl; (with_reducible repeat (first | refine blk_drewN ?_ _ | refine blk_drew ?_ | refine blk_alloc ?_ _)); refine blk_put (cs := #[.string (⟨#[]⟩ : ByteArray), .string (⟨#[]⟩ : ByteArray)]) ?_ 0 _ rfl; (with_reducible repeat (first | refine blk_drewN ?_ _ | refine blk_drew ?_ | refine blk_alloc ?_ _)); exact BK179.out) Tryd.underlying27 rfl (by kernel_rfl)) rfl ?_; exact ⟨by first | rfl | (simp [errW_none, errW_some] <;> rfl) | (simp [*, errW_none, errW_some] <;> rfl) | (have hw_ : ∀ n : Nat, (n + 1 ≤ 9223372036854775807) → wrap64 ((n : Int) + 1) = (n : Int) + 1 := fun n hn => by unfold wrap64; omega); (rw [hw_ _ (by first | assumption | omega)]); rfl, lb1_ HB.out GE179.out⟩
         ·
          rw [if_neg c21] at H
          have c21b0 : (((rdOf ByteArray.empty t185 0).size : Int) == ((sx (rdOf ByteArray.empty t181 0) (((sc t180 (⟨#[32]⟩ : ByteArray)).size)) ((rdOf ByteArray.empty t181 0).size)).size : Int)) = false := beq_eq_false_iff_ne.mpr c21; have c21b1 : (((rdOf ByteArray.empty t185 0).size : Int) != ((sx (rdOf ByteArray.empty t181 0) (((sc t180 (⟨#[32]⟩ : ByteArray)).size)) ((rdOf ByteArray.empty t181 0).size)).size : Int)) = true := bne_iff_ne.mpr c21
          have c21b2 : ((rdOf ByteArray.empty t185 0).size == (sx (rdOf ByteArray.empty t181 0) (((sc t180 (⟨#[32]⟩ : ByteArray)).size)) ((rdOf ByteArray.empty t181 0).size)).size) = false := by first | simpa using c21 | (simp at c21 ⊢; omega)
          obtain ⟨ji25, hji25⟩ : ∃ j_ : Int, (wrap64 (((rdOf ByteArray.empty t185 0).size : Int) + 1)) = j_ := ⟨_, rfl⟩
          replace H : (if 0 ≤ (ji25) then (if (ji25) ≤ ((sx (rdOf ByteArray.empty t181 0) (((sc t180 (⟨#[32]⟩ : ByteArray)).size)) ((rdOf ByteArray.empty t181 0).size)).size : Int) then ((spec_l27Good.f kj6 (rdOf ByteArray.empty t185 0) (sx (sx (rdOf ByteArray.empty t181 0) (((sc t180 (⟨#[32]⟩ : ByteArray)).size)) ((rdOf ByteArray.empty t181 0).size)) (((ji25) : Int).toNat) ((sx (rdOf ByteArray.empty t181 0) (((sc t180 (⟨#[32]⟩ : ByteArray)).size)) ((rdOf ByteArray.empty t181 0).size)).size))).bind fun t190 => (if t190 = true then ((spec_l27Line.f kj6 a1 (rdOf ByteArray.empty t185 0) (sx (sx (rdOf ByteArray.empty t181 0) (((sc t180 (⟨#[32]⟩ : ByteArray)).size)) ((rdOf ByteArray.empty t181 0).size)) (((ji25) : Int).toNat) ((sx (rdOf ByteArray.empty t181 0) (((sc t180 (⟨#[32]⟩ : ByteArray)).size)) ((rdOf ByteArray.empty t181 0).size)).size))).bind fun t191 => (if a0.size + 1 ≤ 9223372036854775807 then (some (rdOf ByteArray.empty t185 0, sx (sx (rdOf ByteArray.empty t181 0) (((sc t180 (⟨#[32]⟩ : ByteArray)).size)) ((rdOf ByteArray.empty t181 0).size)) (((ji25) : Int).toNat) ((sx (rdOf ByteArray.empty t181 0) (((sc t180 (⟨#[32]⟩ : ByteArray)).size)) ((rdOf ByteArray.empty t181 0).size)).size), (t191.toList == (sc a0 (⟨#[10]⟩ : ByteArray)).toList))) else (none))) else (some (rdOf ByteArray.empty t185 0, sx (sx (rdOf ByteArray.empty t181 0) (((sc t180 (⟨#[32]⟩ : ByteArray)).size)) ((rdOf ByteArray.empty t181 0).size)) (((ji25) : Int).toNat) ((sx (rdOf ByteArray.empty t181 0) (((sc t180 (⟨#[32]⟩ : ByteArray)).size)) ((rdOf ByteArray.empty t181 0).size)).size), false)))) else (none)) else (none)) = some (r1, r2, r3) := by first | (rw [hji25] at H; exact H) | (simp only [hji25] at H ⊢; exact H)
          (try rw [hji25] at A19); have hji25w : (IntKind.i64.wrap (((rdOf ByteArray.empty t185 0).size : Int) + 1)) = ji25 := (i64_w _).trans hji25
          by_cases c26 : 0 ≤ (ji25)
          ·
           rw [if_pos c26] at H
           have c26b0 := eq_true c26; have c26b1 : decide (0 ≤ (ji25)) = true := decide_eq_true c26; clear c26
           by_cases c27 : (ji25) ≤ ((sx (rdOf ByteArray.empty t181 0) (((sc t180 (⟨#[32]⟩ : ByteArray)).size)) ((rdOf ByteArray.empty t181 0).size)).size : Int)
           ·
            rw [if_pos c27] at H
            have c27b0 := eq_true c27; have c27b1 : decide ((ji25) ≤ ((sx (rdOf ByteArray.empty t181 0) (((sc t180 (⟨#[32]⟩ : ByteArray)).size)) ((rdOf ByteArray.empty t181 0).size)).size : Int)) = true := decide_eq_true c27; clear c27; replace H := Option.bind_eq_some_iff.mp H; obtain ⟨t190, A280, H⟩ := H; replace H : (if t190 = true then ((spec_l27Line.f kj6 a1 (rdOf ByteArray.empty t185 0) (sx (sx (rdOf ByteArray.empty t181 0) (((sc t180 (⟨#[32]⟩ : ByteArray)).size)) ((rdOf ByteArray.empty t181 0).size)) (((ji25) : Int).toNat) ((sx (rdOf ByteArray.empty t181 0) (((sc t180 (⟨#[32]⟩ : ByteArray)).size)) ((rdOf ByteArray.empty t181 0).size)).size))).bind fun t191 => (if a0.size + 1 ≤ 9223372036854775807 then (some (rdOf ByteArray.empty t185 0, sx (sx (rdOf ByteArray.empty t181 0) (((sc t180 (⟨#[32]⟩ : ByteArray)).size)) ((rdOf ByteArray.empty t181 0).size)) (((ji25) : Int).toNat) ((sx (rdOf ByteArray.empty t181 0) (((sc t180 (⟨#[32]⟩ : ByteArray)).size)) ((rdOf ByteArray.empty t181 0).size)).size), (t191.toList == (sc a0 (⟨#[10]⟩ : ByteArray)).toList))) else (none))) else (some (rdOf ByteArray.empty t185 0, sx (sx (rdOf ByteArray.empty t181 0) (((sc t180 (⟨#[32]⟩ : ByteArray)).size)) ((rdOf ByteArray.empty t181 0).size)) (((ji25) : Int).toNat) ((sx (rdOf ByteArray.empty t181 0) (((sc t180 (⟨#[32]⟩ : ByteArray)).size)) ((rdOf ByteArray.empty t181 0).size)).size), false))) = some (r1, r2, r3) := H; have A28 := Aside0.mk A280; clear A280
            by_cases c29 : t190 = true
            ·
             subst c29
             have H1 : ((spec_l27Line.f kj6 a1 (rdOf ByteArray.empty t185 0) (sx (sx (rdOf ByteArray.empty t181 0) (((sc t180 (⟨#[32]⟩ : ByteArray)).size)) ((rdOf ByteArray.empty t181 0).size)) (((ji25) : Int).toNat) ((sx (rdOf ByteArray.empty t181 0) (((sc t180 (⟨#[32]⟩ : ByteArray)).size)) ((rdOf ByteArray.empty t181 0).size)).size))).bind fun t191 => (if a0.size + 1 ≤ 9223372036854775807 then (some (rdOf ByteArray.empty t185 0, sx (sx (rdOf ByteArray.empty t181 0) (((sc t180 (⟨#[32]⟩ : ByteArray)).size)) ((rdOf ByteArray.empty t181 0).size)) (((ji25) : Int).toNat) ((sx (rdOf ByteArray.empty t181 0) (((sc t180 (⟨#[32]⟩ : ByteArray)).size)) ((rdOf ByteArray.empty t181 0).size)).size), (t191.toList == (sc a0 (⟨#[10]⟩ : ByteArray)).toList))) else (none))) = some (r1, r2, r3) := by rw [if_pos rfl] at H; exact H
             clear H; have H := H1; clear H1; replace H := Option.bind_eq_some_iff.mp H; obtain ⟨t191, A300, H⟩ := H; replace H : (if a0.size + 1 ≤ 9223372036854775807 then (some (rdOf ByteArray.empty t185 0, sx (sx (rdOf ByteArray.empty t181 0) (((sc t180 (⟨#[32]⟩ : ByteArray)).size)) ((rdOf ByteArray.empty t181 0).size)) (((ji25) : Int).toNat) ((sx (rdOf ByteArray.empty t181 0) (((sc t180 (⟨#[32]⟩ : ByteArray)).size)) ((rdOf ByteArray.empty t181 0).size)).size), (t191.toList == (sc a0 (⟨#[10]⟩ : ByteArray)).toList))) else (none)) = some (r1, r2, r3) := H; have A30 := Aside0.mk A300; clear A300
             by_cases c31 : a0.size + 1 ≤ 9223372036854775807
             ·
              rw [if_pos c31] at H
              have c31b0 := eq_true c31; have c31b1 : decide (a0.size + 1 ≤ 9223372036854775807) = true := decide_eq_true c31
              try have c31b2 : (9223372036854775807 < a0.size + 1) = False := eq_false (Nat.not_lt.2 c31)
              simp only [Option.some.injEq, Prod.mk.injEq] at H; obtain ⟨rfl, rfl, rfl⟩ := H
              try go_wp2_with (first | ((with_reducible refine gate_callee (f := 68) rfl ?_); refine ga_ (some 37) Tryd.func68 #[.string (sx (rdOf ByteArray.empty t181 0) (((sc t180 (⟨#[32]⟩ : ByteArray)).size)) ((rdOf ByteArray.empty t181 0).size)), .int .u8 64] ?_; (with_reducible refine (spec_l1Split.calls kj6 (sx (rdOf ByteArray.empty t181 0) (((sc t180 (⟨#[32]⟩ : ByteArray)).size)) ((rdOf ByteArray.empty t181 0).size)) 64 t185 _ A19.out).mono ?_); rintro e w32 ⟨v186, rfl, ho0, hb⟩; refine ⟨_, rfl, ?_⟩; have HO187 := Aside0.mk (Kd.R_lower ho0 (below_size (lb1_ HB.out GE179.out))); replace BK179 := Aside0.mk (bb_ (bk_ BK179.out) hb); replace HB := Aside0.mk (below_step (lb1_ HB.out GE179.out) hb); (try clear hb); (try clear hb2); (try clear hk); (try clear hi); (try clear ho0); obtain ⟨Ao33, co33, eo33⟩ := Kd.R_slice HO187.out; subst eo33; have p188 : 0 ≤ (0 : Int) := (by omega); have q188 : 0 < (t185.length : Int) := dt_; obtain ⟨ad188, e188, hx188_0⟩ := Kd.at_string (Kd.R_reads' HO187.out).2.2 0 p188 q188; cases e188; have qi188 : (0 < t185.length) = True := eq_true (by omega); (try rw [show ((0 : Int)).toNat = 0 from rfl] at hx188_0); (try rw [Addr.add_zero'] at hx188_0); replace p188 := eq_true p188; replace q188 := eq_true q188) | ((with_reducible refine gate_dst (N := 10) rfl ?_); (try (refine gate_guard (by rfl) ?_; dsimp only)); refine box_event ?hg (N := 10) ?hd (cs := #[.string (⟨#[]⟩ : ByteArray), .string (⟨#[]⟩ : ByteArray)]) (t := 27) ?hr ?_; (case hd => rfl); (case hg => rfl); (case hr => first | (go_simp; done) | (go_simp; rfl)); intro gb189 hg w34 hbox hb; replace HO187 := Aside0.mk (Kd.R_below (kr_ HO187.out) hb); have BK189 := Aside0.mk (hbox); have GW189 := Aside0.mk ((bz_ hg (lb1_ HB.out GE179.out))); have GE189 := Aside0.mk ((bz_ hg (lb1_ HB.out GE179.out))); replace HB := Aside0.mk (below_step (lb1_ HB.out GE179.out) hb); have NB179_189 := Aside0.mk ((by rw [hg]; exact Nat.ne_of_lt (blk_lt (g := gb179) (o := .cells #[.string (⟨#[]⟩ : ByteArray), .string (⟨#[]⟩ : ByteArray)] 27 (0, 0)) (bk_ BK179.out)) : gb179 ≠ gb189)); have NB189_179 := Aside0.mk ((by rw [hg]; exact Nat.ne_of_gt (blk_lt (g := gb179) (o := .cells #[.string (⟨#[]⟩ : ByteArray), .string (⟨#[]⟩ : ByteArray)] 27 (0, 0)) (bk_ BK179.out)) : gb189 ≠ gb179)); replace BK179 := Aside0.mk (bb_ (bk_ BK179.out) hb); clear hb hbox hg; have hnb35 := NB189_179.out; have hnc35 := NB179_189.out; obtain ⟨hcz36_0, hcz36_1⟩ := cz2_ BK189.out; obtain ⟨hfz36_0, hfz36_1⟩ := fz2_ BK189.out))
              have n0_ : Aside0 (Kd.R Kd.string 9 ((w34.setCell ⟨gb189, 0, none⟩ (.string (rdOf ByteArray.empty t185 0))).setCell ⟨gb189, 1, none⟩ (.string (sx (sx (rdOf ByteArray.empty t181 0) (((sc t180 (⟨#[32]⟩ : ByteArray)).size)) ((rdOf ByteArray.empty t181 0).size)) (((ji25) : Int).toNat) ((sx (rdOf ByteArray.empty t181 0) (((sc t180 (⟨#[32]⟩ : ByteArray)).size)) ((rdOf ByteArray.empty t181 0).size)).size)))) w.heap.size (fun _ => True) (.slice (some ad188) t185.length co33) t185) := ⟨by (with_reducible repeat (first | apply Kd.R_alloc | apply Kd.R_drewN | apply Kd.R_drew)); exact Kd.R_mono (Kd.R_far (p := ⟨gb189, 1, none⟩) (Kd.R_far (p := ⟨gb189, 0, none⟩) (Kd.R_types HO187.out BK189.out (by decide)) (fun _ hk => hk.2) (.string (rdOf ByteArray.empty t185 0))) (fun _ hk => hk.2) (.string (sx (sx (rdOf ByteArray.empty t181 0) (((sc t180 (⟨#[32]⟩ : ByteArray)).size)) ((rdOf ByteArray.empty t181 0).size)) (((ji25) : Int).toNat) ((sx (rdOf ByteArray.empty t181 0) (((sc t180 (⟨#[32]⟩ : ByteArray)).size)) ((rdOf ByteArray.empty t181 0).size)).size)))) (fun _ hk => trivial)⟩
              have n1_ : Aside0 (((w34.setCell ⟨gb189, 0, none⟩ (.string (rdOf ByteArray.empty t185 0))).setCell ⟨gb189, 1, none⟩ (.string (sx (sx (rdOf ByteArray.empty t181 0) (((sc t180 (⟨#[32]⟩ : ByteArray)).size)) ((rdOf ByteArray.empty t181 0).size)) (((ji25) : Int).toNat) ((sx (rdOf ByteArray.empty t181 0) (((sc t180 (⟨#[32]⟩ : ByteArray)).size)) ((rdOf ByteArray.empty t181 0).size)).size)))).heap[gb179]? = some (.cells #[.string (⟨#[]⟩ : ByteArray), .string (⟨#[]⟩ : ByteArray)] 27 (0, 0))) := ⟨by (with_reducible repeat (first | refine blk_drewN ?_ _ | refine blk_drew ?_ | refine blk_alloc ?_ _)); refine blk_far ?_ NB179_189.out _; (with_reducible repeat (first | refine blk_drewN ?_ _ | refine blk_drew ?_ | refine blk_alloc ?_ _)); refine blk_far ?_ NB179_189.out _; (with_reducible repeat (first | refine blk_drewN ?_ _ | refine blk_drew ?_ | refine blk_alloc ?_ _)); exact BK179.out⟩
              have n2_ : Aside0 (((w34.setCell ⟨gb189, 0, none⟩ (.string (rdOf ByteArray.empty t185 0))).setCell ⟨gb189, 1, none⟩ (.string (sx (sx (rdOf ByteArray.empty t181 0) (((sc t180 (⟨#[32]⟩ : ByteArray)).size)) ((rdOf ByteArray.empty t181 0).size)) (((ji25) : Int).toNat) ((sx (rdOf ByteArray.empty t181 0) (((sc t180 (⟨#[32]⟩ : ByteArray)).size)) ((rdOf ByteArray.empty t181 0).size)).size)))).heap[gb189]? = some (.cells #[.string (rdOf ByteArray.empty t185 0), .string (sx (sx (rdOf ByteArray.empty t181 0) (((sc t180 (⟨#[32]⟩ : ByteArray)).size)) ((rdOf ByteArray.empty t181 0).size)) (((ji25) : Int).toNat) ((sx (rdOf ByteArray.empty t181 0) (((sc t180 (⟨#[32]⟩ : ByteArray)).size)) ((rdOf ByteArray.empty t181 0).size)).size))] 27 (0, 0))) := ⟨by (with_reducible repeat (first | refine blk_drewN ?_ _ | refine blk_drew ?_ | refine blk_alloc ?_ _)); refine blk_put (cs := #[.string (rdOf ByteArray.empty t185 0), .string (⟨#[]⟩ : ByteArray)]) ?_ 1 _ rfl; (with_reducible repeat (first | refine blk_drewN ?_ _ | refine blk_drew ?_ | refine blk_alloc ?_ _)); refine blk_put (cs := #[.string (⟨#[]⟩ : ByteArray), .string (⟨#[]⟩ : ByteArray)]) ?_ 0 _ rfl; (with_reducible repeat (first | refine blk_drewN ?_ _ | refine blk_drew ?_ | refine blk_alloc ?_ _)); exact BK189.out⟩
              have n3_ : Aside0 (Below w.heap.size w ((w34.setCell ⟨gb189, 0, none⟩ (.string (rdOf ByteArray.empty t185 0))).setCell ⟨gb189, 1, none⟩ (.string (sx (sx (rdOf ByteArray.empty t181 0) (((sc t180 (⟨#[32]⟩ : ByteArray)).size)) ((rdOf ByteArray.empty t181 0).size)) (((ji25) : Int).toNat) ((sx (rdOf ByteArray.empty t181 0) (((sc t180 (⟨#[32]⟩ : ByteArray)).size)) ((rdOf ByteArray.empty t181 0).size)).size))))) := ⟨lb2_ HB.out GE179.out GE189.out⟩
              (try clear HO187); (try clear BK179); (try clear BK189); (try clear HB); generalize ((w34.setCell ⟨gb189, 0, none⟩ (.string (rdOf ByteArray.empty t185 0))).setCell ⟨gb189, 1, none⟩ (.string (sx (sx (rdOf ByteArray.empty t181 0) (((sc t180 (⟨#[32]⟩ : ByteArray)).size)) ((rdOf ByteArray.empty t181 0).size)) (((ji25) : Int).toNat) ((sx (rdOf ByteArray.empty t181 0) (((sc t180 (⟨#[32]⟩ : ByteArray)).size)) ((rdOf ByteArray.empty t181 0).size)).size)))) = w37 at n0_ n1_ n2_ n3_ ⊢; have HO187 := n0_; have BK179 := n1_; have BK189 := n2_; have HB := n3_; clear n0_ n1_ n2_ n3_; replace HO187 := Aside0.mk (Kd.R_drew HO187.out); replace BK179 := Aside0.mk (blk_drew BK179.out); replace BK189 := Aside0.mk (blk_drew BK189.out); replace HB := Aside0.mk (below_drew1 HB.out); refine start_ (n := 13) (S := fun w' => w'.cell? ⟨gb189, 0, none⟩ = some (.string (rdOf ByteArray.empty t185 0)) ∧ w'.cell? ⟨gb189, 1, none⟩ = some (.string (sx (sx (rdOf ByteArray.empty t181 0) (((sc t180 (⟨#[32]⟩ : ByteArray)).size)) ((rdOf ByteArray.empty t181 0).size)) (((ji25) : Int).toNat) ((sx (rdOf ByteArray.empty t181 0) (((sc t180 (⟨#[32]⟩ : ByteArray)).size)) ((rdOf ByteArray.empty t181 0).size)).size)))) (ds := []) spec_l27Read.mk0 (by kernel_rfl) rfl rfl ⟨(blk_cell BK189.out 0).trans rfl, (blk_cell BK189.out 1).trans rfl⟩ (fun hHeld => ?_); refine with_tabW spec_l27Read.tab10 spec_l27Read.bits10 (fun HT_ HW_ => ?_); generalize w37.drew = w38 at HO187 BK179 BK189 HB hHeld ⊢; refine take_ (i := 0) (N := some 53) (v := ?_) (a' := ?_) spec_l27Read.mk1 rfl rfl (take_ofW HT_.out HW_.out (by kernel_rfl)) (fun _ _ _ h => h) (Or.inl ⟨by rfl, ?_⟩) hHeld ?_ ?_; rotate_left
              ·
               rintro w' ⟨s0, s1⟩; go_simp; (with_reducible rfl)
              rotate_left
              ·
               simp only [Act.put, List.setIfInBounds_toArray, List.set_cons_zero, List.set_cons_succ, i64_w, i32_w]; rfl
              refine take_ (i := 1) (N := some 54) (v := ?_) (a' := ?_) spec_l27Read.mk2 rfl rfl (take_ofW HT_.out HW_.out (by kernel_rfl)) (fun _ _ _ h => h) (Or.inl ⟨by rfl, ?_⟩) hHeld ?_ ?_; rotate_left
              ·
               rintro w' ⟨s0, s1⟩; go_simp; (with_reducible rfl)
              rotate_left
              ·
               simp only [Act.put, List.setIfInBounds_toArray, List.set_cons_zero, List.set_cons_succ, i64_w, i32_w]; rfl
              refine one_ (i := 2) (N := some 55) spec_l27Read.mk3 rfl rfl (one_of HT_.out (by kernel_rfl)) (by decide) (fun K hK => ?_); refine goes_ Tryd.func43 (by kernel_rfl) rfl #[.agg #[.string (rdOf ByteArray.empty t185 0), .string (sx (sx (rdOf ByteArray.empty t181 0) (((sc t180 (⟨#[32]⟩ : ByteArray)).size)) ((rdOf ByteArray.empty t181 0).size)) (((ji25) : Int).toNat) ((sx (rdOf ByteArray.empty t181 0) (((sc t180 (⟨#[32]⟩ : ByteArray)).size)) ((rdOf ByteArray.empty t181 0).size)).size))]] (by rfl) rfl rfl (by (try simp only [List.map_toArray, List.map_cons, List.map_nil]); first | done | (simp only [hji25]; rfl) | rfl | (simp only [List.length_drop, List.length_take]; rfl)) ?_; (with_reducible refine (spec_l27Good.calls kj6 (rdOf ByteArray.empty t185 0) (sx (sx (rdOf ByteArray.empty t181 0) (((sc t180 (⟨#[32]⟩ : ByteArray)).size)) ((rdOf ByteArray.empty t181 0).size)) (((ji25) : Int).toNat) ((sx (rdOf ByteArray.empty t181 0) (((sc t180 (⟨#[32]⟩ : ByteArray)).size)) ((rdOf ByteArray.empty t181 0).size)).size)) true _ A28.out).mono ?_); rintro e w39 ⟨rfl, hb⟩; refine ⟨_, rfl, ?_⟩; replace HO187 := Aside0.mk (Kd.R_below (kr_ HO187.out) hb); replace BK179 := Aside0.mk (bb_ (bk_ BK179.out) hb); replace BK189 := Aside0.mk (bb_ (bk_ BK189.out) hb); replace HB := Aside0.mk (below_step (lb2_ HB.out GE179.out GE189.out) hb); (try clear hb); (try clear hb2); (try clear hk); (try clear hi); refine hK.out _ _ ⟨(blk_cell BK189.out 0).trans rfl, (blk_cell BK189.out 1).trans rfl⟩ (fun hHeld => ?_); clear hK K; refine na_ ?_; refine pz_ HT_ 3 (some 56) spec_l27Read.mk4 ?_; refine pz_ HT_ 4 (some 57) spec_l27Read.mk5 ?_; refine pz_ HT_ 7 (some 60) spec_l27Read.mk6 ?_; refine pz_ HT_ 8 (some 61) spec_l27Read.mk7 ?_; refine take_ (i := 5) (N := some 58) (v := ?_) (a' := ?_) spec_l27Read.mk8 rfl rfl (take_ofW HT_.out HW_.out (by kernel_rfl)) (fun _ _ _ h => h) (Or.inl ⟨by rfl, ?_⟩) hHeld ?_ ?_; rotate_left
              ·
               rintro w' ⟨s0, s1⟩; go_simp; (with_reducible rfl)
              rotate_left
              ·
               simp only [Act.put, List.setIfInBounds_toArray, List.set_cons_zero, List.set_cons_succ, i64_w, i32_w]; rfl
              refine one_ (i := 6) (N := some 59) spec_l27Read.mk9 rfl rfl (one_of HT_.out (by kernel_rfl)) (by decide) (fun K hK => ?_); refine goes_ Tryd.func44 (by kernel_rfl) rfl #[.int .i64 a1, .agg #[.string (rdOf ByteArray.empty t185 0), .string (sx (sx (rdOf ByteArray.empty t181 0) (((sc t180 (⟨#[32]⟩ : ByteArray)).size)) ((rdOf ByteArray.empty t181 0).size)) (((ji25) : Int).toNat) ((sx (rdOf ByteArray.empty t181 0) (((sc t180 (⟨#[32]⟩ : ByteArray)).size)) ((rdOf ByteArray.empty t181 0).size)).size))]] (by rfl) rfl rfl (by (try simp only [List.map_toArray, List.map_cons, List.map_nil]); first | done | (simp only [hji25]; rfl) | rfl | (simp only [List.length_drop, List.length_take]; rfl)) ?_; (with_reducible refine (spec_l27Line.calls kj6 a1 (rdOf ByteArray.empty t185 0) (sx (sx (rdOf ByteArray.empty t181 0) (((sc t180 (⟨#[32]⟩ : ByteArray)).size)) ((rdOf ByteArray.empty t181 0).size)) (((ji25) : Int).toNat) ((sx (rdOf ByteArray.empty t181 0) (((sc t180 (⟨#[32]⟩ : ByteArray)).size)) ((rdOf ByteArray.empty t181 0).size)).size)) t191 _ A30.out).mono ?_); rintro e w40 ⟨rfl, hb⟩; refine ⟨_, rfl, ?_⟩; replace HO187 := Aside0.mk (Kd.R_below (kr_ HO187.out) hb); replace BK179 := Aside0.mk (bb_ (bk_ BK179.out) hb); replace BK189 := Aside0.mk (bb_ (bk_ BK189.out) hb); replace HB := Aside0.mk (below_step (lb2_ HB.out GE179.out GE189.out) hb); (try clear hb); (try clear hb2); (try clear hk); (try clear hi); refine hK.out _ _ ⟨(blk_cell BK189.out 0).trans rfl, (blk_cell BK189.out 1).trans rfl⟩ (fun hHeld => ?_); clear hK K; refine na_ ?_; refine pz_ HT_ 9 (some 62) spec_l27Read.mk10 ?_; refine pz_ HT_ 10 (some 63) spec_l27Read.mk11 ?_; refine one_ (i := 11) (N := none) spec_l27Read.mk12 rfl rfl (one_of HT_.out (by kernel_rfl)) (by decide) (fun K hK => ?_); have hs41 : w40.cell? ⟨gb179, 0, none⟩ = some (.string (⟨#[]⟩ : ByteArray)) := (blk_cell BK179.out 0).trans rfl; have hfs41 := blk_frozen BK179.out 0; have hns41_1 := NB189_179.out; have hms41_1 := NB179_189.out; have hs42 : w40.cell? ⟨gb179, 1, none⟩ = some (.string (⟨#[]⟩ : ByteArray)) := (blk_cell BK179.out 1).trans rfl; have hfs42 := blk_frozen BK179.out 1; have hns42_1 := NB189_179.out; have hms42_1 := NB179_189.out; refine skip_ (w1 := ?_) (by rfl) rfl ?_ ?_; rotate_left
              ·
               go_simp; rfl
              refine hK.out _ _ ⟨((cell_far (p := ⟨gb179, _, none⟩) NB189_179.out _).trans (((cell_far (p := ⟨gb179, _, none⟩) NB189_179.out _).trans (hHeld.1)))), ((cell_far (p := ⟨gb179, _, none⟩) NB189_179.out _).trans (((cell_far (p := ⟨gb179, _, none⟩) NB189_179.out _).trans (hHeld.2))))⟩ (fun hHeld => ?_); clear hK K; refine pz_ HT_ 12 (some 5) spec_l27Read.mk13 ?_; refine done_ (done_of HT_.out (by kernel_rfl)) ?_
              try go_wp2
              refine bodyPost_ret (results_ct rfl _ _ gb179 27 #[.string (rdOf ByteArray.empty t185 0), .string (sx (sx (rdOf ByteArray.empty t181 0) (((sc t180 (⟨#[32]⟩ : ByteArray)).size)) ((rdOf ByteArray.empty t181 0).size)) (((ji25) : Int).toNat) ((sx (rdOf ByteArray.empty t181 0) (((sc t180 (⟨#[32]⟩ : ByteArray)).size)) ((rdOf ByteArray.empty t181 0).size)).size))] (0, 0) _ rfl (by (with_reducible repeat (first | refine blk_drewN ?_ _ | refine blk_drew ?_ | refine blk_alloc ?_ _)); refine blk_put (cs := #[.string (rdOf ByteArray.empty t185 0), .string (⟨#[]⟩ : ByteArray)]) ?_ 1 _ rfl; (with_reducible repeat (first | refine blk_drewN ?_ _ | refine blk_drew ?_ | refine blk_alloc ?_ _)); refine blk_put (cs := #[.string (⟨#[]⟩ : ByteArray), .string (⟨#[]⟩ : ByteArray)]) ?_ 0 _ rfl; (with_reducible repeat (first | refine blk_drewN ?_ _ | refine blk_drew ?_ | refine blk_alloc ?_ _)); exact BK179.out) Tryd.underlying27 rfl (by kernel_rfl)) rfl ?_; exact ⟨by first | rfl | (simp [errW_none, errW_some] <;> rfl) | (simp only [← hji25]; first | rfl | (simp [errW_none, errW_some] <;> rfl)) | (simp [*, errW_none, errW_some] <;> rfl) | (have hw_ : ∀ n : Nat, (n + 1 ≤ 9223372036854775807) → wrap64 ((n : Int) + 1) = (n : Int) + 1 := fun n hn => by unfold wrap64; omega); (rw [hw_ _ (by first | assumption | omega)]); rfl, lb2_ HB.out GE179.out GE189.out⟩
             ·
              rw [if_neg c31] at H
              exact absurd H (by simp)
            ·
             replace c29 := Bool.eq_false_iff.mpr c29; subst c29
             have H1 : (some (rdOf ByteArray.empty t185 0, sx (sx (rdOf ByteArray.empty t181 0) (((sc t180 (⟨#[32]⟩ : ByteArray)).size)) ((rdOf ByteArray.empty t181 0).size)) (((ji25) : Int).toNat) ((sx (rdOf ByteArray.empty t181 0) (((sc t180 (⟨#[32]⟩ : ByteArray)).size)) ((rdOf ByteArray.empty t181 0).size)).size), false)) = some (r1, r2, r3) := by rw [if_neg (show ¬ (false = true) by decide)] at H; exact H
             clear H; have H := H1; clear H1; simp only [Option.some.injEq, Prod.mk.injEq] at H; obtain ⟨rfl, rfl, rfl⟩ := H
             try go_wp2_with (first | ((with_reducible refine gate_callee (f := 68) rfl ?_); refine ga_ (some 37) Tryd.func68 #[.string (sx (rdOf ByteArray.empty t181 0) (((sc t180 (⟨#[32]⟩ : ByteArray)).size)) ((rdOf ByteArray.empty t181 0).size)), .int .u8 64] ?_; (with_reducible refine (spec_l1Split.calls kj6 (sx (rdOf ByteArray.empty t181 0) (((sc t180 (⟨#[32]⟩ : ByteArray)).size)) ((rdOf ByteArray.empty t181 0).size)) 64 t185 _ A19.out).mono ?_); rintro e w43 ⟨v186, rfl, ho0, hb⟩; refine ⟨_, rfl, ?_⟩; have HO187 := Aside0.mk (Kd.R_lower ho0 (below_size (lb1_ HB.out GE179.out))); replace BK179 := Aside0.mk (bb_ (bk_ BK179.out) hb); replace HB := Aside0.mk (below_step (lb1_ HB.out GE179.out) hb); (try clear hb); (try clear hb2); (try clear hk); (try clear hi); (try clear ho0); obtain ⟨Ao44, co44, eo44⟩ := Kd.R_slice HO187.out; subst eo44; have p188 : 0 ≤ (0 : Int) := (by omega); have q188 : 0 < (t185.length : Int) := dt_; obtain ⟨ad188, e188, hx188_0⟩ := Kd.at_string (Kd.R_reads' HO187.out).2.2 0 p188 q188; cases e188; have qi188 : (0 < t185.length) = True := eq_true (by omega); (try rw [show ((0 : Int)).toNat = 0 from rfl] at hx188_0); (try rw [Addr.add_zero'] at hx188_0); replace p188 := eq_true p188; replace q188 := eq_true q188) | ((with_reducible refine gate_dst (N := 10) rfl ?_); (try (refine gate_guard (by rfl) ?_; dsimp only)); refine box_event ?hg (N := 10) ?hd (cs := #[.string (⟨#[]⟩ : ByteArray), .string (⟨#[]⟩ : ByteArray)]) (t := 27) ?hr ?_; (case hd => rfl); (case hg => rfl); (case hr => first | (go_simp; done) | (go_simp; rfl)); intro gb189 hg w45 hbox hb; replace HO187 := Aside0.mk (Kd.R_below (kr_ HO187.out) hb); have BK189 := Aside0.mk (hbox); have GW189 := Aside0.mk ((bz_ hg (lb1_ HB.out GE179.out))); have GE189 := Aside0.mk ((bz_ hg (lb1_ HB.out GE179.out))); replace HB := Aside0.mk (below_step (lb1_ HB.out GE179.out) hb); have NB179_189 := Aside0.mk ((by rw [hg]; exact Nat.ne_of_lt (blk_lt (g := gb179) (o := .cells #[.string (⟨#[]⟩ : ByteArray), .string (⟨#[]⟩ : ByteArray)] 27 (0, 0)) (bk_ BK179.out)) : gb179 ≠ gb189)); have NB189_179 := Aside0.mk ((by rw [hg]; exact Nat.ne_of_gt (blk_lt (g := gb179) (o := .cells #[.string (⟨#[]⟩ : ByteArray), .string (⟨#[]⟩ : ByteArray)] 27 (0, 0)) (bk_ BK179.out)) : gb189 ≠ gb179)); replace BK179 := Aside0.mk (bb_ (bk_ BK179.out) hb); clear hb hbox hg; have hnb46 := NB189_179.out; have hnc46 := NB179_189.out; obtain ⟨hcz47_0, hcz47_1⟩ := cz2_ BK189.out; obtain ⟨hfz47_0, hfz47_1⟩ := fz2_ BK189.out))
             have n0_ : Aside0 (Kd.R Kd.string 9 ((w45.setCell ⟨gb189, 0, none⟩ (.string (rdOf ByteArray.empty t185 0))).setCell ⟨gb189, 1, none⟩ (.string (sx (sx (rdOf ByteArray.empty t181 0) (((sc t180 (⟨#[32]⟩ : ByteArray)).size)) ((rdOf ByteArray.empty t181 0).size)) (((ji25) : Int).toNat) ((sx (rdOf ByteArray.empty t181 0) (((sc t180 (⟨#[32]⟩ : ByteArray)).size)) ((rdOf ByteArray.empty t181 0).size)).size)))) w.heap.size (fun _ => True) (.slice (some ad188) t185.length co44) t185) := ⟨by (with_reducible repeat (first | apply Kd.R_alloc | apply Kd.R_drewN | apply Kd.R_drew)); exact Kd.R_mono (Kd.R_far (p := ⟨gb189, 1, none⟩) (Kd.R_far (p := ⟨gb189, 0, none⟩) (Kd.R_types HO187.out BK189.out (by decide)) (fun _ hk => hk.2) (.string (rdOf ByteArray.empty t185 0))) (fun _ hk => hk.2) (.string (sx (sx (rdOf ByteArray.empty t181 0) (((sc t180 (⟨#[32]⟩ : ByteArray)).size)) ((rdOf ByteArray.empty t181 0).size)) (((ji25) : Int).toNat) ((sx (rdOf ByteArray.empty t181 0) (((sc t180 (⟨#[32]⟩ : ByteArray)).size)) ((rdOf ByteArray.empty t181 0).size)).size)))) (fun _ hk => trivial)⟩
             have n1_ : Aside0 (((w45.setCell ⟨gb189, 0, none⟩ (.string (rdOf ByteArray.empty t185 0))).setCell ⟨gb189, 1, none⟩ (.string (sx (sx (rdOf ByteArray.empty t181 0) (((sc t180 (⟨#[32]⟩ : ByteArray)).size)) ((rdOf ByteArray.empty t181 0).size)) (((ji25) : Int).toNat) ((sx (rdOf ByteArray.empty t181 0) (((sc t180 (⟨#[32]⟩ : ByteArray)).size)) ((rdOf ByteArray.empty t181 0).size)).size)))).heap[gb179]? = some (.cells #[.string (⟨#[]⟩ : ByteArray), .string (⟨#[]⟩ : ByteArray)] 27 (0, 0))) := ⟨by (with_reducible repeat (first | refine blk_drewN ?_ _ | refine blk_drew ?_ | refine blk_alloc ?_ _)); refine blk_far ?_ NB179_189.out _; (with_reducible repeat (first | refine blk_drewN ?_ _ | refine blk_drew ?_ | refine blk_alloc ?_ _)); refine blk_far ?_ NB179_189.out _; (with_reducible repeat (first | refine blk_drewN ?_ _ | refine blk_drew ?_ | refine blk_alloc ?_ _)); exact BK179.out⟩
             have n2_ : Aside0 (((w45.setCell ⟨gb189, 0, none⟩ (.string (rdOf ByteArray.empty t185 0))).setCell ⟨gb189, 1, none⟩ (.string (sx (sx (rdOf ByteArray.empty t181 0) (((sc t180 (⟨#[32]⟩ : ByteArray)).size)) ((rdOf ByteArray.empty t181 0).size)) (((ji25) : Int).toNat) ((sx (rdOf ByteArray.empty t181 0) (((sc t180 (⟨#[32]⟩ : ByteArray)).size)) ((rdOf ByteArray.empty t181 0).size)).size)))).heap[gb189]? = some (.cells #[.string (rdOf ByteArray.empty t185 0), .string (sx (sx (rdOf ByteArray.empty t181 0) (((sc t180 (⟨#[32]⟩ : ByteArray)).size)) ((rdOf ByteArray.empty t181 0).size)) (((ji25) : Int).toNat) ((sx (rdOf ByteArray.empty t181 0) (((sc t180 (⟨#[32]⟩ : ByteArray)).size)) ((rdOf ByteArray.empty t181 0).size)).size))] 27 (0, 0))) := ⟨by (with_reducible repeat (first | refine blk_drewN ?_ _ | refine blk_drew ?_ | refine blk_alloc ?_ _)); refine blk_put (cs := #[.string (rdOf ByteArray.empty t185 0), .string (⟨#[]⟩ : ByteArray)]) ?_ 1 _ rfl; (with_reducible repeat (first | refine blk_drewN ?_ _ | refine blk_drew ?_ | refine blk_alloc ?_ _)); refine blk_put (cs := #[.string (⟨#[]⟩ : ByteArray), .string (⟨#[]⟩ : ByteArray)]) ?_ 0 _ rfl; (with_reducible repeat (first | refine blk_drewN ?_ _ | refine blk_drew ?_ | refine blk_alloc ?_ _)); exact BK189.out⟩
             have n3_ : Aside0 (Below w.heap.size w ((w45.setCell ⟨gb189, 0, none⟩ (.string (rdOf ByteArray.empty t185 0))).setCell ⟨gb189, 1, none⟩ (.string (sx (sx (rdOf ByteArray.empty t181 0) (((sc t180 (⟨#[32]⟩ : ByteArray)).size)) ((rdOf ByteArray.empty t181 0).size)) (((ji25) : Int).toNat) ((sx (rdOf ByteArray.empty t181 0) (((sc t180 (⟨#[32]⟩ : ByteArray)).size)) ((rdOf ByteArray.empty t181 0).size)).size))))) := ⟨lb2_ HB.out GE179.out GE189.out⟩
             (try clear HO187); (try clear BK179); (try clear BK189); (try clear HB); generalize ((w45.setCell ⟨gb189, 0, none⟩ (.string (rdOf ByteArray.empty t185 0))).setCell ⟨gb189, 1, none⟩ (.string (sx (sx (rdOf ByteArray.empty t181 0) (((sc t180 (⟨#[32]⟩ : ByteArray)).size)) ((rdOf ByteArray.empty t181 0).size)) (((ji25) : Int).toNat) ((sx (rdOf ByteArray.empty t181 0) (((sc t180 (⟨#[32]⟩ : ByteArray)).size)) ((rdOf ByteArray.empty t181 0).size)).size)))) = w48 at n0_ n1_ n2_ n3_ ⊢; have HO187 := n0_; have BK179 := n1_; have BK189 := n2_; have HB := n3_; clear n0_ n1_ n2_ n3_; replace HO187 := Aside0.mk (Kd.R_drew HO187.out); replace BK179 := Aside0.mk (blk_drew BK179.out); replace BK189 := Aside0.mk (blk_drew BK189.out); replace HB := Aside0.mk (below_drew1 HB.out); refine start_ (n := 13) (S := fun w' => w'.cell? ⟨gb189, 0, none⟩ = some (.string (rdOf ByteArray.empty t185 0)) ∧ w'.cell? ⟨gb189, 1, none⟩ = some (.string (sx (sx (rdOf ByteArray.empty t181 0) (((sc t180 (⟨#[32]⟩ : ByteArray)).size)) ((rdOf ByteArray.empty t181 0).size)) (((ji25) : Int).toNat) ((sx (rdOf ByteArray.empty t181 0) (((sc t180 (⟨#[32]⟩ : ByteArray)).size)) ((rdOf ByteArray.empty t181 0).size)).size)))) (ds := []) spec_l27Read.mk0 (by kernel_rfl) rfl rfl ⟨(blk_cell BK189.out 0).trans rfl, (blk_cell BK189.out 1).trans rfl⟩ (fun hHeld => ?_); refine with_tabW spec_l27Read.tab10 spec_l27Read.bits10 (fun HT_ HW_ => ?_); generalize w48.drew = w49 at HO187 BK179 BK189 HB hHeld ⊢; refine take_ (i := 0) (N := some 53) (v := ?_) (a' := ?_) spec_l27Read.mk1 rfl rfl (take_ofW HT_.out HW_.out (by kernel_rfl)) (fun _ _ _ h => h) (Or.inl ⟨by rfl, ?_⟩) hHeld ?_ ?_; rotate_left
             ·
              rintro w' ⟨s0, s1⟩; go_simp; (with_reducible rfl)
             rotate_left
             ·
              simp only [Act.put, List.setIfInBounds_toArray, List.set_cons_zero, List.set_cons_succ, i64_w, i32_w]; rfl
             refine take_ (i := 1) (N := some 54) (v := ?_) (a' := ?_) spec_l27Read.mk2 rfl rfl (take_ofW HT_.out HW_.out (by kernel_rfl)) (fun _ _ _ h => h) (Or.inl ⟨by rfl, ?_⟩) hHeld ?_ ?_; rotate_left
             ·
              rintro w' ⟨s0, s1⟩; go_simp; (with_reducible rfl)
             rotate_left
             ·
              simp only [Act.put, List.setIfInBounds_toArray, List.set_cons_zero, List.set_cons_succ, i64_w, i32_w]; rfl
             refine one_ (i := 2) (N := some 55) spec_l27Read.mk3 rfl rfl (one_of HT_.out (by kernel_rfl)) (by decide) (fun K hK => ?_); refine goes_ Tryd.func43 (by kernel_rfl) rfl #[.agg #[.string (rdOf ByteArray.empty t185 0), .string (sx (sx (rdOf ByteArray.empty t181 0) (((sc t180 (⟨#[32]⟩ : ByteArray)).size)) ((rdOf ByteArray.empty t181 0).size)) (((ji25) : Int).toNat) ((sx (rdOf ByteArray.empty t181 0) (((sc t180 (⟨#[32]⟩ : ByteArray)).size)) ((rdOf ByteArray.empty t181 0).size)).size))]] (by rfl) rfl rfl (by (try simp only [List.map_toArray, List.map_cons, List.map_nil]); first | done | (simp only [hji25]; rfl) | rfl | (simp only [List.length_drop, List.length_take]; rfl)) ?_; (with_reducible refine (spec_l27Good.calls kj6 (rdOf ByteArray.empty t185 0) (sx (sx (rdOf ByteArray.empty t181 0) (((sc t180 (⟨#[32]⟩ : ByteArray)).size)) ((rdOf ByteArray.empty t181 0).size)) (((ji25) : Int).toNat) ((sx (rdOf ByteArray.empty t181 0) (((sc t180 (⟨#[32]⟩ : ByteArray)).size)) ((rdOf ByteArray.empty t181 0).size)).size)) false _ A28.out).mono ?_); rintro e w50 ⟨rfl, hb⟩; refine ⟨_, rfl, ?_⟩; replace HO187 := Aside0.mk (Kd.R_below (kr_ HO187.out) hb); replace BK179 := Aside0.mk (bb_ (bk_ BK179.out) hb); replace BK189 := Aside0.mk (bb_ (bk_ BK189.out) hb); replace HB := Aside0.mk (below_step (lb2_ HB.out GE179.out GE189.out) hb); (try clear hb); (try clear hb2); (try clear hk); (try clear hi); refine hK.out _ _ ⟨(blk_cell BK189.out 0).trans rfl, (blk_cell BK189.out 1).trans rfl⟩ (fun hHeld => ?_); clear hK K; refine na_ ?_; refine pz_ HT_ 3 (some 56) spec_l27Read.mk4 ?_; refine pure_ (i := 4) (N := some 57) (v := undef) (a' := ?_) spec_l27Read.mk5 rfl rfl (any_of HT_.out (by kernel_rfl)) (fun _ _ _ h => h) (Or.inr ⟨by rfl, rfl⟩) ?_ ?_; rotate_left
             ·
              simp only [Act.put, List.setIfInBounds_toArray, List.set_cons_zero, List.set_cons_succ, i64_w, i32_w]; rfl
             refine pure_ (i := 5) (N := some 58) (v := undef) (a' := ?_) spec_l27Read.mk14 rfl rfl (any_of HT_.out (by kernel_rfl)) (fun _ _ _ h => h) (Or.inr ⟨by rfl, rfl⟩) ?_ ?_; rotate_left
             ·
              simp only [Act.put, List.setIfInBounds_toArray, List.set_cons_zero, List.set_cons_succ, i64_w, i32_w]; rfl
             refine pure_ (i := 6) (N := some 59) (v := undef) (a' := ?_) spec_l27Read.mk15 rfl rfl (any_of HT_.out (by kernel_rfl)) (fun _ _ _ h => h) (Or.inr ⟨by rfl, rfl⟩) ?_ ?_; rotate_left
             ·
              simp only [Act.put, List.setIfInBounds_toArray, List.set_cons_zero, List.set_cons_succ, i64_w, i32_w]; rfl
             refine pure_ (i := 7) (N := some 60) (v := undef) (a' := ?_) spec_l27Read.mk16 rfl rfl (any_of HT_.out (by kernel_rfl)) (fun _ _ _ h => h) (Or.inr ⟨by rfl, rfl⟩) ?_ ?_; rotate_left
             ·
              simp only [Act.put, List.setIfInBounds_toArray, List.set_cons_zero, List.set_cons_succ, i64_w, i32_w]; rfl
             refine pure_ (i := 8) (N := some 61) (v := undef) (a' := ?_) spec_l27Read.mk9 rfl rfl (any_of HT_.out (by kernel_rfl)) (fun _ _ _ h => h) (Or.inr ⟨by rfl, rfl⟩) ?_ ?_; rotate_left
             ·
              simp only [Act.put, List.setIfInBounds_toArray, List.set_cons_zero, List.set_cons_succ, i64_w, i32_w]; rfl
             refine pure_ (i := 9) (N := some 62) (v := undef) (a' := ?_) spec_l27Read.mk10 rfl rfl (any_of HT_.out (by kernel_rfl)) (fun _ _ _ h => h) (Or.inr ⟨by rfl, rfl⟩) ?_ ?_; rotate_left
             ·
              simp only [Act.put, List.setIfInBounds_toArray, List.set_cons_zero, List.set_cons_succ, i64_w, i32_w]; rfl
             refine pz_ HT_ 10 (some 63) spec_l27Read.mk11 ?_; refine one_ (i := 11) (N := none) spec_l27Read.mk12 rfl rfl (one_of HT_.out (by kernel_rfl)) (by decide) (fun K hK => ?_); have hs51 : w50.cell? ⟨gb179, 0, none⟩ = some (.string (⟨#[]⟩ : ByteArray)) := (blk_cell BK179.out 0).trans rfl; have hfs51 := blk_frozen BK179.out 0; have hns51_1 := NB189_179.out; have hms51_1 := NB179_189.out; have hs52 : w50.cell? ⟨gb179, 1, none⟩ = some (.string (⟨#[]⟩ : ByteArray)) := (blk_cell BK179.out 1).trans rfl; have hfs52 := blk_frozen BK179.out 1; have hns52_1 := NB189_179.out; have hms52_1 := NB179_189.out; refine skip_ (w1 := ?_) (by rfl) rfl ?_ ?_; rotate_left
             ·
              go_simp; rfl
             refine hK.out _ _ ⟨((cell_far (p := ⟨gb179, _, none⟩) NB189_179.out _).trans (((cell_far (p := ⟨gb179, _, none⟩) NB189_179.out _).trans (hHeld.1)))), ((cell_far (p := ⟨gb179, _, none⟩) NB189_179.out _).trans (((cell_far (p := ⟨gb179, _, none⟩) NB189_179.out _).trans (hHeld.2))))⟩ (fun hHeld => ?_); clear hK K; refine pz_ HT_ 12 (some 5) spec_l27Read.mk13 ?_; refine done_ (done_of HT_.out (by kernel_rfl)) ?_
             try go_wp2
             refine bodyPost_ret (results_ct rfl _ _ gb179 27 #[.string (rdOf ByteArray.empty t185 0), .string (sx (sx (rdOf ByteArray.empty t181 0) (((sc t180 (⟨#[32]⟩ : ByteArray)).size)) ((rdOf ByteArray.empty t181 0).size)) (((ji25) : Int).toNat) ((sx (rdOf ByteArray.empty t181 0) (((sc t180 (⟨#[32]⟩ : ByteArray)).size)) ((rdOf ByteArray.empty t181 0).size)).size))] (0, 0) _ rfl (by (with_reducible repeat (first | refine blk_drewN ?_ _ | refine blk_drew ?_ | refine blk_alloc ?_ _)); refine blk_put (cs := #[.string (rdOf ByteArray.empty t185 0), .string (⟨#[]⟩ : ByteArray)]) ?_ 1 _ rfl; (with_reducible repeat (first | refine blk_drewN ?_ _ | refine blk_drew ?_ | refine blk_alloc ?_ _)); refine blk_put (cs := #[.string (⟨#[]⟩ : ByteArray), .string (⟨#[]⟩ : ByteArray)]) ?_ 0 _ rfl; (with_reducible repeat (first | refine blk_drewN ?_ _ | refine blk_drew ?_ | refine blk_alloc ?_ _)); exact BK179.out) Tryd.underlying27 rfl (by kernel_rfl)) rfl ?_; exact ⟨by first | rfl | (simp [errW_none, errW_some] <;> rfl) | (simp only [← hji25]; first | rfl | (simp [errW_none, errW_some] <;> rfl)) | (simp [*, errW_none, errW_some] <;> rfl) | (have hw_ : ∀ n : Nat, (n + 1 ≤ 9223372036854775807) → wrap64 ((n : Int) + 1) = (n : Int) + 1 := fun n hn => by unfold wrap64; omega); (rw [hw_ _ (by first | assumption | omega)]); rfl, lb2_ HB.out GE179.out GE189.out⟩
           ·
            rw [if_neg c27] at H
            exact absurd H (by simp)
          ·
           rw [if_neg c26] at H
           exact absurd H (by simp)
        ·
         rw [if_neg c20] at H
         exact absurd H (by simp)
       ·
        rw [if_neg c18] at H
        exact absurd H (by simp)
      ·
       rw [if_neg c17] at H
       exact absurd H (by simp)
  ·
   rw [if_neg c6] at H
   exact absurd H (by simp)
 ·
  rw [if_neg c4] at H
  exact absurd H (by simp)
mutual
def spec_l27Open.l0 : Nat → ByteArray → List (S27) → Int → Option ((List (S27)) × Int)
 | 0, _, _, _ => none
 | k + 1, x0, x4, x5 => if x5 < (x0.size : Int) then (spec_l27Open.j1 k x0 x4 x5 (decide ((x4.length : Int) < 60))) else (spec_l27Open.j1 k x0 x4 x5 false)
def spec_l27Open.j1 : Nat → ByteArray → List (S27) → Int → Bool → Option ((List (S27)) × Int)
 | 0, _, _, _, _ => none
 | k + 1, x0, x4, x5, x18 => if x18 = true then (if 0 ≤ x5 then (if x5 ≤ (x0.size : Int) then ((spec_l1Split.f k (sx x0 ((x5 : Int).toNat) (x0.size)) 10).bind fun t195 => (if 0 < (t195.length : Int) then ((spec_l27Read.f k (rdOf ByteArray.empty t195 0) (x4.length : Int)).bind fun bt199 => (if (t195.length : Int) < 2 then (some (x4, x5)) else (if bt199.2.2 = true then (if x4.length < 4398046511104 then (spec_l27Open.l0 k x0 (x4 ++ [(⟨bt199.1, bt199.2.1⟩ : S27)]) (wrap64 ((wrap64 (x5 + ((rdOf ByteArray.empty t195 0).size : Int))) + 1))) else (none)) else (some (x4, x5))))) else (none))) else (none)) else (none)) else (some (x4, x5))
end
def spec_l27Open.f (k : Nat) (a0 : ByteArray) : Option ((List (S27)) × Int) := spec_l27Open.l0 k a0 (([] : List (S27))) 0
set_option maxHeartbeats 8000000 in
set_option maxRecDepth 100000 in
theorem spec_l27Open.calls (k : Nat) (a0 : ByteArray) (r1 : List (S27)) (r2 : Int) (w : World) (h : spec_l27Open.f k a0 = some (r1, r2)) :
  Calls Tryd.prog 47 #[.string a0] w fun e w' => ∃ v0_ : Value, e = .returned (.tuple #[v0_, .int .i64 r2]) ∧ Kd.R k27 27 w' w.heap.size (fun _ => True) v0_ r1 ∧ Below w.heap.size w w' := by
 have hu27 := Tryd.underlying27
 have HB := Aside0.mk (Below.refl w.heap.size w)
 have H : (spec_l27Open.l0 k a0 (([] : List (S27))) 0) = some (r1, r2) := h
 clear h
 obtain ⟨y192, hy192⟩ : ∃ y_ : List (S27), y_ = (([] : List (S27))) := ⟨_, rfl⟩
 replace H : (spec_l27Open.l0 k a0 y192 0) = some (r1, r2) := by first | (rw [hy192]; with_reducible exact H) | (have H2_ := (Option.bind_some _ _).symm.trans H; rw [hy192]; with_reducible exact H2_) | (have H2_ := (Option.bind_some _ _).symm.trans H; with_reducible exact H2_) | with_reducible exact H | (rw [hy192]; exact H) | exact H
 have Ny192 := Aside0.mk hy192
 clear hy192
 have H' := Aside0.mk H
 clear H
 go_enter Tryd.func47, Tryd.ntmps47
 go_wp2_with (first | ((with_reducible refine gate_dst (N := 9) rfl ?_); (try (refine gate_guard (by rfl) ?_; dsimp only)); refine Kd.R_lit k27 _ 27 ?hg (N := 9) ?hd (xs := ([] : List (S27))) (inner := []) (ok := fun _ => True) (okp := fun _ => True) ?hr ?hp (fun _ hk => hk) trivial (Below.refl _ _) (Nat.le_refl _) (by simp) ?_; (case hd => rfl); (case hg => rfl); (case hr => first | (go_simp; done) | (go_simp; rfl)); (case hp => exact (Reps.none _ _)); intro v193 w2 ho3 hb hg_ hnew_; clear hg_ hnew_; replace ho3 := ry_ Ny192.out ho3; have HO194 := Aside0.mk (Kd.R_lower ho3 (below_size (lb0_ HB.out))); replace HB := Aside0.mk (below_step (lb0_ HB.out) hb); clear hb ho3))
 go_loopg [4, 5] k (fun kq v4 v5 w' => ∃ (x4_1 : List (S27)) (x5_1 : Int), v5 = .int .i64 x5_1 ∧ Aside0 (spec_l27Open.l0 kq a0 x4_1 x5_1 = some (r1, r2)) ∧ Aside0 (kq ≤ k) ∧ Aside0 (Kd.R k27 27 w' w.heap.size (fun _ => True) v4 x4_1) ∧ Aside0 (Below w.heap.size w w'))
 case atStart => exact ⟨(y192), (0), (by first | rfl | (simp; done) | (simp [*]; done)), H', ⟨Nat.le_refl _⟩, ⟨kr_ HO194.out⟩, ⟨lb0_ HB.out⟩⟩
 case round =>
  clear H'
  try clear p2
  obtain ⟨x4_1, x5_1, rfl, HA, HK1, HO_4, HB⟩ := hrel
  cases gk with
  | zero => exact absurd HA.out (by simp [spec_l27Open.l0])
  | succ k1 =>
   have H := HA.out
   clear HA
   simp only [spec_l27Open.l0] at H
   have HC4 := Aside0.mk H
   clear H
   go_upto_region 3 with (fail)
   go_cut [18] (fun v18 wc => ∃ (kq : Nat) (x18_3 : Bool), v18 = .bool x18_3 ∧ Aside0 (spec_l27Open.j1 kq a0 x4_1 x5_1 x18_3 = some (r1, r2)) ∧ Aside0 (kq ≤ k1) ∧ Aside0 (Kd.R k27 27 wc w.heap.size (fun _ => True) u4 x4_1) ∧ Aside0 (Below w.heap.size w wc))
   case first =>
    have H := HC4.out
    clear HC4
    by_cases c5 : x5_1 < (a0.size : Int)
    ·
     rw [if_pos c5] at H
     have c5b0 : decide (x5_1 < (a0.size : Int)) = true := decide_eq_true c5
     clear c5
     (first | rw [c5b0] | (simp only [i64_w, i32_w]; rw [c5b0]) | skip)
     have H' := Aside0.mk H
     clear H
     obtain ⟨Ao6, co6, eo6⟩ := Kd.R_slice HO_4.out
     subst eo6
     go_wp2
     go_meet
     case rel => exact ⟨_, (decide ((x4_1.length : Int) < 60)), (by first | rfl | (simp; done) | (simp [*]; done)), H', ⟨by have := HK1.out; first | omega | exact Nat.le_refl _⟩, ⟨kr_ HO_4.out⟩, ⟨lb0_ HB.out⟩⟩
    ·
     rw [if_neg c5] at H
     have c5b0 : decide (x5_1 < (a0.size : Int)) = false := decide_eq_false c5
     clear c5
     (first | rw [c5b0] | (simp only [i64_w, i32_w]; rw [c5b0]) | skip)
     have H' := Aside0.mk H
     clear H
     go_wp2
     go_meet
     case rel => exact ⟨_, (false), (by first | rfl | (simp; done) | (simp [*]; done)), H', ⟨by have := HK1.out; first | omega | exact Nat.le_refl _⟩, ⟨kr_ HO_4.out⟩, ⟨lb0_ HB.out⟩⟩
   case rest =>
    clear HC4
    try clear p2
    try clear c4
    try clear c5
    try clear c5b0
    try clear p2
    obtain ⟨kq, x18_3, rfl, HA, HJ3, HO_4, HB⟩ := hcut
    cases kq with
    | zero => exact absurd HA.out (by simp [spec_l27Open.j1])
    | succ kj3 =>
     have H := HA.out
     clear HA
     simp only [spec_l27Open.j1] at H
     by_cases c7 : x18_3 = true
     ·
      subst c7
      have H1 : (if 0 ≤ x5_1 then (if x5_1 ≤ (a0.size : Int) then ((spec_l1Split.f kj3 (sx a0 ((x5_1 : Int).toNat) (a0.size)) 10).bind fun t195 => (if 0 < (t195.length : Int) then ((spec_l27Read.f kj3 (rdOf ByteArray.empty t195 0) (x4_1.length : Int)).bind fun bt199 => (if (t195.length : Int) < 2 then (some (x4_1, x5_1)) else (if bt199.2.2 = true then (if x4_1.length < 4398046511104 then (spec_l27Open.l0 kj3 a0 (x4_1 ++ [(⟨bt199.1, bt199.2.1⟩ : S27)]) (wrap64 ((wrap64 (x5_1 + ((rdOf ByteArray.empty t195 0).size : Int))) + 1))) else (none)) else (some (x4_1, x5_1))))) else (none))) else (none)) else (none)) = some (r1, r2) := by rw [if_pos rfl] at H; exact H
      clear H
      have H := H1
      clear H1
      by_cases c8 : 0 ≤ x5_1
      ·
       rw [if_pos c8] at H
       have c8b0 := eq_true c8
       have c8b1 : decide (0 ≤ x5_1) = true := decide_eq_true c8
       clear c8
       by_cases c9 : x5_1 ≤ (a0.size : Int)
       ·
        rw [if_pos c9] at H
        have c9b0 := eq_true c9; have c9b1 : decide (x5_1 ≤ (a0.size : Int)) = true := decide_eq_true c9; clear c9; replace H := Option.bind_eq_some_iff.mp H; obtain ⟨t195, A100, H⟩ := H; replace H : (if 0 < (t195.length : Int) then ((spec_l27Read.f kj3 (rdOf ByteArray.empty t195 0) (x4_1.length : Int)).bind fun bt199 => (if (t195.length : Int) < 2 then (some (x4_1, x5_1)) else (if bt199.2.2 = true then (if x4_1.length < 4398046511104 then (spec_l27Open.l0 kj3 a0 (x4_1 ++ [(⟨bt199.1, bt199.2.1⟩ : S27)]) (wrap64 ((wrap64 (x5_1 + ((rdOf ByteArray.empty t195 0).size : Int))) + 1))) else (none)) else (some (x4_1, x5_1))))) else (none)) = some (r1, r2) := H; have A10 := Aside0.mk A100; clear A100
        by_cases c11 : 0 < (t195.length : Int)
        ·
         rw [if_pos c11] at H
         have c11b0 : decide (0 < (t195.length : Int)) = true := decide_eq_true c11; have c11b1 : decide (0 < t195.length) = true := decide_eq_true (by omega); clear c11; replace H := Option.bind_eq_some_iff.mp H; obtain ⟨⟨t199, t200, t201⟩, A120, H⟩ := H; replace H : (if (t195.length : Int) < 2 then (some (x4_1, x5_1)) else (if t201 = true then (if x4_1.length < 4398046511104 then (spec_l27Open.l0 kj3 a0 (x4_1 ++ [(⟨t199, t200⟩ : S27)]) (wrap64 ((wrap64 (x5_1 + ((rdOf ByteArray.empty t195 0).size : Int))) + 1))) else (none)) else (some (x4_1, x5_1)))) = some (r1, r2) := H; have A12 := Aside0.mk A120; clear A120
         by_cases c13 : (t195.length : Int) < 2
         ·
          rw [if_pos c13] at H
          have c13b0 : decide ((t195.length : Int) < 2) = true := decide_eq_true c13; have c13b1 : decide (t195.length < 2) = true := decide_eq_true (by omega); clear c13; simp only [Option.some.injEq, Prod.mk.injEq] at H; obtain ⟨rfl, rfl⟩ := H
          go_wp2_with (first | ((with_reducible refine gate_callee (f := 68) rfl ?_); refine ga_ (some 22) Tryd.func68 #[.string (sx a0 ((x5_1 : Int).toNat) (a0.size)), .int .u8 10] ?_; (with_reducible refine (spec_l1Split.calls kj3 (sx a0 ((x5_1 : Int).toNat) (a0.size)) 10 t195 _ A10.out).mono ?_); rintro e w14 ⟨v196, rfl, ho0, hb⟩; refine ⟨_, rfl, ?_⟩; replace HO_4 := Aside0.mk (Kd.R_below (kr_ HO_4.out) hb); have HO197 := Aside0.mk (Kd.R_lower ho0 (below_size (lb0_ HB.out))); replace HB := Aside0.mk (below_step (lb0_ HB.out) hb); (try clear hb); (try clear hb2); (try clear hk); (try clear hi); (try clear ho0); obtain ⟨Ao15, co15, eo15⟩ := Kd.R_slice HO197.out; subst eo15; have p198 : 0 ≤ (0 : Int) := (by omega); have q198 : 0 < (t195.length : Int) := dt_; obtain ⟨ad198, e198, hx198_0⟩ := Kd.at_string (Kd.R_reads' HO197.out).2.2 0 p198 q198; cases e198; have qi198 : (0 < t195.length) = True := eq_true (by omega); (try rw [show ((0 : Int)).toNat = 0 from rfl] at hx198_0); (try rw [Addr.add_zero'] at hx198_0); replace p198 := eq_true p198; replace q198 := eq_true q198; obtain ⟨Ao16, co16, eo16⟩ := Kd.R_slice HO_4.out; subst eo16) | ((with_reducible refine gate_callee (f := 69) rfl ?_); refine ga_ (some 29) Tryd.func69 #[.string (rdOf ByteArray.empty t195 0), .int .i64 (x4_1.length : Int)] ?_; (with_reducible refine (spec_l27Read.calls kj3 (rdOf ByteArray.empty t195 0) (x4_1.length : Int) t199 t200 t201 _ A12.out).mono ?_); rintro e w17 ⟨rfl, hb⟩; refine ⟨_, rfl, ?_⟩; replace HO_4 := Aside0.mk (Kd.R_below (kr_ HO_4.out) hb); replace HO197 := Aside0.mk (Kd.R_below (kr_ HO197.out) hb); replace HB := Aside0.mk (below_step (lb0_ HB.out) hb); (try clear hb); (try clear hb2); (try clear hk); (try clear hi)) | ((with_reducible refine gate_dst (N := 7) rfl ?_); (try (refine gate_guard (by rfl) ?_; dsimp only)); refine box_event ?hg (N := 7) ?hd (cs := #[.string (⟨#[]⟩ : ByteArray), .string (⟨#[]⟩ : ByteArray)]) (t := 27) ?hr ?_; (case hd => rfl); (case hg => rfl); (case hr => first | (go_simp; done) | (go_simp; rfl)); intro gb202 hg w18 hbox hb; replace HO_4 := Aside0.mk (Kd.R_below (Kd.R_elderB (kr_ HO_4.out) gb202 (Nat.le_of_eq hg.symm)) hb); replace HO197 := Aside0.mk (Kd.R_below (kr_ HO197.out) hb); have BK202 := Aside0.mk (hbox); have GW202 := Aside0.mk ((bz_ hg (lb0_ HB.out))); have GE202 := Aside0.mk ((bz_ hg (lb0_ HB.out))); replace HB := Aside0.mk (below_step (lb0_ HB.out) hb); clear hb hbox hg; obtain ⟨hcz19_0, hcz19_1⟩ := cz2_ BK202.out; obtain ⟨hfz19_0, hfz19_1⟩ := fz2_ BK202.out))
          go_ret2
          exact ⟨_, rr_, by (with_reducible repeat (first | apply Kd.R_alloc | apply Kd.R_drewN | apply Kd.R_drew)); exact Kd.R_mono (Kd.R_far (p := ⟨gb202, 1, none⟩) (Kd.R_far (p := ⟨gb202, 0, none⟩) (Kd.R_mono HO_4.out (fun k_ hk => (⟨hk, hk.2⟩ : _ ∧ k_ ≠ gb202))) (fun _ hk => hk.2) (.string t199)) (fun _ hk => hk.2) (.string t200)) (fun _ hk => trivial), lb1_ HB.out GE202.out⟩
         ·
          rw [if_neg c13] at H
          have c13b0 : decide ((t195.length : Int) < 2) = false := decide_eq_false c13; have c13b1 : decide (t195.length < 2) = false := decide_eq_false (by omega); clear c13
          by_cases c20 : t201 = true
          ·
           subst c20
           have H1 : (if x4_1.length < 4398046511104 then (spec_l27Open.l0 kj3 a0 (x4_1 ++ [(⟨t199, t200⟩ : S27)]) (wrap64 ((wrap64 (x5_1 + ((rdOf ByteArray.empty t195 0).size : Int))) + 1))) else (none)) = some (r1, r2) := by rw [if_pos rfl] at H; exact H
           clear H; have H := H1; clear H1
           by_cases c21 : x4_1.length < 4398046511104
           ·
            rw [if_pos c21] at H
            have LMc21 := Aside0.mk c21; clear c21
            obtain ⟨y203, hy203⟩ : ∃ y_ : List (S27), y_ = (x4_1 ++ [(⟨t199, t200⟩ : S27)]) := ⟨_, rfl⟩
            replace H : (spec_l27Open.l0 kj3 a0 y203 (wrap64 ((wrap64 (x5_1 + ((rdOf ByteArray.empty t195 0).size : Int))) + 1))) = some (r1, r2) := by first | (rw [hy203]; with_reducible exact H) | (have H2_ := (Option.bind_some _ _).symm.trans H; rw [hy203]; with_reducible exact H2_) | (have H2_ := (Option.bind_some _ _).symm.trans H; with_reducible exact H2_) | with_reducible exact H | (rw [hy203]; exact H) | exact H
            have Ny203 := Aside0.mk hy203; clear hy203; have H' := Aside0.mk H; clear H
            go_wp2_with (first | ((with_reducible refine gate_callee (f := 68) rfl ?_); refine ga_ (some 22) Tryd.func68 #[.string (sx a0 ((x5_1 : Int).toNat) (a0.size)), .int .u8 10] ?_; (with_reducible refine (spec_l1Split.calls kj3 (sx a0 ((x5_1 : Int).toNat) (a0.size)) 10 t195 _ A10.out).mono ?_); rintro e w22 ⟨v196, rfl, ho0, hb⟩; refine ⟨_, rfl, ?_⟩; replace HO_4 := Aside0.mk (Kd.R_below (kr_ HO_4.out) hb); have HO197 := Aside0.mk (Kd.R_lower ho0 (below_size (lb0_ HB.out))); replace HB := Aside0.mk (below_step (lb0_ HB.out) hb); (try clear hb); (try clear hb2); (try clear hk); (try clear hi); (try clear ho0); obtain ⟨Ao23, co23, eo23⟩ := Kd.R_slice HO197.out; subst eo23; have p198 : 0 ≤ (0 : Int) := (by omega); have q198 : 0 < (t195.length : Int) := dt_; obtain ⟨ad198, e198, hx198_0⟩ := Kd.at_string (Kd.R_reads' HO197.out).2.2 0 p198 q198; cases e198; have qi198 : (0 < t195.length) = True := eq_true (by omega); (try rw [show ((0 : Int)).toNat = 0 from rfl] at hx198_0); (try rw [Addr.add_zero'] at hx198_0); replace p198 := eq_true p198; replace q198 := eq_true q198; obtain ⟨Ao24, co24, eo24⟩ := Kd.R_slice HO_4.out; subst eo24) | ((with_reducible refine gate_callee (f := 69) rfl ?_); refine ga_ (some 29) Tryd.func69 #[.string (rdOf ByteArray.empty t195 0), .int .i64 (x4_1.length : Int)] ?_; (with_reducible refine (spec_l27Read.calls kj3 (rdOf ByteArray.empty t195 0) (x4_1.length : Int) t199 t200 true _ A12.out).mono ?_); rintro e w25 ⟨rfl, hb⟩; refine ⟨_, rfl, ?_⟩; replace HO_4 := Aside0.mk (Kd.R_below (kr_ HO_4.out) hb); replace HO197 := Aside0.mk (Kd.R_below (kr_ HO197.out) hb); replace HB := Aside0.mk (below_step (lb0_ HB.out) hb); (try clear hb); (try clear hb2); (try clear hk); (try clear hi)) | ((with_reducible refine gate_dst (N := 7) rfl ?_); (try (refine gate_guard (by rfl) ?_; dsimp only)); refine box_event ?hg (N := 7) ?hd (cs := #[.string (⟨#[]⟩ : ByteArray), .string (⟨#[]⟩ : ByteArray)]) (t := 27) ?hr ?_; (case hd => rfl); (case hg => rfl); (case hr => first | (go_simp; done) | (go_simp; rfl)); intro gb202 hg w26 hbox hb; replace HO_4 := Aside0.mk (Kd.R_below (Kd.R_elderB (kr_ HO_4.out) gb202 (Nat.le_of_eq hg.symm)) hb); replace HO197 := Aside0.mk (Kd.R_below (kr_ HO197.out) hb); have BK202 := Aside0.mk (hbox); have GW202 := Aside0.mk ((bz_ hg (lb0_ HB.out))); have GE202 := Aside0.mk ((bz_ hg (lb0_ HB.out))); replace HB := Aside0.mk (below_step (lb0_ HB.out) hb); clear hb hbox hg; obtain ⟨hcz27_0, hcz27_1⟩ := cz2_ BK202.out; obtain ⟨hfz27_0, hfz27_1⟩ := fz2_ BK202.out) | ((with_reducible refine gate_builtin (b := .append) (xs := #[.tmp 39, .tmp 41]) rfl ?_); (try (refine gate_guard (by rfl) ?_; dsimp only)); at_builtin; refine Kd.R_append k27 (w0 := w) w.heap.size rfl (.tmp 39) (.tmp 41) 48 27 (.agg #[(.string ⟨#[]⟩), (.string ⟨#[]⟩)]) 32 rfl Tryd.underlying48 info27 rfl (by decide) (by omega) (.slice Ao24 x4_1.length co24) x4_1 (⟨t199, t200⟩ : S27) [.string t199, .string t200] (fun k_ => k_ ≠ gb202) (fun _ => False) rfl (by first | (go_simp; done) | (go_simp; rfl)) ?aP (fun _ hk => hk.elim) ?aF ?aO ?aB ?aS ?aL ?_; (case aP => exact k27_mkM _ _ _ (⟨t199, t200⟩ : S27)); (case aB => exact (lb1_ HB.out GE202.out)); (case aF => exact (fun k_ hk => Kd.freshB (g := gb202) (o := .cells #[.string t199, .string t200] 27 (0, 0)) (by (with_reducible repeat (first | refine blk_drewN ?_ _ | refine blk_drew ?_ | refine blk_alloc ?_ _)); refine blk_put (cs := #[.string t199, .string (⟨#[]⟩ : ByteArray)]) ?_ 1 _ rfl; (with_reducible repeat (first | refine blk_drewN ?_ _ | refine blk_drew ?_ | refine blk_alloc ?_ _)); refine blk_put (cs := #[.string (⟨#[]⟩ : ByteArray), .string (⟨#[]⟩ : ByteArray)]) ?_ 0 _ rfl; (with_reducible repeat (first | refine blk_drewN ?_ _ | refine blk_drew ?_ | refine blk_alloc ?_ _)); exact BK202.out) k_ hk)); (case aO => exact (by (with_reducible repeat (first | apply Kd.R_alloc | apply Kd.R_drewN | apply Kd.R_drew)); exact Kd.R_mono (Kd.R_far (p := ⟨gb202, 1, none⟩) (Kd.R_far (p := ⟨gb202, 0, none⟩) (Kd.R_mono HO_4.out (fun k_ hk => (⟨hk, hk.2⟩ : _ ∧ k_ ≠ gb202))) (fun _ hk => hk.2) (.string t199)) (fun _ hk => hk.2) (.string t200)) (fun _ hk => hk.1.2))); (case aS => exact (below_size (lb1_ HB.out GE202.out))); (case aL => have := LMc21.out; omega); intro v204 w28 ho hb hg hat; rw [← Ny203.out] at ho; replace HO197 := Aside0.mk (Kd.R_over' (kg_ HO197.out BK202.out) (Kd.R_typed (by (with_reducible repeat (first | apply Kd.R_alloc | apply Kd.R_drewN | apply Kd.R_drew)); exact (Kd.R_mono (Kd.R_far (p := ⟨gb202, 1, none⟩) (Kd.R_far (p := ⟨gb202, 0, none⟩) (Kd.R_mono HO_4.out (fun k_ hk => (⟨hk, hk.2⟩ : _ ∧ k_ ≠ gb202))) (fun _ hk => hk.2) (.string t199)) (fun _ hk => hk.2) (.string t200)) (fun _ h_ => h_.1)))) (by decide) hg); replace BK202 := Aside0.mk (blk_grown (g := gb202) (o := .cells #[.string t199, .string t200] 27 (0, 0)) (by (with_reducible repeat (first | refine blk_drewN ?_ _ | refine blk_drew ?_ | refine blk_alloc ?_ _)); refine blk_put (cs := #[.string t199, .string (⟨#[]⟩ : ByteArray)]) ?_ 1 _ rfl; (with_reducible repeat (first | refine blk_drewN ?_ _ | refine blk_drew ?_ | refine blk_alloc ?_ _)); refine blk_put (cs := #[.string (⟨#[]⟩ : ByteArray), .string (⟨#[]⟩ : ByteArray)]) ?_ 0 _ rfl; (with_reducible repeat (first | refine blk_drewN ?_ _ | refine blk_drew ?_ | refine blk_alloc ?_ _)); exact BK202.out) hg (Kd.R_away HO_4.out (fun _ hk => hk.2))); replace HB := Aside0.mk (hb); have HO205 := Aside0.mk (ho); clear HO_4; clear ho hb hg hat; have p206 : 0 ≤ (0 : Int) := (by omega); have q206 : 0 < (t195.length : Int) := dt_; obtain ⟨ad206, e206, hx206_0⟩ := Kd.at_string (Kd.R_reads' HO197.out).2.2 0 p206 q206; obtain rfl : ad198 = ad206 := (by injection e206); have qi206 : (0 < t195.length) = True := eq_true (by omega); (try rw [show ((0 : Int)).toNat = 0 from rfl] at hx206_0); (try rw [Addr.add_zero'] at hx206_0); replace p206 := eq_true p206; replace q206 := eq_true q206))
            go_roundg kj3
            case measure => have := HK1.out; have := HJ3.out; omega
            case rel => exact ⟨(y203), (wrap64 ((wrap64 (x5_1 + ((rdOf ByteArray.empty t195 0).size : Int))) + 1)), (by first | rfl | (simp; done) | (simp [*]; done)), H', ⟨by have := HK1.out; have := HJ3.out; omega⟩, ⟨krm_ HO205.out (fun _ hk => trivial)⟩, ⟨lb1_ HB.out GE202.out⟩⟩
           ·
            rw [if_neg c21] at H
            exact absurd H (by simp)
          ·
           replace c20 := Bool.eq_false_iff.mpr c20; subst c20
           have H1 : (some (x4_1, x5_1)) = some (r1, r2) := by rw [if_neg (show ¬ (false = true) by decide)] at H; exact H
           clear H; have H := H1; clear H1; simp only [Option.some.injEq, Prod.mk.injEq] at H; obtain ⟨rfl, rfl⟩ := H
           go_wp2_with (first | ((with_reducible refine gate_callee (f := 68) rfl ?_); refine ga_ (some 22) Tryd.func68 #[.string (sx a0 ((x5_1 : Int).toNat) (a0.size)), .int .u8 10] ?_; (with_reducible refine (spec_l1Split.calls kj3 (sx a0 ((x5_1 : Int).toNat) (a0.size)) 10 t195 _ A10.out).mono ?_); rintro e w29 ⟨v196, rfl, ho0, hb⟩; refine ⟨_, rfl, ?_⟩; replace HO_4 := Aside0.mk (Kd.R_below (kr_ HO_4.out) hb); have HO197 := Aside0.mk (Kd.R_lower ho0 (below_size (lb0_ HB.out))); replace HB := Aside0.mk (below_step (lb0_ HB.out) hb); (try clear hb); (try clear hb2); (try clear hk); (try clear hi); (try clear ho0); obtain ⟨Ao30, co30, eo30⟩ := Kd.R_slice HO197.out; subst eo30; have p198 : 0 ≤ (0 : Int) := (by omega); have q198 : 0 < (t195.length : Int) := dt_; obtain ⟨ad198, e198, hx198_0⟩ := Kd.at_string (Kd.R_reads' HO197.out).2.2 0 p198 q198; cases e198; have qi198 : (0 < t195.length) = True := eq_true (by omega); (try rw [show ((0 : Int)).toNat = 0 from rfl] at hx198_0); (try rw [Addr.add_zero'] at hx198_0); replace p198 := eq_true p198; replace q198 := eq_true q198; obtain ⟨Ao31, co31, eo31⟩ := Kd.R_slice HO_4.out; subst eo31) | ((with_reducible refine gate_callee (f := 69) rfl ?_); refine ga_ (some 29) Tryd.func69 #[.string (rdOf ByteArray.empty t195 0), .int .i64 (x4_1.length : Int)] ?_; (with_reducible refine (spec_l27Read.calls kj3 (rdOf ByteArray.empty t195 0) (x4_1.length : Int) t199 t200 false _ A12.out).mono ?_); rintro e w32 ⟨rfl, hb⟩; refine ⟨_, rfl, ?_⟩; replace HO_4 := Aside0.mk (Kd.R_below (kr_ HO_4.out) hb); replace HO197 := Aside0.mk (Kd.R_below (kr_ HO197.out) hb); replace HB := Aside0.mk (below_step (lb0_ HB.out) hb); (try clear hb); (try clear hb2); (try clear hk); (try clear hi)) | ((with_reducible refine gate_dst (N := 7) rfl ?_); (try (refine gate_guard (by rfl) ?_; dsimp only)); refine box_event ?hg (N := 7) ?hd (cs := #[.string (⟨#[]⟩ : ByteArray), .string (⟨#[]⟩ : ByteArray)]) (t := 27) ?hr ?_; (case hd => rfl); (case hg => rfl); (case hr => first | (go_simp; done) | (go_simp; rfl)); intro gb202 hg w33 hbox hb; replace HO_4 := Aside0.mk (Kd.R_below (Kd.R_elderB (kr_ HO_4.out) gb202 (Nat.le_of_eq hg.symm)) hb); replace HO197 := Aside0.mk (Kd.R_below (kr_ HO197.out) hb); have BK202 := Aside0.mk (hbox); have GW202 := Aside0.mk ((bz_ hg (lb0_ HB.out))); have GE202 := Aside0.mk ((bz_ hg (lb0_ HB.out))); replace HB := Aside0.mk (below_step (lb0_ HB.out) hb); clear hb hbox hg; obtain ⟨hcz34_0, hcz34_1⟩ := cz2_ BK202.out; obtain ⟨hfz34_0, hfz34_1⟩ := fz2_ BK202.out))
           go_ret2
           exact ⟨_, rr_, by (with_reducible repeat (first | apply Kd.R_alloc | apply Kd.R_drewN | apply Kd.R_drew)); exact Kd.R_mono (Kd.R_far (p := ⟨gb202, 1, none⟩) (Kd.R_far (p := ⟨gb202, 0, none⟩) (Kd.R_mono HO_4.out (fun k_ hk => (⟨hk, hk.2⟩ : _ ∧ k_ ≠ gb202))) (fun _ hk => hk.2) (.string t199)) (fun _ hk => hk.2) (.string t200)) (fun _ hk => trivial), lb1_ HB.out GE202.out⟩
        ·
         rw [if_neg c11] at H
         exact absurd H (by simp)
       ·
        rw [if_neg c9] at H
        exact absurd H (by simp)
      ·
       rw [if_neg c8] at H
       exact absurd H (by simp)
     ·
      replace c7 := Bool.eq_false_iff.mpr c7
      subst c7
      have H1 : (some (x4_1, x5_1)) = some (r1, r2) := by rw [if_neg (show ¬ (false = true) by decide)] at H; exact H
      clear H
      have H := H1
      clear H1
      simp only [Option.some.injEq, Prod.mk.injEq] at H
      obtain ⟨rfl, rfl⟩ := H
      go_wp2
      go_ret2
      exact ⟨_, rr_, kr_ HO_4.out, lb0_ HB.out⟩
def spec_l27Log.f (k : Nat) (a0_0 : ByteArray) (a0_1 : ByteArray) (a0_2 : Int) : Option (Bool) := if (wrap64 ((a0_0.size : Int) + (a0_1.size : Int))) > 30000 then (some false) else (if a0_0.size + a0_1.size ≤ 9223372036854775807 then ((spec_l27Open.f k (sc a0_0 a0_1)).bind fun bt272 => ((spec_l27Open.f k a0_0).bind fun bt276 => (if bt272.2 = (wrap64 ((a0_0.size : Int) + (a0_1.size : Int))) then (if bt276.2 = (a0_0.size : Int) then (some ((bt272.1.length : Int) == a0_2)) else (some false)) else (some false)))) else (none))
set_option maxHeartbeats 8000000 in
set_option maxRecDepth 100000 in
theorem spec_l27Log.calls (k : Nat) (a0_0 : ByteArray) (a0_1 : ByteArray) (a0_2 : Int) (r : Bool) (w : World) (h : spec_l27Log.f k a0_0 a0_1 a0_2 = some r) :
  Calls Tryd.prog 49 #[.agg #[.string a0_0, .string a0_1, .int .i64 a0_2]] w fun e w' => e = .returned (.bool r) ∧ Below w.heap.size w w' := by
 have hu31 := Tryd.underlying31
 have HB := Aside0.mk (Below.refl w.heap.size w)
 have H : (if (wrap64 ((a0_0.size : Int) + (a0_1.size : Int))) > 30000 then (some false) else (if a0_0.size + a0_1.size ≤ 9223372036854775807 then ((spec_l27Open.f k (sc a0_0 a0_1)).bind fun bt272 => ((spec_l27Open.f k a0_0).bind fun bt276 => (if bt272.2 = (wrap64 ((a0_0.size : Int) + (a0_1.size : Int))) then (if bt276.2 = (a0_0.size : Int) then (some ((bt272.1.length : Int) == a0_2)) else (some false)) else (some false)))) else (none))) = some r := h
 clear h
 by_cases c2 : (wrap64 ((a0_0.size : Int) + (a0_1.size : Int))) > 30000
 ·
  rw [if_pos c2] at H
  have c2b0 : decide (30000 < (wrap64 ((a0_0.size : Int) + (a0_1.size : Int)))) = true := decide_eq_true c2
  try (have c2b0w := c2b0; rw [show wrap64 ((a0_0.size : Int) + (a0_1.size : Int)) = (a0_0.size : Int) + (a0_1.size : Int) from by unfold wrap64; omega] at c2b0w)
  clear c2
  obtain rfl := Option.some.inj H
  go_enter Tryd.func49, Tryd.ntmps49
  go_wp2_with (first | ((with_reducible refine gate_dst (N := 1) rfl ?_); (try (refine gate_guard (by rfl) ?_; dsimp only)); refine box_event ?hg (N := 1) ?hd (cs := #[.string a0_0, .string a0_1, .int .i64 a0_2]) (t := 31) ?hr ?_; (case hd => rfl); (case hg => rfl); (case hr => first | (go_simp; done) | (go_simp; rfl)); intro gb271 hg w3 hbox hb; have BK271 := Aside0.mk (hbox); have GW271 := Aside0.mk ((bz_ hg (lb0_ HB.out))); have GE271 := Aside0.mk ((bz_ hg (lb0_ HB.out))); replace HB := Aside0.mk (below_step (lb0_ HB.out) hb); clear hb hbox hg; obtain ⟨hcz4_0, hcz4_1, hcz4_2⟩ := cz3_ BK271.out; obtain ⟨hfz4_0, hfz4_1, hfz4_2⟩ := fz3_ BK271.out))
  go_ret
  exact ⟨rr_, lb1_ HB.out GE271.out⟩
 ·
  rw [if_neg c2] at H
  have c2b0 : decide (30000 < (wrap64 ((a0_0.size : Int) + (a0_1.size : Int)))) = false := decide_eq_false c2
  try (have c2b0w := c2b0; rw [show wrap64 ((a0_0.size : Int) + (a0_1.size : Int)) = (a0_0.size : Int) + (a0_1.size : Int) from by unfold wrap64; omega] at c2b0w)
  clear c2
  by_cases c5 : a0_0.size + a0_1.size ≤ 9223372036854775807
  ·
   rw [if_pos c5] at H
   have c5b0 := eq_true c5
   try (have c2b0w := c2b0; rw [show wrap64 ((a0_0.size : Int) + (a0_1.size : Int)) = (a0_0.size : Int) + (a0_1.size : Int) from by unfold wrap64; omega] at c2b0w)
   try (have c2b0w := c2b0; rw [show wrap64 ((a0_0.size : Int) + (a0_1.size : Int)) = (a0_0.size : Int) + (a0_1.size : Int) from by unfold wrap64; omega] at c2b0w)
   have c5b1 : decide (a0_0.size + a0_1.size ≤ 9223372036854775807) = true := decide_eq_true c5
   try have c5b2 : (9223372036854775807 < a0_0.size + a0_1.size) = False := eq_false (Nat.not_lt.2 c5)
   replace H := Option.bind_eq_some_iff.mp H
   obtain ⟨⟨t272, t273⟩, A60, H⟩ := H
   replace H : ((spec_l27Open.f k a0_0).bind fun bt276 => (if t273 = (wrap64 ((a0_0.size : Int) + (a0_1.size : Int))) then (if bt276.2 = (a0_0.size : Int) then (some ((t272.length : Int) == a0_2)) else (some false)) else (some false))) = some r := H
   have A6 := Aside0.mk A60
   clear A60
   replace H := Option.bind_eq_some_iff.mp H
   obtain ⟨⟨t276, t277⟩, A70, H⟩ := H
   replace H : (if t273 = (wrap64 ((a0_0.size : Int) + (a0_1.size : Int))) then (if t277 = (a0_0.size : Int) then (some ((t272.length : Int) == a0_2)) else (some false)) else (some false)) = some r := H
   have A7 := Aside0.mk A70
   clear A70
   by_cases c8 : t273 = (wrap64 ((a0_0.size : Int) + (a0_1.size : Int)))
   ·
    rw [if_pos c8] at H
    have c8b0 : (t273 == (wrap64 ((a0_0.size : Int) + (a0_1.size : Int)))) = true := beq_iff_eq.mpr c8
    try (have c8b0w := c8b0; rw [show wrap64 ((a0_0.size : Int) + (a0_1.size : Int)) = (a0_0.size : Int) + (a0_1.size : Int) from by unfold wrap64; omega] at c8b0w)
    have c8b1 : (t273 != (wrap64 ((a0_0.size : Int) + (a0_1.size : Int)))) = false := bne_eq_false_iff_eq.mpr c8
    try (have c8b1w := c8b1; rw [show wrap64 ((a0_0.size : Int) + (a0_1.size : Int)) = (a0_0.size : Int) + (a0_1.size : Int) from by unfold wrap64; omega] at c8b1w)
    clear c8
    by_cases c9 : t277 = (a0_0.size : Int)
    ·
     rw [if_pos c9] at H
     have c9b0 : (t277 == (a0_0.size : Int)) = true := beq_iff_eq.mpr c9
     have c9b1 : (t277 != (a0_0.size : Int)) = false := bne_eq_false_iff_eq.mpr c9
     clear c9
     obtain rfl := Option.some.inj H
     go_enter Tryd.func49, Tryd.ntmps49
     go_wp2_with (first | ((with_reducible refine gate_dst (N := 1) rfl ?_); (try (refine gate_guard (by rfl) ?_; dsimp only)); refine box_event ?hg (N := 1) ?hd (cs := #[.string a0_0, .string a0_1, .int .i64 a0_2]) (t := 31) ?hr ?_; (case hd => rfl); (case hg => rfl); (case hr => first | (go_simp; done) | (go_simp; rfl)); intro gb271 hg w10 hbox hb; have BK271 := Aside0.mk (hbox); have GW271 := Aside0.mk ((bz_ hg (lb0_ HB.out))); have GE271 := Aside0.mk ((bz_ hg (lb0_ HB.out))); replace HB := Aside0.mk (below_step (lb0_ HB.out) hb); clear hb hbox hg; obtain ⟨hcz11_0, hcz11_1, hcz11_2⟩ := cz3_ BK271.out; obtain ⟨hfz11_0, hfz11_1, hfz11_2⟩ := fz3_ BK271.out) | ((with_reducible refine gate_callee (f := 47) rfl ?_); refine ga_ (some 21) Tryd.func47 #[.string (sc a0_0 a0_1)] ?_; (with_reducible refine (spec_l27Open.calls k (sc a0_0 a0_1) t272 t273 _ A6.out).mono ?_); rintro e w12 ⟨v274, rfl, ho0, hb⟩; refine ⟨_, rfl, ?_⟩; have HO275 := Aside0.mk (Kd.R_lower ho0 (below_size (lb1_ HB.out GE271.out))); replace BK271 := Aside0.mk (bb_ (bk_ BK271.out) hb); replace HB := Aside0.mk (below_step (lb1_ HB.out GE271.out) hb); (try clear hb); (try clear hb2); (try clear hk); (try clear hi); (try clear ho0); obtain ⟨hcz13_0, hcz13_1, hcz13_2⟩ := cz3_ BK271.out; obtain ⟨hfz13_0, hfz13_1, hfz13_2⟩ := fz3_ BK271.out) | ((with_reducible refine gate_callee (f := 47) rfl ?_); refine ga_ (some 27) Tryd.func47 #[.string a0_0] ?_; (with_reducible refine (spec_l27Open.calls k a0_0 t276 t277 _ A7.out).mono ?_); rintro e w14 ⟨v278, rfl, ho0, hb⟩; refine ⟨_, rfl, ?_⟩; have HO279 := Aside0.mk (Kd.R_lower (Kd.R_new' ho0 (Kd.R_lt (kr_ HO275.out))) (below_size (lb1_ HB.out GE271.out))); replace HO275 := Aside0.mk (Kd.R_elder' (kr_ HO275.out) (Kd.R_base ho0) hb); replace BK271 := Aside0.mk (bb_ (bk_ BK271.out) hb); replace HB := Aside0.mk (below_step (lb1_ HB.out GE271.out) hb); (try clear hb); (try clear hb2); (try clear hk); (try clear hi); (try clear ho0); obtain ⟨hcz15_0, hcz15_1, hcz15_2⟩ := cz3_ BK271.out; obtain ⟨hfz15_0, hfz15_1, hfz15_2⟩ := fz3_ BK271.out; obtain ⟨Ao16, co16, eo16⟩ := Kd.R_slice HO275.out; subst eo16))
     go_ret
     exact ⟨rr_, lb1_ HB.out GE271.out⟩
    ·
     rw [if_neg c9] at H
     have c9b0 : (t277 == (a0_0.size : Int)) = false := beq_eq_false_iff_ne.mpr c9
     have c9b1 : (t277 != (a0_0.size : Int)) = true := bne_iff_ne.mpr c9
     obtain rfl := Option.some.inj H
     go_enter Tryd.func49, Tryd.ntmps49
     go_wp2_with (first | ((with_reducible refine gate_dst (N := 1) rfl ?_); (try (refine gate_guard (by rfl) ?_; dsimp only)); refine box_event ?hg (N := 1) ?hd (cs := #[.string a0_0, .string a0_1, .int .i64 a0_2]) (t := 31) ?hr ?_; (case hd => rfl); (case hg => rfl); (case hr => first | (go_simp; done) | (go_simp; rfl)); intro gb271 hg w17 hbox hb; have BK271 := Aside0.mk (hbox); have GW271 := Aside0.mk ((bz_ hg (lb0_ HB.out))); have GE271 := Aside0.mk ((bz_ hg (lb0_ HB.out))); replace HB := Aside0.mk (below_step (lb0_ HB.out) hb); clear hb hbox hg; obtain ⟨hcz18_0, hcz18_1, hcz18_2⟩ := cz3_ BK271.out; obtain ⟨hfz18_0, hfz18_1, hfz18_2⟩ := fz3_ BK271.out) | ((with_reducible refine gate_callee (f := 47) rfl ?_); refine ga_ (some 21) Tryd.func47 #[.string (sc a0_0 a0_1)] ?_; (with_reducible refine (spec_l27Open.calls k (sc a0_0 a0_1) t272 t273 _ A6.out).mono ?_); rintro e w19 ⟨v274, rfl, ho0, hb⟩; refine ⟨_, rfl, ?_⟩; have HO275 := Aside0.mk (Kd.R_lower ho0 (below_size (lb1_ HB.out GE271.out))); replace BK271 := Aside0.mk (bb_ (bk_ BK271.out) hb); replace HB := Aside0.mk (below_step (lb1_ HB.out GE271.out) hb); (try clear hb); (try clear hb2); (try clear hk); (try clear hi); (try clear ho0); obtain ⟨hcz20_0, hcz20_1, hcz20_2⟩ := cz3_ BK271.out; obtain ⟨hfz20_0, hfz20_1, hfz20_2⟩ := fz3_ BK271.out) | ((with_reducible refine gate_callee (f := 47) rfl ?_); refine ga_ (some 27) Tryd.func47 #[.string a0_0] ?_; (with_reducible refine (spec_l27Open.calls k a0_0 t276 t277 _ A7.out).mono ?_); rintro e w21 ⟨v278, rfl, ho0, hb⟩; refine ⟨_, rfl, ?_⟩; have HO279 := Aside0.mk (Kd.R_lower (Kd.R_new' ho0 (Kd.R_lt (kr_ HO275.out))) (below_size (lb1_ HB.out GE271.out))); replace HO275 := Aside0.mk (Kd.R_elder' (kr_ HO275.out) (Kd.R_base ho0) hb); replace BK271 := Aside0.mk (bb_ (bk_ BK271.out) hb); replace HB := Aside0.mk (below_step (lb1_ HB.out GE271.out) hb); (try clear hb); (try clear hb2); (try clear hk); (try clear hi); (try clear ho0); obtain ⟨hcz22_0, hcz22_1, hcz22_2⟩ := cz3_ BK271.out; obtain ⟨hfz22_0, hfz22_1, hfz22_2⟩ := fz3_ BK271.out))
     go_ret
     exact ⟨rr_, lb1_ HB.out GE271.out⟩
   ·
    rw [if_neg c8] at H
    have c8b0 : (t273 == (wrap64 ((a0_0.size : Int) + (a0_1.size : Int)))) = false := beq_eq_false_iff_ne.mpr c8
    try (have c8b0w := c8b0; rw [show wrap64 ((a0_0.size : Int) + (a0_1.size : Int)) = (a0_0.size : Int) + (a0_1.size : Int) from by unfold wrap64; omega] at c8b0w)
    have c8b1 : (t273 != (wrap64 ((a0_0.size : Int) + (a0_1.size : Int)))) = true := bne_iff_ne.mpr c8
    try (have c8b1w := c8b1; rw [show wrap64 ((a0_0.size : Int) + (a0_1.size : Int)) = (a0_0.size : Int) + (a0_1.size : Int) from by unfold wrap64; omega] at c8b1w)
    obtain rfl := Option.some.inj H
    go_enter Tryd.func49, Tryd.ntmps49
    go_wp2_with (first | ((with_reducible refine gate_dst (N := 1) rfl ?_); (try (refine gate_guard (by rfl) ?_; dsimp only)); refine box_event ?hg (N := 1) ?hd (cs := #[.string a0_0, .string a0_1, .int .i64 a0_2]) (t := 31) ?hr ?_; (case hd => rfl); (case hg => rfl); (case hr => first | (go_simp; done) | (go_simp; rfl)); intro gb271 hg w23 hbox hb; have BK271 := Aside0.mk (hbox); have GW271 := Aside0.mk ((bz_ hg (lb0_ HB.out))); have GE271 := Aside0.mk ((bz_ hg (lb0_ HB.out))); replace HB := Aside0.mk (below_step (lb0_ HB.out) hb); clear hb hbox hg; obtain ⟨hcz24_0, hcz24_1, hcz24_2⟩ := cz3_ BK271.out; obtain ⟨hfz24_0, hfz24_1, hfz24_2⟩ := fz3_ BK271.out) | ((with_reducible refine gate_callee (f := 47) rfl ?_); refine ga_ (some 21) Tryd.func47 #[.string (sc a0_0 a0_1)] ?_; (with_reducible refine (spec_l27Open.calls k (sc a0_0 a0_1) t272 t273 _ A6.out).mono ?_); rintro e w25 ⟨v274, rfl, ho0, hb⟩; refine ⟨_, rfl, ?_⟩; have HO275 := Aside0.mk (Kd.R_lower ho0 (below_size (lb1_ HB.out GE271.out))); replace BK271 := Aside0.mk (bb_ (bk_ BK271.out) hb); replace HB := Aside0.mk (below_step (lb1_ HB.out GE271.out) hb); (try clear hb); (try clear hb2); (try clear hk); (try clear hi); (try clear ho0); obtain ⟨hcz26_0, hcz26_1, hcz26_2⟩ := cz3_ BK271.out; obtain ⟨hfz26_0, hfz26_1, hfz26_2⟩ := fz3_ BK271.out) | ((with_reducible refine gate_callee (f := 47) rfl ?_); refine ga_ (some 27) Tryd.func47 #[.string a0_0] ?_; (with_reducible refine (spec_l27Open.calls k a0_0 t276 t277 _ A7.out).mono ?_); rintro e w27 ⟨v278, rfl, ho0, hb⟩; refine ⟨_, rfl, ?_⟩; have HO279 := Aside0.mk (Kd.R_lower (Kd.R_new' ho0 (Kd.R_lt (kr_ HO275.out))) (below_size (lb1_ HB.out GE271.out))); replace HO275 := Aside0.mk (Kd.R_elder' (kr_ HO275.out) (Kd.R_base ho0) hb); replace BK271 := Aside0.mk (bb_ (bk_ BK271.out) hb); replace HB := Aside0.mk (below_step (lb1_ HB.out GE271.out) hb); (try clear hb); (try clear hb2); (try clear hk); (try clear hi); (try clear ho0); obtain ⟨hcz28_0, hcz28_1, hcz28_2⟩ := cz3_ BK271.out; obtain ⟨hfz28_0, hfz28_1, hfz28_2⟩ := fz3_ BK271.out))
    go_ret
    exact ⟨rr_, lb1_ HB.out GE271.out⟩
  ·
   rw [if_neg c5] at H
   exact absurd H (by simp)
def spec_CrashLog.f (k : Nat) (a0_0 : ByteArray) (a0_1 : ByteArray) (a0_2 : Int) (a1 : Int) (a2 : Bool) : Option (ByteArray × Bool) :=
 (spec_l27Log.f k a0_0 a0_1 a0_2).bind fun t => if t = true then (if 0 ≤ a1 ∧ a1 ≤ (a0_1.size : Int) then (if a0_0.size + a0_1.size ≤ 1000000 then (if a2 = true ∧ 0 < a1 then some (sc a0_0 ⟨(flipL_ (sx a0_1 0 a1.toNat).data.toList).toArray⟩, true) else some (sc a0_0 (sx a0_1 0 a1.toNat), true)) else none) else some (⟨#[]⟩, false)) else some (⟨#[]⟩, false)
set_option maxHeartbeats 4000000 in
set_option maxRecDepth 100000 in
theorem spec_CrashLog.calls (k : Nat) (a0_0 : ByteArray) (a0_1 : ByteArray) (a0_2 : Int) (a1 : Int) (a2 : Bool) (r1 : ByteArray) (r2 : Bool) (w : World) (h : spec_CrashLog.f k a0_0 a0_1 a0_2 a1 a2 = some (r1, r2)) :
  Calls Tryd.prog 24 #[.agg #[.string a0_0, .string a0_1, .int .i64 a0_2], .int .i64 a1, .bool a2] w fun e w' => e = .returned (.tuple #[.string r1, .bool r2]) ∧ Below w.heap.size w w' := by
 unfold spec_CrashLog.f at h
 replace h := Option.bind_eq_some_iff.mp h
 obtain ⟨t, e1, h⟩ := h
 have E1 := Aside0.mk e1
 have hB0 := below_alloc (Below.refl w.heap.size w) (.cells #[.string a0_0, .string a0_1, .int .i64 a0_2] 31)
 have HB0 := Aside0.mk hB0
 clear e1 hB0
 cases t with
 | false =>
  rw [if_neg (by decide)] at h
  simp only [Option.some.injEq, Prod.mk.injEq] at h
  obtain ⟨rfl, rfl⟩ := h
  go_enter Tryd.func24, Tryd.ntmps24
  go_wp2_with (first | (go_at_call 49; (with_reducible refine (spec_l27Log.calls k a0_0 a0_1 a0_2 false _ E1.out).mono ?_); rintro e w1 ⟨rfl, hb⟩))
  go_ret2
  exact ⟨rfl, below_step HB0.out hb⟩
 | true =>
  rw [if_pos rfl] at h
  by_cases g : 0 ≤ a1 ∧ a1 ≤ (a0_1.size : Int)
  ·
   rw [if_pos g] at h
   have EW := Aside0.mk (show spec_l1In.f a1 0 (a0_1.size : Int) = some true from by unfold spec_l1In.f; rw [if_pos g.1, decide_eq_true g.2])
   by_cases z : a0_0.size + a0_1.size ≤ 1000000
   ·
    rw [if_pos z] at h
    obtain ⟨n, rfl⟩ : ∃ n : Nat, a1 = n := ⟨a1.toNat, by omega⟩
    rw [Int.toNat_natCast] at h
    obtain ⟨X, hX⟩ : ∃ X, X = sx a0_1 0 n := ⟨_, rfl⟩
    rw [← hX] at h
    have hXn : X.size = n := by
     rw [hX]
     show (a0_1.extract 0 n).size = _
     rw [ByteArray.size_extract]
     omega
    have hXl : X.data.toList.length = n := Array.length_toList.trans hXn
    have HX := Aside0.mk hX
    have q1 : decide (0 ≤ (n : Int)) = true := decide_eq_true g.1
    have q2 : decide ((n : Int) ≤ (a0_1.size : Int)) = true := decide_eq_true g.2
    have q5 : n ≤ a0_1.size := by omega
    clear hX
    have main : ∀ (Y : ByteArray) (hY : Y.size = n) (W : World) (hBW : Below w.heap.size w W) (hBK : W.heap[w.heap.size]? = some (.cells #[.string a0_0, .string a0_1, .int .i64 a0_2] 31 (0, 0))), True := fun _ _ _ _ _ => trivial
    by_cases y : a2 = true ∧ 0 < (n : Int)
    ·
     rw [if_pos y] at h
     obtain ⟨rfl, y2⟩ := y
     obtain ⟨Y, hY⟩ : ∃ Y : ByteArray, Y = ⟨(flipL_ X.data.toList).toArray⟩ := ⟨_, rfl⟩
     rw [← hY] at h
     simp only [Option.some.injEq, Prod.mk.injEq] at h
     obtain ⟨rfl, rfl⟩ := h
     have hYs : Y.size = n := by
      rw [hY]
      show (flipL_ X.data.toList).toArray.size = _
      rw [List.size_toArray, flip_len_, hXl]
     have hlim : (9223372036854775807 < a0_0.size + Y.size) = False := eq_false (by omega)
     have q6 : decide (0 < (n : Int)) = true := decide_eq_true y2
     have q8 : decide (0 < n) = true := decide_eq_true (by omega)
     have HY := Aside0.mk hY
     clear hY hYs main
     go_enter Tryd.func24, Tryd.ntmps24
     go_upto_region 3 with (first | (go_at_call 49; (with_reducible refine (spec_l27Log.calls k a0_0 a0_1 a0_2 true _ E1.out).mono ?_); rintro e w1 ⟨rfl, hb1⟩; have HBK := Aside0.mk (blk_below (blk_new w _) hb1); have HB := Aside0.mk (below_step HB0.out hb1); clear hb1; obtain ⟨c0, c1, c2⟩ := cz3_ HBK.out) | (go_at_call 42; (with_reducible refine (spec_l1In.calls n 0 (a0_1.size : Int) true _ EW.out).mono ?_); rintro e w2 ⟨rfl, hd⟩; have hb2 : Below w1.heap.size w1 w2 := (by obtain ⟨n, rfl⟩ := hd; exact pw_below_drewN (Below.refl _ _) n); clear hd; replace HBK := Aside0.mk (blk_below HBK.out hb2); replace HB := Aside0.mk (below_step HB.out hb2); clear hb2 c0 c1 c2; obtain ⟨c0, c1, c2⟩ := cz3_ HBK.out))
     obtain ⟨gr, cap, w3, hcv, hc3, hf3, hg3, hB3, hBW, hge⟩ := bytes_conv_ w w2 X HB.out
     have hlt := blk_lt HBK.out
     have hne1 : gr ≠ w.heap.size := by omega
     have hne2 : w.heap.size ≠ gr := by omega
     have HK3 := blk_below HBK.out hBW
     obtain ⟨d0, d1, d2⟩ := cz3_ HK3
     have hfl := hf3 (n - 1) (by omega)
     have hback := bytes_back_ _ gr cap n _ ((flip_len_ _).trans hXl) (flip_cells_ w3 gr X.data.toList (by omega) hc3)
     rw [hXl, ← HY.out] at hback
     obtain ⟨b, hb⟩ : ∃ b, b = X.data.toList.getD (n - 1) 0 := ⟨_, rfl⟩
     have hlast : w3.cell? ⟨gr, n - 1, none⟩ = some (.int .u8 ((b.toNat : Nat) : Int)) := by
      rw [hc3 (n - 1) (by omega), hb, List.getD_eq_getElem?_getD, List.getElem?_eq_getElem (by omega)]
      rfl
     rw [← hb] at hback
     have hm : (255 - ((b.toNat : Nat) : Int)) % 256 = 255 - ((b.toNat : Nat) : Int) := by
      have := b.toNat_lt
      omega
     rw [← hm] at hback
     rw [hXn, HX.out] at hcv
     clear hc3 hf3 hm hb hXl HK3 hlt hge hBW d1 d2 hXn
     go_wp2
     go_ret2
     exact ⟨rfl, below_set hB3 hg3⟩
    ·
     rw [if_neg y] at h
     simp only [Option.some.injEq, Prod.mk.injEq] at h
     obtain ⟨rfl, rfl⟩ := h
     have hlim : (9223372036854775807 < a0_0.size + X.size) = False := eq_false (by omega)
     clear main
     go_enter Tryd.func24, Tryd.ntmps24
     go_upto_region 3 with (first | (go_at_call 49; (with_reducible refine (spec_l27Log.calls k a0_0 a0_1 a0_2 true _ E1.out).mono ?_); rintro e w1 ⟨rfl, hb1⟩; have HBK := Aside0.mk (blk_below (blk_new w _) hb1); have HB := Aside0.mk (below_step HB0.out hb1); clear hb1; obtain ⟨c0, c1, c2⟩ := cz3_ HBK.out) | (go_at_call 42; (with_reducible refine (spec_l1In.calls n 0 (a0_1.size : Int) true _ EW.out).mono ?_); rintro e w2 ⟨rfl, hd⟩; have hb2 : Below w1.heap.size w1 w2 := (by obtain ⟨n, rfl⟩ := hd; exact pw_below_drewN (Below.refl _ _) n); clear hd; replace HBK := Aside0.mk (blk_below HBK.out hb2); replace HB := Aside0.mk (below_step HB.out hb2); clear hb2 c0 c1 c2; obtain ⟨c0, c1, c2⟩ := cz3_ HBK.out))
     obtain ⟨gr, cap, w3, hcv, hc3, hf3, hg3, hB3, hBW, hge⟩ := bytes_conv_ w w2 X HB.out
     have HK3 := blk_below HBK.out hBW
     obtain ⟨d0, d1, d2⟩ := cz3_ HK3
     have hback := bytes_back_ w3 gr cap n _ hXl hc3
     rw [show (⟨X.data.toList.toArray⟩ : ByteArray) = X from by rw [Array.toArray_toList]] at hback
     rw [hXn, HX.out] at hcv
     clear hc3 hf3 hXl HK3 hge hBW d1 d2 hXn
     cases a2 with
     | false =>
      go_wp2
      go_ret2
      exact ⟨rfl, hB3⟩
     | true =>
      have q4 : decide (0 < (n : Int)) = false := decide_eq_false (fun h => y ⟨rfl, h⟩)
      have q7 : decide (0 < n) = false := decide_eq_false (fun h => y ⟨rfl, by omega⟩)
      clear y
      go_wp2
      go_ret2
      exact ⟨rfl, hB3⟩
   ·
    rw [if_neg z] at h
    cases h
  ·
   rw [if_neg g] at h
   simp only [Option.some.injEq, Prod.mk.injEq] at h
   obtain ⟨rfl, rfl⟩ := h
   have EW := Aside0.mk (show spec_l1In.f a1 0 (a0_1.size : Int) = some false from by
    unfold spec_l1In.f
    by_cases c : a1 ≥ 0
    ·
     rw [if_pos c, decide_eq_false (fun h => g ⟨c, h⟩)]
    ·
     rw [if_neg c])
   go_enter Tryd.func24, Tryd.ntmps24
   go_wp2_with (first | (go_at_call 49; (with_reducible refine (spec_l27Log.calls k a0_0 a0_1 a0_2 true _ E1.out).mono ?_); rintro e w1 ⟨rfl, hb1⟩; have HBK := Aside0.mk (blk_below (blk_new w _) hb1); have HB := Aside0.mk (below_step HB0.out hb1); clear hb1; obtain ⟨c0, c1, c2⟩ := cz3_ HBK.out) | (go_at_call 42; (with_reducible refine (spec_l1In.calls a1 0 (a0_1.size : Int) false _ EW.out).mono ?_); rintro e w2 ⟨rfl, hd⟩; have hb2 : Below w1.heap.size w1 w2 := (by obtain ⟨n, rfl⟩ := hd; exact pw_below_drewN (Below.refl _ _) n)))
   go_ret2
   exact ⟨rfl, below_step HB.out hb2⟩
def impl_CrashLog.f (k : Nat) (a0_0 : ByteArray) (a0_1 : ByteArray) (a0_2 : Int) (a1 : Int) (a2 : Bool) : Option (ByteArray × Bool) :=
 (impl_IsValidLog.f k a0_0 a0_1 a0_2).bind fun t => if t = true then (if 0 ≤ a1 ∧ a1 ≤ (a0_1.size : Int) then (if a0_0.size + a0_1.size ≤ 1000000 then (if a2 = true ∧ 0 < a1 then some (⟨(flipL_ (sc a0_0 (sx a0_1 0 a1.toNat)).data.toList).toArray⟩, true) else some (sc a0_0 (sx a0_1 0 a1.toNat), true)) else none) else some (⟨#[]⟩, false)) else some (⟨#[]⟩, false)
set_option maxHeartbeats 4000000 in
set_option maxRecDepth 100000 in
theorem impl_CrashLog.calls (k : Nat) (a0_0 : ByteArray) (a0_1 : ByteArray) (a0_2 : Int) (a1 : Int) (a2 : Bool) (r1 : ByteArray) (r2 : Bool) (w : World) (h : impl_CrashLog.f k a0_0 a0_1 a0_2 a1 a2 = some (r1, r2)) (hT : Tb w) :
  Calls Tryd.prog 25 #[.agg #[.string a0_0, .string a0_1, .int .i64 a0_2], .int .i64 a1, .bool a2] w fun e w' => e = .returned (.tuple #[.string r1, .bool r2]) ∧ Below w.heap.size w w' := by
 unfold impl_CrashLog.f at h
 replace h := Option.bind_eq_some_iff.mp h
 obtain ⟨t, e1, h⟩ := h
 have E1 := Aside0.mk e1
 have HT := Aside0.mk hT
 have hB0 := below_alloc (Below.refl w.heap.size w) (.cells #[.string a0_0, .string a0_1, .int .i64 a0_2] 31)
 have HB0 := Aside0.mk hB0
 clear e1 hT hB0
 cases t with
 | false =>
  rw [if_neg (by decide)] at h
  simp only [Option.some.injEq, Prod.mk.injEq] at h
  obtain ⟨rfl, rfl⟩ := h
  go_enter Tryd.func25, Tryd.ntmps25
  go_wp2_with (first | (go_at_call 23; (with_reducible refine (impl_IsValidLog.calls k a0_0 a0_1 a0_2 false _ E1.out (HT.out.step HB0.out)).mono ?_); rintro e w1 ⟨rfl, hb⟩))
  go_ret2
  exact ⟨rfl, below_step HB0.out hb⟩
 | true =>
  rw [if_pos rfl] at h
  by_cases g : 0 ≤ a1 ∧ a1 ≤ (a0_1.size : Int)
  ·
   rw [if_pos g] at h
   have EW := Aside0.mk (show impl_within.f a1 0 (a0_1.size : Int) = some true from by unfold impl_within.f; rw [if_pos g.1, decide_eq_true g.2])
   by_cases z : a0_0.size + a0_1.size ≤ 1000000
   ·
    rw [if_pos z] at h
    obtain ⟨X, hX⟩ : ∃ X, X = sc a0_0 (sx a0_1 0 a1.toNat) := ⟨_, rfl⟩
    rw [← hX] at h
    have hXs : X.size ≤ 1000000 := by
     rw [hX]
     show (a0_0 ++ a0_1.extract 0 a1.toNat).size ≤ _
     rw [ByteArray.size_append, ByteArray.size_extract]
     omega
    have HX := Aside0.mk hX
    have q1 : decide (0 ≤ a1) = true := decide_eq_true g.1
    have q2 : decide (a1 ≤ (a0_1.size : Int)) = true := decide_eq_true g.2
    have g' := g
    by_cases y : a2 = true ∧ 0 < a1
    ·
     rw [if_pos y] at h
     simp only [Option.some.injEq, Prod.mk.injEq] at h
     obtain ⟨rfl, rfl⟩ := h
     clear hX
     go_enter Tryd.func25, Tryd.ntmps25
     go_upto_region 3 with (first | (go_at_call 23; (with_reducible refine (impl_IsValidLog.calls k a0_0 a0_1 a0_2 true _ E1.out (HT.out.step HB0.out)).mono ?_); rintro e w1 ⟨rfl, hb1⟩; have HBK := Aside0.mk (blk_below (blk_new w _) hb1); have HB := Aside0.mk (below_step HB0.out hb1); clear hb1; obtain ⟨c0, c1, c2⟩ := cz3_ HBK.out) | (go_at_call 45; (with_reducible refine (impl_within.calls a1 0 (a0_1.size : Int) true _ EW.out).mono ?_); rintro e w2 ⟨rfl, hd⟩; have hb2 : Below w1.heap.size w1 w2 := (by obtain ⟨n, rfl⟩ := hd; exact pw_below_drewN (Below.refl _ _) n); clear hd; replace HBK := Aside0.mk (blk_below HBK.out hb2); replace HB := Aside0.mk (below_step HB.out hb2); clear hb2 c0 c1 c2; obtain ⟨c0, c1, c2⟩ := cz3_ HBK.out))
     have hsx : (sx a0_1 0 a1.toNat).size ≤ a0_1.size := by
      show (a0_1.extract 0 a1.toNat).size ≤ _
      rw [ByteArray.size_extract]
      omega
     have hlim : (9223372036854775807 < a0_0.size + (sx a0_1 0 a1.toNat).size) = False := eq_false (by omega)
     go_still_tail 7, (by kernel_rfl)
     rw [← HX.out]
     generalize hW : ({ heap := w2.heap, tape := w2.tape, drawn := w2.drawn + 1, os := w2.os, output := w2.output } : World) = W
     have hBW : Below w.heap.size w W := by
      rw [← hW]
      exact HB.out.drew
     clear hW c0 c1 c2 HBK HB
     obtain ⟨gr, cap, w3, hcv, hc3, hf3, hg3, hB3, _, _⟩ := bytes_conv_ w W X hBW
     have hXl : X.data.toList.length = X.size := Array.length_toList
     have hX0 : 0 < X.size := by
      rw [HX.out]
      show 0 < (a0_0 ++ a0_1.extract 0 a1.toNat).size
      rw [ByteArray.size_append, ByteArray.size_extract]
      omega
     have hfl := hf3 (X.size - 1) (by omega)
     have hback := bytes_back_ _ gr cap X.size _ ((flip_len_ _).trans hXl) (flip_cells_ w3 gr X.data.toList (by omega) hc3)
     rw [hXl] at hback
     obtain ⟨b, hb⟩ : ∃ b, b = X.data.toList.getD (X.size - 1) 0 := ⟨_, rfl⟩
     have hlast : w3.cell? ⟨gr, X.size - 1, none⟩ = some (.int .u8 ((b.toNat : Nat) : Int)) := by
      rw [hc3 (X.size - 1) (by omega), hb, List.getD_eq_getElem?_getD, List.getElem?_eq_getElem (by omega)]
      rfl
     rw [← hb] at hback
     have hm : (255 - ((b.toNat : Nat) : Int)) % 256 = 255 - ((b.toNat : Nat) : Int) := by
      have := b.toNat_lt
      omega
     rw [← hm] at hback
     clear hc3 hf3 hm hb hXl
     go_wp2
     go_ret2
     exact ⟨rfl, below_set hB3 hg3⟩
    ·
     rw [if_neg y] at h
     simp only [Option.some.injEq, Prod.mk.injEq] at h
     obtain ⟨rfl, rfl⟩ := h
     have q3 : (if a2 = true then decide (0 < a1) else false) = false := by
      by_cases c : a2 = true
      ·
       rw [if_pos c]
       exact decide_eq_false (fun h => y ⟨c, h⟩)
      ·
       rw [if_neg c]
     clear hX
     go_enter Tryd.func25, Tryd.ntmps25
     go_upto_region 3 with (first | (go_at_call 23; (with_reducible refine (impl_IsValidLog.calls k a0_0 a0_1 a0_2 true _ E1.out (HT.out.step HB0.out)).mono ?_); rintro e w1 ⟨rfl, hb1⟩; have HBK := Aside0.mk (blk_below (blk_new w _) hb1); have HB := Aside0.mk (below_step HB0.out hb1); clear hb1; obtain ⟨c0, c1, c2⟩ := cz3_ HBK.out) | (go_at_call 45; (with_reducible refine (impl_within.calls a1 0 (a0_1.size : Int) true _ EW.out).mono ?_); rintro e w2 ⟨rfl, hd⟩; have hb2 : Below w1.heap.size w1 w2 := (by obtain ⟨n, rfl⟩ := hd; exact pw_below_drewN (Below.refl _ _) n); clear hd; replace HBK := Aside0.mk (blk_below HBK.out hb2); replace HB := Aside0.mk (below_step HB.out hb2); clear hb2 c0 c1 c2; obtain ⟨c0, c1, c2⟩ := cz3_ HBK.out))
     have hsx : (sx a0_1 0 a1.toNat).size ≤ a0_1.size := by
      show (a0_1.extract 0 a1.toNat).size ≤ _
      rw [ByteArray.size_extract]
      omega
     have hlim : (9223372036854775807 < a0_0.size + (sx a0_1 0 a1.toNat).size) = False := eq_false (by omega)
     go_still_tail 7, (by kernel_rfl)
     rw [← HX.out]
     generalize hW : ({ heap := w2.heap, tape := w2.tape, drawn := w2.drawn + 1, os := w2.os, output := w2.output } : World) = W
     have hBW : Below w.heap.size w W := by
      rw [← hW]
      exact HB.out.drew
     clear hW c0 c1 c2 HBK HB
     obtain ⟨gr, cap, w3, hcv, hc3, hf3, hg3, hB3, _, _⟩ := bytes_conv_ w W X hBW
     have hXl : X.data.toList.length = X.size := Array.length_toList
     have hback := bytes_back_ w3 gr cap X.size _ hXl hc3
     rw [show (⟨X.data.toList.toArray⟩ : ByteArray) = X from by rw [Array.toArray_toList]] at hback
     clear hc3 hf3 hXl
     cases a2 with
     | false =>
      go_wp2
      go_ret2
      exact ⟨rfl, hB3⟩
     | true =>
      have q4 : decide (0 < a1) = false := decide_eq_false (fun h => y ⟨rfl, h⟩)
      clear q3 y
      go_wp2
      go_ret2
      exact ⟨rfl, hB3⟩
   ·
    rw [if_neg z] at h
    cases h
  ·
   rw [if_neg g] at h
   simp only [Option.some.injEq, Prod.mk.injEq] at h
   obtain ⟨rfl, rfl⟩ := h
   have EW := Aside0.mk (show impl_within.f a1 0 (a0_1.size : Int) = some false from by
    unfold impl_within.f
    by_cases c : a1 ≥ 0
    ·
     rw [if_pos c, decide_eq_false (fun h => g ⟨c, h⟩)]
    ·
     rw [if_neg c])
   go_enter Tryd.func25, Tryd.ntmps25
   go_wp2_with (first | (go_at_call 23; (with_reducible refine (impl_IsValidLog.calls k a0_0 a0_1 a0_2 true _ E1.out (HT.out.step HB0.out)).mono ?_); rintro e w1 ⟨rfl, hb1⟩; have HBK := Aside0.mk (blk_below (blk_new w _) hb1); have HB := Aside0.mk (below_step HB0.out hb1); clear hb1; obtain ⟨c0, c1, c2⟩ := cz3_ HBK.out) | (go_at_call 45; (with_reducible refine (impl_within.calls a1 0 (a0_1.size : Int) false _ EW.out).mono ?_); rintro e w2 ⟨rfl, hd⟩; have hb2 : Below w1.heap.size w1 w2 := (by obtain ⟨n, rfl⟩ := hd; exact pw_below_drewN (Below.refl _ _) n)))
   go_ret2
   exact ⟨rfl, below_step HB.out hb2⟩
def spec_LogRecords.f (k : Nat) (a0_0 : ByteArray) (a0_1 : ByteArray) (a0_2 : Int) : Option ((List (S27)) × Bool) := (spec_l27Log.f k a0_0 a0_1 a0_2).bind fun t387 => (if t387 = true then (if a0_0.size + a0_1.size ≤ 9223372036854775807 then ((spec_l27Open.f k (sc a0_0 a0_1)).bind fun bt388 => (some (bt388.1, true))) else (none)) else (some ((([] : List (S27))), false)))
set_option maxHeartbeats 8000000 in
set_option maxRecDepth 100000 in
theorem spec_LogRecords.calls (k : Nat) (a0_0 : ByteArray) (a0_1 : ByteArray) (a0_2 : Int) (r1 : List (S27)) (r2 : Bool) (w : World) (h : spec_LogRecords.f k a0_0 a0_1 a0_2 = some (r1, r2)) :
  Calls Tryd.prog 30 #[.agg #[.string a0_0, .string a0_1, .int .i64 a0_2]] w fun e w' => ∃ v0_ : Value, e = .returned (.tuple #[v0_, .bool r2]) ∧ Kd.R k27 27 w' w.heap.size (fun _ => True) v0_ r1 ∧ Below w.heap.size w w' := by
 have hu31 := Tryd.underlying31
 have HB := Aside0.mk (Below.refl w.heap.size w)
 have H : ((spec_l27Log.f k a0_0 a0_1 a0_2).bind fun t387 => (if t387 = true then (if a0_0.size + a0_1.size ≤ 9223372036854775807 then ((spec_l27Open.f k (sc a0_0 a0_1)).bind fun bt388 => (some (bt388.1, true))) else (none)) else (some ((([] : List (S27))), false)))) = some (r1, r2) := h
 clear h
 replace H := Option.bind_eq_some_iff.mp H
 obtain ⟨t387, A20, H⟩ := H
 replace H : (if t387 = true then (if a0_0.size + a0_1.size ≤ 9223372036854775807 then ((spec_l27Open.f k (sc a0_0 a0_1)).bind fun bt388 => (some (bt388.1, true))) else (none)) else (some ((([] : List (S27))), false))) = some (r1, r2) := H
 have A2 := Aside0.mk A20
 clear A20
 by_cases c3 : t387 = true
 ·
  subst c3
  have H1 : (if a0_0.size + a0_1.size ≤ 9223372036854775807 then ((spec_l27Open.f k (sc a0_0 a0_1)).bind fun bt388 => (some (bt388.1, true))) else (none)) = some (r1, r2) := by rw [if_pos rfl] at H; exact H
  clear H
  have H := H1
  clear H1
  by_cases c4 : a0_0.size + a0_1.size ≤ 9223372036854775807
  ·
   rw [if_pos c4] at H
   have c4b0 := eq_true c4
   have c4b1 : decide (a0_0.size + a0_1.size ≤ 9223372036854775807) = true := decide_eq_true c4
   try have c4b2 : (9223372036854775807 < a0_0.size + a0_1.size) = False := eq_false (Nat.not_lt.2 c4)
   replace H := Option.bind_eq_some_iff.mp H
   obtain ⟨⟨t388, t389⟩, A50, H⟩ := H
   replace H : (some (t388, true)) = some (r1, r2) := H
   have A5 := Aside0.mk A50
   clear A50
   simp only [Option.some.injEq, Prod.mk.injEq] at H
   obtain ⟨rfl, rfl⟩ := H
   go_enter Tryd.func30, Tryd.ntmps30
   go_wp2_with (first | ((with_reducible refine gate_dst (N := 1) rfl ?_); refine box_event ?hg (N := 1) ?hd (cs := #[.string a0_0, .string a0_1, .int .i64 a0_2]) (t := 31) ?hr ?_; (case hd => rfl); (case hg => rfl); (case hr => first | (go_simp; done) | (go_simp; rfl)); intro gb386 hg w6 hbox hb; have BK386 := Aside0.mk (hbox); have GW386 := Aside0.mk ((bz_ hg (lb0_ HB.out))); have GE386 := Aside0.mk ((bz_ hg (lb0_ HB.out))); replace HB := Aside0.mk (below_step (lb0_ HB.out) hb); clear hb hbox hg; obtain ⟨hcz7_0, hcz7_1, hcz7_2⟩ := cz3_ BK386.out; obtain ⟨hfz7_0, hfz7_1, hfz7_2⟩ := fz3_ BK386.out) | ((with_reducible refine gate_callee (f := 49) rfl ?_); refine ga_ (some 7) Tryd.func49 #[.agg #[.string a0_0, .string a0_1, .int .i64 a0_2]] ?_; (with_reducible refine (spec_l27Log.calls k a0_0 a0_1 a0_2 true _ A2.out).mono ?_); rintro e w8 ⟨rfl, hb⟩; refine ⟨_, rfl, ?_⟩; replace BK386 := Aside0.mk (bb_ (bk_ BK386.out) hb); replace HB := Aside0.mk (below_step (lb1_ HB.out GE386.out) hb); (try clear hb); (try clear hb2); (try clear hk); (try clear hi); obtain ⟨hcz9_0, hcz9_1, hcz9_2⟩ := cz3_ BK386.out; obtain ⟨hfz9_0, hfz9_1, hfz9_2⟩ := fz3_ BK386.out) | ((with_reducible refine gate_callee (f := 47) rfl ?_); refine ga_ (some 16) Tryd.func47 #[.string (sc a0_0 a0_1)] ?_; (with_reducible refine (spec_l27Open.calls k (sc a0_0 a0_1) t388 t389 _ A5.out).mono ?_); rintro e w10 ⟨v390, rfl, ho0, hb⟩; refine ⟨_, rfl, ?_⟩; have HO391 := Aside0.mk (Kd.R_lower ho0 (below_size (lb1_ HB.out GE386.out))); replace BK386 := Aside0.mk (bb_ (bk_ BK386.out) hb); replace HB := Aside0.mk (below_step (lb1_ HB.out GE386.out) hb); (try clear hb); (try clear hb2); (try clear hk); (try clear hi); (try clear ho0)))
   go_ret2
   exact ⟨_, rr_, kr_ HO391.out, lb1_ HB.out GE386.out⟩
  ·
   rw [if_neg c4] at H
   exact absurd H (by simp)
 ·
  replace c3 := Bool.eq_false_iff.mpr c3
  subst c3
  have H1 : (some ((([] : List (S27))), false)) = some (r1, r2) := by rw [if_neg (show ¬ (false = true) by decide)] at H; exact H
  clear H
  have H := H1
  clear H1
  obtain ⟨y392, hy392⟩ : ∃ y_ : List (S27), y_ = (([] : List (S27))) := ⟨_, rfl⟩
  replace H : (some (y392, false)) = some (r1, r2) := by first | (rw [hy392]; with_reducible exact H) | (have H2_ := (Option.bind_some _ _).symm.trans H; rw [hy392]; with_reducible exact H2_) | (have H2_ := (Option.bind_some _ _).symm.trans H; with_reducible exact H2_) | with_reducible exact H | (rw [hy392]; exact H) | exact H
  have Ny392 := Aside0.mk hy392
  clear hy392
  simp only [Option.some.injEq, Prod.mk.injEq] at H
  obtain ⟨rfl, rfl⟩ := H
  go_enter Tryd.func30, Tryd.ntmps30
  go_wp2_with (first | ((with_reducible refine gate_dst (N := 1) rfl ?_); refine box_event ?hg (N := 1) ?hd (cs := #[.string a0_0, .string a0_1, .int .i64 a0_2]) (t := 31) ?hr ?_; (case hd => rfl); (case hg => rfl); (case hr => first | (go_simp; done) | (go_simp; rfl)); intro gb386 hg w11 hbox hb; have BK386 := Aside0.mk (hbox); have GW386 := Aside0.mk ((bz_ hg (lb0_ HB.out))); have GE386 := Aside0.mk ((bz_ hg (lb0_ HB.out))); replace HB := Aside0.mk (below_step (lb0_ HB.out) hb); clear hb hbox hg; obtain ⟨hcz12_0, hcz12_1, hcz12_2⟩ := cz3_ BK386.out; obtain ⟨hfz12_0, hfz12_1, hfz12_2⟩ := fz3_ BK386.out) | ((with_reducible refine gate_callee (f := 49) rfl ?_); refine ga_ (some 7) Tryd.func49 #[.agg #[.string a0_0, .string a0_1, .int .i64 a0_2]] ?_; (with_reducible refine (spec_l27Log.calls k a0_0 a0_1 a0_2 false _ A2.out).mono ?_); rintro e w13 ⟨rfl, hb⟩; refine ⟨_, rfl, ?_⟩; replace BK386 := Aside0.mk (bb_ (bk_ BK386.out) hb); replace HB := Aside0.mk (below_step (lb1_ HB.out GE386.out) hb); (try clear hb); (try clear hb2); (try clear hk); (try clear hi)) | ((with_reducible refine gate_dst (N := 9) rfl ?_); refine Kd.R_lit k27 _ 27 ?hg (N := 9) ?hd (xs := ([] : List (S27))) (inner := []) (ok := fun _ => True) (okp := fun _ => True) ?hr ?hp (fun _ hk => hk) trivial (Below.refl _ _) (Nat.le_refl _) (by simp) ?_; (case hd => rfl); (case hg => rfl); (case hr => first | (go_simp; done) | (go_simp; rfl)); (case hp => exact (Reps.none _ _)); intro v393 w14 ho15 hb hg_ hnew_; clear hg_ hnew_; replace ho15 := ry_ Ny392.out ho15; have HO394 := Aside0.mk (Kd.R_lower ho15 (below_size (lb1_ HB.out GE386.out))); replace BK386 := Aside0.mk (bb_ (bk_ BK386.out) hb); replace HB := Aside0.mk (below_step (lb1_ HB.out GE386.out) hb); clear hb ho15))
  go_ret2
  exact ⟨_, rr_, kr_ HO394.out, lb1_ HB.out GE386.out⟩
end Go.Proofs.YtdpinnhgkocjhaaDoor.Pr

namespace Go.Proofs.YtdpinnhgkocjhaaDoor.Pr
open Go.RowKit Go.Proofs.YtdpinnhgkocjhaaDoorW.PrintWords Go.Proofs.YtdpinnhgkocjhaaDoorW.PrintLast Go.Proofs.YtdpinnhgkocjhaaDoorW.PrintMore
attribute [local go_sem] max2_int min2_int max_two min_two max_three min_three max_four min_four   -- for this text's walks alone
set_option linter.unusedVariables false
set_option linter.unusedSimpArgs false
def impl_LogRecords.f (k : Nat) (a0_0 : ByteArray) (a0_1 : ByteArray) (a0_2 : Int) : Option ((List (S27)) × Bool) := (impl_records.f k a0_0 a0_1 a0_2).bind fun bt396 => (some (bt396.1, bt396.2))
set_option maxHeartbeats 8000000 in
set_option maxRecDepth 100000 in
theorem impl_LogRecords.calls (k : Nat) (a0_0 : ByteArray) (a0_1 : ByteArray) (a0_2 : Int) (r1 : List (S27)) (r2 : Bool) (w : World) (h : impl_LogRecords.f k a0_0 a0_1 a0_2 = some (r1, r2)) (hT : Tb w) :
  Calls Tryd.prog 31 #[.agg #[.string a0_0, .string a0_1, .int .i64 a0_2]] w fun e w' => ∃ v0_ : Value, e = .returned (.tuple #[v0_, .bool r2]) ∧ Kd.R k27 27 w' w.heap.size (fun _ => True) v0_ r1 ∧ Below w.heap.size w w' := by
 have HT := Aside0.mk hT
 clear hT
 have hu31 := Tryd.underlying31
 have HB := Aside0.mk (Below.refl w.heap.size w)
 have H : ((impl_records.f k a0_0 a0_1 a0_2).bind fun bt396 => (some (bt396.1, bt396.2))) = some (r1, r2) := h
 clear h
 replace H := Option.bind_eq_some_iff.mp H
 obtain ⟨⟨t396, t399⟩, A20, H⟩ := H
 replace H : (some (t396, t399)) = some (r1, r2) := H
 have A2 := Aside0.mk A20
 clear A20
 simp only [Option.some.injEq, Prod.mk.injEq] at H
 obtain ⟨rfl, rfl⟩ := H
 go_enter Tryd.func31, Tryd.ntmps31
 go_wp2_with (first | ((with_reducible refine gate_dst (N := 1) rfl ?_); refine box_event ?hg (N := 1) ?hd (cs := #[.string a0_0, .string a0_1, .int .i64 a0_2]) (t := 31) ?hr ?_; (case hd => rfl); (case hg => rfl); (case hr => first | (go_simp; done) | (go_simp; rfl)); intro gb395 hg w3 hbox hb; have BK395 := Aside0.mk (hbox); have GW395 := Aside0.mk ((bz_ hg (lb0_ HB.out))); have GE395 := Aside0.mk ((bz_ hg (lb0_ HB.out))); replace HB := Aside0.mk (below_step (lb0_ HB.out) hb); clear hb hbox hg; obtain ⟨hcz4_0, hcz4_1, hcz4_2⟩ := cz3_ BK395.out; obtain ⟨hfz4_0, hfz4_1, hfz4_2⟩ := fz3_ BK395.out) | ((with_reducible refine gate_callee (f := 50) rfl ?_); refine ga_ (some 5) Tryd.func50 #[.agg #[.string a0_0, .string a0_1, .int .i64 a0_2]] ?_; (with_reducible refine (impl_records.calls k a0_0 a0_1 a0_2 t396 t399 _ A2.out ?sideT).mono ?_); (case sideT => first | exact HT.out | exact Tb.step HT.out HB.out | exact Tb.step HT.out (by repeat (first | (with_reducible first | exact HB.out | apply below_alloc | apply pw_below_drewN | apply below_drew1 | refine below_set ?_ GE395.out) | exact HB.out | exact Below.refl _ _))); rintro e w5 ⟨v397, rfl, ho0, hb⟩; refine ⟨_, rfl, ?_⟩; have HO398 := Aside0.mk (Kd.R_lower ho0 (below_size (lb1_ HB.out GE395.out))); replace BK395 := Aside0.mk (bb_ (bk_ BK395.out) hb); replace HB := Aside0.mk (below_step (lb1_ HB.out GE395.out) hb); (try clear hb); (try clear hb2); (try clear hk); (try clear hi); (try clear ho0)))
 go_ret2
 exact ⟨_, rr_, kr_ HO398.out, lb1_ HB.out GE395.out⟩
def laws_vBig.f (l0 : List Int) : Option (Bool) := some (decide ((l0.length : Int) > 65536))
set_option maxHeartbeats 8000000 in
set_option maxRecDepth 100000 in
theorem laws_vBig.calls (A0 : Option Addr) (c0 : Nat) (l0 : List Int) (r : Bool) (w : World) (hr0 : Kd.C (Kd.int .u8) w A0 l0.length l0) (hc0 : l0.length ≤ c0) (h : laws_vBig.f l0 = some r) :
  Calls Tryd.prog 35 #[.slice A0 l0.length c0] w fun e w' => e = .returned (.bool r) ∧ Drawn0 w w' := by
 have HR0 := Aside0.mk hr0
 have HC0 := Aside0.mk hc0
 clear hr0 hc0
 have H : (some (decide ((l0.length : Int) > 65536))) = some r := h
 clear h
 obtain rfl := Option.some.inj H
 go_enter Tryd.func35, Tryd.ntmps35
 go_wp2
 go_ret
 exact ⟨by first | rfl | (simp; done) | (simp [*]; done), by repeat (first | exact Drawn0.refl _ | apply Drawn0.step)⟩
def spec_newCur.f (l0 : List Int) : Option (List Int × Int × Int) := some (l0, 0, 0)
def IsS74 (w0 W : World) (g : Nat) (f0 : List Int) (f1 : Int) (f2 : Int) : Prop := ∃ A0 c0, W.heap[g]? = some (.cells #[.slice A0 f0.length c0, .int .i64 f1, .int .u64 f2] 74 (0, 0)) ∧ w0.heap.size ≤ g ∧ Kd.C (Kd.int .u8) w0 A0 f0.length f0
theorem IsS74.grown {w0 W : World} {g : Nat} {f0 : List Int} {f1 : Int} {f2 : Int} {W1 : World} {row : Option Nat} (h : IsS74 w0 W g f0 f1 f2) (hw : W.grownBy W1 row) (hne : some g ≠ row) : IsS74 w0 W1 g f0 f1 f2 := by
 obtain ⟨A0, c0, hb, hg, hr0⟩ := h
 exact ⟨A0, c0, blk_grown hb hw hne, hg, hr0⟩
theorem IsS74.below {w0 W : World} {g : Nat} {f0 : List Int} {f1 : Int} {f2 : Int} {W1 : World} (h : IsS74 w0 W g f0 f1 f2) (hw : Below W.heap.size W W1) : IsS74 w0 W1 g f0 f1 f2 := h.grown (grown_of_below hw none) (by simp)
theorem IsS74.alloc {w0 W : World} {g : Nat} {f0 : List Int} {f1 : Int} {f2 : Int} (h : IsS74 w0 W g f0 f1 f2) (o : Obj) : IsS74 w0 (W.alloc o) g f0 f1 f2 := h.below (below_alloc (Below.refl _ _) o)
theorem IsS74.drewN {w0 W : World} {g : Nat} {f0 : List Int} {f1 : Int} {f2 : Int} (h : IsS74 w0 W g f0 f1 f2) (m : Nat) : IsS74 w0 (W.drewN m) g f0 f1 f2 := h
theorem IsS74.drew {w0 W : World} {g : Nat} {f0 : List Int} {f1 : Int} {f2 : Int} (h : IsS74 w0 W g f0 f1 f2) : IsS74 w0 W.drew g f0 f1 f2 := h
theorem IsS74.at_ {w0 W : World} {g : Nat} {f0 : List Int} {f1 : Int} {f2 : Int} {w' : World} {m : Nat} (hq : W.drewN m = w') (h : IsS74 w0 W g f0 f1 f2) : IsS74 w0 w' g f0 f1 f2 := by subst hq; exact IsS74.drewN h m
theorem IsS74.apart {w0 W : World} {g : Nat} {f0 : List Int} {f1 : Int} {f2 : Int} {α : Type} {d : Kd α} {e : Nat} {base : Nat} {ok : Nat → Prop} {v : Value} {xs : List α} (h : IsS74 w0 W g f0 f1 f2) (ho : d.R e W base ok v xs) (ht : ∀ q, q ∈ e :: d.E → q ≠ 74) : d.R e W base (fun k => ok k ∧ k ≠ g) v xs := by
 obtain ⟨A0, c0, hb, hg, hr0⟩ := h
 exact Kd.R_types ho hb ht
theorem IsS74.own_ne {w0 W : World} {g : Nat} {f0 : List Int} {f1 : Int} {f2 : Int} {α : Type} {d : Kd α} {e : Nat} {base : Nat} {ok : Nat → Prop} {v : Value} {xs : List α} (h : IsS74 w0 W g f0 f1 f2) (ho : d.R e W base ok v xs) (ht : e ≠ 74) : some g ≠ v.ownBlock := by
 obtain ⟨A0, c0, hb, hg, hr0⟩ := h
 exact Kd.R_ne ho hb ht
theorem IsS74.lt {w0 W : World} {g : Nat} {f0 : List Int} {f1 : Int} {f2 : Int} (h : IsS74 w0 W g f0 f1 f2) : g < W.heap.size := by
 obtain ⟨A0, c0, hb, hg, hr0⟩ := h
 exact blk_lt hb
theorem IsS74.ge {w0 W : World} {g : Nat} {f0 : List Int} {f1 : Int} {f2 : Int} (h : IsS74 w0 W g f0 f1 f2) : w0.heap.size ≤ g := by
 obtain ⟨A0, c0, hb, hg, hr0⟩ := h
 exact hg
theorem IsS74.ne_blk {w0 W : World} {g : Nat} {f0 : List Int} {f1 : Int} {f2 : Int} {a : Nat} {cs : Array Value} {t : TypeId} {fr : Nat × Nat} (h : IsS74 w0 W g f0 f1 f2) (hb2 : W.heap[a]? = some (.cells cs t fr)) (ht : t ≠ 74) : g ≠ a := by
 obtain ⟨A0, c0, hb, hg, hr0⟩ := h
 rintro rfl
 rw [hb] at hb2
 injection hb2 with hb2
 injection hb2 with _ ht2
 exact ht ht2.symm
theorem IsS74.far {w0 W : World} {g : Nat} {f0 : List Int} {f1 : Int} {f2 : Int} {p : Addr} (h : IsS74 w0 W g f0 f1 f2) (hne : g ≠ p.block) (u : Value) : IsS74 w0 (W.setCell p u) g f0 f1 f2 := by
 obtain ⟨A0, c0, hb, hg, hr0⟩ := h
 exact ⟨A0, c0, blk_far hb hne u, hg, hr0⟩
theorem cellS74_0 {W : World} {g : Nat} {A0 : Option Addr} {c0 : Nat} {f0 : List Int} {f1 : Int} {f2 : Int} (h : W.heap[g]? = some (.cells #[.slice A0 f0.length c0, .int .i64 f1, .int .u64 f2] 74 (0, 0))) : W.cell? ⟨g, 0, none⟩ = some (.slice A0 f0.length c0) := (blk_cell h 0).trans rfl
theorem cellS74_1 {W : World} {g : Nat} {A0 : Option Addr} {c0 : Nat} {f0 : List Int} {f1 : Int} {f2 : Int} (h : W.heap[g]? = some (.cells #[.slice A0 f0.length c0, .int .i64 f1, .int .u64 f2] 74 (0, 0))) : W.cell? ⟨g, 1, none⟩ = some (.int .i64 f1) := (blk_cell h 1).trans rfl
theorem IsS74.set_1 {w0 W : World} {g : Nat} {f0 : List Int} {f1 : Int} {f2 : Int} (h : IsS74 w0 W g f0 f1 f2) (x : Int) : IsS74 w0 (W.setCell ⟨g, 1, none⟩ (.int .i64 x)) g f0 x f2 := by
 obtain ⟨A0, c0, hb, hg, hr0⟩ := h
 exact ⟨A0, c0, by simpa using blk_set hb 1 (.int .i64 x), hg, hr0⟩
theorem cellS74_2 {W : World} {g : Nat} {A0 : Option Addr} {c0 : Nat} {f0 : List Int} {f1 : Int} {f2 : Int} (h : W.heap[g]? = some (.cells #[.slice A0 f0.length c0, .int .i64 f1, .int .u64 f2] 74 (0, 0))) : W.cell? ⟨g, 2, none⟩ = some (.int .u64 f2) := (blk_cell h 2).trans rfl
theorem IsS74.set_2 {w0 W : World} {g : Nat} {f0 : List Int} {f1 : Int} {f2 : Int} (h : IsS74 w0 W g f0 f1 f2) (x : Int) : IsS74 w0 (W.setCell ⟨g, 2, none⟩ (.int .u64 x)) g f0 f1 x := by
 obtain ⟨A0, c0, hb, hg, hr0⟩ := h
 exact ⟨A0, c0, by simpa using blk_set hb 2 (.int .u64 x), hg, hr0⟩
theorem is74_0 {w0 W W1 : World} {g : Nat} {f0 f0' : List Int} {f1 f1' : Int} {f2 f2' : Int} (h : IsS74 w0 W g f0 f1 f2) (hh : IsS74 w0 W g f0 f1 f2 → IsS74 w0 W1 g f0' f1' f2' := by intro h_ ; repeat (first | (with_reducible first | exact h_ | apply IsS74.alloc | apply IsS74.drewN | apply IsS74.drew | apply IsS74.set_1 | apply IsS74.set_2) | exact h_)) : IsS74 w0 W1 g f0' f1' f2' := hh h
theorem is74_1 {w0 W W1 : World} {g : Nat} {f0 f0' : List Int} {f1 f1' : Int} {f2 f2' : Int} {A : Prop} (h : IsS74 w0 W g f0 f1 f2) (h0 : A) (hh : IsS74 w0 W g f0 f1 f2 → A → IsS74 w0 W1 g f0' f1' f2' := by intro h_ n0_; repeat (first | (with_reducible first | exact h_ | apply IsS74.alloc | apply IsS74.drewN | apply IsS74.drew | apply IsS74.set_1 | apply IsS74.set_2 | refine IsS74.far ?_ n0_ _) | exact h_)) : IsS74 w0 W1 g f0' f1' f2' := hh h h0
theorem is74_2 {w0 W W1 : World} {g : Nat} {f0 f0' : List Int} {f1 f1' : Int} {f2 f2' : Int} {A B : Prop} (h : IsS74 w0 W g f0 f1 f2) (h0 : A) (h1 : B) (hh : IsS74 w0 W g f0 f1 f2 → A → B → IsS74 w0 W1 g f0' f1' f2' := by intro h_ n0_ n1_; repeat (first | (with_reducible first | exact h_ | apply IsS74.alloc | apply IsS74.drewN | apply IsS74.drew | apply IsS74.set_1 | apply IsS74.set_2 | refine IsS74.far ?_ n0_ _ | refine IsS74.far ?_ n1_ _) | exact h_)) : IsS74 w0 W1 g f0' f1' f2' := hh h h0 h1
def spec_l1Cur_next.f (s0_0 : List Int) (s0_1 : Int) (s0_2 : Int) : Option (Int × Int × Int) := if s0_1 < (s0_0.length : Int) then (if 0 ≤ s0_1 then (if (wrap64 (s0_1 + 1)) ≤ (s0_0.length : Int) then (some (wrap64 (rd s0_0 s0_1), wrap64 (s0_1 + 1), IntKind.u64.wrap ((IntKind.u64.wrap ((IntKind.u64.wrap (s0_2 * 6364136223846793005)) + (IntKind.u64.wrap (wrap64 (rd s0_0 s0_1))))) + 933933))) else (some (wrap64 (Go.bits .and .u64 ((IntKind.u64.wrap ((IntKind.u64.wrap ((IntKind.u64.wrap (s0_2 * 6364136223846793005)) + (IntKind.u64.wrap (wrap64 (rd s0_0 s0_1))))) + 933933)) / 1099511627776) 255), wrap64 (s0_1 + 1), IntKind.u64.wrap ((IntKind.u64.wrap ((IntKind.u64.wrap (s0_2 * 6364136223846793005)) + (IntKind.u64.wrap (wrap64 (rd s0_0 s0_1))))) + 933933)))) else (none)) else (if (wrap64 (s0_1 + 1)) ≤ (s0_0.length : Int) then (some (0, wrap64 (s0_1 + 1), IntKind.u64.wrap ((IntKind.u64.wrap ((IntKind.u64.wrap (s0_2 * 6364136223846793005)) + 0)) + 933933))) else (some (wrap64 (Go.bits .and .u64 ((IntKind.u64.wrap ((IntKind.u64.wrap ((IntKind.u64.wrap (s0_2 * 6364136223846793005)) + 0)) + 933933)) / 1099511627776) 255), wrap64 (s0_1 + 1), IntKind.u64.wrap ((IntKind.u64.wrap ((IntKind.u64.wrap (s0_2 * 6364136223846793005)) + 0)) + 933933))))
set_option maxHeartbeats 8000000 in
set_option maxRecDepth 100000 in
theorem spec_l1Cur_next.calls (g : Nat) (s0_0 : List Int) (s0_1 : Int) (s0_2 : Int) (r1 : Int) (r2 : Int) (r3 : Int) (w0 w : World) (hI : IsS74 w0 w g s0_0 s0_1 s0_2) (hB : Below w0.heap.size w0 w) (h : spec_l1Cur_next.f s0_0 s0_1 s0_2 = some (r1, r2, r3)) :
  Calls Tryd.prog 72 #[.pointer (some ⟨g, 0, none⟩)] w fun e w' => e = .returned (.int .i64 r1) ∧ IsS74 w0 w' g s0_0 r2 r3 ∧ Below w0.heap.size w0 w' ∧ KeepBut w w' g none := by
 have HI0 := Aside0.mk hI
 have HK := Aside0.mk (KeepBut.refl w g none)
 have HL := Aside0.mk hB.size
 clear hI
 have HW0 := Aside0.mk hB.size
 have HB := Aside0.mk hB
 clear hB
 have H : (if s0_1 < (s0_0.length : Int) then (if 0 ≤ s0_1 then (if (wrap64 (s0_1 + 1)) ≤ (s0_0.length : Int) then (some (wrap64 (rd s0_0 s0_1), wrap64 (s0_1 + 1), IntKind.u64.wrap ((IntKind.u64.wrap ((IntKind.u64.wrap (s0_2 * 6364136223846793005)) + (IntKind.u64.wrap (wrap64 (rd s0_0 s0_1))))) + 933933))) else (some (wrap64 (Go.bits .and .u64 ((IntKind.u64.wrap ((IntKind.u64.wrap ((IntKind.u64.wrap (s0_2 * 6364136223846793005)) + (IntKind.u64.wrap (wrap64 (rd s0_0 s0_1))))) + 933933)) / 1099511627776) 255), wrap64 (s0_1 + 1), IntKind.u64.wrap ((IntKind.u64.wrap ((IntKind.u64.wrap (s0_2 * 6364136223846793005)) + (IntKind.u64.wrap (wrap64 (rd s0_0 s0_1))))) + 933933)))) else (none)) else (if (wrap64 (s0_1 + 1)) ≤ (s0_0.length : Int) then (some (0, wrap64 (s0_1 + 1), IntKind.u64.wrap ((IntKind.u64.wrap ((IntKind.u64.wrap (s0_2 * 6364136223846793005)) + 0)) + 933933))) else (some (wrap64 (Go.bits .and .u64 ((IntKind.u64.wrap ((IntKind.u64.wrap ((IntKind.u64.wrap (s0_2 * 6364136223846793005)) + 0)) + 933933)) / 1099511627776) 255), wrap64 (s0_1 + 1), IntKind.u64.wrap ((IntKind.u64.wrap ((IntKind.u64.wrap (s0_2 * 6364136223846793005)) + 0)) + 933933))))) = some (r1, r2, r3) := h
 clear h
 by_cases c2 : s0_1 < (s0_0.length : Int)
 ·
  rw [if_pos c2] at H
  have c2b0 : decide (s0_1 < (s0_0.length : Int)) = true := decide_eq_true c2
  clear c2
  by_cases c3 : 0 ≤ s0_1
  ·
   rw [if_pos c3] at H
   have c3b0 : decide (0 ≤ s0_1) = true := decide_eq_true c3
   clear c3
   by_cases c4 : (wrap64 (s0_1 + 1)) ≤ (s0_0.length : Int)
   ·
    rw [if_pos c4] at H
    have c4b0 : decide ((wrap64 (s0_1 + 1)) ≤ (s0_0.length : Int)) = true := decide_eq_true c4
    clear c4
    simp only [Option.some.injEq, Prod.mk.injEq] at H
    obtain ⟨rfl, rfl, rfl⟩ := H
    obtain ⟨ASz5_0, cSz5_0, HGz5, hgz5, HSz5_0⟩ := HI0.out
    have hcz5_0 := cellS74_0 HGz5
    have hcz5_1 := cellS74_1 HGz5
    have hcz5_2 := cellS74_2 HGz5
    have hfz5_1 := blk_frozen HGz5 1
    have hfz5_2 := blk_frozen HGz5 2
    clear HGz5 hgz5
    have p445 : 0 ≤ (s0_1 : Int) := dt_
    have q445 : s0_1 < (s0_0.length : Int) := dt_
    obtain ⟨ad445, e445, hx445_0⟩ := Kd.at_int HSz5_0 s0_1 p445 q445
    cases e445
    replace hx445_0 := pw_cell_below HB.out hx445_0
    replace p445 := eq_true p445
    replace q445 := eq_true q445
    go_enter Tryd.func72, Tryd.ntmps72
    go_wp2
    repeat (go_quiet (fail); try go_wp2)
    go_ret
    (try simp only [Int.add_zero])
    exact ⟨rr_, is74_0 HI0.out, lb1_ HB.out (IsS74.ge HI0.out), kb0_ HK.out⟩
   ·
    rw [if_neg c4] at H
    have c4b0 : decide ((wrap64 (s0_1 + 1)) ≤ (s0_0.length : Int)) = false := decide_eq_false c4
    clear c4
    simp only [Option.some.injEq, Prod.mk.injEq] at H
    obtain ⟨rfl, rfl, rfl⟩ := H
    obtain ⟨ASz6_0, cSz6_0, HGz6, hgz6, HSz6_0⟩ := HI0.out
    have hcz6_0 := cellS74_0 HGz6
    have hcz6_1 := cellS74_1 HGz6
    have hcz6_2 := cellS74_2 HGz6
    have hfz6_1 := blk_frozen HGz6 1
    have hfz6_2 := blk_frozen HGz6 2
    clear HGz6 hgz6
    have p445 : 0 ≤ (s0_1 : Int) := dt_
    have q445 : s0_1 < (s0_0.length : Int) := dt_
    obtain ⟨ad445, e445, hx445_0⟩ := Kd.at_int HSz6_0 s0_1 p445 q445
    cases e445
    replace hx445_0 := pw_cell_below HB.out hx445_0
    replace p445 := eq_true p445
    replace q445 := eq_true q445
    go_enter Tryd.func72, Tryd.ntmps72
    go_wp2
    repeat (go_quiet (fail); try go_wp2)
    go_ret
    (try simp only [Int.add_zero])
    exact ⟨rr_, is74_0 HI0.out, lb1_ HB.out (IsS74.ge HI0.out), kb0_ HK.out⟩
  ·
   rw [if_neg c3] at H
   exact absurd H (by simp)
 ·
  rw [if_neg c2] at H
  have c2b0 : decide (s0_1 < (s0_0.length : Int)) = false := decide_eq_false c2
  clear c2
  by_cases c7 : (wrap64 (s0_1 + 1)) ≤ (s0_0.length : Int)
  ·
   rw [if_pos c7] at H
   have c7b0 : decide ((wrap64 (s0_1 + 1)) ≤ (s0_0.length : Int)) = true := decide_eq_true c7
   clear c7
   simp only [Option.some.injEq, Prod.mk.injEq] at H
   obtain ⟨rfl, rfl, rfl⟩ := H
   obtain ⟨ASz8_0, cSz8_0, HGz8, hgz8, HSz8_0⟩ := HI0.out
   have hcz8_0 := cellS74_0 HGz8
   have hcz8_1 := cellS74_1 HGz8
   have hcz8_2 := cellS74_2 HGz8
   have hfz8_1 := blk_frozen HGz8 1
   have hfz8_2 := blk_frozen HGz8 2
   clear HGz8 hgz8
   go_enter Tryd.func72, Tryd.ntmps72
   go_wp2
   repeat (go_quiet (fail); try go_wp2)
   go_ret
   (try simp only [Int.add_zero])
   exact ⟨rr_, is74_0 HI0.out, lb1_ HB.out (IsS74.ge HI0.out), kb0_ HK.out⟩
  ·
   rw [if_neg c7] at H
   have c7b0 : decide ((wrap64 (s0_1 + 1)) ≤ (s0_0.length : Int)) = false := decide_eq_false c7
   clear c7
   simp only [Option.some.injEq, Prod.mk.injEq] at H
   obtain ⟨rfl, rfl, rfl⟩ := H
   obtain ⟨ASz9_0, cSz9_0, HGz9, hgz9, HSz9_0⟩ := HI0.out
   have hcz9_0 := cellS74_0 HGz9
   have hcz9_1 := cellS74_1 HGz9
   have hcz9_2 := cellS74_2 HGz9
   have hfz9_1 := blk_frozen HGz9 1
   have hfz9_2 := blk_frozen HGz9 2
   clear HGz9 hgz9
   go_enter Tryd.func72, Tryd.ntmps72
   go_wp2
   repeat (go_quiet (fail); try go_wp2)
   go_ret
   (try simp only [Int.add_zero])
   exact ⟨rr_, is74_0 HI0.out, lb1_ HB.out (IsS74.ge HI0.out), kb0_ HK.out⟩
def spec_l1Cur_pick.f (s0_0 : List Int) (s0_1 : Int) (s0_2 : Int) (a1 : Int) : Option (Int × Int × Int) := if a1 ≤ 1 then (some (0, s0_1, s0_2)) else ((spec_l1Cur_next.f s0_0 s0_1 s0_2).bind fun bt446 => (if a1 > 200 then ((spec_l1Cur_next.f s0_0 bt446.2.1 bt446.2.2).bind fun bt449 => (if a1 = 0 then (none) else (some (Int.tmod (wrap64 ((wrap64 (bt446.1 * 256)) + bt449.1)) a1, bt449.2.1, bt449.2.2)))) else (if a1 = 0 then (none) else (some (Int.tmod bt446.1 a1, bt446.2.1, bt446.2.2)))))
set_option maxHeartbeats 8000000 in
set_option maxRecDepth 100000 in
theorem spec_l1Cur_pick.calls (g : Nat) (s0_0 : List Int) (s0_1 : Int) (s0_2 : Int) (a1 : Int) (r1 : Int) (r2 : Int) (r3 : Int) (w0 w : World) (hI : IsS74 w0 w g s0_0 s0_1 s0_2) (hB : Below w0.heap.size w0 w) (h : spec_l1Cur_pick.f s0_0 s0_1 s0_2 a1 = some (r1, r2, r3)) :
  Calls Tryd.prog 55 #[.pointer (some ⟨g, 0, none⟩), .int .i64 a1] w fun e w' => e = .returned (.int .i64 r1) ∧ IsS74 w0 w' g s0_0 r2 r3 ∧ Below w0.heap.size w0 w' ∧ KeepBut w w' g none := by
 have HI0 := Aside0.mk hI
 have HK := Aside0.mk (KeepBut.refl w g none)
 have HL := Aside0.mk hB.size
 clear hI
 have HW0 := Aside0.mk hB.size
 have HB := Aside0.mk hB
 clear hB
 have H : (if a1 ≤ 1 then (some (0, s0_1, s0_2)) else ((spec_l1Cur_next.f s0_0 s0_1 s0_2).bind fun bt446 => (if a1 > 200 then ((spec_l1Cur_next.f s0_0 bt446.2.1 bt446.2.2).bind fun bt449 => (if a1 = 0 then (none) else (some (Int.tmod (wrap64 ((wrap64 (bt446.1 * 256)) + bt449.1)) a1, bt449.2.1, bt449.2.2)))) else (if a1 = 0 then (none) else (some (Int.tmod bt446.1 a1, bt446.2.1, bt446.2.2)))))) = some (r1, r2, r3) := h
 clear h
 by_cases c3 : a1 ≤ 1
 ·
  rw [if_pos c3] at H
  have c3b0 : decide (a1 ≤ 1) = true := decide_eq_true c3
  clear c3
  simp only [Option.some.injEq, Prod.mk.injEq] at H
  obtain ⟨rfl, rfl, rfl⟩ := H
  go_enter Tryd.func55, Tryd.ntmps55
  go_wp2
  go_ret
  exact ⟨rr_, is74_0 HI0.out, lb1_ HB.out (IsS74.ge HI0.out), kb0_ HK.out⟩
 ·
  rw [if_neg c3] at H
  have c3b0 : decide (a1 ≤ 1) = false := decide_eq_false c3
  clear c3
  replace H := Option.bind_eq_some_iff.mp H
  obtain ⟨⟨t446, t447, t448⟩, A40, H⟩ := H
  replace H : (if a1 > 200 then ((spec_l1Cur_next.f s0_0 t447 t448).bind fun bt449 => (if a1 = 0 then (none) else (some (Int.tmod (wrap64 ((wrap64 (t446 * 256)) + bt449.1)) a1, bt449.2.1, bt449.2.2)))) else (if a1 = 0 then (none) else (some (Int.tmod t446 a1, t447, t448)))) = some (r1, r2, r3) := H
  have A4 := Aside0.mk A40
  clear A40
  by_cases c5 : a1 > 200
  ·
   rw [if_pos c5] at H
   have c5b0 : decide (200 < a1) = true := decide_eq_true c5
   clear c5
   replace H := Option.bind_eq_some_iff.mp H
   obtain ⟨⟨t449, t450, t451⟩, A60, H⟩ := H
   replace H : (if a1 = 0 then (none) else (some (Int.tmod (wrap64 ((wrap64 (t446 * 256)) + t449)) a1, t450, t451))) = some (r1, r2, r3) := H
   have A6 := Aside0.mk A60
   clear A60
   by_cases c7 : a1 = 0
   ·
    rw [if_pos c7] at H
    exact absurd H (by simp)
   ·
    rw [if_neg c7] at H
    have c7b0 : (a1 == 0) = false := beq_eq_false_iff_ne.mpr c7
    have c7b1 : (a1 != 0) = true := bne_iff_ne.mpr c7
    simp only [Option.some.injEq, Prod.mk.injEq] at H
    obtain ⟨rfl, rfl, rfl⟩ := H
    go_enter Tryd.func55, Tryd.ntmps55
    go_wp2_with (first | ((with_reducible refine gate_callee (f := 72) rfl ?_); refine ga_ (some 9) Tryd.func72 #[.pointer (some ⟨g, 0, none⟩)] ?_; (with_reducible refine (spec_l1Cur_next.calls g s0_0 s0_1 s0_2 t446 t447 t448 w0 _ ?side1 ?side2 A4.out).mono ?_); (case side1 => exact is74_0 HI0.out); (case side2 => exact lb1_ HB.out (IsS74.ge HI0.out)); rintro e w8 ⟨rfl, hi, hb, hk⟩; refine ⟨_, rfl, ?_⟩; replace HK := Aside0.mk (KeepBut.trans (kb0_ HK.out) hk (.inl rfl)); replace HB := Aside0.mk (hb); replace HI0 := Aside0.mk (hi); (try clear hb); (try clear hb2); (try clear hk); (try clear hi)) | ((with_reducible refine gate_callee (f := 72) rfl ?_); refine ga_ (some 15) Tryd.func72 #[.pointer (some ⟨g, 0, none⟩)] ?_; (with_reducible refine (spec_l1Cur_next.calls g s0_0 t447 t448 t449 t450 t451 w0 _ ?side1 ?side2 A6.out).mono ?_); (case side1 => exact is74_0 HI0.out); (case side2 => exact lb1_ HB.out (IsS74.ge HI0.out)); rintro e w9 ⟨rfl, hi, hb, hk⟩; refine ⟨_, rfl, ?_⟩; replace HK := Aside0.mk (KeepBut.trans (kb0_ HK.out) hk (.inl rfl)); replace HB := Aside0.mk (hb); replace HI0 := Aside0.mk (hi); (try clear hb); (try clear hb2); (try clear hk); (try clear hi)))
    go_ret
    exact ⟨rr_, is74_0 HI0.out, lb1_ HB.out (IsS74.ge HI0.out), kb0_ HK.out⟩
  ·
   rw [if_neg c5] at H
   have c5b0 : decide (200 < a1) = false := decide_eq_false c5
   clear c5
   by_cases c10 : a1 = 0
   ·
    rw [if_pos c10] at H
    exact absurd H (by simp)
   ·
    rw [if_neg c10] at H
    have c10b0 : (a1 == 0) = false := beq_eq_false_iff_ne.mpr c10
    have c10b1 : (a1 != 0) = true := bne_iff_ne.mpr c10
    simp only [Option.some.injEq, Prod.mk.injEq] at H
    obtain ⟨rfl, rfl, rfl⟩ := H
    go_enter Tryd.func55, Tryd.ntmps55
    go_wp2_with (first | ((with_reducible refine gate_callee (f := 72) rfl ?_); refine ga_ (some 9) Tryd.func72 #[.pointer (some ⟨g, 0, none⟩)] ?_; (with_reducible refine (spec_l1Cur_next.calls g s0_0 s0_1 s0_2 t446 t447 t448 w0 _ ?side1 ?side2 A4.out).mono ?_); (case side1 => exact is74_0 HI0.out); (case side2 => exact lb1_ HB.out (IsS74.ge HI0.out)); rintro e w11 ⟨rfl, hi, hb, hk⟩; refine ⟨_, rfl, ?_⟩; replace HK := Aside0.mk (KeepBut.trans (kb0_ HK.out) hk (.inl rfl)); replace HB := Aside0.mk (hb); replace HI0 := Aside0.mk (hi); (try clear hb); (try clear hb2); (try clear hk); (try clear hi)))
    go_ret
    exact ⟨rr_, is74_0 HI0.out, lb1_ HB.out (IsS74.ge HI0.out), kb0_ HK.out⟩
def spec_l1Cur_one.f (s0_0 : List Int) (s0_1 : Int) (s0_2 : Int) (a1 : Int) : Option (Bool × Int × Int) := (spec_l1Cur_pick.f s0_0 s0_1 s0_2 a1).bind fun bt452 => (some ((bt452.1 == 0), bt452.2.1, bt452.2.2))
set_option maxHeartbeats 8000000 in
set_option maxRecDepth 100000 in
theorem spec_l1Cur_one.calls (g : Nat) (s0_0 : List Int) (s0_1 : Int) (s0_2 : Int) (a1 : Int) (r1 : Bool) (r2 : Int) (r3 : Int) (w0 w : World) (hI : IsS74 w0 w g s0_0 s0_1 s0_2) (hB : Below w0.heap.size w0 w) (h : spec_l1Cur_one.f s0_0 s0_1 s0_2 a1 = some (r1, r2, r3)) :
  Calls Tryd.prog 54 #[.pointer (some ⟨g, 0, none⟩), .int .i64 a1] w fun e w' => e = .returned (.bool r1) ∧ IsS74 w0 w' g s0_0 r2 r3 ∧ Below w0.heap.size w0 w' ∧ KeepBut w w' g none := by
 have HI0 := Aside0.mk hI
 have HK := Aside0.mk (KeepBut.refl w g none)
 have HL := Aside0.mk hB.size
 clear hI
 have HW0 := Aside0.mk hB.size
 have HB := Aside0.mk hB
 clear hB
 have H : ((spec_l1Cur_pick.f s0_0 s0_1 s0_2 a1).bind fun bt452 => (some ((bt452.1 == 0), bt452.2.1, bt452.2.2))) = some (r1, r2, r3) := h
 clear h
 replace H := Option.bind_eq_some_iff.mp H
 obtain ⟨⟨t452, t453, t454⟩, A30, H⟩ := H
 replace H : (some ((t452 == 0), t453, t454)) = some (r1, r2, r3) := H
 have A3 := Aside0.mk A30
 clear A30
 simp only [Option.some.injEq, Prod.mk.injEq] at H
 obtain ⟨rfl, rfl, rfl⟩ := H
 go_enter Tryd.func54, Tryd.ntmps54
 go_wp2_with (first | ((with_reducible refine gate_callee (f := 55) rfl ?_); refine ga_ (some 7) Tryd.func55 #[.pointer (some ⟨g, 0, none⟩), .int .i64 a1] ?_; (with_reducible refine (spec_l1Cur_pick.calls g s0_0 s0_1 s0_2 a1 t452 t453 t454 w0 _ ?side1 ?side2 A3.out).mono ?_); (case side1 => exact is74_0 HI0.out); (case side2 => exact lb1_ HB.out (IsS74.ge HI0.out)); rintro e w4 ⟨rfl, hi, hb, hk⟩; refine ⟨_, rfl, ?_⟩; replace HK := Aside0.mk (KeepBut.trans (kb0_ HK.out) hk (.inl rfl)); replace HB := Aside0.mk (hb); replace HI0 := Aside0.mk (hi); (try clear hb); (try clear hb2); (try clear hk); (try clear hi)))
 go_ret
 exact ⟨rr_, is74_0 HI0.out, lb1_ HB.out (IsS74.ge HI0.out), kb0_ HK.out⟩
end Go.Proofs.YtdpinnhgkocjhaaDoor.Pr

namespace Go.Proofs.YtdpinnhgkocjhaaDoor.Pr
open Go.RowKit Go.Proofs.YtdpinnhgkocjhaaDoorW.PrintWords Go.Proofs.YtdpinnhgkocjhaaDoorW.PrintLast Go.Proofs.YtdpinnhgkocjhaaDoorW.PrintMore
attribute [local go_sem] max2_int min2_int max_two min_two max_three min_three max_four min_four sc_in sx_in   -- for this text's walks alone
set_option linter.unusedVariables false
set_option linter.unusedSimpArgs false
def spec_SyncLog.f (k : Nat) (a0_0 : ByteArray) (a0_1 : ByteArray) (a0_2 : Int) : Option (ByteArray × ByteArray × Int × Bool) := (spec_l27Log.f k a0_0 a0_1 a0_2).bind fun t326 => (if t326 = true then (if a0_0.size + a0_1.size ≤ 9223372036854775807 then (some (sc a0_0 a0_1, (⟨#[]⟩ : ByteArray), a0_2, true)) else (none)) else (some ((⟨#[]⟩ : ByteArray), (⟨#[]⟩ : ByteArray), 0, false)))
set_option maxHeartbeats 8000000 in
set_option maxRecDepth 100000 in
theorem spec_SyncLog.calls (k : Nat) (a0_0 : ByteArray) (a0_1 : ByteArray) (a0_2 : Int) (r1 : ByteArray) (r2 : ByteArray) (r3 : Int) (r4 : Bool) (w : World) (h : spec_SyncLog.f k a0_0 a0_1 a0_2 = some (r1, r2, r3, r4)) :
  Calls Tryd.prog 26 #[.agg #[.string a0_0, .string a0_1, .int .i64 a0_2]] w fun e w' => e = .returned (.tuple #[.agg #[.string r1, .string r2, .int .i64 r3], .bool r4]) ∧ Below w.heap.size w w' := by
 have hu31 := Tryd.underlying31
 have HB := Aside0.mk (Below.refl w.heap.size w)
 have H : ((spec_l27Log.f k a0_0 a0_1 a0_2).bind fun t326 => (if t326 = true then (if a0_0.size + a0_1.size ≤ 9223372036854775807 then (some (sc a0_0 a0_1, (⟨#[]⟩ : ByteArray), a0_2, true)) else (none)) else (some ((⟨#[]⟩ : ByteArray), (⟨#[]⟩ : ByteArray), 0, false)))) = some (r1, r2, r3, r4) := h
 clear h
 replace H := Option.bind_eq_some_iff.mp H
 obtain ⟨t326, A20, H⟩ := H
 replace H : (if t326 = true then (if a0_0.size + a0_1.size ≤ 9223372036854775807 then (some (sc a0_0 a0_1, (⟨#[]⟩ : ByteArray), a0_2, true)) else (none)) else (some ((⟨#[]⟩ : ByteArray), (⟨#[]⟩ : ByteArray), 0, false))) = some (r1, r2, r3, r4) := H
 have A2 := Aside0.mk A20
 clear A20
 by_cases c3 : t326 = true
 ·
  subst c3
  have H1 : (if a0_0.size + a0_1.size ≤ 9223372036854775807 then (some (sc a0_0 a0_1, (⟨#[]⟩ : ByteArray), a0_2, true)) else (none)) = some (r1, r2, r3, r4) := by rw [if_pos rfl] at H; exact H
  clear H
  have H := H1
  clear H1
  by_cases c4 : a0_0.size + a0_1.size ≤ 9223372036854775807
  ·
   rw [if_pos c4] at H
   have c4b0 := eq_true c4
   have c4b1 : decide (a0_0.size + a0_1.size ≤ 9223372036854775807) = true := decide_eq_true c4
   try have c4b2 : (9223372036854775807 < a0_0.size + a0_1.size) = False := eq_false (Nat.not_lt.2 c4)
   simp only [Option.some.injEq, Prod.mk.injEq] at H
   obtain ⟨rfl, rfl, rfl, rfl⟩ := H
   go_enter Tryd.func26, Tryd.ntmps26
   go_wp2_with (first | ((with_reducible refine gate_dst (N := 1) rfl ?_); refine box_event ?hg (N := 1) ?hd (cs := #[.string a0_0, .string a0_1, .int .i64 a0_2]) (t := 31) ?hr ?_; (case hd => rfl); (case hg => rfl); (case hr => first | (go_simp; done) | (go_simp; rfl)); intro gb324 hg w5 hbox hb; have BK324 := Aside0.mk (hbox); have GW324 := Aside0.mk ((bz_ hg (lb0_ HB.out))); have GE324 := Aside0.mk ((bz_ hg (lb0_ HB.out))); replace HB := Aside0.mk (below_step (lb0_ HB.out) hb); clear hb hbox hg) | ((with_reducible refine gate_dst (N := 2) rfl ?_); refine box_event ?hg (N := 2) ?hd (cs := #[.string (⟨#[]⟩ : ByteArray), .string (⟨#[]⟩ : ByteArray), .int .i64 0]) (t := 31) ?hr ?_; (case hd => rfl); (case hg => rfl); (case hr => first | (go_simp; done) | (go_simp; rfl)); intro gb325 hg w6 hbox hb; have BK325 := Aside0.mk (hbox); have GW325 := Aside0.mk ((bz_ hg (lb1_ HB.out GE324.out))); have GE325 := Aside0.mk ((bz_ hg (lb1_ HB.out GE324.out))); replace HB := Aside0.mk (below_step (lb1_ HB.out GE324.out) hb); have NB324_325 := Aside0.mk ((by rw [hg]; exact Nat.ne_of_lt (blk_lt (g := gb324) (o := .cells #[.string a0_0, .string a0_1, .int .i64 a0_2] 31 (0, 0)) (bk_ BK324.out)) : gb324 ≠ gb325)); have NB325_324 := Aside0.mk ((by rw [hg]; exact Nat.ne_of_gt (blk_lt (g := gb324) (o := .cells #[.string a0_0, .string a0_1, .int .i64 a0_2] 31 (0, 0)) (bk_ BK324.out)) : gb325 ≠ gb324)); replace BK324 := Aside0.mk (bb_ (bk_ BK324.out) hb); clear hb hbox hg; have hnb7 := NB324_325.out; have hnc7 := NB325_324.out; obtain ⟨hcz8_0, hcz8_1, hcz8_2⟩ := cz3_ BK324.out; obtain ⟨hfz8_0, hfz8_1, hfz8_2⟩ := fz3_ BK324.out) | ((with_reducible refine gate_callee (f := 49) rfl ?_); refine ga_ (some 5) Tryd.func49 #[.agg #[.string a0_0, .string a0_1, .int .i64 a0_2]] ?_; (with_reducible refine (spec_l27Log.calls k a0_0 a0_1 a0_2 true _ A2.out).mono ?_); rintro e w9 ⟨rfl, hb⟩; refine ⟨_, rfl, ?_⟩; replace BK324 := Aside0.mk (bb_ (bk_ BK324.out) hb); replace BK325 := Aside0.mk (bb_ (bk_ BK325.out) hb); replace HB := Aside0.mk (below_step (lb2_ HB.out GE324.out GE325.out) hb); (try clear hb); (try clear hb2); (try clear hk); (try clear hi); obtain ⟨hcz10_0, hcz10_1, hcz10_2⟩ := cz3_ BK324.out; obtain ⟨hfz10_0, hfz10_1, hfz10_2⟩ := fz3_ BK324.out; obtain ⟨hcz11_0, hcz11_1, hcz11_2⟩ := cz3_ BK325.out; obtain ⟨hfz11_0, hfz11_1, hfz11_2⟩ := fz3_ BK325.out))
   refine bodyPost_ret (results_ct rfl _ _ gb325 31 #[.string (sc a0_0 a0_1), .string (⟨#[]⟩ : ByteArray), .int .i64 a0_2] (0, 0) _ rfl (by (with_reducible repeat (first | refine blk_drewN ?_ _ | refine blk_drew ?_ | refine blk_alloc ?_ _)); refine blk_put (cs := #[.string (sc a0_0 a0_1), .string (⟨#[]⟩ : ByteArray), .int .i64 0]) ?_ 2 _ rfl; (with_reducible repeat (first | refine blk_drewN ?_ _ | refine blk_drew ?_ | refine blk_alloc ?_ _)); refine blk_put (cs := #[.string (sc a0_0 a0_1), .string (⟨#[]⟩ : ByteArray), .int .i64 0]) ?_ 1 _ rfl; (with_reducible repeat (first | refine blk_drewN ?_ _ | refine blk_drew ?_ | refine blk_alloc ?_ _)); refine blk_put (cs := #[.string (⟨#[]⟩ : ByteArray), .string (⟨#[]⟩ : ByteArray), .int .i64 0]) ?_ 0 _ rfl; (with_reducible repeat (first | refine blk_drewN ?_ _ | refine blk_drew ?_ | refine blk_alloc ?_ _)); exact BK325.out) Tryd.underlying31 rfl (by kernel_rfl)) rfl ?_
   exact ⟨rr_, lb2_ HB.out GE324.out GE325.out⟩
  ·
   rw [if_neg c4] at H
   exact absurd H (by simp)
 ·
  replace c3 := Bool.eq_false_iff.mpr c3
  subst c3
  have H1 : (some ((⟨#[]⟩ : ByteArray), (⟨#[]⟩ : ByteArray), 0, false)) = some (r1, r2, r3, r4) := by rw [if_neg (show ¬ (false = true) by decide)] at H; exact H
  clear H
  have H := H1
  clear H1
  simp only [Option.some.injEq, Prod.mk.injEq] at H
  obtain ⟨rfl, rfl, rfl, rfl⟩ := H
  go_enter Tryd.func26, Tryd.ntmps26
  go_wp2_with (first | ((with_reducible refine gate_dst (N := 1) rfl ?_); refine box_event ?hg (N := 1) ?hd (cs := #[.string a0_0, .string a0_1, .int .i64 a0_2]) (t := 31) ?hr ?_; (case hd => rfl); (case hg => rfl); (case hr => first | (go_simp; done) | (go_simp; rfl)); intro gb324 hg w12 hbox hb; have BK324 := Aside0.mk (hbox); have GW324 := Aside0.mk ((bz_ hg (lb0_ HB.out))); have GE324 := Aside0.mk ((bz_ hg (lb0_ HB.out))); replace HB := Aside0.mk (below_step (lb0_ HB.out) hb); clear hb hbox hg) | ((with_reducible refine gate_dst (N := 2) rfl ?_); refine box_event ?hg (N := 2) ?hd (cs := #[.string (⟨#[]⟩ : ByteArray), .string (⟨#[]⟩ : ByteArray), .int .i64 0]) (t := 31) ?hr ?_; (case hd => rfl); (case hg => rfl); (case hr => first | (go_simp; done) | (go_simp; rfl)); intro gb325 hg w13 hbox hb; have BK325 := Aside0.mk (hbox); have GW325 := Aside0.mk ((bz_ hg (lb1_ HB.out GE324.out))); have GE325 := Aside0.mk ((bz_ hg (lb1_ HB.out GE324.out))); replace HB := Aside0.mk (below_step (lb1_ HB.out GE324.out) hb); have NB324_325 := Aside0.mk ((by rw [hg]; exact Nat.ne_of_lt (blk_lt (g := gb324) (o := .cells #[.string a0_0, .string a0_1, .int .i64 a0_2] 31 (0, 0)) (bk_ BK324.out)) : gb324 ≠ gb325)); have NB325_324 := Aside0.mk ((by rw [hg]; exact Nat.ne_of_gt (blk_lt (g := gb324) (o := .cells #[.string a0_0, .string a0_1, .int .i64 a0_2] 31 (0, 0)) (bk_ BK324.out)) : gb325 ≠ gb324)); replace BK324 := Aside0.mk (bb_ (bk_ BK324.out) hb); clear hb hbox hg; have hnb14 := NB324_325.out; have hnc14 := NB325_324.out; obtain ⟨hcz15_0, hcz15_1, hcz15_2⟩ := cz3_ BK324.out; obtain ⟨hfz15_0, hfz15_1, hfz15_2⟩ := fz3_ BK324.out) | ((with_reducible refine gate_callee (f := 49) rfl ?_); refine ga_ (some 5) Tryd.func49 #[.agg #[.string a0_0, .string a0_1, .int .i64 a0_2]] ?_; (with_reducible refine (spec_l27Log.calls k a0_0 a0_1 a0_2 false _ A2.out).mono ?_); rintro e w16 ⟨rfl, hb⟩; refine ⟨_, rfl, ?_⟩; replace BK324 := Aside0.mk (bb_ (bk_ BK324.out) hb); replace BK325 := Aside0.mk (bb_ (bk_ BK325.out) hb); replace HB := Aside0.mk (below_step (lb2_ HB.out GE324.out GE325.out) hb); (try clear hb); (try clear hb2); (try clear hk); (try clear hi); obtain ⟨hcz17_0, hcz17_1, hcz17_2⟩ := cz3_ BK325.out; obtain ⟨hfz17_0, hfz17_1, hfz17_2⟩ := fz3_ BK325.out))
  refine bodyPost_ret (results_ct rfl _ _ gb325 31 #[.string (⟨#[]⟩ : ByteArray), .string (⟨#[]⟩ : ByteArray), .int .i64 0] (0, 0) _ rfl (by (with_reducible repeat (first | refine blk_drewN ?_ _ | refine blk_drew ?_ | refine blk_alloc ?_ _)); refine blk_put (cs := #[.string (⟨#[]⟩ : ByteArray), .string (⟨#[]⟩ : ByteArray), .int .i64 0]) ?_ 2 _ rfl; (with_reducible repeat (first | refine blk_drewN ?_ _ | refine blk_drew ?_ | refine blk_alloc ?_ _)); refine blk_put (cs := #[.string (⟨#[]⟩ : ByteArray), .string (⟨#[]⟩ : ByteArray), .int .i64 0]) ?_ 1 _ rfl; (with_reducible repeat (first | refine blk_drewN ?_ _ | refine blk_drew ?_ | refine blk_alloc ?_ _)); refine blk_put (cs := #[.string (⟨#[]⟩ : ByteArray), .string (⟨#[]⟩ : ByteArray), .int .i64 0]) ?_ 0 _ rfl; (with_reducible repeat (first | refine blk_drewN ?_ _ | refine blk_drew ?_ | refine blk_alloc ?_ _)); exact BK325.out) Tryd.underlying31 rfl (by kernel_rfl)) rfl ?_
  exact ⟨rr_, lb2_ HB.out GE324.out GE325.out⟩
def spec_AppendRecord.j0 : Nat → Bool → ByteArray → ByteArray → Int → ByteArray → ByteArray → Option (ByteArray × ByteArray × Int × Int)
 | 0, _, _, _, _, _, _ => none
 | k + 1, x13, x350000, x350001, x350002, x351000, x351001 => if x13 = true then (some (x350000, x350001, x350002, 1)) else (if x350002 = 60 then (some (x350000, x350001, x350002, 2)) else ((spec_l27Line.f k x350002 x351000 x351001).bind fun t354 => (if x350001.size + t354.size ≤ 9223372036854775807 then (some (x350000, sc x350001 t354, wrap64 (x350002 + 1), 0)) else (none))))
def spec_AppendRecord.f (k : Nat) (a0_0 : ByteArray) (a0_1 : ByteArray) (a0_2 : Int) (a1_0 : ByteArray) (a1_1 : ByteArray) : Option (ByteArray × ByteArray × Int × Int) := (spec_l27Log.f k a0_0 a0_1 a0_2).bind fun t352 => (if t352 = true then ((spec_l27Good.f k a1_0 a1_1).bind fun t353 => (spec_AppendRecord.j0 k (!t353) a0_0 a0_1 a0_2 a1_0 a1_1)) else (spec_AppendRecord.j0 k true a0_0 a0_1 a0_2 a1_0 a1_1))
def spec_AppendRecord.T5 : Bool × List (List Nat × List Nat) := (true, [([], []), ([0], [0]), ([], []), ([2], [2]), ([], []), ([3, 4], [3, 4]), ([1, 5], [1, 5]), ([0, 1, 2, 3, 4, 5, 6], []), ([7, 6, 5, 0, 1, 2, 3, 4, 5, 6], [6, 7])])
def spec_AppendRecord.B5 : List Nat := [0, 1, 0, 4, 0, 28, 63, 127, 255]
theorem spec_AppendRecord.tab5 : rtab .any (opsOf Tryd.f28 5) = spec_AppendRecord.T5 := by kernel_rfl
theorem spec_AppendRecord.bits5 : waitsOk spec_AppendRecord.T5.2 spec_AppendRecord.B5 = true := by kernel_rfl
abbrev spec_AppendRecord.mk0 : Array Bool := #[false, false, false, false, false, false, false, false, false]
abbrev spec_AppendRecord.mk1 : Array Bool := #[true, false, false, false, false, false, false, false, false]
abbrev spec_AppendRecord.mk2 : Array Bool := #[true, false, true, false, false, false, false, false, false]
abbrev spec_AppendRecord.mk3 : Array Bool := #[true, true, true, false, false, false, false, false, false]
abbrev spec_AppendRecord.mk4 : Array Bool := #[true, true, true, true, false, false, false, false, false]
abbrev spec_AppendRecord.mk5 : Array Bool := #[true, true, true, true, true, false, false, false, false]
abbrev spec_AppendRecord.mk6 : Array Bool := #[true, true, true, true, true, true, false, false, false]
abbrev spec_AppendRecord.mk7 : Array Bool := #[true, true, true, true, true, true, true, false, false]
abbrev spec_AppendRecord.mk8 : Array Bool := #[true, true, true, true, true, true, true, true, false]
abbrev spec_AppendRecord.mk9 : Array Bool := #[true, true, true, true, true, true, true, true, true]
set_option maxHeartbeats 8000000 in
set_option maxRecDepth 100000 in
theorem spec_AppendRecord.calls (k : Nat) (a0_0 : ByteArray) (a0_1 : ByteArray) (a0_2 : Int) (a1_0 : ByteArray) (a1_1 : ByteArray) (r1 : ByteArray) (r2 : ByteArray) (r3 : Int) (r4 : Int) (w : World) (h : spec_AppendRecord.f k a0_0 a0_1 a0_2 a1_0 a1_1 = some (r1, r2, r3, r4)) :
  Calls Tryd.prog 28 #[.agg #[.string a0_0, .string a0_1, .int .i64 a0_2], .agg #[.string a1_0, .string a1_1]] w fun e w' => e = .returned (.tuple #[.agg #[.string r1, .string r2, .int .i64 r3], .int .i64 r4]) ∧ Below w.heap.size w w' := by
 have hu31 := Tryd.underlying31
 have hu27 := Tryd.underlying27
 have HB := Aside0.mk (Below.refl w.heap.size w)
 have H : ((spec_l27Log.f k a0_0 a0_1 a0_2).bind fun t352 => (if t352 = true then ((spec_l27Good.f k a1_0 a1_1).bind fun t353 => (spec_AppendRecord.j0 k (!t353) a0_0 a0_1 a0_2 a1_0 a1_1)) else (spec_AppendRecord.j0 k true a0_0 a0_1 a0_2 a1_0 a1_1))) = some (r1, r2, r3, r4) := h
 clear h
 have HC3 := Aside0.mk H
 clear H
 go_enter Tryd.func28, Tryd.ntmps28
 go_upto_region 1 with (first | ((with_reducible refine gate_dst (N := 2) rfl ?_); refine box_event ?hg (N := 2) ?hd (cs := #[.string a0_0, .string a0_1, .int .i64 a0_2]) (t := 31) ?hr ?_; (case hd => rfl); (case hg => rfl); (case hr => first | (go_simp; done) | (go_simp; rfl)); intro gb349 hg w4 hbox hb; have BK349 := Aside0.mk (hbox); have GW349 := Aside0.mk ((bz_ hg (lb0_ HB.out))); have GE349 := Aside0.mk ((bz_ hg (lb0_ HB.out))); replace HB := Aside0.mk (below_step (lb0_ HB.out) hb); clear hb hbox hg) | ((with_reducible refine gate_dst (N := 3) rfl ?_); refine box_event ?hg (N := 3) ?hd (cs := #[.string a1_0, .string a1_1]) (t := 27) ?hr ?_; (case hd => rfl); (case hg => rfl); (case hr => first | (go_simp; done) | (go_simp; rfl)); intro gb350 hg w5 hbox hb; have BK350 := Aside0.mk (hbox); have GW350 := Aside0.mk ((bz_ hg (lb1_ HB.out GE349.out))); have GE350 := Aside0.mk ((bz_ hg (lb1_ HB.out GE349.out))); replace HB := Aside0.mk (below_step (lb1_ HB.out GE349.out) hb); have NB349_350 := Aside0.mk ((by rw [hg]; exact Nat.ne_of_lt (blk_lt (g := gb349) (o := .cells #[.string a0_0, .string a0_1, .int .i64 a0_2] 31 (0, 0)) (bk_ BK349.out)) : gb349 ≠ gb350)); have NB350_349 := Aside0.mk ((by rw [hg]; exact Nat.ne_of_gt (blk_lt (g := gb349) (o := .cells #[.string a0_0, .string a0_1, .int .i64 a0_2] 31 (0, 0)) (bk_ BK349.out)) : gb350 ≠ gb349)); replace BK349 := Aside0.mk (bb_ (bk_ BK349.out) hb); clear hb hbox hg) | ((with_reducible refine gate_dst (N := 4) rfl ?_); refine box_event ?hg (N := 4) ?hd (cs := #[.string (⟨#[]⟩ : ByteArray), .string (⟨#[]⟩ : ByteArray), .int .i64 0]) (t := 31) ?hr ?_; (case hd => rfl); (case hg => rfl); (case hr => first | (go_simp; done) | (go_simp; rfl)); intro gb351 hg w6 hbox hb; have BK351 := Aside0.mk (hbox); have GW351 := Aside0.mk ((bz_ hg (lb2_ HB.out GE349.out GE350.out))); have GE351 := Aside0.mk ((bz_ hg (lb2_ HB.out GE349.out GE350.out))); replace HB := Aside0.mk (below_step (lb2_ HB.out GE349.out GE350.out) hb); have NB349_351 := Aside0.mk ((by rw [hg]; exact Nat.ne_of_lt (blk_lt (g := gb349) (o := .cells #[.string a0_0, .string a0_1, .int .i64 a0_2] 31 (0, 0)) (bk_ BK349.out)) : gb349 ≠ gb351)); have NB351_349 := Aside0.mk ((by rw [hg]; exact Nat.ne_of_gt (blk_lt (g := gb349) (o := .cells #[.string a0_0, .string a0_1, .int .i64 a0_2] 31 (0, 0)) (bk_ BK349.out)) : gb351 ≠ gb349)); replace BK349 := Aside0.mk (bb_ (bk_ BK349.out) hb); have NB350_351 := Aside0.mk ((by rw [hg]; exact Nat.ne_of_lt (blk_lt (g := gb350) (o := .cells #[.string a1_0, .string a1_1] 27 (0, 0)) (bk_ BK350.out)) : gb350 ≠ gb351)); have NB351_350 := Aside0.mk ((by rw [hg]; exact Nat.ne_of_gt (blk_lt (g := gb350) (o := .cells #[.string a1_0, .string a1_1] 27 (0, 0)) (bk_ BK350.out)) : gb351 ≠ gb350)); replace BK350 := Aside0.mk (bb_ (bk_ BK350.out) hb); clear hb hbox hg))
 (try simp only [Act.put, List.setIfInBounds_toArray, List.set_cons_zero, List.set_cons_succ])
 go_cut [13] (fun v13 wc => ∃ (kq : Nat) (x13_2 : Bool), v13 = .bool x13_2 ∧ Aside0 (spec_AppendRecord.j0 kq x13_2 a0_0 a0_1 a0_2 a1_0 a1_1 = some (r1, r2, r3, r4)) ∧ Aside0 (kq ≤ k) ∧ Aside0 (wc.heap[gb349]? = some (.cells #[.string a0_0, .string a0_1, .int .i64 a0_2] 31 (0, 0))) ∧ Aside0 (wc.heap[gb350]? = some (.cells #[.string a1_0, .string a1_1] 27 (0, 0))) ∧ Aside0 (wc.heap[gb351]? = some (.cells #[.string (⟨#[]⟩ : ByteArray), .string (⟨#[]⟩ : ByteArray), .int .i64 0] 31 (0, 0))) ∧ Aside0 (Below w.heap.size w wc))
 case first =>
  have H := HC3.out
  clear HC3
  replace H := Option.bind_eq_some_iff.mp H
  obtain ⟨t352, A70, H⟩ := H
  replace H : (if t352 = true then ((spec_l27Good.f k a1_0 a1_1).bind fun t353 => (spec_AppendRecord.j0 k (!t353) a0_0 a0_1 a0_2 a1_0 a1_1)) else (spec_AppendRecord.j0 k true a0_0 a0_1 a0_2 a1_0 a1_1)) = some (r1, r2, r3, r4) := H
  have A7 := Aside0.mk A70
  clear A70
  by_cases c8 : t352 = true
  ·
   subst c8
   have H1 : ((spec_l27Good.f k a1_0 a1_1).bind fun t353 => (spec_AppendRecord.j0 k (!t353) a0_0 a0_1 a0_2 a1_0 a1_1)) = some (r1, r2, r3, r4) := by rw [if_pos rfl] at H; exact H
   clear H
   have H := H1
   clear H1
   replace H := Option.bind_eq_some_iff.mp H
   obtain ⟨t353, A90, H⟩ := H
   replace H : (spec_AppendRecord.j0 k (!t353) a0_0 a0_1 a0_2 a1_0 a1_1) = some (r1, r2, r3, r4) := H
   have A9 := Aside0.mk A90
   clear A90
   have H' := Aside0.mk H
   clear H
   have hnb10 := NB349_350.out
   have hnc10 := NB350_349.out
   have hnb11 := NB349_351.out
   have hnc11 := NB351_349.out
   obtain ⟨hcz12_0, hcz12_1, hcz12_2⟩ := cz3_ BK349.out
   obtain ⟨hfz12_0, hfz12_1, hfz12_2⟩ := fz3_ BK349.out
   go_wp2_with (first | ((with_reducible refine gate_callee (f := 49) rfl ?_); refine ga_ (some 7) Tryd.func49 #[.agg #[.string a0_0, .string a0_1, .int .i64 a0_2]] ?_; (with_reducible refine (spec_l27Log.calls k a0_0 a0_1 a0_2 true _ A7.out).mono ?_); rintro e w13 ⟨rfl, hb⟩; refine ⟨_, rfl, ?_⟩; replace BK349 := Aside0.mk (bb_ (bk_ BK349.out) hb); replace BK350 := Aside0.mk (bb_ (bk_ BK350.out) hb); replace BK351 := Aside0.mk (bb_ (bk_ BK351.out) hb); replace HB := Aside0.mk (below_step (lb3_ HB.out GE349.out GE350.out GE351.out) hb); (try clear hb); (try clear hb2); (try clear hk); (try clear hi); have hnb14 := NB350_351.out; have hnc14 := NB351_350.out; obtain ⟨hcz15_0, hcz15_1⟩ := cz2_ BK350.out; obtain ⟨hfz15_0, hfz15_1⟩ := fz2_ BK350.out) | (go_at_call 43; (with_reducible refine (spec_l27Good.calls k a1_0 a1_1 t353 _ A9.out).mono ?_); rintro e w16 ⟨rfl, hb⟩; replace BK349 := Aside0.mk (bb_ (bk_ BK349.out) hb); replace BK350 := Aside0.mk (bb_ (bk_ BK350.out) hb); replace BK351 := Aside0.mk (bb_ (bk_ BK351.out) hb); replace HB := Aside0.mk (below_step (lb3_ HB.out GE349.out GE350.out GE351.out) hb); (try clear hb); (try clear hb2); (try clear hk); (try clear hi)))
   go_meet
   case rel => exact ⟨_, (!t353), (by first | rfl | (simp; done) | (simp [*]; done)), H', ⟨by first | omega | exact Nat.le_refl _⟩, ⟨bk_ BK349.out⟩, ⟨bk_ BK350.out⟩, ⟨bk_ BK351.out⟩, ⟨lb3_ HB.out GE349.out GE350.out GE351.out⟩⟩
  ·
   replace c8 := Bool.eq_false_iff.mpr c8
   subst c8
   have H1 : (spec_AppendRecord.j0 k true a0_0 a0_1 a0_2 a1_0 a1_1) = some (r1, r2, r3, r4) := by rw [if_neg (show ¬ (false = true) by decide)] at H; exact H
   clear H
   have H := H1
   clear H1
   have H' := Aside0.mk H
   clear H
   have hnb17 := NB349_350.out
   have hnc17 := NB350_349.out
   have hnb18 := NB349_351.out
   have hnc18 := NB351_349.out
   obtain ⟨hcz19_0, hcz19_1, hcz19_2⟩ := cz3_ BK349.out
   obtain ⟨hfz19_0, hfz19_1, hfz19_2⟩ := fz3_ BK349.out
   go_wp2_with (first | ((with_reducible refine gate_callee (f := 49) rfl ?_); refine ga_ (some 7) Tryd.func49 #[.agg #[.string a0_0, .string a0_1, .int .i64 a0_2]] ?_; (with_reducible refine (spec_l27Log.calls k a0_0 a0_1 a0_2 false _ A7.out).mono ?_); rintro e w20 ⟨rfl, hb⟩; refine ⟨_, rfl, ?_⟩; replace BK349 := Aside0.mk (bb_ (bk_ BK349.out) hb); replace BK350 := Aside0.mk (bb_ (bk_ BK350.out) hb); replace BK351 := Aside0.mk (bb_ (bk_ BK351.out) hb); replace HB := Aside0.mk (below_step (lb3_ HB.out GE349.out GE350.out GE351.out) hb); (try clear hb); (try clear hb2); (try clear hk); (try clear hi)))
   go_meet
   case rel => exact ⟨_, (true), (by first | rfl | (simp; done) | (simp [*]; done)), H', ⟨by first | omega | exact Nat.le_refl _⟩, ⟨bk_ BK349.out⟩, ⟨bk_ BK350.out⟩, ⟨bk_ BK351.out⟩, ⟨lb3_ HB.out GE349.out GE350.out GE351.out⟩⟩
 case rest =>
  clear HC3
  try clear c1
  try clear c2
  try clear p2
  try clear c4
  try clear c8
  try clear c10
  try clear c11
  try clear c14
  try clear c17
  try clear c18
  try clear hcz12_0 hcz12_1 hcz12_2
  try clear hcz15_0 hcz15_1
  try clear hcz19_0 hcz19_1 hcz19_2
  try clear hfz12_0 hfz12_1 hfz12_2
  try clear hfz15_0 hfz15_1
  try clear hfz19_0 hfz19_1 hfz19_2
  obtain ⟨kq, x13_2, rfl, HA, HJ2, BK349, BK350, BK351, HB⟩ := hcut
  cases kq with
  | zero => exact absurd HA.out (by simp [spec_AppendRecord.j0])
  | succ kj2 =>
   have H := HA.out
   clear HA
   simp only [spec_AppendRecord.j0] at H
   by_cases c21 : x13_2 = true
   ·
    subst c21
    have H1 : (some (a0_0, a0_1, a0_2, 1)) = some (r1, r2, r3, r4) := by rw [if_pos rfl] at H; exact H
    clear H
    have H := H1
    clear H1
    simp only [Option.some.injEq, Prod.mk.injEq] at H
    obtain ⟨rfl, rfl, rfl, rfl⟩ := H
    have hnb22 := NB349_350.out
    have hnc22 := NB350_349.out
    have hnb23 := NB349_351.out
    have hnc23 := NB351_349.out
    obtain ⟨hcz24_0, hcz24_1, hcz24_2⟩ := cz3_ BK349.out
    obtain ⟨hfz24_0, hfz24_1, hfz24_2⟩ := fz3_ BK349.out
    have hnb25 := NB351_350.out
    have hnc25 := NB350_351.out
    obtain ⟨hcz26_0, hcz26_1, hcz26_2⟩ := cz3_ BK351.out
    obtain ⟨hfz26_0, hfz26_1, hfz26_2⟩ := fz3_ BK351.out
    go_wp2
    refine bodyPost_ret (results_ct rfl _ _ gb351 31 #[.string a0_0, .string a0_1, .int .i64 a0_2] (0, 0) _ rfl (by (with_reducible repeat (first | refine blk_drewN ?_ _ | refine blk_drew ?_ | refine blk_alloc ?_ _)); refine blk_put (cs := #[.string a0_0, .string a0_1, .int .i64 0]) ?_ 2 _ rfl; (with_reducible repeat (first | refine blk_drewN ?_ _ | refine blk_drew ?_ | refine blk_alloc ?_ _)); refine blk_put (cs := #[.string a0_0, .string (⟨#[]⟩ : ByteArray), .int .i64 0]) ?_ 1 _ rfl; (with_reducible repeat (first | refine blk_drewN ?_ _ | refine blk_drew ?_ | refine blk_alloc ?_ _)); refine blk_put (cs := #[.string (⟨#[]⟩ : ByteArray), .string (⟨#[]⟩ : ByteArray), .int .i64 0]) ?_ 0 _ rfl; (with_reducible repeat (first | refine blk_drewN ?_ _ | refine blk_drew ?_ | refine blk_alloc ?_ _)); exact BK351.out) Tryd.underlying31 rfl (by kernel_rfl)) rfl ?_
    exact ⟨rr_, lb3_ HB.out GE349.out GE350.out GE351.out⟩
   ·
    replace c21 := Bool.eq_false_iff.mpr c21
    subst c21
    have H1 : (if a0_2 = 60 then (some (a0_0, a0_1, a0_2, 2)) else ((spec_l27Line.f kj2 a0_2 a1_0 a1_1).bind fun t354 => (if a0_1.size + t354.size ≤ 9223372036854775807 then (some (a0_0, sc a0_1 t354, wrap64 (a0_2 + 1), 0)) else (none)))) = some (r1, r2, r3, r4) := by rw [if_neg (show ¬ (false = true) by decide)] at H; exact H
    clear H
    have H := H1
    clear H1
    by_cases c27 : a0_2 = 60
    ·
     rw [if_pos c27] at H
     have c27b0 : (a0_2 == 60) = true := beq_iff_eq.mpr c27
     have c27b1 : (a0_2 != 60) = false := bne_eq_false_iff_eq.mpr c27
     clear c27
     simp only [Option.some.injEq, Prod.mk.injEq] at H
     obtain ⟨rfl, rfl, rfl, rfl⟩ := H
     have hnb28 := NB349_350.out
     have hnc28 := NB350_349.out
     have hnb29 := NB349_351.out
     have hnc29 := NB351_349.out
     obtain ⟨hcz30_0, hcz30_1, hcz30_2⟩ := cz3_ BK349.out
     obtain ⟨hfz30_0, hfz30_1, hfz30_2⟩ := fz3_ BK349.out
     have hnb31 := NB351_350.out
     have hnc31 := NB350_351.out
     obtain ⟨hcz32_0, hcz32_1, hcz32_2⟩ := cz3_ BK351.out
     obtain ⟨hfz32_0, hfz32_1, hfz32_2⟩ := fz3_ BK351.out
     go_wp2
     refine bodyPost_ret (results_ct rfl _ _ gb351 31 #[.string a0_0, .string a0_1, .int .i64 a0_2] (0, 0) _ rfl (by (with_reducible repeat (first | refine blk_drewN ?_ _ | refine blk_drew ?_ | refine blk_alloc ?_ _)); refine blk_put (cs := #[.string a0_0, .string a0_1, .int .i64 0]) ?_ 2 _ rfl; (with_reducible repeat (first | refine blk_drewN ?_ _ | refine blk_drew ?_ | refine blk_alloc ?_ _)); refine blk_put (cs := #[.string a0_0, .string (⟨#[]⟩ : ByteArray), .int .i64 0]) ?_ 1 _ rfl; (with_reducible repeat (first | refine blk_drewN ?_ _ | refine blk_drew ?_ | refine blk_alloc ?_ _)); refine blk_put (cs := #[.string (⟨#[]⟩ : ByteArray), .string (⟨#[]⟩ : ByteArray), .int .i64 0]) ?_ 0 _ rfl; (with_reducible repeat (first | refine blk_drewN ?_ _ | refine blk_drew ?_ | refine blk_alloc ?_ _)); exact BK351.out) Tryd.underlying31 rfl (by kernel_rfl)) rfl ?_
     exact ⟨rr_, lb3_ HB.out GE349.out GE350.out GE351.out⟩
    ·
     rw [if_neg c27] at H
     have c27b0 : (a0_2 == 60) = false := beq_eq_false_iff_ne.mpr c27
     have c27b1 : (a0_2 != 60) = true := bne_iff_ne.mpr c27
     replace H := Option.bind_eq_some_iff.mp H
     obtain ⟨t354, A330, H⟩ := H
     replace H : (if a0_1.size + t354.size ≤ 9223372036854775807 then (some (a0_0, sc a0_1 t354, wrap64 (a0_2 + 1), 0)) else (none)) = some (r1, r2, r3, r4) := H
     have A33 := Aside0.mk A330
     clear A330
     by_cases c34 : a0_1.size + t354.size ≤ 9223372036854775807
     ·
      rw [if_pos c34] at H
      have c34b0 := eq_true c34
      have c34b1 : decide (a0_1.size + t354.size ≤ 9223372036854775807) = true := decide_eq_true c34
      try have c34b2 : (9223372036854775807 < a0_1.size + t354.size) = False := eq_false (Nat.not_lt.2 c34)
      simp only [Option.some.injEq, Prod.mk.injEq] at H
      obtain ⟨rfl, rfl, rfl, rfl⟩ := H
      have hnb35 := NB349_350.out
      have hnc35 := NB350_349.out
      have hnb36 := NB349_351.out
      have hnc36 := NB351_349.out
      obtain ⟨hcz37_0, hcz37_1, hcz37_2⟩ := cz3_ BK349.out
      obtain ⟨hfz37_0, hfz37_1, hfz37_2⟩ := fz3_ BK349.out
      try go_wp2
      replace BK349 := Aside0.mk (blk_drew BK349.out)
      replace BK350 := Aside0.mk (blk_drew BK350.out)
      replace BK351 := Aside0.mk (blk_drew BK351.out)
      replace HB := Aside0.mk (below_drew1 HB.out)
      refine start_ (n := 9) (S := fun w' => w'.cell? ⟨gb349, 0, none⟩ = some (.string a0_0) ∧ w'.cell? ⟨gb349, 1, none⟩ = some (.string a0_1) ∧ w'.cell? ⟨gb349, 2, none⟩ = some (.int .i64 a0_2) ∧ w'.cell? ⟨gb350, 0, none⟩ = some (.string a1_0) ∧ w'.cell? ⟨gb350, 1, none⟩ = some (.string a1_1)) (ds := [8]) spec_AppendRecord.mk0 (by kernel_rfl) rfl rfl ⟨(blk_cell BK349.out 0).trans rfl, (blk_cell BK349.out 1).trans rfl, (blk_cell BK349.out 2).trans rfl, (blk_cell BK350.out 0).trans rfl, (blk_cell BK350.out 1).trans rfl⟩ (fun hHeld => ?_); refine with_tabW spec_AppendRecord.tab5 spec_AppendRecord.bits5 (fun HT_ HW_ => ?_)
      generalize wc.drew = w38 at BK349 BK350 BK351 HB hHeld ⊢
      refine pz_ HT_ 0 (some 19) spec_AppendRecord.mk1 ?_
      refine pz_ HT_ 2 (some 21) spec_AppendRecord.mk2 ?_
      refine take_ (i := 1) (N := some 20) (v := ?_) (a' := ?_) spec_AppendRecord.mk3 rfl rfl (take_ofW HT_.out HW_.out (by kernel_rfl)) (fun _ _ _ h => h) (Or.inl ⟨by rfl, ?_⟩) hHeld ?_ ?_
      rotate_left
      ·
       rintro w' ⟨s0, s1, s2, s3, s4⟩
       go_simp
       with_reducible rfl
      rotate_left
      ·
       simp only [Act.put, List.setIfInBounds_toArray, List.set_cons_zero, List.set_cons_succ, i64_w, i32_w]
       rfl
      refine take_ (i := 3) (N := some 22) (v := ?_) (a' := ?_) spec_AppendRecord.mk4 rfl rfl (take_ofW HT_.out HW_.out (by kernel_rfl)) (fun _ _ _ h => h) (Or.inl ⟨by rfl, ?_⟩) hHeld ?_ ?_
      rotate_left
      ·
       rintro w' ⟨s0, s1, s2, s3, s4⟩
       go_simp
       with_reducible rfl
      rotate_left
      ·
       simp only [Act.put, List.setIfInBounds_toArray, List.set_cons_zero, List.set_cons_succ, i64_w, i32_w]
       rfl
      refine take_ (i := 4) (N := some 23) (v := ?_) (a' := ?_) spec_AppendRecord.mk5 rfl rfl (take_ofW HT_.out HW_.out (by kernel_rfl)) (fun _ _ _ h => h) (Or.inl ⟨by rfl, ?_⟩) hHeld ?_ ?_
      rotate_left
      ·
       rintro w' ⟨s0, s1, s2, s3, s4⟩
       go_simp
       with_reducible rfl
      rotate_left
      ·
       simp only [Act.put, List.setIfInBounds_toArray, List.set_cons_zero, List.set_cons_succ, i64_w, i32_w]
       rfl
      refine one_ (i := 5) (N := some 24) spec_AppendRecord.mk6 rfl rfl (one_of HT_.out (by kernel_rfl)) (by decide) (fun K hK => ?_)
      refine gs_ Tryd.func44 #[.int .i64 a0_2, .agg #[.string a1_0, .string a1_1]] ?_
      with_reducible refine (spec_l27Line.calls kj2 a0_2 a1_0 a1_1 t354 _ A33.out).mono ?_
      rintro e w39 ⟨rfl, hb⟩
      refine ⟨_, rfl, ?_⟩
      replace BK349 := Aside0.mk (bb_ (bk_ BK349.out) hb)
      replace BK350 := Aside0.mk (bb_ (bk_ BK350.out) hb)
      replace BK351 := Aside0.mk (bb_ (bk_ BK351.out) hb)
      replace HB := Aside0.mk (below_step (lb3_ HB.out GE349.out GE350.out GE351.out) hb)
      (try clear hb)
      (try clear hb2)
      (try clear hk)
      (try clear hi)
      refine hK.out _ _ ⟨(blk_cell BK349.out 0).trans rfl, (blk_cell BK349.out 1).trans rfl, (blk_cell BK349.out 2).trans rfl, (blk_cell BK350.out 0).trans rfl, (blk_cell BK350.out 1).trans rfl⟩ (fun hHeld => ?_)
      clear hK K
      refine na_ ?_
      refine pz_ HT_ 6 (some 25) spec_AppendRecord.mk7 ?_
      refine pz_ HT_ 7 (some 26) spec_AppendRecord.mk8 ?_
      refine last_ (i := 8) (N := none) spec_AppendRecord.mk9 rfl rfl (one_of HT_.out (by kernel_rfl)) (by decide) (fun K hK => ?_)
      have hs40 : w39.cell? ⟨gb349, 1, none⟩ = some (.string a0_1) := (blk_cell BK349.out 1).trans rfl
      have hfs40 := blk_frozen BK349.out 1
      have hns40_1 := NB350_349.out
      have hns40_2 := NB351_349.out
      have hms40_1 := NB349_350.out
      have hms40_2 := NB349_351.out
      refine skip_ (w1 := ?_) (by rfl) rfl ?_ ?_
      rotate_left
      ·
       go_simp
       rfl
      refine hK.out _ _ ?_
      clear hK K
      refine done_ (done_of HT_.out (by kernel_rfl)) ?_
      obtain ⟨hcz41_0, hcz41_1, hcz41_2⟩ := cz3_ BK349.out
      obtain ⟨hfz41_0, hfz41_1, hfz41_2⟩ := fz3_ BK349.out
      have hnb42 := NB351_350.out
      have hnc42 := NB350_351.out
      obtain ⟨hcz43_0, hcz43_1, hcz43_2⟩ := cz3_ BK351.out
      obtain ⟨hfz43_0, hfz43_1, hfz43_2⟩ := fz3_ BK351.out
      try go_wp2
      refine bodyPost_ret (results_ct rfl _ _ gb351 31 #[.string a0_0, .string (sc a0_1 t354), .int .i64 (wrap64 (a0_2 + 1))] (0, 0) _ rfl (by (with_reducible repeat (first | refine blk_drewN ?_ _ | refine blk_drew ?_ | refine blk_alloc ?_ _)); refine blk_put (cs := #[.string a0_0, .string (sc a0_1 t354), .int .i64 0]) ?_ 2 _ rfl; (with_reducible repeat (first | refine blk_drewN ?_ _ | refine blk_drew ?_ | refine blk_alloc ?_ _)); refine blk_put (cs := #[.string a0_0, .string (⟨#[]⟩ : ByteArray), .int .i64 0]) ?_ 1 _ rfl; (with_reducible repeat (first | refine blk_drewN ?_ _ | refine blk_drew ?_ | refine blk_alloc ?_ _)); refine blk_put (cs := #[.string (⟨#[]⟩ : ByteArray), .string (⟨#[]⟩ : ByteArray), .int .i64 0]) ?_ 0 _ rfl; (with_reducible repeat (first | refine blk_drewN ?_ _ | refine blk_drew ?_ | refine blk_alloc ?_ _)); refine blk_far ?_ NB351_349.out _; (with_reducible repeat (first | refine blk_drewN ?_ _ | refine blk_drew ?_ | refine blk_alloc ?_ _)); refine blk_far ?_ NB351_349.out _; (with_reducible repeat (first | refine blk_drewN ?_ _ | refine blk_drew ?_ | refine blk_alloc ?_ _)); exact BK351.out) Tryd.underlying31 rfl (by kernel_rfl)) rfl ?_
      exact ⟨rr_, lb3_ HB.out GE349.out GE350.out GE351.out⟩
     ·
      rw [if_neg c34] at H
      exact absurd H (by simp)
end Go.Proofs.YtdpinnhgkocjhaaDoor.Pr

namespace Go.Proofs.YtdpinnhgkocjhaaDoor.Pr
open Go.RowKit Go.Proofs.YtdpinnhgkocjhaaDoorW.PrintWords Go.Proofs.YtdpinnhgkocjhaaDoorW.PrintLast Go.Proofs.YtdpinnhgkocjhaaDoorW.PrintMore
attribute [local go_sem] max2_int min2_int max_two min_two max_three min_three max_four min_four   -- for this text's walks alone
set_option linter.unusedVariables false
set_option linter.unusedSimpArgs false
def spec_l1Cur_of.f (s0_0 : List Int) (s0_1 : Int) (s0_2 : Int) (l1 : List ByteArray) : Option (ByteArray × Int × Int) := (spec_l1Cur_pick.f s0_0 s0_1 s0_2 (l1.length : Int)).bind fun bt455 => (if 0 ≤ bt455.1 then (if bt455.1 < (l1.length : Int) then (some (rdOf ByteArray.empty l1 bt455.1, bt455.2.1, bt455.2.2)) else (none)) else (none))
set_option maxHeartbeats 8000000 in
set_option maxRecDepth 100000 in
theorem spec_l1Cur_of.calls (g : Nat) (s0_0 : List Int) (s0_1 : Int) (s0_2 : Int) (A1 : Option Addr) (c1 : Nat) (l1 : List ByteArray) (r1 : ByteArray) (r2 : Int) (r3 : Int) (w0 w : World) (hI : IsS74 w0 w g s0_0 s0_1 s0_2) (hB : Below w0.heap.size w0 w) (hr1 : Kd.C Kd.string w A1 l1.length l1) (hc1 : l1.length ≤ c1) (hf1 : ∀ ad, A1 = some ad → 0 < l1.length → ad.block ≠ g) (h : spec_l1Cur_of.f s0_0 s0_1 s0_2 l1 = some (r1, r2, r3)) :
  Calls Tryd.prog 73 #[.pointer (some ⟨g, 0, none⟩), .slice A1 l1.length c1] w fun e w' => e = .returned (.string r1) ∧ IsS74 w0 w' g s0_0 r2 r3 ∧ Below w0.heap.size w0 w' ∧ KeepBut w w' g none := by
 have HR1 := Aside0.mk hr1
 have HC1 := Aside0.mk hc1
 clear hr1 hc1
 have HI0 := Aside0.mk hI
 have HK := Aside0.mk (KeepBut.refl w g none)
 have HL := Aside0.mk hB.size
 clear hI
 have HW0 := Aside0.mk hB.size
 have HB := Aside0.mk hB
 clear hB
 have H : ((spec_l1Cur_pick.f s0_0 s0_1 s0_2 (l1.length : Int)).bind fun bt455 => (if 0 ≤ bt455.1 then (if bt455.1 < (l1.length : Int) then (some (rdOf ByteArray.empty l1 bt455.1, bt455.2.1, bt455.2.2)) else (none)) else (none))) = some (r1, r2, r3) := h
 clear h
 replace H := Option.bind_eq_some_iff.mp H
 obtain ⟨⟨t455, t456, t457⟩, A30, H⟩ := H
 replace H : (if 0 ≤ t455 then (if t455 < (l1.length : Int) then (some (rdOf ByteArray.empty l1 t455, t456, t457)) else (none)) else (none)) = some (r1, r2, r3) := H
 have A3 := Aside0.mk A30
 clear A30
 by_cases c4 : 0 ≤ t455
 ·
  rw [if_pos c4] at H
  have c4b0 : decide (0 ≤ t455) = true := decide_eq_true c4
  clear c4
  by_cases c5 : t455 < (l1.length : Int)
  ·
   rw [if_pos c5] at H
   have c5b0 : decide (t455 < (l1.length : Int)) = true := decide_eq_true c5
   clear c5
   simp only [Option.some.injEq, Prod.mk.injEq] at H
   obtain ⟨rfl, rfl, rfl⟩ := H
   go_enter Tryd.func73, Tryd.ntmps73
   go_wp2_with (first | ((with_reducible refine gate_callee (f := 55) rfl ?_); refine ga_ (some 9) Tryd.func55 #[.pointer (some ⟨g, 0, none⟩), .int .i64 (l1.length : Int)] ?_; (with_reducible refine (spec_l1Cur_pick.calls g s0_0 s0_1 s0_2 (l1.length : Int) t455 t456 t457 w0 _ ?side1 ?side2 A3.out).mono ?_); (case side1 => exact is74_0 HI0.out); (case side2 => exact lb1_ HB.out (IsS74.ge HI0.out)); rintro e w6 ⟨rfl, hi, hb, hk⟩; refine ⟨_, rfl, ?_⟩; replace HK := Aside0.mk (KeepBut.trans (kb0_ HK.out) hk (.inl rfl)); replace HB := Aside0.mk (hb); replace HI0 := Aside0.mk (hi); (try clear hb); (try clear hb2); (try clear hk); (try clear hi); have p458 : 0 ≤ (t455 : Int) := dt_; have q458 : t455 < (l1.length : Int) := dt_; obtain ⟨ad458, e458, hx458_0⟩ := Kd.at_string HR1.out t455 p458 q458; cases e458; replace hx458_0 := keep_cell HK.out hx458_0 (by first | (rw [add_block]; exact hf1 _ rfl (by omega)) | exact hf1 _ rfl (by omega) | exact hf1 ad458 rfl (by omega)); replace p458 := eq_true p458; replace q458 := eq_true q458))
   go_ret
   exact ⟨rr_, is74_0 HI0.out, lb1_ HB.out (IsS74.ge HI0.out), kb0_ HK.out⟩
  ·
   rw [if_neg c5] at H
   exact absurd H (by simp)
 ·
  rw [if_neg c4] at H
  exact absurd H (by simp)
def spec_l1Cur_logRecord.f (s0_0 : List Int) (s0_1 : Int) (s0_2 : Int) : Option (ByteArray × ByteArray × Int × Int) := (spec_l1Cur_of.f s0_0 s0_1 s0_2 (([(⟨#[99, 111, 117, 110, 116]⟩ : ByteArray), (⟨#[115, 111, 114, 116, 32, 109, 101, 114, 103, 101]⟩ : ByteArray), (⟨#[120]⟩ : ByteArray), (⟨#[115, 101, 108, 101, 99, 116, 32, 50]⟩ : ByteArray), (⟨#[48, 32, 49]⟩ : ByteArray)] : List ByteArray))).bind fun bt463 => ((spec_l1Cur_of.f s0_0 bt463.2.1 bt463.2.2 (([(⟨#[]⟩ : ByteArray), (⟨#[51]⟩ : ByteArray), (⟨#[63]⟩ : ByteArray), (⟨#[97, 64, 98]⟩ : ByteArray), (⟨#[51, 32, 49, 32, 50]⟩ : ByteArray)] : List ByteArray))).bind fun bt469 => ((spec_l1Cur_pick.f s0_0 bt469.2.1 bt469.2.2 24).bind fun bt473 => (if bt473.1 = 0 then (if 3 ≤ 281474976710656 then ((spec_l1Cur_of.f s0_0 bt473.2.1 bt473.2.2 (([(⟨#[]⟩ : ByteArray), (⟨#[97, 64, 98]⟩ : ByteArray), (⟨#[97, 35]⟩ : ByteArray), (⟨#[10]⟩ : ByteArray), strOfNums (List.replicate 3 0)] : List ByteArray))).bind fun bt482 => (some (bt482.1, bt469.1, bt482.2.1, bt482.2.2))) else (none)) else (if bt473.1 = 1 then ((spec_l1Cur_of.f s0_0 bt473.2.1 bt473.2.2 (([(⟨#[35]⟩ : ByteArray), (⟨#[10]⟩ : ByteArray), (⟨#[127]⟩ : ByteArray)] : List ByteArray))).bind fun bt488 => (some (bt463.1, bt488.1, bt488.2.1, bt488.2.2))) else (some (bt463.1, bt469.1, bt473.2.1, bt473.2.2))))))
set_option maxHeartbeats 8000000 in
set_option maxRecDepth 100000 in
theorem spec_l1Cur_logRecord.calls (g : Nat) (s0_0 : List Int) (s0_1 : Int) (s0_2 : Int) (r1 : ByteArray) (r2 : ByteArray) (r3 : Int) (r4 : Int) (w0 w : World) (hI : IsS74 w0 w g s0_0 s0_1 s0_2) (hB : Below w0.heap.size w0 w) (h : spec_l1Cur_logRecord.f s0_0 s0_1 s0_2 = some (r1, r2, r3, r4)) :
  Calls Tryd.prog 56 #[.pointer (some ⟨g, 0, none⟩)] w fun e w' => e = .returned (.agg #[.string r1, .string r2]) ∧ IsS74 w0 w' g s0_0 r3 r4 ∧ Below w0.heap.size w0 w' ∧ KeepBut w w' g none := by
 have hu27 := Tryd.underlying27
 have HI0 := Aside0.mk hI
 have HK := Aside0.mk (KeepBut.refl w g none)
 have HL := Aside0.mk hB.size
 clear hI
 have HW0 := Aside0.mk hB.size
 have HB := Aside0.mk hB
 clear hB
 have H : ((spec_l1Cur_of.f s0_0 s0_1 s0_2 (([(⟨#[99, 111, 117, 110, 116]⟩ : ByteArray), (⟨#[115, 111, 114, 116, 32, 109, 101, 114, 103, 101]⟩ : ByteArray), (⟨#[120]⟩ : ByteArray), (⟨#[115, 101, 108, 101, 99, 116, 32, 50]⟩ : ByteArray), (⟨#[48, 32, 49]⟩ : ByteArray)] : List ByteArray))).bind fun bt463 => ((spec_l1Cur_of.f s0_0 bt463.2.1 bt463.2.2 (([(⟨#[]⟩ : ByteArray), (⟨#[51]⟩ : ByteArray), (⟨#[63]⟩ : ByteArray), (⟨#[97, 64, 98]⟩ : ByteArray), (⟨#[51, 32, 49, 32, 50]⟩ : ByteArray)] : List ByteArray))).bind fun bt469 => ((spec_l1Cur_pick.f s0_0 bt469.2.1 bt469.2.2 24).bind fun bt473 => (if bt473.1 = 0 then (if 3 ≤ 281474976710656 then ((spec_l1Cur_of.f s0_0 bt473.2.1 bt473.2.2 (([(⟨#[]⟩ : ByteArray), (⟨#[97, 64, 98]⟩ : ByteArray), (⟨#[97, 35]⟩ : ByteArray), (⟨#[10]⟩ : ByteArray), strOfNums (List.replicate 3 0)] : List ByteArray))).bind fun bt482 => (some (bt482.1, bt469.1, bt482.2.1, bt482.2.2))) else (none)) else (if bt473.1 = 1 then ((spec_l1Cur_of.f s0_0 bt473.2.1 bt473.2.2 (([(⟨#[35]⟩ : ByteArray), (⟨#[10]⟩ : ByteArray), (⟨#[127]⟩ : ByteArray)] : List ByteArray))).bind fun bt488 => (some (bt463.1, bt488.1, bt488.2.1, bt488.2.2))) else (some (bt463.1, bt469.1, bt473.2.1, bt473.2.2))))))) = some (r1, r2, r3, r4) := h
 clear h
 obtain ⟨y460, hy460⟩ : ∃ y_ : List ByteArray, y_ = (([(⟨#[99, 111, 117, 110, 116]⟩ : ByteArray), (⟨#[115, 111, 114, 116, 32, 109, 101, 114, 103, 101]⟩ : ByteArray), (⟨#[120]⟩ : ByteArray), (⟨#[115, 101, 108, 101, 99, 116, 32, 50]⟩ : ByteArray), (⟨#[48, 32, 49]⟩ : ByteArray)] : List ByteArray)) := ⟨_, rfl⟩
 replace H : ((spec_l1Cur_of.f s0_0 s0_1 s0_2 y460).bind fun bt463 => ((spec_l1Cur_of.f s0_0 bt463.2.1 bt463.2.2 (([(⟨#[]⟩ : ByteArray), (⟨#[51]⟩ : ByteArray), (⟨#[63]⟩ : ByteArray), (⟨#[97, 64, 98]⟩ : ByteArray), (⟨#[51, 32, 49, 32, 50]⟩ : ByteArray)] : List ByteArray))).bind fun bt469 => ((spec_l1Cur_pick.f s0_0 bt469.2.1 bt469.2.2 24).bind fun bt473 => (if bt473.1 = 0 then (if 3 ≤ 281474976710656 then ((spec_l1Cur_of.f s0_0 bt473.2.1 bt473.2.2 (([(⟨#[]⟩ : ByteArray), (⟨#[97, 64, 98]⟩ : ByteArray), (⟨#[97, 35]⟩ : ByteArray), (⟨#[10]⟩ : ByteArray), strOfNums (List.replicate 3 0)] : List ByteArray))).bind fun bt482 => (some (bt482.1, bt469.1, bt482.2.1, bt482.2.2))) else (none)) else (if bt473.1 = 1 then ((spec_l1Cur_of.f s0_0 bt473.2.1 bt473.2.2 (([(⟨#[35]⟩ : ByteArray), (⟨#[10]⟩ : ByteArray), (⟨#[127]⟩ : ByteArray)] : List ByteArray))).bind fun bt488 => (some (bt463.1, bt488.1, bt488.2.1, bt488.2.2))) else (some (bt463.1, bt469.1, bt473.2.1, bt473.2.2))))))) = some (r1, r2, r3, r4) := by first | (rw [hy460]; with_reducible exact H) | (have H2_ := (Option.bind_some _ _).symm.trans H; rw [hy460]; with_reducible exact H2_) | (have H2_ := (Option.bind_some _ _).symm.trans H; with_reducible exact H2_) | with_reducible exact H | (rw [hy460]; exact H) | exact H
 have Ny460 := Aside0.mk hy460
 clear hy460
 replace H := Option.bind_eq_some_iff.mp H
 obtain ⟨⟨t463, t464, t465⟩, A20, H⟩ := H
 replace H : ((spec_l1Cur_of.f s0_0 t464 t465 (([(⟨#[]⟩ : ByteArray), (⟨#[51]⟩ : ByteArray), (⟨#[63]⟩ : ByteArray), (⟨#[97, 64, 98]⟩ : ByteArray), (⟨#[51, 32, 49, 32, 50]⟩ : ByteArray)] : List ByteArray))).bind fun bt469 => ((spec_l1Cur_pick.f s0_0 bt469.2.1 bt469.2.2 24).bind fun bt473 => (if bt473.1 = 0 then (if 3 ≤ 281474976710656 then ((spec_l1Cur_of.f s0_0 bt473.2.1 bt473.2.2 (([(⟨#[]⟩ : ByteArray), (⟨#[97, 64, 98]⟩ : ByteArray), (⟨#[97, 35]⟩ : ByteArray), (⟨#[10]⟩ : ByteArray), strOfNums (List.replicate 3 0)] : List ByteArray))).bind fun bt482 => (some (bt482.1, bt469.1, bt482.2.1, bt482.2.2))) else (none)) else (if bt473.1 = 1 then ((spec_l1Cur_of.f s0_0 bt473.2.1 bt473.2.2 (([(⟨#[35]⟩ : ByteArray), (⟨#[10]⟩ : ByteArray), (⟨#[127]⟩ : ByteArray)] : List ByteArray))).bind fun bt488 => (some (t463, bt488.1, bt488.2.1, bt488.2.2))) else (some (t463, bt469.1, bt473.2.1, bt473.2.2)))))) = some (r1, r2, r3, r4) := H
 have A2 := Aside0.mk A20
 clear A20
 obtain ⟨y466, hy466⟩ : ∃ y_ : List ByteArray, y_ = (([(⟨#[]⟩ : ByteArray), (⟨#[51]⟩ : ByteArray), (⟨#[63]⟩ : ByteArray), (⟨#[97, 64, 98]⟩ : ByteArray), (⟨#[51, 32, 49, 32, 50]⟩ : ByteArray)] : List ByteArray)) := ⟨_, rfl⟩
 replace H : ((spec_l1Cur_of.f s0_0 t464 t465 y466).bind fun bt469 => ((spec_l1Cur_pick.f s0_0 bt469.2.1 bt469.2.2 24).bind fun bt473 => (if bt473.1 = 0 then (if 3 ≤ 281474976710656 then ((spec_l1Cur_of.f s0_0 bt473.2.1 bt473.2.2 (([(⟨#[]⟩ : ByteArray), (⟨#[97, 64, 98]⟩ : ByteArray), (⟨#[97, 35]⟩ : ByteArray), (⟨#[10]⟩ : ByteArray), strOfNums (List.replicate 3 0)] : List ByteArray))).bind fun bt482 => (some (bt482.1, bt469.1, bt482.2.1, bt482.2.2))) else (none)) else (if bt473.1 = 1 then ((spec_l1Cur_of.f s0_0 bt473.2.1 bt473.2.2 (([(⟨#[35]⟩ : ByteArray), (⟨#[10]⟩ : ByteArray), (⟨#[127]⟩ : ByteArray)] : List ByteArray))).bind fun bt488 => (some (t463, bt488.1, bt488.2.1, bt488.2.2))) else (some (t463, bt469.1, bt473.2.1, bt473.2.2)))))) = some (r1, r2, r3, r4) := by first | (rw [hy466]; with_reducible exact H) | (have H2_ := (Option.bind_some _ _).symm.trans H; rw [hy466]; with_reducible exact H2_) | (have H2_ := (Option.bind_some _ _).symm.trans H; with_reducible exact H2_) | with_reducible exact H | (rw [hy466]; exact H) | exact H
 have Ny466 := Aside0.mk hy466
 clear hy466
 replace H := Option.bind_eq_some_iff.mp H
 obtain ⟨⟨t469, t470, t471⟩, A30, H⟩ := H
 replace H : ((spec_l1Cur_pick.f s0_0 t470 t471 24).bind fun bt473 => (if bt473.1 = 0 then (if 3 ≤ 281474976710656 then ((spec_l1Cur_of.f s0_0 bt473.2.1 bt473.2.2 (([(⟨#[]⟩ : ByteArray), (⟨#[97, 64, 98]⟩ : ByteArray), (⟨#[97, 35]⟩ : ByteArray), (⟨#[10]⟩ : ByteArray), strOfNums (List.replicate 3 0)] : List ByteArray))).bind fun bt482 => (some (bt482.1, t469, bt482.2.1, bt482.2.2))) else (none)) else (if bt473.1 = 1 then ((spec_l1Cur_of.f s0_0 bt473.2.1 bt473.2.2 (([(⟨#[35]⟩ : ByteArray), (⟨#[10]⟩ : ByteArray), (⟨#[127]⟩ : ByteArray)] : List ByteArray))).bind fun bt488 => (some (t463, bt488.1, bt488.2.1, bt488.2.2))) else (some (t463, t469, bt473.2.1, bt473.2.2))))) = some (r1, r2, r3, r4) := H
 have A3 := Aside0.mk A30
 clear A30
 replace H := Option.bind_eq_some_iff.mp H
 obtain ⟨⟨t473, t474, t475⟩, A40, H⟩ := H
 replace H : (if t473 = 0 then (if 3 ≤ 281474976710656 then ((spec_l1Cur_of.f s0_0 t474 t475 (([(⟨#[]⟩ : ByteArray), (⟨#[97, 64, 98]⟩ : ByteArray), (⟨#[97, 35]⟩ : ByteArray), (⟨#[10]⟩ : ByteArray), strOfNums (List.replicate 3 0)] : List ByteArray))).bind fun bt482 => (some (bt482.1, t469, bt482.2.1, bt482.2.2))) else (none)) else (if t473 = 1 then ((spec_l1Cur_of.f s0_0 t474 t475 (([(⟨#[35]⟩ : ByteArray), (⟨#[10]⟩ : ByteArray), (⟨#[127]⟩ : ByteArray)] : List ByteArray))).bind fun bt488 => (some (t463, bt488.1, bt488.2.1, bt488.2.2))) else (some (t463, t469, t474, t475)))) = some (r1, r2, r3, r4) := H
 have A4 := Aside0.mk A40
 clear A40
 by_cases c5 : t473 = 0
 ·
  rw [if_pos c5] at H
  have c5b0 : (t473 == 0) = true := beq_iff_eq.mpr c5
  have c5b1 : (t473 != 0) = false := bne_eq_false_iff_eq.mpr c5
  clear c5
  by_cases c6 : 3 ≤ 281474976710656
  ·
   rw [if_pos c6] at H
   have c6b0 := eq_true c6
   have c6b1 : decide (3 ≤ 281474976710656) = true := decide_eq_true c6
   clear c6
   obtain ⟨y476, hy476⟩ : ∃ y_ : List Int, y_ = (List.replicate 3 0) := ⟨_, rfl⟩
   replace H : ((spec_l1Cur_of.f s0_0 t474 t475 (([(⟨#[]⟩ : ByteArray), (⟨#[97, 64, 98]⟩ : ByteArray), (⟨#[97, 35]⟩ : ByteArray), (⟨#[10]⟩ : ByteArray), strOfNums y476] : List ByteArray))).bind fun bt482 => (some (bt482.1, t469, bt482.2.1, bt482.2.2))) = some (r1, r2, r3, r4) := by first | (rw [hy476]; with_reducible exact H) | (have H2_ := (Option.bind_some _ _).symm.trans H; rw [hy476]; with_reducible exact H2_) | (have H2_ := (Option.bind_some _ _).symm.trans H; with_reducible exact H2_) | with_reducible exact H | (rw [hy476]; exact H) | exact H
   have Ny476 := Aside0.mk hy476
   clear hy476
   obtain ⟨y479, hy479⟩ : ∃ y_ : List ByteArray, y_ = (([(⟨#[]⟩ : ByteArray), (⟨#[97, 64, 98]⟩ : ByteArray), (⟨#[97, 35]⟩ : ByteArray), (⟨#[10]⟩ : ByteArray), strOfNums y476] : List ByteArray)) := ⟨_, rfl⟩
   replace H : ((spec_l1Cur_of.f s0_0 t474 t475 y479).bind fun bt482 => (some (bt482.1, t469, bt482.2.1, bt482.2.2))) = some (r1, r2, r3, r4) := by first | (rw [hy479]; with_reducible exact H) | (have H2_ := (Option.bind_some _ _).symm.trans H; rw [hy479]; with_reducible exact H2_) | (have H2_ := (Option.bind_some _ _).symm.trans H; with_reducible exact H2_) | with_reducible exact H | (rw [hy479]; exact H) | exact H
   have Ny479 := Aside0.mk hy479
   clear hy479
   replace H := Option.bind_eq_some_iff.mp H
   obtain ⟨⟨t482, t483, t484⟩, A70, H⟩ := H
   replace H : (some (t482, t469, t483, t484)) = some (r1, r2, r3, r4) := H
   have A7 := Aside0.mk A70
   clear A70
   simp only [Option.some.injEq, Prod.mk.injEq] at H
   obtain ⟨rfl, rfl, rfl, rfl⟩ := H
   go_enter Tryd.func56, Tryd.ntmps56
   go_wp2_with (first | ((with_reducible refine gate_dst (N := 2) rfl ?_); refine box_event ?hg (N := 2) ?hd (cs := #[.string (⟨#[]⟩ : ByteArray), .string (⟨#[]⟩ : ByteArray)]) (t := 27) ?hr ?_; (case hd => rfl); (case hg => rfl); (case hr => first | (go_simp; done) | (go_simp; rfl)); intro gb459 hg w8 hbox hb; replace HB := Aside0.mk (below_step (lb1_ HB.out (IsS74.ge HI0.out)) hb); have BK459 := Aside0.mk (hbox); have GW459 := Aside0.mk ((by rw [hg]; exact (keep_size (w := w) (g := g) (row := none) (kb0_ HK.out)) : w.heap.size ≤ gb459)); have GE459 := Aside0.mk ((Nat.le_trans HW0.out (by rw [hg]; exact (keep_size (w := w) (g := g) (row := none) (kb0_ HK.out)) : w.heap.size ≤ gb459) : w0.heap.size ≤ gb459)); replace HK := Aside0.mk (KeepBut.trans (kb0_ HK.out) (KeepBut.of_below hb g none) (.inl rfl)); have NB0_459 := Aside0.mk ((by rw [hg]; exact Nat.ne_of_lt (IsS74.lt (show IsS74 w0 _ g s0_0 s0_1 s0_2 from is74_0 HI0.out)) : g ≠ gb459)); have NB459_0 := Aside0.mk ((by rw [hg]; exact Nat.ne_of_gt (IsS74.lt (show IsS74 w0 _ g s0_0 s0_1 s0_2 from is74_0 HI0.out)) : gb459 ≠ g)); replace HI0 := Aside0.mk (IsS74.below (is74_0 HI0.out) hb); clear hb hbox hg) | ((with_reducible refine gate_dst (N := 5) rfl ?_); refine Kd.R_lit Kd.string _ 9 ?hg (N := 5) ?hd (xs := ([(⟨#[99, 111, 117, 110, 116]⟩ : ByteArray), (⟨#[115, 111, 114, 116, 32, 109, 101, 114, 103, 101]⟩ : ByteArray), (⟨#[120]⟩ : ByteArray), (⟨#[115, 101, 108, 101, 99, 116, 32, 50]⟩ : ByteArray), (⟨#[48, 32, 49]⟩ : ByteArray)] : List ByteArray)) (inner := [.string (⟨#[99, 111, 117, 110, 116]⟩ : ByteArray), .string (⟨#[115, 111, 114, 116, 32, 109, 101, 114, 103, 101]⟩ : ByteArray), .string (⟨#[120]⟩ : ByteArray), .string (⟨#[115, 101, 108, 101, 99, 116, 32, 50]⟩ : ByteArray), .string (⟨#[48, 32, 49]⟩ : ByteArray)]) (ok := fun _ => True) (okp := fun _ => True) ?hr ?hp (fun _ hk => hk) trivial (Below.refl _ _) (Nat.le_refl _) (by simp) ?_; (case hd => rfl); (case hg => rfl); (case hr => first | (go_simp; done) | (go_simp; rfl)); (case hp => exact (Reps.one (show Kd.M Kd.string _ _ _ (⟨#[99, 111, 117, 110, 116]⟩ : ByteArray) [.string (⟨#[99, 111, 117, 110, 116]⟩ : ByteArray)] from rfl) (Reps.one (show Kd.M Kd.string _ _ _ (⟨#[115, 111, 114, 116, 32, 109, 101, 114, 103, 101]⟩ : ByteArray) [.string (⟨#[115, 111, 114, 116, 32, 109, 101, 114, 103, 101]⟩ : ByteArray)] from rfl) (Reps.one (show Kd.M Kd.string _ _ _ (⟨#[120]⟩ : ByteArray) [.string (⟨#[120]⟩ : ByteArray)] from rfl) (Reps.one (show Kd.M Kd.string _ _ _ (⟨#[115, 101, 108, 101, 99, 116, 32, 50]⟩ : ByteArray) [.string (⟨#[115, 101, 108, 101, 99, 116, 32, 50]⟩ : ByteArray)] from rfl) (Reps.one (show Kd.M Kd.string _ _ _ (⟨#[48, 32, 49]⟩ : ByteArray) [.string (⟨#[48, 32, 49]⟩ : ByteArray)] from rfl) (Reps.none _ _))))))); intro v461 w9 ho10 hb hg_ hnew_; clear hg_ hnew_; replace ho10 := ry_ Ny460.out ho10; have HO462 := Aside0.mk (Kd.R_lower ho10 (keep_size (w := w) (g := g) (row := none) (kb1_ HK.out GW459.out))); replace BK459 := Aside0.mk (bb_ (bk_ BK459.out) hb); replace HK := Aside0.mk (KeepBut.trans (kb1_ HK.out GW459.out) (KeepBut.of_below hb g none) (.inl rfl)); replace HB := Aside0.mk (below_step (lb2_ HB.out (IsS74.ge HI0.out) GE459.out) hb); replace HI0 := Aside0.mk (IsS74.below (is74_1 HI0.out NB0_459.out) hb); clear hb ho10; obtain ⟨Ao11, co11, eo11⟩ := Kd.R_slice HO462.out; subst eo11) | ((with_reducible refine gate_callee (f := 73) rfl ?_); refine ga_ (some 6) Tryd.func73 #[.pointer (some ⟨g, 0, none⟩), .slice Ao11 y460.length co11] ?_; (with_reducible refine (spec_l1Cur_of.calls g s0_0 s0_1 s0_2 _ _ y460 t463 t464 t465 w0 _ ?side1 ?side2 ?side3 ?side4 ?side5 A2.out).mono ?_); (case side1 => exact is74_1 HI0.out NB0_459.out); (case side2 => exact lb2_ HB.out (IsS74.ge HI0.out) GE459.out); (case side3 => exact kc_ (Kd.R_reads' HO462.out).2.2); (case side4 => exact (Kd.R_reads' HO462.out).2.1); (case side5 => exact far_slice (IsS74.own_ne HI0.out HO462.out (by decide))); rintro e w12 ⟨rfl, hi, hb, hk⟩; refine ⟨_, rfl, ?_⟩; replace BK459 := Aside0.mk (KeepBut.blk hk (g' := gb459) (o := .cells #[.string (⟨#[]⟩ : ByteArray), .string (⟨#[]⟩ : ByteArray)] 27 (0, 0)) (bk_ BK459.out) NB459_0.out (by simp)); replace HO462 := Aside0.mk (Kd.R_mono (Kd.R_keep (IsS74.apart (show IsS74 w0 _ g s0_0 s0_1 s0_2 from is74_1 HI0.out NB0_459.out) (kr_ HO462.out) (by decide)) hk (fun _ h => h.2)) (fun _ h => h.1)); replace HK := Aside0.mk (KeepBut.trans (kb1_ HK.out GW459.out) hk (.inl rfl)); replace HB := Aside0.mk (hb); replace HI0 := Aside0.mk (hi); (try clear hb); (try clear hb2); (try clear hk); (try clear hi)) | ((with_reducible refine gate_dst (N := 8) rfl ?_); refine Kd.R_lit Kd.string _ 9 ?hg (N := 8) ?hd (xs := ([(⟨#[]⟩ : ByteArray), (⟨#[51]⟩ : ByteArray), (⟨#[63]⟩ : ByteArray), (⟨#[97, 64, 98]⟩ : ByteArray), (⟨#[51, 32, 49, 32, 50]⟩ : ByteArray)] : List ByteArray)) (inner := [.string (⟨#[]⟩ : ByteArray), .string (⟨#[51]⟩ : ByteArray), .string (⟨#[63]⟩ : ByteArray), .string (⟨#[97, 64, 98]⟩ : ByteArray), .string (⟨#[51, 32, 49, 32, 50]⟩ : ByteArray)]) (ok := fun _ => True) (okp := fun _ => True) ?hr ?hp (fun _ hk => hk) trivial (Below.refl _ _) (Nat.le_refl _) (by simp) ?_; (case hd => rfl); (case hg => rfl); (case hr => first | (go_simp; done) | (go_simp; rfl)); (case hp => exact (Reps.one (show Kd.M Kd.string _ _ _ (⟨#[]⟩ : ByteArray) [.string (⟨#[]⟩ : ByteArray)] from rfl) (Reps.one (show Kd.M Kd.string _ _ _ (⟨#[51]⟩ : ByteArray) [.string (⟨#[51]⟩ : ByteArray)] from rfl) (Reps.one (show Kd.M Kd.string _ _ _ (⟨#[63]⟩ : ByteArray) [.string (⟨#[63]⟩ : ByteArray)] from rfl) (Reps.one (show Kd.M Kd.string _ _ _ (⟨#[97, 64, 98]⟩ : ByteArray) [.string (⟨#[97, 64, 98]⟩ : ByteArray)] from rfl) (Reps.one (show Kd.M Kd.string _ _ _ (⟨#[51, 32, 49, 32, 50]⟩ : ByteArray) [.string (⟨#[51, 32, 49, 32, 50]⟩ : ByteArray)] from rfl) (Reps.none _ _))))))); intro v467 w13 ho14 hb hg_ hnew_; clear hg_ hnew_; replace ho14 := ry_ Ny466.out ho14; have HO468 := Aside0.mk (Kd.R_lower (Kd.R_new' ho14 (Kd.R_lt (kr_ HO462.out))) (keep_size (w := w) (g := g) (row := none) (kb1_ HK.out GW459.out))); replace HO462 := Aside0.mk (Kd.R_elder' (kr_ HO462.out) (Kd.R_base ho14) hb); replace BK459 := Aside0.mk (bb_ (bk_ BK459.out) hb); replace HK := Aside0.mk (KeepBut.trans (kb1_ HK.out GW459.out) (KeepBut.of_below hb g none) (.inl rfl)); replace HB := Aside0.mk (below_step (lb2_ HB.out (IsS74.ge HI0.out) GE459.out) hb); replace HI0 := Aside0.mk (IsS74.below (is74_1 HI0.out NB0_459.out) hb); clear hb ho14; obtain ⟨Ao15, co15, eo15⟩ := Kd.R_slice HO468.out; subst eo15) | ((with_reducible refine gate_callee (f := 73) rfl ?_); refine ga_ (some 9) Tryd.func73 #[.pointer (some ⟨g, 0, none⟩), .slice Ao15 y466.length co15] ?_; (with_reducible refine (spec_l1Cur_of.calls g s0_0 t464 t465 _ _ y466 t469 t470 t471 w0 _ ?side1 ?side2 ?side3 ?side4 ?side5 A3.out).mono ?_); (case side1 => exact is74_1 HI0.out NB0_459.out); (case side2 => exact lb2_ HB.out (IsS74.ge HI0.out) GE459.out); (case side3 => exact kc_ (Kd.R_reads' HO468.out).2.2); (case side4 => exact (Kd.R_reads' HO468.out).2.1); (case side5 => exact far_slice (IsS74.own_ne HI0.out HO468.out (by decide))); rintro e w16 ⟨rfl, hi, hb, hk⟩; refine ⟨_, rfl, ?_⟩; replace BK459 := Aside0.mk (KeepBut.blk hk (g' := gb459) (o := .cells #[.string (⟨#[]⟩ : ByteArray), .string (⟨#[]⟩ : ByteArray)] 27 (0, 0)) (bk_ BK459.out) NB459_0.out (by simp)); replace HO462 := Aside0.mk (Kd.R_mono (Kd.R_keep (IsS74.apart (show IsS74 w0 _ g s0_0 t464 t465 from is74_1 HI0.out NB0_459.out) (kr_ HO462.out) (by decide)) hk (fun _ h => h.2)) (fun _ h => h.1)); replace HO468 := Aside0.mk (Kd.R_mono (Kd.R_keep (IsS74.apart (show IsS74 w0 _ g s0_0 t464 t465 from is74_1 HI0.out NB0_459.out) (kr_ HO468.out) (by decide)) hk (fun _ h => h.2)) (fun _ h => h.1)); replace HK := Aside0.mk (KeepBut.trans (kb1_ HK.out GW459.out) hk (.inl rfl)); replace HB := Aside0.mk (hb); replace HI0 := Aside0.mk (hi); (try clear hb); (try clear hb2); (try clear hk); (try clear hi)) | ((with_reducible refine gate_dst (N := 3) rfl ?_); refine box_event ?hg (N := 3) ?hd (cs := #[.string (⟨#[]⟩ : ByteArray), .string (⟨#[]⟩ : ByteArray)]) (t := 27) ?hr ?_; (case hd => rfl); (case hg => rfl); (case hr => first | (go_simp; done) | (go_simp; rfl)); intro gb472 hg w17 hbox hb; replace HO462 := Aside0.mk (Kd.R_below (kr_ HO462.out) hb); replace HO468 := Aside0.mk (Kd.R_below (kr_ HO468.out) hb); replace HB := Aside0.mk (below_step (lb2_ HB.out (IsS74.ge HI0.out) GE459.out) hb); have BK472 := Aside0.mk (hbox); have GW472 := Aside0.mk ((by rw [hg]; exact (keep_size (w := w) (g := g) (row := none) (kb1_ HK.out GW459.out)) : w.heap.size ≤ gb472)); have GE472 := Aside0.mk ((Nat.le_trans HW0.out (by rw [hg]; exact (keep_size (w := w) (g := g) (row := none) (kb1_ HK.out GW459.out)) : w.heap.size ≤ gb472) : w0.heap.size ≤ gb472)); replace HK := Aside0.mk (KeepBut.trans (kb1_ HK.out GW459.out) (KeepBut.of_below hb g none) (.inl rfl)); have NB459_472 := Aside0.mk ((by rw [hg]; exact Nat.ne_of_lt (blk_lt (g := gb459) (o := .cells #[.string (⟨#[]⟩ : ByteArray), .string (⟨#[]⟩ : ByteArray)] 27 (0, 0)) (bk_ BK459.out)) : gb459 ≠ gb472)); have NB472_459 := Aside0.mk ((by rw [hg]; exact Nat.ne_of_gt (blk_lt (g := gb459) (o := .cells #[.string (⟨#[]⟩ : ByteArray), .string (⟨#[]⟩ : ByteArray)] 27 (0, 0)) (bk_ BK459.out)) : gb472 ≠ gb459)); replace BK459 := Aside0.mk (bb_ (bk_ BK459.out) hb); have NB0_472 := Aside0.mk ((by rw [hg]; exact Nat.ne_of_lt (IsS74.lt (show IsS74 w0 _ g s0_0 t470 t471 from is74_1 HI0.out NB0_459.out)) : g ≠ gb472)); have NB472_0 := Aside0.mk ((by rw [hg]; exact Nat.ne_of_gt (IsS74.lt (show IsS74 w0 _ g s0_0 t470 t471 from is74_1 HI0.out NB0_459.out)) : gb472 ≠ g)); replace HI0 := Aside0.mk (IsS74.below (is74_1 HI0.out NB0_459.out) hb); clear hb hbox hg; have hnb18 := NB472_459.out; have hnc18 := NB459_472.out; have hnb19 := NB472_0.out; have hnc19 := NB0_472.out; obtain ⟨hcz20_0, hcz20_1⟩ := cz2_ BK472.out; obtain ⟨hfz20_0, hfz20_1⟩ := fz2_ BK472.out) | ((with_reducible refine gate_callee (f := 55) rfl ?_); refine ga_ (some 12) Tryd.func55 #[.pointer (some ⟨g, 0, none⟩), .int .i64 24] ?_; (with_reducible refine (spec_l1Cur_pick.calls g s0_0 t470 t471 24 t473 t474 t475 w0 _ ?side1 ?side2 A4.out).mono ?_); (case side1 => exact is74_2 HI0.out NB0_459.out NB0_472.out); (case side2 => exact lb3_ HB.out (IsS74.ge HI0.out) GE459.out GE472.out); rintro e w21 ⟨rfl, hi, hb, hk⟩; refine ⟨_, rfl, ?_⟩; replace BK459 := Aside0.mk (KeepBut.blk hk (g' := gb459) (o := .cells #[.string (⟨#[]⟩ : ByteArray), .string (⟨#[]⟩ : ByteArray)] 27 (0, 0)) (by (with_reducible repeat (first | refine blk_drewN ?_ _ | refine blk_drew ?_ | refine blk_alloc ?_ _)); refine blk_far ?_ NB459_472.out _; (with_reducible repeat (first | refine blk_drewN ?_ _ | refine blk_drew ?_ | refine blk_alloc ?_ _)); refine blk_far ?_ NB459_472.out _; (with_reducible repeat (first | refine blk_drewN ?_ _ | refine blk_drew ?_ | refine blk_alloc ?_ _)); exact BK459.out) NB459_0.out (by simp)); replace HO462 := Aside0.mk (Kd.R_mono (Kd.R_keep (IsS74.apart (show IsS74 w0 _ g s0_0 t470 t471 from is74_2 HI0.out NB0_459.out NB0_472.out) (kg_ HO462.out BK472.out) (by decide)) hk (fun _ h => h.2)) (fun _ h => h.1)); replace HO468 := Aside0.mk (Kd.R_mono (Kd.R_keep (IsS74.apart (show IsS74 w0 _ g s0_0 t470 t471 from is74_2 HI0.out NB0_459.out NB0_472.out) (kg_ HO468.out BK472.out) (by decide)) hk (fun _ h => h.2)) (fun _ h => h.1)); replace BK472 := Aside0.mk (KeepBut.blk hk (g' := gb472) (o := .cells #[.string t463, .string t469] 27 (0, 0)) (by (with_reducible repeat (first | refine blk_drewN ?_ _ | refine blk_drew ?_ | refine blk_alloc ?_ _)); refine blk_put (cs := #[.string t463, .string (⟨#[]⟩ : ByteArray)]) ?_ 1 _ rfl; (with_reducible repeat (first | refine blk_drewN ?_ _ | refine blk_drew ?_ | refine blk_alloc ?_ _)); refine blk_put (cs := #[.string (⟨#[]⟩ : ByteArray), .string (⟨#[]⟩ : ByteArray)]) ?_ 0 _ rfl; (with_reducible repeat (first | refine blk_drewN ?_ _ | refine blk_drew ?_ | refine blk_alloc ?_ _)); exact BK472.out) NB472_0.out (by simp)); replace HK := Aside0.mk (KeepBut.trans (kb2_ HK.out GW459.out GW472.out) hk (.inl rfl)); replace HB := Aside0.mk (hb); replace HI0 := Aside0.mk (hi); (try clear hb); (try clear hb2); (try clear hk); (try clear hi)) | ((with_reducible refine gate_dst (N := 16) rfl ?_); refine Kd.R_make (Kd.int .u8) _ 5 rfl (N := 16) rfl 53 _ _ rfl 3 rfl rfl Tryd.underlying53 (.int .u8 0) 1 info5 rfl (by decide) (by omega) 0 (ok := fun _ => True) (okp := fun _ => True) rfl (fun _ hk => hk) trivial (by omega) (by omega) (Below.refl _ _) (Nat.le_refl _) ?_; intro v477 w22 ho23 hb hg_ hnew_; clear hg_ hnew_; replace ho23 := ry_ Ny476.out ho23; replace HO462 := Aside0.mk (Kd.R_below (kr_ HO462.out) hb); replace HO468 := Aside0.mk (Kd.R_below (kr_ HO468.out) hb); have HO478 := Aside0.mk (Kd.R_lower ho23 (keep_size (w := w) (g := g) (row := none) (kb2_ HK.out GW459.out GW472.out))); replace BK459 := Aside0.mk (bb_ (bk_ BK459.out) hb); replace BK472 := Aside0.mk (bb_ (bk_ BK472.out) hb); replace HK := Aside0.mk (KeepBut.trans (kb2_ HK.out GW459.out GW472.out) (KeepBut.of_below hb g none) (.inl rfl)); replace HB := Aside0.mk (below_step (lb3_ HB.out (IsS74.ge HI0.out) GE459.out GE472.out) hb); replace HI0 := Aside0.mk (IsS74.below (is74_2 HI0.out NB0_459.out NB0_472.out) hb); clear hb ho23; have hcv24 := own_string (P := Tryd.prog) Tryd.underlying53 Tryd.underlying5 Tryd.underlying9 (Kd.own_of_R HO478.out)) | ((with_reducible refine gate_dst (N := 18) rfl ?_); refine Kd.R_lit Kd.string _ 9 ?hg (N := 18) ?hd (xs := ([(⟨#[]⟩ : ByteArray), (⟨#[97, 64, 98]⟩ : ByteArray), (⟨#[97, 35]⟩ : ByteArray), (⟨#[10]⟩ : ByteArray), strOfNums y476] : List ByteArray)) (inner := [.string (⟨#[]⟩ : ByteArray), .string (⟨#[97, 64, 98]⟩ : ByteArray), .string (⟨#[97, 35]⟩ : ByteArray), .string (⟨#[10]⟩ : ByteArray), .string (strOfNums y476)]) (ok := fun _ => True) (okp := fun _ => True) ?hr ?hp (fun _ hk => hk) trivial (Below.refl _ _) (Nat.le_refl _) (by simp) ?_; (case hd => rfl); (case hg => rfl); (case hr => first | (go_simp; done) | (go_simp; rfl)); (case hp => exact (Reps.one (show Kd.M Kd.string _ _ _ (⟨#[]⟩ : ByteArray) [.string (⟨#[]⟩ : ByteArray)] from rfl) (Reps.one (show Kd.M Kd.string _ _ _ (⟨#[97, 64, 98]⟩ : ByteArray) [.string (⟨#[97, 64, 98]⟩ : ByteArray)] from rfl) (Reps.one (show Kd.M Kd.string _ _ _ (⟨#[97, 35]⟩ : ByteArray) [.string (⟨#[97, 35]⟩ : ByteArray)] from rfl) (Reps.one (show Kd.M Kd.string _ _ _ (⟨#[10]⟩ : ByteArray) [.string (⟨#[10]⟩ : ByteArray)] from rfl) (Reps.one (show Kd.M Kd.string _ _ _ (strOfNums y476) [.string (strOfNums y476)] from rfl) (Reps.none _ _))))))); intro v480 w25 ho26 hb hg_ hnew_; clear hg_ hnew_; replace ho26 := ry_ Ny479.out ho26; replace HO478 := Aside0.mk (Kd.R_below (kr_ HO478.out) hb); have HO481 := Aside0.mk (Kd.R_lower (Kd.R_new' (Kd.R_new' ho26 (Kd.R_lt (kr_ HO462.out))) (Kd.R_lt (kr_ HO468.out))) (keep_size (w := w) (g := g) (row := none) (kb2_ HK.out GW459.out GW472.out))); replace HO462 := Aside0.mk (Kd.R_elder' (kr_ HO462.out) (Kd.R_base ho26) hb); replace HO468 := Aside0.mk (Kd.R_elder' (kr_ HO468.out) (Kd.R_base ho26) hb); replace BK459 := Aside0.mk (bb_ (bk_ BK459.out) hb); replace BK472 := Aside0.mk (bb_ (bk_ BK472.out) hb); replace HK := Aside0.mk (KeepBut.trans (kb2_ HK.out GW459.out GW472.out) (KeepBut.of_below hb g none) (.inl rfl)); replace HB := Aside0.mk (below_step (lb3_ HB.out (IsS74.ge HI0.out) GE459.out GE472.out) hb); replace HI0 := Aside0.mk (IsS74.below (is74_2 HI0.out NB0_459.out NB0_472.out) hb); clear hb ho26; obtain ⟨Ao27, co27, eo27⟩ := Kd.R_slice HO481.out; subst eo27) | ((with_reducible refine gate_callee (f := 73) rfl ?_); refine ga_ (some 19) Tryd.func73 #[.pointer (some ⟨g, 0, none⟩), .slice Ao27 y479.length co27] ?_; (with_reducible refine (spec_l1Cur_of.calls g s0_0 t474 t475 _ _ y479 t482 t483 t484 w0 _ ?side1 ?side2 ?side3 ?side4 ?side5 A7.out).mono ?_); (case side1 => exact is74_2 HI0.out NB0_459.out NB0_472.out); (case side2 => exact lb3_ HB.out (IsS74.ge HI0.out) GE459.out GE472.out); (case side3 => exact kc_ (Kd.R_reads' HO481.out).2.2); (case side4 => exact (Kd.R_reads' HO481.out).2.1); (case side5 => exact far_slice (IsS74.own_ne HI0.out HO481.out (by decide))); rintro e w28 ⟨rfl, hi, hb, hk⟩; refine ⟨_, rfl, ?_⟩; replace BK459 := Aside0.mk (KeepBut.blk hk (g' := gb459) (o := .cells #[.string (⟨#[]⟩ : ByteArray), .string (⟨#[]⟩ : ByteArray)] 27 (0, 0)) (bk_ BK459.out) NB459_0.out (by simp)); replace HO462 := Aside0.mk (Kd.R_mono (Kd.R_keep (IsS74.apart (show IsS74 w0 _ g s0_0 t474 t475 from is74_2 HI0.out NB0_459.out NB0_472.out) (kr_ HO462.out) (by decide)) hk (fun _ h => h.2)) (fun _ h => h.1)); replace HO468 := Aside0.mk (Kd.R_mono (Kd.R_keep (IsS74.apart (show IsS74 w0 _ g s0_0 t474 t475 from is74_2 HI0.out NB0_459.out NB0_472.out) (kr_ HO468.out) (by decide)) hk (fun _ h => h.2)) (fun _ h => h.1)); replace BK472 := Aside0.mk (KeepBut.blk hk (g' := gb472) (o := .cells #[.string t463, .string t469] 27 (0, 0)) (bk_ BK472.out) NB472_0.out (by simp)); replace HO478 := Aside0.mk (Kd.R_mono (Kd.R_keep (IsS74.apart (show IsS74 w0 _ g s0_0 t474 t475 from is74_2 HI0.out NB0_459.out NB0_472.out) (kr_ HO478.out) (by decide)) hk (fun _ h => h.2)) (fun _ h => h.1)); replace HO481 := Aside0.mk (Kd.R_mono (Kd.R_keep (IsS74.apart (show IsS74 w0 _ g s0_0 t474 t475 from is74_2 HI0.out NB0_459.out NB0_472.out) (kr_ HO481.out) (by decide)) hk (fun _ h => h.2)) (fun _ h => h.1)); replace HK := Aside0.mk (KeepBut.trans (kb2_ HK.out GW459.out GW472.out) hk (.inl rfl)); replace HB := Aside0.mk (hb); replace HI0 := Aside0.mk (hi); (try clear hb); (try clear hb2); (try clear hk); (try clear hi); obtain ⟨hcz29_0, hcz29_1⟩ := cz2_ BK472.out; obtain ⟨hfz29_0, hfz29_1⟩ := fz2_ BK472.out; have hnb30 := NB459_0.out; have hnc30 := NB0_459.out; obtain ⟨hcz31_0, hcz31_1⟩ := cz2_ BK459.out; obtain ⟨hfz31_0, hfz31_1⟩ := fz2_ BK459.out))
   refine bodyPost_ret (results_cell_row rfl _ _ gb459 27 #[.string t482, .string t469] (0, 0) _ rfl (by (with_reducible repeat (first | refine blk_drewN ?_ _ | refine blk_drew ?_ | refine blk_alloc ?_ _)); refine blk_put (cs := #[.string t482, .string (⟨#[]⟩ : ByteArray)]) ?_ 1 _ rfl; (with_reducible repeat (first | refine blk_drewN ?_ _ | refine blk_drew ?_ | refine blk_alloc ?_ _)); refine blk_put (cs := #[.string (⟨#[]⟩ : ByteArray), .string (⟨#[]⟩ : ByteArray)]) ?_ 0 _ rfl; (with_reducible repeat (first | refine blk_drewN ?_ _ | refine blk_drew ?_ | refine blk_alloc ?_ _)); refine blk_far ?_ NB459_472.out _; (with_reducible repeat (first | refine blk_drewN ?_ _ | refine blk_drew ?_ | refine blk_alloc ?_ _)); exact BK459.out) Tryd.underlying27 rfl (by kernel_rfl)) rfl ?_
   exact ⟨rr_, is74_2 HI0.out NB0_459.out NB0_472.out, lb3_ HB.out (IsS74.ge HI0.out) GE459.out GE472.out, kb2_ HK.out GW459.out GW472.out⟩
  ·
   rw [if_neg c6] at H
   exact absurd H (by simp)
 ·
  rw [if_neg c5] at H
  have c5b0 : (t473 == 0) = false := beq_eq_false_iff_ne.mpr c5
  have c5b1 : (t473 != 0) = true := bne_iff_ne.mpr c5
  by_cases c32 : t473 = 1
  ·
   rw [if_pos c32] at H
   have c32b0 : (t473 == 1) = true := beq_iff_eq.mpr c32
   have c32b1 : (t473 != 1) = false := bne_eq_false_iff_eq.mpr c32
   clear c32
   obtain ⟨y485, hy485⟩ : ∃ y_ : List ByteArray, y_ = (([(⟨#[35]⟩ : ByteArray), (⟨#[10]⟩ : ByteArray), (⟨#[127]⟩ : ByteArray)] : List ByteArray)) := ⟨_, rfl⟩
   replace H : ((spec_l1Cur_of.f s0_0 t474 t475 y485).bind fun bt488 => (some (t463, bt488.1, bt488.2.1, bt488.2.2))) = some (r1, r2, r3, r4) := by first | (rw [hy485]; with_reducible exact H) | (have H2_ := (Option.bind_some _ _).symm.trans H; rw [hy485]; with_reducible exact H2_) | (have H2_ := (Option.bind_some _ _).symm.trans H; with_reducible exact H2_) | with_reducible exact H | (rw [hy485]; exact H) | exact H
   have Ny485 := Aside0.mk hy485
   clear hy485
   replace H := Option.bind_eq_some_iff.mp H
   obtain ⟨⟨t488, t489, t490⟩, A330, H⟩ := H
   replace H : (some (t463, t488, t489, t490)) = some (r1, r2, r3, r4) := H
   have A33 := Aside0.mk A330
   clear A330
   simp only [Option.some.injEq, Prod.mk.injEq] at H
   obtain ⟨rfl, rfl, rfl, rfl⟩ := H
   go_enter Tryd.func56, Tryd.ntmps56
   go_wp2_with (first | ((with_reducible refine gate_dst (N := 2) rfl ?_); refine box_event ?hg (N := 2) ?hd (cs := #[.string (⟨#[]⟩ : ByteArray), .string (⟨#[]⟩ : ByteArray)]) (t := 27) ?hr ?_; (case hd => rfl); (case hg => rfl); (case hr => first | (go_simp; done) | (go_simp; rfl)); intro gb459 hg w34 hbox hb; replace HB := Aside0.mk (below_step (lb1_ HB.out (IsS74.ge HI0.out)) hb); have BK459 := Aside0.mk (hbox); have GW459 := Aside0.mk ((by rw [hg]; exact (keep_size (w := w) (g := g) (row := none) (kb0_ HK.out)) : w.heap.size ≤ gb459)); have GE459 := Aside0.mk ((Nat.le_trans HW0.out (by rw [hg]; exact (keep_size (w := w) (g := g) (row := none) (kb0_ HK.out)) : w.heap.size ≤ gb459) : w0.heap.size ≤ gb459)); replace HK := Aside0.mk (KeepBut.trans (kb0_ HK.out) (KeepBut.of_below hb g none) (.inl rfl)); have NB0_459 := Aside0.mk ((by rw [hg]; exact Nat.ne_of_lt (IsS74.lt (show IsS74 w0 _ g s0_0 s0_1 s0_2 from is74_0 HI0.out)) : g ≠ gb459)); have NB459_0 := Aside0.mk ((by rw [hg]; exact Nat.ne_of_gt (IsS74.lt (show IsS74 w0 _ g s0_0 s0_1 s0_2 from is74_0 HI0.out)) : gb459 ≠ g)); replace HI0 := Aside0.mk (IsS74.below (is74_0 HI0.out) hb); clear hb hbox hg) | ((with_reducible refine gate_dst (N := 5) rfl ?_); refine Kd.R_lit Kd.string _ 9 ?hg (N := 5) ?hd (xs := ([(⟨#[99, 111, 117, 110, 116]⟩ : ByteArray), (⟨#[115, 111, 114, 116, 32, 109, 101, 114, 103, 101]⟩ : ByteArray), (⟨#[120]⟩ : ByteArray), (⟨#[115, 101, 108, 101, 99, 116, 32, 50]⟩ : ByteArray), (⟨#[48, 32, 49]⟩ : ByteArray)] : List ByteArray)) (inner := [.string (⟨#[99, 111, 117, 110, 116]⟩ : ByteArray), .string (⟨#[115, 111, 114, 116, 32, 109, 101, 114, 103, 101]⟩ : ByteArray), .string (⟨#[120]⟩ : ByteArray), .string (⟨#[115, 101, 108, 101, 99, 116, 32, 50]⟩ : ByteArray), .string (⟨#[48, 32, 49]⟩ : ByteArray)]) (ok := fun _ => True) (okp := fun _ => True) ?hr ?hp (fun _ hk => hk) trivial (Below.refl _ _) (Nat.le_refl _) (by simp) ?_; (case hd => rfl); (case hg => rfl); (case hr => first | (go_simp; done) | (go_simp; rfl)); (case hp => exact (Reps.one (show Kd.M Kd.string _ _ _ (⟨#[99, 111, 117, 110, 116]⟩ : ByteArray) [.string (⟨#[99, 111, 117, 110, 116]⟩ : ByteArray)] from rfl) (Reps.one (show Kd.M Kd.string _ _ _ (⟨#[115, 111, 114, 116, 32, 109, 101, 114, 103, 101]⟩ : ByteArray) [.string (⟨#[115, 111, 114, 116, 32, 109, 101, 114, 103, 101]⟩ : ByteArray)] from rfl) (Reps.one (show Kd.M Kd.string _ _ _ (⟨#[120]⟩ : ByteArray) [.string (⟨#[120]⟩ : ByteArray)] from rfl) (Reps.one (show Kd.M Kd.string _ _ _ (⟨#[115, 101, 108, 101, 99, 116, 32, 50]⟩ : ByteArray) [.string (⟨#[115, 101, 108, 101, 99, 116, 32, 50]⟩ : ByteArray)] from rfl) (Reps.one (show Kd.M Kd.string _ _ _ (⟨#[48, 32, 49]⟩ : ByteArray) [.string (⟨#[48, 32, 49]⟩ : ByteArray)] from rfl) (Reps.none _ _))))))); intro v461 w35 ho36 hb hg_ hnew_; clear hg_ hnew_; replace ho36 := ry_ Ny460.out ho36; have HO462 := Aside0.mk (Kd.R_lower ho36 (keep_size (w := w) (g := g) (row := none) (kb1_ HK.out GW459.out))); replace BK459 := Aside0.mk (bb_ (bk_ BK459.out) hb); replace HK := Aside0.mk (KeepBut.trans (kb1_ HK.out GW459.out) (KeepBut.of_below hb g none) (.inl rfl)); replace HB := Aside0.mk (below_step (lb2_ HB.out (IsS74.ge HI0.out) GE459.out) hb); replace HI0 := Aside0.mk (IsS74.below (is74_1 HI0.out NB0_459.out) hb); clear hb ho36; obtain ⟨Ao37, co37, eo37⟩ := Kd.R_slice HO462.out; subst eo37) | ((with_reducible refine gate_callee (f := 73) rfl ?_); refine ga_ (some 6) Tryd.func73 #[.pointer (some ⟨g, 0, none⟩), .slice Ao37 y460.length co37] ?_; (with_reducible refine (spec_l1Cur_of.calls g s0_0 s0_1 s0_2 _ _ y460 t463 t464 t465 w0 _ ?side1 ?side2 ?side3 ?side4 ?side5 A2.out).mono ?_); (case side1 => exact is74_1 HI0.out NB0_459.out); (case side2 => exact lb2_ HB.out (IsS74.ge HI0.out) GE459.out); (case side3 => exact kc_ (Kd.R_reads' HO462.out).2.2); (case side4 => exact (Kd.R_reads' HO462.out).2.1); (case side5 => exact far_slice (IsS74.own_ne HI0.out HO462.out (by decide))); rintro e w38 ⟨rfl, hi, hb, hk⟩; refine ⟨_, rfl, ?_⟩; replace BK459 := Aside0.mk (KeepBut.blk hk (g' := gb459) (o := .cells #[.string (⟨#[]⟩ : ByteArray), .string (⟨#[]⟩ : ByteArray)] 27 (0, 0)) (bk_ BK459.out) NB459_0.out (by simp)); replace HO462 := Aside0.mk (Kd.R_mono (Kd.R_keep (IsS74.apart (show IsS74 w0 _ g s0_0 s0_1 s0_2 from is74_1 HI0.out NB0_459.out) (kr_ HO462.out) (by decide)) hk (fun _ h => h.2)) (fun _ h => h.1)); replace HK := Aside0.mk (KeepBut.trans (kb1_ HK.out GW459.out) hk (.inl rfl)); replace HB := Aside0.mk (hb); replace HI0 := Aside0.mk (hi); (try clear hb); (try clear hb2); (try clear hk); (try clear hi)) | ((with_reducible refine gate_dst (N := 8) rfl ?_); refine Kd.R_lit Kd.string _ 9 ?hg (N := 8) ?hd (xs := ([(⟨#[]⟩ : ByteArray), (⟨#[51]⟩ : ByteArray), (⟨#[63]⟩ : ByteArray), (⟨#[97, 64, 98]⟩ : ByteArray), (⟨#[51, 32, 49, 32, 50]⟩ : ByteArray)] : List ByteArray)) (inner := [.string (⟨#[]⟩ : ByteArray), .string (⟨#[51]⟩ : ByteArray), .string (⟨#[63]⟩ : ByteArray), .string (⟨#[97, 64, 98]⟩ : ByteArray), .string (⟨#[51, 32, 49, 32, 50]⟩ : ByteArray)]) (ok := fun _ => True) (okp := fun _ => True) ?hr ?hp (fun _ hk => hk) trivial (Below.refl _ _) (Nat.le_refl _) (by simp) ?_; (case hd => rfl); (case hg => rfl); (case hr => first | (go_simp; done) | (go_simp; rfl)); (case hp => exact (Reps.one (show Kd.M Kd.string _ _ _ (⟨#[]⟩ : ByteArray) [.string (⟨#[]⟩ : ByteArray)] from rfl) (Reps.one (show Kd.M Kd.string _ _ _ (⟨#[51]⟩ : ByteArray) [.string (⟨#[51]⟩ : ByteArray)] from rfl) (Reps.one (show Kd.M Kd.string _ _ _ (⟨#[63]⟩ : ByteArray) [.string (⟨#[63]⟩ : ByteArray)] from rfl) (Reps.one (show Kd.M Kd.string _ _ _ (⟨#[97, 64, 98]⟩ : ByteArray) [.string (⟨#[97, 64, 98]⟩ : ByteArray)] from rfl) (Reps.one (show Kd.M Kd.string _ _ _ (⟨#[51, 32, 49, 32, 50]⟩ : ByteArray) [.string (⟨#[51, 32, 49, 32, 50]⟩ : ByteArray)] from rfl) (Reps.none _ _))))))); intro v467 w39 ho40 hb hg_ hnew_; clear hg_ hnew_; replace ho40 := ry_ Ny466.out ho40; have HO468 := Aside0.mk (Kd.R_lower (Kd.R_new' ho40 (Kd.R_lt (kr_ HO462.out))) (keep_size (w := w) (g := g) (row := none) (kb1_ HK.out GW459.out))); replace HO462 := Aside0.mk (Kd.R_elder' (kr_ HO462.out) (Kd.R_base ho40) hb); replace BK459 := Aside0.mk (bb_ (bk_ BK459.out) hb); replace HK := Aside0.mk (KeepBut.trans (kb1_ HK.out GW459.out) (KeepBut.of_below hb g none) (.inl rfl)); replace HB := Aside0.mk (below_step (lb2_ HB.out (IsS74.ge HI0.out) GE459.out) hb); replace HI0 := Aside0.mk (IsS74.below (is74_1 HI0.out NB0_459.out) hb); clear hb ho40; obtain ⟨Ao41, co41, eo41⟩ := Kd.R_slice HO468.out; subst eo41) | ((with_reducible refine gate_callee (f := 73) rfl ?_); refine ga_ (some 9) Tryd.func73 #[.pointer (some ⟨g, 0, none⟩), .slice Ao41 y466.length co41] ?_; (with_reducible refine (spec_l1Cur_of.calls g s0_0 t464 t465 _ _ y466 t469 t470 t471 w0 _ ?side1 ?side2 ?side3 ?side4 ?side5 A3.out).mono ?_); (case side1 => exact is74_1 HI0.out NB0_459.out); (case side2 => exact lb2_ HB.out (IsS74.ge HI0.out) GE459.out); (case side3 => exact kc_ (Kd.R_reads' HO468.out).2.2); (case side4 => exact (Kd.R_reads' HO468.out).2.1); (case side5 => exact far_slice (IsS74.own_ne HI0.out HO468.out (by decide))); rintro e w42 ⟨rfl, hi, hb, hk⟩; refine ⟨_, rfl, ?_⟩; replace BK459 := Aside0.mk (KeepBut.blk hk (g' := gb459) (o := .cells #[.string (⟨#[]⟩ : ByteArray), .string (⟨#[]⟩ : ByteArray)] 27 (0, 0)) (bk_ BK459.out) NB459_0.out (by simp)); replace HO462 := Aside0.mk (Kd.R_mono (Kd.R_keep (IsS74.apart (show IsS74 w0 _ g s0_0 t464 t465 from is74_1 HI0.out NB0_459.out) (kr_ HO462.out) (by decide)) hk (fun _ h => h.2)) (fun _ h => h.1)); replace HO468 := Aside0.mk (Kd.R_mono (Kd.R_keep (IsS74.apart (show IsS74 w0 _ g s0_0 t464 t465 from is74_1 HI0.out NB0_459.out) (kr_ HO468.out) (by decide)) hk (fun _ h => h.2)) (fun _ h => h.1)); replace HK := Aside0.mk (KeepBut.trans (kb1_ HK.out GW459.out) hk (.inl rfl)); replace HB := Aside0.mk (hb); replace HI0 := Aside0.mk (hi); (try clear hb); (try clear hb2); (try clear hk); (try clear hi)) | ((with_reducible refine gate_dst (N := 3) rfl ?_); refine box_event ?hg (N := 3) ?hd (cs := #[.string (⟨#[]⟩ : ByteArray), .string (⟨#[]⟩ : ByteArray)]) (t := 27) ?hr ?_; (case hd => rfl); (case hg => rfl); (case hr => first | (go_simp; done) | (go_simp; rfl)); intro gb472 hg w43 hbox hb; replace HO462 := Aside0.mk (Kd.R_below (kr_ HO462.out) hb); replace HO468 := Aside0.mk (Kd.R_below (kr_ HO468.out) hb); replace HB := Aside0.mk (below_step (lb2_ HB.out (IsS74.ge HI0.out) GE459.out) hb); have BK472 := Aside0.mk (hbox); have GW472 := Aside0.mk ((by rw [hg]; exact (keep_size (w := w) (g := g) (row := none) (kb1_ HK.out GW459.out)) : w.heap.size ≤ gb472)); have GE472 := Aside0.mk ((Nat.le_trans HW0.out (by rw [hg]; exact (keep_size (w := w) (g := g) (row := none) (kb1_ HK.out GW459.out)) : w.heap.size ≤ gb472) : w0.heap.size ≤ gb472)); replace HK := Aside0.mk (KeepBut.trans (kb1_ HK.out GW459.out) (KeepBut.of_below hb g none) (.inl rfl)); have NB459_472 := Aside0.mk ((by rw [hg]; exact Nat.ne_of_lt (blk_lt (g := gb459) (o := .cells #[.string (⟨#[]⟩ : ByteArray), .string (⟨#[]⟩ : ByteArray)] 27 (0, 0)) (bk_ BK459.out)) : gb459 ≠ gb472)); have NB472_459 := Aside0.mk ((by rw [hg]; exact Nat.ne_of_gt (blk_lt (g := gb459) (o := .cells #[.string (⟨#[]⟩ : ByteArray), .string (⟨#[]⟩ : ByteArray)] 27 (0, 0)) (bk_ BK459.out)) : gb472 ≠ gb459)); replace BK459 := Aside0.mk (bb_ (bk_ BK459.out) hb); have NB0_472 := Aside0.mk ((by rw [hg]; exact Nat.ne_of_lt (IsS74.lt (show IsS74 w0 _ g s0_0 t470 t471 from is74_1 HI0.out NB0_459.out)) : g ≠ gb472)); have NB472_0 := Aside0.mk ((by rw [hg]; exact Nat.ne_of_gt (IsS74.lt (show IsS74 w0 _ g s0_0 t470 t471 from is74_1 HI0.out NB0_459.out)) : gb472 ≠ g)); replace HI0 := Aside0.mk (IsS74.below (is74_1 HI0.out NB0_459.out) hb); clear hb hbox hg; have hnb44 := NB472_459.out; have hnc44 := NB459_472.out; have hnb45 := NB472_0.out; have hnc45 := NB0_472.out; obtain ⟨hcz46_0, hcz46_1⟩ := cz2_ BK472.out; obtain ⟨hfz46_0, hfz46_1⟩ := fz2_ BK472.out) | ((with_reducible refine gate_callee (f := 55) rfl ?_); refine ga_ (some 12) Tryd.func55 #[.pointer (some ⟨g, 0, none⟩), .int .i64 24] ?_; (with_reducible refine (spec_l1Cur_pick.calls g s0_0 t470 t471 24 t473 t474 t475 w0 _ ?side1 ?side2 A4.out).mono ?_); (case side1 => exact is74_2 HI0.out NB0_459.out NB0_472.out); (case side2 => exact lb3_ HB.out (IsS74.ge HI0.out) GE459.out GE472.out); rintro e w47 ⟨rfl, hi, hb, hk⟩; refine ⟨_, rfl, ?_⟩; replace BK459 := Aside0.mk (KeepBut.blk hk (g' := gb459) (o := .cells #[.string (⟨#[]⟩ : ByteArray), .string (⟨#[]⟩ : ByteArray)] 27 (0, 0)) (by (with_reducible repeat (first | refine blk_drewN ?_ _ | refine blk_drew ?_ | refine blk_alloc ?_ _)); refine blk_far ?_ NB459_472.out _; (with_reducible repeat (first | refine blk_drewN ?_ _ | refine blk_drew ?_ | refine blk_alloc ?_ _)); refine blk_far ?_ NB459_472.out _; (with_reducible repeat (first | refine blk_drewN ?_ _ | refine blk_drew ?_ | refine blk_alloc ?_ _)); exact BK459.out) NB459_0.out (by simp)); replace HO462 := Aside0.mk (Kd.R_mono (Kd.R_keep (IsS74.apart (show IsS74 w0 _ g s0_0 t470 t471 from is74_2 HI0.out NB0_459.out NB0_472.out) (kg_ HO462.out BK472.out) (by decide)) hk (fun _ h => h.2)) (fun _ h => h.1)); replace HO468 := Aside0.mk (Kd.R_mono (Kd.R_keep (IsS74.apart (show IsS74 w0 _ g s0_0 t470 t471 from is74_2 HI0.out NB0_459.out NB0_472.out) (kg_ HO468.out BK472.out) (by decide)) hk (fun _ h => h.2)) (fun _ h => h.1)); replace BK472 := Aside0.mk (KeepBut.blk hk (g' := gb472) (o := .cells #[.string t463, .string t469] 27 (0, 0)) (by (with_reducible repeat (first | refine blk_drewN ?_ _ | refine blk_drew ?_ | refine blk_alloc ?_ _)); refine blk_put (cs := #[.string t463, .string (⟨#[]⟩ : ByteArray)]) ?_ 1 _ rfl; (with_reducible repeat (first | refine blk_drewN ?_ _ | refine blk_drew ?_ | refine blk_alloc ?_ _)); refine blk_put (cs := #[.string (⟨#[]⟩ : ByteArray), .string (⟨#[]⟩ : ByteArray)]) ?_ 0 _ rfl; (with_reducible repeat (first | refine blk_drewN ?_ _ | refine blk_drew ?_ | refine blk_alloc ?_ _)); exact BK472.out) NB472_0.out (by simp)); replace HK := Aside0.mk (KeepBut.trans (kb2_ HK.out GW459.out GW472.out) hk (.inl rfl)); replace HB := Aside0.mk (hb); replace HI0 := Aside0.mk (hi); (try clear hb); (try clear hb2); (try clear hk); (try clear hi)) | ((with_reducible refine gate_dst (N := 24) rfl ?_); refine Kd.R_lit Kd.string _ 9 ?hg (N := 24) ?hd (xs := ([(⟨#[35]⟩ : ByteArray), (⟨#[10]⟩ : ByteArray), (⟨#[127]⟩ : ByteArray)] : List ByteArray)) (inner := [.string (⟨#[35]⟩ : ByteArray), .string (⟨#[10]⟩ : ByteArray), .string (⟨#[127]⟩ : ByteArray)]) (ok := fun _ => True) (okp := fun _ => True) ?hr ?hp (fun _ hk => hk) trivial (Below.refl _ _) (Nat.le_refl _) (by simp) ?_; (case hd => rfl); (case hg => rfl); (case hr => first | (go_simp; done) | (go_simp; rfl)); (case hp => exact (Reps.one (show Kd.M Kd.string _ _ _ (⟨#[35]⟩ : ByteArray) [.string (⟨#[35]⟩ : ByteArray)] from rfl) (Reps.one (show Kd.M Kd.string _ _ _ (⟨#[10]⟩ : ByteArray) [.string (⟨#[10]⟩ : ByteArray)] from rfl) (Reps.one (show Kd.M Kd.string _ _ _ (⟨#[127]⟩ : ByteArray) [.string (⟨#[127]⟩ : ByteArray)] from rfl) (Reps.none _ _))))); intro v486 w48 ho49 hb hg_ hnew_; clear hg_ hnew_; replace ho49 := ry_ Ny485.out ho49; have HO487 := Aside0.mk (Kd.R_lower (Kd.R_new' (Kd.R_new' ho49 (Kd.R_lt (kr_ HO462.out))) (Kd.R_lt (kr_ HO468.out))) (keep_size (w := w) (g := g) (row := none) (kb2_ HK.out GW459.out GW472.out))); replace HO462 := Aside0.mk (Kd.R_elder' (kr_ HO462.out) (Kd.R_base ho49) hb); replace HO468 := Aside0.mk (Kd.R_elder' (kr_ HO468.out) (Kd.R_base ho49) hb); replace BK459 := Aside0.mk (bb_ (bk_ BK459.out) hb); replace BK472 := Aside0.mk (bb_ (bk_ BK472.out) hb); replace HK := Aside0.mk (KeepBut.trans (kb2_ HK.out GW459.out GW472.out) (KeepBut.of_below hb g none) (.inl rfl)); replace HB := Aside0.mk (below_step (lb3_ HB.out (IsS74.ge HI0.out) GE459.out GE472.out) hb); replace HI0 := Aside0.mk (IsS74.below (is74_2 HI0.out NB0_459.out NB0_472.out) hb); clear hb ho49; obtain ⟨Ao50, co50, eo50⟩ := Kd.R_slice HO487.out; subst eo50) | ((with_reducible refine gate_callee (f := 73) rfl ?_); refine ga_ (some 25) Tryd.func73 #[.pointer (some ⟨g, 0, none⟩), .slice Ao50 y485.length co50] ?_; (with_reducible refine (spec_l1Cur_of.calls g s0_0 t474 t475 _ _ y485 t488 t489 t490 w0 _ ?side1 ?side2 ?side3 ?side4 ?side5 A33.out).mono ?_); (case side1 => exact is74_2 HI0.out NB0_459.out NB0_472.out); (case side2 => exact lb3_ HB.out (IsS74.ge HI0.out) GE459.out GE472.out); (case side3 => exact kc_ (Kd.R_reads' HO487.out).2.2); (case side4 => exact (Kd.R_reads' HO487.out).2.1); (case side5 => exact far_slice (IsS74.own_ne HI0.out HO487.out (by decide))); rintro e w51 ⟨rfl, hi, hb, hk⟩; refine ⟨_, rfl, ?_⟩; replace BK459 := Aside0.mk (KeepBut.blk hk (g' := gb459) (o := .cells #[.string (⟨#[]⟩ : ByteArray), .string (⟨#[]⟩ : ByteArray)] 27 (0, 0)) (bk_ BK459.out) NB459_0.out (by simp)); replace HO462 := Aside0.mk (Kd.R_mono (Kd.R_keep (IsS74.apart (show IsS74 w0 _ g s0_0 t474 t475 from is74_2 HI0.out NB0_459.out NB0_472.out) (kr_ HO462.out) (by decide)) hk (fun _ h => h.2)) (fun _ h => h.1)); replace HO468 := Aside0.mk (Kd.R_mono (Kd.R_keep (IsS74.apart (show IsS74 w0 _ g s0_0 t474 t475 from is74_2 HI0.out NB0_459.out NB0_472.out) (kr_ HO468.out) (by decide)) hk (fun _ h => h.2)) (fun _ h => h.1)); replace BK472 := Aside0.mk (KeepBut.blk hk (g' := gb472) (o := .cells #[.string t463, .string t469] 27 (0, 0)) (bk_ BK472.out) NB472_0.out (by simp)); replace HO487 := Aside0.mk (Kd.R_mono (Kd.R_keep (IsS74.apart (show IsS74 w0 _ g s0_0 t474 t475 from is74_2 HI0.out NB0_459.out NB0_472.out) (kr_ HO487.out) (by decide)) hk (fun _ h => h.2)) (fun _ h => h.1)); replace HK := Aside0.mk (KeepBut.trans (kb2_ HK.out GW459.out GW472.out) hk (.inl rfl)); replace HB := Aside0.mk (hb); replace HI0 := Aside0.mk (hi); (try clear hb); (try clear hb2); (try clear hk); (try clear hi); obtain ⟨hcz52_0, hcz52_1⟩ := cz2_ BK472.out; obtain ⟨hfz52_0, hfz52_1⟩ := fz2_ BK472.out; have hnb53 := NB459_0.out; have hnc53 := NB0_459.out; obtain ⟨hcz54_0, hcz54_1⟩ := cz2_ BK459.out; obtain ⟨hfz54_0, hfz54_1⟩ := fz2_ BK459.out))
   refine bodyPost_ret (results_cell_row rfl _ _ gb459 27 #[.string t463, .string t488] (0, 0) _ rfl (by (with_reducible repeat (first | refine blk_drewN ?_ _ | refine blk_drew ?_ | refine blk_alloc ?_ _)); refine blk_put (cs := #[.string t463, .string (⟨#[]⟩ : ByteArray)]) ?_ 1 _ rfl; (with_reducible repeat (first | refine blk_drewN ?_ _ | refine blk_drew ?_ | refine blk_alloc ?_ _)); refine blk_put (cs := #[.string (⟨#[]⟩ : ByteArray), .string (⟨#[]⟩ : ByteArray)]) ?_ 0 _ rfl; (with_reducible repeat (first | refine blk_drewN ?_ _ | refine blk_drew ?_ | refine blk_alloc ?_ _)); refine blk_far ?_ NB459_472.out _; (with_reducible repeat (first | refine blk_drewN ?_ _ | refine blk_drew ?_ | refine blk_alloc ?_ _)); exact BK459.out) Tryd.underlying27 rfl (by kernel_rfl)) rfl ?_
   exact ⟨rr_, is74_2 HI0.out NB0_459.out NB0_472.out, lb3_ HB.out (IsS74.ge HI0.out) GE459.out GE472.out, kb2_ HK.out GW459.out GW472.out⟩
  ·
   rw [if_neg c32] at H
   have c32b0 : (t473 == 1) = false := beq_eq_false_iff_ne.mpr c32
   have c32b1 : (t473 != 1) = true := bne_iff_ne.mpr c32
   simp only [Option.some.injEq, Prod.mk.injEq] at H
   obtain ⟨rfl, rfl, rfl, rfl⟩ := H
   go_enter Tryd.func56, Tryd.ntmps56
   go_wp2_with (first | ((with_reducible refine gate_dst (N := 2) rfl ?_); refine box_event ?hg (N := 2) ?hd (cs := #[.string (⟨#[]⟩ : ByteArray), .string (⟨#[]⟩ : ByteArray)]) (t := 27) ?hr ?_; (case hd => rfl); (case hg => rfl); (case hr => first | (go_simp; done) | (go_simp; rfl)); intro gb459 hg w55 hbox hb; replace HB := Aside0.mk (below_step (lb1_ HB.out (IsS74.ge HI0.out)) hb); have BK459 := Aside0.mk (hbox); have GW459 := Aside0.mk ((by rw [hg]; exact (keep_size (w := w) (g := g) (row := none) (kb0_ HK.out)) : w.heap.size ≤ gb459)); have GE459 := Aside0.mk ((Nat.le_trans HW0.out (by rw [hg]; exact (keep_size (w := w) (g := g) (row := none) (kb0_ HK.out)) : w.heap.size ≤ gb459) : w0.heap.size ≤ gb459)); replace HK := Aside0.mk (KeepBut.trans (kb0_ HK.out) (KeepBut.of_below hb g none) (.inl rfl)); have NB0_459 := Aside0.mk ((by rw [hg]; exact Nat.ne_of_lt (IsS74.lt (show IsS74 w0 _ g s0_0 s0_1 s0_2 from is74_0 HI0.out)) : g ≠ gb459)); have NB459_0 := Aside0.mk ((by rw [hg]; exact Nat.ne_of_gt (IsS74.lt (show IsS74 w0 _ g s0_0 s0_1 s0_2 from is74_0 HI0.out)) : gb459 ≠ g)); replace HI0 := Aside0.mk (IsS74.below (is74_0 HI0.out) hb); clear hb hbox hg) | ((with_reducible refine gate_dst (N := 5) rfl ?_); refine Kd.R_lit Kd.string _ 9 ?hg (N := 5) ?hd (xs := ([(⟨#[99, 111, 117, 110, 116]⟩ : ByteArray), (⟨#[115, 111, 114, 116, 32, 109, 101, 114, 103, 101]⟩ : ByteArray), (⟨#[120]⟩ : ByteArray), (⟨#[115, 101, 108, 101, 99, 116, 32, 50]⟩ : ByteArray), (⟨#[48, 32, 49]⟩ : ByteArray)] : List ByteArray)) (inner := [.string (⟨#[99, 111, 117, 110, 116]⟩ : ByteArray), .string (⟨#[115, 111, 114, 116, 32, 109, 101, 114, 103, 101]⟩ : ByteArray), .string (⟨#[120]⟩ : ByteArray), .string (⟨#[115, 101, 108, 101, 99, 116, 32, 50]⟩ : ByteArray), .string (⟨#[48, 32, 49]⟩ : ByteArray)]) (ok := fun _ => True) (okp := fun _ => True) ?hr ?hp (fun _ hk => hk) trivial (Below.refl _ _) (Nat.le_refl _) (by simp) ?_; (case hd => rfl); (case hg => rfl); (case hr => first | (go_simp; done) | (go_simp; rfl)); (case hp => exact (Reps.one (show Kd.M Kd.string _ _ _ (⟨#[99, 111, 117, 110, 116]⟩ : ByteArray) [.string (⟨#[99, 111, 117, 110, 116]⟩ : ByteArray)] from rfl) (Reps.one (show Kd.M Kd.string _ _ _ (⟨#[115, 111, 114, 116, 32, 109, 101, 114, 103, 101]⟩ : ByteArray) [.string (⟨#[115, 111, 114, 116, 32, 109, 101, 114, 103, 101]⟩ : ByteArray)] from rfl) (Reps.one (show Kd.M Kd.string _ _ _ (⟨#[120]⟩ : ByteArray) [.string (⟨#[120]⟩ : ByteArray)] from rfl) (Reps.one (show Kd.M Kd.string _ _ _ (⟨#[115, 101, 108, 101, 99, 116, 32, 50]⟩ : ByteArray) [.string (⟨#[115, 101, 108, 101, 99, 116, 32, 50]⟩ : ByteArray)] from rfl) (Reps.one (show Kd.M Kd.string _ _ _ (⟨#[48, 32, 49]⟩ : ByteArray) [.string (⟨#[48, 32, 49]⟩ : ByteArray)] from rfl) (Reps.none _ _))))))); intro v461 w56 ho57 hb hg_ hnew_; clear hg_ hnew_; replace ho57 := ry_ Ny460.out ho57; have HO462 := Aside0.mk (Kd.R_lower ho57 (keep_size (w := w) (g := g) (row := none) (kb1_ HK.out GW459.out))); replace BK459 := Aside0.mk (bb_ (bk_ BK459.out) hb); replace HK := Aside0.mk (KeepBut.trans (kb1_ HK.out GW459.out) (KeepBut.of_below hb g none) (.inl rfl)); replace HB := Aside0.mk (below_step (lb2_ HB.out (IsS74.ge HI0.out) GE459.out) hb); replace HI0 := Aside0.mk (IsS74.below (is74_1 HI0.out NB0_459.out) hb); clear hb ho57; obtain ⟨Ao58, co58, eo58⟩ := Kd.R_slice HO462.out; subst eo58) | ((with_reducible refine gate_callee (f := 73) rfl ?_); refine ga_ (some 6) Tryd.func73 #[.pointer (some ⟨g, 0, none⟩), .slice Ao58 y460.length co58] ?_; (with_reducible refine (spec_l1Cur_of.calls g s0_0 s0_1 s0_2 _ _ y460 t463 t464 t465 w0 _ ?side1 ?side2 ?side3 ?side4 ?side5 A2.out).mono ?_); (case side1 => exact is74_1 HI0.out NB0_459.out); (case side2 => exact lb2_ HB.out (IsS74.ge HI0.out) GE459.out); (case side3 => exact kc_ (Kd.R_reads' HO462.out).2.2); (case side4 => exact (Kd.R_reads' HO462.out).2.1); (case side5 => exact far_slice (IsS74.own_ne HI0.out HO462.out (by decide))); rintro e w59 ⟨rfl, hi, hb, hk⟩; refine ⟨_, rfl, ?_⟩; replace BK459 := Aside0.mk (KeepBut.blk hk (g' := gb459) (o := .cells #[.string (⟨#[]⟩ : ByteArray), .string (⟨#[]⟩ : ByteArray)] 27 (0, 0)) (bk_ BK459.out) NB459_0.out (by simp)); replace HO462 := Aside0.mk (Kd.R_mono (Kd.R_keep (IsS74.apart (show IsS74 w0 _ g s0_0 s0_1 s0_2 from is74_1 HI0.out NB0_459.out) (kr_ HO462.out) (by decide)) hk (fun _ h => h.2)) (fun _ h => h.1)); replace HK := Aside0.mk (KeepBut.trans (kb1_ HK.out GW459.out) hk (.inl rfl)); replace HB := Aside0.mk (hb); replace HI0 := Aside0.mk (hi); (try clear hb); (try clear hb2); (try clear hk); (try clear hi)) | ((with_reducible refine gate_dst (N := 8) rfl ?_); refine Kd.R_lit Kd.string _ 9 ?hg (N := 8) ?hd (xs := ([(⟨#[]⟩ : ByteArray), (⟨#[51]⟩ : ByteArray), (⟨#[63]⟩ : ByteArray), (⟨#[97, 64, 98]⟩ : ByteArray), (⟨#[51, 32, 49, 32, 50]⟩ : ByteArray)] : List ByteArray)) (inner := [.string (⟨#[]⟩ : ByteArray), .string (⟨#[51]⟩ : ByteArray), .string (⟨#[63]⟩ : ByteArray), .string (⟨#[97, 64, 98]⟩ : ByteArray), .string (⟨#[51, 32, 49, 32, 50]⟩ : ByteArray)]) (ok := fun _ => True) (okp := fun _ => True) ?hr ?hp (fun _ hk => hk) trivial (Below.refl _ _) (Nat.le_refl _) (by simp) ?_; (case hd => rfl); (case hg => rfl); (case hr => first | (go_simp; done) | (go_simp; rfl)); (case hp => exact (Reps.one (show Kd.M Kd.string _ _ _ (⟨#[]⟩ : ByteArray) [.string (⟨#[]⟩ : ByteArray)] from rfl) (Reps.one (show Kd.M Kd.string _ _ _ (⟨#[51]⟩ : ByteArray) [.string (⟨#[51]⟩ : ByteArray)] from rfl) (Reps.one (show Kd.M Kd.string _ _ _ (⟨#[63]⟩ : ByteArray) [.string (⟨#[63]⟩ : ByteArray)] from rfl) (Reps.one (show Kd.M Kd.string _ _ _ (⟨#[97, 64, 98]⟩ : ByteArray) [.string (⟨#[97, 64, 98]⟩ : ByteArray)] from rfl) (Reps.one (show Kd.M Kd.string _ _ _ (⟨#[51, 32, 49, 32, 50]⟩ : ByteArray) [.string (⟨#[51, 32, 49, 32, 50]⟩ : ByteArray)] from rfl) (Reps.none _ _))))))); intro v467 w60 ho61 hb hg_ hnew_; clear hg_ hnew_; replace ho61 := ry_ Ny466.out ho61; have HO468 := Aside0.mk (Kd.R_lower (Kd.R_new' ho61 (Kd.R_lt (kr_ HO462.out))) (keep_size (w := w) (g := g) (row := none) (kb1_ HK.out GW459.out))); replace HO462 := Aside0.mk (Kd.R_elder' (kr_ HO462.out) (Kd.R_base ho61) hb); replace BK459 := Aside0.mk (bb_ (bk_ BK459.out) hb); replace HK := Aside0.mk (KeepBut.trans (kb1_ HK.out GW459.out) (KeepBut.of_below hb g none) (.inl rfl)); replace HB := Aside0.mk (below_step (lb2_ HB.out (IsS74.ge HI0.out) GE459.out) hb); replace HI0 := Aside0.mk (IsS74.below (is74_1 HI0.out NB0_459.out) hb); clear hb ho61; obtain ⟨Ao62, co62, eo62⟩ := Kd.R_slice HO468.out; subst eo62) | ((with_reducible refine gate_callee (f := 73) rfl ?_); refine ga_ (some 9) Tryd.func73 #[.pointer (some ⟨g, 0, none⟩), .slice Ao62 y466.length co62] ?_; (with_reducible refine (spec_l1Cur_of.calls g s0_0 t464 t465 _ _ y466 t469 t470 t471 w0 _ ?side1 ?side2 ?side3 ?side4 ?side5 A3.out).mono ?_); (case side1 => exact is74_1 HI0.out NB0_459.out); (case side2 => exact lb2_ HB.out (IsS74.ge HI0.out) GE459.out); (case side3 => exact kc_ (Kd.R_reads' HO468.out).2.2); (case side4 => exact (Kd.R_reads' HO468.out).2.1); (case side5 => exact far_slice (IsS74.own_ne HI0.out HO468.out (by decide))); rintro e w63 ⟨rfl, hi, hb, hk⟩; refine ⟨_, rfl, ?_⟩; replace BK459 := Aside0.mk (KeepBut.blk hk (g' := gb459) (o := .cells #[.string (⟨#[]⟩ : ByteArray), .string (⟨#[]⟩ : ByteArray)] 27 (0, 0)) (bk_ BK459.out) NB459_0.out (by simp)); replace HO462 := Aside0.mk (Kd.R_mono (Kd.R_keep (IsS74.apart (show IsS74 w0 _ g s0_0 t464 t465 from is74_1 HI0.out NB0_459.out) (kr_ HO462.out) (by decide)) hk (fun _ h => h.2)) (fun _ h => h.1)); replace HO468 := Aside0.mk (Kd.R_mono (Kd.R_keep (IsS74.apart (show IsS74 w0 _ g s0_0 t464 t465 from is74_1 HI0.out NB0_459.out) (kr_ HO468.out) (by decide)) hk (fun _ h => h.2)) (fun _ h => h.1)); replace HK := Aside0.mk (KeepBut.trans (kb1_ HK.out GW459.out) hk (.inl rfl)); replace HB := Aside0.mk (hb); replace HI0 := Aside0.mk (hi); (try clear hb); (try clear hb2); (try clear hk); (try clear hi)) | ((with_reducible refine gate_dst (N := 3) rfl ?_); refine box_event ?hg (N := 3) ?hd (cs := #[.string (⟨#[]⟩ : ByteArray), .string (⟨#[]⟩ : ByteArray)]) (t := 27) ?hr ?_; (case hd => rfl); (case hg => rfl); (case hr => first | (go_simp; done) | (go_simp; rfl)); intro gb472 hg w64 hbox hb; replace HO462 := Aside0.mk (Kd.R_below (kr_ HO462.out) hb); replace HO468 := Aside0.mk (Kd.R_below (kr_ HO468.out) hb); replace HB := Aside0.mk (below_step (lb2_ HB.out (IsS74.ge HI0.out) GE459.out) hb); have BK472 := Aside0.mk (hbox); have GW472 := Aside0.mk ((by rw [hg]; exact (keep_size (w := w) (g := g) (row := none) (kb1_ HK.out GW459.out)) : w.heap.size ≤ gb472)); have GE472 := Aside0.mk ((Nat.le_trans HW0.out (by rw [hg]; exact (keep_size (w := w) (g := g) (row := none) (kb1_ HK.out GW459.out)) : w.heap.size ≤ gb472) : w0.heap.size ≤ gb472)); replace HK := Aside0.mk (KeepBut.trans (kb1_ HK.out GW459.out) (KeepBut.of_below hb g none) (.inl rfl)); have NB459_472 := Aside0.mk ((by rw [hg]; exact Nat.ne_of_lt (blk_lt (g := gb459) (o := .cells #[.string (⟨#[]⟩ : ByteArray), .string (⟨#[]⟩ : ByteArray)] 27 (0, 0)) (bk_ BK459.out)) : gb459 ≠ gb472)); have NB472_459 := Aside0.mk ((by rw [hg]; exact Nat.ne_of_gt (blk_lt (g := gb459) (o := .cells #[.string (⟨#[]⟩ : ByteArray), .string (⟨#[]⟩ : ByteArray)] 27 (0, 0)) (bk_ BK459.out)) : gb472 ≠ gb459)); replace BK459 := Aside0.mk (bb_ (bk_ BK459.out) hb); have NB0_472 := Aside0.mk ((by rw [hg]; exact Nat.ne_of_lt (IsS74.lt (show IsS74 w0 _ g s0_0 t470 t471 from is74_1 HI0.out NB0_459.out)) : g ≠ gb472)); have NB472_0 := Aside0.mk ((by rw [hg]; exact Nat.ne_of_gt (IsS74.lt (show IsS74 w0 _ g s0_0 t470 t471 from is74_1 HI0.out NB0_459.out)) : gb472 ≠ g)); replace HI0 := Aside0.mk (IsS74.below (is74_1 HI0.out NB0_459.out) hb); clear hb hbox hg; have hnb65 := NB472_459.out; have hnc65 := NB459_472.out; have hnb66 := NB472_0.out; have hnc66 := NB0_472.out; obtain ⟨hcz67_0, hcz67_1⟩ := cz2_ BK472.out; obtain ⟨hfz67_0, hfz67_1⟩ := fz2_ BK472.out) | ((with_reducible refine gate_callee (f := 55) rfl ?_); refine ga_ (some 12) Tryd.func55 #[.pointer (some ⟨g, 0, none⟩), .int .i64 24] ?_; (with_reducible refine (spec_l1Cur_pick.calls g s0_0 t470 t471 24 t473 t474 t475 w0 _ ?side1 ?side2 A4.out).mono ?_); (case side1 => exact is74_2 HI0.out NB0_459.out NB0_472.out); (case side2 => exact lb3_ HB.out (IsS74.ge HI0.out) GE459.out GE472.out); rintro e w68 ⟨rfl, hi, hb, hk⟩; refine ⟨_, rfl, ?_⟩; replace BK459 := Aside0.mk (KeepBut.blk hk (g' := gb459) (o := .cells #[.string (⟨#[]⟩ : ByteArray), .string (⟨#[]⟩ : ByteArray)] 27 (0, 0)) (by (with_reducible repeat (first | refine blk_drewN ?_ _ | refine blk_drew ?_ | refine blk_alloc ?_ _)); refine blk_far ?_ NB459_472.out _; (with_reducible repeat (first | refine blk_drewN ?_ _ | refine blk_drew ?_ | refine blk_alloc ?_ _)); refine blk_far ?_ NB459_472.out _; (with_reducible repeat (first | refine blk_drewN ?_ _ | refine blk_drew ?_ | refine blk_alloc ?_ _)); exact BK459.out) NB459_0.out (by simp)); replace HO462 := Aside0.mk (Kd.R_mono (Kd.R_keep (IsS74.apart (show IsS74 w0 _ g s0_0 t470 t471 from is74_2 HI0.out NB0_459.out NB0_472.out) (kg_ HO462.out BK472.out) (by decide)) hk (fun _ h => h.2)) (fun _ h => h.1)); replace HO468 := Aside0.mk (Kd.R_mono (Kd.R_keep (IsS74.apart (show IsS74 w0 _ g s0_0 t470 t471 from is74_2 HI0.out NB0_459.out NB0_472.out) (kg_ HO468.out BK472.out) (by decide)) hk (fun _ h => h.2)) (fun _ h => h.1)); replace BK472 := Aside0.mk (KeepBut.blk hk (g' := gb472) (o := .cells #[.string t463, .string t469] 27 (0, 0)) (by (with_reducible repeat (first | refine blk_drewN ?_ _ | refine blk_drew ?_ | refine blk_alloc ?_ _)); refine blk_put (cs := #[.string t463, .string (⟨#[]⟩ : ByteArray)]) ?_ 1 _ rfl; (with_reducible repeat (first | refine blk_drewN ?_ _ | refine blk_drew ?_ | refine blk_alloc ?_ _)); refine blk_put (cs := #[.string (⟨#[]⟩ : ByteArray), .string (⟨#[]⟩ : ByteArray)]) ?_ 0 _ rfl; (with_reducible repeat (first | refine blk_drewN ?_ _ | refine blk_drew ?_ | refine blk_alloc ?_ _)); exact BK472.out) NB472_0.out (by simp)); replace HK := Aside0.mk (KeepBut.trans (kb2_ HK.out GW459.out GW472.out) hk (.inl rfl)); replace HB := Aside0.mk (hb); replace HI0 := Aside0.mk (hi); (try clear hb); (try clear hb2); (try clear hk); (try clear hi); obtain ⟨hcz69_0, hcz69_1⟩ := cz2_ BK472.out; obtain ⟨hfz69_0, hfz69_1⟩ := fz2_ BK472.out; have hnb70 := NB459_0.out; have hnc70 := NB0_459.out; obtain ⟨hcz71_0, hcz71_1⟩ := cz2_ BK459.out; obtain ⟨hfz71_0, hfz71_1⟩ := fz2_ BK459.out))
   refine bodyPost_ret (results_cell_row rfl _ _ gb459 27 #[.string t463, .string t469] (0, 0) _ rfl (by (with_reducible repeat (first | refine blk_drewN ?_ _ | refine blk_drew ?_ | refine blk_alloc ?_ _)); refine blk_put (cs := #[.string t463, .string (⟨#[]⟩ : ByteArray)]) ?_ 1 _ rfl; (with_reducible repeat (first | refine blk_drewN ?_ _ | refine blk_drew ?_ | refine blk_alloc ?_ _)); refine blk_put (cs := #[.string (⟨#[]⟩ : ByteArray), .string (⟨#[]⟩ : ByteArray)]) ?_ 0 _ rfl; (with_reducible repeat (first | refine blk_drewN ?_ _ | refine blk_drew ?_ | refine blk_alloc ?_ _)); exact BK459.out) Tryd.underlying27 rfl (by kernel_rfl)) rfl ?_
   exact ⟨rr_, is74_2 HI0.out NB0_459.out NB0_472.out, lb3_ HB.out (IsS74.ge HI0.out) GE459.out GE472.out, kb2_ HK.out GW459.out GW472.out⟩
end Go.Proofs.YtdpinnhgkocjhaaDoor.Pr

