/-
What is proved: parts of the law FnExactFormatConsole: what the functions that it reaches compute, and the plain law.
Conditions: those of each theorem.
-/
import Derived.Test.YtckigdechhmegaaDoorCFnExactFormatConsole2
set_option maxHeartbeats 8000000
set_option maxRecDepth 100000
namespace Go.Proofs.YtckigdechhmegaaDoor.Pr
open Go.RowKit Go.Proofs.YtckigdechhmegaaDoorW.PrintWords Go.Proofs.YtckigdechhmegaaDoorW.PrintLast Go.Proofs.YtckigdechhmegaaDoorW.PrintMore
attribute [local go_sem] max2_int min2_int max_two min_two max_three min_three max_four min_four sc_in sx_in   -- for this text's walks alone
set_option linter.unusedVariables false
set_option linter.unusedSimpArgs false
def spec_l27Read.j0 : Nat → ByteArray → Int → ByteArray → ByteArray → Bool → Option (ByteArray × ByteArray × Bool)
 | 0, _, _, _, _, _ => none
 | k + 1, x0, x1, x6, x7, x30 => if x30 = true then (some ((⟨#[]⟩ : ByteArray), (⟨#[]⟩ : ByteArray), false)) else (if 0 ≤ (x6.size : Int) then (if (x6.size : Int) ≤ (x7.size : Int) then ((spec_l1Split.f k (sx x7 ((x6.size)) (x7.size)) 64).bind fun t185 => (if 0 < (t185.length : Int) then (if ((rdOf ByteArray.empty t185 0).size : Int) = ((sx x7 ((x6.size)) (x7.size)).size : Int) then (some ((⟨#[]⟩ : ByteArray), (⟨#[]⟩ : ByteArray), false)) else (if 0 ≤ (wrap64 (((rdOf ByteArray.empty t185 0).size : Int) + 1)) then (if (wrap64 (((rdOf ByteArray.empty t185 0).size : Int) + 1)) ≤ ((sx x7 ((x6.size)) (x7.size)).size : Int) then ((spec_l27Good.f k (rdOf ByteArray.empty t185 0) (sx (sx x7 ((x6.size)) (x7.size)) (((wrap64 (((rdOf ByteArray.empty t185 0).size : Int) + 1)) : Int).toNat) ((sx x7 ((x6.size)) (x7.size)).size))).bind fun t190 => (if t190 = true then ((spec_l27Line.f k x1 (rdOf ByteArray.empty t185 0) (sx (sx x7 ((x6.size)) (x7.size)) (((wrap64 (((rdOf ByteArray.empty t185 0).size : Int) + 1)) : Int).toNat) ((sx x7 ((x6.size)) (x7.size)).size))).bind fun t191 => (if x0.size + 1 ≤ 9223372036854775807 then (some (rdOf ByteArray.empty t185 0, sx (sx x7 ((x6.size)) (x7.size)) (((wrap64 (((rdOf ByteArray.empty t185 0).size : Int) + 1)) : Int).toNat) ((sx x7 ((x6.size)) (x7.size)).size), (t191.toList == (sc x0 (⟨#[10]⟩ : ByteArray)).toList))) else (none))) else (some (rdOf ByteArray.empty t185 0, sx (sx x7 ((x6.size)) (x7.size)) (((wrap64 (((rdOf ByteArray.empty t185 0).size : Int) + 1)) : Int).toNat) ((sx x7 ((x6.size)) (x7.size)).size), false)))) else (none)) else (none))) else (none))) else (none)) else (none))
def spec_l27Read.f (k : Nat) (a0 : ByteArray) (a1 : Int) : Option (ByteArray × ByteArray × Bool) := (spec_l1Num.f k a1).bind fun t180 => (if t180.size + 1 ≤ 9223372036854775807 then ((spec_l1Split.f k a0 35).bind fun t181 => (if 0 < (t181.length : Int) then (if ((rdOf ByteArray.empty t181 0).size : Int) < ((sc t180 (⟨#[32]⟩ : ByteArray)).size : Int) then (spec_l27Read.j0 k a0 a1 (sc t180 (⟨#[32]⟩ : ByteArray)) (rdOf ByteArray.empty t181 0) true) else (if 0 ≤ ((sc t180 (⟨#[32]⟩ : ByteArray)).size : Int) then (if ((sc t180 (⟨#[32]⟩ : ByteArray)).size : Int) ≤ ((rdOf ByteArray.empty t181 0).size : Int) then (spec_l27Read.j0 k a0 a1 (sc t180 (⟨#[32]⟩ : ByteArray)) (rdOf ByteArray.empty t181 0) ((sx (rdOf ByteArray.empty t181 0) (0) (((sc t180 (⟨#[32]⟩ : ByteArray)).size))).toList != (sc t180 (⟨#[32]⟩ : ByteArray)).toList)) else (none)) else (none))) else (none))) else (none))
def spec_l27Read.T10 : Bool × List (List Nat × List Nat) := (true, [([], []), ([], []), ([1], [1]), ([2, 2], [2]), ([3], [3]), ([3], [3]), ([4, 5, 3, 3], [3, 4, 5]), ([3], [3]), ([7, 3], [3, 7]), ([6, 8, 3], [3, 6, 8]), ([3, 9], [3, 9]), ([0, 6, 0], [0]), ([10, 11, 0, 1, 2, 3, 4, 5, 6, 7, 8, 9, 10, 11], [10])])
def spec_l27Read.B10 : List Nat := [0, 0, 2, 6, 14, 14, 62, 14, 142, 510, 1022, 127, 4095]
theorem spec_l27Read.tab10 : rtab .any (opsOf Tryd.f59 10) = spec_l27Read.T10 := by kernel_rfl
theorem spec_l27Read.bits10 : waitsOk spec_l27Read.T10.2 spec_l27Read.B10 = true := by kernel_rfl
abbrev spec_l27Read.mk0 : Array Bool := #[false, false, false, false, false, false, false, false, false, false, false, false, false]
abbrev spec_l27Read.mk1 : Array Bool := #[true, false, false, false, false, false, false, false, false, false, false, false, false]
abbrev spec_l27Read.mk2 : Array Bool := #[true, true, false, false, false, false, false, false, false, false, false, false, false]
abbrev spec_l27Read.mk3 : Array Bool := #[true, true, true, false, false, false, false, false, false, false, false, false, false]
abbrev spec_l27Read.mk4 : Array Bool := #[true, true, true, true, false, false, false, false, false, false, false, false, false]
abbrev spec_l27Read.mk5 : Array Bool := #[true, true, true, true, true, false, false, false, false, false, false, false, false]
abbrev spec_l27Read.mk6 : Array Bool := #[true, true, true, true, true, false, false, true, false, false, false, false, false]
abbrev spec_l27Read.mk7 : Array Bool := #[true, true, true, true, true, false, false, true, true, false, false, false, false]
abbrev spec_l27Read.mk8 : Array Bool := #[true, true, true, true, true, true, false, true, true, false, false, false, false]
abbrev spec_l27Read.mk9 : Array Bool := #[true, true, true, true, true, true, true, true, true, false, false, false, false]
abbrev spec_l27Read.mk10 : Array Bool := #[true, true, true, true, true, true, true, true, true, true, false, false, false]
abbrev spec_l27Read.mk11 : Array Bool := #[true, true, true, true, true, true, true, true, true, true, true, false, false]
abbrev spec_l27Read.mk12 : Array Bool := #[true, true, true, true, true, true, true, true, true, true, true, true, false]
abbrev spec_l27Read.mk13 : Array Bool := #[true, true, true, true, true, true, true, true, true, true, true, true, true]
abbrev spec_l27Read.mk14 : Array Bool := #[true, true, true, true, true, true, false, false, false, false, false, false, false]
abbrev spec_l27Read.mk15 : Array Bool := #[true, true, true, true, true, true, true, false, false, false, false, false, false]
abbrev spec_l27Read.mk16 : Array Bool := #[true, true, true, true, true, true, true, true, false, false, false, false, false]
theorem spec_l27Read.calls (k : Nat) (a0 : ByteArray) (a1 : Int) (r1 : ByteArray) (r2 : ByteArray) (r3 : Bool) (w : World) (h : spec_l27Read.f k a0 a1 = some (r1, r2, r3)) :
  Calls Tryd.prog 59 #[.string a0, .int .i64 a1] w fun e w' => e = .returned (.tuple #[.agg #[.string r1, .string r2], .bool r3]) ∧ Below w.heap.size w w' := by
 have hu97 := Tryd.underlying97
 have HB := Aside0.mk (Below.refl w.heap.size w)
 have H : ((spec_l1Num.f k a1).bind fun t180 => (if t180.size + 1 ≤ 9223372036854775807 then ((spec_l1Split.f k a0 35).bind fun t181 => (if 0 < (t181.length : Int) then (if ((rdOf ByteArray.empty t181 0).size : Int) < ((sc t180 (⟨#[32]⟩ : ByteArray)).size : Int) then (spec_l27Read.j0 k a0 a1 (sc t180 (⟨#[32]⟩ : ByteArray)) (rdOf ByteArray.empty t181 0) true) else (if 0 ≤ ((sc t180 (⟨#[32]⟩ : ByteArray)).size : Int) then (if ((sc t180 (⟨#[32]⟩ : ByteArray)).size : Int) ≤ ((rdOf ByteArray.empty t181 0).size : Int) then (spec_l27Read.j0 k a0 a1 (sc t180 (⟨#[32]⟩ : ByteArray)) (rdOf ByteArray.empty t181 0) ((sx (rdOf ByteArray.empty t181 0) (0) (((sc t180 (⟨#[32]⟩ : ByteArray)).size))).toList != (sc t180 (⟨#[32]⟩ : ByteArray)).toList)) else (none)) else (none))) else (none))) else (none))) = some (r1, r2, r3) := h
 clear h
 replace H := Option.bind_eq_some_iff.mp H
 obtain ⟨t180, A30, H⟩ := H
 replace H : (if t180.size + 1 ≤ 9223372036854775807 then ((spec_l1Split.f k a0 35).bind fun t181 => (if 0 < (t181.length : Int) then (if ((rdOf ByteArray.empty t181 0).size : Int) < ((sc t180 (⟨#[32]⟩ : ByteArray)).size : Int) then (spec_l27Read.j0 k a0 a1 (sc t180 (⟨#[32]⟩ : ByteArray)) (rdOf ByteArray.empty t181 0) true) else (if 0 ≤ ((sc t180 (⟨#[32]⟩ : ByteArray)).size : Int) then (if ((sc t180 (⟨#[32]⟩ : ByteArray)).size : Int) ≤ ((rdOf ByteArray.empty t181 0).size : Int) then (spec_l27Read.j0 k a0 a1 (sc t180 (⟨#[32]⟩ : ByteArray)) (rdOf ByteArray.empty t181 0) ((sx (rdOf ByteArray.empty t181 0) (0) (((sc t180 (⟨#[32]⟩ : ByteArray)).size))).toList != (sc t180 (⟨#[32]⟩ : ByteArray)).toList)) else (none)) else (none))) else (none))) else (none)) = some (r1, r2, r3) := H
 have A3 := Aside0.mk A30
 clear A30
 by_cases c4 : t180.size + 1 ≤ 9223372036854775807
 ·
  rw [if_pos c4] at H
  have c4b0 := eq_true c4
  have c4b1 : decide (t180.size + 1 ≤ 9223372036854775807) = true := decide_eq_true c4
  try have c4b2 : (9223372036854775807 < t180.size + 1) = False := eq_false (Nat.not_lt.2 c4)
  replace H := Option.bind_eq_some_iff.mp H
  obtain ⟨t181, A50, H⟩ := H
  replace H : (if 0 < (t181.length : Int) then (if ((rdOf ByteArray.empty t181 0).size : Int) < ((sc t180 (⟨#[32]⟩ : ByteArray)).size : Int) then (spec_l27Read.j0 k a0 a1 (sc t180 (⟨#[32]⟩ : ByteArray)) (rdOf ByteArray.empty t181 0) true) else (if 0 ≤ ((sc t180 (⟨#[32]⟩ : ByteArray)).size : Int) then (if ((sc t180 (⟨#[32]⟩ : ByteArray)).size : Int) ≤ ((rdOf ByteArray.empty t181 0).size : Int) then (spec_l27Read.j0 k a0 a1 (sc t180 (⟨#[32]⟩ : ByteArray)) (rdOf ByteArray.empty t181 0) ((sx (rdOf ByteArray.empty t181 0) (0) (((sc t180 (⟨#[32]⟩ : ByteArray)).size))).toList != (sc t180 (⟨#[32]⟩ : ByteArray)).toList)) else (none)) else (none))) else (none)) = some (r1, r2, r3) := H
  have A5 := Aside0.mk A50
  clear A50
  by_cases c6 : 0 < (t181.length : Int)
  ·
   rw [if_pos c6] at H
   have c6b0 : decide (0 < (t181.length : Int)) = true := decide_eq_true c6
   have c6b1 : decide (0 < t181.length) = true := decide_eq_true (by omega)
   clear c6
   have HC7 := Aside0.mk H
   clear H
   go_enter Tryd.func59, Tryd.ntmps59
   go_upto_region 3 with (first | ((with_reducible refine gate_dst (N := 4) rfl ?_); (try (refine gate_guard (by rfl) ?_; dsimp only)); refine box_event ?hg (N := 4) ?hd (cs := #[.string (⟨#[]⟩ : ByteArray), .string (⟨#[]⟩ : ByteArray)]) (t := 97) ?hr ?_; (case hd => rfl); (case hg => rfl); (case hr => first | (go_simp; done) | (go_simp; rfl)); intro gb179 hg w8 hbox hb; have BK179 := Aside0.mk (hbox); have GW179 := Aside0.mk ((bz_ hg (lb0_ HB.out))); have GE179 := Aside0.mk ((bz_ hg (lb0_ HB.out))); replace HB := Aside0.mk (below_step (lb0_ HB.out) hb); clear hb hbox hg) | ((with_reducible refine gate_callee (f := 22) rfl ?_); refine ga_ (some 12) Tryd.func22 #[.int .i64 a1] ?_; (with_reducible refine (spec_l1Num.calls k a1 t180 _ A3.out).mono ?_); rintro e w9 ⟨rfl, hb⟩; refine ⟨_, rfl, ?_⟩; replace BK179 := Aside0.mk (bb_ (bk_ BK179.out) hb); replace HB := Aside0.mk (below_step (lb1_ HB.out GE179.out) hb); (try clear hb); (try clear hb2); (try clear hk); (try clear hi)) | ((with_reducible refine gate_callee (f := 58) rfl ?_); refine ga_ (some 15) Tryd.func58 #[.string a0, .int .u8 35] ?_; (with_reducible refine (spec_l1Split.calls k a0 35 t181 _ A5.out).mono ?_); rintro e w10 ⟨v182, rfl, ho0, hb⟩; refine ⟨_, rfl, ?_⟩; have HO183 := Aside0.mk (Kd.R_lower ho0 (below_size (lb1_ HB.out GE179.out))); replace BK179 := Aside0.mk (bb_ (bk_ BK179.out) hb); replace HB := Aside0.mk (below_step (lb1_ HB.out GE179.out) hb); (try clear hb); (try clear hb2); (try clear hk); (try clear hi); (try clear ho0); obtain ⟨Ao11, co11, eo11⟩ := Kd.R_slice HO183.out; subst eo11; have p184 : 0 ≤ (0 : Int) := (by omega); have q184 : 0 < (t181.length : Int) := dt_; obtain ⟨ad184, e184, hx184_0⟩ := Kd.at_string (Kd.R_reads' HO183.out).2.2 0 p184 q184; cases e184; have qi184 : (0 < t181.length) = True := eq_true (by omega); (try rw [show ((0 : Int)).toNat = 0 from rfl] at hx184_0); (try rw [Addr.add_zero'] at hx184_0); replace p184 := eq_true p184; replace q184 := eq_true q184))
   (try simp only [Act.put, List.setIfInBounds_toArray, List.set_cons_zero, List.set_cons_succ])
   go_cut [30] (fun v30 wc => ∃ (kq : Nat) (x30_6 : Bool), v30 = .bool x30_6 ∧ Aside0 (spec_l27Read.j0 kq a0 a1 (sc t180 (⟨#[32]⟩ : ByteArray)) (rdOf ByteArray.empty t181 0) x30_6 = some (r1, r2, r3)) ∧ Aside0 (kq ≤ k) ∧ Aside0 (wc.heap[gb179]? = some (.cells #[.string (⟨#[]⟩ : ByteArray), .string (⟨#[]⟩ : ByteArray)] 97 (0, 0))) ∧ Aside0 (Below w.heap.size w wc))
   case first =>
    have H := HC7.out
    clear HC7
    by_cases c12 : ((rdOf ByteArray.empty t181 0).size : Int) < ((sc t180 (⟨#[32]⟩ : ByteArray)).size : Int)
    ·
     rw [if_pos c12] at H
     have c12b0 : decide (((rdOf ByteArray.empty t181 0).size : Int) < ((sc t180 (⟨#[32]⟩ : ByteArray)).size : Int)) = true := decide_eq_true c12
     have c12b1 : decide ((rdOf ByteArray.empty t181 0).size < (sc t180 (⟨#[32]⟩ : ByteArray)).size) = true := decide_eq_true (Int.ofNat_lt.mp c12)
     clear c12
     (first | rw [c12b0] | (simp only [i64_w, i32_w]; rw [c12b0]) | skip)
     have H' := Aside0.mk H
     clear H
     go_wp2
     go_meet
     case rel => exact ⟨_, (true), (by first | rfl | (simp; done) | (simp [*]; done)), H', ⟨by first | omega | exact Nat.le_refl _⟩, ⟨bk_ BK179.out⟩, ⟨lb1_ HB.out GE179.out⟩⟩
    ·
     rw [if_neg c12] at H
     have c12b0 : decide (((rdOf ByteArray.empty t181 0).size : Int) < ((sc t180 (⟨#[32]⟩ : ByteArray)).size : Int)) = false := decide_eq_false c12
     have c12b1 : decide ((rdOf ByteArray.empty t181 0).size < (sc t180 (⟨#[32]⟩ : ByteArray)).size) = false := decide_eq_false (fun h => c12 (Int.ofNat_lt.mpr h))
     clear c12
     (first | rw [c12b0] | (simp only [i64_w, i32_w]; rw [c12b0]) | skip)
     by_cases c13 : 0 ≤ ((sc t180 (⟨#[32]⟩ : ByteArray)).size : Int)
     ·
      rw [if_pos c13] at H
      have c13b0 := eq_true c13
      have c13b1 : decide (0 ≤ ((sc t180 (⟨#[32]⟩ : ByteArray)).size : Int)) = true := decide_eq_true c13
      clear c13
      by_cases c14 : ((sc t180 (⟨#[32]⟩ : ByteArray)).size : Int) ≤ ((rdOf ByteArray.empty t181 0).size : Int)
      ·
       rw [if_pos c14] at H
       have c14b0 := eq_true c14
       have c14b1 : decide (((sc t180 (⟨#[32]⟩ : ByteArray)).size : Int) ≤ ((rdOf ByteArray.empty t181 0).size : Int)) = true := decide_eq_true c14
       clear c14
       have H' := Aside0.mk H
       clear H
       go_wp2
       go_meet
       case rel => exact ⟨_, (((sx (rdOf ByteArray.empty t181 0) (0) (((sc t180 (⟨#[32]⟩ : ByteArray)).size))).toList != (sc t180 (⟨#[32]⟩ : ByteArray)).toList)), (by first | rfl | (simp; done) | (simp [*]; done)), H', ⟨by first | omega | exact Nat.le_refl _⟩, ⟨bk_ BK179.out⟩, ⟨lb1_ HB.out GE179.out⟩⟩
      ·
       rw [if_neg c14] at H
       exact absurd H (by simp)
     ·
      rw [if_neg c13] at H
      exact absurd H (by simp)
   case rest =>
    clear HC7
    try clear c1
    try clear p1
    try clear q1
    try clear hx1
    try clear qi1
    try clear c2
    try clear p2
    try clear c4
    try clear c4b0
    try clear c4b1
    try clear c4b2
    try clear c5
    try clear c6
    try clear c6b0
    try clear c6b1
    try clear c12
    try clear c12b0
    try clear c12b1
    try clear c13
    try clear c13b0
    try clear c13b1
    try clear c14
    try clear c14b0
    try clear c14b1
    try clear hx184_0
    try clear p184
    try clear q184
    obtain ⟨kq, x30_6, rfl, HA, HJ6, BK179, HB⟩ := hcut
    cases kq with
    | zero => exact absurd HA.out (by simp [spec_l27Read.j0])
    | succ kj6 =>
     have H := HA.out
     clear HA
     simp only [spec_l27Read.j0] at H
     by_cases c15 : x30_6 = true
     ·
      subst c15
      have H1 : (some ((⟨#[]⟩ : ByteArray), (⟨#[]⟩ : ByteArray), false)) = some (r1, r2, r3) := by rw [if_pos rfl] at H; exact H
      clear H
      have H := H1
      clear H1
      simp only [Option.some.injEq, Prod.mk.injEq] at H
      obtain ⟨rfl, rfl, rfl⟩ := H
      obtain ⟨hcz16_0, hcz16_1⟩ := cz2_ BK179.out
      obtain ⟨hfz16_0, hfz16_1⟩ := fz2_ BK179.out
      go_wp2
      refine bodyPost_ret (results_ct rfl _ _ gb179 97 #[.string (⟨#[]⟩ : ByteArray), .string (⟨#[]⟩ : ByteArray)] (0, 0) _ rfl (by (with_reducible repeat (first | refine blk_drewN ?_ _ | refine blk_drew ?_ | refine blk_alloc ?_ _)); refine blk_put (cs := #[.string (⟨#[]⟩ : ByteArray), .string (⟨#[]⟩ : ByteArray)]) ?_ 1 _ rfl; (with_reducible repeat (first | refine blk_drewN ?_ _ | refine blk_drew ?_ | refine blk_alloc ?_ _)); refine blk_put (cs := #[.string (⟨#[]⟩ : ByteArray), .string (⟨#[]⟩ : ByteArray)]) ?_ 0 _ rfl; (with_reducible repeat (first | refine blk_drewN ?_ _ | refine blk_drew ?_ | refine blk_alloc ?_ _)); exact BK179.out) Tryd.underlying97 rfl (by kernel_rfl)) rfl ?_
      exact ⟨by first | rfl | (simp [errW_none, errW_some] <;> rfl) | (simp [*, errW_none, errW_some] <;> rfl) | (have hw_ : ∀ n : Nat, (n + 1 ≤ 9223372036854775807) → wrap64 ((n : Int) + 1) = (n : Int) + 1 := fun n hn => by unfold wrap64; omega); (rw [hw_ _ (by first | assumption | omega)]); rfl, lb1_ HB.out GE179.out⟩
     ·
      replace c15 := Bool.eq_false_iff.mpr c15
      subst c15
      have H1 : (if 0 ≤ ((sc t180 (⟨#[32]⟩ : ByteArray)).size : Int) then (if ((sc t180 (⟨#[32]⟩ : ByteArray)).size : Int) ≤ ((rdOf ByteArray.empty t181 0).size : Int) then ((spec_l1Split.f kj6 (sx (rdOf ByteArray.empty t181 0) (((sc t180 (⟨#[32]⟩ : ByteArray)).size)) ((rdOf ByteArray.empty t181 0).size)) 64).bind fun t185 => (if 0 < (t185.length : Int) then (if ((rdOf ByteArray.empty t185 0).size : Int) = ((sx (rdOf ByteArray.empty t181 0) (((sc t180 (⟨#[32]⟩ : ByteArray)).size)) ((rdOf ByteArray.empty t181 0).size)).size : Int) then (some ((⟨#[]⟩ : ByteArray), (⟨#[]⟩ : ByteArray), false)) else (if 0 ≤ (wrap64 (((rdOf ByteArray.empty t185 0).size : Int) + 1)) then (if (wrap64 (((rdOf ByteArray.empty t185 0).size : Int) + 1)) ≤ ((sx (rdOf ByteArray.empty t181 0) (((sc t180 (⟨#[32]⟩ : ByteArray)).size)) ((rdOf ByteArray.empty t181 0).size)).size : Int) then ((spec_l27Good.f kj6 (rdOf ByteArray.empty t185 0) (sx (sx (rdOf ByteArray.empty t181 0) (((sc t180 (⟨#[32]⟩ : ByteArray)).size)) ((rdOf ByteArray.empty t181 0).size)) (((wrap64 (((rdOf ByteArray.empty t185 0).size : Int) + 1)) : Int).toNat) ((sx (rdOf ByteArray.empty t181 0) (((sc t180 (⟨#[32]⟩ : ByteArray)).size)) ((rdOf ByteArray.empty t181 0).size)).size))).bind fun t190 => (if t190 = true then ((spec_l27Line.f kj6 a1 (rdOf ByteArray.empty t185 0) (sx (sx (rdOf ByteArray.empty t181 0) (((sc t180 (⟨#[32]⟩ : ByteArray)).size)) ((rdOf ByteArray.empty t181 0).size)) (((wrap64 (((rdOf ByteArray.empty t185 0).size : Int) + 1)) : Int).toNat) ((sx (rdOf ByteArray.empty t181 0) (((sc t180 (⟨#[32]⟩ : ByteArray)).size)) ((rdOf ByteArray.empty t181 0).size)).size))).bind fun t191 => (if a0.size + 1 ≤ 9223372036854775807 then (some (rdOf ByteArray.empty t185 0, sx (sx (rdOf ByteArray.empty t181 0) (((sc t180 (⟨#[32]⟩ : ByteArray)).size)) ((rdOf ByteArray.empty t181 0).size)) (((wrap64 (((rdOf ByteArray.empty t185 0).size : Int) + 1)) : Int).toNat) ((sx (rdOf ByteArray.empty t181 0) (((sc t180 (⟨#[32]⟩ : ByteArray)).size)) ((rdOf ByteArray.empty t181 0).size)).size), (t191.toList == (sc a0 (⟨#[10]⟩ : ByteArray)).toList))) else (none))) else (some (rdOf ByteArray.empty t185 0, sx (sx (rdOf ByteArray.empty t181 0) (((sc t180 (⟨#[32]⟩ : ByteArray)).size)) ((rdOf ByteArray.empty t181 0).size)) (((wrap64 (((rdOf ByteArray.empty t185 0).size : Int) + 1)) : Int).toNat) ((sx (rdOf ByteArray.empty t181 0) (((sc t180 (⟨#[32]⟩ : ByteArray)).size)) ((rdOf ByteArray.empty t181 0).size)).size), false)))) else (none)) else (none))) else (none))) else (none)) else (none)) = some (r1, r2, r3) := by rw [if_neg (show ¬ (false = true) by decide)] at H; exact H
      clear H
      have H := H1
      clear H1
      by_cases c17 : 0 ≤ ((sc t180 (⟨#[32]⟩ : ByteArray)).size : Int)
      ·
       rw [if_pos c17] at H
       have c17b0 := eq_true c17
       have c17b1 : decide (0 ≤ ((sc t180 (⟨#[32]⟩ : ByteArray)).size : Int)) = true := decide_eq_true c17
       clear c17
       by_cases c18 : ((sc t180 (⟨#[32]⟩ : ByteArray)).size : Int) ≤ ((rdOf ByteArray.empty t181 0).size : Int)
       ·
        rw [if_pos c18] at H
        have c18b0 := eq_true c18; have c18b1 : decide (((sc t180 (⟨#[32]⟩ : ByteArray)).size : Int) ≤ ((rdOf ByteArray.empty t181 0).size : Int)) = true := decide_eq_true c18; clear c18; replace H := Option.bind_eq_some_iff.mp H; obtain ⟨t185, A190, H⟩ := H; replace H : (if 0 < (t185.length : Int) then (if ((rdOf ByteArray.empty t185 0).size : Int) = ((sx (rdOf ByteArray.empty t181 0) (((sc t180 (⟨#[32]⟩ : ByteArray)).size)) ((rdOf ByteArray.empty t181 0).size)).size : Int) then (some ((⟨#[]⟩ : ByteArray), (⟨#[]⟩ : ByteArray), false)) else (if 0 ≤ (wrap64 (((rdOf ByteArray.empty t185 0).size : Int) + 1)) then (if (wrap64 (((rdOf ByteArray.empty t185 0).size : Int) + 1)) ≤ ((sx (rdOf ByteArray.empty t181 0) (((sc t180 (⟨#[32]⟩ : ByteArray)).size)) ((rdOf ByteArray.empty t181 0).size)).size : Int) then ((spec_l27Good.f kj6 (rdOf ByteArray.empty t185 0) (sx (sx (rdOf ByteArray.empty t181 0) (((sc t180 (⟨#[32]⟩ : ByteArray)).size)) ((rdOf ByteArray.empty t181 0).size)) (((wrap64 (((rdOf ByteArray.empty t185 0).size : Int) + 1)) : Int).toNat) ((sx (rdOf ByteArray.empty t181 0) (((sc t180 (⟨#[32]⟩ : ByteArray)).size)) ((rdOf ByteArray.empty t181 0).size)).size))).bind fun t190 => (if t190 = true then ((spec_l27Line.f kj6 a1 (rdOf ByteArray.empty t185 0) (sx (sx (rdOf ByteArray.empty t181 0) (((sc t180 (⟨#[32]⟩ : ByteArray)).size)) ((rdOf ByteArray.empty t181 0).size)) (((wrap64 (((rdOf ByteArray.empty t185 0).size : Int) + 1)) : Int).toNat) ((sx (rdOf ByteArray.empty t181 0) (((sc t180 (⟨#[32]⟩ : ByteArray)).size)) ((rdOf ByteArray.empty t181 0).size)).size))).bind fun t191 => (if a0.size + 1 ≤ 9223372036854775807 then (some (rdOf ByteArray.empty t185 0, sx (sx (rdOf ByteArray.empty t181 0) (((sc t180 (⟨#[32]⟩ : ByteArray)).size)) ((rdOf ByteArray.empty t181 0).size)) (((wrap64 (((rdOf ByteArray.empty t185 0).size : Int) + 1)) : Int).toNat) ((sx (rdOf ByteArray.empty t181 0) (((sc t180 (⟨#[32]⟩ : ByteArray)).size)) ((rdOf ByteArray.empty t181 0).size)).size), (t191.toList == (sc a0 (⟨#[10]⟩ : ByteArray)).toList))) else (none))) else (some (rdOf ByteArray.empty t185 0, sx (sx (rdOf ByteArray.empty t181 0) (((sc t180 (⟨#[32]⟩ : ByteArray)).size)) ((rdOf ByteArray.empty t181 0).size)) (((wrap64 (((rdOf ByteArray.empty t185 0).size : Int) + 1)) : Int).toNat) ((sx (rdOf ByteArray.empty t181 0) (((sc t180 (⟨#[32]⟩ : ByteArray)).size)) ((rdOf ByteArray.empty t181 0).size)).size), false)))) else (none)) else (none))) else (none)) = some (r1, r2, r3) := H; have A19 := Aside0.mk A190; clear A190
        by_cases c20 : 0 < (t185.length : Int)
        ·
         rw [if_pos c20] at H
         have c20b0 : decide (0 < (t185.length : Int)) = true := decide_eq_true c20; have c20b1 : decide (0 < t185.length) = true := decide_eq_true (by omega); clear c20
         by_cases c21 : ((rdOf ByteArray.empty t185 0).size : Int) = ((sx (rdOf ByteArray.empty t181 0) (((sc t180 (⟨#[32]⟩ : ByteArray)).size)) ((rdOf ByteArray.empty t181 0).size)).size : Int)
         ·
          rw [if_pos c21] at H
          have c21b0 : (((rdOf ByteArray.empty t185 0).size : Int) == ((sx (rdOf ByteArray.empty t181 0) (((sc t180 (⟨#[32]⟩ : ByteArray)).size)) ((rdOf ByteArray.empty t181 0).size)).size : Int)) = true := beq_iff_eq.mpr c21; have c21b1 : (((rdOf ByteArray.empty t185 0).size : Int) != ((sx (rdOf ByteArray.empty t181 0) (((sc t180 (⟨#[32]⟩ : ByteArray)).size)) ((rdOf ByteArray.empty t181 0).size)).size : Int)) = false := bne_eq_false_iff_eq.mpr c21
          have c21b2 : ((rdOf ByteArray.empty t185 0).size == (sx (rdOf ByteArray.empty t181 0) (((sc t180 (⟨#[32]⟩ : ByteArray)).size)) ((rdOf ByteArray.empty t181 0).size)).size) = true := by first | simpa using c21 | (simp at c21 ⊢; omega)
          clear c21; simp only [Option.some.injEq, Prod.mk.injEq] at H; obtain ⟨rfl, rfl, rfl⟩ := H
          go_wp2_with (first | ((with_reducible refine gate_callee (f := 58) rfl ?_); refine ga_ (some 37) Tryd.func58 #[.string (sx (rdOf ByteArray.empty t181 0) (((sc t180 (⟨#[32]⟩ : ByteArray)).size)) ((rdOf ByteArray.empty t181 0).size)), .int .u8 64] ?_; (with_reducible refine (spec_l1Split.calls kj6 (sx (rdOf ByteArray.empty t181 0) (((sc t180 (⟨#[32]⟩ : ByteArray)).size)) ((rdOf ByteArray.empty t181 0).size)) 64 t185 _ A19.out).mono ?_); rintro e w22 ⟨v186, rfl, ho0, hb⟩; refine ⟨_, rfl, ?_⟩; have HO187 := Aside0.mk (Kd.R_lower ho0 (below_size (lb1_ HB.out GE179.out))); replace BK179 := Aside0.mk (bb_ (bk_ BK179.out) hb); replace HB := Aside0.mk (below_step (lb1_ HB.out GE179.out) hb); (try clear hb); (try clear hb2); (try clear hk); (try clear hi); (try clear ho0); obtain ⟨Ao23, co23, eo23⟩ := Kd.R_slice HO187.out; subst eo23; have p188 : 0 ≤ (0 : Int) := (by omega); have q188 : 0 < (t185.length : Int) := dt_; obtain ⟨ad188, e188, hx188_0⟩ := Kd.at_string (Kd.R_reads' HO187.out).2.2 0 p188 q188; cases e188; have qi188 : (0 < t185.length) = True := eq_true (by omega); (try rw [show ((0 : Int)).toNat = 0 from rfl] at hx188_0); (try rw [Addr.add_zero'] at hx188_0); replace p188 := eq_true p188; replace q188 := eq_true q188; obtain ⟨hcz24_0, hcz24_1⟩ := cz2_ BK179.out; obtain ⟨hfz24_0, hfz24_1⟩ := fz2_ BK179.out))
          refine bodyPost_ret (results_ct rfl _ _ gb179 97 #[.string (⟨#[]⟩ : ByteArray), .string (⟨#[]⟩ : ByteArray)] (0, 0) _ rfl (by (with_reducible repeat (first | refine blk_drewN ?_ _ | refine blk_drew ?_ | refine blk_alloc ?_ _)); refine blk_put (cs := #[.string (⟨#[]⟩ : ByteArray), .string (⟨#[]⟩ : ByteArray)]) ?_ 1 _ rfl; (with_reducible repeat (first | refine blk_drewN ?_ _ | refine blk_drew ?_ | refine blk_alloc ?_ _)); refine blk_put (cs := #[.string (⟨#[]⟩ : ByteArray), .string (⟨#[]⟩ : ByteArray)]) ?_ 0 _ rfl; (with_reducible repeat (first | refine blk_drewN ?_ _ | refine blk_drew ?_ | refine blk_alloc ?_ _)); exact BK179.out) Tryd.underlying97 rfl (by kernel_rfl)) rfl ?_; exact ⟨by first | rfl | (simp [errW_none, errW_some] <;> rfl) | (simp [*, errW_none, errW_some] <;> rfl) | (have hw_ : ∀ n : Nat, (n + 1 ≤ 9223372036854775807) → wrap64 ((n : Int) + 1) = (n : Int) + 1 := fun n hn => by unfold wrap64; omega); (rw [hw_ _ (by first | assumption | omega)]); rfl, lb1_ HB.out GE179.out⟩
         ·
          rw [if_neg c21] at H
          have c21b0 : (((rdOf ByteArray.empty t185 0).size : Int) == ((sx (rdOf ByteArray.empty t181 0) (((sc t180 (⟨#[32]⟩ : ByteArray)).size)) ((rdOf ByteArray.empty t181 0).size)).size : Int)) = false := beq_eq_false_iff_ne.mpr c21; have c21b1 : (((rdOf ByteArray.empty t185 0).size : Int) != ((sx (rdOf ByteArray.empty t181 0) (((sc t180 (⟨#[32]⟩ : ByteArray)).size)) ((rdOf ByteArray.empty t181 0).size)).size : Int)) = true := bne_iff_ne.mpr c21
          have c21b2 : ((rdOf ByteArray.empty t185 0).size == (sx (rdOf ByteArray.empty t181 0) (((sc t180 (⟨#[32]⟩ : ByteArray)).size)) ((rdOf ByteArray.empty t181 0).size)).size) = false := by first | simpa using c21 | (simp at c21 ⊢; omega)
          obtain ⟨ji25, hji25⟩ : ∃ j_ : Int, (wrap64 (((rdOf ByteArray.empty t185 0).size : Int) + 1)) = j_ := ⟨_, rfl⟩
          replace H : (if 0 ≤ (ji25) then (if (ji25) ≤ ((sx (rdOf ByteArray.empty t181 0) (((sc t180 (⟨#[32]⟩ : ByteArray)).size)) ((rdOf ByteArray.empty t181 0).size)).size : Int) then ((spec_l27Good.f kj6 (rdOf ByteArray.empty t185 0) (sx (sx (rdOf ByteArray.empty t181 0) (((sc t180 (⟨#[32]⟩ : ByteArray)).size)) ((rdOf ByteArray.empty t181 0).size)) (((ji25) : Int).toNat) ((sx (rdOf ByteArray.empty t181 0) (((sc t180 (⟨#[32]⟩ : ByteArray)).size)) ((rdOf ByteArray.empty t181 0).size)).size))).bind fun t190 => (if t190 = true then ((spec_l27Line.f kj6 a1 (rdOf ByteArray.empty t185 0) (sx (sx (rdOf ByteArray.empty t181 0) (((sc t180 (⟨#[32]⟩ : ByteArray)).size)) ((rdOf ByteArray.empty t181 0).size)) (((ji25) : Int).toNat) ((sx (rdOf ByteArray.empty t181 0) (((sc t180 (⟨#[32]⟩ : ByteArray)).size)) ((rdOf ByteArray.empty t181 0).size)).size))).bind fun t191 => (if a0.size + 1 ≤ 9223372036854775807 then (some (rdOf ByteArray.empty t185 0, sx (sx (rdOf ByteArray.empty t181 0) (((sc t180 (⟨#[32]⟩ : ByteArray)).size)) ((rdOf ByteArray.empty t181 0).size)) (((ji25) : Int).toNat) ((sx (rdOf ByteArray.empty t181 0) (((sc t180 (⟨#[32]⟩ : ByteArray)).size)) ((rdOf ByteArray.empty t181 0).size)).size), (t191.toList == (sc a0 (⟨#[10]⟩ : ByteArray)).toList))) else (none))) else (some (rdOf ByteArray.empty t185 0, sx (sx (rdOf ByteArray.empty t181 0) (((sc t180 (⟨#[32]⟩ : ByteArray)).size)) ((rdOf ByteArray.empty t181 0).size)) (((ji25) : Int).toNat) ((sx (rdOf ByteArray.empty t181 0) (((sc t180 (⟨#[32]⟩ : ByteArray)).size)) ((rdOf ByteArray.empty t181 0).size)).size), false)))) else (none)) else (none)) = some (r1, r2, r3) := by first | (rw [hji25] at H; exact H) | (simp only [hji25] at H ⊢; exact H)
          (try rw [hji25] at A19); have hji25w : (IntKind.i64.wrap (((rdOf ByteArray.empty t185 0).size : Int) + 1)) = ji25 := (i64_w _).trans hji25
          by_cases c26 : 0 ≤ (ji25)
          ·
           rw [if_pos c26] at H
           have c26b0 := eq_true c26; have c26b1 : decide (0 ≤ (ji25)) = true := decide_eq_true c26; clear c26
           by_cases c27 : (ji25) ≤ ((sx (rdOf ByteArray.empty t181 0) (((sc t180 (⟨#[32]⟩ : ByteArray)).size)) ((rdOf ByteArray.empty t181 0).size)).size : Int)
           ·
            rw [if_pos c27] at H
            have c27b0 := eq_true c27; have c27b1 : decide ((ji25) ≤ ((sx (rdOf ByteArray.empty t181 0) (((sc t180 (⟨#[32]⟩ : ByteArray)).size)) ((rdOf ByteArray.empty t181 0).size)).size : Int)) = true := decide_eq_true c27; clear c27; replace H := Option.bind_eq_some_iff.mp H; obtain ⟨t190, A280, H⟩ := H; replace H : (if t190 = true then ((spec_l27Line.f kj6 a1 (rdOf ByteArray.empty t185 0) (sx (sx (rdOf ByteArray.empty t181 0) (((sc t180 (⟨#[32]⟩ : ByteArray)).size)) ((rdOf ByteArray.empty t181 0).size)) (((ji25) : Int).toNat) ((sx (rdOf ByteArray.empty t181 0) (((sc t180 (⟨#[32]⟩ : ByteArray)).size)) ((rdOf ByteArray.empty t181 0).size)).size))).bind fun t191 => (if a0.size + 1 ≤ 9223372036854775807 then (some (rdOf ByteArray.empty t185 0, sx (sx (rdOf ByteArray.empty t181 0) (((sc t180 (⟨#[32]⟩ : ByteArray)).size)) ((rdOf ByteArray.empty t181 0).size)) (((ji25) : Int).toNat) ((sx (rdOf ByteArray.empty t181 0) (((sc t180 (⟨#[32]⟩ : ByteArray)).size)) ((rdOf ByteArray.empty t181 0).size)).size), (t191.toList == (sc a0 (⟨#[10]⟩ : ByteArray)).toList))) else (none))) else (some (rdOf ByteArray.empty t185 0, sx (sx (rdOf ByteArray.empty t181 0) (((sc t180 (⟨#[32]⟩ : ByteArray)).size)) ((rdOf ByteArray.empty t181 0).size)) (((ji25) : Int).toNat) ((sx (rdOf ByteArray.empty t181 0) (((sc t180 (⟨#[32]⟩ : ByteArray)).size)) ((rdOf ByteArray.empty t181 0).size)).size), false))) = some (r1, r2, r3) := H; have A28 := Aside0.mk A280; clear A280
            by_cases c29 : t190 = true
            ·
             subst c29
             have H1 : ((spec_l27Line.f kj6 a1 (rdOf ByteArray.empty t185 0) (sx (sx (rdOf ByteArray.empty t181 0) (((sc t180 (⟨#[32]⟩ : ByteArray)).size)) ((rdOf ByteArray.empty t181 0).size)) (((ji25) : Int).toNat) ((sx (rdOf ByteArray.empty t181 0) (((sc t180 (⟨#[32]⟩ : ByteArray)).size)) ((rdOf ByteArray.empty t181 0).size)).size))).bind fun t191 => (if a0.size + 1 ≤ 9223372036854775807 then (some (rdOf ByteArray.empty t185 0, sx (sx (rdOf ByteArray.empty t181 0) (((sc t180 (⟨#[32]⟩ : ByteArray)).size)) ((rdOf ByteArray.empty t181 0).size)) (((ji25) : Int).toNat) ((sx (rdOf ByteArray.empty t181 0) (((sc t180 (⟨#[32]⟩ : ByteArray)).size)) ((rdOf ByteArray.empty t181 0).size)).size), (t191.toList == (sc a0 (⟨#[10]⟩ : ByteArray)).toList))) else (none))) = some (r1, r2, r3) := by rw [if_pos rfl] at H; exact H
             clear H; have H := H1; clear H1; replace H := Option.bind_eq_some_iff.mp H; obtain ⟨t191, A300, H⟩ := H; replace H : (if a0.size + 1 ≤ 9223372036854775807 then (some (rdOf ByteArray.empty t185 0, sx (sx (rdOf ByteArray.empty t181 0) (((sc t180 (⟨#[32]⟩ : ByteArray)).size)) ((rdOf ByteArray.empty t181 0).size)) (((ji25) : Int).toNat) ((sx (rdOf ByteArray.empty t181 0) (((sc t180 (⟨#[32]⟩ : ByteArray)).size)) ((rdOf ByteArray.empty t181 0).size)).size), (t191.toList == (sc a0 (⟨#[10]⟩ : ByteArray)).toList))) else (none)) = some (r1, r2, r3) := H; have A30 := Aside0.mk A300; clear A300
             by_cases c31 : a0.size + 1 ≤ 9223372036854775807
             ·
              rw [if_pos c31] at H
              have c31b0 := eq_true c31; have c31b1 : decide (a0.size + 1 ≤ 9223372036854775807) = true := decide_eq_true c31
              try have c31b2 : (9223372036854775807 < a0.size + 1) = False := eq_false (Nat.not_lt.2 c31)
              simp only [Option.some.injEq, Prod.mk.injEq] at H; obtain ⟨rfl, rfl, rfl⟩ := H
              try go_wp2_with (first | ((with_reducible refine gate_callee (f := 58) rfl ?_); refine ga_ (some 37) Tryd.func58 #[.string (sx (rdOf ByteArray.empty t181 0) (((sc t180 (⟨#[32]⟩ : ByteArray)).size)) ((rdOf ByteArray.empty t181 0).size)), .int .u8 64] ?_; (with_reducible refine (spec_l1Split.calls kj6 (sx (rdOf ByteArray.empty t181 0) (((sc t180 (⟨#[32]⟩ : ByteArray)).size)) ((rdOf ByteArray.empty t181 0).size)) 64 t185 _ A19.out).mono ?_); rintro e w32 ⟨v186, rfl, ho0, hb⟩; refine ⟨_, rfl, ?_⟩; have HO187 := Aside0.mk (Kd.R_lower ho0 (below_size (lb1_ HB.out GE179.out))); replace BK179 := Aside0.mk (bb_ (bk_ BK179.out) hb); replace HB := Aside0.mk (below_step (lb1_ HB.out GE179.out) hb); (try clear hb); (try clear hb2); (try clear hk); (try clear hi); (try clear ho0); obtain ⟨Ao33, co33, eo33⟩ := Kd.R_slice HO187.out; subst eo33; have p188 : 0 ≤ (0 : Int) := (by omega); have q188 : 0 < (t185.length : Int) := dt_; obtain ⟨ad188, e188, hx188_0⟩ := Kd.at_string (Kd.R_reads' HO187.out).2.2 0 p188 q188; cases e188; have qi188 : (0 < t185.length) = True := eq_true (by omega); (try rw [show ((0 : Int)).toNat = 0 from rfl] at hx188_0); (try rw [Addr.add_zero'] at hx188_0); replace p188 := eq_true p188; replace q188 := eq_true q188) | ((with_reducible refine gate_dst (N := 10) rfl ?_); (try (refine gate_guard (by rfl) ?_; dsimp only)); refine box_event ?hg (N := 10) ?hd (cs := #[.string (⟨#[]⟩ : ByteArray), .string (⟨#[]⟩ : ByteArray)]) (t := 97) ?hr ?_; (case hd => rfl); (case hg => rfl); (case hr => first | (go_simp; done) | (go_simp; rfl)); intro gb189 hg w34 hbox hb; replace HO187 := Aside0.mk (Kd.R_below (kr_ HO187.out) hb); have BK189 := Aside0.mk (hbox); have GW189 := Aside0.mk ((bz_ hg (lb1_ HB.out GE179.out))); have GE189 := Aside0.mk ((bz_ hg (lb1_ HB.out GE179.out))); replace HB := Aside0.mk (below_step (lb1_ HB.out GE179.out) hb); have NB179_189 := Aside0.mk ((by rw [hg]; exact Nat.ne_of_lt (blk_lt (g := gb179) (o := .cells #[.string (⟨#[]⟩ : ByteArray), .string (⟨#[]⟩ : ByteArray)] 97 (0, 0)) (bk_ BK179.out)) : gb179 ≠ gb189)); have NB189_179 := Aside0.mk ((by rw [hg]; exact Nat.ne_of_gt (blk_lt (g := gb179) (o := .cells #[.string (⟨#[]⟩ : ByteArray), .string (⟨#[]⟩ : ByteArray)] 97 (0, 0)) (bk_ BK179.out)) : gb189 ≠ gb179)); replace BK179 := Aside0.mk (bb_ (bk_ BK179.out) hb); clear hb hbox hg; have hnb35 := NB189_179.out; have hnc35 := NB179_189.out; obtain ⟨hcz36_0, hcz36_1⟩ := cz2_ BK189.out; obtain ⟨hfz36_0, hfz36_1⟩ := fz2_ BK189.out))
              have n0_ : Aside0 (Kd.R Kd.string 9 ((w34.setCell ⟨gb189, 0, none⟩ (.string (rdOf ByteArray.empty t185 0))).setCell ⟨gb189, 1, none⟩ (.string (sx (sx (rdOf ByteArray.empty t181 0) (((sc t180 (⟨#[32]⟩ : ByteArray)).size)) ((rdOf ByteArray.empty t181 0).size)) (((ji25) : Int).toNat) ((sx (rdOf ByteArray.empty t181 0) (((sc t180 (⟨#[32]⟩ : ByteArray)).size)) ((rdOf ByteArray.empty t181 0).size)).size)))) w.heap.size (fun _ => True) (.slice (some ad188) t185.length co33) t185) := ⟨by (with_reducible repeat (first | apply Kd.R_alloc | apply Kd.R_drewN | apply Kd.R_drew)); exact Kd.R_mono (Kd.R_far (p := ⟨gb189, 1, none⟩) (Kd.R_far (p := ⟨gb189, 0, none⟩) (Kd.R_types HO187.out BK189.out (by decide)) (fun _ hk => hk.2) (.string (rdOf ByteArray.empty t185 0))) (fun _ hk => hk.2) (.string (sx (sx (rdOf ByteArray.empty t181 0) (((sc t180 (⟨#[32]⟩ : ByteArray)).size)) ((rdOf ByteArray.empty t181 0).size)) (((ji25) : Int).toNat) ((sx (rdOf ByteArray.empty t181 0) (((sc t180 (⟨#[32]⟩ : ByteArray)).size)) ((rdOf ByteArray.empty t181 0).size)).size)))) (fun _ hk => trivial)⟩
              have n1_ : Aside0 (((w34.setCell ⟨gb189, 0, none⟩ (.string (rdOf ByteArray.empty t185 0))).setCell ⟨gb189, 1, none⟩ (.string (sx (sx (rdOf ByteArray.empty t181 0) (((sc t180 (⟨#[32]⟩ : ByteArray)).size)) ((rdOf ByteArray.empty t181 0).size)) (((ji25) : Int).toNat) ((sx (rdOf ByteArray.empty t181 0) (((sc t180 (⟨#[32]⟩ : ByteArray)).size)) ((rdOf ByteArray.empty t181 0).size)).size)))).heap[gb179]? = some (.cells #[.string (⟨#[]⟩ : ByteArray), .string (⟨#[]⟩ : ByteArray)] 97 (0, 0))) := ⟨by (with_reducible repeat (first | refine blk_drewN ?_ _ | refine blk_drew ?_ | refine blk_alloc ?_ _)); refine blk_far ?_ NB179_189.out _; (with_reducible repeat (first | refine blk_drewN ?_ _ | refine blk_drew ?_ | refine blk_alloc ?_ _)); refine blk_far ?_ NB179_189.out _; (with_reducible repeat (first | refine blk_drewN ?_ _ | refine blk_drew ?_ | refine blk_alloc ?_ _)); exact BK179.out⟩
              have n2_ : Aside0 (((w34.setCell ⟨gb189, 0, none⟩ (.string (rdOf ByteArray.empty t185 0))).setCell ⟨gb189, 1, none⟩ (.string (sx (sx (rdOf ByteArray.empty t181 0) (((sc t180 (⟨#[32]⟩ : ByteArray)).size)) ((rdOf ByteArray.empty t181 0).size)) (((ji25) : Int).toNat) ((sx (rdOf ByteArray.empty t181 0) (((sc t180 (⟨#[32]⟩ : ByteArray)).size)) ((rdOf ByteArray.empty t181 0).size)).size)))).heap[gb189]? = some (.cells #[.string (rdOf ByteArray.empty t185 0), .string (sx (sx (rdOf ByteArray.empty t181 0) (((sc t180 (⟨#[32]⟩ : ByteArray)).size)) ((rdOf ByteArray.empty t181 0).size)) (((ji25) : Int).toNat) ((sx (rdOf ByteArray.empty t181 0) (((sc t180 (⟨#[32]⟩ : ByteArray)).size)) ((rdOf ByteArray.empty t181 0).size)).size))] 97 (0, 0))) := ⟨by (with_reducible repeat (first | refine blk_drewN ?_ _ | refine blk_drew ?_ | refine blk_alloc ?_ _)); refine blk_put (cs := #[.string (rdOf ByteArray.empty t185 0), .string (⟨#[]⟩ : ByteArray)]) ?_ 1 _ rfl; (with_reducible repeat (first | refine blk_drewN ?_ _ | refine blk_drew ?_ | refine blk_alloc ?_ _)); refine blk_put (cs := #[.string (⟨#[]⟩ : ByteArray), .string (⟨#[]⟩ : ByteArray)]) ?_ 0 _ rfl; (with_reducible repeat (first | refine blk_drewN ?_ _ | refine blk_drew ?_ | refine blk_alloc ?_ _)); exact BK189.out⟩
              have n3_ : Aside0 (Below w.heap.size w ((w34.setCell ⟨gb189, 0, none⟩ (.string (rdOf ByteArray.empty t185 0))).setCell ⟨gb189, 1, none⟩ (.string (sx (sx (rdOf ByteArray.empty t181 0) (((sc t180 (⟨#[32]⟩ : ByteArray)).size)) ((rdOf ByteArray.empty t181 0).size)) (((ji25) : Int).toNat) ((sx (rdOf ByteArray.empty t181 0) (((sc t180 (⟨#[32]⟩ : ByteArray)).size)) ((rdOf ByteArray.empty t181 0).size)).size))))) := ⟨lb2_ HB.out GE179.out GE189.out⟩
              (try clear HO187); (try clear BK179); (try clear BK189); (try clear HB); generalize ((w34.setCell ⟨gb189, 0, none⟩ (.string (rdOf ByteArray.empty t185 0))).setCell ⟨gb189, 1, none⟩ (.string (sx (sx (rdOf ByteArray.empty t181 0) (((sc t180 (⟨#[32]⟩ : ByteArray)).size)) ((rdOf ByteArray.empty t181 0).size)) (((ji25) : Int).toNat) ((sx (rdOf ByteArray.empty t181 0) (((sc t180 (⟨#[32]⟩ : ByteArray)).size)) ((rdOf ByteArray.empty t181 0).size)).size)))) = w37 at n0_ n1_ n2_ n3_ ⊢; have HO187 := n0_; have BK179 := n1_; have BK189 := n2_; have HB := n3_; clear n0_ n1_ n2_ n3_; replace HO187 := Aside0.mk (Kd.R_drew HO187.out); replace BK179 := Aside0.mk (blk_drew BK179.out); replace BK189 := Aside0.mk (blk_drew BK189.out); replace HB := Aside0.mk (below_drew1 HB.out); refine start_ (n := 13) (S := fun w' => w'.cell? ⟨gb189, 0, none⟩ = some (.string (rdOf ByteArray.empty t185 0)) ∧ w'.cell? ⟨gb189, 1, none⟩ = some (.string (sx (sx (rdOf ByteArray.empty t181 0) (((sc t180 (⟨#[32]⟩ : ByteArray)).size)) ((rdOf ByteArray.empty t181 0).size)) (((ji25) : Int).toNat) ((sx (rdOf ByteArray.empty t181 0) (((sc t180 (⟨#[32]⟩ : ByteArray)).size)) ((rdOf ByteArray.empty t181 0).size)).size)))) (ds := []) spec_l27Read.mk0 (by kernel_rfl) rfl rfl ⟨(blk_cell BK189.out 0).trans rfl, (blk_cell BK189.out 1).trans rfl⟩ (fun hHeld => ?_); refine with_tabW spec_l27Read.tab10 spec_l27Read.bits10 (fun HT_ HW_ => ?_); generalize w37.drew = w38 at HO187 BK179 BK189 HB hHeld ⊢; refine take_ (i := 0) (N := some 53) (v := ?_) (a' := ?_) spec_l27Read.mk1 rfl rfl (take_ofW HT_.out HW_.out (by kernel_rfl)) (fun _ _ _ h => h) (Or.inl ⟨by rfl, ?_⟩) hHeld ?_ ?_; rotate_left
              ·
               rintro w' ⟨s0, s1⟩; go_simp; (with_reducible rfl)
              rotate_left
              ·
               simp only [Act.put, List.setIfInBounds_toArray, List.set_cons_zero, List.set_cons_succ, i64_w, i32_w]; rfl
              refine take_ (i := 1) (N := some 54) (v := ?_) (a' := ?_) spec_l27Read.mk2 rfl rfl (take_ofW HT_.out HW_.out (by kernel_rfl)) (fun _ _ _ h => h) (Or.inl ⟨by rfl, ?_⟩) hHeld ?_ ?_; rotate_left
              ·
               rintro w' ⟨s0, s1⟩; go_simp; (with_reducible rfl)
              rotate_left
              ·
               simp only [Act.put, List.setIfInBounds_toArray, List.set_cons_zero, List.set_cons_succ, i64_w, i32_w]; rfl
              refine one_ (i := 2) (N := some 55) spec_l27Read.mk3 rfl rfl (one_of HT_.out (by kernel_rfl)) (by decide) (fun K hK => ?_); refine goes_ Tryd.func66 (by kernel_rfl) rfl #[.agg #[.string (rdOf ByteArray.empty t185 0), .string (sx (sx (rdOf ByteArray.empty t181 0) (((sc t180 (⟨#[32]⟩ : ByteArray)).size)) ((rdOf ByteArray.empty t181 0).size)) (((ji25) : Int).toNat) ((sx (rdOf ByteArray.empty t181 0) (((sc t180 (⟨#[32]⟩ : ByteArray)).size)) ((rdOf ByteArray.empty t181 0).size)).size))]] (by rfl) rfl rfl (by (try simp only [List.map_toArray, List.map_cons, List.map_nil]); first | done | (simp only [hji25]; rfl) | rfl | (simp only [List.length_drop, List.length_take]; rfl)) ?_; (with_reducible refine (spec_l27Good.calls kj6 (rdOf ByteArray.empty t185 0) (sx (sx (rdOf ByteArray.empty t181 0) (((sc t180 (⟨#[32]⟩ : ByteArray)).size)) ((rdOf ByteArray.empty t181 0).size)) (((ji25) : Int).toNat) ((sx (rdOf ByteArray.empty t181 0) (((sc t180 (⟨#[32]⟩ : ByteArray)).size)) ((rdOf ByteArray.empty t181 0).size)).size)) true _ A28.out).mono ?_); rintro e w39 ⟨rfl, hb⟩; refine ⟨_, rfl, ?_⟩; replace HO187 := Aside0.mk (Kd.R_below (kr_ HO187.out) hb); replace BK179 := Aside0.mk (bb_ (bk_ BK179.out) hb); replace BK189 := Aside0.mk (bb_ (bk_ BK189.out) hb); replace HB := Aside0.mk (below_step (lb2_ HB.out GE179.out GE189.out) hb); (try clear hb); (try clear hb2); (try clear hk); (try clear hi); refine hK.out _ _ ⟨(blk_cell BK189.out 0).trans rfl, (blk_cell BK189.out 1).trans rfl⟩ (fun hHeld => ?_); clear hK K; refine na_ ?_; refine pz_ HT_ 3 (some 56) spec_l27Read.mk4 ?_; refine pz_ HT_ 4 (some 57) spec_l27Read.mk5 ?_; refine pz_ HT_ 7 (some 60) spec_l27Read.mk6 ?_; refine pz_ HT_ 8 (some 61) spec_l27Read.mk7 ?_; refine take_ (i := 5) (N := some 58) (v := ?_) (a' := ?_) spec_l27Read.mk8 rfl rfl (take_ofW HT_.out HW_.out (by kernel_rfl)) (fun _ _ _ h => h) (Or.inl ⟨by rfl, ?_⟩) hHeld ?_ ?_; rotate_left
              ·
               rintro w' ⟨s0, s1⟩; go_simp; (with_reducible rfl)
              rotate_left
              ·
               simp only [Act.put, List.setIfInBounds_toArray, List.set_cons_zero, List.set_cons_succ, i64_w, i32_w]; rfl
              refine one_ (i := 6) (N := some 59) spec_l27Read.mk9 rfl rfl (one_of HT_.out (by kernel_rfl)) (by decide) (fun K hK => ?_); refine goes_ Tryd.func67 (by kernel_rfl) rfl #[.int .i64 a1, .agg #[.string (rdOf ByteArray.empty t185 0), .string (sx (sx (rdOf ByteArray.empty t181 0) (((sc t180 (⟨#[32]⟩ : ByteArray)).size)) ((rdOf ByteArray.empty t181 0).size)) (((ji25) : Int).toNat) ((sx (rdOf ByteArray.empty t181 0) (((sc t180 (⟨#[32]⟩ : ByteArray)).size)) ((rdOf ByteArray.empty t181 0).size)).size))]] (by rfl) rfl rfl (by (try simp only [List.map_toArray, List.map_cons, List.map_nil]); first | done | (simp only [hji25]; rfl) | rfl | (simp only [List.length_drop, List.length_take]; rfl)) ?_; (with_reducible refine (spec_l27Line.calls kj6 a1 (rdOf ByteArray.empty t185 0) (sx (sx (rdOf ByteArray.empty t181 0) (((sc t180 (⟨#[32]⟩ : ByteArray)).size)) ((rdOf ByteArray.empty t181 0).size)) (((ji25) : Int).toNat) ((sx (rdOf ByteArray.empty t181 0) (((sc t180 (⟨#[32]⟩ : ByteArray)).size)) ((rdOf ByteArray.empty t181 0).size)).size)) t191 _ A30.out).mono ?_); rintro e w40 ⟨rfl, hb⟩; refine ⟨_, rfl, ?_⟩; replace HO187 := Aside0.mk (Kd.R_below (kr_ HO187.out) hb); replace BK179 := Aside0.mk (bb_ (bk_ BK179.out) hb); replace BK189 := Aside0.mk (bb_ (bk_ BK189.out) hb); replace HB := Aside0.mk (below_step (lb2_ HB.out GE179.out GE189.out) hb); (try clear hb); (try clear hb2); (try clear hk); (try clear hi); refine hK.out _ _ ⟨(blk_cell BK189.out 0).trans rfl, (blk_cell BK189.out 1).trans rfl⟩ (fun hHeld => ?_); clear hK K; refine na_ ?_; refine pz_ HT_ 9 (some 62) spec_l27Read.mk10 ?_; refine pz_ HT_ 10 (some 63) spec_l27Read.mk11 ?_; refine one_ (i := 11) (N := none) spec_l27Read.mk12 rfl rfl (one_of HT_.out (by kernel_rfl)) (by decide) (fun K hK => ?_); have hs41 : w40.cell? ⟨gb179, 0, none⟩ = some (.string (⟨#[]⟩ : ByteArray)) := (blk_cell BK179.out 0).trans rfl; have hfs41 := blk_frozen BK179.out 0; have hns41_1 := NB189_179.out; have hms41_1 := NB179_189.out; have hs42 : w40.cell? ⟨gb179, 1, none⟩ = some (.string (⟨#[]⟩ : ByteArray)) := (blk_cell BK179.out 1).trans rfl; have hfs42 := blk_frozen BK179.out 1; have hns42_1 := NB189_179.out; have hms42_1 := NB179_189.out; refine skip_ (w1 := ?_) (by rfl) rfl ?_ ?_; rotate_left
              ·
               go_simp; rfl
              refine hK.out _ _ ⟨((cell_far (p := ⟨gb179, _, none⟩) NB189_179.out _).trans (((cell_far (p := ⟨gb179, _, none⟩) NB189_179.out _).trans (hHeld.1)))), ((cell_far (p := ⟨gb179, _, none⟩) NB189_179.out _).trans (((cell_far (p := ⟨gb179, _, none⟩) NB189_179.out _).trans (hHeld.2))))⟩ (fun hHeld => ?_); clear hK K; refine pz_ HT_ 12 (some 5) spec_l27Read.mk13 ?_; refine done_ (done_of HT_.out (by kernel_rfl)) ?_
              try go_wp2
              refine bodyPost_ret (results_ct rfl _ _ gb179 97 #[.string (rdOf ByteArray.empty t185 0), .string (sx (sx (rdOf ByteArray.empty t181 0) (((sc t180 (⟨#[32]⟩ : ByteArray)).size)) ((rdOf ByteArray.empty t181 0).size)) (((ji25) : Int).toNat) ((sx (rdOf ByteArray.empty t181 0) (((sc t180 (⟨#[32]⟩ : ByteArray)).size)) ((rdOf ByteArray.empty t181 0).size)).size))] (0, 0) _ rfl (by (with_reducible repeat (first | refine blk_drewN ?_ _ | refine blk_drew ?_ | refine blk_alloc ?_ _)); refine blk_put (cs := #[.string (rdOf ByteArray.empty t185 0), .string (⟨#[]⟩ : ByteArray)]) ?_ 1 _ rfl; (with_reducible repeat (first | refine blk_drewN ?_ _ | refine blk_drew ?_ | refine blk_alloc ?_ _)); refine blk_put (cs := #[.string (⟨#[]⟩ : ByteArray), .string (⟨#[]⟩ : ByteArray)]) ?_ 0 _ rfl; (with_reducible repeat (first | refine blk_drewN ?_ _ | refine blk_drew ?_ | refine blk_alloc ?_ _)); exact BK179.out) Tryd.underlying97 rfl (by kernel_rfl)) rfl ?_; exact ⟨by first | rfl | (simp [errW_none, errW_some] <;> rfl) | (simp only [← hji25]; first | rfl | (simp [errW_none, errW_some] <;> rfl)) | (simp [*, errW_none, errW_some] <;> rfl) | (have hw_ : ∀ n : Nat, (n + 1 ≤ 9223372036854775807) → wrap64 ((n : Int) + 1) = (n : Int) + 1 := fun n hn => by unfold wrap64; omega); (rw [hw_ _ (by first | assumption | omega)]); rfl, lb2_ HB.out GE179.out GE189.out⟩
             ·
              rw [if_neg c31] at H
              exact absurd H (by simp)
            ·
             replace c29 := Bool.eq_false_iff.mpr c29; subst c29
             have H1 : (some (rdOf ByteArray.empty t185 0, sx (sx (rdOf ByteArray.empty t181 0) (((sc t180 (⟨#[32]⟩ : ByteArray)).size)) ((rdOf ByteArray.empty t181 0).size)) (((ji25) : Int).toNat) ((sx (rdOf ByteArray.empty t181 0) (((sc t180 (⟨#[32]⟩ : ByteArray)).size)) ((rdOf ByteArray.empty t181 0).size)).size), false)) = some (r1, r2, r3) := by rw [if_neg (show ¬ (false = true) by decide)] at H; exact H
             clear H; have H := H1; clear H1; simp only [Option.some.injEq, Prod.mk.injEq] at H; obtain ⟨rfl, rfl, rfl⟩ := H
             try go_wp2_with (first | ((with_reducible refine gate_callee (f := 58) rfl ?_); refine ga_ (some 37) Tryd.func58 #[.string (sx (rdOf ByteArray.empty t181 0) (((sc t180 (⟨#[32]⟩ : ByteArray)).size)) ((rdOf ByteArray.empty t181 0).size)), .int .u8 64] ?_; (with_reducible refine (spec_l1Split.calls kj6 (sx (rdOf ByteArray.empty t181 0) (((sc t180 (⟨#[32]⟩ : ByteArray)).size)) ((rdOf ByteArray.empty t181 0).size)) 64 t185 _ A19.out).mono ?_); rintro e w43 ⟨v186, rfl, ho0, hb⟩; refine ⟨_, rfl, ?_⟩; have HO187 := Aside0.mk (Kd.R_lower ho0 (below_size (lb1_ HB.out GE179.out))); replace BK179 := Aside0.mk (bb_ (bk_ BK179.out) hb); replace HB := Aside0.mk (below_step (lb1_ HB.out GE179.out) hb); (try clear hb); (try clear hb2); (try clear hk); (try clear hi); (try clear ho0); obtain ⟨Ao44, co44, eo44⟩ := Kd.R_slice HO187.out; subst eo44; have p188 : 0 ≤ (0 : Int) := (by omega); have q188 : 0 < (t185.length : Int) := dt_; obtain ⟨ad188, e188, hx188_0⟩ := Kd.at_string (Kd.R_reads' HO187.out).2.2 0 p188 q188; cases e188; have qi188 : (0 < t185.length) = True := eq_true (by omega); (try rw [show ((0 : Int)).toNat = 0 from rfl] at hx188_0); (try rw [Addr.add_zero'] at hx188_0); replace p188 := eq_true p188; replace q188 := eq_true q188) | ((with_reducible refine gate_dst (N := 10) rfl ?_); (try (refine gate_guard (by rfl) ?_; dsimp only)); refine box_event ?hg (N := 10) ?hd (cs := #[.string (⟨#[]⟩ : ByteArray), .string (⟨#[]⟩ : ByteArray)]) (t := 97) ?hr ?_; (case hd => rfl); (case hg => rfl); (case hr => first | (go_simp; done) | (go_simp; rfl)); intro gb189 hg w45 hbox hb; replace HO187 := Aside0.mk (Kd.R_below (kr_ HO187.out) hb); have BK189 := Aside0.mk (hbox); have GW189 := Aside0.mk ((bz_ hg (lb1_ HB.out GE179.out))); have GE189 := Aside0.mk ((bz_ hg (lb1_ HB.out GE179.out))); replace HB := Aside0.mk (below_step (lb1_ HB.out GE179.out) hb); have NB179_189 := Aside0.mk ((by rw [hg]; exact Nat.ne_of_lt (blk_lt (g := gb179) (o := .cells #[.string (⟨#[]⟩ : ByteArray), .string (⟨#[]⟩ : ByteArray)] 97 (0, 0)) (bk_ BK179.out)) : gb179 ≠ gb189)); have NB189_179 := Aside0.mk ((by rw [hg]; exact Nat.ne_of_gt (blk_lt (g := gb179) (o := .cells #[.string (⟨#[]⟩ : ByteArray), .string (⟨#[]⟩ : ByteArray)] 97 (0, 0)) (bk_ BK179.out)) : gb189 ≠ gb179)); replace BK179 := Aside0.mk (bb_ (bk_ BK179.out) hb); clear hb hbox hg; have hnb46 := NB189_179.out; have hnc46 := NB179_189.out; obtain ⟨hcz47_0, hcz47_1⟩ := cz2_ BK189.out; obtain ⟨hfz47_0, hfz47_1⟩ := fz2_ BK189.out))
             have n0_ : Aside0 (Kd.R Kd.string 9 ((w45.setCell ⟨gb189, 0, none⟩ (.string (rdOf ByteArray.empty t185 0))).setCell ⟨gb189, 1, none⟩ (.string (sx (sx (rdOf ByteArray.empty t181 0) (((sc t180 (⟨#[32]⟩ : ByteArray)).size)) ((rdOf ByteArray.empty t181 0).size)) (((ji25) : Int).toNat) ((sx (rdOf ByteArray.empty t181 0) (((sc t180 (⟨#[32]⟩ : ByteArray)).size)) ((rdOf ByteArray.empty t181 0).size)).size)))) w.heap.size (fun _ => True) (.slice (some ad188) t185.length co44) t185) := ⟨by (with_reducible repeat (first | apply Kd.R_alloc | apply Kd.R_drewN | apply Kd.R_drew)); exact Kd.R_mono (Kd.R_far (p := ⟨gb189, 1, none⟩) (Kd.R_far (p := ⟨gb189, 0, none⟩) (Kd.R_types HO187.out BK189.out (by decide)) (fun _ hk => hk.2) (.string (rdOf ByteArray.empty t185 0))) (fun _ hk => hk.2) (.string (sx (sx (rdOf ByteArray.empty t181 0) (((sc t180 (⟨#[32]⟩ : ByteArray)).size)) ((rdOf ByteArray.empty t181 0).size)) (((ji25) : Int).toNat) ((sx (rdOf ByteArray.empty t181 0) (((sc t180 (⟨#[32]⟩ : ByteArray)).size)) ((rdOf ByteArray.empty t181 0).size)).size)))) (fun _ hk => trivial)⟩
             have n1_ : Aside0 (((w45.setCell ⟨gb189, 0, none⟩ (.string (rdOf ByteArray.empty t185 0))).setCell ⟨gb189, 1, none⟩ (.string (sx (sx (rdOf ByteArray.empty t181 0) (((sc t180 (⟨#[32]⟩ : ByteArray)).size)) ((rdOf ByteArray.empty t181 0).size)) (((ji25) : Int).toNat) ((sx (rdOf ByteArray.empty t181 0) (((sc t180 (⟨#[32]⟩ : ByteArray)).size)) ((rdOf ByteArray.empty t181 0).size)).size)))).heap[gb179]? = some (.cells #[.string (⟨#[]⟩ : ByteArray), .string (⟨#[]⟩ : ByteArray)] 97 (0, 0))) := ⟨by (with_reducible repeat (first | refine blk_drewN ?_ _ | refine blk_drew ?_ | refine blk_alloc ?_ _)); refine blk_far ?_ NB179_189.out _; (with_reducible repeat (first | refine blk_drewN ?_ _ | refine blk_drew ?_ | refine blk_alloc ?_ _)); refine blk_far ?_ NB179_189.out _; (with_reducible repeat (first | refine blk_drewN ?_ _ | refine blk_drew ?_ | refine blk_alloc ?_ _)); exact BK179.out⟩
             have n2_ : Aside0 (((w45.setCell ⟨gb189, 0, none⟩ (.string (rdOf ByteArray.empty t185 0))).setCell ⟨gb189, 1, none⟩ (.string (sx (sx (rdOf ByteArray.empty t181 0) (((sc t180 (⟨#[32]⟩ : ByteArray)).size)) ((rdOf ByteArray.empty t181 0).size)) (((ji25) : Int).toNat) ((sx (rdOf ByteArray.empty t181 0) (((sc t180 (⟨#[32]⟩ : ByteArray)).size)) ((rdOf ByteArray.empty t181 0).size)).size)))).heap[gb189]? = some (.cells #[.string (rdOf ByteArray.empty t185 0), .string (sx (sx (rdOf ByteArray.empty t181 0) (((sc t180 (⟨#[32]⟩ : ByteArray)).size)) ((rdOf ByteArray.empty t181 0).size)) (((ji25) : Int).toNat) ((sx (rdOf ByteArray.empty t181 0) (((sc t180 (⟨#[32]⟩ : ByteArray)).size)) ((rdOf ByteArray.empty t181 0).size)).size))] 97 (0, 0))) := ⟨by (with_reducible repeat (first | refine blk_drewN ?_ _ | refine blk_drew ?_ | refine blk_alloc ?_ _)); refine blk_put (cs := #[.string (rdOf ByteArray.empty t185 0), .string (⟨#[]⟩ : ByteArray)]) ?_ 1 _ rfl; (with_reducible repeat (first | refine blk_drewN ?_ _ | refine blk_drew ?_ | refine blk_alloc ?_ _)); refine blk_put (cs := #[.string (⟨#[]⟩ : ByteArray), .string (⟨#[]⟩ : ByteArray)]) ?_ 0 _ rfl; (with_reducible repeat (first | refine blk_drewN ?_ _ | refine blk_drew ?_ | refine blk_alloc ?_ _)); exact BK189.out⟩
             have n3_ : Aside0 (Below w.heap.size w ((w45.setCell ⟨gb189, 0, none⟩ (.string (rdOf ByteArray.empty t185 0))).setCell ⟨gb189, 1, none⟩ (.string (sx (sx (rdOf ByteArray.empty t181 0) (((sc t180 (⟨#[32]⟩ : ByteArray)).size)) ((rdOf ByteArray.empty t181 0).size)) (((ji25) : Int).toNat) ((sx (rdOf ByteArray.empty t181 0) (((sc t180 (⟨#[32]⟩ : ByteArray)).size)) ((rdOf ByteArray.empty t181 0).size)).size))))) := ⟨lb2_ HB.out GE179.out GE189.out⟩
             (try clear HO187); (try clear BK179); (try clear BK189); (try clear HB); generalize ((w45.setCell ⟨gb189, 0, none⟩ (.string (rdOf ByteArray.empty t185 0))).setCell ⟨gb189, 1, none⟩ (.string (sx (sx (rdOf ByteArray.empty t181 0) (((sc t180 (⟨#[32]⟩ : ByteArray)).size)) ((rdOf ByteArray.empty t181 0).size)) (((ji25) : Int).toNat) ((sx (rdOf ByteArray.empty t181 0) (((sc t180 (⟨#[32]⟩ : ByteArray)).size)) ((rdOf ByteArray.empty t181 0).size)).size)))) = w48 at n0_ n1_ n2_ n3_ ⊢; have HO187 := n0_; have BK179 := n1_; have BK189 := n2_; have HB := n3_; clear n0_ n1_ n2_ n3_; replace HO187 := Aside0.mk (Kd.R_drew HO187.out); replace BK179 := Aside0.mk (blk_drew BK179.out); replace BK189 := Aside0.mk (blk_drew BK189.out); replace HB := Aside0.mk (below_drew1 HB.out); refine start_ (n := 13) (S := fun w' => w'.cell? ⟨gb189, 0, none⟩ = some (.string (rdOf ByteArray.empty t185 0)) ∧ w'.cell? ⟨gb189, 1, none⟩ = some (.string (sx (sx (rdOf ByteArray.empty t181 0) (((sc t180 (⟨#[32]⟩ : ByteArray)).size)) ((rdOf ByteArray.empty t181 0).size)) (((ji25) : Int).toNat) ((sx (rdOf ByteArray.empty t181 0) (((sc t180 (⟨#[32]⟩ : ByteArray)).size)) ((rdOf ByteArray.empty t181 0).size)).size)))) (ds := []) spec_l27Read.mk0 (by kernel_rfl) rfl rfl ⟨(blk_cell BK189.out 0).trans rfl, (blk_cell BK189.out 1).trans rfl⟩ (fun hHeld => ?_); refine with_tabW spec_l27Read.tab10 spec_l27Read.bits10 (fun HT_ HW_ => ?_); generalize w48.drew = w49 at HO187 BK179 BK189 HB hHeld ⊢; refine take_ (i := 0) (N := some 53) (v := ?_) (a' := ?_) spec_l27Read.mk1 rfl rfl (take_ofW HT_.out HW_.out (by kernel_rfl)) (fun _ _ _ h => h) (Or.inl ⟨by rfl, ?_⟩) hHeld ?_ ?_; rotate_left
             ·
              rintro w' ⟨s0, s1⟩; go_simp; (with_reducible rfl)
             rotate_left
             ·
              simp only [Act.put, List.setIfInBounds_toArray, List.set_cons_zero, List.set_cons_succ, i64_w, i32_w]; rfl
             refine take_ (i := 1) (N := some 54) (v := ?_) (a' := ?_) spec_l27Read.mk2 rfl rfl (take_ofW HT_.out HW_.out (by kernel_rfl)) (fun _ _ _ h => h) (Or.inl ⟨by rfl, ?_⟩) hHeld ?_ ?_; rotate_left
             ·
              rintro w' ⟨s0, s1⟩; go_simp; (with_reducible rfl)
             rotate_left
             ·
              simp only [Act.put, List.setIfInBounds_toArray, List.set_cons_zero, List.set_cons_succ, i64_w, i32_w]; rfl
             refine one_ (i := 2) (N := some 55) spec_l27Read.mk3 rfl rfl (one_of HT_.out (by kernel_rfl)) (by decide) (fun K hK => ?_); refine goes_ Tryd.func66 (by kernel_rfl) rfl #[.agg #[.string (rdOf ByteArray.empty t185 0), .string (sx (sx (rdOf ByteArray.empty t181 0) (((sc t180 (⟨#[32]⟩ : ByteArray)).size)) ((rdOf ByteArray.empty t181 0).size)) (((ji25) : Int).toNat) ((sx (rdOf ByteArray.empty t181 0) (((sc t180 (⟨#[32]⟩ : ByteArray)).size)) ((rdOf ByteArray.empty t181 0).size)).size))]] (by rfl) rfl rfl (by (try simp only [List.map_toArray, List.map_cons, List.map_nil]); first | done | (simp only [hji25]; rfl) | rfl | (simp only [List.length_drop, List.length_take]; rfl)) ?_; (with_reducible refine (spec_l27Good.calls kj6 (rdOf ByteArray.empty t185 0) (sx (sx (rdOf ByteArray.empty t181 0) (((sc t180 (⟨#[32]⟩ : ByteArray)).size)) ((rdOf ByteArray.empty t181 0).size)) (((ji25) : Int).toNat) ((sx (rdOf ByteArray.empty t181 0) (((sc t180 (⟨#[32]⟩ : ByteArray)).size)) ((rdOf ByteArray.empty t181 0).size)).size)) false _ A28.out).mono ?_); rintro e w50 ⟨rfl, hb⟩; refine ⟨_, rfl, ?_⟩; replace HO187 := Aside0.mk (Kd.R_below (kr_ HO187.out) hb); replace BK179 := Aside0.mk (bb_ (bk_ BK179.out) hb); replace BK189 := Aside0.mk (bb_ (bk_ BK189.out) hb); replace HB := Aside0.mk (below_step (lb2_ HB.out GE179.out GE189.out) hb); (try clear hb); (try clear hb2); (try clear hk); (try clear hi); refine hK.out _ _ ⟨(blk_cell BK189.out 0).trans rfl, (blk_cell BK189.out 1).trans rfl⟩ (fun hHeld => ?_); clear hK K; refine na_ ?_; refine pz_ HT_ 3 (some 56) spec_l27Read.mk4 ?_; refine pure_ (i := 4) (N := some 57) (v := undef) (a' := ?_) spec_l27Read.mk5 rfl rfl (any_of HT_.out (by kernel_rfl)) (fun _ _ _ h => h) (Or.inr ⟨by rfl, rfl⟩) ?_ ?_; rotate_left
             ·
              simp only [Act.put, List.setIfInBounds_toArray, List.set_cons_zero, List.set_cons_succ, i64_w, i32_w]; rfl
             refine pure_ (i := 5) (N := some 58) (v := undef) (a' := ?_) spec_l27Read.mk14 rfl rfl (any_of HT_.out (by kernel_rfl)) (fun _ _ _ h => h) (Or.inr ⟨by rfl, rfl⟩) ?_ ?_; rotate_left
             ·
              simp only [Act.put, List.setIfInBounds_toArray, List.set_cons_zero, List.set_cons_succ, i64_w, i32_w]; rfl
             refine pure_ (i := 6) (N := some 59) (v := undef) (a' := ?_) spec_l27Read.mk15 rfl rfl (any_of HT_.out (by kernel_rfl)) (fun _ _ _ h => h) (Or.inr ⟨by rfl, rfl⟩) ?_ ?_; rotate_left
             ·
              simp only [Act.put, List.setIfInBounds_toArray, List.set_cons_zero, List.set_cons_succ, i64_w, i32_w]; rfl
             refine pure_ (i := 7) (N := some 60) (v := undef) (a' := ?_) spec_l27Read.mk16 rfl rfl (any_of HT_.out (by kernel_rfl)) (fun _ _ _ h => h) (Or.inr ⟨by rfl, rfl⟩) ?_ ?_; rotate_left
             ·
              simp only [Act.put, List.setIfInBounds_toArray, List.set_cons_zero, List.set_cons_succ, i64_w, i32_w]; rfl
             refine pure_ (i := 8) (N := some 61) (v := undef) (a' := ?_) spec_l27Read.mk9 rfl rfl (any_of HT_.out (by kernel_rfl)) (fun _ _ _ h => h) (Or.inr ⟨by rfl, rfl⟩) ?_ ?_; rotate_left
             ·
              simp only [Act.put, List.setIfInBounds_toArray, List.set_cons_zero, List.set_cons_succ, i64_w, i32_w]; rfl
             refine pure_ (i := 9) (N := some 62) (v := undef) (a' := ?_) spec_l27Read.mk10 rfl rfl (any_of HT_.out (by kernel_rfl)) (fun _ _ _ h => h) (Or.inr ⟨by rfl, rfl⟩) ?_ ?_; rotate_left
             ·
              simp only [Act.put, List.setIfInBounds_toArray, List.set_cons_zero, List.set_cons_succ, i64_w, i32_w]; rfl
             refine pz_ HT_ 10 (some 63) spec_l27Read.mk11 ?_; refine one_ (i := 11) (N := none) spec_l27Read.mk12 rfl rfl (one_of HT_.out (by kernel_rfl)) (by decide) (fun K hK => ?_); have hs51 : w50.cell? ⟨gb179, 0, none⟩ = some (.string (⟨#[]⟩ : ByteArray)) := (blk_cell BK179.out 0).trans rfl; have hfs51 := blk_frozen BK179.out 0; have hns51_1 := NB189_179.out; have hms51_1 := NB179_189.out; have hs52 : w50.cell? ⟨gb179, 1, none⟩ = some (.string (⟨#[]⟩ : ByteArray)) := (blk_cell BK179.out 1).trans rfl; have hfs52 := blk_frozen BK179.out 1; have hns52_1 := NB189_179.out; have hms52_1 := NB179_189.out; refine skip_ (w1 := ?_) (by rfl) rfl ?_ ?_; rotate_left
             ·
              go_simp; rfl
             refine hK.out _ _ ⟨((cell_far (p := ⟨gb179, _, none⟩) NB189_179.out _).trans (((cell_far (p := ⟨gb179, _, none⟩) NB189_179.out _).trans (hHeld.1)))), ((cell_far (p := ⟨gb179, _, none⟩) NB189_179.out _).trans (((cell_far (p := ⟨gb179, _, none⟩) NB189_179.out _).trans (hHeld.2))))⟩ (fun hHeld => ?_); clear hK K; refine pz_ HT_ 12 (some 5) spec_l27Read.mk13 ?_; refine done_ (done_of HT_.out (by kernel_rfl)) ?_
             try go_wp2
             refine bodyPost_ret (results_ct rfl _ _ gb179 97 #[.string (rdOf ByteArray.empty t185 0), .string (sx (sx (rdOf ByteArray.empty t181 0) (((sc t180 (⟨#[32]⟩ : ByteArray)).size)) ((rdOf ByteArray.empty t181 0).size)) (((ji25) : Int).toNat) ((sx (rdOf ByteArray.empty t181 0) (((sc t180 (⟨#[32]⟩ : ByteArray)).size)) ((rdOf ByteArray.empty t181 0).size)).size))] (0, 0) _ rfl (by (with_reducible repeat (first | refine blk_drewN ?_ _ | refine blk_drew ?_ | refine blk_alloc ?_ _)); refine blk_put (cs := #[.string (rdOf ByteArray.empty t185 0), .string (⟨#[]⟩ : ByteArray)]) ?_ 1 _ rfl; (with_reducible repeat (first | refine blk_drewN ?_ _ | refine blk_drew ?_ | refine blk_alloc ?_ _)); refine blk_put (cs := #[.string (⟨#[]⟩ : ByteArray), .string (⟨#[]⟩ : ByteArray)]) ?_ 0 _ rfl; (with_reducible repeat (first | refine blk_drewN ?_ _ | refine blk_drew ?_ | refine blk_alloc ?_ _)); exact BK179.out) Tryd.underlying97 rfl (by kernel_rfl)) rfl ?_; exact ⟨by first | rfl | (simp [errW_none, errW_some] <;> rfl) | (simp only [← hji25]; first | rfl | (simp [errW_none, errW_some] <;> rfl)) | (simp [*, errW_none, errW_some] <;> rfl) | (have hw_ : ∀ n : Nat, (n + 1 ≤ 9223372036854775807) → wrap64 ((n : Int) + 1) = (n : Int) + 1 := fun n hn => by unfold wrap64; omega); (rw [hw_ _ (by first | assumption | omega)]); rfl, lb2_ HB.out GE179.out GE189.out⟩
           ·
            rw [if_neg c27] at H
            exact absurd H (by simp)
          ·
           rw [if_neg c26] at H
           exact absurd H (by simp)
        ·
         rw [if_neg c20] at H
         exact absurd H (by simp)
       ·
        rw [if_neg c18] at H
        exact absurd H (by simp)
      ·
       rw [if_neg c17] at H
       exact absurd H (by simp)
  ·
   rw [if_neg c6] at H
   exact absurd H (by simp)
 ·
  rw [if_neg c4] at H
  exact absurd H (by simp)
mutual
def spec_l27Open.l0 : Nat → ByteArray → List (S97) → Int → Option ((List (S97)) × Int)
 | 0, _, _, _ => none
 | k + 1, x0, x4, x5 => if x5 < (x0.size : Int) then (spec_l27Open.j1 k x0 x4 x5 (decide ((x4.length : Int) < 60))) else (spec_l27Open.j1 k x0 x4 x5 false)
def spec_l27Open.j1 : Nat → ByteArray → List (S97) → Int → Bool → Option ((List (S97)) × Int)
 | 0, _, _, _, _ => none
 | k + 1, x0, x4, x5, x18 => if x18 = true then (if 0 ≤ x5 then (if x5 ≤ (x0.size : Int) then ((spec_l1Split.f k (sx x0 ((x5 : Int).toNat) (x0.size)) 10).bind fun t195 => (if 0 < (t195.length : Int) then ((spec_l27Read.f k (rdOf ByteArray.empty t195 0) (x4.length : Int)).bind fun bt199 => (if (t195.length : Int) < 2 then (some (x4, x5)) else (if bt199.2.2 = true then (if x4.length < 4398046511104 then (spec_l27Open.l0 k x0 (x4 ++ [(⟨bt199.1, bt199.2.1⟩ : S97)]) (wrap64 ((wrap64 (x5 + ((rdOf ByteArray.empty t195 0).size : Int))) + 1))) else (none)) else (some (x4, x5))))) else (none))) else (none)) else (none)) else (some (x4, x5))
end
def spec_l27Open.f (k : Nat) (a0 : ByteArray) : Option ((List (S97)) × Int) := spec_l27Open.l0 k a0 (([] : List (S97))) 0
theorem spec_l27Open.calls (k : Nat) (a0 : ByteArray) (r1 : List (S97)) (r2 : Int) (w : World) (h : spec_l27Open.f k a0 = some (r1, r2)) :
  Calls Tryd.prog 48 #[.string a0] w fun e w' => ∃ v0_ : Value, e = .returned (.tuple #[v0_, .int .i64 r2]) ∧ Kd.R k97 97 w' w.heap.size (fun _ => True) v0_ r1 ∧ Below w.heap.size w w' := by
 have hu97 := Tryd.underlying97
 have HB := Aside0.mk (Below.refl w.heap.size w)
 have H : (spec_l27Open.l0 k a0 (([] : List (S97))) 0) = some (r1, r2) := h
 clear h
 obtain ⟨y192, hy192⟩ : ∃ y_ : List (S97), y_ = (([] : List (S97))) := ⟨_, rfl⟩
 replace H : (spec_l27Open.l0 k a0 y192 0) = some (r1, r2) := by first | (rw [hy192]; with_reducible exact H) | (have H2_ := (Option.bind_some _ _).symm.trans H; rw [hy192]; with_reducible exact H2_) | (have H2_ := (Option.bind_some _ _).symm.trans H; with_reducible exact H2_) | with_reducible exact H | (rw [hy192]; exact H) | exact H
 have Ny192 := Aside0.mk hy192
 clear hy192
 have H' := Aside0.mk H
 clear H
 go_enter Tryd.func48, Tryd.ntmps48
 go_wp2_with (first | ((with_reducible refine gate_dst (N := 9) rfl ?_); (try (refine gate_guard (by rfl) ?_; dsimp only)); refine Kd.R_lit k97 _ 97 ?hg (N := 9) ?hd (xs := ([] : List (S97))) (inner := []) (ok := fun _ => True) (okp := fun _ => True) ?hr ?hp (fun _ hk => hk) trivial (Below.refl _ _) (Nat.le_refl _) (by simp) ?_; (case hd => rfl); (case hg => rfl); (case hr => first | (go_simp; done) | (go_simp; rfl)); (case hp => exact (Reps.none _ _)); intro v193 w2 ho3 hb hg_ hnew_; clear hg_ hnew_; replace ho3 := ry_ Ny192.out ho3; have HO194 := Aside0.mk (Kd.R_lower ho3 (below_size (lb0_ HB.out))); replace HB := Aside0.mk (below_step (lb0_ HB.out) hb); clear hb ho3))
 go_loopg [4, 5] k (fun kq v4 v5 w' => ∃ (x4_1 : List (S97)) (x5_1 : Int), v5 = .int .i64 x5_1 ∧ Aside0 (spec_l27Open.l0 kq a0 x4_1 x5_1 = some (r1, r2)) ∧ Aside0 (kq ≤ k) ∧ Aside0 (Kd.R k97 97 w' w.heap.size (fun _ => True) v4 x4_1) ∧ Aside0 (Below w.heap.size w w'))
 case atStart => exact ⟨(y192), (0), (by first | rfl | (simp; done) | (simp [*]; done)), H', ⟨Nat.le_refl _⟩, ⟨kr_ HO194.out⟩, ⟨lb0_ HB.out⟩⟩
 case round =>
  clear H'
  try clear p2
  obtain ⟨x4_1, x5_1, rfl, HA, HK1, HO_4, HB⟩ := hrel
  cases gk with
  | zero => exact absurd HA.out (by simp [spec_l27Open.l0])
  | succ k1 =>
   have H := HA.out
   clear HA
   simp only [spec_l27Open.l0] at H
   have HC4 := Aside0.mk H
   clear H
   go_upto_region 3 with (fail)
   go_cut [18] (fun v18 wc => ∃ (kq : Nat) (x18_3 : Bool), v18 = .bool x18_3 ∧ Aside0 (spec_l27Open.j1 kq a0 x4_1 x5_1 x18_3 = some (r1, r2)) ∧ Aside0 (kq ≤ k1) ∧ Aside0 (Kd.R k97 97 wc w.heap.size (fun _ => True) u4 x4_1) ∧ Aside0 (Below w.heap.size w wc))
   case first =>
    have H := HC4.out
    clear HC4
    by_cases c5 : x5_1 < (a0.size : Int)
    ·
     rw [if_pos c5] at H
     have c5b0 : decide (x5_1 < (a0.size : Int)) = true := decide_eq_true c5
     clear c5
     (first | rw [c5b0] | (simp only [i64_w, i32_w]; rw [c5b0]) | skip)
     have H' := Aside0.mk H
     clear H
     obtain ⟨Ao6, co6, eo6⟩ := Kd.R_slice HO_4.out
     subst eo6
     go_wp2
     go_meet
     case rel => exact ⟨_, (decide ((x4_1.length : Int) < 60)), (by first | rfl | (simp; done) | (simp [*]; done)), H', ⟨by have := HK1.out; first | omega | exact Nat.le_refl _⟩, ⟨kr_ HO_4.out⟩, ⟨lb0_ HB.out⟩⟩
    ·
     rw [if_neg c5] at H
     have c5b0 : decide (x5_1 < (a0.size : Int)) = false := decide_eq_false c5
     clear c5
     (first | rw [c5b0] | (simp only [i64_w, i32_w]; rw [c5b0]) | skip)
     have H' := Aside0.mk H
     clear H
     go_wp2
     go_meet
     case rel => exact ⟨_, (false), (by first | rfl | (simp; done) | (simp [*]; done)), H', ⟨by have := HK1.out; first | omega | exact Nat.le_refl _⟩, ⟨kr_ HO_4.out⟩, ⟨lb0_ HB.out⟩⟩
   case rest =>
    clear HC4
    try clear p2
    try clear c4
    try clear c5
    try clear c5b0
    try clear p2
    obtain ⟨kq, x18_3, rfl, HA, HJ3, HO_4, HB⟩ := hcut
    cases kq with
    | zero => exact absurd HA.out (by simp [spec_l27Open.j1])
    | succ kj3 =>
     have H := HA.out
     clear HA
     simp only [spec_l27Open.j1] at H
     by_cases c7 : x18_3 = true
     ·
      subst c7
      have H1 : (if 0 ≤ x5_1 then (if x5_1 ≤ (a0.size : Int) then ((spec_l1Split.f kj3 (sx a0 ((x5_1 : Int).toNat) (a0.size)) 10).bind fun t195 => (if 0 < (t195.length : Int) then ((spec_l27Read.f kj3 (rdOf ByteArray.empty t195 0) (x4_1.length : Int)).bind fun bt199 => (if (t195.length : Int) < 2 then (some (x4_1, x5_1)) else (if bt199.2.2 = true then (if x4_1.length < 4398046511104 then (spec_l27Open.l0 kj3 a0 (x4_1 ++ [(⟨bt199.1, bt199.2.1⟩ : S97)]) (wrap64 ((wrap64 (x5_1 + ((rdOf ByteArray.empty t195 0).size : Int))) + 1))) else (none)) else (some (x4_1, x5_1))))) else (none))) else (none)) else (none)) = some (r1, r2) := by rw [if_pos rfl] at H; exact H
      clear H
      have H := H1
      clear H1
      by_cases c8 : 0 ≤ x5_1
      ·
       rw [if_pos c8] at H
       have c8b0 := eq_true c8
       have c8b1 : decide (0 ≤ x5_1) = true := decide_eq_true c8
       clear c8
       by_cases c9 : x5_1 ≤ (a0.size : Int)
       ·
        rw [if_pos c9] at H
        have c9b0 := eq_true c9; have c9b1 : decide (x5_1 ≤ (a0.size : Int)) = true := decide_eq_true c9; clear c9; replace H := Option.bind_eq_some_iff.mp H; obtain ⟨t195, A100, H⟩ := H; replace H : (if 0 < (t195.length : Int) then ((spec_l27Read.f kj3 (rdOf ByteArray.empty t195 0) (x4_1.length : Int)).bind fun bt199 => (if (t195.length : Int) < 2 then (some (x4_1, x5_1)) else (if bt199.2.2 = true then (if x4_1.length < 4398046511104 then (spec_l27Open.l0 kj3 a0 (x4_1 ++ [(⟨bt199.1, bt199.2.1⟩ : S97)]) (wrap64 ((wrap64 (x5_1 + ((rdOf ByteArray.empty t195 0).size : Int))) + 1))) else (none)) else (some (x4_1, x5_1))))) else (none)) = some (r1, r2) := H; have A10 := Aside0.mk A100; clear A100
        by_cases c11 : 0 < (t195.length : Int)
        ·
         rw [if_pos c11] at H
         have c11b0 : decide (0 < (t195.length : Int)) = true := decide_eq_true c11; have c11b1 : decide (0 < t195.length) = true := decide_eq_true (by omega); clear c11; replace H := Option.bind_eq_some_iff.mp H; obtain ⟨⟨t199, t200, t201⟩, A120, H⟩ := H; replace H : (if (t195.length : Int) < 2 then (some (x4_1, x5_1)) else (if t201 = true then (if x4_1.length < 4398046511104 then (spec_l27Open.l0 kj3 a0 (x4_1 ++ [(⟨t199, t200⟩ : S97)]) (wrap64 ((wrap64 (x5_1 + ((rdOf ByteArray.empty t195 0).size : Int))) + 1))) else (none)) else (some (x4_1, x5_1)))) = some (r1, r2) := H; have A12 := Aside0.mk A120; clear A120
         by_cases c13 : (t195.length : Int) < 2
         ·
          rw [if_pos c13] at H
          have c13b0 : decide ((t195.length : Int) < 2) = true := decide_eq_true c13; have c13b1 : decide (t195.length < 2) = true := decide_eq_true (by omega); clear c13; simp only [Option.some.injEq, Prod.mk.injEq] at H; obtain ⟨rfl, rfl⟩ := H
          go_wp2_with (first | ((with_reducible refine gate_callee (f := 58) rfl ?_); refine ga_ (some 22) Tryd.func58 #[.string (sx a0 ((x5_1 : Int).toNat) (a0.size)), .int .u8 10] ?_; (with_reducible refine (spec_l1Split.calls kj3 (sx a0 ((x5_1 : Int).toNat) (a0.size)) 10 t195 _ A10.out).mono ?_); rintro e w14 ⟨v196, rfl, ho0, hb⟩; refine ⟨_, rfl, ?_⟩; replace HO_4 := Aside0.mk (Kd.R_below (kr_ HO_4.out) hb); have HO197 := Aside0.mk (Kd.R_lower ho0 (below_size (lb0_ HB.out))); replace HB := Aside0.mk (below_step (lb0_ HB.out) hb); (try clear hb); (try clear hb2); (try clear hk); (try clear hi); (try clear ho0); obtain ⟨Ao15, co15, eo15⟩ := Kd.R_slice HO197.out; subst eo15; have p198 : 0 ≤ (0 : Int) := (by omega); have q198 : 0 < (t195.length : Int) := dt_; obtain ⟨ad198, e198, hx198_0⟩ := Kd.at_string (Kd.R_reads' HO197.out).2.2 0 p198 q198; cases e198; have qi198 : (0 < t195.length) = True := eq_true (by omega); (try rw [show ((0 : Int)).toNat = 0 from rfl] at hx198_0); (try rw [Addr.add_zero'] at hx198_0); replace p198 := eq_true p198; replace q198 := eq_true q198; obtain ⟨Ao16, co16, eo16⟩ := Kd.R_slice HO_4.out; subst eo16) | ((with_reducible refine gate_callee (f := 59) rfl ?_); refine ga_ (some 29) Tryd.func59 #[.string (rdOf ByteArray.empty t195 0), .int .i64 (x4_1.length : Int)] ?_; (with_reducible refine (spec_l27Read.calls kj3 (rdOf ByteArray.empty t195 0) (x4_1.length : Int) t199 t200 t201 _ A12.out).mono ?_); rintro e w17 ⟨rfl, hb⟩; refine ⟨_, rfl, ?_⟩; replace HO_4 := Aside0.mk (Kd.R_below (kr_ HO_4.out) hb); replace HO197 := Aside0.mk (Kd.R_below (kr_ HO197.out) hb); replace HB := Aside0.mk (below_step (lb0_ HB.out) hb); (try clear hb); (try clear hb2); (try clear hk); (try clear hi)) | ((with_reducible refine gate_dst (N := 7) rfl ?_); (try (refine gate_guard (by rfl) ?_; dsimp only)); refine box_event ?hg (N := 7) ?hd (cs := #[.string (⟨#[]⟩ : ByteArray), .string (⟨#[]⟩ : ByteArray)]) (t := 97) ?hr ?_; (case hd => rfl); (case hg => rfl); (case hr => first | (go_simp; done) | (go_simp; rfl)); intro gb202 hg w18 hbox hb; replace HO_4 := Aside0.mk (Kd.R_below (Kd.R_elderB (kr_ HO_4.out) gb202 (Nat.le_of_eq hg.symm)) hb); replace HO197 := Aside0.mk (Kd.R_below (kr_ HO197.out) hb); have BK202 := Aside0.mk (hbox); have GW202 := Aside0.mk ((bz_ hg (lb0_ HB.out))); have GE202 := Aside0.mk ((bz_ hg (lb0_ HB.out))); replace HB := Aside0.mk (below_step (lb0_ HB.out) hb); clear hb hbox hg; obtain ⟨hcz19_0, hcz19_1⟩ := cz2_ BK202.out; obtain ⟨hfz19_0, hfz19_1⟩ := fz2_ BK202.out))
          go_ret2
          exact ⟨_, rr_, by (with_reducible repeat (first | apply Kd.R_alloc | apply Kd.R_drewN | apply Kd.R_drew)); exact Kd.R_mono (Kd.R_far (p := ⟨gb202, 1, none⟩) (Kd.R_far (p := ⟨gb202, 0, none⟩) (Kd.R_mono HO_4.out (fun k_ hk => (⟨hk, hk.2⟩ : _ ∧ k_ ≠ gb202))) (fun _ hk => hk.2) (.string t199)) (fun _ hk => hk.2) (.string t200)) (fun _ hk => trivial), lb1_ HB.out GE202.out⟩
         ·
          rw [if_neg c13] at H
          have c13b0 : decide ((t195.length : Int) < 2) = false := decide_eq_false c13; have c13b1 : decide (t195.length < 2) = false := decide_eq_false (by omega); clear c13
          by_cases c20 : t201 = true
          ·
           subst c20
           have H1 : (if x4_1.length < 4398046511104 then (spec_l27Open.l0 kj3 a0 (x4_1 ++ [(⟨t199, t200⟩ : S97)]) (wrap64 ((wrap64 (x5_1 + ((rdOf ByteArray.empty t195 0).size : Int))) + 1))) else (none)) = some (r1, r2) := by rw [if_pos rfl] at H; exact H
           clear H; have H := H1; clear H1
           by_cases c21 : x4_1.length < 4398046511104
           ·
            rw [if_pos c21] at H
            have LMc21 := Aside0.mk c21; clear c21
            obtain ⟨y203, hy203⟩ : ∃ y_ : List (S97), y_ = (x4_1 ++ [(⟨t199, t200⟩ : S97)]) := ⟨_, rfl⟩
            replace H : (spec_l27Open.l0 kj3 a0 y203 (wrap64 ((wrap64 (x5_1 + ((rdOf ByteArray.empty t195 0).size : Int))) + 1))) = some (r1, r2) := by first | (rw [hy203]; with_reducible exact H) | (have H2_ := (Option.bind_some _ _).symm.trans H; rw [hy203]; with_reducible exact H2_) | (have H2_ := (Option.bind_some _ _).symm.trans H; with_reducible exact H2_) | with_reducible exact H | (rw [hy203]; exact H) | exact H
            have Ny203 := Aside0.mk hy203; clear hy203; have H' := Aside0.mk H; clear H
            go_wp2_with (first | ((with_reducible refine gate_callee (f := 58) rfl ?_); refine ga_ (some 22) Tryd.func58 #[.string (sx a0 ((x5_1 : Int).toNat) (a0.size)), .int .u8 10] ?_; (with_reducible refine (spec_l1Split.calls kj3 (sx a0 ((x5_1 : Int).toNat) (a0.size)) 10 t195 _ A10.out).mono ?_); rintro e w22 ⟨v196, rfl, ho0, hb⟩; refine ⟨_, rfl, ?_⟩; replace HO_4 := Aside0.mk (Kd.R_below (kr_ HO_4.out) hb); have HO197 := Aside0.mk (Kd.R_lower ho0 (below_size (lb0_ HB.out))); replace HB := Aside0.mk (below_step (lb0_ HB.out) hb); (try clear hb); (try clear hb2); (try clear hk); (try clear hi); (try clear ho0); obtain ⟨Ao23, co23, eo23⟩ := Kd.R_slice HO197.out; subst eo23; have p198 : 0 ≤ (0 : Int) := (by omega); have q198 : 0 < (t195.length : Int) := dt_; obtain ⟨ad198, e198, hx198_0⟩ := Kd.at_string (Kd.R_reads' HO197.out).2.2 0 p198 q198; cases e198; have qi198 : (0 < t195.length) = True := eq_true (by omega); (try rw [show ((0 : Int)).toNat = 0 from rfl] at hx198_0); (try rw [Addr.add_zero'] at hx198_0); replace p198 := eq_true p198; replace q198 := eq_true q198; obtain ⟨Ao24, co24, eo24⟩ := Kd.R_slice HO_4.out; subst eo24) | ((with_reducible refine gate_callee (f := 59) rfl ?_); refine ga_ (some 29) Tryd.func59 #[.string (rdOf ByteArray.empty t195 0), .int .i64 (x4_1.length : Int)] ?_; (with_reducible refine (spec_l27Read.calls kj3 (rdOf ByteArray.empty t195 0) (x4_1.length : Int) t199 t200 true _ A12.out).mono ?_); rintro e w25 ⟨rfl, hb⟩; refine ⟨_, rfl, ?_⟩; replace HO_4 := Aside0.mk (Kd.R_below (kr_ HO_4.out) hb); replace HO197 := Aside0.mk (Kd.R_below (kr_ HO197.out) hb); replace HB := Aside0.mk (below_step (lb0_ HB.out) hb); (try clear hb); (try clear hb2); (try clear hk); (try clear hi)) | ((with_reducible refine gate_dst (N := 7) rfl ?_); (try (refine gate_guard (by rfl) ?_; dsimp only)); refine box_event ?hg (N := 7) ?hd (cs := #[.string (⟨#[]⟩ : ByteArray), .string (⟨#[]⟩ : ByteArray)]) (t := 97) ?hr ?_; (case hd => rfl); (case hg => rfl); (case hr => first | (go_simp; done) | (go_simp; rfl)); intro gb202 hg w26 hbox hb; replace HO_4 := Aside0.mk (Kd.R_below (Kd.R_elderB (kr_ HO_4.out) gb202 (Nat.le_of_eq hg.symm)) hb); replace HO197 := Aside0.mk (Kd.R_below (kr_ HO197.out) hb); have BK202 := Aside0.mk (hbox); have GW202 := Aside0.mk ((bz_ hg (lb0_ HB.out))); have GE202 := Aside0.mk ((bz_ hg (lb0_ HB.out))); replace HB := Aside0.mk (below_step (lb0_ HB.out) hb); clear hb hbox hg; obtain ⟨hcz27_0, hcz27_1⟩ := cz2_ BK202.out; obtain ⟨hfz27_0, hfz27_1⟩ := fz2_ BK202.out) | ((with_reducible refine gate_builtin (b := .append) (xs := #[.tmp 39, .tmp 41]) rfl ?_); (try (refine gate_guard (by rfl) ?_; dsimp only)); at_builtin; refine Kd.R_append k97 (w0 := w) w.heap.size rfl (.tmp 39) (.tmp 41) 74 97 (.agg #[(.string ⟨#[]⟩), (.string ⟨#[]⟩)]) 32 rfl Tryd.underlying74 info97 rfl (by decide) (by omega) (.slice Ao24 x4_1.length co24) x4_1 (⟨t199, t200⟩ : S97) [.string t199, .string t200] (fun k_ => k_ ≠ gb202) (fun _ => False) rfl (by first | (go_simp; done) | (go_simp; rfl)) ?aP (fun _ hk => hk.elim) ?aF ?aO ?aB ?aS ?aL ?_; (case aP => exact k97_mkM _ _ _ (⟨t199, t200⟩ : S97)); (case aB => exact (lb1_ HB.out GE202.out)); (case aF => exact (fun k_ hk => Kd.freshB (g := gb202) (o := .cells #[.string t199, .string t200] 97 (0, 0)) (by (with_reducible repeat (first | refine blk_drewN ?_ _ | refine blk_drew ?_ | refine blk_alloc ?_ _)); refine blk_put (cs := #[.string t199, .string (⟨#[]⟩ : ByteArray)]) ?_ 1 _ rfl; (with_reducible repeat (first | refine blk_drewN ?_ _ | refine blk_drew ?_ | refine blk_alloc ?_ _)); refine blk_put (cs := #[.string (⟨#[]⟩ : ByteArray), .string (⟨#[]⟩ : ByteArray)]) ?_ 0 _ rfl; (with_reducible repeat (first | refine blk_drewN ?_ _ | refine blk_drew ?_ | refine blk_alloc ?_ _)); exact BK202.out) k_ hk)); (case aO => exact (by (with_reducible repeat (first | apply Kd.R_alloc | apply Kd.R_drewN | apply Kd.R_drew)); exact Kd.R_mono (Kd.R_far (p := ⟨gb202, 1, none⟩) (Kd.R_far (p := ⟨gb202, 0, none⟩) (Kd.R_mono HO_4.out (fun k_ hk => (⟨hk, hk.2⟩ : _ ∧ k_ ≠ gb202))) (fun _ hk => hk.2) (.string t199)) (fun _ hk => hk.2) (.string t200)) (fun _ hk => hk.1.2))); (case aS => exact (below_size (lb1_ HB.out GE202.out))); (case aL => have := LMc21.out; omega); intro v204 w28 ho hb hg hat; rw [← Ny203.out] at ho; replace HO197 := Aside0.mk (Kd.R_over' (kg_ HO197.out BK202.out) (Kd.R_typed (by (with_reducible repeat (first | apply Kd.R_alloc | apply Kd.R_drewN | apply Kd.R_drew)); exact (Kd.R_mono (Kd.R_far (p := ⟨gb202, 1, none⟩) (Kd.R_far (p := ⟨gb202, 0, none⟩) (Kd.R_mono HO_4.out (fun k_ hk => (⟨hk, hk.2⟩ : _ ∧ k_ ≠ gb202))) (fun _ hk => hk.2) (.string t199)) (fun _ hk => hk.2) (.string t200)) (fun _ h_ => h_.1)))) (by decide) hg); replace BK202 := Aside0.mk (blk_grown (g := gb202) (o := .cells #[.string t199, .string t200] 97 (0, 0)) (by (with_reducible repeat (first | refine blk_drewN ?_ _ | refine blk_drew ?_ | refine blk_alloc ?_ _)); refine blk_put (cs := #[.string t199, .string (⟨#[]⟩ : ByteArray)]) ?_ 1 _ rfl; (with_reducible repeat (first | refine blk_drewN ?_ _ | refine blk_drew ?_ | refine blk_alloc ?_ _)); refine blk_put (cs := #[.string (⟨#[]⟩ : ByteArray), .string (⟨#[]⟩ : ByteArray)]) ?_ 0 _ rfl; (with_reducible repeat (first | refine blk_drewN ?_ _ | refine blk_drew ?_ | refine blk_alloc ?_ _)); exact BK202.out) hg (Kd.R_away HO_4.out (fun _ hk => hk.2))); replace HB := Aside0.mk (hb); have HO205 := Aside0.mk (ho); clear HO_4; clear ho hb hg hat; have p206 : 0 ≤ (0 : Int) := (by omega); have q206 : 0 < (t195.length : Int) := dt_; obtain ⟨ad206, e206, hx206_0⟩ := Kd.at_string (Kd.R_reads' HO197.out).2.2 0 p206 q206; obtain rfl : ad198 = ad206 := (by injection e206); have qi206 : (0 < t195.length) = True := eq_true (by omega); (try rw [show ((0 : Int)).toNat = 0 from rfl] at hx206_0); (try rw [Addr.add_zero'] at hx206_0); replace p206 := eq_true p206; replace q206 := eq_true q206))
            go_roundg kj3
            case measure => have := HK1.out; have := HJ3.out; omega
            case rel => exact ⟨(y203), (wrap64 ((wrap64 (x5_1 + ((rdOf ByteArray.empty t195 0).size : Int))) + 1)), (by first | rfl | (simp; done) | (simp [*]; done)), H', ⟨by have := HK1.out; have := HJ3.out; omega⟩, ⟨krm_ HO205.out (fun _ hk => trivial)⟩, ⟨lb1_ HB.out GE202.out⟩⟩
           ·
            rw [if_neg c21] at H
            exact absurd H (by simp)
          ·
           replace c20 := Bool.eq_false_iff.mpr c20; subst c20
           have H1 : (some (x4_1, x5_1)) = some (r1, r2) := by rw [if_neg (show ¬ (false = true) by decide)] at H; exact H
           clear H; have H := H1; clear H1; simp only [Option.some.injEq, Prod.mk.injEq] at H; obtain ⟨rfl, rfl⟩ := H
           go_wp2_with (first | ((with_reducible refine gate_callee (f := 58) rfl ?_); refine ga_ (some 22) Tryd.func58 #[.string (sx a0 ((x5_1 : Int).toNat) (a0.size)), .int .u8 10] ?_; (with_reducible refine (spec_l1Split.calls kj3 (sx a0 ((x5_1 : Int).toNat) (a0.size)) 10 t195 _ A10.out).mono ?_); rintro e w29 ⟨v196, rfl, ho0, hb⟩; refine ⟨_, rfl, ?_⟩; replace HO_4 := Aside0.mk (Kd.R_below (kr_ HO_4.out) hb); have HO197 := Aside0.mk (Kd.R_lower ho0 (below_size (lb0_ HB.out))); replace HB := Aside0.mk (below_step (lb0_ HB.out) hb); (try clear hb); (try clear hb2); (try clear hk); (try clear hi); (try clear ho0); obtain ⟨Ao30, co30, eo30⟩ := Kd.R_slice HO197.out; subst eo30; have p198 : 0 ≤ (0 : Int) := (by omega); have q198 : 0 < (t195.length : Int) := dt_; obtain ⟨ad198, e198, hx198_0⟩ := Kd.at_string (Kd.R_reads' HO197.out).2.2 0 p198 q198; cases e198; have qi198 : (0 < t195.length) = True := eq_true (by omega); (try rw [show ((0 : Int)).toNat = 0 from rfl] at hx198_0); (try rw [Addr.add_zero'] at hx198_0); replace p198 := eq_true p198; replace q198 := eq_true q198; obtain ⟨Ao31, co31, eo31⟩ := Kd.R_slice HO_4.out; subst eo31) | ((with_reducible refine gate_callee (f := 59) rfl ?_); refine ga_ (some 29) Tryd.func59 #[.string (rdOf ByteArray.empty t195 0), .int .i64 (x4_1.length : Int)] ?_; (with_reducible refine (spec_l27Read.calls kj3 (rdOf ByteArray.empty t195 0) (x4_1.length : Int) t199 t200 false _ A12.out).mono ?_); rintro e w32 ⟨rfl, hb⟩; refine ⟨_, rfl, ?_⟩; replace HO_4 := Aside0.mk (Kd.R_below (kr_ HO_4.out) hb); replace HO197 := Aside0.mk (Kd.R_below (kr_ HO197.out) hb); replace HB := Aside0.mk (below_step (lb0_ HB.out) hb); (try clear hb); (try clear hb2); (try clear hk); (try clear hi)) | ((with_reducible refine gate_dst (N := 7) rfl ?_); (try (refine gate_guard (by rfl) ?_; dsimp only)); refine box_event ?hg (N := 7) ?hd (cs := #[.string (⟨#[]⟩ : ByteArray), .string (⟨#[]⟩ : ByteArray)]) (t := 97) ?hr ?_; (case hd => rfl); (case hg => rfl); (case hr => first | (go_simp; done) | (go_simp; rfl)); intro gb202 hg w33 hbox hb; replace HO_4 := Aside0.mk (Kd.R_below (Kd.R_elderB (kr_ HO_4.out) gb202 (Nat.le_of_eq hg.symm)) hb); replace HO197 := Aside0.mk (Kd.R_below (kr_ HO197.out) hb); have BK202 := Aside0.mk (hbox); have GW202 := Aside0.mk ((bz_ hg (lb0_ HB.out))); have GE202 := Aside0.mk ((bz_ hg (lb0_ HB.out))); replace HB := Aside0.mk (below_step (lb0_ HB.out) hb); clear hb hbox hg; obtain ⟨hcz34_0, hcz34_1⟩ := cz2_ BK202.out; obtain ⟨hfz34_0, hfz34_1⟩ := fz2_ BK202.out))
           go_ret2
           exact ⟨_, rr_, by (with_reducible repeat (first | apply Kd.R_alloc | apply Kd.R_drewN | apply Kd.R_drew)); exact Kd.R_mono (Kd.R_far (p := ⟨gb202, 1, none⟩) (Kd.R_far (p := ⟨gb202, 0, none⟩) (Kd.R_mono HO_4.out (fun k_ hk => (⟨hk, hk.2⟩ : _ ∧ k_ ≠ gb202))) (fun _ hk => hk.2) (.string t199)) (fun _ hk => hk.2) (.string t200)) (fun _ hk => trivial), lb1_ HB.out GE202.out⟩
        ·
         rw [if_neg c11] at H
         exact absurd H (by simp)
       ·
        rw [if_neg c9] at H
        exact absurd H (by simp)
      ·
       rw [if_neg c8] at H
       exact absurd H (by simp)
     ·
      replace c7 := Bool.eq_false_iff.mpr c7
      subst c7
      have H1 : (some (x4_1, x5_1)) = some (r1, r2) := by rw [if_neg (show ¬ (false = true) by decide)] at H; exact H
      clear H
      have H := H1
      clear H1
      simp only [Option.some.injEq, Prod.mk.injEq] at H
      obtain ⟨rfl, rfl⟩ := H
      go_wp2
      go_ret2
      exact ⟨_, rr_, kr_ HO_4.out, lb0_ HB.out⟩
def spec_l27Log.f (k : Nat) (a0_0 : ByteArray) (a0_1 : ByteArray) (a0_2 : Int) : Option (Bool) := if (wrap64 ((a0_0.size : Int) + (a0_1.size : Int))) > 30000 then (some false) else (if a0_0.size + a0_1.size ≤ 9223372036854775807 then ((spec_l27Open.f k (sc a0_0 a0_1)).bind fun bt208 => ((spec_l27Open.f k a0_0).bind fun bt212 => (if bt208.2 = (wrap64 ((a0_0.size : Int) + (a0_1.size : Int))) then (if bt212.2 = (a0_0.size : Int) then (some ((bt208.1.length : Int) == a0_2)) else (some false)) else (some false)))) else (none))
theorem spec_l27Log.calls (k : Nat) (a0_0 : ByteArray) (a0_1 : ByteArray) (a0_2 : Int) (r : Bool) (w : World) (h : spec_l27Log.f k a0_0 a0_1 a0_2 = some r) :
  Calls Tryd.prog 32 #[.agg #[.string a0_0, .string a0_1, .int .i64 a0_2]] w fun e w' => e = .returned (.bool r) ∧ Below w.heap.size w w' := by
 have hu35 := Tryd.underlying35
 have HB := Aside0.mk (Below.refl w.heap.size w)
 have H : (if (wrap64 ((a0_0.size : Int) + (a0_1.size : Int))) > 30000 then (some false) else (if a0_0.size + a0_1.size ≤ 9223372036854775807 then ((spec_l27Open.f k (sc a0_0 a0_1)).bind fun bt208 => ((spec_l27Open.f k a0_0).bind fun bt212 => (if bt208.2 = (wrap64 ((a0_0.size : Int) + (a0_1.size : Int))) then (if bt212.2 = (a0_0.size : Int) then (some ((bt208.1.length : Int) == a0_2)) else (some false)) else (some false)))) else (none))) = some r := h
 clear h
 by_cases c2 : (wrap64 ((a0_0.size : Int) + (a0_1.size : Int))) > 30000
 ·
  rw [if_pos c2] at H
  have c2b0 : decide (30000 < (wrap64 ((a0_0.size : Int) + (a0_1.size : Int)))) = true := decide_eq_true c2
  try (have c2b0w := c2b0; rw [show wrap64 ((a0_0.size : Int) + (a0_1.size : Int)) = (a0_0.size : Int) + (a0_1.size : Int) from by unfold wrap64; omega] at c2b0w)
  clear c2
  obtain rfl := Option.some.inj H
  go_enter Tryd.func32, Tryd.ntmps32
  go_wp2_with (first | ((with_reducible refine gate_dst (N := 1) rfl ?_); (try (refine gate_guard (by rfl) ?_; dsimp only)); refine box_event ?hg (N := 1) ?hd (cs := #[.string a0_0, .string a0_1, .int .i64 a0_2]) (t := 35) ?hr ?_; (case hd => rfl); (case hg => rfl); (case hr => first | (go_simp; done) | (go_simp; rfl)); intro gb207 hg w3 hbox hb; have BK207 := Aside0.mk (hbox); have GW207 := Aside0.mk ((bz_ hg (lb0_ HB.out))); have GE207 := Aside0.mk ((bz_ hg (lb0_ HB.out))); replace HB := Aside0.mk (below_step (lb0_ HB.out) hb); clear hb hbox hg; obtain ⟨hcz4_0, hcz4_1, hcz4_2⟩ := cz3_ BK207.out; obtain ⟨hfz4_0, hfz4_1, hfz4_2⟩ := fz3_ BK207.out))
  go_ret
  exact ⟨rr_, lb1_ HB.out GE207.out⟩
 ·
  rw [if_neg c2] at H
  have c2b0 : decide (30000 < (wrap64 ((a0_0.size : Int) + (a0_1.size : Int)))) = false := decide_eq_false c2
  try (have c2b0w := c2b0; rw [show wrap64 ((a0_0.size : Int) + (a0_1.size : Int)) = (a0_0.size : Int) + (a0_1.size : Int) from by unfold wrap64; omega] at c2b0w)
  clear c2
  by_cases c5 : a0_0.size + a0_1.size ≤ 9223372036854775807
  ·
   rw [if_pos c5] at H
   have c5b0 := eq_true c5
   try (have c2b0w := c2b0; rw [show wrap64 ((a0_0.size : Int) + (a0_1.size : Int)) = (a0_0.size : Int) + (a0_1.size : Int) from by unfold wrap64; omega] at c2b0w)
   try (have c2b0w := c2b0; rw [show wrap64 ((a0_0.size : Int) + (a0_1.size : Int)) = (a0_0.size : Int) + (a0_1.size : Int) from by unfold wrap64; omega] at c2b0w)
   have c5b1 : decide (a0_0.size + a0_1.size ≤ 9223372036854775807) = true := decide_eq_true c5
   try have c5b2 : (9223372036854775807 < a0_0.size + a0_1.size) = False := eq_false (Nat.not_lt.2 c5)
   replace H := Option.bind_eq_some_iff.mp H
   obtain ⟨⟨t208, t209⟩, A60, H⟩ := H
   replace H : ((spec_l27Open.f k a0_0).bind fun bt212 => (if t209 = (wrap64 ((a0_0.size : Int) + (a0_1.size : Int))) then (if bt212.2 = (a0_0.size : Int) then (some ((t208.length : Int) == a0_2)) else (some false)) else (some false))) = some r := H
   have A6 := Aside0.mk A60
   clear A60
   replace H := Option.bind_eq_some_iff.mp H
   obtain ⟨⟨t212, t213⟩, A70, H⟩ := H
   replace H : (if t209 = (wrap64 ((a0_0.size : Int) + (a0_1.size : Int))) then (if t213 = (a0_0.size : Int) then (some ((t208.length : Int) == a0_2)) else (some false)) else (some false)) = some r := H
   have A7 := Aside0.mk A70
   clear A70
   by_cases c8 : t209 = (wrap64 ((a0_0.size : Int) + (a0_1.size : Int)))
   ·
    rw [if_pos c8] at H
    have c8b0 : (t209 == (wrap64 ((a0_0.size : Int) + (a0_1.size : Int)))) = true := beq_iff_eq.mpr c8
    try (have c8b0w := c8b0; rw [show wrap64 ((a0_0.size : Int) + (a0_1.size : Int)) = (a0_0.size : Int) + (a0_1.size : Int) from by unfold wrap64; omega] at c8b0w)
    have c8b1 : (t209 != (wrap64 ((a0_0.size : Int) + (a0_1.size : Int)))) = false := bne_eq_false_iff_eq.mpr c8
    try (have c8b1w := c8b1; rw [show wrap64 ((a0_0.size : Int) + (a0_1.size : Int)) = (a0_0.size : Int) + (a0_1.size : Int) from by unfold wrap64; omega] at c8b1w)
    clear c8
    by_cases c9 : t213 = (a0_0.size : Int)
    ·
     rw [if_pos c9] at H
     have c9b0 : (t213 == (a0_0.size : Int)) = true := beq_iff_eq.mpr c9
     have c9b1 : (t213 != (a0_0.size : Int)) = false := bne_eq_false_iff_eq.mpr c9
     clear c9
     obtain rfl := Option.some.inj H
     go_enter Tryd.func32, Tryd.ntmps32
     go_wp2_with (first | ((with_reducible refine gate_dst (N := 1) rfl ?_); (try (refine gate_guard (by rfl) ?_; dsimp only)); refine box_event ?hg (N := 1) ?hd (cs := #[.string a0_0, .string a0_1, .int .i64 a0_2]) (t := 35) ?hr ?_; (case hd => rfl); (case hg => rfl); (case hr => first | (go_simp; done) | (go_simp; rfl)); intro gb207 hg w10 hbox hb; have BK207 := Aside0.mk (hbox); have GW207 := Aside0.mk ((bz_ hg (lb0_ HB.out))); have GE207 := Aside0.mk ((bz_ hg (lb0_ HB.out))); replace HB := Aside0.mk (below_step (lb0_ HB.out) hb); clear hb hbox hg; obtain ⟨hcz11_0, hcz11_1, hcz11_2⟩ := cz3_ BK207.out; obtain ⟨hfz11_0, hfz11_1, hfz11_2⟩ := fz3_ BK207.out) | ((with_reducible refine gate_callee (f := 48) rfl ?_); refine ga_ (some 21) Tryd.func48 #[.string (sc a0_0 a0_1)] ?_; (with_reducible refine (spec_l27Open.calls k (sc a0_0 a0_1) t208 t209 _ A6.out).mono ?_); rintro e w12 ⟨v210, rfl, ho0, hb⟩; refine ⟨_, rfl, ?_⟩; have HO211 := Aside0.mk (Kd.R_lower ho0 (below_size (lb1_ HB.out GE207.out))); replace BK207 := Aside0.mk (bb_ (bk_ BK207.out) hb); replace HB := Aside0.mk (below_step (lb1_ HB.out GE207.out) hb); (try clear hb); (try clear hb2); (try clear hk); (try clear hi); (try clear ho0); obtain ⟨hcz13_0, hcz13_1, hcz13_2⟩ := cz3_ BK207.out; obtain ⟨hfz13_0, hfz13_1, hfz13_2⟩ := fz3_ BK207.out) | ((with_reducible refine gate_callee (f := 48) rfl ?_); refine ga_ (some 27) Tryd.func48 #[.string a0_0] ?_; (with_reducible refine (spec_l27Open.calls k a0_0 t212 t213 _ A7.out).mono ?_); rintro e w14 ⟨v214, rfl, ho0, hb⟩; refine ⟨_, rfl, ?_⟩; have HO215 := Aside0.mk (Kd.R_lower (Kd.R_new' ho0 (Kd.R_lt (kr_ HO211.out))) (below_size (lb1_ HB.out GE207.out))); replace HO211 := Aside0.mk (Kd.R_elder' (kr_ HO211.out) (Kd.R_base ho0) hb); replace BK207 := Aside0.mk (bb_ (bk_ BK207.out) hb); replace HB := Aside0.mk (below_step (lb1_ HB.out GE207.out) hb); (try clear hb); (try clear hb2); (try clear hk); (try clear hi); (try clear ho0); obtain ⟨hcz15_0, hcz15_1, hcz15_2⟩ := cz3_ BK207.out; obtain ⟨hfz15_0, hfz15_1, hfz15_2⟩ := fz3_ BK207.out; obtain ⟨Ao16, co16, eo16⟩ := Kd.R_slice HO211.out; subst eo16))
     go_ret
     exact ⟨rr_, lb1_ HB.out GE207.out⟩
    ·
     rw [if_neg c9] at H
     have c9b0 : (t213 == (a0_0.size : Int)) = false := beq_eq_false_iff_ne.mpr c9
     have c9b1 : (t213 != (a0_0.size : Int)) = true := bne_iff_ne.mpr c9
     obtain rfl := Option.some.inj H
     go_enter Tryd.func32, Tryd.ntmps32
     go_wp2_with (first | ((with_reducible refine gate_dst (N := 1) rfl ?_); (try (refine gate_guard (by rfl) ?_; dsimp only)); refine box_event ?hg (N := 1) ?hd (cs := #[.string a0_0, .string a0_1, .int .i64 a0_2]) (t := 35) ?hr ?_; (case hd => rfl); (case hg => rfl); (case hr => first | (go_simp; done) | (go_simp; rfl)); intro gb207 hg w17 hbox hb; have BK207 := Aside0.mk (hbox); have GW207 := Aside0.mk ((bz_ hg (lb0_ HB.out))); have GE207 := Aside0.mk ((bz_ hg (lb0_ HB.out))); replace HB := Aside0.mk (below_step (lb0_ HB.out) hb); clear hb hbox hg; obtain ⟨hcz18_0, hcz18_1, hcz18_2⟩ := cz3_ BK207.out; obtain ⟨hfz18_0, hfz18_1, hfz18_2⟩ := fz3_ BK207.out) | ((with_reducible refine gate_callee (f := 48) rfl ?_); refine ga_ (some 21) Tryd.func48 #[.string (sc a0_0 a0_1)] ?_; (with_reducible refine (spec_l27Open.calls k (sc a0_0 a0_1) t208 t209 _ A6.out).mono ?_); rintro e w19 ⟨v210, rfl, ho0, hb⟩; refine ⟨_, rfl, ?_⟩; have HO211 := Aside0.mk (Kd.R_lower ho0 (below_size (lb1_ HB.out GE207.out))); replace BK207 := Aside0.mk (bb_ (bk_ BK207.out) hb); replace HB := Aside0.mk (below_step (lb1_ HB.out GE207.out) hb); (try clear hb); (try clear hb2); (try clear hk); (try clear hi); (try clear ho0); obtain ⟨hcz20_0, hcz20_1, hcz20_2⟩ := cz3_ BK207.out; obtain ⟨hfz20_0, hfz20_1, hfz20_2⟩ := fz3_ BK207.out) | ((with_reducible refine gate_callee (f := 48) rfl ?_); refine ga_ (some 27) Tryd.func48 #[.string a0_0] ?_; (with_reducible refine (spec_l27Open.calls k a0_0 t212 t213 _ A7.out).mono ?_); rintro e w21 ⟨v214, rfl, ho0, hb⟩; refine ⟨_, rfl, ?_⟩; have HO215 := Aside0.mk (Kd.R_lower (Kd.R_new' ho0 (Kd.R_lt (kr_ HO211.out))) (below_size (lb1_ HB.out GE207.out))); replace HO211 := Aside0.mk (Kd.R_elder' (kr_ HO211.out) (Kd.R_base ho0) hb); replace BK207 := Aside0.mk (bb_ (bk_ BK207.out) hb); replace HB := Aside0.mk (below_step (lb1_ HB.out GE207.out) hb); (try clear hb); (try clear hb2); (try clear hk); (try clear hi); (try clear ho0); obtain ⟨hcz22_0, hcz22_1, hcz22_2⟩ := cz3_ BK207.out; obtain ⟨hfz22_0, hfz22_1, hfz22_2⟩ := fz3_ BK207.out))
     go_ret
     exact ⟨rr_, lb1_ HB.out GE207.out⟩
   ·
    rw [if_neg c8] at H
    have c8b0 : (t209 == (wrap64 ((a0_0.size : Int) + (a0_1.size : Int)))) = false := beq_eq_false_iff_ne.mpr c8
    try (have c8b0w := c8b0; rw [show wrap64 ((a0_0.size : Int) + (a0_1.size : Int)) = (a0_0.size : Int) + (a0_1.size : Int) from by unfold wrap64; omega] at c8b0w)
    have c8b1 : (t209 != (wrap64 ((a0_0.size : Int) + (a0_1.size : Int)))) = true := bne_iff_ne.mpr c8
    try (have c8b1w := c8b1; rw [show wrap64 ((a0_0.size : Int) + (a0_1.size : Int)) = (a0_0.size : Int) + (a0_1.size : Int) from by unfold wrap64; omega] at c8b1w)
    obtain rfl := Option.some.inj H
    go_enter Tryd.func32, Tryd.ntmps32
    go_wp2_with (first | ((with_reducible refine gate_dst (N := 1) rfl ?_); (try (refine gate_guard (by rfl) ?_; dsimp only)); refine box_event ?hg (N := 1) ?hd (cs := #[.string a0_0, .string a0_1, .int .i64 a0_2]) (t := 35) ?hr ?_; (case hd => rfl); (case hg => rfl); (case hr => first | (go_simp; done) | (go_simp; rfl)); intro gb207 hg w23 hbox hb; have BK207 := Aside0.mk (hbox); have GW207 := Aside0.mk ((bz_ hg (lb0_ HB.out))); have GE207 := Aside0.mk ((bz_ hg (lb0_ HB.out))); replace HB := Aside0.mk (below_step (lb0_ HB.out) hb); clear hb hbox hg; obtain ⟨hcz24_0, hcz24_1, hcz24_2⟩ := cz3_ BK207.out; obtain ⟨hfz24_0, hfz24_1, hfz24_2⟩ := fz3_ BK207.out) | ((with_reducible refine gate_callee (f := 48) rfl ?_); refine ga_ (some 21) Tryd.func48 #[.string (sc a0_0 a0_1)] ?_; (with_reducible refine (spec_l27Open.calls k (sc a0_0 a0_1) t208 t209 _ A6.out).mono ?_); rintro e w25 ⟨v210, rfl, ho0, hb⟩; refine ⟨_, rfl, ?_⟩; have HO211 := Aside0.mk (Kd.R_lower ho0 (below_size (lb1_ HB.out GE207.out))); replace BK207 := Aside0.mk (bb_ (bk_ BK207.out) hb); replace HB := Aside0.mk (below_step (lb1_ HB.out GE207.out) hb); (try clear hb); (try clear hb2); (try clear hk); (try clear hi); (try clear ho0); obtain ⟨hcz26_0, hcz26_1, hcz26_2⟩ := cz3_ BK207.out; obtain ⟨hfz26_0, hfz26_1, hfz26_2⟩ := fz3_ BK207.out) | ((with_reducible refine gate_callee (f := 48) rfl ?_); refine ga_ (some 27) Tryd.func48 #[.string a0_0] ?_; (with_reducible refine (spec_l27Open.calls k a0_0 t212 t213 _ A7.out).mono ?_); rintro e w27 ⟨v214, rfl, ho0, hb⟩; refine ⟨_, rfl, ?_⟩; have HO215 := Aside0.mk (Kd.R_lower (Kd.R_new' ho0 (Kd.R_lt (kr_ HO211.out))) (below_size (lb1_ HB.out GE207.out))); replace HO211 := Aside0.mk (Kd.R_elder' (kr_ HO211.out) (Kd.R_base ho0) hb); replace BK207 := Aside0.mk (bb_ (bk_ BK207.out) hb); replace HB := Aside0.mk (below_step (lb1_ HB.out GE207.out) hb); (try clear hb); (try clear hb2); (try clear hk); (try clear hi); (try clear ho0); obtain ⟨hcz28_0, hcz28_1, hcz28_2⟩ := cz3_ BK207.out; obtain ⟨hfz28_0, hfz28_1, hfz28_2⟩ := fz3_ BK207.out))
    go_ret
    exact ⟨rr_, lb1_ HB.out GE207.out⟩
  ·
   rw [if_neg c5] at H
   exact absurd H (by simp)
end Go.Proofs.YtckigdechhmegaaDoor.Pr

namespace Go.Proofs.YtckigdechhmegaaDoor.Pr
open Go.RowKit Go.Proofs.YtckigdechhmegaaDoorW.PrintWords Go.Proofs.YtckigdechhmegaaDoorW.PrintLast Go.Proofs.YtckigdechhmegaaDoorW.PrintMore
attribute [local go_sem] max2_int min2_int max_two min_two max_three min_three max_four min_four   -- for this text's walks alone
set_option linter.unusedVariables false
set_option linter.unusedSimpArgs false
def spec_l28Good.f (k : Nat) (l0_0 : List (S53)) (l0_1 : List Bool) (l0_2 : List Bool) (a0_3 : Int) (a0_4 : Int) (a0_5 : ByteArray) (a0_6 : ByteArray) (a0_7 : Int) : Option (Bool) := (spec_l25Good.f k l0_0 l0_1 l0_2 a0_3 a0_4).bind fun t217 => (if t217 = true then ((spec_l27Log.f k a0_5 a0_6 a0_7).bind fun t218 => (some t218)) else (some false))
theorem spec_l28Good.calls (k : Nat) (A0_0 : Option Addr) (c0_0 : Nat) (l0_0 : List (S53)) (A0_1 : Option Addr) (c0_1 : Nat) (l0_1 : List Bool) (A0_2 : Option Addr) (c0_2 : Nat) (l0_2 : List Bool) (a0_3 : Int) (a0_4 : Int) (a0_5 : ByteArray) (a0_6 : ByteArray) (a0_7 : Int) (r : Bool) (w : World) (hr0_0 : Kd.C k53 w A0_0 l0_0.length l0_0) (hc0_0 : l0_0.length ≤ c0_0) (hr0_1 : Kd.C Kd.bool w A0_1 l0_1.length l0_1) (hc0_1 : l0_1.length ≤ c0_1) (hr0_2 : Kd.C Kd.bool w A0_2 l0_2.length l0_2) (hc0_2 : l0_2.length ≤ c0_2) (h : spec_l28Good.f k l0_0 l0_1 l0_2 a0_3 a0_4 a0_5 a0_6 a0_7 = some r) :
  Calls Tryd.prog 14 #[.agg #[.slice A0_0 l0_0.length c0_0, .slice A0_1 l0_1.length c0_1, .slice A0_2 l0_2.length c0_2, .int .i64 a0_3, .int .i64 a0_4, .string a0_5, .string a0_6, .int .i64 a0_7]] w fun e w' => e = .returned (.bool r) ∧ Below w.heap.size w w' := by
 have hu37 := Tryd.underlying37
 have hu34 := Tryd.underlying34
 have hu35 := Tryd.underlying35
 have HR0_0 := Aside0.mk hr0_0
 have HC0_0 := Aside0.mk hc0_0
 clear hr0_0 hc0_0
 have HR0_1 := Aside0.mk hr0_1
 have HC0_1 := Aside0.mk hc0_1
 clear hr0_1 hc0_1
 have HR0_2 := Aside0.mk hr0_2
 have HC0_2 := Aside0.mk hc0_2
 clear hr0_2 hc0_2
 have HB := Aside0.mk (Below.refl w.heap.size w)
 have H : ((spec_l25Good.f k l0_0 l0_1 l0_2 a0_3 a0_4).bind fun t217 => (if t217 = true then ((spec_l27Log.f k a0_5 a0_6 a0_7).bind fun t218 => (some t218)) else (some false))) = some r := h
 clear h
 replace H := Option.bind_eq_some_iff.mp H
 obtain ⟨t217, A20, H⟩ := H
 replace H : (if t217 = true then ((spec_l27Log.f k a0_5 a0_6 a0_7).bind fun t218 => (some t218)) else (some false)) = some r := H
 have A2 := Aside0.mk A20
 clear A20
 by_cases c3 : t217 = true
 ·
  subst c3
  have H1 : ((spec_l27Log.f k a0_5 a0_6 a0_7).bind fun t218 => (some t218)) = some r := by rw [if_pos rfl] at H; exact H
  clear H
  have H := H1
  clear H1
  replace H := Option.bind_eq_some_iff.mp H
  obtain ⟨t218, A40, H⟩ := H
  replace H : (some t218) = some r := H
  have A4 := Aside0.mk A40
  clear A40
  obtain rfl := Option.some.inj H
  go_enter Tryd.func14, Tryd.ntmps14
  go_wp2_with (first | ((with_reducible refine gate_dst (N := 1) rfl ?_); refine box_event ?hg (N := 1) ?hd (cs := #[.slice A0_0 l0_0.length c0_0, .slice A0_1 l0_1.length c0_1, .slice A0_2 l0_2.length c0_2, .int .i64 a0_3, .int .i64 a0_4, .string a0_5, .string a0_6, .int .i64 a0_7]) (t := 37) ?hr ?_; (case hd => rfl); (case hg => rfl); (case hr => first | (go_simp; done) | (go_simp; rfl)); intro gb216 hg w5 hbox hb; have BK216 := Aside0.mk (hbox); have GW216 := Aside0.mk ((bz_ hg (lb0_ HB.out))); have GE216 := Aside0.mk ((bz_ hg (lb0_ HB.out))); replace HB := Aside0.mk (below_step (lb0_ HB.out) hb); clear hb hbox hg; obtain ⟨hcz6_0, hcz6_1, hcz6_2, hcz6_3, hcz6_4, hcz6_5, hcz6_6, hcz6_7⟩ := cz8_ BK216.out; obtain ⟨hfz6_0, hfz6_1, hfz6_2, hfz6_3, hfz6_4, hfz6_5, hfz6_6, hfz6_7⟩ := fz8_ BK216.out) | ((with_reducible refine gate_callee (f := 31) rfl ?_); refine ga_ (some 5) Tryd.func31 #[.agg #[.slice A0_0 l0_0.length c0_0, .slice A0_1 l0_1.length c0_1, .slice A0_2 l0_2.length c0_2, .int .i64 a0_3, .int .i64 a0_4]] ?_; (with_reducible refine (spec_l25Good.calls k _ _ l0_0 _ _ l0_1 _ _ l0_2 a0_3 a0_4 true _ ?side1 ?side2 ?side3 ?side4 ?side5 ?side6 A2.out).mono ?_); (case side1 => exact kc_ (Kd.C_below HR0_0.out HB.out)); (case side2 => exact HC0_0.out); (case side3 => exact kc_ (Kd.C_below HR0_1.out HB.out)); (case side4 => exact HC0_1.out); (case side5 => exact kc_ (Kd.C_below HR0_2.out HB.out)); (case side6 => exact HC0_2.out); rintro e w7 ⟨rfl, hb⟩; refine ⟨_, rfl, ?_⟩; replace BK216 := Aside0.mk (bb_ (bk_ BK216.out) hb); replace HB := Aside0.mk (below_step (lb1_ HB.out GE216.out) hb); (try clear hb); (try clear hb2); (try clear hk); (try clear hi); obtain ⟨hcz8_0, hcz8_1, hcz8_2, hcz8_3, hcz8_4, hcz8_5, hcz8_6, hcz8_7⟩ := cz8_ BK216.out; obtain ⟨hfz8_0, hfz8_1, hfz8_2, hfz8_3, hfz8_4, hfz8_5, hfz8_6, hfz8_7⟩ := fz8_ BK216.out) | (go_at_call 32; (with_reducible refine (spec_l27Log.calls k a0_5 a0_6 a0_7 t218 _ A4.out).mono ?_); rintro e w9 ⟨rfl, hb⟩; replace BK216 := Aside0.mk (bb_ (bk_ BK216.out) hb); replace HB := Aside0.mk (below_step (lb1_ HB.out GE216.out) hb); (try clear hb); (try clear hb2); (try clear hk); (try clear hi)))
  go_ret
  exact ⟨rr_, lb1_ HB.out GE216.out⟩
 ·
  replace c3 := Bool.eq_false_iff.mpr c3
  subst c3
  have H1 : (some false) = some r := by rw [if_neg (show ¬ (false = true) by decide)] at H; exact H
  clear H
  have H := H1
  clear H1
  obtain rfl := Option.some.inj H
  go_enter Tryd.func14, Tryd.ntmps14
  go_wp2_with (first | ((with_reducible refine gate_dst (N := 1) rfl ?_); refine box_event ?hg (N := 1) ?hd (cs := #[.slice A0_0 l0_0.length c0_0, .slice A0_1 l0_1.length c0_1, .slice A0_2 l0_2.length c0_2, .int .i64 a0_3, .int .i64 a0_4, .string a0_5, .string a0_6, .int .i64 a0_7]) (t := 37) ?hr ?_; (case hd => rfl); (case hg => rfl); (case hr => first | (go_simp; done) | (go_simp; rfl)); intro gb216 hg w10 hbox hb; have BK216 := Aside0.mk (hbox); have GW216 := Aside0.mk ((bz_ hg (lb0_ HB.out))); have GE216 := Aside0.mk ((bz_ hg (lb0_ HB.out))); replace HB := Aside0.mk (below_step (lb0_ HB.out) hb); clear hb hbox hg; obtain ⟨hcz11_0, hcz11_1, hcz11_2, hcz11_3, hcz11_4, hcz11_5, hcz11_6, hcz11_7⟩ := cz8_ BK216.out; obtain ⟨hfz11_0, hfz11_1, hfz11_2, hfz11_3, hfz11_4, hfz11_5, hfz11_6, hfz11_7⟩ := fz8_ BK216.out) | ((with_reducible refine gate_callee (f := 31) rfl ?_); refine ga_ (some 5) Tryd.func31 #[.agg #[.slice A0_0 l0_0.length c0_0, .slice A0_1 l0_1.length c0_1, .slice A0_2 l0_2.length c0_2, .int .i64 a0_3, .int .i64 a0_4]] ?_; (with_reducible refine (spec_l25Good.calls k _ _ l0_0 _ _ l0_1 _ _ l0_2 a0_3 a0_4 false _ ?side1 ?side2 ?side3 ?side4 ?side5 ?side6 A2.out).mono ?_); (case side1 => exact kc_ (Kd.C_below HR0_0.out HB.out)); (case side2 => exact HC0_0.out); (case side3 => exact kc_ (Kd.C_below HR0_1.out HB.out)); (case side4 => exact HC0_1.out); (case side5 => exact kc_ (Kd.C_below HR0_2.out HB.out)); (case side6 => exact HC0_2.out); rintro e w12 ⟨rfl, hb⟩; refine ⟨_, rfl, ?_⟩; replace BK216 := Aside0.mk (bb_ (bk_ BK216.out) hb); replace HB := Aside0.mk (below_step (lb1_ HB.out GE216.out) hb); (try clear hb); (try clear hb2); (try clear hk); (try clear hi)))
  go_ret
  exact ⟨rr_, lb1_ HB.out GE216.out⟩
end Go.Proofs.YtckigdechhmegaaDoor.Pr

namespace Go.Proofs.YtckigdechhmegaaDoor.Pr
open Go.RowKit Go.Proofs.YtckigdechhmegaaDoorW.PrintWords Go.Proofs.YtckigdechhmegaaDoorW.PrintLast Go.Proofs.YtckigdechhmegaaDoorW.PrintMore
attribute [local go_sem] max2_int min2_int max_two min_two max_three min_three max_four min_four sc_in sx_in   -- for this text's walks alone
set_option linter.unusedVariables false
set_option linter.unusedSimpArgs false
def spec_l4Text.f (k : Nat) (a0_0 : Int) (a0_1 : Int) (a0_2 : Int) (a0_3 : Int) (a0_4 : Int) : Option (ByteArray) := (spec_l1Num.f k a0_0).bind fun t469 => (if 4 + t469.size ≤ 9223372036854775807 then (if (sc (⟨#[108, 101, 103, 32]⟩ : ByteArray) t469).size + 1 ≤ 9223372036854775807 then ((spec_l1Num.f k a0_1).bind fun t470 => (if (sc (sc (⟨#[108, 101, 103, 32]⟩ : ByteArray) t469) (⟨#[45]⟩ : ByteArray)).size + t470.size ≤ 9223372036854775807 then (if (sc (sc (sc (⟨#[108, 101, 103, 32]⟩ : ByteArray) t469) (⟨#[45]⟩ : ByteArray)) t470).size + 6 ≤ 9223372036854775807 then ((spec_l1Num.f k a0_2).bind fun t471 => (if (sc (sc (sc (sc (⟨#[108, 101, 103, 32]⟩ : ByteArray) t469) (⟨#[45]⟩ : ByteArray)) t470) (⟨#[32, 116, 97, 112, 101, 32]⟩ : ByteArray)).size + t471.size ≤ 9223372036854775807 then (if (sc (sc (sc (sc (sc (⟨#[108, 101, 103, 32]⟩ : ByteArray) t469) (⟨#[45]⟩ : ByteArray)) t470) (⟨#[32, 116, 97, 112, 101, 32]⟩ : ByteArray)) t471).size + 9 ≤ 9223372036854775807 then ((spec_l1Num.f k a0_3).bind fun t472 => (if (sc (sc (sc (sc (sc (sc (⟨#[108, 101, 103, 32]⟩ : ByteArray) t469) (⟨#[45]⟩ : ByteArray)) t470) (⟨#[32, 116, 97, 112, 101, 32]⟩ : ByteArray)) t471) (⟨#[32, 99, 111, 109, 112, 97, 115, 115, 32]⟩ : ByteArray)).size + t472.size ≤ 9223372036854775807 then (if (sc (sc (sc (sc (sc (sc (sc (⟨#[108, 101, 103, 32]⟩ : ByteArray) t469) (⟨#[45]⟩ : ByteArray)) t470) (⟨#[32, 116, 97, 112, 101, 32]⟩ : ByteArray)) t471) (⟨#[32, 99, 111, 109, 112, 97, 115, 115, 32]⟩ : ByteArray)) t472).size + 7 ≤ 9223372036854775807 then (if a0_4 < 0 then (if (sc (sc (sc (sc (sc (sc (sc (sc (⟨#[108, 101, 103, 32]⟩ : ByteArray) t469) (⟨#[45]⟩ : ByteArray)) t470) (⟨#[32, 116, 97, 112, 101, 32]⟩ : ByteArray)) t471) (⟨#[32, 99, 111, 109, 112, 97, 115, 115, 32]⟩ : ByteArray)) t472) (⟨#[32, 115, 108, 111, 112, 101, 32]⟩ : ByteArray)).size + 1 ≤ 9223372036854775807 then ((spec_l1Num.f k (wrap64 (-a0_4))).bind fun t473 => (if (sc (sc (sc (sc (sc (sc (sc (sc (sc (⟨#[108, 101, 103, 32]⟩ : ByteArray) t469) (⟨#[45]⟩ : ByteArray)) t470) (⟨#[32, 116, 97, 112, 101, 32]⟩ : ByteArray)) t471) (⟨#[32, 99, 111, 109, 112, 97, 115, 115, 32]⟩ : ByteArray)) t472) (⟨#[32, 115, 108, 111, 112, 101, 32]⟩ : ByteArray)) (⟨#[45]⟩ : ByteArray)).size + t473.size ≤ 9223372036854775807 then (some (sc (sc (sc (sc (sc (sc (sc (sc (sc (sc (⟨#[108, 101, 103, 32]⟩ : ByteArray) t469) (⟨#[45]⟩ : ByteArray)) t470) (⟨#[32, 116, 97, 112, 101, 32]⟩ : ByteArray)) t471) (⟨#[32, 99, 111, 109, 112, 97, 115, 115, 32]⟩ : ByteArray)) t472) (⟨#[32, 115, 108, 111, 112, 101, 32]⟩ : ByteArray)) (⟨#[45]⟩ : ByteArray)) t473)) else (none))) else (none)) else ((spec_l1Num.f k a0_4).bind fun t474 => (if (sc (sc (sc (sc (sc (sc (sc (sc (⟨#[108, 101, 103, 32]⟩ : ByteArray) t469) (⟨#[45]⟩ : ByteArray)) t470) (⟨#[32, 116, 97, 112, 101, 32]⟩ : ByteArray)) t471) (⟨#[32, 99, 111, 109, 112, 97, 115, 115, 32]⟩ : ByteArray)) t472) (⟨#[32, 115, 108, 111, 112, 101, 32]⟩ : ByteArray)).size + t474.size ≤ 9223372036854775807 then (some (sc (sc (sc (sc (sc (sc (sc (sc (sc (⟨#[108, 101, 103, 32]⟩ : ByteArray) t469) (⟨#[45]⟩ : ByteArray)) t470) (⟨#[32, 116, 97, 112, 101, 32]⟩ : ByteArray)) t471) (⟨#[32, 99, 111, 109, 112, 97, 115, 115, 32]⟩ : ByteArray)) t472) (⟨#[32, 115, 108, 111, 112, 101, 32]⟩ : ByteArray)) t474)) else (none)))) else (none)) else (none))) else (none)) else (none))) else (none)) else (none))) else (none)) else (none))
def spec_l4Text.T1 : Bool × List (List Nat × List Nat) := (true, [([], []), ([0], [0]), ([1], [1]), ([2], [2]), ([3], [3]), ([], []), ([5], [5]), ([6, 2], [6]), ([4, 7], [4, 7]), ([8], [8]), ([], []), ([10], [10]), ([11, 7], [11]), ([9, 12], [9, 12]), ([13], [13]), ([], []), ([15], [15]), ([16, 12], [16]), ([14, 17], [14, 17]), ([18], [18]), ([19, 17, 0, 1, 2, 3, 4, 5, 6, 7, 8, 9, 10, 11, 12, 13, 14, 15, 16, 17, 18, 19], [19])])
def spec_l4Text.B1 : List Nat := [0, 1, 3, 7, 15, 0, 32, 103, 255, 511, 0, 1024, 3303, 8191, 16383, 0, 32768, 105703, 262143, 524287, 1048575]
theorem spec_l4Text.tab1 : rtab .any (opsOf Tryd.f21 1) = spec_l4Text.T1 := by kernel_rfl
theorem spec_l4Text.bits1 : waitsOk spec_l4Text.T1.2 spec_l4Text.B1 = true := by kernel_rfl
abbrev spec_l4Text.mk0 : Array Bool := #[false, false, false, false, false, false, false, false, false, false, false, false, false, false, false, false, false, false, false, false, false]
abbrev spec_l4Text.mk1 : Array Bool := #[true, false, false, false, false, false, false, false, false, false, false, false, false, false, false, false, false, false, false, false, false]
abbrev spec_l4Text.mk2 : Array Bool := #[true, false, false, false, false, true, false, false, false, false, false, false, false, false, false, false, false, false, false, false, false]
abbrev spec_l4Text.mk3 : Array Bool := #[true, false, false, false, false, true, false, false, false, false, true, false, false, false, false, false, false, false, false, false, false]
abbrev spec_l4Text.mk4 : Array Bool := #[true, false, false, false, false, true, false, false, false, false, true, false, false, false, false, true, false, false, false, false, false]
abbrev spec_l4Text.mk5 : Array Bool := #[true, true, false, false, false, true, false, false, false, false, true, false, false, false, false, true, false, false, false, false, false]
abbrev spec_l4Text.mk6 : Array Bool := #[true, true, false, false, false, true, true, false, false, false, true, false, false, false, false, true, false, false, false, false, false]
abbrev spec_l4Text.mk7 : Array Bool := #[true, true, false, false, false, true, true, false, false, false, true, true, false, false, false, true, false, false, false, false, false]
abbrev spec_l4Text.mk8 : Array Bool := #[true, true, false, false, false, true, true, false, false, false, true, true, false, false, false, true, true, false, false, false, false]
abbrev spec_l4Text.mk9 : Array Bool := #[true, true, true, false, false, true, true, false, false, false, true, true, false, false, false, true, true, false, false, false, false]
abbrev spec_l4Text.mk10 : Array Bool := #[true, true, true, true, false, true, true, false, false, false, true, true, false, false, false, true, true, false, false, false, false]
abbrev spec_l4Text.mk11 : Array Bool := #[true, true, true, true, true, true, true, false, false, false, true, true, false, false, false, true, true, false, false, false, false]
abbrev spec_l4Text.mk12 : Array Bool := #[true, true, true, true, true, true, true, true, false, false, true, true, false, false, false, true, true, false, false, false, false]
abbrev spec_l4Text.mk13 : Array Bool := #[true, true, true, true, true, true, true, true, true, false, true, true, false, false, false, true, true, false, false, false, false]
abbrev spec_l4Text.mk14 : Array Bool := #[true, true, true, true, true, true, true, true, true, true, true, true, false, false, false, true, true, false, false, false, false]
abbrev spec_l4Text.mk15 : Array Bool := #[true, true, true, true, true, true, true, true, true, true, true, true, true, false, false, true, true, false, false, false, false]
abbrev spec_l4Text.mk16 : Array Bool := #[true, true, true, true, true, true, true, true, true, true, true, true, true, true, false, true, true, false, false, false, false]
abbrev spec_l4Text.mk17 : Array Bool := #[true, true, true, true, true, true, true, true, true, true, true, true, true, true, true, true, true, false, false, false, false]
abbrev spec_l4Text.mk18 : Array Bool := #[true, true, true, true, true, true, true, true, true, true, true, true, true, true, true, true, true, true, false, false, false]
abbrev spec_l4Text.mk19 : Array Bool := #[true, true, true, true, true, true, true, true, true, true, true, true, true, true, true, true, true, true, true, false, false]
abbrev spec_l4Text.mk20 : Array Bool := #[true, true, true, true, true, true, true, true, true, true, true, true, true, true, true, true, true, true, true, true, false]
abbrev spec_l4Text.mk21 : Array Bool := #[true, true, true, true, true, true, true, true, true, true, true, true, true, true, true, true, true, true, true, true, true]
theorem spec_l4Text.calls (k : Nat) (a0_0 : Int) (a0_1 : Int) (a0_2 : Int) (a0_3 : Int) (a0_4 : Int) (r : ByteArray) (w : World) (h : spec_l4Text.f k a0_0 a0_1 a0_2 a0_3 a0_4 = some r) :
  Calls Tryd.prog 21 #[.agg #[.int .i64 a0_0, .int .i64 a0_1, .int .i64 a0_2, .int .i64 a0_3, .int .i64 a0_4]] w fun e w' => e = .returned (.string r) ∧ Below w.heap.size w w' := by
 have hu53 := Tryd.underlying53
 have HB := Aside0.mk (Below.refl w.heap.size w)
 have H : ((spec_l1Num.f k a0_0).bind fun t469 => (if 4 + t469.size ≤ 9223372036854775807 then (if (sc (⟨#[108, 101, 103, 32]⟩ : ByteArray) t469).size + 1 ≤ 9223372036854775807 then ((spec_l1Num.f k a0_1).bind fun t470 => (if (sc (sc (⟨#[108, 101, 103, 32]⟩ : ByteArray) t469) (⟨#[45]⟩ : ByteArray)).size + t470.size ≤ 9223372036854775807 then (if (sc (sc (sc (⟨#[108, 101, 103, 32]⟩ : ByteArray) t469) (⟨#[45]⟩ : ByteArray)) t470).size + 6 ≤ 9223372036854775807 then ((spec_l1Num.f k a0_2).bind fun t471 => (if (sc (sc (sc (sc (⟨#[108, 101, 103, 32]⟩ : ByteArray) t469) (⟨#[45]⟩ : ByteArray)) t470) (⟨#[32, 116, 97, 112, 101, 32]⟩ : ByteArray)).size + t471.size ≤ 9223372036854775807 then (if (sc (sc (sc (sc (sc (⟨#[108, 101, 103, 32]⟩ : ByteArray) t469) (⟨#[45]⟩ : ByteArray)) t470) (⟨#[32, 116, 97, 112, 101, 32]⟩ : ByteArray)) t471).size + 9 ≤ 9223372036854775807 then ((spec_l1Num.f k a0_3).bind fun t472 => (if (sc (sc (sc (sc (sc (sc (⟨#[108, 101, 103, 32]⟩ : ByteArray) t469) (⟨#[45]⟩ : ByteArray)) t470) (⟨#[32, 116, 97, 112, 101, 32]⟩ : ByteArray)) t471) (⟨#[32, 99, 111, 109, 112, 97, 115, 115, 32]⟩ : ByteArray)).size + t472.size ≤ 9223372036854775807 then (if (sc (sc (sc (sc (sc (sc (sc (⟨#[108, 101, 103, 32]⟩ : ByteArray) t469) (⟨#[45]⟩ : ByteArray)) t470) (⟨#[32, 116, 97, 112, 101, 32]⟩ : ByteArray)) t471) (⟨#[32, 99, 111, 109, 112, 97, 115, 115, 32]⟩ : ByteArray)) t472).size + 7 ≤ 9223372036854775807 then (if a0_4 < 0 then (if (sc (sc (sc (sc (sc (sc (sc (sc (⟨#[108, 101, 103, 32]⟩ : ByteArray) t469) (⟨#[45]⟩ : ByteArray)) t470) (⟨#[32, 116, 97, 112, 101, 32]⟩ : ByteArray)) t471) (⟨#[32, 99, 111, 109, 112, 97, 115, 115, 32]⟩ : ByteArray)) t472) (⟨#[32, 115, 108, 111, 112, 101, 32]⟩ : ByteArray)).size + 1 ≤ 9223372036854775807 then ((spec_l1Num.f k (wrap64 (-a0_4))).bind fun t473 => (if (sc (sc (sc (sc (sc (sc (sc (sc (sc (⟨#[108, 101, 103, 32]⟩ : ByteArray) t469) (⟨#[45]⟩ : ByteArray)) t470) (⟨#[32, 116, 97, 112, 101, 32]⟩ : ByteArray)) t471) (⟨#[32, 99, 111, 109, 112, 97, 115, 115, 32]⟩ : ByteArray)) t472) (⟨#[32, 115, 108, 111, 112, 101, 32]⟩ : ByteArray)) (⟨#[45]⟩ : ByteArray)).size + t473.size ≤ 9223372036854775807 then (some (sc (sc (sc (sc (sc (sc (sc (sc (sc (sc (⟨#[108, 101, 103, 32]⟩ : ByteArray) t469) (⟨#[45]⟩ : ByteArray)) t470) (⟨#[32, 116, 97, 112, 101, 32]⟩ : ByteArray)) t471) (⟨#[32, 99, 111, 109, 112, 97, 115, 115, 32]⟩ : ByteArray)) t472) (⟨#[32, 115, 108, 111, 112, 101, 32]⟩ : ByteArray)) (⟨#[45]⟩ : ByteArray)) t473)) else (none))) else (none)) else ((spec_l1Num.f k a0_4).bind fun t474 => (if (sc (sc (sc (sc (sc (sc (sc (sc (⟨#[108, 101, 103, 32]⟩ : ByteArray) t469) (⟨#[45]⟩ : ByteArray)) t470) (⟨#[32, 116, 97, 112, 101, 32]⟩ : ByteArray)) t471) (⟨#[32, 99, 111, 109, 112, 97, 115, 115, 32]⟩ : ByteArray)) t472) (⟨#[32, 115, 108, 111, 112, 101, 32]⟩ : ByteArray)).size + t474.size ≤ 9223372036854775807 then (some (sc (sc (sc (sc (sc (sc (sc (sc (sc (⟨#[108, 101, 103, 32]⟩ : ByteArray) t469) (⟨#[45]⟩ : ByteArray)) t470) (⟨#[32, 116, 97, 112, 101, 32]⟩ : ByteArray)) t471) (⟨#[32, 99, 111, 109, 112, 97, 115, 115, 32]⟩ : ByteArray)) t472) (⟨#[32, 115, 108, 111, 112, 101, 32]⟩ : ByteArray)) t474)) else (none)))) else (none)) else (none))) else (none)) else (none))) else (none)) else (none))) else (none)) else (none))) = some r := h
 clear h
 replace H := Option.bind_eq_some_iff.mp H
 obtain ⟨t469, A20, H⟩ := H
 replace H : (if 4 + t469.size ≤ 9223372036854775807 then (if (sc (⟨#[108, 101, 103, 32]⟩ : ByteArray) t469).size + 1 ≤ 9223372036854775807 then ((spec_l1Num.f k a0_1).bind fun t470 => (if (sc (sc (⟨#[108, 101, 103, 32]⟩ : ByteArray) t469) (⟨#[45]⟩ : ByteArray)).size + t470.size ≤ 9223372036854775807 then (if (sc (sc (sc (⟨#[108, 101, 103, 32]⟩ : ByteArray) t469) (⟨#[45]⟩ : ByteArray)) t470).size + 6 ≤ 9223372036854775807 then ((spec_l1Num.f k a0_2).bind fun t471 => (if (sc (sc (sc (sc (⟨#[108, 101, 103, 32]⟩ : ByteArray) t469) (⟨#[45]⟩ : ByteArray)) t470) (⟨#[32, 116, 97, 112, 101, 32]⟩ : ByteArray)).size + t471.size ≤ 9223372036854775807 then (if (sc (sc (sc (sc (sc (⟨#[108, 101, 103, 32]⟩ : ByteArray) t469) (⟨#[45]⟩ : ByteArray)) t470) (⟨#[32, 116, 97, 112, 101, 32]⟩ : ByteArray)) t471).size + 9 ≤ 9223372036854775807 then ((spec_l1Num.f k a0_3).bind fun t472 => (if (sc (sc (sc (sc (sc (sc (⟨#[108, 101, 103, 32]⟩ : ByteArray) t469) (⟨#[45]⟩ : ByteArray)) t470) (⟨#[32, 116, 97, 112, 101, 32]⟩ : ByteArray)) t471) (⟨#[32, 99, 111, 109, 112, 97, 115, 115, 32]⟩ : ByteArray)).size + t472.size ≤ 9223372036854775807 then (if (sc (sc (sc (sc (sc (sc (sc (⟨#[108, 101, 103, 32]⟩ : ByteArray) t469) (⟨#[45]⟩ : ByteArray)) t470) (⟨#[32, 116, 97, 112, 101, 32]⟩ : ByteArray)) t471) (⟨#[32, 99, 111, 109, 112, 97, 115, 115, 32]⟩ : ByteArray)) t472).size + 7 ≤ 9223372036854775807 then (if a0_4 < 0 then (if (sc (sc (sc (sc (sc (sc (sc (sc (⟨#[108, 101, 103, 32]⟩ : ByteArray) t469) (⟨#[45]⟩ : ByteArray)) t470) (⟨#[32, 116, 97, 112, 101, 32]⟩ : ByteArray)) t471) (⟨#[32, 99, 111, 109, 112, 97, 115, 115, 32]⟩ : ByteArray)) t472) (⟨#[32, 115, 108, 111, 112, 101, 32]⟩ : ByteArray)).size + 1 ≤ 9223372036854775807 then ((spec_l1Num.f k (wrap64 (-a0_4))).bind fun t473 => (if (sc (sc (sc (sc (sc (sc (sc (sc (sc (⟨#[108, 101, 103, 32]⟩ : ByteArray) t469) (⟨#[45]⟩ : ByteArray)) t470) (⟨#[32, 116, 97, 112, 101, 32]⟩ : ByteArray)) t471) (⟨#[32, 99, 111, 109, 112, 97, 115, 115, 32]⟩ : ByteArray)) t472) (⟨#[32, 115, 108, 111, 112, 101, 32]⟩ : ByteArray)) (⟨#[45]⟩ : ByteArray)).size + t473.size ≤ 9223372036854775807 then (some (sc (sc (sc (sc (sc (sc (sc (sc (sc (sc (⟨#[108, 101, 103, 32]⟩ : ByteArray) t469) (⟨#[45]⟩ : ByteArray)) t470) (⟨#[32, 116, 97, 112, 101, 32]⟩ : ByteArray)) t471) (⟨#[32, 99, 111, 109, 112, 97, 115, 115, 32]⟩ : ByteArray)) t472) (⟨#[32, 115, 108, 111, 112, 101, 32]⟩ : ByteArray)) (⟨#[45]⟩ : ByteArray)) t473)) else (none))) else (none)) else ((spec_l1Num.f k a0_4).bind fun t474 => (if (sc (sc (sc (sc (sc (sc (sc (sc (⟨#[108, 101, 103, 32]⟩ : ByteArray) t469) (⟨#[45]⟩ : ByteArray)) t470) (⟨#[32, 116, 97, 112, 101, 32]⟩ : ByteArray)) t471) (⟨#[32, 99, 111, 109, 112, 97, 115, 115, 32]⟩ : ByteArray)) t472) (⟨#[32, 115, 108, 111, 112, 101, 32]⟩ : ByteArray)).size + t474.size ≤ 9223372036854775807 then (some (sc (sc (sc (sc (sc (sc (sc (sc (sc (⟨#[108, 101, 103, 32]⟩ : ByteArray) t469) (⟨#[45]⟩ : ByteArray)) t470) (⟨#[32, 116, 97, 112, 101, 32]⟩ : ByteArray)) t471) (⟨#[32, 99, 111, 109, 112, 97, 115, 115, 32]⟩ : ByteArray)) t472) (⟨#[32, 115, 108, 111, 112, 101, 32]⟩ : ByteArray)) t474)) else (none)))) else (none)) else (none))) else (none)) else (none))) else (none)) else (none))) else (none)) else (none)) = some r := H
 have A2 := Aside0.mk A20
 clear A20
 by_cases c3 : 4 + t469.size ≤ 9223372036854775807
 ·
  rw [if_pos c3] at H
  have c3b0 := eq_true c3
  have c3b1 : decide (4 + t469.size ≤ 9223372036854775807) = true := decide_eq_true c3
  try have c3b2 : (9223372036854775807 < 4 + t469.size) = False := eq_false (Nat.not_lt.2 c3)
  by_cases c4 : (sc (⟨#[108, 101, 103, 32]⟩ : ByteArray) t469).size + 1 ≤ 9223372036854775807
  ·
   rw [if_pos c4] at H
   have c4b0 := eq_true c4
   have c4b1 : decide ((sc (⟨#[108, 101, 103, 32]⟩ : ByteArray) t469).size + 1 ≤ 9223372036854775807) = true := decide_eq_true c4
   try have c4b2 : (9223372036854775807 < (sc (⟨#[108, 101, 103, 32]⟩ : ByteArray) t469).size + 1) = False := eq_false (Nat.not_lt.2 c4)
   replace H := Option.bind_eq_some_iff.mp H
   obtain ⟨t470, A50, H⟩ := H
   replace H : (if (sc (sc (⟨#[108, 101, 103, 32]⟩ : ByteArray) t469) (⟨#[45]⟩ : ByteArray)).size + t470.size ≤ 9223372036854775807 then (if (sc (sc (sc (⟨#[108, 101, 103, 32]⟩ : ByteArray) t469) (⟨#[45]⟩ : ByteArray)) t470).size + 6 ≤ 9223372036854775807 then ((spec_l1Num.f k a0_2).bind fun t471 => (if (sc (sc (sc (sc (⟨#[108, 101, 103, 32]⟩ : ByteArray) t469) (⟨#[45]⟩ : ByteArray)) t470) (⟨#[32, 116, 97, 112, 101, 32]⟩ : ByteArray)).size + t471.size ≤ 9223372036854775807 then (if (sc (sc (sc (sc (sc (⟨#[108, 101, 103, 32]⟩ : ByteArray) t469) (⟨#[45]⟩ : ByteArray)) t470) (⟨#[32, 116, 97, 112, 101, 32]⟩ : ByteArray)) t471).size + 9 ≤ 9223372036854775807 then ((spec_l1Num.f k a0_3).bind fun t472 => (if (sc (sc (sc (sc (sc (sc (⟨#[108, 101, 103, 32]⟩ : ByteArray) t469) (⟨#[45]⟩ : ByteArray)) t470) (⟨#[32, 116, 97, 112, 101, 32]⟩ : ByteArray)) t471) (⟨#[32, 99, 111, 109, 112, 97, 115, 115, 32]⟩ : ByteArray)).size + t472.size ≤ 9223372036854775807 then (if (sc (sc (sc (sc (sc (sc (sc (⟨#[108, 101, 103, 32]⟩ : ByteArray) t469) (⟨#[45]⟩ : ByteArray)) t470) (⟨#[32, 116, 97, 112, 101, 32]⟩ : ByteArray)) t471) (⟨#[32, 99, 111, 109, 112, 97, 115, 115, 32]⟩ : ByteArray)) t472).size + 7 ≤ 9223372036854775807 then (if a0_4 < 0 then (if (sc (sc (sc (sc (sc (sc (sc (sc (⟨#[108, 101, 103, 32]⟩ : ByteArray) t469) (⟨#[45]⟩ : ByteArray)) t470) (⟨#[32, 116, 97, 112, 101, 32]⟩ : ByteArray)) t471) (⟨#[32, 99, 111, 109, 112, 97, 115, 115, 32]⟩ : ByteArray)) t472) (⟨#[32, 115, 108, 111, 112, 101, 32]⟩ : ByteArray)).size + 1 ≤ 9223372036854775807 then ((spec_l1Num.f k (wrap64 (-a0_4))).bind fun t473 => (if (sc (sc (sc (sc (sc (sc (sc (sc (sc (⟨#[108, 101, 103, 32]⟩ : ByteArray) t469) (⟨#[45]⟩ : ByteArray)) t470) (⟨#[32, 116, 97, 112, 101, 32]⟩ : ByteArray)) t471) (⟨#[32, 99, 111, 109, 112, 97, 115, 115, 32]⟩ : ByteArray)) t472) (⟨#[32, 115, 108, 111, 112, 101, 32]⟩ : ByteArray)) (⟨#[45]⟩ : ByteArray)).size + t473.size ≤ 9223372036854775807 then (some (sc (sc (sc (sc (sc (sc (sc (sc (sc (sc (⟨#[108, 101, 103, 32]⟩ : ByteArray) t469) (⟨#[45]⟩ : ByteArray)) t470) (⟨#[32, 116, 97, 112, 101, 32]⟩ : ByteArray)) t471) (⟨#[32, 99, 111, 109, 112, 97, 115, 115, 32]⟩ : ByteArray)) t472) (⟨#[32, 115, 108, 111, 112, 101, 32]⟩ : ByteArray)) (⟨#[45]⟩ : ByteArray)) t473)) else (none))) else (none)) else ((spec_l1Num.f k a0_4).bind fun t474 => (if (sc (sc (sc (sc (sc (sc (sc (sc (⟨#[108, 101, 103, 32]⟩ : ByteArray) t469) (⟨#[45]⟩ : ByteArray)) t470) (⟨#[32, 116, 97, 112, 101, 32]⟩ : ByteArray)) t471) (⟨#[32, 99, 111, 109, 112, 97, 115, 115, 32]⟩ : ByteArray)) t472) (⟨#[32, 115, 108, 111, 112, 101, 32]⟩ : ByteArray)).size + t474.size ≤ 9223372036854775807 then (some (sc (sc (sc (sc (sc (sc (sc (sc (sc (⟨#[108, 101, 103, 32]⟩ : ByteArray) t469) (⟨#[45]⟩ : ByteArray)) t470) (⟨#[32, 116, 97, 112, 101, 32]⟩ : ByteArray)) t471) (⟨#[32, 99, 111, 109, 112, 97, 115, 115, 32]⟩ : ByteArray)) t472) (⟨#[32, 115, 108, 111, 112, 101, 32]⟩ : ByteArray)) t474)) else (none)))) else (none)) else (none))) else (none)) else (none))) else (none)) else (none)) = some r := H
   have A5 := Aside0.mk A50
   clear A50
   by_cases c6 : (sc (sc (⟨#[108, 101, 103, 32]⟩ : ByteArray) t469) (⟨#[45]⟩ : ByteArray)).size + t470.size ≤ 9223372036854775807
   ·
    rw [if_pos c6] at H
    have c6b0 := eq_true c6
    have c6b1 : decide ((sc (sc (⟨#[108, 101, 103, 32]⟩ : ByteArray) t469) (⟨#[45]⟩ : ByteArray)).size + t470.size ≤ 9223372036854775807) = true := decide_eq_true c6
    try have c6b2 : (9223372036854775807 < (sc (sc (⟨#[108, 101, 103, 32]⟩ : ByteArray) t469) (⟨#[45]⟩ : ByteArray)).size + t470.size) = False := eq_false (Nat.not_lt.2 c6)
    by_cases c7 : (sc (sc (sc (⟨#[108, 101, 103, 32]⟩ : ByteArray) t469) (⟨#[45]⟩ : ByteArray)) t470).size + 6 ≤ 9223372036854775807
    ·
     rw [if_pos c7] at H
     have c7b0 := eq_true c7
     have c7b1 : decide ((sc (sc (sc (⟨#[108, 101, 103, 32]⟩ : ByteArray) t469) (⟨#[45]⟩ : ByteArray)) t470).size + 6 ≤ 9223372036854775807) = true := decide_eq_true c7
     try have c7b2 : (9223372036854775807 < (sc (sc (sc (⟨#[108, 101, 103, 32]⟩ : ByteArray) t469) (⟨#[45]⟩ : ByteArray)) t470).size + 6) = False := eq_false (Nat.not_lt.2 c7)
     replace H := Option.bind_eq_some_iff.mp H
     obtain ⟨t471, A80, H⟩ := H
     replace H : (if (sc (sc (sc (sc (⟨#[108, 101, 103, 32]⟩ : ByteArray) t469) (⟨#[45]⟩ : ByteArray)) t470) (⟨#[32, 116, 97, 112, 101, 32]⟩ : ByteArray)).size + t471.size ≤ 9223372036854775807 then (if (sc (sc (sc (sc (sc (⟨#[108, 101, 103, 32]⟩ : ByteArray) t469) (⟨#[45]⟩ : ByteArray)) t470) (⟨#[32, 116, 97, 112, 101, 32]⟩ : ByteArray)) t471).size + 9 ≤ 9223372036854775807 then ((spec_l1Num.f k a0_3).bind fun t472 => (if (sc (sc (sc (sc (sc (sc (⟨#[108, 101, 103, 32]⟩ : ByteArray) t469) (⟨#[45]⟩ : ByteArray)) t470) (⟨#[32, 116, 97, 112, 101, 32]⟩ : ByteArray)) t471) (⟨#[32, 99, 111, 109, 112, 97, 115, 115, 32]⟩ : ByteArray)).size + t472.size ≤ 9223372036854775807 then (if (sc (sc (sc (sc (sc (sc (sc (⟨#[108, 101, 103, 32]⟩ : ByteArray) t469) (⟨#[45]⟩ : ByteArray)) t470) (⟨#[32, 116, 97, 112, 101, 32]⟩ : ByteArray)) t471) (⟨#[32, 99, 111, 109, 112, 97, 115, 115, 32]⟩ : ByteArray)) t472).size + 7 ≤ 9223372036854775807 then (if a0_4 < 0 then (if (sc (sc (sc (sc (sc (sc (sc (sc (⟨#[108, 101, 103, 32]⟩ : ByteArray) t469) (⟨#[45]⟩ : ByteArray)) t470) (⟨#[32, 116, 97, 112, 101, 32]⟩ : ByteArray)) t471) (⟨#[32, 99, 111, 109, 112, 97, 115, 115, 32]⟩ : ByteArray)) t472) (⟨#[32, 115, 108, 111, 112, 101, 32]⟩ : ByteArray)).size + 1 ≤ 9223372036854775807 then ((spec_l1Num.f k (wrap64 (-a0_4))).bind fun t473 => (if (sc (sc (sc (sc (sc (sc (sc (sc (sc (⟨#[108, 101, 103, 32]⟩ : ByteArray) t469) (⟨#[45]⟩ : ByteArray)) t470) (⟨#[32, 116, 97, 112, 101, 32]⟩ : ByteArray)) t471) (⟨#[32, 99, 111, 109, 112, 97, 115, 115, 32]⟩ : ByteArray)) t472) (⟨#[32, 115, 108, 111, 112, 101, 32]⟩ : ByteArray)) (⟨#[45]⟩ : ByteArray)).size + t473.size ≤ 9223372036854775807 then (some (sc (sc (sc (sc (sc (sc (sc (sc (sc (sc (⟨#[108, 101, 103, 32]⟩ : ByteArray) t469) (⟨#[45]⟩ : ByteArray)) t470) (⟨#[32, 116, 97, 112, 101, 32]⟩ : ByteArray)) t471) (⟨#[32, 99, 111, 109, 112, 97, 115, 115, 32]⟩ : ByteArray)) t472) (⟨#[32, 115, 108, 111, 112, 101, 32]⟩ : ByteArray)) (⟨#[45]⟩ : ByteArray)) t473)) else (none))) else (none)) else ((spec_l1Num.f k a0_4).bind fun t474 => (if (sc (sc (sc (sc (sc (sc (sc (sc (⟨#[108, 101, 103, 32]⟩ : ByteArray) t469) (⟨#[45]⟩ : ByteArray)) t470) (⟨#[32, 116, 97, 112, 101, 32]⟩ : ByteArray)) t471) (⟨#[32, 99, 111, 109, 112, 97, 115, 115, 32]⟩ : ByteArray)) t472) (⟨#[32, 115, 108, 111, 112, 101, 32]⟩ : ByteArray)).size + t474.size ≤ 9223372036854775807 then (some (sc (sc (sc (sc (sc (sc (sc (sc (sc (⟨#[108, 101, 103, 32]⟩ : ByteArray) t469) (⟨#[45]⟩ : ByteArray)) t470) (⟨#[32, 116, 97, 112, 101, 32]⟩ : ByteArray)) t471) (⟨#[32, 99, 111, 109, 112, 97, 115, 115, 32]⟩ : ByteArray)) t472) (⟨#[32, 115, 108, 111, 112, 101, 32]⟩ : ByteArray)) t474)) else (none)))) else (none)) else (none))) else (none)) else (none)) = some r := H
     have A8 := Aside0.mk A80
     clear A80
     by_cases c9 : (sc (sc (sc (sc (⟨#[108, 101, 103, 32]⟩ : ByteArray) t469) (⟨#[45]⟩ : ByteArray)) t470) (⟨#[32, 116, 97, 112, 101, 32]⟩ : ByteArray)).size + t471.size ≤ 9223372036854775807
     ·
      rw [if_pos c9] at H
      have c9b0 := eq_true c9
      have c9b1 : decide ((sc (sc (sc (sc (⟨#[108, 101, 103, 32]⟩ : ByteArray) t469) (⟨#[45]⟩ : ByteArray)) t470) (⟨#[32, 116, 97, 112, 101, 32]⟩ : ByteArray)).size + t471.size ≤ 9223372036854775807) = true := decide_eq_true c9
      try have c9b2 : (9223372036854775807 < (sc (sc (sc (sc (⟨#[108, 101, 103, 32]⟩ : ByteArray) t469) (⟨#[45]⟩ : ByteArray)) t470) (⟨#[32, 116, 97, 112, 101, 32]⟩ : ByteArray)).size + t471.size) = False := eq_false (Nat.not_lt.2 c9)
      by_cases c10 : (sc (sc (sc (sc (sc (⟨#[108, 101, 103, 32]⟩ : ByteArray) t469) (⟨#[45]⟩ : ByteArray)) t470) (⟨#[32, 116, 97, 112, 101, 32]⟩ : ByteArray)) t471).size + 9 ≤ 9223372036854775807
      ·
       rw [if_pos c10] at H
       have c10b0 := eq_true c10
       have c10b1 : decide ((sc (sc (sc (sc (sc (⟨#[108, 101, 103, 32]⟩ : ByteArray) t469) (⟨#[45]⟩ : ByteArray)) t470) (⟨#[32, 116, 97, 112, 101, 32]⟩ : ByteArray)) t471).size + 9 ≤ 9223372036854775807) = true := decide_eq_true c10
       try have c10b2 : (9223372036854775807 < (sc (sc (sc (sc (sc (⟨#[108, 101, 103, 32]⟩ : ByteArray) t469) (⟨#[45]⟩ : ByteArray)) t470) (⟨#[32, 116, 97, 112, 101, 32]⟩ : ByteArray)) t471).size + 9) = False := eq_false (Nat.not_lt.2 c10)
       replace H := Option.bind_eq_some_iff.mp H
       obtain ⟨t472, A110, H⟩ := H
       replace H : (if (sc (sc (sc (sc (sc (sc (⟨#[108, 101, 103, 32]⟩ : ByteArray) t469) (⟨#[45]⟩ : ByteArray)) t470) (⟨#[32, 116, 97, 112, 101, 32]⟩ : ByteArray)) t471) (⟨#[32, 99, 111, 109, 112, 97, 115, 115, 32]⟩ : ByteArray)).size + t472.size ≤ 9223372036854775807 then (if (sc (sc (sc (sc (sc (sc (sc (⟨#[108, 101, 103, 32]⟩ : ByteArray) t469) (⟨#[45]⟩ : ByteArray)) t470) (⟨#[32, 116, 97, 112, 101, 32]⟩ : ByteArray)) t471) (⟨#[32, 99, 111, 109, 112, 97, 115, 115, 32]⟩ : ByteArray)) t472).size + 7 ≤ 9223372036854775807 then (if a0_4 < 0 then (if (sc (sc (sc (sc (sc (sc (sc (sc (⟨#[108, 101, 103, 32]⟩ : ByteArray) t469) (⟨#[45]⟩ : ByteArray)) t470) (⟨#[32, 116, 97, 112, 101, 32]⟩ : ByteArray)) t471) (⟨#[32, 99, 111, 109, 112, 97, 115, 115, 32]⟩ : ByteArray)) t472) (⟨#[32, 115, 108, 111, 112, 101, 32]⟩ : ByteArray)).size + 1 ≤ 9223372036854775807 then ((spec_l1Num.f k (wrap64 (-a0_4))).bind fun t473 => (if (sc (sc (sc (sc (sc (sc (sc (sc (sc (⟨#[108, 101, 103, 32]⟩ : ByteArray) t469) (⟨#[45]⟩ : ByteArray)) t470) (⟨#[32, 116, 97, 112, 101, 32]⟩ : ByteArray)) t471) (⟨#[32, 99, 111, 109, 112, 97, 115, 115, 32]⟩ : ByteArray)) t472) (⟨#[32, 115, 108, 111, 112, 101, 32]⟩ : ByteArray)) (⟨#[45]⟩ : ByteArray)).size + t473.size ≤ 9223372036854775807 then (some (sc (sc (sc (sc (sc (sc (sc (sc (sc (sc (⟨#[108, 101, 103, 32]⟩ : ByteArray) t469) (⟨#[45]⟩ : ByteArray)) t470) (⟨#[32, 116, 97, 112, 101, 32]⟩ : ByteArray)) t471) (⟨#[32, 99, 111, 109, 112, 97, 115, 115, 32]⟩ : ByteArray)) t472) (⟨#[32, 115, 108, 111, 112, 101, 32]⟩ : ByteArray)) (⟨#[45]⟩ : ByteArray)) t473)) else (none))) else (none)) else ((spec_l1Num.f k a0_4).bind fun t474 => (if (sc (sc (sc (sc (sc (sc (sc (sc (⟨#[108, 101, 103, 32]⟩ : ByteArray) t469) (⟨#[45]⟩ : ByteArray)) t470) (⟨#[32, 116, 97, 112, 101, 32]⟩ : ByteArray)) t471) (⟨#[32, 99, 111, 109, 112, 97, 115, 115, 32]⟩ : ByteArray)) t472) (⟨#[32, 115, 108, 111, 112, 101, 32]⟩ : ByteArray)).size + t474.size ≤ 9223372036854775807 then (some (sc (sc (sc (sc (sc (sc (sc (sc (sc (⟨#[108, 101, 103, 32]⟩ : ByteArray) t469) (⟨#[45]⟩ : ByteArray)) t470) (⟨#[32, 116, 97, 112, 101, 32]⟩ : ByteArray)) t471) (⟨#[32, 99, 111, 109, 112, 97, 115, 115, 32]⟩ : ByteArray)) t472) (⟨#[32, 115, 108, 111, 112, 101, 32]⟩ : ByteArray)) t474)) else (none)))) else (none)) else (none)) = some r := H
       have A11 := Aside0.mk A110
       clear A110
       by_cases c12 : (sc (sc (sc (sc (sc (sc (⟨#[108, 101, 103, 32]⟩ : ByteArray) t469) (⟨#[45]⟩ : ByteArray)) t470) (⟨#[32, 116, 97, 112, 101, 32]⟩ : ByteArray)) t471) (⟨#[32, 99, 111, 109, 112, 97, 115, 115, 32]⟩ : ByteArray)).size + t472.size ≤ 9223372036854775807
       ·
        rw [if_pos c12] at H
        have c12b0 := eq_true c12; have c12b1 : decide ((sc (sc (sc (sc (sc (sc (⟨#[108, 101, 103, 32]⟩ : ByteArray) t469) (⟨#[45]⟩ : ByteArray)) t470) (⟨#[32, 116, 97, 112, 101, 32]⟩ : ByteArray)) t471) (⟨#[32, 99, 111, 109, 112, 97, 115, 115, 32]⟩ : ByteArray)).size + t472.size ≤ 9223372036854775807) = true := decide_eq_true c12
        try have c12b2 : (9223372036854775807 < (sc (sc (sc (sc (sc (sc (⟨#[108, 101, 103, 32]⟩ : ByteArray) t469) (⟨#[45]⟩ : ByteArray)) t470) (⟨#[32, 116, 97, 112, 101, 32]⟩ : ByteArray)) t471) (⟨#[32, 99, 111, 109, 112, 97, 115, 115, 32]⟩ : ByteArray)).size + t472.size) = False := eq_false (Nat.not_lt.2 c12)
        by_cases c13 : (sc (sc (sc (sc (sc (sc (sc (⟨#[108, 101, 103, 32]⟩ : ByteArray) t469) (⟨#[45]⟩ : ByteArray)) t470) (⟨#[32, 116, 97, 112, 101, 32]⟩ : ByteArray)) t471) (⟨#[32, 99, 111, 109, 112, 97, 115, 115, 32]⟩ : ByteArray)) t472).size + 7 ≤ 9223372036854775807
        ·
         rw [if_pos c13] at H
         have c13b0 := eq_true c13; have c13b1 : decide ((sc (sc (sc (sc (sc (sc (sc (⟨#[108, 101, 103, 32]⟩ : ByteArray) t469) (⟨#[45]⟩ : ByteArray)) t470) (⟨#[32, 116, 97, 112, 101, 32]⟩ : ByteArray)) t471) (⟨#[32, 99, 111, 109, 112, 97, 115, 115, 32]⟩ : ByteArray)) t472).size + 7 ≤ 9223372036854775807) = true := decide_eq_true c13
         try have c13b2 : (9223372036854775807 < (sc (sc (sc (sc (sc (sc (sc (⟨#[108, 101, 103, 32]⟩ : ByteArray) t469) (⟨#[45]⟩ : ByteArray)) t470) (⟨#[32, 116, 97, 112, 101, 32]⟩ : ByteArray)) t471) (⟨#[32, 99, 111, 109, 112, 97, 115, 115, 32]⟩ : ByteArray)) t472).size + 7) = False := eq_false (Nat.not_lt.2 c13)
         by_cases c14 : a0_4 < 0
         ·
          rw [if_pos c14] at H
          have c14b0 : decide (a0_4 < 0) = true := decide_eq_true c14; clear c14
          by_cases c15 : (sc (sc (sc (sc (sc (sc (sc (sc (⟨#[108, 101, 103, 32]⟩ : ByteArray) t469) (⟨#[45]⟩ : ByteArray)) t470) (⟨#[32, 116, 97, 112, 101, 32]⟩ : ByteArray)) t471) (⟨#[32, 99, 111, 109, 112, 97, 115, 115, 32]⟩ : ByteArray)) t472) (⟨#[32, 115, 108, 111, 112, 101, 32]⟩ : ByteArray)).size + 1 ≤ 9223372036854775807
          ·
           rw [if_pos c15] at H
           have c15b0 := eq_true c15; have c15b1 : decide ((sc (sc (sc (sc (sc (sc (sc (sc (⟨#[108, 101, 103, 32]⟩ : ByteArray) t469) (⟨#[45]⟩ : ByteArray)) t470) (⟨#[32, 116, 97, 112, 101, 32]⟩ : ByteArray)) t471) (⟨#[32, 99, 111, 109, 112, 97, 115, 115, 32]⟩ : ByteArray)) t472) (⟨#[32, 115, 108, 111, 112, 101, 32]⟩ : ByteArray)).size + 1 ≤ 9223372036854775807) = true := decide_eq_true c15
           try have c15b2 : (9223372036854775807 < (sc (sc (sc (sc (sc (sc (sc (sc (⟨#[108, 101, 103, 32]⟩ : ByteArray) t469) (⟨#[45]⟩ : ByteArray)) t470) (⟨#[32, 116, 97, 112, 101, 32]⟩ : ByteArray)) t471) (⟨#[32, 99, 111, 109, 112, 97, 115, 115, 32]⟩ : ByteArray)) t472) (⟨#[32, 115, 108, 111, 112, 101, 32]⟩ : ByteArray)).size + 1) = False := eq_false (Nat.not_lt.2 c15)
           replace H := Option.bind_eq_some_iff.mp H; obtain ⟨t473, A160, H⟩ := H; replace H : (if (sc (sc (sc (sc (sc (sc (sc (sc (sc (⟨#[108, 101, 103, 32]⟩ : ByteArray) t469) (⟨#[45]⟩ : ByteArray)) t470) (⟨#[32, 116, 97, 112, 101, 32]⟩ : ByteArray)) t471) (⟨#[32, 99, 111, 109, 112, 97, 115, 115, 32]⟩ : ByteArray)) t472) (⟨#[32, 115, 108, 111, 112, 101, 32]⟩ : ByteArray)) (⟨#[45]⟩ : ByteArray)).size + t473.size ≤ 9223372036854775807 then (some (sc (sc (sc (sc (sc (sc (sc (sc (sc (sc (⟨#[108, 101, 103, 32]⟩ : ByteArray) t469) (⟨#[45]⟩ : ByteArray)) t470) (⟨#[32, 116, 97, 112, 101, 32]⟩ : ByteArray)) t471) (⟨#[32, 99, 111, 109, 112, 97, 115, 115, 32]⟩ : ByteArray)) t472) (⟨#[32, 115, 108, 111, 112, 101, 32]⟩ : ByteArray)) (⟨#[45]⟩ : ByteArray)) t473)) else (none)) = some r := H; have A16 := Aside0.mk A160; clear A160
           by_cases c17 : (sc (sc (sc (sc (sc (sc (sc (sc (sc (⟨#[108, 101, 103, 32]⟩ : ByteArray) t469) (⟨#[45]⟩ : ByteArray)) t470) (⟨#[32, 116, 97, 112, 101, 32]⟩ : ByteArray)) t471) (⟨#[32, 99, 111, 109, 112, 97, 115, 115, 32]⟩ : ByteArray)) t472) (⟨#[32, 115, 108, 111, 112, 101, 32]⟩ : ByteArray)) (⟨#[45]⟩ : ByteArray)).size + t473.size ≤ 9223372036854775807
           ·
            rw [if_pos c17] at H
            have c17b0 := eq_true c17; have c17b1 : decide ((sc (sc (sc (sc (sc (sc (sc (sc (sc (⟨#[108, 101, 103, 32]⟩ : ByteArray) t469) (⟨#[45]⟩ : ByteArray)) t470) (⟨#[32, 116, 97, 112, 101, 32]⟩ : ByteArray)) t471) (⟨#[32, 99, 111, 109, 112, 97, 115, 115, 32]⟩ : ByteArray)) t472) (⟨#[32, 115, 108, 111, 112, 101, 32]⟩ : ByteArray)) (⟨#[45]⟩ : ByteArray)).size + t473.size ≤ 9223372036854775807) = true := decide_eq_true c17
            try have c17b2 : (9223372036854775807 < (sc (sc (sc (sc (sc (sc (sc (sc (sc (⟨#[108, 101, 103, 32]⟩ : ByteArray) t469) (⟨#[45]⟩ : ByteArray)) t470) (⟨#[32, 116, 97, 112, 101, 32]⟩ : ByteArray)) t471) (⟨#[32, 99, 111, 109, 112, 97, 115, 115, 32]⟩ : ByteArray)) t472) (⟨#[32, 115, 108, 111, 112, 101, 32]⟩ : ByteArray)) (⟨#[45]⟩ : ByteArray)).size + t473.size) = False := eq_false (Nat.not_lt.2 c17)
            obtain rfl := Option.some.inj H
            go_enter Tryd.func21, Tryd.ntmps21
            try go_wp2_with (first | ((with_reducible refine gate_dst (N := 1) rfl ?_); refine box_event ?hg (N := 1) ?hd (cs := #[.int .i64 a0_0, .int .i64 a0_1, .int .i64 a0_2, .int .i64 a0_3, .int .i64 a0_4]) (t := 53) ?hr ?_; (case hd => rfl); (case hg => rfl); (case hr => first | (go_simp; done) | (go_simp; rfl)); intro gb468 hg w18 hbox hb; have BK468 := Aside0.mk (hbox); have GW468 := Aside0.mk ((bz_ hg (lb0_ HB.out))); have GE468 := Aside0.mk ((bz_ hg (lb0_ HB.out))); replace HB := Aside0.mk (below_step (lb0_ HB.out) hb); clear hb hbox hg))
            replace BK468 := Aside0.mk (blk_drew BK468.out); replace HB := Aside0.mk (below_drew1 HB.out); refine start_ (n := 21) (S := fun w' => w'.cell? ⟨gb468, 0, none⟩ = some (.int .i64 a0_0) ∧ w'.cell? ⟨gb468, 1, none⟩ = some (.int .i64 a0_1) ∧ w'.cell? ⟨gb468, 2, none⟩ = some (.int .i64 a0_2) ∧ w'.cell? ⟨gb468, 3, none⟩ = some (.int .i64 a0_3) ∧ w'.cell? ⟨gb468, 4, none⟩ = some (.int .i64 a0_4)) (ds := []) spec_l4Text.mk0 (by kernel_rfl) rfl rfl ⟨(blk_cell BK468.out 0).trans rfl, (blk_cell BK468.out 1).trans rfl, (blk_cell BK468.out 2).trans rfl, (blk_cell BK468.out 3).trans rfl, (blk_cell BK468.out 4).trans rfl⟩ (fun hHeld => ?_); refine with_tabW spec_l4Text.tab1 spec_l4Text.bits1 (fun HT_ HW_ => ?_); generalize w18.drew = w19 at BK468 HB hHeld ⊢; refine pz_ HT_ 0 (some 4) spec_l4Text.mk1 ?_; refine pz_ HT_ 5 (some 9) spec_l4Text.mk2 ?_; refine pz_ HT_ 10 (some 14) spec_l4Text.mk3 ?_; refine pz_ HT_ 15 (some 19) spec_l4Text.mk4 ?_; refine take_ (i := 1) (N := some 5) (v := ?_) (a' := ?_) spec_l4Text.mk5 rfl rfl (take_ofW HT_.out HW_.out (by kernel_rfl)) (fun _ _ _ h => h) (Or.inl ⟨by rfl, ?_⟩) hHeld ?_ ?_; rotate_left
            ·
             rintro w' ⟨s0, s1, s2, s3, s4⟩; go_simp; (with_reducible rfl)
            rotate_left
            ·
             simp only [Act.put, List.setIfInBounds_toArray, List.set_cons_zero, List.set_cons_succ, i64_w, i32_w]; rfl
            refine take_ (i := 6) (N := some 10) (v := ?_) (a' := ?_) spec_l4Text.mk6 rfl rfl (take_ofW HT_.out HW_.out (by kernel_rfl)) (fun _ _ _ h => h) (Or.inl ⟨by rfl, ?_⟩) hHeld ?_ ?_; rotate_left
            ·
             rintro w' ⟨s0, s1, s2, s3, s4⟩; go_simp; (with_reducible rfl)
            rotate_left
            ·
             simp only [Act.put, List.setIfInBounds_toArray, List.set_cons_zero, List.set_cons_succ, i64_w, i32_w]; rfl
            refine take_ (i := 11) (N := some 15) (v := ?_) (a' := ?_) spec_l4Text.mk7 rfl rfl (take_ofW HT_.out HW_.out (by kernel_rfl)) (fun _ _ _ h => h) (Or.inl ⟨by rfl, ?_⟩) hHeld ?_ ?_; rotate_left
            ·
             rintro w' ⟨s0, s1, s2, s3, s4⟩; go_simp; (with_reducible rfl)
            rotate_left
            ·
             simp only [Act.put, List.setIfInBounds_toArray, List.set_cons_zero, List.set_cons_succ, i64_w, i32_w]; rfl
            refine take_ (i := 16) (N := some 20) (v := ?_) (a' := ?_) spec_l4Text.mk8 rfl rfl (take_ofW HT_.out HW_.out (by kernel_rfl)) (fun _ _ _ h => h) (Or.inl ⟨by rfl, ?_⟩) hHeld ?_ ?_; rotate_left
            ·
             rintro w' ⟨s0, s1, s2, s3, s4⟩; go_simp; (with_reducible rfl)
            rotate_left
            ·
             simp only [Act.put, List.setIfInBounds_toArray, List.set_cons_zero, List.set_cons_succ, i64_w, i32_w]; rfl
            refine one_ (i := 2) (N := some 6) spec_l4Text.mk9 rfl rfl (one_of HT_.out (by kernel_rfl)) (by decide) (fun K hK => ?_); refine gs_ Tryd.func22 #[.int .i64 a0_0] ?_; (with_reducible refine (spec_l1Num.calls k a0_0 t469 _ A2.out).mono ?_); rintro e w20 ⟨rfl, hb⟩; refine ⟨_, rfl, ?_⟩; replace BK468 := Aside0.mk (bb_ (bk_ BK468.out) hb); replace HB := Aside0.mk (below_step (lb1_ HB.out GE468.out) hb); (try clear hb); (try clear hb2); (try clear hk); (try clear hi); refine hK.out _ _ ⟨(blk_cell BK468.out 0).trans rfl, (blk_cell BK468.out 1).trans rfl, (blk_cell BK468.out 2).trans rfl, (blk_cell BK468.out 3).trans rfl, (blk_cell BK468.out 4).trans rfl⟩ (fun hHeld => ?_); clear hK K; refine na_ ?_; refine pz_ HT_ 3 (some 7) spec_l4Text.mk10 ?_; refine pz_ HT_ 4 (some 8) spec_l4Text.mk11 ?_; refine one_ (i := 7) (N := some 11) spec_l4Text.mk12 rfl rfl (one_of HT_.out (by kernel_rfl)) (by decide) (fun K hK => ?_); refine gs_ Tryd.func22 #[.int .i64 a0_1] ?_; (with_reducible refine (spec_l1Num.calls k a0_1 t470 _ A5.out).mono ?_); rintro e w21 ⟨rfl, hb⟩; refine ⟨_, rfl, ?_⟩; replace BK468 := Aside0.mk (bb_ (bk_ BK468.out) hb); replace HB := Aside0.mk (below_step (lb1_ HB.out GE468.out) hb); (try clear hb); (try clear hb2); (try clear hk); (try clear hi); refine hK.out _ _ ⟨(blk_cell BK468.out 0).trans rfl, (blk_cell BK468.out 1).trans rfl, (blk_cell BK468.out 2).trans rfl, (blk_cell BK468.out 3).trans rfl, (blk_cell BK468.out 4).trans rfl⟩ (fun hHeld => ?_); clear hK K; refine na_ ?_; refine pz_ HT_ 8 (some 12) spec_l4Text.mk13 ?_; refine pz_ HT_ 9 (some 13) spec_l4Text.mk14 ?_; refine one_ (i := 12) (N := some 16) spec_l4Text.mk15 rfl rfl (one_of HT_.out (by kernel_rfl)) (by decide) (fun K hK => ?_); refine gs_ Tryd.func22 #[.int .i64 a0_2] ?_; (with_reducible refine (spec_l1Num.calls k a0_2 t471 _ A8.out).mono ?_); rintro e w22 ⟨rfl, hb⟩; refine ⟨_, rfl, ?_⟩; replace BK468 := Aside0.mk (bb_ (bk_ BK468.out) hb); replace HB := Aside0.mk (below_step (lb1_ HB.out GE468.out) hb); (try clear hb); (try clear hb2); (try clear hk); (try clear hi); refine hK.out _ _ ⟨(blk_cell BK468.out 0).trans rfl, (blk_cell BK468.out 1).trans rfl, (blk_cell BK468.out 2).trans rfl, (blk_cell BK468.out 3).trans rfl, (blk_cell BK468.out 4).trans rfl⟩ (fun hHeld => ?_); clear hK K; refine na_ ?_; refine pz_ HT_ 13 (some 17) spec_l4Text.mk16 ?_; refine pz_ HT_ 14 (some 18) spec_l4Text.mk17 ?_; refine one_ (i := 17) (N := some 21) spec_l4Text.mk18 rfl rfl (one_of HT_.out (by kernel_rfl)) (by decide) (fun K hK => ?_); refine gs_ Tryd.func22 #[.int .i64 a0_3] ?_; (with_reducible refine (spec_l1Num.calls k a0_3 t472 _ A11.out).mono ?_); rintro e w23 ⟨rfl, hb⟩; refine ⟨_, rfl, ?_⟩; replace BK468 := Aside0.mk (bb_ (bk_ BK468.out) hb); replace HB := Aside0.mk (below_step (lb1_ HB.out GE468.out) hb); (try clear hb); (try clear hb2); (try clear hk); (try clear hi); refine hK.out _ _ ⟨(blk_cell BK468.out 0).trans rfl, (blk_cell BK468.out 1).trans rfl, (blk_cell BK468.out 2).trans rfl, (blk_cell BK468.out 3).trans rfl, (blk_cell BK468.out 4).trans rfl⟩ (fun hHeld => ?_); clear hK K; refine na_ ?_; refine pz_ HT_ 18 (some 22) spec_l4Text.mk19 ?_; refine pz_ HT_ 19 (some 23) spec_l4Text.mk20 ?_; refine pz_ HT_ 20 (some 3) spec_l4Text.mk21 ?_; refine done_ (done_of HT_.out (by kernel_rfl)) ?_; obtain ⟨hcz24_0, hcz24_1, hcz24_2, hcz24_3, hcz24_4⟩ := cz5_ BK468.out; obtain ⟨hfz24_0, hfz24_1, hfz24_2, hfz24_3, hfz24_4⟩ := fz5_ BK468.out
            try go_wp2_with (first | ((with_reducible refine gate_callee (f := 22) rfl ?_); refine ga_ (some 32) Tryd.func22 #[.int .i64 (wrap64 (-a0_4))] ?_; (with_reducible refine (spec_l1Num.calls k (wrap64 (-a0_4)) t473 _ A16.out).mono ?_); rintro e w25 ⟨rfl, hb⟩; refine ⟨_, rfl, ?_⟩; replace BK468 := Aside0.mk (bb_ (bk_ BK468.out) hb); replace HB := Aside0.mk (below_step (lb1_ HB.out GE468.out) hb); (try clear hb); (try clear hb2); (try clear hk); (try clear hi)))
            go_ret
            exact ⟨rr_, lb1_ HB.out GE468.out⟩
           ·
            rw [if_neg c17] at H
            exact absurd H (by simp)
          ·
           rw [if_neg c15] at H
           exact absurd H (by simp)
         ·
          rw [if_neg c14] at H
          have c14b0 : decide (a0_4 < 0) = false := decide_eq_false c14; clear c14; replace H := Option.bind_eq_some_iff.mp H; obtain ⟨t474, A260, H⟩ := H; replace H : (if (sc (sc (sc (sc (sc (sc (sc (sc (⟨#[108, 101, 103, 32]⟩ : ByteArray) t469) (⟨#[45]⟩ : ByteArray)) t470) (⟨#[32, 116, 97, 112, 101, 32]⟩ : ByteArray)) t471) (⟨#[32, 99, 111, 109, 112, 97, 115, 115, 32]⟩ : ByteArray)) t472) (⟨#[32, 115, 108, 111, 112, 101, 32]⟩ : ByteArray)).size + t474.size ≤ 9223372036854775807 then (some (sc (sc (sc (sc (sc (sc (sc (sc (sc (⟨#[108, 101, 103, 32]⟩ : ByteArray) t469) (⟨#[45]⟩ : ByteArray)) t470) (⟨#[32, 116, 97, 112, 101, 32]⟩ : ByteArray)) t471) (⟨#[32, 99, 111, 109, 112, 97, 115, 115, 32]⟩ : ByteArray)) t472) (⟨#[32, 115, 108, 111, 112, 101, 32]⟩ : ByteArray)) t474)) else (none)) = some r := H; have A26 := Aside0.mk A260; clear A260
          by_cases c27 : (sc (sc (sc (sc (sc (sc (sc (sc (⟨#[108, 101, 103, 32]⟩ : ByteArray) t469) (⟨#[45]⟩ : ByteArray)) t470) (⟨#[32, 116, 97, 112, 101, 32]⟩ : ByteArray)) t471) (⟨#[32, 99, 111, 109, 112, 97, 115, 115, 32]⟩ : ByteArray)) t472) (⟨#[32, 115, 108, 111, 112, 101, 32]⟩ : ByteArray)).size + t474.size ≤ 9223372036854775807
          ·
           rw [if_pos c27] at H
           have c27b0 := eq_true c27; have c27b1 : decide ((sc (sc (sc (sc (sc (sc (sc (sc (⟨#[108, 101, 103, 32]⟩ : ByteArray) t469) (⟨#[45]⟩ : ByteArray)) t470) (⟨#[32, 116, 97, 112, 101, 32]⟩ : ByteArray)) t471) (⟨#[32, 99, 111, 109, 112, 97, 115, 115, 32]⟩ : ByteArray)) t472) (⟨#[32, 115, 108, 111, 112, 101, 32]⟩ : ByteArray)).size + t474.size ≤ 9223372036854775807) = true := decide_eq_true c27
           try have c27b2 : (9223372036854775807 < (sc (sc (sc (sc (sc (sc (sc (sc (⟨#[108, 101, 103, 32]⟩ : ByteArray) t469) (⟨#[45]⟩ : ByteArray)) t470) (⟨#[32, 116, 97, 112, 101, 32]⟩ : ByteArray)) t471) (⟨#[32, 99, 111, 109, 112, 97, 115, 115, 32]⟩ : ByteArray)) t472) (⟨#[32, 115, 108, 111, 112, 101, 32]⟩ : ByteArray)).size + t474.size) = False := eq_false (Nat.not_lt.2 c27)
           obtain rfl := Option.some.inj H
           go_enter Tryd.func21, Tryd.ntmps21
           try go_wp2_with (first | ((with_reducible refine gate_dst (N := 1) rfl ?_); refine box_event ?hg (N := 1) ?hd (cs := #[.int .i64 a0_0, .int .i64 a0_1, .int .i64 a0_2, .int .i64 a0_3, .int .i64 a0_4]) (t := 53) ?hr ?_; (case hd => rfl); (case hg => rfl); (case hr => first | (go_simp; done) | (go_simp; rfl)); intro gb468 hg w28 hbox hb; have BK468 := Aside0.mk (hbox); have GW468 := Aside0.mk ((bz_ hg (lb0_ HB.out))); have GE468 := Aside0.mk ((bz_ hg (lb0_ HB.out))); replace HB := Aside0.mk (below_step (lb0_ HB.out) hb); clear hb hbox hg))
           replace BK468 := Aside0.mk (blk_drew BK468.out); replace HB := Aside0.mk (below_drew1 HB.out); refine start_ (n := 21) (S := fun w' => w'.cell? ⟨gb468, 0, none⟩ = some (.int .i64 a0_0) ∧ w'.cell? ⟨gb468, 1, none⟩ = some (.int .i64 a0_1) ∧ w'.cell? ⟨gb468, 2, none⟩ = some (.int .i64 a0_2) ∧ w'.cell? ⟨gb468, 3, none⟩ = some (.int .i64 a0_3) ∧ w'.cell? ⟨gb468, 4, none⟩ = some (.int .i64 a0_4)) (ds := []) spec_l4Text.mk0 (by kernel_rfl) rfl rfl ⟨(blk_cell BK468.out 0).trans rfl, (blk_cell BK468.out 1).trans rfl, (blk_cell BK468.out 2).trans rfl, (blk_cell BK468.out 3).trans rfl, (blk_cell BK468.out 4).trans rfl⟩ (fun hHeld => ?_); refine with_tabW spec_l4Text.tab1 spec_l4Text.bits1 (fun HT_ HW_ => ?_); generalize w28.drew = w29 at BK468 HB hHeld ⊢; refine pz_ HT_ 0 (some 4) spec_l4Text.mk1 ?_; refine pz_ HT_ 5 (some 9) spec_l4Text.mk2 ?_; refine pz_ HT_ 10 (some 14) spec_l4Text.mk3 ?_; refine pz_ HT_ 15 (some 19) spec_l4Text.mk4 ?_; refine take_ (i := 1) (N := some 5) (v := ?_) (a' := ?_) spec_l4Text.mk5 rfl rfl (take_ofW HT_.out HW_.out (by kernel_rfl)) (fun _ _ _ h => h) (Or.inl ⟨by rfl, ?_⟩) hHeld ?_ ?_; rotate_left
           ·
            rintro w' ⟨s0, s1, s2, s3, s4⟩; go_simp; (with_reducible rfl)
           rotate_left
           ·
            simp only [Act.put, List.setIfInBounds_toArray, List.set_cons_zero, List.set_cons_succ, i64_w, i32_w]; rfl
           refine take_ (i := 6) (N := some 10) (v := ?_) (a' := ?_) spec_l4Text.mk6 rfl rfl (take_ofW HT_.out HW_.out (by kernel_rfl)) (fun _ _ _ h => h) (Or.inl ⟨by rfl, ?_⟩) hHeld ?_ ?_; rotate_left
           ·
            rintro w' ⟨s0, s1, s2, s3, s4⟩; go_simp; (with_reducible rfl)
           rotate_left
           ·
            simp only [Act.put, List.setIfInBounds_toArray, List.set_cons_zero, List.set_cons_succ, i64_w, i32_w]; rfl
           refine take_ (i := 11) (N := some 15) (v := ?_) (a' := ?_) spec_l4Text.mk7 rfl rfl (take_ofW HT_.out HW_.out (by kernel_rfl)) (fun _ _ _ h => h) (Or.inl ⟨by rfl, ?_⟩) hHeld ?_ ?_; rotate_left
           ·
            rintro w' ⟨s0, s1, s2, s3, s4⟩; go_simp; (with_reducible rfl)
           rotate_left
           ·
            simp only [Act.put, List.setIfInBounds_toArray, List.set_cons_zero, List.set_cons_succ, i64_w, i32_w]; rfl
           refine take_ (i := 16) (N := some 20) (v := ?_) (a' := ?_) spec_l4Text.mk8 rfl rfl (take_ofW HT_.out HW_.out (by kernel_rfl)) (fun _ _ _ h => h) (Or.inl ⟨by rfl, ?_⟩) hHeld ?_ ?_; rotate_left
           ·
            rintro w' ⟨s0, s1, s2, s3, s4⟩; go_simp; (with_reducible rfl)
           rotate_left
           ·
            simp only [Act.put, List.setIfInBounds_toArray, List.set_cons_zero, List.set_cons_succ, i64_w, i32_w]; rfl
           refine one_ (i := 2) (N := some 6) spec_l4Text.mk9 rfl rfl (one_of HT_.out (by kernel_rfl)) (by decide) (fun K hK => ?_); refine gs_ Tryd.func22 #[.int .i64 a0_0] ?_; (with_reducible refine (spec_l1Num.calls k a0_0 t469 _ A2.out).mono ?_); rintro e w30 ⟨rfl, hb⟩; refine ⟨_, rfl, ?_⟩; replace BK468 := Aside0.mk (bb_ (bk_ BK468.out) hb); replace HB := Aside0.mk (below_step (lb1_ HB.out GE468.out) hb); (try clear hb); (try clear hb2); (try clear hk); (try clear hi); refine hK.out _ _ ⟨(blk_cell BK468.out 0).trans rfl, (blk_cell BK468.out 1).trans rfl, (blk_cell BK468.out 2).trans rfl, (blk_cell BK468.out 3).trans rfl, (blk_cell BK468.out 4).trans rfl⟩ (fun hHeld => ?_); clear hK K; refine na_ ?_; refine pz_ HT_ 3 (some 7) spec_l4Text.mk10 ?_; refine pz_ HT_ 4 (some 8) spec_l4Text.mk11 ?_; refine one_ (i := 7) (N := some 11) spec_l4Text.mk12 rfl rfl (one_of HT_.out (by kernel_rfl)) (by decide) (fun K hK => ?_); refine gs_ Tryd.func22 #[.int .i64 a0_1] ?_; (with_reducible refine (spec_l1Num.calls k a0_1 t470 _ A5.out).mono ?_); rintro e w31 ⟨rfl, hb⟩; refine ⟨_, rfl, ?_⟩; replace BK468 := Aside0.mk (bb_ (bk_ BK468.out) hb); replace HB := Aside0.mk (below_step (lb1_ HB.out GE468.out) hb); (try clear hb); (try clear hb2); (try clear hk); (try clear hi); refine hK.out _ _ ⟨(blk_cell BK468.out 0).trans rfl, (blk_cell BK468.out 1).trans rfl, (blk_cell BK468.out 2).trans rfl, (blk_cell BK468.out 3).trans rfl, (blk_cell BK468.out 4).trans rfl⟩ (fun hHeld => ?_); clear hK K; refine na_ ?_; refine pz_ HT_ 8 (some 12) spec_l4Text.mk13 ?_; refine pz_ HT_ 9 (some 13) spec_l4Text.mk14 ?_; refine one_ (i := 12) (N := some 16) spec_l4Text.mk15 rfl rfl (one_of HT_.out (by kernel_rfl)) (by decide) (fun K hK => ?_); refine gs_ Tryd.func22 #[.int .i64 a0_2] ?_; (with_reducible refine (spec_l1Num.calls k a0_2 t471 _ A8.out).mono ?_); rintro e w32 ⟨rfl, hb⟩; refine ⟨_, rfl, ?_⟩; replace BK468 := Aside0.mk (bb_ (bk_ BK468.out) hb); replace HB := Aside0.mk (below_step (lb1_ HB.out GE468.out) hb); (try clear hb); (try clear hb2); (try clear hk); (try clear hi); refine hK.out _ _ ⟨(blk_cell BK468.out 0).trans rfl, (blk_cell BK468.out 1).trans rfl, (blk_cell BK468.out 2).trans rfl, (blk_cell BK468.out 3).trans rfl, (blk_cell BK468.out 4).trans rfl⟩ (fun hHeld => ?_); clear hK K; refine na_ ?_; refine pz_ HT_ 13 (some 17) spec_l4Text.mk16 ?_; refine pz_ HT_ 14 (some 18) spec_l4Text.mk17 ?_; refine one_ (i := 17) (N := some 21) spec_l4Text.mk18 rfl rfl (one_of HT_.out (by kernel_rfl)) (by decide) (fun K hK => ?_); refine gs_ Tryd.func22 #[.int .i64 a0_3] ?_; (with_reducible refine (spec_l1Num.calls k a0_3 t472 _ A11.out).mono ?_); rintro e w33 ⟨rfl, hb⟩; refine ⟨_, rfl, ?_⟩; replace BK468 := Aside0.mk (bb_ (bk_ BK468.out) hb); replace HB := Aside0.mk (below_step (lb1_ HB.out GE468.out) hb); (try clear hb); (try clear hb2); (try clear hk); (try clear hi); refine hK.out _ _ ⟨(blk_cell BK468.out 0).trans rfl, (blk_cell BK468.out 1).trans rfl, (blk_cell BK468.out 2).trans rfl, (blk_cell BK468.out 3).trans rfl, (blk_cell BK468.out 4).trans rfl⟩ (fun hHeld => ?_); clear hK K; refine na_ ?_; refine pz_ HT_ 18 (some 22) spec_l4Text.mk19 ?_; refine pz_ HT_ 19 (some 23) spec_l4Text.mk20 ?_; refine pz_ HT_ 20 (some 3) spec_l4Text.mk21 ?_; refine done_ (done_of HT_.out (by kernel_rfl)) ?_; obtain ⟨hcz34_0, hcz34_1, hcz34_2, hcz34_3, hcz34_4⟩ := cz5_ BK468.out; obtain ⟨hfz34_0, hfz34_1, hfz34_2, hfz34_3, hfz34_4⟩ := fz5_ BK468.out
           try go_wp2_with (first | ((with_reducible refine gate_callee (f := 22) rfl ?_); refine ga_ (some 37) Tryd.func22 #[.int .i64 a0_4] ?_; (with_reducible refine (spec_l1Num.calls k a0_4 t474 _ A26.out).mono ?_); rintro e w35 ⟨rfl, hb⟩; refine ⟨_, rfl, ?_⟩; replace BK468 := Aside0.mk (bb_ (bk_ BK468.out) hb); replace HB := Aside0.mk (below_step (lb1_ HB.out GE468.out) hb); (try clear hb); (try clear hb2); (try clear hk); (try clear hi)))
           go_ret
           exact ⟨rr_, lb1_ HB.out GE468.out⟩
          ·
           rw [if_neg c27] at H
           exact absurd H (by simp)
        ·
         rw [if_neg c13] at H
         exact absurd H (by simp)
       ·
        rw [if_neg c12] at H
        exact absurd H (by simp)
      ·
       rw [if_neg c10] at H
       exact absurd H (by simp)
     ·
      rw [if_neg c9] at H
      exact absurd H (by simp)
    ·
     rw [if_neg c7] at H
     exact absurd H (by simp)
   ·
    rw [if_neg c6] at H
    exact absurd H (by simp)
  ·
   rw [if_neg c4] at H
   exact absurd H (by simp)
 ·
  rw [if_neg c3] at H
  exact absurd H (by simp)
def spec_FormatConsole.l0 : Nat → ByteArray → Int → List (S53) → List Bool → List Bool → Int → Int → ByteArray → ByteArray → Int → List (S53) → List Bool → List Bool → Int → Int → Option (ByteArray × Bool)
 | 0, _, _, _, _, _, _, _, _, _, _, _, _, _, _, _ => none
 | k + 1, x5, x6, x476000, x476001, x476002, x476003, x476004, x476005, x476006, x476007, x478000, x478001, x478002, x478003, x478004 => if x6 < (x478000.length : Int) then (if 0 ≤ x6 then ((spec_l4Text.f k ((rd_T53 x478000 x6).f0) ((rd_T53 x478000 x6).f1) ((rd_T53 x478000 x6).f2) ((rd_T53 x478000 x6).f3) ((rd_T53 x478000 x6).f4)).bind fun t479 => (if x5.size + t479.size ≤ 9223372036854775807 then (if (sc x5 t479).size + 1 ≤ 9223372036854775807 then (spec_FormatConsole.l0 k (sc (sc x5 t479) (⟨#[10]⟩ : ByteArray)) (wrap64 (x6 + 1)) x476000 x476001 x476002 x476003 x476004 x476005 x476006 x476007 x478000 x478001 x478002 x478003 x478004) else (none)) else (none))) else (none)) else (if x5.size + 3 ≤ 9223372036854775807 then ((spec_l1Num.f k x478003).bind fun t480 => (if (sc x5 (⟨#[97, 116, 32]⟩ : ByteArray)).size + t480.size ≤ 9223372036854775807 then (if (sc (sc x5 (⟨#[97, 116, 32]⟩ : ByteArray)) t480).size + 8 ≤ 9223372036854775807 then ((spec_l1Num.f k x478004).bind fun t481 => (if (sc (sc (sc x5 (⟨#[97, 116, 32]⟩ : ByteArray)) t480) (⟨#[59, 32, 108, 105, 103, 104, 116, 32]⟩ : ByteArray)).size + t481.size ≤ 9223372036854775807 then (if (sc (sc (sc (sc x5 (⟨#[97, 116, 32]⟩ : ByteArray)) t480) (⟨#[59, 32, 108, 105, 103, 104, 116, 32]⟩ : ByteArray)) t481).size + 10 ≤ 9223372036854775807 then ((spec_l1Num.f k x476007).bind fun t482 => (if (sc (sc (sc (sc (sc x5 (⟨#[97, 116, 32]⟩ : ByteArray)) t480) (⟨#[59, 32, 108, 105, 103, 104, 116, 32]⟩ : ByteArray)) t481) (⟨#[59, 32, 114, 101, 99, 111, 114, 100, 115, 32]⟩ : ByteArray)).size + t482.size ≤ 9223372036854775807 then (if (sc (sc (sc (sc (sc (sc x5 (⟨#[97, 116, 32]⟩ : ByteArray)) t480) (⟨#[59, 32, 108, 105, 103, 104, 116, 32]⟩ : ByteArray)) t481) (⟨#[59, 32, 114, 101, 99, 111, 114, 100, 115, 32]⟩ : ByteArray)) t482).size + 1 ≤ 9223372036854775807 then (some (sc (sc (sc (sc (sc (sc (sc x5 (⟨#[97, 116, 32]⟩ : ByteArray)) t480) (⟨#[59, 32, 108, 105, 103, 104, 116, 32]⟩ : ByteArray)) t481) (⟨#[59, 32, 114, 101, 99, 111, 114, 100, 115, 32]⟩ : ByteArray)) t482) (⟨#[10]⟩ : ByteArray), true)) else (none)) else (none))) else (none)) else (none))) else (none)) else (none))) else (none))
def spec_FormatConsole.f (k : Nat) (l0_0 : List (S53)) (l0_1 : List Bool) (l0_2 : List Bool) (a0_3 : Int) (a0_4 : Int) (a0_5 : ByteArray) (a0_6 : ByteArray) (a0_7 : Int) : Option (ByteArray × Bool) := (spec_l28Good.f k l0_0 l0_1 l0_2 a0_3 a0_4 a0_5 a0_6 a0_7).bind fun t476 => (if t476 = true then (spec_FormatConsole.l0 k (⟨#[]⟩ : ByteArray) 0 l0_0 l0_1 l0_2 a0_3 a0_4 a0_5 a0_6 a0_7 l0_0 l0_1 l0_2 a0_3 a0_4) else (some ((⟨#[]⟩ : ByteArray), false)))
def spec_FormatConsole.T9 : Bool × List (List Nat × List Nat) := (true, [([], []), ([0], [0]), ([], []), ([2], [2]), ([3], [3]), ([1, 4], [1, 4]), ([5], [5]), ([], []), ([7], [7]), ([8, 4], [8]), ([6, 9], [6, 9]), ([10], [10]), ([], []), ([12], [12]), ([13], [13]), ([14, 9], [14]), ([11, 15], [11, 15]), ([16], [16]), ([17, 15, 0, 1, 2, 3, 4, 5, 6, 7, 8, 9, 10, 11, 12, 13, 14, 15, 16, 17], [17]), ([18, 0, 1, 2, 3, 4, 5, 6, 7, 8, 9, 10, 11, 12, 13, 14, 15, 16, 17, 18], [])])
def spec_FormatConsole.B9 : List Nat := [0, 1, 0, 4, 12, 31, 63, 0, 128, 412, 1023, 2047, 0, 4096, 12288, 29596, 65535, 131071, 262143, 524287]
theorem spec_FormatConsole.tab9 : rtab .any (opsOf Tryd.f10 9) = spec_FormatConsole.T9 := by kernel_rfl
theorem spec_FormatConsole.bits9 : waitsOk spec_FormatConsole.T9.2 spec_FormatConsole.B9 = true := by kernel_rfl
abbrev spec_FormatConsole.mk0 : Array Bool := #[false, false, false, false, false, false, false, false, false, false, false, false, false, false, false, false, false, false, false, false]
abbrev spec_FormatConsole.mk1 : Array Bool := #[true, false, false, false, false, false, false, false, false, false, false, false, false, false, false, false, false, false, false, false]
abbrev spec_FormatConsole.mk2 : Array Bool := #[true, true, false, false, false, false, false, false, false, false, false, false, false, false, false, false, false, false, false, false]
abbrev spec_FormatConsole.mk3 : Array Bool := #[true, true, true, false, false, false, false, false, false, false, false, false, false, false, false, false, false, false, false, false]
abbrev spec_FormatConsole.mk4 : Array Bool := #[true, true, true, false, false, false, false, true, false, false, false, false, false, false, false, false, false, false, false, false]
abbrev spec_FormatConsole.mk5 : Array Bool := #[true, true, true, false, false, false, false, true, false, false, false, false, true, false, false, false, false, false, false, false]
abbrev spec_FormatConsole.mk6 : Array Bool := #[true, true, true, false, false, false, false, true, false, false, false, false, true, true, false, false, false, false, false, false]
abbrev spec_FormatConsole.mk7 : Array Bool := #[true, true, true, true, false, false, false, true, false, false, false, false, true, true, false, false, false, false, false, false]
abbrev spec_FormatConsole.mk8 : Array Bool := #[true, true, true, true, false, false, false, true, true, false, false, false, true, true, false, false, false, false, false, false]
abbrev spec_FormatConsole.mk9 : Array Bool := #[true, true, true, true, false, false, false, true, true, false, false, false, true, true, true, false, false, false, false, false]
abbrev spec_FormatConsole.mk10 : Array Bool := #[true, true, true, true, true, false, false, true, true, false, false, false, true, true, true, false, false, false, false, false]
abbrev spec_FormatConsole.mk11 : Array Bool := #[true, true, true, true, true, true, false, true, true, false, false, false, true, true, true, false, false, false, false, false]
abbrev spec_FormatConsole.mk12 : Array Bool := #[true, true, true, true, true, true, true, true, true, false, false, false, true, true, true, false, false, false, false, false]
abbrev spec_FormatConsole.mk13 : Array Bool := #[true, true, true, true, true, true, true, true, true, true, false, false, true, true, true, false, false, false, false, false]
abbrev spec_FormatConsole.mk14 : Array Bool := #[true, true, true, true, true, true, true, true, true, true, true, false, true, true, true, false, false, false, false, false]
abbrev spec_FormatConsole.mk15 : Array Bool := #[true, true, true, true, true, true, true, true, true, true, true, true, true, true, true, false, false, false, false, false]
abbrev spec_FormatConsole.mk16 : Array Bool := #[true, true, true, true, true, true, true, true, true, true, true, true, true, true, true, true, false, false, false, false]
abbrev spec_FormatConsole.mk17 : Array Bool := #[true, true, true, true, true, true, true, true, true, true, true, true, true, true, true, true, true, false, false, false]
abbrev spec_FormatConsole.mk18 : Array Bool := #[true, true, true, true, true, true, true, true, true, true, true, true, true, true, true, true, true, true, false, false]
abbrev spec_FormatConsole.mk19 : Array Bool := #[true, true, true, true, true, true, true, true, true, true, true, true, true, true, true, true, true, true, true, false]
abbrev spec_FormatConsole.mk20 : Array Bool := #[true, true, true, true, true, true, true, true, true, true, true, true, true, true, true, true, true, true, true, true]
theorem spec_FormatConsole.calls (k : Nat) (A0_0 : Option Addr) (c0_0 : Nat) (l0_0 : List (S53)) (A0_1 : Option Addr) (c0_1 : Nat) (l0_1 : List Bool) (A0_2 : Option Addr) (c0_2 : Nat) (l0_2 : List Bool) (a0_3 : Int) (a0_4 : Int) (a0_5 : ByteArray) (a0_6 : ByteArray) (a0_7 : Int) (r1 : ByteArray) (r2 : Bool) (w : World) (hr0_0 : Kd.C k53 w A0_0 l0_0.length l0_0) (hc0_0 : l0_0.length ≤ c0_0) (hr0_1 : Kd.C Kd.bool w A0_1 l0_1.length l0_1) (hc0_1 : l0_1.length ≤ c0_1) (hr0_2 : Kd.C Kd.bool w A0_2 l0_2.length l0_2) (hc0_2 : l0_2.length ≤ c0_2) (h : spec_FormatConsole.f k l0_0 l0_1 l0_2 a0_3 a0_4 a0_5 a0_6 a0_7 = some (r1, r2)) :
  Calls Tryd.prog 10 #[.agg #[.slice A0_0 l0_0.length c0_0, .slice A0_1 l0_1.length c0_1, .slice A0_2 l0_2.length c0_2, .int .i64 a0_3, .int .i64 a0_4, .string a0_5, .string a0_6, .int .i64 a0_7]] w fun e w' => e = .returned (.tuple #[.string r1, .bool r2]) ∧ Below w.heap.size w w' := by
 have hu37 := Tryd.underlying37
 have hu34 := Tryd.underlying34
 have hu53 := Tryd.underlying53
 have HR0_0 := Aside0.mk hr0_0
 have HC0_0 := Aside0.mk hc0_0
 clear hr0_0 hc0_0
 have HR0_1 := Aside0.mk hr0_1
 have HC0_1 := Aside0.mk hc0_1
 clear hr0_1 hc0_1
 have HR0_2 := Aside0.mk hr0_2
 have HC0_2 := Aside0.mk hc0_2
 clear hr0_2 hc0_2
 have HB := Aside0.mk (Below.refl w.heap.size w)
 have H : ((spec_l28Good.f k l0_0 l0_1 l0_2 a0_3 a0_4 a0_5 a0_6 a0_7).bind fun t476 => (if t476 = true then (spec_FormatConsole.l0 k (⟨#[]⟩ : ByteArray) 0 l0_0 l0_1 l0_2 a0_3 a0_4 a0_5 a0_6 a0_7 l0_0 l0_1 l0_2 a0_3 a0_4) else (some ((⟨#[]⟩ : ByteArray), false)))) = some (r1, r2) := h
 clear h
 replace H := Option.bind_eq_some_iff.mp H
 obtain ⟨t476, A20, H⟩ := H
 replace H : (if t476 = true then (spec_FormatConsole.l0 k (⟨#[]⟩ : ByteArray) 0 l0_0 l0_1 l0_2 a0_3 a0_4 a0_5 a0_6 a0_7 l0_0 l0_1 l0_2 a0_3 a0_4) else (some ((⟨#[]⟩ : ByteArray), false))) = some (r1, r2) := H
 have A2 := Aside0.mk A20
 clear A20
 by_cases c3 : t476 = true
 ·
  subst c3
  have H1 : (spec_FormatConsole.l0 k (⟨#[]⟩ : ByteArray) 0 l0_0 l0_1 l0_2 a0_3 a0_4 a0_5 a0_6 a0_7 l0_0 l0_1 l0_2 a0_3 a0_4) = some (r1, r2) := by rw [if_pos rfl] at H; exact H
  clear H
  have H := H1
  clear H1
  have H' := Aside0.mk H
  clear H
  go_enter Tryd.func10, Tryd.ntmps10
  go_wp2_with (first | ((with_reducible refine gate_dst (N := 1) rfl ?_); refine box_event ?hg (N := 1) ?hd (cs := #[.slice A0_0 l0_0.length c0_0, .slice A0_1 l0_1.length c0_1, .slice A0_2 l0_2.length c0_2, .int .i64 a0_3, .int .i64 a0_4, .string a0_5, .string a0_6, .int .i64 a0_7]) (t := 37) ?hr ?_; (case hd => rfl); (case hg => rfl); (case hr => first | (go_simp; done) | (go_simp; rfl)); intro gb475 hg w4 hbox hb; have BK475 := Aside0.mk (hbox); have GW475 := Aside0.mk ((bz_ hg (lb0_ HB.out))); have GE475 := Aside0.mk ((bz_ hg (lb0_ HB.out))); replace HB := Aside0.mk (below_step (lb0_ HB.out) hb); clear hb hbox hg; obtain ⟨hcz5_0, hcz5_1, hcz5_2, hcz5_3, hcz5_4, hcz5_5, hcz5_6, hcz5_7⟩ := cz8_ BK475.out; obtain ⟨hfz5_0, hfz5_1, hfz5_2, hfz5_3, hfz5_4, hfz5_5, hfz5_6, hfz5_7⟩ := fz8_ BK475.out) | ((with_reducible refine gate_callee (f := 14) rfl ?_); refine ga_ (some 8) Tryd.func14 #[.agg #[.slice A0_0 l0_0.length c0_0, .slice A0_1 l0_1.length c0_1, .slice A0_2 l0_2.length c0_2, .int .i64 a0_3, .int .i64 a0_4, .string a0_5, .string a0_6, .int .i64 a0_7]] ?_; (with_reducible refine (spec_l28Good.calls k _ _ l0_0 _ _ l0_1 _ _ l0_2 a0_3 a0_4 a0_5 a0_6 a0_7 true _ ?side1 ?side2 ?side3 ?side4 ?side5 ?side6 A2.out).mono ?_); (case side1 => exact kc_ (Kd.C_below HR0_0.out HB.out)); (case side2 => exact HC0_0.out); (case side3 => exact kc_ (Kd.C_below HR0_1.out HB.out)); (case side4 => exact HC0_1.out); (case side5 => exact kc_ (Kd.C_below HR0_2.out HB.out)); (case side6 => exact HC0_2.out); rintro e w6 ⟨rfl, hb⟩; refine ⟨_, rfl, ?_⟩; replace BK475 := Aside0.mk (bb_ (bk_ BK475.out) hb); replace HB := Aside0.mk (below_step (lb1_ HB.out GE475.out) hb); (try clear hb); (try clear hb2); (try clear hk); (try clear hi); obtain ⟨hcz7_0, hcz7_1, hcz7_2, hcz7_3, hcz7_4, hcz7_5, hcz7_6, hcz7_7⟩ := cz8_ BK475.out; obtain ⟨hfz7_0, hfz7_1, hfz7_2, hfz7_3, hfz7_4, hfz7_5, hfz7_6, hfz7_7⟩ := fz8_ BK475.out) | ((with_reducible refine gate_dst (N := 4) rfl ?_); refine box_event ?hg (N := 4) ?hd (cs := #[.slice none 0 0, .slice none 0 0, .slice none 0 0, .int .i64 0, .int .i64 0]) (t := 34) ?hr ?_; (case hd => rfl); (case hg => rfl); (case hr => first | (go_simp; done) | (go_simp; rfl)); intro gb477 hg w8 hbox hb; have BK477 := Aside0.mk (hbox); have GW477 := Aside0.mk ((bz_ hg (lb1_ HB.out GE475.out))); have GE477 := Aside0.mk ((bz_ hg (lb1_ HB.out GE475.out))); replace HB := Aside0.mk (below_step (lb1_ HB.out GE475.out) hb); have NB475_477 := Aside0.mk ((by rw [hg]; exact Nat.ne_of_lt (blk_lt (g := gb475) (o := .cells #[.slice A0_0 l0_0.length c0_0, .slice A0_1 l0_1.length c0_1, .slice A0_2 l0_2.length c0_2, .int .i64 a0_3, .int .i64 a0_4, .string a0_5, .string a0_6, .int .i64 a0_7] 37 (0, 0)) (bk_ BK475.out)) : gb475 ≠ gb477)); have NB477_475 := Aside0.mk ((by rw [hg]; exact Nat.ne_of_gt (blk_lt (g := gb475) (o := .cells #[.slice A0_0 l0_0.length c0_0, .slice A0_1 l0_1.length c0_1, .slice A0_2 l0_2.length c0_2, .int .i64 a0_3, .int .i64 a0_4, .string a0_5, .string a0_6, .int .i64 a0_7] 37 (0, 0)) (bk_ BK475.out)) : gb477 ≠ gb475)); replace BK475 := Aside0.mk (bb_ (bk_ BK475.out) hb); clear hb hbox hg; have hnb9 := NB477_475.out; have hnc9 := NB475_477.out; obtain ⟨hcz10_0, hcz10_1, hcz10_2, hcz10_3, hcz10_4⟩ := cz5_ BK477.out; obtain ⟨hfz10_0, hfz10_1, hfz10_2, hfz10_3, hfz10_4⟩ := fz5_ BK477.out))
  go_loopg [5, 6] k (fun kq v5 v6 w' => ∃ (x5_1 : ByteArray) (x6_1 : Int), v5 = .string x5_1 ∧ v6 = .int .i64 x6_1 ∧ Aside0 (spec_FormatConsole.l0 kq x5_1 x6_1 l0_0 l0_1 l0_2 a0_3 a0_4 a0_5 a0_6 a0_7 l0_0 l0_1 l0_2 a0_3 a0_4 = some (r1, r2)) ∧ Aside0 (kq ≤ k) ∧ Aside0 (w'.heap[gb475]? = some (.cells #[(.slice A0_0 l0_0.length c0_0), (.slice A0_1 l0_1.length c0_1), (.slice A0_2 l0_2.length c0_2), .int .i64 a0_3, .int .i64 a0_4, .string a0_5, .string a0_6, .int .i64 a0_7] 37 (0, 0))) ∧ Aside0 (w'.heap[gb477]? = some (.cells #[(.slice A0_0 l0_0.length c0_0), (.slice A0_1 l0_1.length c0_1), (.slice A0_2 l0_2.length c0_2), .int .i64 a0_3, .int .i64 a0_4] 34 (0, 0))) ∧ Aside0 (Below w.heap.size w w'))
  case atStart => exact ⟨((⟨#[]⟩ : ByteArray)), (0), (by first | rfl | (simp; done) | (simp [*]; done)), (by first | rfl | (simp; done) | (simp [*]; done)), H', ⟨Nat.le_refl _⟩, ⟨by (with_reducible repeat (first | refine blk_drewN ?_ _ | refine blk_drew ?_ | refine blk_alloc ?_ _)); refine blk_far ?_ NB475_477.out _; (with_reducible repeat (first | refine blk_drewN ?_ _ | refine blk_drew ?_ | refine blk_alloc ?_ _)); refine blk_far ?_ NB475_477.out _; (with_reducible repeat (first | refine blk_drewN ?_ _ | refine blk_drew ?_ | refine blk_alloc ?_ _)); refine blk_far ?_ NB475_477.out _; (with_reducible repeat (first | refine blk_drewN ?_ _ | refine blk_drew ?_ | refine blk_alloc ?_ _)); refine blk_far ?_ NB475_477.out _; (with_reducible repeat (first | refine blk_drewN ?_ _ | refine blk_drew ?_ | refine blk_alloc ?_ _)); refine blk_far ?_ NB475_477.out _; (with_reducible repeat (first | refine blk_drewN ?_ _ | refine blk_drew ?_ | refine blk_alloc ?_ _)); exact BK475.out⟩, ⟨by (with_reducible repeat (first | refine blk_drewN ?_ _ | refine blk_drew ?_ | refine blk_alloc ?_ _)); refine blk_put (cs := #[.slice A0_0 l0_0.length c0_0, .slice A0_1 l0_1.length c0_1, .slice A0_2 l0_2.length c0_2, .int .i64 a0_3, .int .i64 0]) ?_ 4 _ rfl; (with_reducible repeat (first | refine blk_drewN ?_ _ | refine blk_drew ?_ | refine blk_alloc ?_ _)); refine blk_put (cs := #[.slice A0_0 l0_0.length c0_0, .slice A0_1 l0_1.length c0_1, .slice A0_2 l0_2.length c0_2, .int .i64 0, .int .i64 0]) ?_ 3 _ rfl; (with_reducible repeat (first | refine blk_drewN ?_ _ | refine blk_drew ?_ | refine blk_alloc ?_ _)); refine blk_put (cs := #[.slice A0_0 l0_0.length c0_0, .slice A0_1 l0_1.length c0_1, .slice none 0 0, .int .i64 0, .int .i64 0]) ?_ 2 _ rfl; (with_reducible repeat (first | refine blk_drewN ?_ _ | refine blk_drew ?_ | refine blk_alloc ?_ _)); refine blk_put (cs := #[.slice A0_0 l0_0.length c0_0, .slice none 0 0, .slice none 0 0, .int .i64 0, .int .i64 0]) ?_ 1 _ rfl; (with_reducible repeat (first | refine blk_drewN ?_ _ | refine blk_drew ?_ | refine blk_alloc ?_ _)); refine blk_put (cs := #[.slice none 0 0, .slice none 0 0, .slice none 0 0, .int .i64 0, .int .i64 0]) ?_ 0 _ rfl; (with_reducible repeat (first | refine blk_drewN ?_ _ | refine blk_drew ?_ | refine blk_alloc ?_ _)); exact BK477.out⟩, ⟨lb2_ HB.out GE475.out GE477.out⟩⟩
  case round =>
   clear H'
   try clear c1
   try clear p2
   try clear c3
   try clear c9
   try clear c10
   try clear hcz10_0 hcz10_1 hcz10_2 hcz10_3 hcz10_4
   try clear hcz5_0 hcz5_1 hcz5_2 hcz5_3 hcz5_4 hcz5_5 hcz5_6 hcz5_7
   try clear hcz7_0 hcz7_1 hcz7_2 hcz7_3 hcz7_4 hcz7_5 hcz7_6 hcz7_7
   try clear hfz10_0 hfz10_1 hfz10_2 hfz10_3 hfz10_4
   try clear hfz5_0 hfz5_1 hfz5_2 hfz5_3 hfz5_4 hfz5_5 hfz5_6 hfz5_7
   try clear hfz7_0 hfz7_1 hfz7_2 hfz7_3 hfz7_4 hfz7_5 hfz7_6 hfz7_7
   obtain ⟨x5_1, x6_1, rfl, rfl, HA, HK1, BK475, BK477, HB⟩ := hrel
   cases gk with
   | zero => exact absurd HA.out (by simp [spec_FormatConsole.l0])
   | succ k1 =>
    have H := HA.out
    clear HA
    simp only [spec_FormatConsole.l0] at H
    by_cases c11 : x6_1 < (l0_0.length : Int)
    ·
     rw [if_pos c11] at H
     have c11b0 : decide (x6_1 < (l0_0.length : Int)) = true := decide_eq_true c11
     clear c11
     by_cases c12 : 0 ≤ x6_1
     ·
      rw [if_pos c12] at H
      have c12b0 : decide (0 ≤ x6_1) = true := decide_eq_true c12
      clear c12
      replace H := Option.bind_eq_some_iff.mp H
      obtain ⟨t479, A130, H⟩ := H
      replace H : (if x5_1.size + t479.size ≤ 9223372036854775807 then (if (sc x5_1 t479).size + 1 ≤ 9223372036854775807 then (spec_FormatConsole.l0 k1 (sc (sc x5_1 t479) (⟨#[10]⟩ : ByteArray)) (wrap64 (x6_1 + 1)) l0_0 l0_1 l0_2 a0_3 a0_4 a0_5 a0_6 a0_7 l0_0 l0_1 l0_2 a0_3 a0_4) else (none)) else (none)) = some (r1, r2) := H
      have A13 := Aside0.mk A130
      clear A130
      by_cases c14 : x5_1.size + t479.size ≤ 9223372036854775807
      ·
       rw [if_pos c14] at H
       have c14b0 := eq_true c14
       have c14b1 : decide (x5_1.size + t479.size ≤ 9223372036854775807) = true := decide_eq_true c14
       try have c14b2 : (9223372036854775807 < x5_1.size + t479.size) = False := eq_false (Nat.not_lt.2 c14)
       by_cases c15 : (sc x5_1 t479).size + 1 ≤ 9223372036854775807
       ·
        rw [if_pos c15] at H
        have c15b0 := eq_true c15; have c15b1 : decide ((sc x5_1 t479).size + 1 ≤ 9223372036854775807) = true := decide_eq_true c15
        try have c15b2 : (9223372036854775807 < (sc x5_1 t479).size + 1) = False := eq_false (Nat.not_lt.2 c15)
        have H' := Aside0.mk H; clear H; have hnb16 := NB477_475.out; have hnc16 := NB475_477.out; obtain ⟨hcz17_0, hcz17_1, hcz17_2, hcz17_3, hcz17_4⟩ := cz5_ BK477.out; obtain ⟨hfz17_0, hfz17_1, hfz17_2, hfz17_3, hfz17_4⟩ := fz5_ BK477.out; have p478 : 0 ≤ (x6_1 : Int) := dt_; have q478 : x6_1 < (l0_0.length : Int) := dt_; obtain ⟨ad478, e478, hx478_0, hx478_1, hx478_2, hx478_3, hx478_4⟩ := at_T53 HR0_0.out x6_1 p478 q478
        cases e478
        replace hx478_0 := bc_ HB.out hx478_0; replace hx478_1 := bc_ HB.out hx478_1; replace hx478_2 := bc_ HB.out hx478_2; replace hx478_3 := bc_ HB.out hx478_3; replace hx478_4 := bc_ HB.out hx478_4; replace p478 := eq_true p478; replace q478 := eq_true q478
        go_wp2_with (first | ((with_reducible refine gate_callee (f := 21) rfl ?_); refine ga_ (some 25) Tryd.func21 #[.agg #[.int .i64 ((rd_T53 l0_0 x6_1).f0), .int .i64 ((rd_T53 l0_0 x6_1).f1), .int .i64 ((rd_T53 l0_0 x6_1).f2), .int .i64 ((rd_T53 l0_0 x6_1).f3), .int .i64 ((rd_T53 l0_0 x6_1).f4)]] ?_; (with_reducible refine (spec_l4Text.calls k1 ((rd_T53 l0_0 x6_1).f0) ((rd_T53 l0_0 x6_1).f1) ((rd_T53 l0_0 x6_1).f2) ((rd_T53 l0_0 x6_1).f3) ((rd_T53 l0_0 x6_1).f4) t479 _ A13.out).mono ?_); rintro e w18 ⟨rfl, hb⟩; refine ⟨_, rfl, ?_⟩; replace BK475 := Aside0.mk (bb_ (bk_ BK475.out) hb); replace BK477 := Aside0.mk (bb_ (bk_ BK477.out) hb); replace HB := Aside0.mk (below_step (lb2_ HB.out GE475.out GE477.out) hb); (try clear hb); (try clear hb2); (try clear hk); (try clear hi)))
        go_roundg k1
        case measure => have := HK1.out; omega
        case rel => exact ⟨(sc (sc x5_1 t479) (⟨#[10]⟩ : ByteArray)), (wrap64 (x6_1 + 1)), (by first | rfl | (simp; done) | (simp [*]; done)), (by first | rfl | (simp; done) | (simp [*]; done)), H', ⟨by have := HK1.out; omega⟩, ⟨bk_ BK475.out⟩, ⟨bk_ BK477.out⟩, ⟨lb2_ HB.out GE475.out GE477.out⟩⟩
       ·
        rw [if_neg c15] at H
        exact absurd H (by simp)
      ·
       rw [if_neg c14] at H
       exact absurd H (by simp)
     ·
      rw [if_neg c12] at H
      exact absurd H (by simp)
    ·
     rw [if_neg c11] at H
     have c11b0 : decide (x6_1 < (l0_0.length : Int)) = false := decide_eq_false c11
     clear c11
     by_cases c19 : x5_1.size + 3 ≤ 9223372036854775807
     ·
      rw [if_pos c19] at H
      have c19b0 := eq_true c19
      have c19b1 : decide (x5_1.size + 3 ≤ 9223372036854775807) = true := decide_eq_true c19
      try have c19b2 : (9223372036854775807 < x5_1.size + 3) = False := eq_false (Nat.not_lt.2 c19)
      replace H := Option.bind_eq_some_iff.mp H
      obtain ⟨t480, A200, H⟩ := H
      replace H : (if (sc x5_1 (⟨#[97, 116, 32]⟩ : ByteArray)).size + t480.size ≤ 9223372036854775807 then (if (sc (sc x5_1 (⟨#[97, 116, 32]⟩ : ByteArray)) t480).size + 8 ≤ 9223372036854775807 then ((spec_l1Num.f k1 a0_4).bind fun t481 => (if (sc (sc (sc x5_1 (⟨#[97, 116, 32]⟩ : ByteArray)) t480) (⟨#[59, 32, 108, 105, 103, 104, 116, 32]⟩ : ByteArray)).size + t481.size ≤ 9223372036854775807 then (if (sc (sc (sc (sc x5_1 (⟨#[97, 116, 32]⟩ : ByteArray)) t480) (⟨#[59, 32, 108, 105, 103, 104, 116, 32]⟩ : ByteArray)) t481).size + 10 ≤ 9223372036854775807 then ((spec_l1Num.f k1 a0_7).bind fun t482 => (if (sc (sc (sc (sc (sc x5_1 (⟨#[97, 116, 32]⟩ : ByteArray)) t480) (⟨#[59, 32, 108, 105, 103, 104, 116, 32]⟩ : ByteArray)) t481) (⟨#[59, 32, 114, 101, 99, 111, 114, 100, 115, 32]⟩ : ByteArray)).size + t482.size ≤ 9223372036854775807 then (if (sc (sc (sc (sc (sc (sc x5_1 (⟨#[97, 116, 32]⟩ : ByteArray)) t480) (⟨#[59, 32, 108, 105, 103, 104, 116, 32]⟩ : ByteArray)) t481) (⟨#[59, 32, 114, 101, 99, 111, 114, 100, 115, 32]⟩ : ByteArray)) t482).size + 1 ≤ 9223372036854775807 then (some (sc (sc (sc (sc (sc (sc (sc x5_1 (⟨#[97, 116, 32]⟩ : ByteArray)) t480) (⟨#[59, 32, 108, 105, 103, 104, 116, 32]⟩ : ByteArray)) t481) (⟨#[59, 32, 114, 101, 99, 111, 114, 100, 115, 32]⟩ : ByteArray)) t482) (⟨#[10]⟩ : ByteArray), true)) else (none)) else (none))) else (none)) else (none))) else (none)) else (none)) = some (r1, r2) := H
      have A20 := Aside0.mk A200
      clear A200
      by_cases c21 : (sc x5_1 (⟨#[97, 116, 32]⟩ : ByteArray)).size + t480.size ≤ 9223372036854775807
      ·
       rw [if_pos c21] at H
       have c21b0 := eq_true c21
       have c21b1 : decide ((sc x5_1 (⟨#[97, 116, 32]⟩ : ByteArray)).size + t480.size ≤ 9223372036854775807) = true := decide_eq_true c21
       try have c21b2 : (9223372036854775807 < (sc x5_1 (⟨#[97, 116, 32]⟩ : ByteArray)).size + t480.size) = False := eq_false (Nat.not_lt.2 c21)
       by_cases c22 : (sc (sc x5_1 (⟨#[97, 116, 32]⟩ : ByteArray)) t480).size + 8 ≤ 9223372036854775807
       ·
        rw [if_pos c22] at H
        have c22b0 := eq_true c22; have c22b1 : decide ((sc (sc x5_1 (⟨#[97, 116, 32]⟩ : ByteArray)) t480).size + 8 ≤ 9223372036854775807) = true := decide_eq_true c22
        try have c22b2 : (9223372036854775807 < (sc (sc x5_1 (⟨#[97, 116, 32]⟩ : ByteArray)) t480).size + 8) = False := eq_false (Nat.not_lt.2 c22)
        replace H := Option.bind_eq_some_iff.mp H; obtain ⟨t481, A230, H⟩ := H; replace H : (if (sc (sc (sc x5_1 (⟨#[97, 116, 32]⟩ : ByteArray)) t480) (⟨#[59, 32, 108, 105, 103, 104, 116, 32]⟩ : ByteArray)).size + t481.size ≤ 9223372036854775807 then (if (sc (sc (sc (sc x5_1 (⟨#[97, 116, 32]⟩ : ByteArray)) t480) (⟨#[59, 32, 108, 105, 103, 104, 116, 32]⟩ : ByteArray)) t481).size + 10 ≤ 9223372036854775807 then ((spec_l1Num.f k1 a0_7).bind fun t482 => (if (sc (sc (sc (sc (sc x5_1 (⟨#[97, 116, 32]⟩ : ByteArray)) t480) (⟨#[59, 32, 108, 105, 103, 104, 116, 32]⟩ : ByteArray)) t481) (⟨#[59, 32, 114, 101, 99, 111, 114, 100, 115, 32]⟩ : ByteArray)).size + t482.size ≤ 9223372036854775807 then (if (sc (sc (sc (sc (sc (sc x5_1 (⟨#[97, 116, 32]⟩ : ByteArray)) t480) (⟨#[59, 32, 108, 105, 103, 104, 116, 32]⟩ : ByteArray)) t481) (⟨#[59, 32, 114, 101, 99, 111, 114, 100, 115, 32]⟩ : ByteArray)) t482).size + 1 ≤ 9223372036854775807 then (some (sc (sc (sc (sc (sc (sc (sc x5_1 (⟨#[97, 116, 32]⟩ : ByteArray)) t480) (⟨#[59, 32, 108, 105, 103, 104, 116, 32]⟩ : ByteArray)) t481) (⟨#[59, 32, 114, 101, 99, 111, 114, 100, 115, 32]⟩ : ByteArray)) t482) (⟨#[10]⟩ : ByteArray), true)) else (none)) else (none))) else (none)) else (none)) = some (r1, r2) := H; have A23 := Aside0.mk A230; clear A230
        by_cases c24 : (sc (sc (sc x5_1 (⟨#[97, 116, 32]⟩ : ByteArray)) t480) (⟨#[59, 32, 108, 105, 103, 104, 116, 32]⟩ : ByteArray)).size + t481.size ≤ 9223372036854775807
        ·
         rw [if_pos c24] at H
         have c24b0 := eq_true c24; have c24b1 : decide ((sc (sc (sc x5_1 (⟨#[97, 116, 32]⟩ : ByteArray)) t480) (⟨#[59, 32, 108, 105, 103, 104, 116, 32]⟩ : ByteArray)).size + t481.size ≤ 9223372036854775807) = true := decide_eq_true c24
         try have c24b2 : (9223372036854775807 < (sc (sc (sc x5_1 (⟨#[97, 116, 32]⟩ : ByteArray)) t480) (⟨#[59, 32, 108, 105, 103, 104, 116, 32]⟩ : ByteArray)).size + t481.size) = False := eq_false (Nat.not_lt.2 c24)
         by_cases c25 : (sc (sc (sc (sc x5_1 (⟨#[97, 116, 32]⟩ : ByteArray)) t480) (⟨#[59, 32, 108, 105, 103, 104, 116, 32]⟩ : ByteArray)) t481).size + 10 ≤ 9223372036854775807
         ·
          rw [if_pos c25] at H
          have c25b0 := eq_true c25; have c25b1 : decide ((sc (sc (sc (sc x5_1 (⟨#[97, 116, 32]⟩ : ByteArray)) t480) (⟨#[59, 32, 108, 105, 103, 104, 116, 32]⟩ : ByteArray)) t481).size + 10 ≤ 9223372036854775807) = true := decide_eq_true c25
          try have c25b2 : (9223372036854775807 < (sc (sc (sc (sc x5_1 (⟨#[97, 116, 32]⟩ : ByteArray)) t480) (⟨#[59, 32, 108, 105, 103, 104, 116, 32]⟩ : ByteArray)) t481).size + 10) = False := eq_false (Nat.not_lt.2 c25)
          replace H := Option.bind_eq_some_iff.mp H; obtain ⟨t482, A260, H⟩ := H; replace H : (if (sc (sc (sc (sc (sc x5_1 (⟨#[97, 116, 32]⟩ : ByteArray)) t480) (⟨#[59, 32, 108, 105, 103, 104, 116, 32]⟩ : ByteArray)) t481) (⟨#[59, 32, 114, 101, 99, 111, 114, 100, 115, 32]⟩ : ByteArray)).size + t482.size ≤ 9223372036854775807 then (if (sc (sc (sc (sc (sc (sc x5_1 (⟨#[97, 116, 32]⟩ : ByteArray)) t480) (⟨#[59, 32, 108, 105, 103, 104, 116, 32]⟩ : ByteArray)) t481) (⟨#[59, 32, 114, 101, 99, 111, 114, 100, 115, 32]⟩ : ByteArray)) t482).size + 1 ≤ 9223372036854775807 then (some (sc (sc (sc (sc (sc (sc (sc x5_1 (⟨#[97, 116, 32]⟩ : ByteArray)) t480) (⟨#[59, 32, 108, 105, 103, 104, 116, 32]⟩ : ByteArray)) t481) (⟨#[59, 32, 114, 101, 99, 111, 114, 100, 115, 32]⟩ : ByteArray)) t482) (⟨#[10]⟩ : ByteArray), true)) else (none)) else (none)) = some (r1, r2) := H; have A26 := Aside0.mk A260; clear A260
          by_cases c27 : (sc (sc (sc (sc (sc x5_1 (⟨#[97, 116, 32]⟩ : ByteArray)) t480) (⟨#[59, 32, 108, 105, 103, 104, 116, 32]⟩ : ByteArray)) t481) (⟨#[59, 32, 114, 101, 99, 111, 114, 100, 115, 32]⟩ : ByteArray)).size + t482.size ≤ 9223372036854775807
          ·
           rw [if_pos c27] at H
           have c27b0 := eq_true c27; have c27b1 : decide ((sc (sc (sc (sc (sc x5_1 (⟨#[97, 116, 32]⟩ : ByteArray)) t480) (⟨#[59, 32, 108, 105, 103, 104, 116, 32]⟩ : ByteArray)) t481) (⟨#[59, 32, 114, 101, 99, 111, 114, 100, 115, 32]⟩ : ByteArray)).size + t482.size ≤ 9223372036854775807) = true := decide_eq_true c27
           try have c27b2 : (9223372036854775807 < (sc (sc (sc (sc (sc x5_1 (⟨#[97, 116, 32]⟩ : ByteArray)) t480) (⟨#[59, 32, 108, 105, 103, 104, 116, 32]⟩ : ByteArray)) t481) (⟨#[59, 32, 114, 101, 99, 111, 114, 100, 115, 32]⟩ : ByteArray)).size + t482.size) = False := eq_false (Nat.not_lt.2 c27)
           by_cases c28 : (sc (sc (sc (sc (sc (sc x5_1 (⟨#[97, 116, 32]⟩ : ByteArray)) t480) (⟨#[59, 32, 108, 105, 103, 104, 116, 32]⟩ : ByteArray)) t481) (⟨#[59, 32, 114, 101, 99, 111, 114, 100, 115, 32]⟩ : ByteArray)) t482).size + 1 ≤ 9223372036854775807
           ·
            rw [if_pos c28] at H
            have c28b0 := eq_true c28; have c28b1 : decide ((sc (sc (sc (sc (sc (sc x5_1 (⟨#[97, 116, 32]⟩ : ByteArray)) t480) (⟨#[59, 32, 108, 105, 103, 104, 116, 32]⟩ : ByteArray)) t481) (⟨#[59, 32, 114, 101, 99, 111, 114, 100, 115, 32]⟩ : ByteArray)) t482).size + 1 ≤ 9223372036854775807) = true := decide_eq_true c28
            try have c28b2 : (9223372036854775807 < (sc (sc (sc (sc (sc (sc x5_1 (⟨#[97, 116, 32]⟩ : ByteArray)) t480) (⟨#[59, 32, 108, 105, 103, 104, 116, 32]⟩ : ByteArray)) t481) (⟨#[59, 32, 114, 101, 99, 111, 114, 100, 115, 32]⟩ : ByteArray)) t482).size + 1) = False := eq_false (Nat.not_lt.2 c28)
            simp only [Option.some.injEq, Prod.mk.injEq] at H; obtain ⟨rfl, rfl⟩ := H; have hnb29 := NB477_475.out; have hnc29 := NB475_477.out; obtain ⟨hcz30_0, hcz30_1, hcz30_2, hcz30_3, hcz30_4⟩ := cz5_ BK477.out; obtain ⟨hfz30_0, hfz30_1, hfz30_2, hfz30_3, hfz30_4⟩ := fz5_ BK477.out
            try go_wp2
            replace BK475 := Aside0.mk (blk_drew BK475.out); replace BK477 := Aside0.mk (blk_drew BK477.out); replace HB := Aside0.mk (below_drew1 HB.out); refine start_ (n := 20) (S := fun w' => w'.cell? ⟨gb477, 0, none⟩ = some (.slice A0_0 l0_0.length c0_0) ∧ w'.cell? ⟨gb477, 1, none⟩ = some (.slice A0_1 l0_1.length c0_1) ∧ w'.cell? ⟨gb477, 2, none⟩ = some (.slice A0_2 l0_2.length c0_2) ∧ w'.cell? ⟨gb477, 3, none⟩ = some (.int .i64 a0_3) ∧ w'.cell? ⟨gb477, 4, none⟩ = some (.int .i64 a0_4) ∧ w'.cell? ⟨gb475, 0, none⟩ = some (.slice A0_0 l0_0.length c0_0) ∧ w'.cell? ⟨gb475, 1, none⟩ = some (.slice A0_1 l0_1.length c0_1) ∧ w'.cell? ⟨gb475, 2, none⟩ = some (.slice A0_2 l0_2.length c0_2) ∧ w'.cell? ⟨gb475, 3, none⟩ = some (.int .i64 a0_3) ∧ w'.cell? ⟨gb475, 4, none⟩ = some (.int .i64 a0_4) ∧ w'.cell? ⟨gb475, 5, none⟩ = some (.string a0_5) ∧ w'.cell? ⟨gb475, 6, none⟩ = some (.string a0_6) ∧ w'.cell? ⟨gb475, 7, none⟩ = some (.int .i64 a0_7)) (ds := []) spec_FormatConsole.mk0 (by kernel_rfl) rfl rfl ⟨(blk_cell BK477.out 0).trans rfl, (blk_cell BK477.out 1).trans rfl, (blk_cell BK477.out 2).trans rfl, (blk_cell BK477.out 3).trans rfl, (blk_cell BK477.out 4).trans rfl, (blk_cell BK475.out 0).trans rfl, (blk_cell BK475.out 1).trans rfl, (blk_cell BK475.out 2).trans rfl, (blk_cell BK475.out 3).trans rfl, (blk_cell BK475.out 4).trans rfl, (blk_cell BK475.out 5).trans rfl, (blk_cell BK475.out 6).trans rfl, (blk_cell BK475.out 7).trans rfl⟩ (fun hHeld => ?_); refine with_tabW spec_FormatConsole.tab9 spec_FormatConsole.bits9 (fun HT_ HW_ => ?_); generalize wr.drew = w31 at BK475 BK477 HB hHeld ⊢; refine pz_ HT_ 0 (some 28) spec_FormatConsole.mk1 ?_; refine pz_ HT_ 1 (some 29) spec_FormatConsole.mk2 ?_; refine pz_ HT_ 2 (some 30) spec_FormatConsole.mk3 ?_; refine pz_ HT_ 7 (some 35) spec_FormatConsole.mk4 ?_; refine pz_ HT_ 12 (some 40) spec_FormatConsole.mk5 ?_; refine pz_ HT_ 13 (some 41) spec_FormatConsole.mk6 ?_; refine take_ (i := 3) (N := some 31) (v := ?_) (a' := ?_) spec_FormatConsole.mk7 rfl rfl (take_ofW HT_.out HW_.out (by kernel_rfl)) (fun _ _ _ h => h) (Or.inl ⟨by rfl, ?_⟩) hHeld ?_ ?_; rotate_left
            ·
             rintro w' ⟨s0, s1, s2, s3, s4, s5, s6, s7, s8, s9, s10, s11, s12⟩; go_simp; (with_reducible rfl)
            rotate_left
            ·
             simp only [Act.put, List.setIfInBounds_toArray, List.set_cons_zero, List.set_cons_succ, i64_w, i32_w]; rfl
            refine take_ (i := 8) (N := some 36) (v := ?_) (a' := ?_) spec_FormatConsole.mk8 rfl rfl (take_ofW HT_.out HW_.out (by kernel_rfl)) (fun _ _ _ h => h) (Or.inl ⟨by rfl, ?_⟩) hHeld ?_ ?_; rotate_left
            ·
             rintro w' ⟨s0, s1, s2, s3, s4, s5, s6, s7, s8, s9, s10, s11, s12⟩; go_simp; (with_reducible rfl)
            rotate_left
            ·
             simp only [Act.put, List.setIfInBounds_toArray, List.set_cons_zero, List.set_cons_succ, i64_w, i32_w]; rfl
            refine take_ (i := 14) (N := some 42) (v := ?_) (a' := ?_) spec_FormatConsole.mk9 rfl rfl (take_ofW HT_.out HW_.out (by kernel_rfl)) (fun _ _ _ h => h) (Or.inl ⟨by rfl, ?_⟩) hHeld ?_ ?_; rotate_left
            ·
             rintro w' ⟨s0, s1, s2, s3, s4, s5, s6, s7, s8, s9, s10, s11, s12⟩; go_simp; (with_reducible rfl)
            rotate_left
            ·
             simp only [Act.put, List.setIfInBounds_toArray, List.set_cons_zero, List.set_cons_succ, i64_w, i32_w]; rfl
            refine one_ (i := 4) (N := some 32) spec_FormatConsole.mk10 rfl rfl (one_of HT_.out (by kernel_rfl)) (by decide) (fun K hK => ?_); refine gs_ Tryd.func22 #[.int .i64 a0_3] ?_; (with_reducible refine (spec_l1Num.calls k1 a0_3 t480 _ A20.out).mono ?_); rintro e w32 ⟨rfl, hb⟩; refine ⟨_, rfl, ?_⟩; replace BK475 := Aside0.mk (bb_ (bk_ BK475.out) hb); replace BK477 := Aside0.mk (bb_ (bk_ BK477.out) hb); replace HB := Aside0.mk (below_step (lb2_ HB.out GE475.out GE477.out) hb); (try clear hb); (try clear hb2); (try clear hk); (try clear hi); refine hK.out _ _ ⟨(blk_cell BK477.out 0).trans rfl, (blk_cell BK477.out 1).trans rfl, (blk_cell BK477.out 2).trans rfl, (blk_cell BK477.out 3).trans rfl, (blk_cell BK477.out 4).trans rfl, (blk_cell BK475.out 0).trans rfl, (blk_cell BK475.out 1).trans rfl, (blk_cell BK475.out 2).trans rfl, (blk_cell BK475.out 3).trans rfl, (blk_cell BK475.out 4).trans rfl, (blk_cell BK475.out 5).trans rfl, (blk_cell BK475.out 6).trans rfl, (blk_cell BK475.out 7).trans rfl⟩ (fun hHeld => ?_); clear hK K; refine na_ ?_; refine pz_ HT_ 5 (some 33) spec_FormatConsole.mk11 ?_; refine pz_ HT_ 6 (some 34) spec_FormatConsole.mk12 ?_; refine one_ (i := 9) (N := some 37) spec_FormatConsole.mk13 rfl rfl (one_of HT_.out (by kernel_rfl)) (by decide) (fun K hK => ?_); refine gs_ Tryd.func22 #[.int .i64 a0_4] ?_; (with_reducible refine (spec_l1Num.calls k1 a0_4 t481 _ A23.out).mono ?_); rintro e w33 ⟨rfl, hb⟩; refine ⟨_, rfl, ?_⟩; replace BK475 := Aside0.mk (bb_ (bk_ BK475.out) hb); replace BK477 := Aside0.mk (bb_ (bk_ BK477.out) hb); replace HB := Aside0.mk (below_step (lb2_ HB.out GE475.out GE477.out) hb); (try clear hb); (try clear hb2); (try clear hk); (try clear hi); refine hK.out _ _ ⟨(blk_cell BK477.out 0).trans rfl, (blk_cell BK477.out 1).trans rfl, (blk_cell BK477.out 2).trans rfl, (blk_cell BK477.out 3).trans rfl, (blk_cell BK477.out 4).trans rfl, (blk_cell BK475.out 0).trans rfl, (blk_cell BK475.out 1).trans rfl, (blk_cell BK475.out 2).trans rfl, (blk_cell BK475.out 3).trans rfl, (blk_cell BK475.out 4).trans rfl, (blk_cell BK475.out 5).trans rfl, (blk_cell BK475.out 6).trans rfl, (blk_cell BK475.out 7).trans rfl⟩ (fun hHeld => ?_); clear hK K; refine na_ ?_; refine pz_ HT_ 10 (some 38) spec_FormatConsole.mk14 ?_; refine pz_ HT_ 11 (some 39) spec_FormatConsole.mk15 ?_; refine one_ (i := 15) (N := some 43) spec_FormatConsole.mk16 rfl rfl (one_of HT_.out (by kernel_rfl)) (by decide) (fun K hK => ?_); refine gs_ Tryd.func22 #[.int .i64 a0_7] ?_; (with_reducible refine (spec_l1Num.calls k1 a0_7 t482 _ A26.out).mono ?_); rintro e w34 ⟨rfl, hb⟩; refine ⟨_, rfl, ?_⟩; replace BK475 := Aside0.mk (bb_ (bk_ BK475.out) hb); replace BK477 := Aside0.mk (bb_ (bk_ BK477.out) hb); replace HB := Aside0.mk (below_step (lb2_ HB.out GE475.out GE477.out) hb); (try clear hb); (try clear hb2); (try clear hk); (try clear hi); refine hK.out _ _ ⟨(blk_cell BK477.out 0).trans rfl, (blk_cell BK477.out 1).trans rfl, (blk_cell BK477.out 2).trans rfl, (blk_cell BK477.out 3).trans rfl, (blk_cell BK477.out 4).trans rfl, (blk_cell BK475.out 0).trans rfl, (blk_cell BK475.out 1).trans rfl, (blk_cell BK475.out 2).trans rfl, (blk_cell BK475.out 3).trans rfl, (blk_cell BK475.out 4).trans rfl, (blk_cell BK475.out 5).trans rfl, (blk_cell BK475.out 6).trans rfl, (blk_cell BK475.out 7).trans rfl⟩ (fun hHeld => ?_); clear hK K; refine na_ ?_; refine pz_ HT_ 16 (some 44) spec_FormatConsole.mk17 ?_; refine pz_ HT_ 17 (some 45) spec_FormatConsole.mk18 ?_; refine pz_ HT_ 18 (some 2) spec_FormatConsole.mk19 ?_; refine pz_ HT_ 19 (some 3) spec_FormatConsole.mk20 ?_; refine done_ (done_of HT_.out (by kernel_rfl)) ?_
            try go_wp2
            go_ret2
            exact ⟨rr_, lb2_ HB.out GE475.out GE477.out⟩
           ·
            rw [if_neg c28] at H
            exact absurd H (by simp)
          ·
           rw [if_neg c27] at H
           exact absurd H (by simp)
         ·
          rw [if_neg c25] at H
          exact absurd H (by simp)
        ·
         rw [if_neg c24] at H
         exact absurd H (by simp)
       ·
        rw [if_neg c22] at H
        exact absurd H (by simp)
      ·
       rw [if_neg c21] at H
       exact absurd H (by simp)
     ·
      rw [if_neg c19] at H
      exact absurd H (by simp)
 ·
  replace c3 := Bool.eq_false_iff.mpr c3
  subst c3
  have H1 : (some ((⟨#[]⟩ : ByteArray), false)) = some (r1, r2) := by rw [if_neg (show ¬ (false = true) by decide)] at H; exact H
  clear H
  have H := H1
  clear H1
  simp only [Option.some.injEq, Prod.mk.injEq] at H
  obtain ⟨rfl, rfl⟩ := H
  go_enter Tryd.func10, Tryd.ntmps10
  go_wp2_with (first | ((with_reducible refine gate_dst (N := 1) rfl ?_); refine box_event ?hg (N := 1) ?hd (cs := #[.slice A0_0 l0_0.length c0_0, .slice A0_1 l0_1.length c0_1, .slice A0_2 l0_2.length c0_2, .int .i64 a0_3, .int .i64 a0_4, .string a0_5, .string a0_6, .int .i64 a0_7]) (t := 37) ?hr ?_; (case hd => rfl); (case hg => rfl); (case hr => first | (go_simp; done) | (go_simp; rfl)); intro gb475 hg w35 hbox hb; have BK475 := Aside0.mk (hbox); have GW475 := Aside0.mk ((bz_ hg (lb0_ HB.out))); have GE475 := Aside0.mk ((bz_ hg (lb0_ HB.out))); replace HB := Aside0.mk (below_step (lb0_ HB.out) hb); clear hb hbox hg; obtain ⟨hcz36_0, hcz36_1, hcz36_2, hcz36_3, hcz36_4, hcz36_5, hcz36_6, hcz36_7⟩ := cz8_ BK475.out; obtain ⟨hfz36_0, hfz36_1, hfz36_2, hfz36_3, hfz36_4, hfz36_5, hfz36_6, hfz36_7⟩ := fz8_ BK475.out) | ((with_reducible refine gate_callee (f := 14) rfl ?_); refine ga_ (some 8) Tryd.func14 #[.agg #[.slice A0_0 l0_0.length c0_0, .slice A0_1 l0_1.length c0_1, .slice A0_2 l0_2.length c0_2, .int .i64 a0_3, .int .i64 a0_4, .string a0_5, .string a0_6, .int .i64 a0_7]] ?_; (with_reducible refine (spec_l28Good.calls k _ _ l0_0 _ _ l0_1 _ _ l0_2 a0_3 a0_4 a0_5 a0_6 a0_7 false _ ?side1 ?side2 ?side3 ?side4 ?side5 ?side6 A2.out).mono ?_); (case side1 => exact kc_ (Kd.C_below HR0_0.out HB.out)); (case side2 => exact HC0_0.out); (case side3 => exact kc_ (Kd.C_below HR0_1.out HB.out)); (case side4 => exact HC0_1.out); (case side5 => exact kc_ (Kd.C_below HR0_2.out HB.out)); (case side6 => exact HC0_2.out); rintro e w37 ⟨rfl, hb⟩; refine ⟨_, rfl, ?_⟩; replace BK475 := Aside0.mk (bb_ (bk_ BK475.out) hb); replace HB := Aside0.mk (below_step (lb1_ HB.out GE475.out) hb); (try clear hb); (try clear hb2); (try clear hk); (try clear hi)))
  go_ret2
  exact ⟨rr_, lb1_ HB.out GE475.out⟩
end Go.Proofs.YtckigdechhmegaaDoor.Pr

namespace Go.Proofs.YtckigdechhmegaaDoor.Pr
open Go.RowKit Go.Proofs.YtckigdechhmegaaDoorW.PrintWords Go.Proofs.YtckigdechhmegaaDoorW.PrintLast Go.Proofs.YtckigdechhmegaaDoorW.PrintMore
attribute [local go_sem] max2_int min2_int max_two min_two max_three min_three max_four min_four   -- for this text's walks alone
set_option linter.unusedVariables false
set_option linter.unusedSimpArgs false
theorem heap_new_ (w : World) (cs : Array Value) (t : TypeId) : (w.alloc (.cells cs t)).heap[w.heap.size]? = some (.cells cs t (0, 0)) := by
 show (w.heap.push _)[w.heap.size]? = _
 simp
def Tb (w : World) : Prop := ∀ w', Below w.heap.size w w' → Lib.TabIs Tryd.prog w' "internal/strconv.uint64pow10" .u64 Lib.pow10Tab
theorem Tb.step {w W : World} (h : Tb w) (hb : Below w.heap.size w W) : Tb W := fun w' hw => h w' (below_then hb hb.size hw)
theorem grow_below_ (w : World) (q : Nat) (os : Array Obj) : Below w.heap.size w (Go.Sort.grow (w.drewN q) os) :=
 ⟨rfl, rfl, rfl, by simp [Go.Sort.grow, World.drewN], fun k hk => by simp [Go.Sort.grow, World.drewN, Array.getElem?_append, hk]⟩
def strconv_Itoa_43.f (a0 : Int) : Option ByteArray := if -9223372036854775808 ≤ a0 then (if a0 ≤ 9223372036854775807 then some ⟨(Lib.itoa a0).toArray⟩ else none) else none
theorem strconv_Itoa_43.calls (a0 : Int) (r : ByteArray) (w : World) (h : strconv_Itoa_43.f a0 = some r) (hT : Tb w) :
  Calls Tryd.prog 43 #[.int .i64 a0] w fun e w' => e = .returned (.string r) ∧ Below w.heap.size w w' := by
 unfold strconv_Itoa_43.f at h
 by_cases h0 : -9223372036854775808 ≤ a0
 ·
  by_cases h1 : a0 ≤ 9223372036854775807
  ·
   rw [if_pos h0, if_pos h1] at h
   obtain rfl := Option.some.inj h
   refine (Tryd.strconv_Itoa a0 h0 h1 w (hT w (Below.refl _ _))).mono ?_
   rintro e w' ⟨rfl, q, os, rfl⟩
   exact ⟨rfl, grow_below_ w q os⟩
  ·
   rw [if_pos h0, if_neg h1] at h
   cases h
 ·
  rw [if_neg h0] at h
  cases h
def impl_decimal.f (a0 : Int) : Option (ByteArray) := (strconv_Itoa_43.f a0).bind fun t346 => (some t346)
theorem impl_decimal.calls (a0 : Int) (r : ByteArray) (w : World) (h : impl_decimal.f a0 = some r) (hT : Tb w) :
  Calls Tryd.prog 27 #[.int .i64 a0] w fun e w' => e = .returned (.string r) ∧ Below w.heap.size w w' := by
 have HT := Aside0.mk hT
 clear hT
 have HB := Aside0.mk (Below.refl w.heap.size w)
 have H : ((strconv_Itoa_43.f a0).bind fun t346 => (some t346)) = some r := h
 clear h
 replace H := Option.bind_eq_some_iff.mp H
 obtain ⟨t346, A20, H⟩ := H
 replace H : (some t346) = some r := H
 have A2 := Aside0.mk A20
 clear A20
 obtain rfl := Option.some.inj H
 go_enter Tryd.func27, Tryd.ntmps27
 go_wp2_with (first | ((with_reducible refine gate_callee (f := 43) rfl ?_); refine ga_ (some 4) Tryd.func43 #[.int .i64 a0] ?_; (with_reducible refine (strconv_Itoa_43.calls a0 t346 _ A2.out ?sideT).mono ?_); (case sideT => first | (with_reducible exact HT.out) | (with_reducible exact Tb.step HT.out HB.out) | exact Tb.step HT.out (by repeat (first | (with_reducible first | exact HB.out | apply below_alloc | apply pw_below_drewN | apply below_drew1) | exact HB.out | exact Below.refl _ _))); rintro e w3 ⟨rfl, hb⟩; refine ⟨_, rfl, ?_⟩; replace HB := Aside0.mk (below_step (lb0_ HB.out) hb); (try clear hb); (try clear hb2); (try clear hk); (try clear hi)))
 go_ret
 exact ⟨rr_, lb0_ HB.out⟩
def impl_within.f (a0 : Int) (a1 : Int) (a2 : Int) : Option (Bool) := if a0 ≥ a1 then (some (decide (a0 ≤ a2))) else (some false)
theorem impl_within.calls (a0 : Int) (a1 : Int) (a2 : Int) (r : Bool) (w : World) (h : impl_within.f a0 a1 a2 = some r) :
  Calls Tryd.prog 37 #[.int .i64 a0, .int .i64 a1, .int .i64 a2] w fun e w' => e = .returned (.bool r) ∧ Drawn0 w w' := by
 have H : (if a0 ≥ a1 then (some (decide (a0 ≤ a2))) else (some false)) = some r := h
 clear h
 by_cases c4 : a0 ≥ a1
 ·
  rw [if_pos c4] at H
  have c4b0 : decide (a1 ≤ a0) = true := decide_eq_true c4
  clear c4
  obtain rfl := Option.some.inj H
  go_enter Tryd.func37, Tryd.ntmps37
  go_wp2
  go_ret
  exact ⟨by first | rfl | (simp; done) | (simp [*]; done), by repeat (first | exact Drawn0.refl _ | apply Drawn0.step)⟩
 ·
  rw [if_neg c4] at H
  have c4b0 : decide (a1 ≤ a0) = false := decide_eq_false c4
  clear c4
  obtain rfl := Option.some.inj H
  go_enter Tryd.func37, Tryd.ntmps37
  go_wp2
  go_ret
  exact ⟨by first | rfl | (simp; done) | (simp [*]; done), by repeat (first | exact Drawn0.refl _ | apply Drawn0.step)⟩
def impl_isStation.f (a0 : Int) : Option (Bool) := (impl_within.f a0 0 7).bind fun t271 => (some t271)
theorem impl_isStation.calls (a0 : Int) (r : Bool) (w : World) (h : impl_isStation.f a0 = some r) :
  Calls Tryd.prog 36 #[.int .i64 a0] w fun e w' => e = .returned (.bool r) ∧ Drawn0 w w' := by
 have H : ((impl_within.f a0 0 7).bind fun t271 => (some t271)) = some r := h
 clear h
 replace H := Option.bind_eq_some_iff.mp H
 obtain ⟨t271, A20, H⟩ := H
 replace H : (some t271) = some r := H
 have A2 := Aside0.mk A20
 clear A20
 obtain rfl := Option.some.inj H
 go_enter Tryd.func36, Tryd.ntmps36
 go_wp2_with (first | ((with_reducible refine gate_callee (f := 37) rfl ?_); refine ga_ (some 4) Tryd.func37 #[.int .i64 a0, .int .i64 0, .int .i64 7] ?_; (with_reducible refine (impl_within.calls a0 0 7 t271 _ A2.out).mono ?_); rintro e w' ⟨rfl, ⟨nd, rfl⟩⟩; refine ⟨_, rfl, ?_⟩))
 go_ret
 exact ⟨by first | rfl | (simp; done) | (simp [*]; done), by repeat (first | exact Drawn0.refl _ | apply Drawn0.step)⟩
def impl_isBearing.f (a0 : Int) : Option (Bool) := (impl_within.f a0 0 359).bind fun t272 => (some t272)
theorem impl_isBearing.calls (a0 : Int) (r : Bool) (w : World) (h : impl_isBearing.f a0 = some r) :
  Calls Tryd.prog 60 #[.int .i64 a0] w fun e w' => e = .returned (.bool r) ∧ Drawn0 w w' := by
 have H : ((impl_within.f a0 0 359).bind fun t272 => (some t272)) = some r := h
 clear h
 replace H := Option.bind_eq_some_iff.mp H
 obtain ⟨t272, A20, H⟩ := H
 replace H : (some t272) = some r := H
 have A2 := Aside0.mk A20
 clear A20
 obtain rfl := Option.some.inj H
 go_enter Tryd.func60, Tryd.ntmps60
 go_wp2_with (first | ((with_reducible refine gate_callee (f := 37) rfl ?_); refine ga_ (some 4) Tryd.func37 #[.int .i64 a0, .int .i64 0, .int .i64 359] ?_; (with_reducible refine (impl_within.calls a0 0 359 t272 _ A2.out).mono ?_); rintro e w' ⟨rfl, ⟨nd, rfl⟩⟩; refine ⟨_, rfl, ?_⟩))
 go_ret
 exact ⟨by first | rfl | (simp; done) | (simp [*]; done), by repeat (first | exact Drawn0.refl _ | apply Drawn0.step)⟩
def impl_IsLeg.f (a0_0 : Int) (a0_1 : Int) (a0_2 : Int) (a0_3 : Int) (a0_4 : Int) : Option (Bool) := (impl_isStation.f a0_0).bind fun t274 => (if t274 = true then ((impl_isStation.f a0_1).bind fun t275 => (if t275 = true then (if a0_0 = a0_1 then (some false) else ((impl_within.f a0_2 1 500).bind fun t276 => (if t276 = true then ((impl_isBearing.f a0_3).bind fun t277 => (if t277 = true then ((impl_within.f a0_4 (-90) 90).bind fun t278 => (some t278)) else (some false))) else (some false)))) else (some false))) else (some false))
theorem impl_IsLeg.calls (a0_0 : Int) (a0_1 : Int) (a0_2 : Int) (a0_3 : Int) (a0_4 : Int) (r : Bool) (w : World) (h : impl_IsLeg.f a0_0 a0_1 a0_2 a0_3 a0_4 = some r) :
  Calls Tryd.prog 50 #[.agg #[.int .i64 a0_0, .int .i64 a0_1, .int .i64 a0_2, .int .i64 a0_3, .int .i64 a0_4]] w fun e w' => e = .returned (.bool r) ∧ Below w.heap.size w w' := by
 have hu53 := Tryd.underlying53
 have HB := Aside0.mk (Below.refl w.heap.size w)
 have H : ((impl_isStation.f a0_0).bind fun t274 => (if t274 = true then ((impl_isStation.f a0_1).bind fun t275 => (if t275 = true then (if a0_0 = a0_1 then (some false) else ((impl_within.f a0_2 1 500).bind fun t276 => (if t276 = true then ((impl_isBearing.f a0_3).bind fun t277 => (if t277 = true then ((impl_within.f a0_4 (-90) 90).bind fun t278 => (some t278)) else (some false))) else (some false)))) else (some false))) else (some false))) = some r := h
 clear h
 replace H := Option.bind_eq_some_iff.mp H
 obtain ⟨t274, A20, H⟩ := H
 replace H : (if t274 = true then ((impl_isStation.f a0_1).bind fun t275 => (if t275 = true then (if a0_0 = a0_1 then (some false) else ((impl_within.f a0_2 1 500).bind fun t276 => (if t276 = true then ((impl_isBearing.f a0_3).bind fun t277 => (if t277 = true then ((impl_within.f a0_4 (-90) 90).bind fun t278 => (some t278)) else (some false))) else (some false)))) else (some false))) else (some false)) = some r := H
 have A2 := Aside0.mk A20
 clear A20
 by_cases c3 : t274 = true
 ·
  subst c3
  have H1 : ((impl_isStation.f a0_1).bind fun t275 => (if t275 = true then (if a0_0 = a0_1 then (some false) else ((impl_within.f a0_2 1 500).bind fun t276 => (if t276 = true then ((impl_isBearing.f a0_3).bind fun t277 => (if t277 = true then ((impl_within.f a0_4 (-90) 90).bind fun t278 => (some t278)) else (some false))) else (some false)))) else (some false))) = some r := by rw [if_pos rfl] at H; exact H
  clear H
  have H := H1
  clear H1
  replace H := Option.bind_eq_some_iff.mp H
  obtain ⟨t275, A40, H⟩ := H
  replace H : (if t275 = true then (if a0_0 = a0_1 then (some false) else ((impl_within.f a0_2 1 500).bind fun t276 => (if t276 = true then ((impl_isBearing.f a0_3).bind fun t277 => (if t277 = true then ((impl_within.f a0_4 (-90) 90).bind fun t278 => (some t278)) else (some false))) else (some false)))) else (some false)) = some r := H
  have A4 := Aside0.mk A40
  clear A40
  by_cases c5 : t275 = true
  ·
   subst c5
   have H1 : (if a0_0 = a0_1 then (some false) else ((impl_within.f a0_2 1 500).bind fun t276 => (if t276 = true then ((impl_isBearing.f a0_3).bind fun t277 => (if t277 = true then ((impl_within.f a0_4 (-90) 90).bind fun t278 => (some t278)) else (some false))) else (some false)))) = some r := by rw [if_pos rfl] at H; exact H
   clear H
   have H := H1
   clear H1
   by_cases c6 : a0_0 = a0_1
   ·
    rw [if_pos c6] at H
    have c6b0 : (a0_0 == a0_1) = true := beq_iff_eq.mpr c6
    have c6b1 : (a0_0 != a0_1) = false := bne_eq_false_iff_eq.mpr c6
    clear c6
    obtain rfl := Option.some.inj H
    go_enter Tryd.func50, Tryd.ntmps50
    go_wp2_with (first | ((with_reducible refine gate_dst (N := 1) rfl ?_); refine box_event ?hg (N := 1) ?hd (cs := #[.int .i64 a0_0, .int .i64 a0_1, .int .i64 a0_2, .int .i64 a0_3, .int .i64 a0_4]) (t := 53) ?hr ?_; (case hd => rfl); (case hg => rfl); (case hr => first | (go_simp; done) | (go_simp; rfl)); intro gb273 hg w7 hbox hb; have BK273 := Aside0.mk (hbox); have GW273 := Aside0.mk ((bz_ hg (lb0_ HB.out))); have GE273 := Aside0.mk ((bz_ hg (lb0_ HB.out))); replace HB := Aside0.mk (below_step (lb0_ HB.out) hb); clear hb hbox hg; obtain ⟨hcz8_0, hcz8_1, hcz8_2, hcz8_3, hcz8_4⟩ := cz5_ BK273.out; obtain ⟨hfz8_0, hfz8_1, hfz8_2, hfz8_3, hfz8_4⟩ := fz5_ BK273.out) | ((with_reducible refine gate_callee (f := 36) rfl ?_); refine ga_ (some 5) Tryd.func36 #[.int .i64 a0_0] ?_; (with_reducible refine (impl_isStation.calls a0_0 true _ A2.out).mono ?_); rintro e w' ⟨rfl, ⟨nd, rfl⟩⟩; refine ⟨_, rfl, ?_⟩) | (go_at_call 36; (with_reducible refine (impl_isStation.calls a0_1 true _ A4.out).mono ?_); rintro e w' ⟨rfl, ⟨nd, rfl⟩⟩))
    go_ret
    exact ⟨rr_, lb1_ HB.out GE273.out⟩
   ·
    rw [if_neg c6] at H
    have c6b0 : (a0_0 == a0_1) = false := beq_eq_false_iff_ne.mpr c6
    have c6b1 : (a0_0 != a0_1) = true := bne_iff_ne.mpr c6
    replace H := Option.bind_eq_some_iff.mp H
    obtain ⟨t276, A90, H⟩ := H
    replace H : (if t276 = true then ((impl_isBearing.f a0_3).bind fun t277 => (if t277 = true then ((impl_within.f a0_4 (-90) 90).bind fun t278 => (some t278)) else (some false))) else (some false)) = some r := H
    have A9 := Aside0.mk A90
    clear A90
    by_cases c10 : t276 = true
    ·
     subst c10
     have H1 : ((impl_isBearing.f a0_3).bind fun t277 => (if t277 = true then ((impl_within.f a0_4 (-90) 90).bind fun t278 => (some t278)) else (some false))) = some r := by rw [if_pos rfl] at H; exact H
     clear H
     have H := H1
     clear H1
     replace H := Option.bind_eq_some_iff.mp H
     obtain ⟨t277, A110, H⟩ := H
     replace H : (if t277 = true then ((impl_within.f a0_4 (-90) 90).bind fun t278 => (some t278)) else (some false)) = some r := H
     have A11 := Aside0.mk A110
     clear A110
     by_cases c12 : t277 = true
     ·
      subst c12
      have H1 : ((impl_within.f a0_4 (-90) 90).bind fun t278 => (some t278)) = some r := by rw [if_pos rfl] at H; exact H
      clear H
      have H := H1
      clear H1
      replace H := Option.bind_eq_some_iff.mp H
      obtain ⟨t278, A130, H⟩ := H
      replace H : (some t278) = some r := H
      have A13 := Aside0.mk A130
      clear A130
      obtain rfl := Option.some.inj H
      go_enter Tryd.func50, Tryd.ntmps50
      go_wp2_with (first | ((with_reducible refine gate_dst (N := 1) rfl ?_); refine box_event ?hg (N := 1) ?hd (cs := #[.int .i64 a0_0, .int .i64 a0_1, .int .i64 a0_2, .int .i64 a0_3, .int .i64 a0_4]) (t := 53) ?hr ?_; (case hd => rfl); (case hg => rfl); (case hr => first | (go_simp; done) | (go_simp; rfl)); intro gb273 hg w14 hbox hb; have BK273 := Aside0.mk (hbox); have GW273 := Aside0.mk ((bz_ hg (lb0_ HB.out))); have GE273 := Aside0.mk ((bz_ hg (lb0_ HB.out))); replace HB := Aside0.mk (below_step (lb0_ HB.out) hb); clear hb hbox hg; obtain ⟨hcz15_0, hcz15_1, hcz15_2, hcz15_3, hcz15_4⟩ := cz5_ BK273.out; obtain ⟨hfz15_0, hfz15_1, hfz15_2, hfz15_3, hfz15_4⟩ := fz5_ BK273.out) | ((with_reducible refine gate_callee (f := 36) rfl ?_); refine ga_ (some 5) Tryd.func36 #[.int .i64 a0_0] ?_; (with_reducible refine (impl_isStation.calls a0_0 true _ A2.out).mono ?_); rintro e w' ⟨rfl, ⟨nd, rfl⟩⟩; refine ⟨_, rfl, ?_⟩) | (go_at_call 36; (with_reducible refine (impl_isStation.calls a0_1 true _ A4.out).mono ?_); rintro e w' ⟨rfl, ⟨nd, rfl⟩⟩) | (go_at_call 37; (with_reducible refine (impl_within.calls a0_2 1 500 true _ A9.out).mono ?_); rintro e w' ⟨rfl, ⟨nd, rfl⟩⟩) | (go_at_call 60; (with_reducible refine (impl_isBearing.calls a0_3 true _ A11.out).mono ?_); rintro e w' ⟨rfl, ⟨nd, rfl⟩⟩) | (go_at_call 37; (with_reducible refine (impl_within.calls a0_4 (-90) 90 t278 _ A13.out).mono ?_); rintro e w' ⟨rfl, ⟨nd, rfl⟩⟩))
      go_ret
      exact ⟨rr_, lb1_ HB.out GE273.out⟩
     ·
      replace c12 := Bool.eq_false_iff.mpr c12
      subst c12
      have H1 : (some false) = some r := by rw [if_neg (show ¬ (false = true) by decide)] at H; exact H
      clear H
      have H := H1
      clear H1
      obtain rfl := Option.some.inj H
      go_enter Tryd.func50, Tryd.ntmps50
      go_wp2_with (first | ((with_reducible refine gate_dst (N := 1) rfl ?_); refine box_event ?hg (N := 1) ?hd (cs := #[.int .i64 a0_0, .int .i64 a0_1, .int .i64 a0_2, .int .i64 a0_3, .int .i64 a0_4]) (t := 53) ?hr ?_; (case hd => rfl); (case hg => rfl); (case hr => first | (go_simp; done) | (go_simp; rfl)); intro gb273 hg w16 hbox hb; have BK273 := Aside0.mk (hbox); have GW273 := Aside0.mk ((bz_ hg (lb0_ HB.out))); have GE273 := Aside0.mk ((bz_ hg (lb0_ HB.out))); replace HB := Aside0.mk (below_step (lb0_ HB.out) hb); clear hb hbox hg; obtain ⟨hcz17_0, hcz17_1, hcz17_2, hcz17_3, hcz17_4⟩ := cz5_ BK273.out; obtain ⟨hfz17_0, hfz17_1, hfz17_2, hfz17_3, hfz17_4⟩ := fz5_ BK273.out) | ((with_reducible refine gate_callee (f := 36) rfl ?_); refine ga_ (some 5) Tryd.func36 #[.int .i64 a0_0] ?_; (with_reducible refine (impl_isStation.calls a0_0 true _ A2.out).mono ?_); rintro e w' ⟨rfl, ⟨nd, rfl⟩⟩; refine ⟨_, rfl, ?_⟩) | (go_at_call 36; (with_reducible refine (impl_isStation.calls a0_1 true _ A4.out).mono ?_); rintro e w' ⟨rfl, ⟨nd, rfl⟩⟩) | (go_at_call 37; (with_reducible refine (impl_within.calls a0_2 1 500 true _ A9.out).mono ?_); rintro e w' ⟨rfl, ⟨nd, rfl⟩⟩) | (go_at_call 60; (with_reducible refine (impl_isBearing.calls a0_3 false _ A11.out).mono ?_); rintro e w' ⟨rfl, ⟨nd, rfl⟩⟩))
      go_ret
      exact ⟨rr_, lb1_ HB.out GE273.out⟩
    ·
     replace c10 := Bool.eq_false_iff.mpr c10
     subst c10
     have H1 : (some false) = some r := by rw [if_neg (show ¬ (false = true) by decide)] at H; exact H
     clear H
     have H := H1
     clear H1
     obtain rfl := Option.some.inj H
     go_enter Tryd.func50, Tryd.ntmps50
     go_wp2_with (first | ((with_reducible refine gate_dst (N := 1) rfl ?_); refine box_event ?hg (N := 1) ?hd (cs := #[.int .i64 a0_0, .int .i64 a0_1, .int .i64 a0_2, .int .i64 a0_3, .int .i64 a0_4]) (t := 53) ?hr ?_; (case hd => rfl); (case hg => rfl); (case hr => first | (go_simp; done) | (go_simp; rfl)); intro gb273 hg w18 hbox hb; have BK273 := Aside0.mk (hbox); have GW273 := Aside0.mk ((bz_ hg (lb0_ HB.out))); have GE273 := Aside0.mk ((bz_ hg (lb0_ HB.out))); replace HB := Aside0.mk (below_step (lb0_ HB.out) hb); clear hb hbox hg; obtain ⟨hcz19_0, hcz19_1, hcz19_2, hcz19_3, hcz19_4⟩ := cz5_ BK273.out; obtain ⟨hfz19_0, hfz19_1, hfz19_2, hfz19_3, hfz19_4⟩ := fz5_ BK273.out) | ((with_reducible refine gate_callee (f := 36) rfl ?_); refine ga_ (some 5) Tryd.func36 #[.int .i64 a0_0] ?_; (with_reducible refine (impl_isStation.calls a0_0 true _ A2.out).mono ?_); rintro e w' ⟨rfl, ⟨nd, rfl⟩⟩; refine ⟨_, rfl, ?_⟩) | (go_at_call 36; (with_reducible refine (impl_isStation.calls a0_1 true _ A4.out).mono ?_); rintro e w' ⟨rfl, ⟨nd, rfl⟩⟩) | (go_at_call 37; (with_reducible refine (impl_within.calls a0_2 1 500 false _ A9.out).mono ?_); rintro e w' ⟨rfl, ⟨nd, rfl⟩⟩))
     go_ret
     exact ⟨rr_, lb1_ HB.out GE273.out⟩
  ·
   replace c5 := Bool.eq_false_iff.mpr c5
   subst c5
   have H1 : (some false) = some r := by rw [if_neg (show ¬ (false = true) by decide)] at H; exact H
   clear H
   have H := H1
   clear H1
   obtain rfl := Option.some.inj H
   go_enter Tryd.func50, Tryd.ntmps50
   go_wp2_with (first | ((with_reducible refine gate_dst (N := 1) rfl ?_); refine box_event ?hg (N := 1) ?hd (cs := #[.int .i64 a0_0, .int .i64 a0_1, .int .i64 a0_2, .int .i64 a0_3, .int .i64 a0_4]) (t := 53) ?hr ?_; (case hd => rfl); (case hg => rfl); (case hr => first | (go_simp; done) | (go_simp; rfl)); intro gb273 hg w20 hbox hb; have BK273 := Aside0.mk (hbox); have GW273 := Aside0.mk ((bz_ hg (lb0_ HB.out))); have GE273 := Aside0.mk ((bz_ hg (lb0_ HB.out))); replace HB := Aside0.mk (below_step (lb0_ HB.out) hb); clear hb hbox hg; obtain ⟨hcz21_0, hcz21_1, hcz21_2, hcz21_3, hcz21_4⟩ := cz5_ BK273.out; obtain ⟨hfz21_0, hfz21_1, hfz21_2, hfz21_3, hfz21_4⟩ := fz5_ BK273.out) | ((with_reducible refine gate_callee (f := 36) rfl ?_); refine ga_ (some 5) Tryd.func36 #[.int .i64 a0_0] ?_; (with_reducible refine (impl_isStation.calls a0_0 true _ A2.out).mono ?_); rintro e w' ⟨rfl, ⟨nd, rfl⟩⟩; refine ⟨_, rfl, ?_⟩) | (go_at_call 36; (with_reducible refine (impl_isStation.calls a0_1 false _ A4.out).mono ?_); rintro e w' ⟨rfl, ⟨nd, rfl⟩⟩))
   go_ret
   exact ⟨rr_, lb1_ HB.out GE273.out⟩
 ·
  replace c3 := Bool.eq_false_iff.mpr c3
  subst c3
  have H1 : (some false) = some r := by rw [if_neg (show ¬ (false = true) by decide)] at H; exact H
  clear H
  have H := H1
  clear H1
  obtain rfl := Option.some.inj H
  go_enter Tryd.func50, Tryd.ntmps50
  go_wp2_with (first | ((with_reducible refine gate_dst (N := 1) rfl ?_); refine box_event ?hg (N := 1) ?hd (cs := #[.int .i64 a0_0, .int .i64 a0_1, .int .i64 a0_2, .int .i64 a0_3, .int .i64 a0_4]) (t := 53) ?hr ?_; (case hd => rfl); (case hg => rfl); (case hr => first | (go_simp; done) | (go_simp; rfl)); intro gb273 hg w22 hbox hb; have BK273 := Aside0.mk (hbox); have GW273 := Aside0.mk ((bz_ hg (lb0_ HB.out))); have GE273 := Aside0.mk ((bz_ hg (lb0_ HB.out))); replace HB := Aside0.mk (below_step (lb0_ HB.out) hb); clear hb hbox hg; obtain ⟨hcz23_0, hcz23_1, hcz23_2, hcz23_3, hcz23_4⟩ := cz5_ BK273.out; obtain ⟨hfz23_0, hfz23_1, hfz23_2, hfz23_3, hfz23_4⟩ := fz5_ BK273.out) | ((with_reducible refine gate_callee (f := 36) rfl ?_); refine ga_ (some 5) Tryd.func36 #[.int .i64 a0_0] ?_; (with_reducible refine (impl_isStation.calls a0_0 false _ A2.out).mono ?_); rintro e w' ⟨rfl, ⟨nd, rfl⟩⟩; refine ⟨_, rfl, ?_⟩))
  go_ret
  exact ⟨rr_, lb1_ HB.out GE273.out⟩
def impl_areLegs.l0 : Nat → List (S53) → List (S53) → Int → Int → Option (Bool)
 | 0, _, _, _, _ => none
 | k + 1, x0, x5, x6, x7 => if x7 < x6 then (if 0 ≤ x7 then (if x7 < (x5.length : Int) then ((impl_IsLeg.f ((rd_T53 x5 x7).f0) ((rd_T53 x5 x7).f1) ((rd_T53 x5 x7).f2) ((rd_T53 x5 x7).f3) ((rd_T53 x5 x7).f4)).bind fun t281 => (if t281 = true then (impl_areLegs.l0 k x0 x5 x6 (wrap64 (x7 + 1))) else (some false))) else (none)) else (none)) else (some (decide ((x0.length : Int) ≤ 12)))
def impl_areLegs.f (k : Nat) (l0 : List (S53)) : Option (Bool) := impl_areLegs.l0 k l0 l0 (l0.length : Int) 0
theorem impl_areLegs.calls (k : Nat) (A0 : Option Addr) (c0 : Nat) (l0 : List (S53)) (r : Bool) (w : World) (hr0 : Kd.C k53 w A0 l0.length l0) (hc0 : l0.length ≤ c0) (h : impl_areLegs.f k l0 = some r) :
  Calls Tryd.prog 35 #[.slice A0 l0.length c0] w fun e w' => e = .returned (.bool r) ∧ Below w.heap.size w w' := by
 have hu53 := Tryd.underlying53
 have HR0 := Aside0.mk hr0
 have HC0 := Aside0.mk hc0
 clear hr0 hc0
 have HB := Aside0.mk (Below.refl w.heap.size w)
 have H : (impl_areLegs.l0 k l0 l0 (l0.length : Int) 0) = some r := h
 clear h
 have H' := Aside0.mk H
 clear H
 go_enter Tryd.func35, Tryd.ntmps35
 go_wp2
 go_loopg [7] k (fun kq v7 w' => ∃ (x7_1 : Int), v7 = .int .i64 x7_1 ∧ Aside0 (impl_areLegs.l0 kq l0 l0 (l0.length : Int) x7_1 = some r) ∧ Aside0 (kq ≤ k) ∧ Aside0 (Below w.heap.size w w'))
 case atStart => exact ⟨(0), (by first | rfl | (simp; done) | (simp [*]; done)), H', ⟨Nat.le_refl _⟩, ⟨lb0_ HB.out⟩⟩
 case round =>
  clear H'
  obtain ⟨x7_1, rfl, HA, HK1, HB⟩ := hrel
  cases gk with
  | zero => exact absurd HA.out (by simp [impl_areLegs.l0])
  | succ k1 =>
   have H := HA.out
   clear HA
   simp only [impl_areLegs.l0] at H
   by_cases c2 : x7_1 < (l0.length : Int)
   ·
    rw [if_pos c2] at H
    have c2b0 : decide (x7_1 < (l0.length : Int)) = true := decide_eq_true c2
    clear c2
    by_cases c3 : 0 ≤ x7_1
    ·
     rw [if_pos c3] at H
     have c3b0 : decide (0 ≤ x7_1) = true := decide_eq_true c3
     clear c3
     by_cases c4 : x7_1 < (l0.length : Int)
     ·
      rw [if_pos c4] at H
      have c4b0 : decide (x7_1 < (l0.length : Int)) = true := decide_eq_true c4
      clear c4
      replace H := Option.bind_eq_some_iff.mp H
      obtain ⟨t281, A50, H⟩ := H
      replace H : (if t281 = true then (impl_areLegs.l0 k1 l0 l0 (l0.length : Int) (wrap64 (x7_1 + 1))) else (some false)) = some r := H
      have A5 := Aside0.mk A50
      clear A50
      by_cases c6 : t281 = true
      ·
       subst c6
       have H1 : (impl_areLegs.l0 k1 l0 l0 (l0.length : Int) (wrap64 (x7_1 + 1))) = some r := by rw [if_pos rfl] at H; exact H
       clear H
       have H := H1
       clear H1
       have H' := Aside0.mk H
       clear H
       have p279 : 0 ≤ (x7_1 : Int) := dt_
       have q279 : x7_1 < (l0.length : Int) := dt_
       obtain ⟨ad279, e279, hx279_0, hx279_1, hx279_2, hx279_3, hx279_4⟩ := at_T53 HR0.out x7_1 p279 q279
       cases e279
       replace hx279_0 := bc_ HB.out hx279_0
       replace hx279_1 := bc_ HB.out hx279_1
       replace hx279_2 := bc_ HB.out hx279_2
       replace hx279_3 := bc_ HB.out hx279_3
       replace hx279_4 := bc_ HB.out hx279_4
       replace p279 := eq_true p279
       replace q279 := eq_true q279
       go_wp2_with (first | ((with_reducible refine gate_dst (N := 4) rfl ?_); refine box_event ?hg (N := 4) ?hd (cs := #[.int .i64 0, .int .i64 0, .int .i64 0, .int .i64 0, .int .i64 0]) (t := 53) ?hr ?_; (case hd => rfl); (case hg => rfl); (case hr => first | (go_simp; done) | (go_simp; rfl)); intro gb280 hg w7 hbox hb; have BK280 := Aside0.mk (hbox); have GW280 := Aside0.mk ((bz_ hg (lb0_ HB.out))); have GE280 := Aside0.mk ((bz_ hg (lb0_ HB.out))); replace HB := Aside0.mk (below_step (lb0_ HB.out) hb); clear hb hbox hg; obtain ⟨hcz8_0, hcz8_1, hcz8_2, hcz8_3, hcz8_4⟩ := cz5_ BK280.out; obtain ⟨hfz8_0, hfz8_1, hfz8_2, hfz8_3, hfz8_4⟩ := fz5_ BK280.out) | ((with_reducible refine gate_callee (f := 50) rfl ?_); refine ga_ (some 12) Tryd.func50 #[.agg #[.int .i64 ((rd_T53 l0 x7_1).f0), .int .i64 ((rd_T53 l0 x7_1).f1), .int .i64 ((rd_T53 l0 x7_1).f2), .int .i64 ((rd_T53 l0 x7_1).f3), .int .i64 ((rd_T53 l0 x7_1).f4)]] ?_; (with_reducible refine (impl_IsLeg.calls ((rd_T53 l0 x7_1).f0) ((rd_T53 l0 x7_1).f1) ((rd_T53 l0 x7_1).f2) ((rd_T53 l0 x7_1).f3) ((rd_T53 l0 x7_1).f4) true _ A5.out).mono ?_); rintro e w9 ⟨rfl, hb⟩; refine ⟨_, rfl, ?_⟩; replace BK280 := Aside0.mk (blk_below (g := gb280) (o := .cells #[.int .i64 ((rd_T53 l0 x7_1).f0), .int .i64 ((rd_T53 l0 x7_1).f1), .int .i64 ((rd_T53 l0 x7_1).f2), .int .i64 ((rd_T53 l0 x7_1).f3), .int .i64 ((rd_T53 l0 x7_1).f4)] 53 (0, 0)) (by (with_reducible repeat (first | refine blk_drewN ?_ _ | refine blk_drew ?_ | refine blk_alloc ?_ _)); refine blk_put (cs := #[.int .i64 ((rd_T53 l0 x7_1).f0), .int .i64 ((rd_T53 l0 x7_1).f1), .int .i64 ((rd_T53 l0 x7_1).f2), .int .i64 ((rd_T53 l0 x7_1).f3), .int .i64 0]) ?_ 4 _ rfl; (with_reducible repeat (first | refine blk_drewN ?_ _ | refine blk_drew ?_ | refine blk_alloc ?_ _)); refine blk_put (cs := #[.int .i64 ((rd_T53 l0 x7_1).f0), .int .i64 ((rd_T53 l0 x7_1).f1), .int .i64 ((rd_T53 l0 x7_1).f2), .int .i64 0, .int .i64 0]) ?_ 3 _ rfl; (with_reducible repeat (first | refine blk_drewN ?_ _ | refine blk_drew ?_ | refine blk_alloc ?_ _)); refine blk_put (cs := #[.int .i64 ((rd_T53 l0 x7_1).f0), .int .i64 ((rd_T53 l0 x7_1).f1), .int .i64 0, .int .i64 0, .int .i64 0]) ?_ 2 _ rfl; (with_reducible repeat (first | refine blk_drewN ?_ _ | refine blk_drew ?_ | refine blk_alloc ?_ _)); refine blk_put (cs := #[.int .i64 ((rd_T53 l0 x7_1).f0), .int .i64 0, .int .i64 0, .int .i64 0, .int .i64 0]) ?_ 1 _ rfl; (with_reducible repeat (first | refine blk_drewN ?_ _ | refine blk_drew ?_ | refine blk_alloc ?_ _)); refine blk_put (cs := #[.int .i64 0, .int .i64 0, .int .i64 0, .int .i64 0, .int .i64 0]) ?_ 0 _ rfl; (with_reducible repeat (first | refine blk_drewN ?_ _ | refine blk_drew ?_ | refine blk_alloc ?_ _)); exact BK280.out) hb); replace HB := Aside0.mk (below_step (lb1_ HB.out GE280.out) hb); (try clear hb); (try clear hb2); (try clear hk); (try clear hi)))
       go_roundg k1
       case measure => have := HK1.out; omega
       case rel => exact ⟨(wrap64 (x7_1 + 1)), (by first | rfl | (simp; done) | (simp [*]; done)), H', ⟨by have := HK1.out; omega⟩, ⟨lb1_ HB.out GE280.out⟩⟩
      ·
       replace c6 := Bool.eq_false_iff.mpr c6
       subst c6
       have H1 : (some false) = some r := by rw [if_neg (show ¬ (false = true) by decide)] at H; exact H
       clear H
       have H := H1
       clear H1
       obtain rfl := Option.some.inj H
       have p279 : 0 ≤ (x7_1 : Int) := dt_
       have q279 : x7_1 < (l0.length : Int) := dt_
       obtain ⟨ad279, e279, hx279_0, hx279_1, hx279_2, hx279_3, hx279_4⟩ := at_T53 HR0.out x7_1 p279 q279
       cases e279
       replace hx279_0 := bc_ HB.out hx279_0
       replace hx279_1 := bc_ HB.out hx279_1
       replace hx279_2 := bc_ HB.out hx279_2
       replace hx279_3 := bc_ HB.out hx279_3
       replace hx279_4 := bc_ HB.out hx279_4
       replace p279 := eq_true p279
       replace q279 := eq_true q279
       go_wp2_with (first | ((with_reducible refine gate_dst (N := 4) rfl ?_); refine box_event ?hg (N := 4) ?hd (cs := #[.int .i64 0, .int .i64 0, .int .i64 0, .int .i64 0, .int .i64 0]) (t := 53) ?hr ?_; (case hd => rfl); (case hg => rfl); (case hr => first | (go_simp; done) | (go_simp; rfl)); intro gb280 hg w10 hbox hb; have BK280 := Aside0.mk (hbox); have GW280 := Aside0.mk ((bz_ hg (lb0_ HB.out))); have GE280 := Aside0.mk ((bz_ hg (lb0_ HB.out))); replace HB := Aside0.mk (below_step (lb0_ HB.out) hb); clear hb hbox hg; obtain ⟨hcz11_0, hcz11_1, hcz11_2, hcz11_3, hcz11_4⟩ := cz5_ BK280.out; obtain ⟨hfz11_0, hfz11_1, hfz11_2, hfz11_3, hfz11_4⟩ := fz5_ BK280.out) | ((with_reducible refine gate_callee (f := 50) rfl ?_); refine ga_ (some 12) Tryd.func50 #[.agg #[.int .i64 ((rd_T53 l0 x7_1).f0), .int .i64 ((rd_T53 l0 x7_1).f1), .int .i64 ((rd_T53 l0 x7_1).f2), .int .i64 ((rd_T53 l0 x7_1).f3), .int .i64 ((rd_T53 l0 x7_1).f4)]] ?_; (with_reducible refine (impl_IsLeg.calls ((rd_T53 l0 x7_1).f0) ((rd_T53 l0 x7_1).f1) ((rd_T53 l0 x7_1).f2) ((rd_T53 l0 x7_1).f3) ((rd_T53 l0 x7_1).f4) false _ A5.out).mono ?_); rintro e w12 ⟨rfl, hb⟩; refine ⟨_, rfl, ?_⟩; replace BK280 := Aside0.mk (blk_below (g := gb280) (o := .cells #[.int .i64 ((rd_T53 l0 x7_1).f0), .int .i64 ((rd_T53 l0 x7_1).f1), .int .i64 ((rd_T53 l0 x7_1).f2), .int .i64 ((rd_T53 l0 x7_1).f3), .int .i64 ((rd_T53 l0 x7_1).f4)] 53 (0, 0)) (by (with_reducible repeat (first | refine blk_drewN ?_ _ | refine blk_drew ?_ | refine blk_alloc ?_ _)); refine blk_put (cs := #[.int .i64 ((rd_T53 l0 x7_1).f0), .int .i64 ((rd_T53 l0 x7_1).f1), .int .i64 ((rd_T53 l0 x7_1).f2), .int .i64 ((rd_T53 l0 x7_1).f3), .int .i64 0]) ?_ 4 _ rfl; (with_reducible repeat (first | refine blk_drewN ?_ _ | refine blk_drew ?_ | refine blk_alloc ?_ _)); refine blk_put (cs := #[.int .i64 ((rd_T53 l0 x7_1).f0), .int .i64 ((rd_T53 l0 x7_1).f1), .int .i64 ((rd_T53 l0 x7_1).f2), .int .i64 0, .int .i64 0]) ?_ 3 _ rfl; (with_reducible repeat (first | refine blk_drewN ?_ _ | refine blk_drew ?_ | refine blk_alloc ?_ _)); refine blk_put (cs := #[.int .i64 ((rd_T53 l0 x7_1).f0), .int .i64 ((rd_T53 l0 x7_1).f1), .int .i64 0, .int .i64 0, .int .i64 0]) ?_ 2 _ rfl; (with_reducible repeat (first | refine blk_drewN ?_ _ | refine blk_drew ?_ | refine blk_alloc ?_ _)); refine blk_put (cs := #[.int .i64 ((rd_T53 l0 x7_1).f0), .int .i64 0, .int .i64 0, .int .i64 0, .int .i64 0]) ?_ 1 _ rfl; (with_reducible repeat (first | refine blk_drewN ?_ _ | refine blk_drew ?_ | refine blk_alloc ?_ _)); refine blk_put (cs := #[.int .i64 0, .int .i64 0, .int .i64 0, .int .i64 0, .int .i64 0]) ?_ 0 _ rfl; (with_reducible repeat (first | refine blk_drewN ?_ _ | refine blk_drew ?_ | refine blk_alloc ?_ _)); exact BK280.out) hb); replace HB := Aside0.mk (below_step (lb1_ HB.out GE280.out) hb); (try clear hb); (try clear hb2); (try clear hk); (try clear hi)))
       go_ret
       exact ⟨rr_, lb1_ HB.out GE280.out⟩
     ·
      rw [if_neg c4] at H
      exact absurd H (by simp)
    ·
     rw [if_neg c3] at H
     exact absurd H (by simp)
   ·
    rw [if_neg c2] at H
    have c2b0 : decide (x7_1 < (l0.length : Int)) = false := decide_eq_false c2
    clear c2
    obtain rfl := Option.some.inj H
    go_wp2
    go_ret
    exact ⟨rr_, lb0_ HB.out⟩
def bits_Mul64.f (a0 : Int) (a1 : Int) : Option (Int × Int) := some (IntKind.u64.wrap ((IntKind.u64.wrap ((IntKind.u64.wrap ((a0 / 4294967296) * (a1 / 4294967296))) + ((IntKind.u64.wrap ((IntKind.u64.wrap ((a0 / 4294967296) * (Go.bits .and .u64 a1 4294967295))) + ((IntKind.u64.wrap ((Go.bits .and .u64 a0 4294967295) * (Go.bits .and .u64 a1 4294967295))) / 4294967296))) / 4294967296))) + ((IntKind.u64.wrap ((Go.bits .and .u64 (IntKind.u64.wrap ((IntKind.u64.wrap ((a0 / 4294967296) * (Go.bits .and .u64 a1 4294967295))) + ((IntKind.u64.wrap ((Go.bits .and .u64 a0 4294967295) * (Go.bits .and .u64 a1 4294967295))) / 4294967296))) 4294967295) + (IntKind.u64.wrap ((Go.bits .and .u64 a0 4294967295) * (a1 / 4294967296))))) / 4294967296)), IntKind.u64.wrap (a0 * a1))
theorem bits_Mul64.calls (a0 : Int) (a1 : Int) (r1 : Int) (r2 : Int) (w : World) (h : bits_Mul64.f a0 a1 = some (r1, r2)) :
  Calls Tryd.prog 69 #[.int .u64 a0, .int .u64 a1] w fun e w' => e = .returned (.tuple #[.int .u64 r1, .int .u64 r2]) ∧ Drawn0 w w' := by
 have H : (some (IntKind.u64.wrap ((IntKind.u64.wrap ((IntKind.u64.wrap ((a0 / 4294967296) * (a1 / 4294967296))) + ((IntKind.u64.wrap ((IntKind.u64.wrap ((a0 / 4294967296) * (Go.bits .and .u64 a1 4294967295))) + ((IntKind.u64.wrap ((Go.bits .and .u64 a0 4294967295) * (Go.bits .and .u64 a1 4294967295))) / 4294967296))) / 4294967296))) + ((IntKind.u64.wrap ((Go.bits .and .u64 (IntKind.u64.wrap ((IntKind.u64.wrap ((a0 / 4294967296) * (Go.bits .and .u64 a1 4294967295))) + ((IntKind.u64.wrap ((Go.bits .and .u64 a0 4294967295) * (Go.bits .and .u64 a1 4294967295))) / 4294967296))) 4294967295) + (IntKind.u64.wrap ((Go.bits .and .u64 a0 4294967295) * (a1 / 4294967296))))) / 4294967296)), IntKind.u64.wrap (a0 * a1))) = some (r1, r2) := h
 clear h
 simp only [Option.some.injEq, Prod.mk.injEq] at H
 obtain ⟨rfl, rfl⟩ := H
 go_enter Tryd.func69, Tryd.ntmps69
 go_wp2
 go_ret2
 exact ⟨by first | rfl | (simp; done) | (simp [*]; done), by repeat (first | exact Drawn0.refl _ | apply Drawn0.step)⟩
def bits_Mul.f (a0 : Int) (a1 : Int) : Option (Int × Int) := (bits_Mul64.f a0 a1).bind fun bt282 => (some (bt282.1, bt282.2))
theorem bits_Mul.calls (a0 : Int) (a1 : Int) (r1 : Int) (r2 : Int) (w : World) (h : bits_Mul.f a0 a1 = some (r1, r2)) :
  Calls Tryd.prog 61 #[.int .u64 a0, .int .u64 a1] w fun e w' => e = .returned (.tuple #[.int .u64 r1, .int .u64 r2]) ∧ Drawn0 w w' := by
 have H : ((bits_Mul64.f a0 a1).bind fun bt282 => (some (bt282.1, bt282.2))) = some (r1, r2) := h
 clear h
 replace H := Option.bind_eq_some_iff.mp H
 obtain ⟨⟨t282, t283⟩, A30, H⟩ := H
 replace H : (some (t282, t283)) = some (r1, r2) := H
 have A3 := Aside0.mk A30
 clear A30
 simp only [Option.some.injEq, Prod.mk.injEq] at H
 obtain ⟨rfl, rfl⟩ := H
 go_enter Tryd.func61, Tryd.ntmps61
 go_wp2_with (first | ((with_reducible refine gate_callee (f := 69) rfl ?_); refine ga_ (some 25) Tryd.func69 #[.int .u64 a0, .int .u64 a1] ?_; (with_reducible refine (bits_Mul64.calls a0 a1 t282 t283 _ A3.out).mono ?_); rintro e w' ⟨rfl, ⟨nd, rfl⟩⟩; refine ⟨_, rfl, ?_⟩))
 go_ret2
 exact ⟨by first | rfl | (simp; done) | (simp [*]; done), by repeat (first | exact Drawn0.refl _ | apply Drawn0.step)⟩
def slices_Repeat_int_int.f (l0 : List Int) (a1 : Int) : Option (List Int) := if l0.length = 1 ∧ a1 = 8 then some (List.replicate 8 (rd l0 0)) else none
theorem made8 : madeCells (Value.int .i64 0).cells 8 = #[.int .i64 0, .int .i64 0, .int .i64 0, .int .i64 0, .int .i64 0, .int .i64 0, .int .i64 0, .int .i64 0] := by
 apply Array.ext
 ·
  simp [madeCells]
 ·
  intro i h1 h2
  match i, h2 with
  | 0, _ => simp [madeCells, Value.cells]
  | 1, _ => simp [madeCells, Value.cells]
  | 2, _ => simp [madeCells, Value.cells]
  | 3, _ => simp [madeCells, Value.cells]
  | 4, _ => simp [madeCells, Value.cells]
  | 5, _ => simp [madeCells, Value.cells]
  | 6, _ => simp [madeCells, Value.cells]
  | 7, _ => simp [madeCells, Value.cells]
  | n + 8, h => exact absurd h (by simp)
theorem cell_add0_ (W : World) (g j : Nat) : W.cell? ((⟨g, 0, none⟩ : Addr).add j) = W.cell? ⟨g, j, none⟩ := by
 unfold Addr.add
 split
 ·
  rename_i h
  rw [h]
 ·
  simp only [Nat.zero_add]
theorem mul_1_8 : bits_Mul.f 1 8 = some (0, 8) := by decide +kernel
theorem slices_Repeat_int_int.calls (A0 : Option Addr) (c0 : Nat) (l0 : List Int) (a1 : Int) (r : List Int) (w : World) (hr0 : Kd.C (Kd.int .i64) w A0 l0.length l0) (hc0 : l0.length ≤ c0) (h : slices_Repeat_int_int.f l0 a1 = some r) :
  Calls Tryd.prog 51 #[.slice A0 l0.length c0, .int .i64 a1] w fun e w' => ∃ v0_ : Value, e = .returned (v0_) ∧ Kd.R (Kd.int .i64) 3 w' w.heap.size (fun _ => True) v0_ r ∧ Below w.heap.size w w' := by
 unfold slices_Repeat_int_int.f at h
 by_cases hl : l0.length = 1 ∧ a1 = 8
 ·
  rw [if_pos hl] at h
  obtain rfl := Option.some.inj h
  obtain ⟨hl1, rfl⟩ := hl
  obtain ⟨ad, rfl, hx⟩ := Kd.at_int hr0 0 (by omega) (by omega)
  have HR := Aside0.mk hr0
  clear hr0
  rw [hl1] at hc0 ⊢
  have hm : ∀ W : World, Sem.run Tryd.prog (Instr.makeSlice 86 (.int .i64 8) (.int .i64 8)) W = .ok (.slice (some ⟨W.heap.size, 0, none⟩) 8 8) (W.alloc (.cells #[.int .i64 0, .int .i64 0, .int .i64 0, .int .i64 0, .int .i64 0, .int .i64 0, .int .i64 0, .int .i64 0] 3)) := fun W => by
   obtain ⟨i0, hi, hz0, hz1, hz2⟩ := info_parts info3
   have h := run_makeSlice (P := Tryd.prog) W 86 3 i0 (.int .i64 0) Tryd.underlying86 hi hz0 .i64 .i64 8 8 (by decide) (by decide) (by rw [hz1]; decide) (by rw [hz2]; decide) (by decide)
   rw [hz1] at h
   rw [h, show Int.toNat 8 * 1 = 8 from rfl, made8]
   rfl
  generalize rd l0 0 = x at hx ⊢
  have hsrc : Aside0 (∀ W : World, Below w.heap.size w W → ∀ (j : Nat) (v : Value), [Value.int .i64 x][j]? = some v → W.cell? (ad.add j) = some v) := ⟨fun W hb j v hj => by
   match j, hj with
   | 0, hj =>
    have : v = .int .i64 x := (by simpa using hj : Value.int .i64 x = v).symm
    subst this
    exact pw_cell_below hb hx⟩
  have hsz : Aside0 ((Tryd.prog.info? 3).map (·.size) = some 1) := ⟨by kernel_rfl⟩
  have hone : Aside0 (∀ v ∈ [Value.int .i64 x], v.oneCell' = true) := ⟨fun v hv => by rw [List.mem_singleton.1 hv]; rfl⟩
  go_enter Tryd.func51, Tryd.ntmps51
  go_wp2_with (first | (go_at_call 61; refine (bits_Mul.calls 1 8 0 8 _ mul_1_8).mono ?_; rintro e w1 ⟨rfl, ⟨n1, rfl⟩⟩) | (refine wpList_copy_splice rfl (.tmp 31) (.tmp 32) 86 86 rfl 3 Tryd.underlying86 hsz.out _ _ _ _ _ _ rfl rfl w.heap.size 0 [.int .i64 0, .int .i64 0, .int .i64 0, .int .i64 0, .int .i64 0, .int .i64 0, .int .i64 0, .int .i64 0] 3 (heap_new_ _ _ _) [.int .i64 x] rfl (fun _ => ⟨rfl, ad, rfl, hsrc.out _ (below_alloc (pw_below_drewN (Below.refl _ _) _) _)⟩) (by simp) hone.out w.heap.size w (below_alloc (pw_below_drewN (Below.refl _ _) _) _) (Nat.le_refl _) ?_; intro w2 hg2 hb2))
  have HG0 := Aside0.mk hg2
  have HB0 := Aside0.mk hb2
  clear hg2 hb2
  go_loopg [8] 3 (fun gg s8 wr => Aside0 (Below w.heap.size w wr) ∧ ((3 ≤ gg ∧ s8 = .int .i64 1 ∧ Aside0 (Hid (wr.heap[w.heap.size]? = some (.cells (List.toArray [.int .i64 x, .int .i64 0, .int .i64 0, .int .i64 0, .int .i64 0, .int .i64 0, .int .i64 0, .int .i64 0]) 3 (0, 0))))) ∨ (2 ≤ gg ∧ s8 = .int .i64 2 ∧ Aside0 (Hid (wr.heap[w.heap.size]? = some (.cells (List.toArray [.int .i64 x, .int .i64 x, .int .i64 0, .int .i64 0, .int .i64 0, .int .i64 0, .int .i64 0, .int .i64 0]) 3 (0, 0))))) ∨ (1 ≤ gg ∧ s8 = .int .i64 4 ∧ Aside0 (Hid (wr.heap[w.heap.size]? = some (.cells (List.toArray [.int .i64 x, .int .i64 x, .int .i64 x, .int .i64 x, .int .i64 0, .int .i64 0, .int .i64 0, .int .i64 0]) 3 (0, 0))))) ∨ (s8 = .int .i64 8 ∧ Aside0 (Hid (wr.heap[w.heap.size]? = some (.cells (List.toArray [.int .i64 x, .int .i64 x, .int .i64 x, .int .i64 x, .int .i64 x, .int .i64 x, .int .i64 x, .int .i64 x]) 3 (0, 0)))))))
  case atStart => exact ⟨HB0, .inl ⟨Nat.le_refl _, rfl, HG0⟩⟩
  case round =>
  obtain ⟨HB, ⟨hg, rfl, HG⟩ | ⟨hg, rfl, HG⟩ | ⟨hg, rfl, HG⟩ | ⟨rfl, HG⟩⟩ := hrel
  ·
   have hsrc1 : Aside0 (∀ W : World, Hid (W.heap[w.heap.size]? = some (.cells (List.toArray [.int .i64 x, .int .i64 0, .int .i64 0, .int .i64 0, .int .i64 0, .int .i64 0, .int .i64 0, .int .i64 0]) 3 (0, 0))) → ∀ (j : Nat) (v : Value), [Value.int .i64 x][j]? = some v → W.cell? ((⟨w.heap.size, 0, none⟩ : Addr).add j) = some v) := ⟨fun W hg j v hj => by
    have e := cell_of_row W w.heap.size (0 + j) _ 3 (0, 0) hg
    rw [Nat.zero_add] at e
    refine Eq.trans (cell_add0_ W w.heap.size j) (e.trans ?_)
    clear e hg
    have hl := (List.getElem?_eq_some_iff.1 hj).1
    match j, hl, hj with
    | 0, _, hj => exact hj
    | m + 1, hl, _ => exact absurd hl (by simp)⟩
   have hone1 : Aside0 (∀ v ∈ [Value.int .i64 x], v.oneCell' = true) := ⟨fun v hv => by simp at hv; rw [hv]; rfl⟩
   go_wp2_with fail
   go_region_held3 (fun W => True) (exact trivial) ((first | (refine step_copy_splice rfl (.tmp 41) (.tmp 44) 86 86 rfl 3 Tryd.underlying86 hsz.out _ _ _ _ _ _ rfl rfl w.heap.size 1 [.int .i64 x, .int .i64 0, .int .i64 0, .int .i64 0, .int .i64 0, .int .i64 0, .int .i64 0, .int .i64 0] 3 HG.out [Value.int .i64 x] rfl (fun _ => ⟨rfl, _, rfl, hsrc1.out _ HG.out⟩) (by simp) hone1.out w.heap.size w (below_drew HB.out) (Nat.le_refl _) ?_; intro w3 hg3 hb3) | fail))
   all_goals go_wp2_with fail
   go_roundg 2
   case measure => omega
   case rel => exact ⟨⟨hb3⟩, .inr (.inl ⟨by omega, by rfl, ⟨hg3⟩⟩)⟩
  ·
   have hsrc2 : Aside0 (∀ W : World, Hid (W.heap[w.heap.size]? = some (.cells (List.toArray [.int .i64 x, .int .i64 x, .int .i64 0, .int .i64 0, .int .i64 0, .int .i64 0, .int .i64 0, .int .i64 0]) 3 (0, 0))) → ∀ (j : Nat) (v : Value), [Value.int .i64 x, Value.int .i64 x][j]? = some v → W.cell? ((⟨w.heap.size, 0, none⟩ : Addr).add j) = some v) := ⟨fun W hg j v hj => by
    have e := cell_of_row W w.heap.size (0 + j) _ 3 (0, 0) hg
    rw [Nat.zero_add] at e
    refine Eq.trans (cell_add0_ W w.heap.size j) (e.trans ?_)
    clear e hg
    have hl := (List.getElem?_eq_some_iff.1 hj).1
    match j, hl, hj with
    | 0, _, hj => exact hj
    | 1, _, hj => exact hj
    | m + 2, hl, _ => exact absurd hl (by simp)⟩
   have hone2 : Aside0 (∀ v ∈ [Value.int .i64 x, Value.int .i64 x], v.oneCell' = true) := ⟨fun v hv => by simp at hv; rw [hv]; rfl⟩
   go_wp2_with fail
   go_region_held3 (fun W => True) (exact trivial) ((first | (refine step_copy_splice rfl (.tmp 41) (.tmp 44) 86 86 rfl 3 Tryd.underlying86 hsz.out _ _ _ _ _ _ rfl rfl w.heap.size 2 [.int .i64 x, .int .i64 x, .int .i64 0, .int .i64 0, .int .i64 0, .int .i64 0, .int .i64 0, .int .i64 0] 3 HG.out [Value.int .i64 x, Value.int .i64 x] rfl (fun _ => ⟨rfl, _, rfl, hsrc2.out _ HG.out⟩) (by simp) hone2.out w.heap.size w (below_drew HB.out) (Nat.le_refl _) ?_; intro w3 hg3 hb3) | fail))
   all_goals go_wp2_with fail
   go_roundg 1
   case measure => omega
   case rel => exact ⟨⟨hb3⟩, .inr (.inr (.inl ⟨by omega, by rfl, ⟨hg3⟩⟩))⟩
  ·
   have hsrc4 : Aside0 (∀ W : World, Hid (W.heap[w.heap.size]? = some (.cells (List.toArray [.int .i64 x, .int .i64 x, .int .i64 x, .int .i64 x, .int .i64 0, .int .i64 0, .int .i64 0, .int .i64 0]) 3 (0, 0))) → ∀ (j : Nat) (v : Value), [Value.int .i64 x, Value.int .i64 x, Value.int .i64 x, Value.int .i64 x][j]? = some v → W.cell? ((⟨w.heap.size, 0, none⟩ : Addr).add j) = some v) := ⟨fun W hg j v hj => by
    have e := cell_of_row W w.heap.size (0 + j) _ 3 (0, 0) hg
    rw [Nat.zero_add] at e
    refine Eq.trans (cell_add0_ W w.heap.size j) (e.trans ?_)
    clear e hg
    have hl := (List.getElem?_eq_some_iff.1 hj).1
    match j, hl, hj with
    | 0, _, hj => exact hj
    | 1, _, hj => exact hj
    | 2, _, hj => exact hj
    | 3, _, hj => exact hj
    | m + 4, hl, _ => exact absurd hl (by simp)⟩
   have hone4 : Aside0 (∀ v ∈ [Value.int .i64 x, Value.int .i64 x, Value.int .i64 x, Value.int .i64 x], v.oneCell' = true) := ⟨fun v hv => by simp at hv; rw [hv]; rfl⟩
   go_wp2_with fail
   go_region_held3 (fun W => True) (exact trivial) ((first | (refine step_copy_splice rfl (.tmp 41) (.tmp 44) 86 86 rfl 3 Tryd.underlying86 hsz.out _ _ _ _ _ _ rfl rfl w.heap.size 4 [.int .i64 x, .int .i64 x, .int .i64 x, .int .i64 x, .int .i64 0, .int .i64 0, .int .i64 0, .int .i64 0] 3 HG.out [Value.int .i64 x, Value.int .i64 x, Value.int .i64 x, Value.int .i64 x] rfl (fun _ => ⟨rfl, _, rfl, hsrc4.out _ HG.out⟩) (by simp) hone4.out w.heap.size w (below_drew HB.out) (Nat.le_refl _) ?_; intro w3 hg3 hb3) | fail))
   all_goals go_wp2_with fail
   go_roundg 0
   case measure => omega
   case rel => exact ⟨⟨hb3⟩, .inr (.inr (.inr ⟨by rfl, ⟨hg3⟩⟩))⟩
  ·
   go_wp2
   go_ret
   refine ⟨_, rfl, Kd.R_of_own ⟨rfl, .inr ⟨_, 8, _, rfl, Nat.le_refl _, HG.out, Nat.le_refl _, by decide, rfl, rfl⟩⟩ (fun _ _ => trivial), HB.out⟩
 ·
  rw [if_neg hl] at h
  cases h
end Go.Proofs.YtckigdechhmegaaDoor.Pr

