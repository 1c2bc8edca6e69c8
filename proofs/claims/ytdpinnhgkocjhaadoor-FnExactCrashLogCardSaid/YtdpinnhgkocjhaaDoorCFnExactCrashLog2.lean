/-
What is proved: parts of the law FnExactCrashLog: what the functions that it reaches compute, and the plain law.
Conditions: those of each theorem.
-/
import Derived.ChangeArms
import Derived.ChangeSlices
import Derived.Deep.Slices
import Derived.Lib.Bytealg
import Derived.Lib.ItoaNum
import Derived.RowKit
import Derived.SizedLaws
import Derived.WideShapes
import Derived.Test.YtdpinnhgkocjhaaDoorCFnExactCrashLog1
namespace Go.Proofs.YtdpinnhgkocjhaaDoor.Pr
open Go.RowKit Go.Proofs.YtdpinnhgkocjhaaDoorW.PrintWords Go.Proofs.YtdpinnhgkocjhaaDoorW.PrintLast Go.Proofs.YtdpinnhgkocjhaaDoorW.PrintMore
attribute [local go_sem] max2_int min2_int max_two min_two max_three min_three max_four min_four sc_in sx_in   -- for this text's walks alone
set_option linter.unusedVariables false
set_option linter.unusedSimpArgs false
def impl_readRecord.f (k : Nat) (a0 : Int) (a1 : ByteArray) : Option (ByteArray × ByteArray × Int × Bool) := (strings_Cut.f a1 (⟨#[10]⟩ : ByteArray)).bind fun bt217 => ((strings_Cut.f bt217.1 (⟨#[35]⟩ : ByteArray)).bind fun bt220 => ((strings_Cut.f bt220.1 (⟨#[32]⟩ : ByteArray)).bind fun bt223 => ((strings_Cut.f bt223.2.1 (⟨#[64]⟩ : ByteArray)).bind fun bt226 => (if bt217.2.2 = true then (if a0 ≥ 60 then (some ((⟨#[]⟩ : ByteArray), (⟨#[]⟩ : ByteArray), 0, false)) else ((impl_IsValidRecord.f k bt226.1 bt226.2.1).bind fun t230 => (if t230 = true then ((impl_encode.f k a0 bt226.1 bt226.2.1).bind fun t231 => (if bt217.1.size + 1 ≤ 9223372036854775807 then (if t231.toList = (sc bt217.1 (⟨#[10]⟩ : ByteArray)).toList then (some (bt226.1, bt226.2.1, wrap64 ((bt217.1.size : Int) + 1), true)) else (some ((⟨#[]⟩ : ByteArray), (⟨#[]⟩ : ByteArray), 0, false))) else (none))) else (some ((⟨#[]⟩ : ByteArray), (⟨#[]⟩ : ByteArray), 0, false))))) else (some ((⟨#[]⟩ : ByteArray), (⟨#[]⟩ : ByteArray), 0, false))))))
set_option maxHeartbeats 8000000 in
set_option maxRecDepth 100000 in
theorem impl_readRecord.calls (k : Nat) (a0 : Int) (a1 : ByteArray) (r1 : ByteArray) (r2 : ByteArray) (r3 : Int) (r4 : Bool) (w : World) (h : impl_readRecord.f k a0 a1 = some (r1, r2, r3, r4)) (hT : Tb w) :
  Calls Tryd.prog 70 #[.int .i64 a0, .string a1] w fun e w' => e = .returned (.tuple #[.agg #[.string r1, .string r2], .int .i64 r3, .bool r4]) ∧ Below w.heap.size w w' := by
 have HT := Aside0.mk hT
 clear hT
 have hu27 := Tryd.underlying27
 have HB := Aside0.mk (Below.refl w.heap.size w)
 have H : ((strings_Cut.f a1 (⟨#[10]⟩ : ByteArray)).bind fun bt217 => ((strings_Cut.f bt217.1 (⟨#[35]⟩ : ByteArray)).bind fun bt220 => ((strings_Cut.f bt220.1 (⟨#[32]⟩ : ByteArray)).bind fun bt223 => ((strings_Cut.f bt223.2.1 (⟨#[64]⟩ : ByteArray)).bind fun bt226 => (if bt217.2.2 = true then (if a0 ≥ 60 then (some ((⟨#[]⟩ : ByteArray), (⟨#[]⟩ : ByteArray), 0, false)) else ((impl_IsValidRecord.f k bt226.1 bt226.2.1).bind fun t230 => (if t230 = true then ((impl_encode.f k a0 bt226.1 bt226.2.1).bind fun t231 => (if bt217.1.size + 1 ≤ 9223372036854775807 then (if t231.toList = (sc bt217.1 (⟨#[10]⟩ : ByteArray)).toList then (some (bt226.1, bt226.2.1, wrap64 ((bt217.1.size : Int) + 1), true)) else (some ((⟨#[]⟩ : ByteArray), (⟨#[]⟩ : ByteArray), 0, false))) else (none))) else (some ((⟨#[]⟩ : ByteArray), (⟨#[]⟩ : ByteArray), 0, false))))) else (some ((⟨#[]⟩ : ByteArray), (⟨#[]⟩ : ByteArray), 0, false))))))) = some (r1, r2, r3, r4) := h
 clear h
 replace H := Option.bind_eq_some_iff.mp H
 obtain ⟨⟨t217, t218, t219⟩, A30, H⟩ := H
 replace H : ((strings_Cut.f t217 (⟨#[35]⟩ : ByteArray)).bind fun bt220 => ((strings_Cut.f bt220.1 (⟨#[32]⟩ : ByteArray)).bind fun bt223 => ((strings_Cut.f bt223.2.1 (⟨#[64]⟩ : ByteArray)).bind fun bt226 => (if t219 = true then (if a0 ≥ 60 then (some ((⟨#[]⟩ : ByteArray), (⟨#[]⟩ : ByteArray), 0, false)) else ((impl_IsValidRecord.f k bt226.1 bt226.2.1).bind fun t230 => (if t230 = true then ((impl_encode.f k a0 bt226.1 bt226.2.1).bind fun t231 => (if t217.size + 1 ≤ 9223372036854775807 then (if t231.toList = (sc t217 (⟨#[10]⟩ : ByteArray)).toList then (some (bt226.1, bt226.2.1, wrap64 ((t217.size : Int) + 1), true)) else (some ((⟨#[]⟩ : ByteArray), (⟨#[]⟩ : ByteArray), 0, false))) else (none))) else (some ((⟨#[]⟩ : ByteArray), (⟨#[]⟩ : ByteArray), 0, false))))) else (some ((⟨#[]⟩ : ByteArray), (⟨#[]⟩ : ByteArray), 0, false)))))) = some (r1, r2, r3, r4) := H
 have A3 := Aside0.mk A30
 clear A30
 replace H := Option.bind_eq_some_iff.mp H
 obtain ⟨⟨t220, t221, t222⟩, A40, H⟩ := H
 replace H : ((strings_Cut.f t220 (⟨#[32]⟩ : ByteArray)).bind fun bt223 => ((strings_Cut.f bt223.2.1 (⟨#[64]⟩ : ByteArray)).bind fun bt226 => (if t219 = true then (if a0 ≥ 60 then (some ((⟨#[]⟩ : ByteArray), (⟨#[]⟩ : ByteArray), 0, false)) else ((impl_IsValidRecord.f k bt226.1 bt226.2.1).bind fun t230 => (if t230 = true then ((impl_encode.f k a0 bt226.1 bt226.2.1).bind fun t231 => (if t217.size + 1 ≤ 9223372036854775807 then (if t231.toList = (sc t217 (⟨#[10]⟩ : ByteArray)).toList then (some (bt226.1, bt226.2.1, wrap64 ((t217.size : Int) + 1), true)) else (some ((⟨#[]⟩ : ByteArray), (⟨#[]⟩ : ByteArray), 0, false))) else (none))) else (some ((⟨#[]⟩ : ByteArray), (⟨#[]⟩ : ByteArray), 0, false))))) else (some ((⟨#[]⟩ : ByteArray), (⟨#[]⟩ : ByteArray), 0, false))))) = some (r1, r2, r3, r4) := H
 have A4 := Aside0.mk A40
 clear A40
 replace H := Option.bind_eq_some_iff.mp H
 obtain ⟨⟨t223, t224, t225⟩, A50, H⟩ := H
 replace H : ((strings_Cut.f t224 (⟨#[64]⟩ : ByteArray)).bind fun bt226 => (if t219 = true then (if a0 ≥ 60 then (some ((⟨#[]⟩ : ByteArray), (⟨#[]⟩ : ByteArray), 0, false)) else ((impl_IsValidRecord.f k bt226.1 bt226.2.1).bind fun t230 => (if t230 = true then ((impl_encode.f k a0 bt226.1 bt226.2.1).bind fun t231 => (if t217.size + 1 ≤ 9223372036854775807 then (if t231.toList = (sc t217 (⟨#[10]⟩ : ByteArray)).toList then (some (bt226.1, bt226.2.1, wrap64 ((t217.size : Int) + 1), true)) else (some ((⟨#[]⟩ : ByteArray), (⟨#[]⟩ : ByteArray), 0, false))) else (none))) else (some ((⟨#[]⟩ : ByteArray), (⟨#[]⟩ : ByteArray), 0, false))))) else (some ((⟨#[]⟩ : ByteArray), (⟨#[]⟩ : ByteArray), 0, false)))) = some (r1, r2, r3, r4) := H
 have A5 := Aside0.mk A50
 clear A50
 replace H := Option.bind_eq_some_iff.mp H
 obtain ⟨⟨t226, t227, t228⟩, A60, H⟩ := H
 replace H : (if t219 = true then (if a0 ≥ 60 then (some ((⟨#[]⟩ : ByteArray), (⟨#[]⟩ : ByteArray), 0, false)) else ((impl_IsValidRecord.f k t226 t227).bind fun t230 => (if t230 = true then ((impl_encode.f k a0 t226 t227).bind fun t231 => (if t217.size + 1 ≤ 9223372036854775807 then (if t231.toList = (sc t217 (⟨#[10]⟩ : ByteArray)).toList then (some (t226, t227, wrap64 ((t217.size : Int) + 1), true)) else (some ((⟨#[]⟩ : ByteArray), (⟨#[]⟩ : ByteArray), 0, false))) else (none))) else (some ((⟨#[]⟩ : ByteArray), (⟨#[]⟩ : ByteArray), 0, false))))) else (some ((⟨#[]⟩ : ByteArray), (⟨#[]⟩ : ByteArray), 0, false))) = some (r1, r2, r3, r4) := H
 have A6 := Aside0.mk A60
 clear A60
 by_cases c7 : t219 = true
 ·
  subst c7
  have H1 : (if a0 ≥ 60 then (some ((⟨#[]⟩ : ByteArray), (⟨#[]⟩ : ByteArray), 0, false)) else ((impl_IsValidRecord.f k t226 t227).bind fun t230 => (if t230 = true then ((impl_encode.f k a0 t226 t227).bind fun t231 => (if t217.size + 1 ≤ 9223372036854775807 then (if t231.toList = (sc t217 (⟨#[10]⟩ : ByteArray)).toList then (some (t226, t227, wrap64 ((t217.size : Int) + 1), true)) else (some ((⟨#[]⟩ : ByteArray), (⟨#[]⟩ : ByteArray), 0, false))) else (none))) else (some ((⟨#[]⟩ : ByteArray), (⟨#[]⟩ : ByteArray), 0, false))))) = some (r1, r2, r3, r4) := by rw [if_pos rfl] at H; exact H
  clear H
  have H := H1
  clear H1
  by_cases c8 : a0 ≥ 60
  ·
   rw [if_pos c8] at H
   have c8b0 : decide (60 ≤ a0) = true := decide_eq_true c8
   clear c8
   simp only [Option.some.injEq, Prod.mk.injEq] at H
   obtain ⟨rfl, rfl, rfl, rfl⟩ := H
   go_enter Tryd.func70, Tryd.ntmps70
   go_wp2_with (first | ((with_reducible refine gate_dst (N := 4) rfl ?_); refine box_event ?hg (N := 4) ?hd (cs := #[.string (⟨#[]⟩ : ByteArray), .string (⟨#[]⟩ : ByteArray)]) (t := 27) ?hr ?_; (case hd => rfl); (case hg => rfl); (case hr => first | (go_simp; done) | (go_simp; rfl)); intro gb216 hg w9 hbox hb; have BK216 := Aside0.mk (hbox); have GW216 := Aside0.mk ((bz_ hg (lb0_ HB.out))); have GE216 := Aside0.mk ((bz_ hg (lb0_ HB.out))); replace HB := Aside0.mk (below_step (lb0_ HB.out) hb); clear hb hbox hg) | ((with_reducible refine gate_callee (f := 77) rfl ?_); refine ga_ (some 22) Tryd.func77 #[.string a1, .string (⟨#[10]⟩ : ByteArray)] ?_; (with_reducible refine (strings_Cut.calls a1 (⟨#[10]⟩ : ByteArray) t217 t218 true _ A3.out).mono ?_); rintro e w' ⟨rfl, ⟨nd, rfl⟩⟩; refine ⟨_, rfl, ?_⟩; (try (rw [drewN_self w9]; generalize hq_ : World.drewN w9 _ = w9; have n0_ : Aside0 (w9.heap[gb216]? = some (.cells #[.string (⟨#[]⟩ : ByteArray), .string (⟨#[]⟩ : ByteArray)] 27 (0, 0))) := ⟨by rw [← hq_]; exact (bk_ BK216.out)⟩; have n1_ : Aside0 (Below w.heap.size w w9) := ⟨by rw [← hq_]; exact (lb1_ HB.out GE216.out)⟩; clear BK216 HB hq_; have BK216 := n0_; have HB := n1_; clear n0_ n1_))) | ((with_reducible refine gate_callee (f := 77) rfl ?_); refine ga_ (some 28) Tryd.func77 #[.string t217, .string (⟨#[35]⟩ : ByteArray)] ?_; (with_reducible refine (strings_Cut.calls t217 (⟨#[35]⟩ : ByteArray) t220 t221 t222 _ A4.out).mono ?_); rintro e w' ⟨rfl, ⟨nd, rfl⟩⟩; refine ⟨_, rfl, ?_⟩; (try (rw [drewN_self w9]; generalize hq_ : World.drewN w9 _ = w9; have n0_ : Aside0 (w9.heap[gb216]? = some (.cells #[.string (⟨#[]⟩ : ByteArray), .string (⟨#[]⟩ : ByteArray)] 27 (0, 0))) := ⟨by rw [← hq_]; exact (bk_ BK216.out)⟩; have n1_ : Aside0 (Below w.heap.size w w9) := ⟨by rw [← hq_]; exact (lb1_ HB.out GE216.out)⟩; clear BK216 HB hq_; have BK216 := n0_; have HB := n1_; clear n0_ n1_))) | ((with_reducible refine gate_callee (f := 77) rfl ?_); refine ga_ (some 34) Tryd.func77 #[.string t220, .string (⟨#[32]⟩ : ByteArray)] ?_; (with_reducible refine (strings_Cut.calls t220 (⟨#[32]⟩ : ByteArray) t223 t224 t225 _ A5.out).mono ?_); rintro e w' ⟨rfl, ⟨nd, rfl⟩⟩; refine ⟨_, rfl, ?_⟩; (try (rw [drewN_self w9]; generalize hq_ : World.drewN w9 _ = w9; have n0_ : Aside0 (w9.heap[gb216]? = some (.cells #[.string (⟨#[]⟩ : ByteArray), .string (⟨#[]⟩ : ByteArray)] 27 (0, 0))) := ⟨by rw [← hq_]; exact (bk_ BK216.out)⟩; have n1_ : Aside0 (Below w.heap.size w w9) := ⟨by rw [← hq_]; exact (lb1_ HB.out GE216.out)⟩; clear BK216 HB hq_; have BK216 := n0_; have HB := n1_; clear n0_ n1_))) | ((with_reducible refine gate_callee (f := 77) rfl ?_); refine ga_ (some 40) Tryd.func77 #[.string t224, .string (⟨#[64]⟩ : ByteArray)] ?_; (with_reducible refine (strings_Cut.calls t224 (⟨#[64]⟩ : ByteArray) t226 t227 t228 _ A6.out).mono ?_); rintro e w' ⟨rfl, ⟨nd, rfl⟩⟩; refine ⟨_, rfl, ?_⟩; (try (rw [drewN_self w9]; generalize hq_ : World.drewN w9 _ = w9; have n0_ : Aside0 (w9.heap[gb216]? = some (.cells #[.string (⟨#[]⟩ : ByteArray), .string (⟨#[]⟩ : ByteArray)] 27 (0, 0))) := ⟨by rw [← hq_]; exact (bk_ BK216.out)⟩; have n1_ : Aside0 (Below w.heap.size w w9) := ⟨by rw [← hq_]; exact (lb1_ HB.out GE216.out)⟩; clear BK216 HB hq_; have BK216 := n0_; have HB := n1_; clear n0_ n1_))) | ((with_reducible refine gate_dst (N := 19) rfl ?_); refine box_event ?hg (N := 19) ?hd (cs := #[.string (⟨#[]⟩ : ByteArray), .string (⟨#[]⟩ : ByteArray)]) (t := 27) ?hr ?_; (case hd => rfl); (case hg => rfl); (case hr => first | (go_simp; done) | (go_simp; rfl)); intro gb229 hg w10 hbox hb; have BK229 := Aside0.mk (hbox); have GW229 := Aside0.mk ((bz_ hg (lb1_ HB.out GE216.out))); have GE229 := Aside0.mk ((bz_ hg (lb1_ HB.out GE216.out))); replace HB := Aside0.mk (below_step (lb1_ HB.out GE216.out) hb); have NB216_229 := Aside0.mk ((by rw [hg]; exact Nat.ne_of_lt (blk_lt (g := gb216) (o := .cells #[.string (⟨#[]⟩ : ByteArray), .string (⟨#[]⟩ : ByteArray)] 27 (0, 0)) (bk_ BK216.out)) : gb216 ≠ gb229)); have NB229_216 := Aside0.mk ((by rw [hg]; exact Nat.ne_of_gt (blk_lt (g := gb216) (o := .cells #[.string (⟨#[]⟩ : ByteArray), .string (⟨#[]⟩ : ByteArray)] 27 (0, 0)) (bk_ BK216.out)) : gb229 ≠ gb216)); replace BK216 := Aside0.mk (bb_ (bk_ BK216.out) hb); clear hb hbox hg; have hnb11 := NB229_216.out; have hnc11 := NB216_229.out; obtain ⟨hcz12_0, hcz12_1⟩ := cz2_ BK229.out; obtain ⟨hfz12_0, hfz12_1⟩ := fz2_ BK229.out; obtain ⟨hcz13_0, hcz13_1⟩ := cz2_ BK216.out; obtain ⟨hfz13_0, hfz13_1⟩ := fz2_ BK216.out))
   refine bodyPost_ret (results_ctt rfl _ _ gb216 27 #[.string (⟨#[]⟩ : ByteArray), .string (⟨#[]⟩ : ByteArray)] (0, 0) _ rfl (by (with_reducible repeat (first | refine blk_drewN ?_ _ | refine blk_drew ?_ | refine blk_alloc ?_ _)); refine blk_put (cs := #[.string (⟨#[]⟩ : ByteArray), .string (⟨#[]⟩ : ByteArray)]) ?_ 1 _ rfl; (with_reducible repeat (first | refine blk_drewN ?_ _ | refine blk_drew ?_ | refine blk_alloc ?_ _)); refine blk_put (cs := #[.string (⟨#[]⟩ : ByteArray), .string (⟨#[]⟩ : ByteArray)]) ?_ 0 _ rfl; (with_reducible repeat (first | refine blk_drewN ?_ _ | refine blk_drew ?_ | refine blk_alloc ?_ _)); refine blk_far ?_ NB216_229.out _; (with_reducible repeat (first | refine blk_drewN ?_ _ | refine blk_drew ?_ | refine blk_alloc ?_ _)); refine blk_far ?_ NB216_229.out _; (with_reducible repeat (first | refine blk_drewN ?_ _ | refine blk_drew ?_ | refine blk_alloc ?_ _)); exact BK216.out) Tryd.underlying27 rfl (by kernel_rfl)) rfl ?_
   exact ⟨by first | rfl | (simp [errW_none, errW_some] <;> rfl) | (simp [*, errW_none, errW_some] <;> rfl) | (have hw_ : ∀ n : Nat, (n + 1 ≤ 9223372036854775807) → wrap64 ((n : Int) + 1) = (n : Int) + 1 := fun n hn => by unfold wrap64; omega); (rw [hw_ _ (by first | assumption | omega)]); rfl, lb2_ HB.out GE216.out GE229.out⟩
  ·
   rw [if_neg c8] at H
   have c8b0 : decide (60 ≤ a0) = false := decide_eq_false c8
   clear c8
   replace H := Option.bind_eq_some_iff.mp H
   obtain ⟨t230, A140, H⟩ := H
   replace H : (if t230 = true then ((impl_encode.f k a0 t226 t227).bind fun t231 => (if t217.size + 1 ≤ 9223372036854775807 then (if t231.toList = (sc t217 (⟨#[10]⟩ : ByteArray)).toList then (some (t226, t227, wrap64 ((t217.size : Int) + 1), true)) else (some ((⟨#[]⟩ : ByteArray), (⟨#[]⟩ : ByteArray), 0, false))) else (none))) else (some ((⟨#[]⟩ : ByteArray), (⟨#[]⟩ : ByteArray), 0, false))) = some (r1, r2, r3, r4) := H
   have A14 := Aside0.mk A140
   clear A140
   by_cases c15 : t230 = true
   ·
    subst c15
    have H1 : ((impl_encode.f k a0 t226 t227).bind fun t231 => (if t217.size + 1 ≤ 9223372036854775807 then (if t231.toList = (sc t217 (⟨#[10]⟩ : ByteArray)).toList then (some (t226, t227, wrap64 ((t217.size : Int) + 1), true)) else (some ((⟨#[]⟩ : ByteArray), (⟨#[]⟩ : ByteArray), 0, false))) else (none))) = some (r1, r2, r3, r4) := by rw [if_pos rfl] at H; exact H
    clear H
    have H := H1
    clear H1
    replace H := Option.bind_eq_some_iff.mp H
    obtain ⟨t231, A160, H⟩ := H
    replace H : (if t217.size + 1 ≤ 9223372036854775807 then (if t231.toList = (sc t217 (⟨#[10]⟩ : ByteArray)).toList then (some (t226, t227, wrap64 ((t217.size : Int) + 1), true)) else (some ((⟨#[]⟩ : ByteArray), (⟨#[]⟩ : ByteArray), 0, false))) else (none)) = some (r1, r2, r3, r4) := H
    have A16 := Aside0.mk A160
    clear A160
    by_cases c17 : t217.size + 1 ≤ 9223372036854775807
    ·
     rw [if_pos c17] at H
     have c17b0 := eq_true c17
     have c17b1 : decide (t217.size + 1 ≤ 9223372036854775807) = true := decide_eq_true c17
     try have c17b2 : (9223372036854775807 < t217.size + 1) = False := eq_false (Nat.not_lt.2 c17)
     by_cases c18 : t231.toList = (sc t217 (⟨#[10]⟩ : ByteArray)).toList
     ·
      rw [if_pos c18] at H
      have c18b0 : (t231.toList == (sc t217 (⟨#[10]⟩ : ByteArray)).toList) = true := beq_iff_eq.mpr c18
      have c18b1 : (t231.toList != (sc t217 (⟨#[10]⟩ : ByteArray)).toList) = false := bne_eq_false_iff_eq.mpr c18
      clear c18
      simp only [Option.some.injEq, Prod.mk.injEq] at H
      obtain ⟨rfl, rfl, rfl, rfl⟩ := H
      go_enter Tryd.func70, Tryd.ntmps70
      go_wp2_with (first | ((with_reducible refine gate_dst (N := 4) rfl ?_); refine box_event ?hg (N := 4) ?hd (cs := #[.string (⟨#[]⟩ : ByteArray), .string (⟨#[]⟩ : ByteArray)]) (t := 27) ?hr ?_; (case hd => rfl); (case hg => rfl); (case hr => first | (go_simp; done) | (go_simp; rfl)); intro gb216 hg w19 hbox hb; have BK216 := Aside0.mk (hbox); have GW216 := Aside0.mk ((bz_ hg (lb0_ HB.out))); have GE216 := Aside0.mk ((bz_ hg (lb0_ HB.out))); replace HB := Aside0.mk (below_step (lb0_ HB.out) hb); clear hb hbox hg) | ((with_reducible refine gate_callee (f := 77) rfl ?_); refine ga_ (some 22) Tryd.func77 #[.string a1, .string (⟨#[10]⟩ : ByteArray)] ?_; (with_reducible refine (strings_Cut.calls a1 (⟨#[10]⟩ : ByteArray) t217 t218 true _ A3.out).mono ?_); rintro e w' ⟨rfl, ⟨nd, rfl⟩⟩; refine ⟨_, rfl, ?_⟩; (try (rw [drewN_self w19]; generalize hq_ : World.drewN w19 _ = w19; have n0_ : Aside0 (w19.heap[gb216]? = some (.cells #[.string (⟨#[]⟩ : ByteArray), .string (⟨#[]⟩ : ByteArray)] 27 (0, 0))) := ⟨by rw [← hq_]; exact (bk_ BK216.out)⟩; have n1_ : Aside0 (Below w.heap.size w w19) := ⟨by rw [← hq_]; exact (lb1_ HB.out GE216.out)⟩; clear BK216 HB hq_; have BK216 := n0_; have HB := n1_; clear n0_ n1_))) | ((with_reducible refine gate_callee (f := 77) rfl ?_); refine ga_ (some 28) Tryd.func77 #[.string t217, .string (⟨#[35]⟩ : ByteArray)] ?_; (with_reducible refine (strings_Cut.calls t217 (⟨#[35]⟩ : ByteArray) t220 t221 t222 _ A4.out).mono ?_); rintro e w' ⟨rfl, ⟨nd, rfl⟩⟩; refine ⟨_, rfl, ?_⟩; (try (rw [drewN_self w19]; generalize hq_ : World.drewN w19 _ = w19; have n0_ : Aside0 (w19.heap[gb216]? = some (.cells #[.string (⟨#[]⟩ : ByteArray), .string (⟨#[]⟩ : ByteArray)] 27 (0, 0))) := ⟨by rw [← hq_]; exact (bk_ BK216.out)⟩; have n1_ : Aside0 (Below w.heap.size w w19) := ⟨by rw [← hq_]; exact (lb1_ HB.out GE216.out)⟩; clear BK216 HB hq_; have BK216 := n0_; have HB := n1_; clear n0_ n1_))) | ((with_reducible refine gate_callee (f := 77) rfl ?_); refine ga_ (some 34) Tryd.func77 #[.string t220, .string (⟨#[32]⟩ : ByteArray)] ?_; (with_reducible refine (strings_Cut.calls t220 (⟨#[32]⟩ : ByteArray) t223 t224 t225 _ A5.out).mono ?_); rintro e w' ⟨rfl, ⟨nd, rfl⟩⟩; refine ⟨_, rfl, ?_⟩; (try (rw [drewN_self w19]; generalize hq_ : World.drewN w19 _ = w19; have n0_ : Aside0 (w19.heap[gb216]? = some (.cells #[.string (⟨#[]⟩ : ByteArray), .string (⟨#[]⟩ : ByteArray)] 27 (0, 0))) := ⟨by rw [← hq_]; exact (bk_ BK216.out)⟩; have n1_ : Aside0 (Below w.heap.size w w19) := ⟨by rw [← hq_]; exact (lb1_ HB.out GE216.out)⟩; clear BK216 HB hq_; have BK216 := n0_; have HB := n1_; clear n0_ n1_))) | ((with_reducible refine gate_callee (f := 77) rfl ?_); refine ga_ (some 40) Tryd.func77 #[.string t224, .string (⟨#[64]⟩ : ByteArray)] ?_; (with_reducible refine (strings_Cut.calls t224 (⟨#[64]⟩ : ByteArray) t226 t227 t228 _ A6.out).mono ?_); rintro e w' ⟨rfl, ⟨nd, rfl⟩⟩; refine ⟨_, rfl, ?_⟩; (try (rw [drewN_self w19]; generalize hq_ : World.drewN w19 _ = w19; have n0_ : Aside0 (w19.heap[gb216]? = some (.cells #[.string (⟨#[]⟩ : ByteArray), .string (⟨#[]⟩ : ByteArray)] 27 (0, 0))) := ⟨by rw [← hq_]; exact (bk_ BK216.out)⟩; have n1_ : Aside0 (Below w.heap.size w w19) := ⟨by rw [← hq_]; exact (lb1_ HB.out GE216.out)⟩; clear BK216 HB hq_; have BK216 := n0_; have HB := n1_; clear n0_ n1_))) | ((with_reducible refine gate_dst (N := 19) rfl ?_); refine box_event ?hg (N := 19) ?hd (cs := #[.string (⟨#[]⟩ : ByteArray), .string (⟨#[]⟩ : ByteArray)]) (t := 27) ?hr ?_; (case hd => rfl); (case hg => rfl); (case hr => first | (go_simp; done) | (go_simp; rfl)); intro gb229 hg w20 hbox hb; have BK229 := Aside0.mk (hbox); have GW229 := Aside0.mk ((bz_ hg (lb1_ HB.out GE216.out))); have GE229 := Aside0.mk ((bz_ hg (lb1_ HB.out GE216.out))); replace HB := Aside0.mk (below_step (lb1_ HB.out GE216.out) hb); have NB216_229 := Aside0.mk ((by rw [hg]; exact Nat.ne_of_lt (blk_lt (g := gb216) (o := .cells #[.string (⟨#[]⟩ : ByteArray), .string (⟨#[]⟩ : ByteArray)] 27 (0, 0)) (bk_ BK216.out)) : gb216 ≠ gb229)); have NB229_216 := Aside0.mk ((by rw [hg]; exact Nat.ne_of_gt (blk_lt (g := gb216) (o := .cells #[.string (⟨#[]⟩ : ByteArray), .string (⟨#[]⟩ : ByteArray)] 27 (0, 0)) (bk_ BK216.out)) : gb229 ≠ gb216)); replace BK216 := Aside0.mk (bb_ (bk_ BK216.out) hb); clear hb hbox hg; have hnb21 := NB229_216.out; have hnc21 := NB216_229.out; obtain ⟨hcz22_0, hcz22_1⟩ := cz2_ BK229.out; obtain ⟨hfz22_0, hfz22_1⟩ := fz2_ BK229.out) | (go_at_call 37; (with_reducible refine (impl_IsValidRecord.calls k t226 t227 true _ A14.out).mono ?_); rintro e w23 ⟨rfl, hb⟩; replace BK216 := Aside0.mk (blk_below (g := gb216) (o := .cells #[.string (⟨#[]⟩ : ByteArray), .string (⟨#[]⟩ : ByteArray)] 27 (0, 0)) (by (with_reducible repeat (first | refine blk_drewN ?_ _ | refine blk_drew ?_ | refine blk_alloc ?_ _)); refine blk_far ?_ NB216_229.out _; (with_reducible repeat (first | refine blk_drewN ?_ _ | refine blk_drew ?_ | refine blk_alloc ?_ _)); refine blk_far ?_ NB216_229.out _; (with_reducible repeat (first | refine blk_drewN ?_ _ | refine blk_drew ?_ | refine blk_alloc ?_ _)); exact BK216.out) hb); replace BK229 := Aside0.mk (blk_below (g := gb229) (o := .cells #[.string t226, .string t227] 27 (0, 0)) (by (with_reducible repeat (first | refine blk_drewN ?_ _ | refine blk_drew ?_ | refine blk_alloc ?_ _)); refine blk_put (cs := #[.string t226, .string (⟨#[]⟩ : ByteArray)]) ?_ 1 _ rfl; (with_reducible repeat (first | refine blk_drewN ?_ _ | refine blk_drew ?_ | refine blk_alloc ?_ _)); refine blk_put (cs := #[.string (⟨#[]⟩ : ByteArray), .string (⟨#[]⟩ : ByteArray)]) ?_ 0 _ rfl; (with_reducible repeat (first | refine blk_drewN ?_ _ | refine blk_drew ?_ | refine blk_alloc ?_ _)); exact BK229.out) hb); replace HB := Aside0.mk (below_step (lb2_ HB.out GE216.out GE229.out) hb); (try clear hb); (try clear hb2); (try clear hk); (try clear hi); obtain ⟨hcz24_0, hcz24_1⟩ := cz2_ BK229.out; obtain ⟨hfz24_0, hfz24_1⟩ := fz2_ BK229.out) | (go_at_call 46; (with_reducible refine (impl_encode.calls k a0 t226 t227 t231 _ A16.out ?sideT).mono ?_); (case sideT => first | exact HT.out | exact Tb.step HT.out HB.out | exact Tb.step HT.out (by repeat (first | (with_reducible first | exact HB.out | apply below_alloc | apply pw_below_drewN | apply below_drew1 | refine below_set ?_ GE216.out | refine below_set ?_ GE229.out) | exact HB.out | exact Below.refl _ _))); rintro e w25 ⟨rfl, hb⟩; replace BK216 := Aside0.mk (bb_ (bk_ BK216.out) hb); replace BK229 := Aside0.mk (bb_ (bk_ BK229.out) hb); replace HB := Aside0.mk (below_step (lb2_ HB.out GE216.out GE229.out) hb); (try clear hb); (try clear hb2); (try clear hk); (try clear hi); obtain ⟨hcz26_0, hcz26_1⟩ := cz2_ BK229.out; obtain ⟨hfz26_0, hfz26_1⟩ := fz2_ BK229.out; obtain ⟨hcz27_0, hcz27_1⟩ := cz2_ BK216.out; obtain ⟨hfz27_0, hfz27_1⟩ := fz2_ BK216.out))
      refine bodyPost_ret (results_ctt rfl _ _ gb216 27 #[.string t226, .string t227] (0, 0) _ rfl (by (with_reducible repeat (first | refine blk_drewN ?_ _ | refine blk_drew ?_ | refine blk_alloc ?_ _)); refine blk_put (cs := #[.string t226, .string (⟨#[]⟩ : ByteArray)]) ?_ 1 _ rfl; (with_reducible repeat (first | refine blk_drewN ?_ _ | refine blk_drew ?_ | refine blk_alloc ?_ _)); refine blk_put (cs := #[.string (⟨#[]⟩ : ByteArray), .string (⟨#[]⟩ : ByteArray)]) ?_ 0 _ rfl; (with_reducible repeat (first | refine blk_drewN ?_ _ | refine blk_drew ?_ | refine blk_alloc ?_ _)); exact BK216.out) Tryd.underlying27 rfl (by kernel_rfl)) rfl ?_
      exact ⟨by first | rfl | (simp [errW_none, errW_some] <;> rfl) | (simp [*, errW_none, errW_some] <;> rfl) | (have hw_ : ∀ n : Nat, (n + 1 ≤ 9223372036854775807) → wrap64 ((n : Int) + 1) = (n : Int) + 1 := fun n hn => by unfold wrap64; omega); (rw [hw_ _ (by first | assumption | omega)]); rfl, lb2_ HB.out GE216.out GE229.out⟩
     ·
      rw [if_neg c18] at H
      have c18b0 : (t231.toList == (sc t217 (⟨#[10]⟩ : ByteArray)).toList) = false := beq_eq_false_iff_ne.mpr c18
      have c18b1 : (t231.toList != (sc t217 (⟨#[10]⟩ : ByteArray)).toList) = true := bne_iff_ne.mpr c18
      simp only [Option.some.injEq, Prod.mk.injEq] at H
      obtain ⟨rfl, rfl, rfl, rfl⟩ := H
      go_enter Tryd.func70, Tryd.ntmps70
      go_wp2_with (first | ((with_reducible refine gate_dst (N := 4) rfl ?_); refine box_event ?hg (N := 4) ?hd (cs := #[.string (⟨#[]⟩ : ByteArray), .string (⟨#[]⟩ : ByteArray)]) (t := 27) ?hr ?_; (case hd => rfl); (case hg => rfl); (case hr => first | (go_simp; done) | (go_simp; rfl)); intro gb216 hg w28 hbox hb; have BK216 := Aside0.mk (hbox); have GW216 := Aside0.mk ((bz_ hg (lb0_ HB.out))); have GE216 := Aside0.mk ((bz_ hg (lb0_ HB.out))); replace HB := Aside0.mk (below_step (lb0_ HB.out) hb); clear hb hbox hg) | ((with_reducible refine gate_callee (f := 77) rfl ?_); refine ga_ (some 22) Tryd.func77 #[.string a1, .string (⟨#[10]⟩ : ByteArray)] ?_; (with_reducible refine (strings_Cut.calls a1 (⟨#[10]⟩ : ByteArray) t217 t218 true _ A3.out).mono ?_); rintro e w' ⟨rfl, ⟨nd, rfl⟩⟩; refine ⟨_, rfl, ?_⟩; (try (rw [drewN_self w28]; generalize hq_ : World.drewN w28 _ = w28; have n0_ : Aside0 (w28.heap[gb216]? = some (.cells #[.string (⟨#[]⟩ : ByteArray), .string (⟨#[]⟩ : ByteArray)] 27 (0, 0))) := ⟨by rw [← hq_]; exact (bk_ BK216.out)⟩; have n1_ : Aside0 (Below w.heap.size w w28) := ⟨by rw [← hq_]; exact (lb1_ HB.out GE216.out)⟩; clear BK216 HB hq_; have BK216 := n0_; have HB := n1_; clear n0_ n1_))) | ((with_reducible refine gate_callee (f := 77) rfl ?_); refine ga_ (some 28) Tryd.func77 #[.string t217, .string (⟨#[35]⟩ : ByteArray)] ?_; (with_reducible refine (strings_Cut.calls t217 (⟨#[35]⟩ : ByteArray) t220 t221 t222 _ A4.out).mono ?_); rintro e w' ⟨rfl, ⟨nd, rfl⟩⟩; refine ⟨_, rfl, ?_⟩; (try (rw [drewN_self w28]; generalize hq_ : World.drewN w28 _ = w28; have n0_ : Aside0 (w28.heap[gb216]? = some (.cells #[.string (⟨#[]⟩ : ByteArray), .string (⟨#[]⟩ : ByteArray)] 27 (0, 0))) := ⟨by rw [← hq_]; exact (bk_ BK216.out)⟩; have n1_ : Aside0 (Below w.heap.size w w28) := ⟨by rw [← hq_]; exact (lb1_ HB.out GE216.out)⟩; clear BK216 HB hq_; have BK216 := n0_; have HB := n1_; clear n0_ n1_))) | ((with_reducible refine gate_callee (f := 77) rfl ?_); refine ga_ (some 34) Tryd.func77 #[.string t220, .string (⟨#[32]⟩ : ByteArray)] ?_; (with_reducible refine (strings_Cut.calls t220 (⟨#[32]⟩ : ByteArray) t223 t224 t225 _ A5.out).mono ?_); rintro e w' ⟨rfl, ⟨nd, rfl⟩⟩; refine ⟨_, rfl, ?_⟩; (try (rw [drewN_self w28]; generalize hq_ : World.drewN w28 _ = w28; have n0_ : Aside0 (w28.heap[gb216]? = some (.cells #[.string (⟨#[]⟩ : ByteArray), .string (⟨#[]⟩ : ByteArray)] 27 (0, 0))) := ⟨by rw [← hq_]; exact (bk_ BK216.out)⟩; have n1_ : Aside0 (Below w.heap.size w w28) := ⟨by rw [← hq_]; exact (lb1_ HB.out GE216.out)⟩; clear BK216 HB hq_; have BK216 := n0_; have HB := n1_; clear n0_ n1_))) | ((with_reducible refine gate_callee (f := 77) rfl ?_); refine ga_ (some 40) Tryd.func77 #[.string t224, .string (⟨#[64]⟩ : ByteArray)] ?_; (with_reducible refine (strings_Cut.calls t224 (⟨#[64]⟩ : ByteArray) t226 t227 t228 _ A6.out).mono ?_); rintro e w' ⟨rfl, ⟨nd, rfl⟩⟩; refine ⟨_, rfl, ?_⟩; (try (rw [drewN_self w28]; generalize hq_ : World.drewN w28 _ = w28; have n0_ : Aside0 (w28.heap[gb216]? = some (.cells #[.string (⟨#[]⟩ : ByteArray), .string (⟨#[]⟩ : ByteArray)] 27 (0, 0))) := ⟨by rw [← hq_]; exact (bk_ BK216.out)⟩; have n1_ : Aside0 (Below w.heap.size w w28) := ⟨by rw [← hq_]; exact (lb1_ HB.out GE216.out)⟩; clear BK216 HB hq_; have BK216 := n0_; have HB := n1_; clear n0_ n1_))) | ((with_reducible refine gate_dst (N := 19) rfl ?_); refine box_event ?hg (N := 19) ?hd (cs := #[.string (⟨#[]⟩ : ByteArray), .string (⟨#[]⟩ : ByteArray)]) (t := 27) ?hr ?_; (case hd => rfl); (case hg => rfl); (case hr => first | (go_simp; done) | (go_simp; rfl)); intro gb229 hg w29 hbox hb; have BK229 := Aside0.mk (hbox); have GW229 := Aside0.mk ((bz_ hg (lb1_ HB.out GE216.out))); have GE229 := Aside0.mk ((bz_ hg (lb1_ HB.out GE216.out))); replace HB := Aside0.mk (below_step (lb1_ HB.out GE216.out) hb); have NB216_229 := Aside0.mk ((by rw [hg]; exact Nat.ne_of_lt (blk_lt (g := gb216) (o := .cells #[.string (⟨#[]⟩ : ByteArray), .string (⟨#[]⟩ : ByteArray)] 27 (0, 0)) (bk_ BK216.out)) : gb216 ≠ gb229)); have NB229_216 := Aside0.mk ((by rw [hg]; exact Nat.ne_of_gt (blk_lt (g := gb216) (o := .cells #[.string (⟨#[]⟩ : ByteArray), .string (⟨#[]⟩ : ByteArray)] 27 (0, 0)) (bk_ BK216.out)) : gb229 ≠ gb216)); replace BK216 := Aside0.mk (bb_ (bk_ BK216.out) hb); clear hb hbox hg; have hnb30 := NB229_216.out; have hnc30 := NB216_229.out; obtain ⟨hcz31_0, hcz31_1⟩ := cz2_ BK229.out; obtain ⟨hfz31_0, hfz31_1⟩ := fz2_ BK229.out) | (go_at_call 37; (with_reducible refine (impl_IsValidRecord.calls k t226 t227 true _ A14.out).mono ?_); rintro e w32 ⟨rfl, hb⟩; replace BK216 := Aside0.mk (blk_below (g := gb216) (o := .cells #[.string (⟨#[]⟩ : ByteArray), .string (⟨#[]⟩ : ByteArray)] 27 (0, 0)) (by (with_reducible repeat (first | refine blk_drewN ?_ _ | refine blk_drew ?_ | refine blk_alloc ?_ _)); refine blk_far ?_ NB216_229.out _; (with_reducible repeat (first | refine blk_drewN ?_ _ | refine blk_drew ?_ | refine blk_alloc ?_ _)); refine blk_far ?_ NB216_229.out _; (with_reducible repeat (first | refine blk_drewN ?_ _ | refine blk_drew ?_ | refine blk_alloc ?_ _)); exact BK216.out) hb); replace BK229 := Aside0.mk (blk_below (g := gb229) (o := .cells #[.string t226, .string t227] 27 (0, 0)) (by (with_reducible repeat (first | refine blk_drewN ?_ _ | refine blk_drew ?_ | refine blk_alloc ?_ _)); refine blk_put (cs := #[.string t226, .string (⟨#[]⟩ : ByteArray)]) ?_ 1 _ rfl; (with_reducible repeat (first | refine blk_drewN ?_ _ | refine blk_drew ?_ | refine blk_alloc ?_ _)); refine blk_put (cs := #[.string (⟨#[]⟩ : ByteArray), .string (⟨#[]⟩ : ByteArray)]) ?_ 0 _ rfl; (with_reducible repeat (first | refine blk_drewN ?_ _ | refine blk_drew ?_ | refine blk_alloc ?_ _)); exact BK229.out) hb); replace HB := Aside0.mk (below_step (lb2_ HB.out GE216.out GE229.out) hb); (try clear hb); (try clear hb2); (try clear hk); (try clear hi); obtain ⟨hcz33_0, hcz33_1⟩ := cz2_ BK229.out; obtain ⟨hfz33_0, hfz33_1⟩ := fz2_ BK229.out) | (go_at_call 46; (with_reducible refine (impl_encode.calls k a0 t226 t227 t231 _ A16.out ?sideT).mono ?_); (case sideT => first | exact HT.out | exact Tb.step HT.out HB.out | exact Tb.step HT.out (by repeat (first | (with_reducible first | exact HB.out | apply below_alloc | apply pw_below_drewN | apply below_drew1 | refine below_set ?_ GE216.out | refine below_set ?_ GE229.out) | exact HB.out | exact Below.refl _ _))); rintro e w34 ⟨rfl, hb⟩; replace BK216 := Aside0.mk (bb_ (bk_ BK216.out) hb); replace BK229 := Aside0.mk (bb_ (bk_ BK229.out) hb); replace HB := Aside0.mk (below_step (lb2_ HB.out GE216.out GE229.out) hb); (try clear hb); (try clear hb2); (try clear hk); (try clear hi); obtain ⟨hcz35_0, hcz35_1⟩ := cz2_ BK216.out; obtain ⟨hfz35_0, hfz35_1⟩ := fz2_ BK216.out))
      refine bodyPost_ret (results_ctt rfl _ _ gb216 27 #[.string (⟨#[]⟩ : ByteArray), .string (⟨#[]⟩ : ByteArray)] (0, 0) _ rfl (by (with_reducible repeat (first | refine blk_drewN ?_ _ | refine blk_drew ?_ | refine blk_alloc ?_ _)); refine blk_put (cs := #[.string (⟨#[]⟩ : ByteArray), .string (⟨#[]⟩ : ByteArray)]) ?_ 1 _ rfl; (with_reducible repeat (first | refine blk_drewN ?_ _ | refine blk_drew ?_ | refine blk_alloc ?_ _)); refine blk_put (cs := #[.string (⟨#[]⟩ : ByteArray), .string (⟨#[]⟩ : ByteArray)]) ?_ 0 _ rfl; (with_reducible repeat (first | refine blk_drewN ?_ _ | refine blk_drew ?_ | refine blk_alloc ?_ _)); exact BK216.out) Tryd.underlying27 rfl (by kernel_rfl)) rfl ?_
      exact ⟨by first | rfl | (simp [errW_none, errW_some] <;> rfl) | (simp [*, errW_none, errW_some] <;> rfl) | (have hw_ : ∀ n : Nat, (n + 1 ≤ 9223372036854775807) → wrap64 ((n : Int) + 1) = (n : Int) + 1 := fun n hn => by unfold wrap64; omega); (rw [hw_ _ (by first | assumption | omega)]); rfl, lb2_ HB.out GE216.out GE229.out⟩
    ·
     rw [if_neg c17] at H
     exact absurd H (by simp)
   ·
    replace c15 := Bool.eq_false_iff.mpr c15
    subst c15
    have H1 : (some ((⟨#[]⟩ : ByteArray), (⟨#[]⟩ : ByteArray), 0, false)) = some (r1, r2, r3, r4) := by rw [if_neg (show ¬ (false = true) by decide)] at H; exact H
    clear H
    have H := H1
    clear H1
    simp only [Option.some.injEq, Prod.mk.injEq] at H
    obtain ⟨rfl, rfl, rfl, rfl⟩ := H
    go_enter Tryd.func70, Tryd.ntmps70
    go_wp2_with (first | ((with_reducible refine gate_dst (N := 4) rfl ?_); refine box_event ?hg (N := 4) ?hd (cs := #[.string (⟨#[]⟩ : ByteArray), .string (⟨#[]⟩ : ByteArray)]) (t := 27) ?hr ?_; (case hd => rfl); (case hg => rfl); (case hr => first | (go_simp; done) | (go_simp; rfl)); intro gb216 hg w36 hbox hb; have BK216 := Aside0.mk (hbox); have GW216 := Aside0.mk ((bz_ hg (lb0_ HB.out))); have GE216 := Aside0.mk ((bz_ hg (lb0_ HB.out))); replace HB := Aside0.mk (below_step (lb0_ HB.out) hb); clear hb hbox hg) | ((with_reducible refine gate_callee (f := 77) rfl ?_); refine ga_ (some 22) Tryd.func77 #[.string a1, .string (⟨#[10]⟩ : ByteArray)] ?_; (with_reducible refine (strings_Cut.calls a1 (⟨#[10]⟩ : ByteArray) t217 t218 true _ A3.out).mono ?_); rintro e w' ⟨rfl, ⟨nd, rfl⟩⟩; refine ⟨_, rfl, ?_⟩; (try (rw [drewN_self w36]; generalize hq_ : World.drewN w36 _ = w36; have n0_ : Aside0 (w36.heap[gb216]? = some (.cells #[.string (⟨#[]⟩ : ByteArray), .string (⟨#[]⟩ : ByteArray)] 27 (0, 0))) := ⟨by rw [← hq_]; exact (bk_ BK216.out)⟩; have n1_ : Aside0 (Below w.heap.size w w36) := ⟨by rw [← hq_]; exact (lb1_ HB.out GE216.out)⟩; clear BK216 HB hq_; have BK216 := n0_; have HB := n1_; clear n0_ n1_))) | ((with_reducible refine gate_callee (f := 77) rfl ?_); refine ga_ (some 28) Tryd.func77 #[.string t217, .string (⟨#[35]⟩ : ByteArray)] ?_; (with_reducible refine (strings_Cut.calls t217 (⟨#[35]⟩ : ByteArray) t220 t221 t222 _ A4.out).mono ?_); rintro e w' ⟨rfl, ⟨nd, rfl⟩⟩; refine ⟨_, rfl, ?_⟩; (try (rw [drewN_self w36]; generalize hq_ : World.drewN w36 _ = w36; have n0_ : Aside0 (w36.heap[gb216]? = some (.cells #[.string (⟨#[]⟩ : ByteArray), .string (⟨#[]⟩ : ByteArray)] 27 (0, 0))) := ⟨by rw [← hq_]; exact (bk_ BK216.out)⟩; have n1_ : Aside0 (Below w.heap.size w w36) := ⟨by rw [← hq_]; exact (lb1_ HB.out GE216.out)⟩; clear BK216 HB hq_; have BK216 := n0_; have HB := n1_; clear n0_ n1_))) | ((with_reducible refine gate_callee (f := 77) rfl ?_); refine ga_ (some 34) Tryd.func77 #[.string t220, .string (⟨#[32]⟩ : ByteArray)] ?_; (with_reducible refine (strings_Cut.calls t220 (⟨#[32]⟩ : ByteArray) t223 t224 t225 _ A5.out).mono ?_); rintro e w' ⟨rfl, ⟨nd, rfl⟩⟩; refine ⟨_, rfl, ?_⟩; (try (rw [drewN_self w36]; generalize hq_ : World.drewN w36 _ = w36; have n0_ : Aside0 (w36.heap[gb216]? = some (.cells #[.string (⟨#[]⟩ : ByteArray), .string (⟨#[]⟩ : ByteArray)] 27 (0, 0))) := ⟨by rw [← hq_]; exact (bk_ BK216.out)⟩; have n1_ : Aside0 (Below w.heap.size w w36) := ⟨by rw [← hq_]; exact (lb1_ HB.out GE216.out)⟩; clear BK216 HB hq_; have BK216 := n0_; have HB := n1_; clear n0_ n1_))) | ((with_reducible refine gate_callee (f := 77) rfl ?_); refine ga_ (some 40) Tryd.func77 #[.string t224, .string (⟨#[64]⟩ : ByteArray)] ?_; (with_reducible refine (strings_Cut.calls t224 (⟨#[64]⟩ : ByteArray) t226 t227 t228 _ A6.out).mono ?_); rintro e w' ⟨rfl, ⟨nd, rfl⟩⟩; refine ⟨_, rfl, ?_⟩; (try (rw [drewN_self w36]; generalize hq_ : World.drewN w36 _ = w36; have n0_ : Aside0 (w36.heap[gb216]? = some (.cells #[.string (⟨#[]⟩ : ByteArray), .string (⟨#[]⟩ : ByteArray)] 27 (0, 0))) := ⟨by rw [← hq_]; exact (bk_ BK216.out)⟩; have n1_ : Aside0 (Below w.heap.size w w36) := ⟨by rw [← hq_]; exact (lb1_ HB.out GE216.out)⟩; clear BK216 HB hq_; have BK216 := n0_; have HB := n1_; clear n0_ n1_))) | ((with_reducible refine gate_dst (N := 19) rfl ?_); refine box_event ?hg (N := 19) ?hd (cs := #[.string (⟨#[]⟩ : ByteArray), .string (⟨#[]⟩ : ByteArray)]) (t := 27) ?hr ?_; (case hd => rfl); (case hg => rfl); (case hr => first | (go_simp; done) | (go_simp; rfl)); intro gb229 hg w37 hbox hb; have BK229 := Aside0.mk (hbox); have GW229 := Aside0.mk ((bz_ hg (lb1_ HB.out GE216.out))); have GE229 := Aside0.mk ((bz_ hg (lb1_ HB.out GE216.out))); replace HB := Aside0.mk (below_step (lb1_ HB.out GE216.out) hb); have NB216_229 := Aside0.mk ((by rw [hg]; exact Nat.ne_of_lt (blk_lt (g := gb216) (o := .cells #[.string (⟨#[]⟩ : ByteArray), .string (⟨#[]⟩ : ByteArray)] 27 (0, 0)) (bk_ BK216.out)) : gb216 ≠ gb229)); have NB229_216 := Aside0.mk ((by rw [hg]; exact Nat.ne_of_gt (blk_lt (g := gb216) (o := .cells #[.string (⟨#[]⟩ : ByteArray), .string (⟨#[]⟩ : ByteArray)] 27 (0, 0)) (bk_ BK216.out)) : gb229 ≠ gb216)); replace BK216 := Aside0.mk (bb_ (bk_ BK216.out) hb); clear hb hbox hg; have hnb38 := NB229_216.out; have hnc38 := NB216_229.out; obtain ⟨hcz39_0, hcz39_1⟩ := cz2_ BK229.out; obtain ⟨hfz39_0, hfz39_1⟩ := fz2_ BK229.out) | (go_at_call 37; (with_reducible refine (impl_IsValidRecord.calls k t226 t227 false _ A14.out).mono ?_); rintro e w40 ⟨rfl, hb⟩; replace BK216 := Aside0.mk (blk_below (g := gb216) (o := .cells #[.string (⟨#[]⟩ : ByteArray), .string (⟨#[]⟩ : ByteArray)] 27 (0, 0)) (by (with_reducible repeat (first | refine blk_drewN ?_ _ | refine blk_drew ?_ | refine blk_alloc ?_ _)); refine blk_far ?_ NB216_229.out _; (with_reducible repeat (first | refine blk_drewN ?_ _ | refine blk_drew ?_ | refine blk_alloc ?_ _)); refine blk_far ?_ NB216_229.out _; (with_reducible repeat (first | refine blk_drewN ?_ _ | refine blk_drew ?_ | refine blk_alloc ?_ _)); exact BK216.out) hb); replace BK229 := Aside0.mk (blk_below (g := gb229) (o := .cells #[.string t226, .string t227] 27 (0, 0)) (by (with_reducible repeat (first | refine blk_drewN ?_ _ | refine blk_drew ?_ | refine blk_alloc ?_ _)); refine blk_put (cs := #[.string t226, .string (⟨#[]⟩ : ByteArray)]) ?_ 1 _ rfl; (with_reducible repeat (first | refine blk_drewN ?_ _ | refine blk_drew ?_ | refine blk_alloc ?_ _)); refine blk_put (cs := #[.string (⟨#[]⟩ : ByteArray), .string (⟨#[]⟩ : ByteArray)]) ?_ 0 _ rfl; (with_reducible repeat (first | refine blk_drewN ?_ _ | refine blk_drew ?_ | refine blk_alloc ?_ _)); exact BK229.out) hb); replace HB := Aside0.mk (below_step (lb2_ HB.out GE216.out GE229.out) hb); (try clear hb); (try clear hb2); (try clear hk); (try clear hi); obtain ⟨hcz41_0, hcz41_1⟩ := cz2_ BK216.out; obtain ⟨hfz41_0, hfz41_1⟩ := fz2_ BK216.out))
    refine bodyPost_ret (results_ctt rfl _ _ gb216 27 #[.string (⟨#[]⟩ : ByteArray), .string (⟨#[]⟩ : ByteArray)] (0, 0) _ rfl (by (with_reducible repeat (first | refine blk_drewN ?_ _ | refine blk_drew ?_ | refine blk_alloc ?_ _)); refine blk_put (cs := #[.string (⟨#[]⟩ : ByteArray), .string (⟨#[]⟩ : ByteArray)]) ?_ 1 _ rfl; (with_reducible repeat (first | refine blk_drewN ?_ _ | refine blk_drew ?_ | refine blk_alloc ?_ _)); refine blk_put (cs := #[.string (⟨#[]⟩ : ByteArray), .string (⟨#[]⟩ : ByteArray)]) ?_ 0 _ rfl; (with_reducible repeat (first | refine blk_drewN ?_ _ | refine blk_drew ?_ | refine blk_alloc ?_ _)); exact BK216.out) Tryd.underlying27 rfl (by kernel_rfl)) rfl ?_
    exact ⟨by first | rfl | (simp [errW_none, errW_some] <;> rfl) | (simp [*, errW_none, errW_some] <;> rfl) | (have hw_ : ∀ n : Nat, (n + 1 ≤ 9223372036854775807) → wrap64 ((n : Int) + 1) = (n : Int) + 1 := fun n hn => by unfold wrap64; omega); (rw [hw_ _ (by first | assumption | omega)]); rfl, lb2_ HB.out GE216.out GE229.out⟩
 ·
  replace c7 := Bool.eq_false_iff.mpr c7
  subst c7
  have H1 : (some ((⟨#[]⟩ : ByteArray), (⟨#[]⟩ : ByteArray), 0, false)) = some (r1, r2, r3, r4) := by rw [if_neg (show ¬ (false = true) by decide)] at H; exact H
  clear H
  have H := H1
  clear H1
  simp only [Option.some.injEq, Prod.mk.injEq] at H
  obtain ⟨rfl, rfl, rfl, rfl⟩ := H
  go_enter Tryd.func70, Tryd.ntmps70
  go_wp2_with (first | ((with_reducible refine gate_dst (N := 4) rfl ?_); refine box_event ?hg (N := 4) ?hd (cs := #[.string (⟨#[]⟩ : ByteArray), .string (⟨#[]⟩ : ByteArray)]) (t := 27) ?hr ?_; (case hd => rfl); (case hg => rfl); (case hr => first | (go_simp; done) | (go_simp; rfl)); intro gb216 hg w42 hbox hb; have BK216 := Aside0.mk (hbox); have GW216 := Aside0.mk ((bz_ hg (lb0_ HB.out))); have GE216 := Aside0.mk ((bz_ hg (lb0_ HB.out))); replace HB := Aside0.mk (below_step (lb0_ HB.out) hb); clear hb hbox hg) | ((with_reducible refine gate_callee (f := 77) rfl ?_); refine ga_ (some 22) Tryd.func77 #[.string a1, .string (⟨#[10]⟩ : ByteArray)] ?_; (with_reducible refine (strings_Cut.calls a1 (⟨#[10]⟩ : ByteArray) t217 t218 false _ A3.out).mono ?_); rintro e w' ⟨rfl, ⟨nd, rfl⟩⟩; refine ⟨_, rfl, ?_⟩; (try (rw [drewN_self w42]; generalize hq_ : World.drewN w42 _ = w42; have n0_ : Aside0 (w42.heap[gb216]? = some (.cells #[.string (⟨#[]⟩ : ByteArray), .string (⟨#[]⟩ : ByteArray)] 27 (0, 0))) := ⟨by rw [← hq_]; exact (bk_ BK216.out)⟩; have n1_ : Aside0 (Below w.heap.size w w42) := ⟨by rw [← hq_]; exact (lb1_ HB.out GE216.out)⟩; clear BK216 HB hq_; have BK216 := n0_; have HB := n1_; clear n0_ n1_))) | ((with_reducible refine gate_callee (f := 77) rfl ?_); refine ga_ (some 28) Tryd.func77 #[.string t217, .string (⟨#[35]⟩ : ByteArray)] ?_; (with_reducible refine (strings_Cut.calls t217 (⟨#[35]⟩ : ByteArray) t220 t221 t222 _ A4.out).mono ?_); rintro e w' ⟨rfl, ⟨nd, rfl⟩⟩; refine ⟨_, rfl, ?_⟩; (try (rw [drewN_self w42]; generalize hq_ : World.drewN w42 _ = w42; have n0_ : Aside0 (w42.heap[gb216]? = some (.cells #[.string (⟨#[]⟩ : ByteArray), .string (⟨#[]⟩ : ByteArray)] 27 (0, 0))) := ⟨by rw [← hq_]; exact (bk_ BK216.out)⟩; have n1_ : Aside0 (Below w.heap.size w w42) := ⟨by rw [← hq_]; exact (lb1_ HB.out GE216.out)⟩; clear BK216 HB hq_; have BK216 := n0_; have HB := n1_; clear n0_ n1_))) | ((with_reducible refine gate_callee (f := 77) rfl ?_); refine ga_ (some 34) Tryd.func77 #[.string t220, .string (⟨#[32]⟩ : ByteArray)] ?_; (with_reducible refine (strings_Cut.calls t220 (⟨#[32]⟩ : ByteArray) t223 t224 t225 _ A5.out).mono ?_); rintro e w' ⟨rfl, ⟨nd, rfl⟩⟩; refine ⟨_, rfl, ?_⟩; (try (rw [drewN_self w42]; generalize hq_ : World.drewN w42 _ = w42; have n0_ : Aside0 (w42.heap[gb216]? = some (.cells #[.string (⟨#[]⟩ : ByteArray), .string (⟨#[]⟩ : ByteArray)] 27 (0, 0))) := ⟨by rw [← hq_]; exact (bk_ BK216.out)⟩; have n1_ : Aside0 (Below w.heap.size w w42) := ⟨by rw [← hq_]; exact (lb1_ HB.out GE216.out)⟩; clear BK216 HB hq_; have BK216 := n0_; have HB := n1_; clear n0_ n1_))) | ((with_reducible refine gate_callee (f := 77) rfl ?_); refine ga_ (some 40) Tryd.func77 #[.string t224, .string (⟨#[64]⟩ : ByteArray)] ?_; (with_reducible refine (strings_Cut.calls t224 (⟨#[64]⟩ : ByteArray) t226 t227 t228 _ A6.out).mono ?_); rintro e w' ⟨rfl, ⟨nd, rfl⟩⟩; refine ⟨_, rfl, ?_⟩; (try (rw [drewN_self w42]; generalize hq_ : World.drewN w42 _ = w42; have n0_ : Aside0 (w42.heap[gb216]? = some (.cells #[.string (⟨#[]⟩ : ByteArray), .string (⟨#[]⟩ : ByteArray)] 27 (0, 0))) := ⟨by rw [← hq_]; exact (bk_ BK216.out)⟩; have n1_ : Aside0 (Below w.heap.size w w42) := ⟨by rw [← hq_]; exact (lb1_ HB.out GE216.out)⟩; clear BK216 HB hq_; have BK216 := n0_; have HB := n1_; clear n0_ n1_))) | ((with_reducible refine gate_dst (N := 19) rfl ?_); refine box_event ?hg (N := 19) ?hd (cs := #[.string (⟨#[]⟩ : ByteArray), .string (⟨#[]⟩ : ByteArray)]) (t := 27) ?hr ?_; (case hd => rfl); (case hg => rfl); (case hr => first | (go_simp; done) | (go_simp; rfl)); intro gb229 hg w43 hbox hb; have BK229 := Aside0.mk (hbox); have GW229 := Aside0.mk ((bz_ hg (lb1_ HB.out GE216.out))); have GE229 := Aside0.mk ((bz_ hg (lb1_ HB.out GE216.out))); replace HB := Aside0.mk (below_step (lb1_ HB.out GE216.out) hb); have NB216_229 := Aside0.mk ((by rw [hg]; exact Nat.ne_of_lt (blk_lt (g := gb216) (o := .cells #[.string (⟨#[]⟩ : ByteArray), .string (⟨#[]⟩ : ByteArray)] 27 (0, 0)) (bk_ BK216.out)) : gb216 ≠ gb229)); have NB229_216 := Aside0.mk ((by rw [hg]; exact Nat.ne_of_gt (blk_lt (g := gb216) (o := .cells #[.string (⟨#[]⟩ : ByteArray), .string (⟨#[]⟩ : ByteArray)] 27 (0, 0)) (bk_ BK216.out)) : gb229 ≠ gb216)); replace BK216 := Aside0.mk (bb_ (bk_ BK216.out) hb); clear hb hbox hg; have hnb44 := NB229_216.out; have hnc44 := NB216_229.out; obtain ⟨hcz45_0, hcz45_1⟩ := cz2_ BK229.out; obtain ⟨hfz45_0, hfz45_1⟩ := fz2_ BK229.out; obtain ⟨hcz46_0, hcz46_1⟩ := cz2_ BK216.out; obtain ⟨hfz46_0, hfz46_1⟩ := fz2_ BK216.out))
  refine bodyPost_ret (results_ctt rfl _ _ gb216 27 #[.string (⟨#[]⟩ : ByteArray), .string (⟨#[]⟩ : ByteArray)] (0, 0) _ rfl (by (with_reducible repeat (first | refine blk_drewN ?_ _ | refine blk_drew ?_ | refine blk_alloc ?_ _)); refine blk_put (cs := #[.string (⟨#[]⟩ : ByteArray), .string (⟨#[]⟩ : ByteArray)]) ?_ 1 _ rfl; (with_reducible repeat (first | refine blk_drewN ?_ _ | refine blk_drew ?_ | refine blk_alloc ?_ _)); refine blk_put (cs := #[.string (⟨#[]⟩ : ByteArray), .string (⟨#[]⟩ : ByteArray)]) ?_ 0 _ rfl; (with_reducible repeat (first | refine blk_drewN ?_ _ | refine blk_drew ?_ | refine blk_alloc ?_ _)); refine blk_far ?_ NB216_229.out _; (with_reducible repeat (first | refine blk_drewN ?_ _ | refine blk_drew ?_ | refine blk_alloc ?_ _)); refine blk_far ?_ NB216_229.out _; (with_reducible repeat (first | refine blk_drewN ?_ _ | refine blk_drew ?_ | refine blk_alloc ?_ _)); exact BK216.out) Tryd.underlying27 rfl (by kernel_rfl)) rfl ?_
  exact ⟨by first | rfl | (simp [errW_none, errW_some] <;> rfl) | (simp [*, errW_none, errW_some] <;> rfl) | (have hw_ : ∀ n : Nat, (n + 1 ≤ 9223372036854775807) → wrap64 ((n : Int) + 1) = (n : Int) + 1 := fun n hn => by unfold wrap64; omega); (rw [hw_ _ (by first | assumption | omega)]); rfl, lb2_ HB.out GE216.out GE229.out⟩
def impl_readRecords.l0 : Nat → ByteArray → List (S27) → List Int → Option ((List (S27)) × List Int)
 | 0, _, _, _ => none
 | k + 1, x0, x4, x5 => if 0 ≤ (wrap64 ((x5.length : Int) - 1)) then (if (wrap64 ((x5.length : Int) - 1)) < (x5.length : Int) then (if 0 ≤ (rd x5 (wrap64 ((x5.length : Int) - 1))) then (if (rd x5 (wrap64 ((x5.length : Int) - 1))) ≤ (x0.size : Int) then ((impl_readRecord.f k (x4.length : Int) (sx x0 (((rd x5 (wrap64 ((x5.length : Int) - 1))) : Int).toNat) (x0.size))).bind fun bt236 => (if bt236.2.2.2 = true then (if x4.length < 4398046511104 then (if x5.length < 17592186044416 then (impl_readRecords.l0 k x0 (x4 ++ [(⟨bt236.1, bt236.2.1⟩ : S27)]) (x5 ++ [wrap64 ((rd x5 (wrap64 ((x5.length : Int) - 1))) + bt236.2.2.1)])) else (none)) else (none)) else (some (x4, x5)))) else (none)) else (none)) else (none)) else (none)
def impl_readRecords.f (k : Nat) (a0 : ByteArray) : Option ((List (S27)) × List Int) := impl_readRecords.l0 k a0 ([] : List (S27)) (([0] : List Int))
set_option maxHeartbeats 8000000 in
set_option maxRecDepth 100000 in
theorem impl_readRecords.calls (k : Nat) (a0 : ByteArray) (r1 : List (S27)) (r2 : List Int) (w : World) (h : impl_readRecords.f k a0 = some (r1, r2)) (hT : Tb w) :
  Calls Tryd.prog 48 #[.string a0] w fun e w' => ∃ v0_ v1_ : Value, e = .returned (.tuple #[v0_, v1_]) ∧ Kd.R k27 27 w' w.heap.size (fun _ => True) v0_ r1 ∧ Kd.R (Kd.int .i64) 3 w' w.heap.size (fun _ => True) v1_ r2 ∧ Below w.heap.size w w' := by
 have HT := Aside0.mk hT
 clear hT
 have hu27 := Tryd.underlying27
 have HB := Aside0.mk (Below.refl w.heap.size w)
 have H : (impl_readRecords.l0 k a0 ([] : List (S27)) (([0] : List Int))) = some (r1, r2) := h
 clear h
 obtain ⟨y232, hy232⟩ : ∃ y_ : List Int, y_ = (([0] : List Int)) := ⟨_, rfl⟩
 replace H : (impl_readRecords.l0 k a0 ([] : List (S27)) y232) = some (r1, r2) := by first | (rw [hy232]; with_reducible exact H) | (have H2_ := (Option.bind_some _ _).symm.trans H; rw [hy232]; with_reducible exact H2_) | (have H2_ := (Option.bind_some _ _).symm.trans H; with_reducible exact H2_) | with_reducible exact H | (rw [hy232]; exact H) | exact H
 have Ny232 := Aside0.mk hy232
 clear hy232
 have H' := Aside0.mk H
 clear H
 go_enter Tryd.func48, Tryd.ntmps48
 go_wp2_with (first | ((with_reducible refine gate_dst (N := 10) rfl ?_); refine Kd.R_lit (Kd.int .i64) _ 3 ?hg (N := 10) ?hd (xs := ([0] : List Int)) (inner := [.int .i64 0]) (ok := fun _ => True) (okp := fun _ => True) ?hr ?hp (fun _ hk => hk) trivial (Below.refl _ _) (Nat.le_refl _) (by simp) ?_; (case hd => rfl); (case hg => rfl); (case hr => first | (go_simp; done) | (go_simp; rfl)); (case hp => exact (Reps.one (show Kd.M (Kd.int .i64) _ _ _ 0 [.int .i64 0] from rfl) (Reps.none _ _))); intro v233 w2 ho3 hb hg_ hnew_; clear hg_ hnew_; replace ho3 := ry_ Ny232.out ho3; have HO234 := Aside0.mk (Kd.R_lower ho3 (below_size (lb0_ HB.out))); replace HB := Aside0.mk (below_step (lb0_ HB.out) hb); clear hb ho3))
 go_loopg [4, 5] k (fun kq v4 v5 w' => ∃ (x4_1 : List (S27)) (x5_1 : List Int), Aside0 (impl_readRecords.l0 kq a0 x4_1 x5_1 = some (r1, r2)) ∧ Aside0 (kq ≤ k) ∧ Aside0 (Kd.R k27 27 w' w.heap.size (fun _ => True) v4 x4_1) ∧ Aside0 (Kd.R (Kd.int .i64) 3 w' w.heap.size (fun _ => True) v5 x5_1) ∧ Aside0 (Below w.heap.size w w'))
 case atStart => exact ⟨(([] : List (S27))), (y232), H', ⟨Nat.le_refl _⟩, ⟨by first | exact Kd.R_nil _ _ _ _ _ | exact Kd.N_nil _ _ _ _ _ | exact Kd.V_nil _ _ _ _ _ | exact Kd.Q_nil _ _ _ _ _ | exact Kd.S_nil _ _ _ _ _⟩, ⟨kr_ HO234.out⟩, ⟨lb0_ HB.out⟩⟩
 case round =>
  clear H'
  try clear p2
  obtain ⟨x4_1, x5_1, HA, HK1, HO_4, HO_5, HB⟩ := hrel
  cases gk with
  | zero => exact absurd HA.out (by simp [impl_readRecords.l0])
  | succ k1 =>
   have H := HA.out
   clear HA
   simp only [impl_readRecords.l0] at H
   obtain ⟨ji4, hji4⟩ : ∃ j_ : Int, (wrap64 ((x5_1.length : Int) - 1)) = j_ := ⟨_, rfl⟩
   replace H : (if 0 ≤ (ji4) then (if (ji4) < (x5_1.length : Int) then (if 0 ≤ (rd x5_1 (ji4)) then (if (rd x5_1 (ji4)) ≤ (a0.size : Int) then ((impl_readRecord.f k1 (x4_1.length : Int) (sx a0 (((rd x5_1 (ji4)) : Int).toNat) (a0.size))).bind fun bt236 => (if bt236.2.2.2 = true then (if x4_1.length < 4398046511104 then (if x5_1.length < 17592186044416 then (impl_readRecords.l0 k1 a0 (x4_1 ++ [(⟨bt236.1, bt236.2.1⟩ : S27)]) (x5_1 ++ [wrap64 ((rd x5_1 (ji4)) + bt236.2.2.1)])) else (none)) else (none)) else (some (x4_1, x5_1)))) else (none)) else (none)) else (none)) else (none)) = some (r1, r2) := by first | (rw [hji4] at H; exact H) | (simp only [hji4] at H ⊢; exact H)
   have hji4w : (IntKind.i64.wrap ((x5_1.length : Int) - 1)) = ji4 := (i64_w _).trans hji4
   by_cases c5 : 0 ≤ (ji4)
   ·
    rw [if_pos c5] at H
    have c5b0 : decide (0 ≤ (ji4)) = true := decide_eq_true c5
    clear c5
    by_cases c6 : (ji4) < (x5_1.length : Int)
    ·
     rw [if_pos c6] at H
     have c6b0 : decide ((ji4) < (x5_1.length : Int)) = true := decide_eq_true c6
     clear c6
     by_cases c7 : 0 ≤ (rd x5_1 (ji4))
     ·
      rw [if_pos c7] at H
      have c7b0 := eq_true c7
      have c7b1 : decide (0 ≤ (rd x5_1 (ji4))) = true := decide_eq_true c7
      clear c7
      by_cases c8 : (rd x5_1 (ji4)) ≤ (a0.size : Int)
      ·
       rw [if_pos c8] at H
       have c8b0 := eq_true c8
       have c8b1 : decide ((rd x5_1 (ji4)) ≤ (a0.size : Int)) = true := decide_eq_true c8
       clear c8
       replace H := Option.bind_eq_some_iff.mp H
       obtain ⟨⟨t236, t237, t238, t239⟩, A90, H⟩ := H
       replace H : (if t239 = true then (if x4_1.length < 4398046511104 then (if x5_1.length < 17592186044416 then (impl_readRecords.l0 k1 a0 (x4_1 ++ [(⟨t236, t237⟩ : S27)]) (x5_1 ++ [wrap64 ((rd x5_1 (ji4)) + t238)])) else (none)) else (none)) else (some (x4_1, x5_1))) = some (r1, r2) := H
       have A9 := Aside0.mk A90
       clear A90
       by_cases c10 : t239 = true
       ·
        subst c10
        have H1 : (if x4_1.length < 4398046511104 then (if x5_1.length < 17592186044416 then (impl_readRecords.l0 k1 a0 (x4_1 ++ [(⟨t236, t237⟩ : S27)]) (x5_1 ++ [wrap64 ((rd x5_1 (ji4)) + t238)])) else (none)) else (none)) = some (r1, r2) := by rw [if_pos rfl] at H; exact H
        clear H; have H := H1; clear H1
        by_cases c11 : x4_1.length < 4398046511104
        ·
         rw [if_pos c11] at H
         have LMc11 := Aside0.mk c11; clear c11
         obtain ⟨y241, hy241⟩ : ∃ y_ : List (S27), y_ = (x4_1 ++ [(⟨t236, t237⟩ : S27)]) := ⟨_, rfl⟩
         replace H : (if x5_1.length < 17592186044416 then (impl_readRecords.l0 k1 a0 y241 (x5_1 ++ [wrap64 ((rd x5_1 (ji4)) + t238)])) else (none)) = some (r1, r2) := by first | (rw [hy241]; with_reducible exact H) | (have H2_ := (Option.bind_some _ _).symm.trans H; rw [hy241]; with_reducible exact H2_) | (have H2_ := (Option.bind_some _ _).symm.trans H; with_reducible exact H2_) | with_reducible exact H | (rw [hy241]; exact H) | exact H
         have Ny241 := Aside0.mk hy241; clear hy241
         by_cases c12 : x5_1.length < 17592186044416
         ·
          rw [if_pos c12] at H
          have LMc12 := Aside0.mk c12; clear c12
          obtain ⟨y244, hy244⟩ : ∃ y_ : List Int, y_ = (x5_1 ++ [wrap64 ((rd x5_1 (ji4)) + t238)]) := ⟨_, rfl⟩
          replace H : (impl_readRecords.l0 k1 a0 y241 y244) = some (r1, r2) := by first | (rw [hy244]; with_reducible exact H) | (have H2_ := (Option.bind_some _ _).symm.trans H; rw [hy244]; with_reducible exact H2_) | (have H2_ := (Option.bind_some _ _).symm.trans H; with_reducible exact H2_) | with_reducible exact H | (rw [hy244]; exact H) | exact H
          have Ny244 := Aside0.mk hy244; clear hy244; have H' := Aside0.mk H; clear H; obtain ⟨Ao13, co13, eo13⟩ := Kd.R_slice HO_5.out; subst eo13; have p235 : 0 ≤ ((ji4) : Int) := dt_; have q235 : (ji4) < (x5_1.length : Int) := dt_; obtain ⟨ad235, e235, hx235_0⟩ := Kd.at_int (Kd.R_reads' HO_5.out).2.2 (ji4) p235 q235
          cases e235
          replace p235 := eq_true p235; replace q235 := eq_true q235; obtain ⟨Ao14, co14, eo14⟩ := Kd.R_slice HO_4.out; subst eo14
          go_wp2_with (first | ((with_reducible refine gate_callee (f := 70) rfl ?_); refine goesL_ (some 23) rfl rfl Tryd.func70 (by kernel_rfl) rfl #[.int .i64 (x4_1.length : Int), .string (sx a0 (((rd x5_1 (ji4)) : Int).toNat) (a0.size))] rfl (by (try simp only [List.map_toArray, List.map_cons, List.map_nil]); first | done | (simp only [hji4]; rfl) | rfl | (simp only [List.length_drop, List.length_take]; rfl)) ?_; (with_reducible refine (impl_readRecord.calls k1 (x4_1.length : Int) (sx a0 (((rd x5_1 (ji4)) : Int).toNat) (a0.size)) t236 t237 t238 true _ A9.out ?sideT).mono ?_); (case sideT => first | exact HT.out | exact Tb.step HT.out HB.out | exact Tb.step HT.out (by repeat (first | (with_reducible first | exact HB.out | apply below_alloc | apply pw_below_drewN | apply below_drew1 | refine below_set ?_ GE240.out) | exact HB.out | exact Below.refl _ _))); rintro e w15 ⟨rfl, hb⟩; refine ⟨_, rfl, ?_⟩; replace HO_4 := Aside0.mk (Kd.R_below (kr_ HO_4.out) hb); replace HO_5 := Aside0.mk (Kd.R_below (kr_ HO_5.out) hb); replace HB := Aside0.mk (below_step (lb0_ HB.out) hb); (try clear hb); (try clear hb2); (try clear hk); (try clear hi)) | ((with_reducible refine gate_dst (N := 7) rfl ?_); refine box_event ?hg (N := 7) ?hd (cs := #[.string (⟨#[]⟩ : ByteArray), .string (⟨#[]⟩ : ByteArray)]) (t := 27) ?hr ?_; (case hd => rfl); (case hg => rfl); (case hr => first | (go_simp; done) | (go_simp; rfl)); intro gb240 hg w16 hbox hb; replace HO_4 := Aside0.mk (Kd.R_below (Kd.R_elderB (kr_ HO_4.out) gb240 (Nat.le_of_eq hg.symm)) hb); replace HO_5 := Aside0.mk (Kd.R_below (kr_ HO_5.out) hb); have BK240 := Aside0.mk (hbox); have GW240 := Aside0.mk ((bz_ hg (lb0_ HB.out))); have GE240 := Aside0.mk ((bz_ hg (lb0_ HB.out))); replace HB := Aside0.mk (below_step (lb0_ HB.out) hb); clear hb hbox hg; obtain ⟨hcz17_0, hcz17_1⟩ := cz2_ BK240.out; obtain ⟨hfz17_0, hfz17_1⟩ := fz2_ BK240.out) | ((with_reducible refine gate_builtin (b := .append) (xs := #[.tmp 31, .tmp 33]) rfl ?_); at_builtin; refine Kd.R_append k27 (w0 := w) w.heap.size rfl (.tmp 31) (.tmp 33) 48 27 (.agg #[(.string ⟨#[]⟩), (.string ⟨#[]⟩)]) 32 rfl Tryd.underlying48 info27 rfl (by decide) (by omega) (.slice Ao14 x4_1.length co14) x4_1 (⟨t236, t237⟩ : S27) [.string t236, .string t237] (fun k_ => k_ ≠ gb240) (fun _ => False) rfl (by first | (go_simp; done) | (go_simp; rfl)) ?aP (fun _ hk => hk.elim) ?aF ?aO ?aB ?aS ?aL ?_; (case aP => exact k27_mkM _ _ _ (⟨t236, t237⟩ : S27)); (case aB => exact (lb1_ HB.out GE240.out)); (case aF => exact (fun k_ hk => Kd.freshB (g := gb240) (o := .cells #[.string t236, .string t237] 27 (0, 0)) (by (with_reducible repeat (first | refine blk_drewN ?_ _ | refine blk_drew ?_ | refine blk_alloc ?_ _)); refine blk_put (cs := #[.string t236, .string (⟨#[]⟩ : ByteArray)]) ?_ 1 _ rfl; (with_reducible repeat (first | refine blk_drewN ?_ _ | refine blk_drew ?_ | refine blk_alloc ?_ _)); refine blk_put (cs := #[.string (⟨#[]⟩ : ByteArray), .string (⟨#[]⟩ : ByteArray)]) ?_ 0 _ rfl; (with_reducible repeat (first | refine blk_drewN ?_ _ | refine blk_drew ?_ | refine blk_alloc ?_ _)); exact BK240.out) k_ hk)); (case aO => exact (by (with_reducible repeat (first | apply Kd.R_alloc | apply Kd.R_drewN | apply Kd.R_drew)); exact Kd.R_mono (Kd.R_far (p := ⟨gb240, 1, none⟩) (Kd.R_far (p := ⟨gb240, 0, none⟩) (Kd.R_mono HO_4.out (fun k_ hk => (⟨hk, hk.2⟩ : _ ∧ k_ ≠ gb240))) (fun _ hk => hk.2) (.string t236)) (fun _ hk => hk.2) (.string t237)) (fun _ hk => hk.1.2))); (case aS => exact (below_size (lb1_ HB.out GE240.out))); (case aL => have := LMc11.out; omega); intro v242 w18 ho hb hg hat; rw [← Ny241.out] at ho; replace HO_5 := Aside0.mk (Kd.R_over' (kg_ HO_5.out BK240.out) (Kd.R_typed (by (with_reducible repeat (first | apply Kd.R_alloc | apply Kd.R_drewN | apply Kd.R_drew)); exact (Kd.R_mono (Kd.R_far (p := ⟨gb240, 1, none⟩) (Kd.R_far (p := ⟨gb240, 0, none⟩) (Kd.R_mono HO_4.out (fun k_ hk => (⟨hk, hk.2⟩ : _ ∧ k_ ≠ gb240))) (fun _ hk => hk.2) (.string t236)) (fun _ hk => hk.2) (.string t237)) (fun _ h_ => h_.1)))) (by decide) hg); replace BK240 := Aside0.mk (blk_grown (g := gb240) (o := .cells #[.string t236, .string t237] 27 (0, 0)) (by (with_reducible repeat (first | refine blk_drewN ?_ _ | refine blk_drew ?_ | refine blk_alloc ?_ _)); refine blk_put (cs := #[.string t236, .string (⟨#[]⟩ : ByteArray)]) ?_ 1 _ rfl; (with_reducible repeat (first | refine blk_drewN ?_ _ | refine blk_drew ?_ | refine blk_alloc ?_ _)); refine blk_put (cs := #[.string (⟨#[]⟩ : ByteArray), .string (⟨#[]⟩ : ByteArray)]) ?_ 0 _ rfl; (with_reducible repeat (first | refine blk_drewN ?_ _ | refine blk_drew ?_ | refine blk_alloc ?_ _)); exact BK240.out) hg (Kd.R_away HO_4.out (fun _ hk => hk.2))); replace HB := Aside0.mk (hb); have HO243 := Aside0.mk (ho); clear HO_4; clear ho hb hg hat) | ((with_reducible refine gate_builtin (b := .append) (xs := #[.tmp 35, .tmp 39]) rfl ?_); at_builtin; refine Kd.R_append (Kd.int .i64) (w0 := w) w.heap.size rfl (.tmp 35) (.tmp 39) 66 3 (.int .i64 0) 8 rfl Tryd.underlying66 info3 rfl (by decide) (by omega) (.slice (some ad235) x5_1.length co13) x5_1 (wrap64 ((rd x5_1 (ji4)) + t238)) [.int .i64 (wrap64 ((rd x5_1 (ji4)) + t238))] (fun _ => True) (fun _ => False) rfl rfl ?aP (fun _ hk => hk.elim) ?aF ?aO ?aB ?aS ?aL ?_; (case aP => exact rfl); (case aB => exact (lb1_ HB.out GE240.out)); (case aF => exact (fun _ _ => trivial)); (case aO => exact (kr_ HO_5.out)); (case aS => exact (below_size (lb1_ HB.out GE240.out))); (case aL => have := LMc12.out; omega); intro v245 w19 ho hb hg hat; rw [← Ny244.out] at ho; replace BK240 := Aside0.mk (blk_grown (g := gb240) (o := .cells #[.string t236, .string t237] 27 (0, 0)) (bk_ BK240.out) hg (Kd.R_ne HO_5.out BK240.out (by decide))); replace HO243 := Aside0.mk (Kd.R_over' (kr_ HO243.out) (Kd.R_typed (kr_ HO_5.out)) (by decide) hg); replace HB := Aside0.mk (hb); have HO246 := Aside0.mk (ho); clear HO_5; clear ho hb hg hat))
          go_roundg k1
          case measure => have := HK1.out; omega
          case rel => exact ⟨(y241), (y244), H', ⟨by have := HK1.out; omega⟩, ⟨krm_ HO243.out (fun _ hk => trivial)⟩, ⟨kr_ HO246.out⟩, ⟨lb1_ HB.out GE240.out⟩⟩
         ·
          rw [if_neg c12] at H
          exact absurd H (by simp)
        ·
         rw [if_neg c11] at H
         exact absurd H (by simp)
       ·
        replace c10 := Bool.eq_false_iff.mpr c10; subst c10
        have H1 : (some (x4_1, x5_1)) = some (r1, r2) := by rw [if_neg (show ¬ (false = true) by decide)] at H; exact H
        clear H; have H := H1; clear H1; simp only [Option.some.injEq, Prod.mk.injEq] at H; obtain ⟨rfl, rfl⟩ := H; obtain ⟨Ao20, co20, eo20⟩ := Kd.R_slice HO_5.out; subst eo20; have p235 : 0 ≤ ((ji4) : Int) := dt_; have q235 : (ji4) < (x5_1.length : Int) := dt_; obtain ⟨ad235, e235, hx235_0⟩ := Kd.at_int (Kd.R_reads' HO_5.out).2.2 (ji4) p235 q235
        cases e235
        replace p235 := eq_true p235; replace q235 := eq_true q235; obtain ⟨Ao21, co21, eo21⟩ := Kd.R_slice HO_4.out; subst eo21
        go_wp2_with (first | ((with_reducible refine gate_callee (f := 70) rfl ?_); refine goesL_ (some 23) rfl rfl Tryd.func70 (by kernel_rfl) rfl #[.int .i64 (x4_1.length : Int), .string (sx a0 (((rd x5_1 (ji4)) : Int).toNat) (a0.size))] rfl (by (try simp only [List.map_toArray, List.map_cons, List.map_nil]); first | done | (simp only [hji4]; rfl) | rfl | (simp only [List.length_drop, List.length_take]; rfl)) ?_; (with_reducible refine (impl_readRecord.calls k1 (x4_1.length : Int) (sx a0 (((rd x5_1 (ji4)) : Int).toNat) (a0.size)) t236 t237 t238 false _ A9.out ?sideT).mono ?_); (case sideT => first | exact HT.out | exact Tb.step HT.out HB.out | exact Tb.step HT.out (by repeat (first | (with_reducible first | exact HB.out | apply below_alloc | apply pw_below_drewN | apply below_drew1 | refine below_set ?_ GE240.out) | exact HB.out | exact Below.refl _ _))); rintro e w22 ⟨rfl, hb⟩; refine ⟨_, rfl, ?_⟩; replace HO_4 := Aside0.mk (Kd.R_below (kr_ HO_4.out) hb); replace HO_5 := Aside0.mk (Kd.R_below (kr_ HO_5.out) hb); replace HB := Aside0.mk (below_step (lb0_ HB.out) hb); (try clear hb); (try clear hb2); (try clear hk); (try clear hi)) | ((with_reducible refine gate_dst (N := 7) rfl ?_); refine box_event ?hg (N := 7) ?hd (cs := #[.string (⟨#[]⟩ : ByteArray), .string (⟨#[]⟩ : ByteArray)]) (t := 27) ?hr ?_; (case hd => rfl); (case hg => rfl); (case hr => first | (go_simp; done) | (go_simp; rfl)); intro gb240 hg w23 hbox hb; replace HO_4 := Aside0.mk (Kd.R_below (Kd.R_elderB (kr_ HO_4.out) gb240 (Nat.le_of_eq hg.symm)) hb); replace HO_5 := Aside0.mk (Kd.R_below (kr_ HO_5.out) hb); have BK240 := Aside0.mk (hbox); have GW240 := Aside0.mk ((bz_ hg (lb0_ HB.out))); have GE240 := Aside0.mk ((bz_ hg (lb0_ HB.out))); replace HB := Aside0.mk (below_step (lb0_ HB.out) hb); clear hb hbox hg; obtain ⟨hcz24_0, hcz24_1⟩ := cz2_ BK240.out; obtain ⟨hfz24_0, hfz24_1⟩ := fz2_ BK240.out))
        go_ret2
        exact ⟨_, _, by first | rfl | (simp [errW_none, errW_some] <;> rfl) | (simp only [← hji4]; first | rfl | (simp [errW_none, errW_some] <;> rfl)) | (simp [*, errW_none, errW_some] <;> rfl), by (with_reducible repeat (first | apply Kd.R_alloc | apply Kd.R_drewN | apply Kd.R_drew)); exact Kd.R_mono (Kd.R_far (p := ⟨gb240, 1, none⟩) (Kd.R_far (p := ⟨gb240, 0, none⟩) (Kd.R_mono HO_4.out (fun k_ hk => (⟨hk, hk.2⟩ : _ ∧ k_ ≠ gb240))) (fun _ hk => hk.2) (.string t236)) (fun _ hk => hk.2) (.string t237)) (fun _ hk => trivial), by (with_reducible repeat (first | apply Kd.R_alloc | apply Kd.R_drewN | apply Kd.R_drew)); exact Kd.R_mono (Kd.R_far (p := ⟨gb240, 1, none⟩) (Kd.R_far (p := ⟨gb240, 0, none⟩) (Kd.R_types HO_5.out BK240.out (by decide)) (fun _ hk => hk.2) (.string t236)) (fun _ hk => hk.2) (.string t237)) (fun _ hk => trivial), lb1_ HB.out GE240.out⟩
      ·
       rw [if_neg c8] at H
       exact absurd H (by simp)
     ·
      rw [if_neg c7] at H
      exact absurd H (by simp)
    ·
     rw [if_neg c6] at H
     exact absurd H (by simp)
   ·
    rw [if_neg c5] at H
    exact absurd H (by simp)
end Go.Proofs.YtdpinnhgkocjhaaDoor.Pr

namespace Go.Proofs.YtdpinnhgkocjhaaDoor.Pr
open Go.RowKit Go.Proofs.YtdpinnhgkocjhaaDoorW.PrintWords Go.Proofs.YtdpinnhgkocjhaaDoorW.PrintLast Go.Proofs.YtdpinnhgkocjhaaDoorW.PrintMore
attribute [local go_sem] max2_int min2_int max_two min_two max_three min_three max_four min_four   -- for this text's walks alone
set_option linter.unusedVariables false
set_option linter.unusedSimpArgs false
def slices_Index_int_int.l0 : Nat → List Int → Int → Int → Int → Option (Int)
 | 0, _, _, _, _ => none
 | k + 1, x0, x1, x7, x8 => if x8 < x7 then (if 0 ≤ x8 then (if x8 < (x0.length : Int) then (if x1 = (rd x0 x8) then (some x8) else (slices_Index_int_int.l0 k x0 x1 x7 (wrap64 (x8 + 1)))) else (none)) else (none)) else (some (-1))
def slices_Index_int_int.f (k : Nat) (l0 : List Int) (a1 : Int) : Option (Int) := slices_Index_int_int.l0 k l0 a1 (l0.length : Int) 0
set_option maxHeartbeats 8000000 in
set_option maxRecDepth 100000 in
theorem slices_Index_int_int.calls (k : Nat) (A0 : Option Addr) (c0 : Nat) (l0 : List Int) (a1 : Int) (r : Int) (w : World) (hr0 : Kd.C (Kd.int .i64) w A0 l0.length l0) (hc0 : l0.length ≤ c0) (h : slices_Index_int_int.f k l0 a1 = some r) :
  Calls Tryd.prog 82 #[.slice A0 l0.length c0, .int .i64 a1] w fun e w' => e = .returned (.int .i64 r) ∧ Drawn0 w w' := by
 have HR0 := Aside0.mk hr0
 have HC0 := Aside0.mk hc0
 clear hr0 hc0
 have H : (slices_Index_int_int.l0 k l0 a1 (l0.length : Int) 0) = some r := h
 clear h
 have H' := Aside0.mk H
 clear H
 go_enter Tryd.func82, Tryd.ntmps82
 go_wp2
 go_loopg [8] k (fun kq v8 w' => ∃ (x8_1 : Int), v8 = .int .i64 x8_1 ∧ Aside0 (slices_Index_int_int.l0 kq l0 a1 (l0.length : Int) x8_1 = some r) ∧ Aside0 (kq ≤ k) ∧ Drawn0 w w')
 case atStart => exact ⟨(0), (by first | rfl | (simp; done) | (simp [*]; done)), H', ⟨Nat.le_refl _⟩, by repeat (first | exact Drawn0.refl _ | apply Drawn0.step)⟩
 case round =>
  clear H'
  try clear p2
  obtain ⟨x8_1, rfl, HA, HK1, ⟨m1, rfl⟩⟩ := hrel
  cases gk with
  | zero => exact absurd HA.out (by simp [slices_Index_int_int.l0])
  | succ k1 =>
   have H := HA.out
   clear HA
   simp only [slices_Index_int_int.l0] at H
   by_cases c3 : x8_1 < (l0.length : Int)
   ·
    rw [if_pos c3] at H
    have c3b0 : decide (x8_1 < (l0.length : Int)) = true := decide_eq_true c3
    clear c3
    by_cases c4 : 0 ≤ x8_1
    ·
     rw [if_pos c4] at H
     have c4b0 : decide (0 ≤ x8_1) = true := decide_eq_true c4
     clear c4
     by_cases c5 : x8_1 < (l0.length : Int)
     ·
      rw [if_pos c5] at H
      have c5b0 : decide (x8_1 < (l0.length : Int)) = true := decide_eq_true c5
      clear c5
      by_cases c6 : a1 = (rd l0 x8_1)
      ·
       rw [if_pos c6] at H
       have c6b0 : (a1 == (rd l0 x8_1)) = true := beq_iff_eq.mpr c6
       have c6b1 : (a1 != (rd l0 x8_1)) = false := bne_eq_false_iff_eq.mpr c6
       clear c6
       obtain rfl := Option.some.inj H
       have p285 : 0 ≤ (x8_1 : Int) := dt_
       have q285 : x8_1 < (l0.length : Int) := dt_
       obtain ⟨ad285, e285, hx285_0⟩ := Kd.at_int HR0.out x8_1 p285 q285
       cases e285
       replace p285 := eq_true p285
       replace q285 := eq_true q285
       go_wp2
       go_ret
       exact ⟨by first | rfl | (simp; done) | (simp [*]; done), by repeat (first | exact Drawn0.refl _ | apply Drawn0.step)⟩
      ·
       rw [if_neg c6] at H
       have c6b0 : (a1 == (rd l0 x8_1)) = false := beq_eq_false_iff_ne.mpr c6
       have c6b1 : (a1 != (rd l0 x8_1)) = true := bne_iff_ne.mpr c6
       have H' := Aside0.mk H
       clear H
       have p285 : 0 ≤ (x8_1 : Int) := dt_
       have q285 : x8_1 < (l0.length : Int) := dt_
       obtain ⟨ad285, e285, hx285_0⟩ := Kd.at_int HR0.out x8_1 p285 q285
       cases e285
       replace p285 := eq_true p285
       replace q285 := eq_true q285
       go_wp2
       go_roundg k1
       case measure => have := HK1.out; omega
       case rel => exact ⟨(wrap64 (x8_1 + 1)), (by first | rfl | (simp; done) | (simp [*]; done)), H', ⟨by have := HK1.out; omega⟩, by repeat (first | exact Drawn0.refl _ | apply Drawn0.step)⟩
     ·
      rw [if_neg c5] at H
      exact absurd H (by simp)
    ·
     rw [if_neg c4] at H
     exact absurd H (by simp)
   ·
    rw [if_neg c3] at H
    have c3b0 : decide (x8_1 < (l0.length : Int)) = false := decide_eq_false c3
    clear c3
    obtain rfl := Option.some.inj H
    go_wp2
    go_ret
    exact ⟨by first | rfl | (simp; done) | (simp [*]; done), by repeat (first | exact Drawn0.refl _ | apply Drawn0.step)⟩
def slices_Contains_int_int.f (k : Nat) (l0 : List Int) (a1 : Int) : Option (Bool) := (slices_Index_int_int.f k l0 a1).bind fun t286 => (some (decide (t286 ≥ 0)))
set_option maxHeartbeats 8000000 in
set_option maxRecDepth 100000 in
theorem slices_Contains_int_int.calls (k : Nat) (A0 : Option Addr) (c0 : Nat) (l0 : List Int) (a1 : Int) (r : Bool) (w : World) (hr0 : Kd.C (Kd.int .i64) w A0 l0.length l0) (hc0 : l0.length ≤ c0) (h : slices_Contains_int_int.f k l0 a1 = some r) :
  Calls Tryd.prog 78 #[.slice A0 l0.length c0, .int .i64 a1] w fun e w' => e = .returned (.bool r) ∧ Drawn0 w w' := by
 have HR0 := Aside0.mk hr0
 have HC0 := Aside0.mk hc0
 clear hr0 hc0
 have H : ((slices_Index_int_int.f k l0 a1).bind fun t286 => (some (decide (t286 ≥ 0)))) = some r := h
 clear h
 replace H := Option.bind_eq_some_iff.mp H
 obtain ⟨t286, A30, H⟩ := H
 replace H : (some (decide (t286 ≥ 0))) = some r := H
 have A3 := Aside0.mk A30
 clear A30
 obtain rfl := Option.some.inj H
 go_enter Tryd.func78, Tryd.ntmps78
 go_wp2_with (first | ((with_reducible refine gate_callee (f := 82) rfl ?_); refine ga_ (some 7) Tryd.func82 #[.slice A0 l0.length c0, .int .i64 a1] ?_; (with_reducible refine (slices_Index_int_int.calls k _ _ l0 a1 t286 _ ?side1 ?side2 A3.out).mono ?_); (case side1 => exact kc_ HR0.out); (case side2 => exact HC0.out); rintro e w' ⟨rfl, ⟨nd, rfl⟩⟩; refine ⟨_, rfl, ?_⟩))
 go_ret
 exact ⟨by first | rfl | (simp; done) | (simp [*]; done), by repeat (first | exact Drawn0.refl _ | apply Drawn0.step)⟩
def impl_has.f (k : Nat) (l0 : List Int) (a1 : Int) : Option (Bool) := (slices_Contains_int_int.f k l0 a1).bind fun t287 => (some t287)
set_option maxHeartbeats 8000000 in
set_option maxRecDepth 100000 in
theorem impl_has.calls (k : Nat) (A0 : Option Addr) (c0 : Nat) (l0 : List Int) (a1 : Int) (r : Bool) (w : World) (hr0 : Kd.C (Kd.int .i64) w A0 l0.length l0) (hc0 : l0.length ≤ c0) (h : impl_has.f k l0 a1 = some r) :
  Calls Tryd.prog 71 #[.slice A0 l0.length c0, .int .i64 a1] w fun e w' => e = .returned (.bool r) ∧ Drawn0 w w' := by
 have HR0 := Aside0.mk hr0
 have HC0 := Aside0.mk hc0
 clear hr0 hc0
 have H : ((slices_Contains_int_int.f k l0 a1).bind fun t287 => (some t287)) = some r := h
 clear h
 replace H := Option.bind_eq_some_iff.mp H
 obtain ⟨t287, A30, H⟩ := H
 replace H : (some t287) = some r := H
 have A3 := Aside0.mk A30
 clear A30
 obtain rfl := Option.some.inj H
 go_enter Tryd.func71, Tryd.ntmps71
 go_wp2_with (first | ((with_reducible refine gate_callee (f := 78) rfl ?_); refine ga_ (some 7) Tryd.func78 #[.slice A0 l0.length c0, .int .i64 a1] ?_; (with_reducible refine (slices_Contains_int_int.calls k _ _ l0 a1 t287 _ ?side1 ?side2 A3.out).mono ?_); (case side1 => exact kc_ HR0.out); (case side2 => exact HC0.out); rintro e w' ⟨rfl, ⟨nd, rfl⟩⟩; refine ⟨_, rfl, ?_⟩))
 go_ret
 exact ⟨by first | rfl | (simp; done) | (simp [*]; done), by repeat (first | exact Drawn0.refl _ | apply Drawn0.step)⟩
end Go.Proofs.YtdpinnhgkocjhaaDoor.Pr

namespace Go.Proofs.YtdpinnhgkocjhaaDoor.Pr
open Go.RowKit Go.Proofs.YtdpinnhgkocjhaaDoorW.PrintWords Go.Proofs.YtdpinnhgkocjhaaDoorW.PrintLast Go.Proofs.YtdpinnhgkocjhaaDoorW.PrintMore
attribute [local go_sem] max2_int min2_int max_two min_two max_three min_three max_four min_four sc_in sx_in   -- for this text's walks alone
set_option linter.unusedVariables false
set_option linter.unusedSimpArgs false
def impl_records.f (k : Nat) (a0_0 : ByteArray) (a0_1 : ByteArray) (a0_2 : Int) : Option ((List (S27)) × Bool) := if a0_0.size + a0_1.size ≤ 9223372036854775807 then ((impl_readRecords.f k (sc a0_0 a0_1)).bind fun bt289 => (if 0 ≤ (wrap64 ((bt289.2.length : Int) - 1)) then (if (wrap64 ((bt289.2.length : Int) - 1)) < (bt289.2.length : Int) then (if (rd bt289.2 (wrap64 ((bt289.2.length : Int) - 1))) = ((sc a0_0 a0_1).size : Int) then ((impl_has.f k bt289.2 (a0_0.size : Int)).bind fun t296 => (if t296 = true then (if a0_2 = (bt289.1.length : Int) then (some (bt289.1, true)) else (some (([] : List (S27)), false))) else (some (([] : List (S27)), false)))) else (some (([] : List (S27)), false))) else (none)) else (none))) else (none)
set_option maxHeartbeats 8000000 in
set_option maxRecDepth 100000 in
theorem impl_records.calls (k : Nat) (a0_0 : ByteArray) (a0_1 : ByteArray) (a0_2 : Int) (r1 : List (S27)) (r2 : Bool) (w : World) (h : impl_records.f k a0_0 a0_1 a0_2 = some (r1, r2)) (hT : Tb w) :
  Calls Tryd.prog 50 #[.agg #[.string a0_0, .string a0_1, .int .i64 a0_2]] w fun e w' => ∃ v0_ : Value, e = .returned (.tuple #[v0_, .bool r2]) ∧ Kd.R k27 27 w' w.heap.size (fun _ => True) v0_ r1 ∧ Below w.heap.size w w' := by
 have HT := Aside0.mk hT
 clear hT
 have hu31 := Tryd.underlying31
 have HB := Aside0.mk (Below.refl w.heap.size w)
 have H : (if a0_0.size + a0_1.size ≤ 9223372036854775807 then ((impl_readRecords.f k (sc a0_0 a0_1)).bind fun bt289 => (if 0 ≤ (wrap64 ((bt289.2.length : Int) - 1)) then (if (wrap64 ((bt289.2.length : Int) - 1)) < (bt289.2.length : Int) then (if (rd bt289.2 (wrap64 ((bt289.2.length : Int) - 1))) = ((sc a0_0 a0_1).size : Int) then ((impl_has.f k bt289.2 (a0_0.size : Int)).bind fun t296 => (if t296 = true then (if a0_2 = (bt289.1.length : Int) then (some (bt289.1, true)) else (some (([] : List (S27)), false))) else (some (([] : List (S27)), false)))) else (some (([] : List (S27)), false))) else (none)) else (none))) else (none)) = some (r1, r2) := h
 clear h
 by_cases c2 : a0_0.size + a0_1.size ≤ 9223372036854775807
 ·
  rw [if_pos c2] at H
  have c2b0 := eq_true c2
  have c2b1 : decide (a0_0.size + a0_1.size ≤ 9223372036854775807) = true := decide_eq_true c2
  try have c2b2 : (9223372036854775807 < a0_0.size + a0_1.size) = False := eq_false (Nat.not_lt.2 c2)
  replace H := Option.bind_eq_some_iff.mp H
  obtain ⟨⟨t289, t290⟩, A30, H⟩ := H
  replace H : (if 0 ≤ (wrap64 ((t290.length : Int) - 1)) then (if (wrap64 ((t290.length : Int) - 1)) < (t290.length : Int) then (if (rd t290 (wrap64 ((t290.length : Int) - 1))) = ((sc a0_0 a0_1).size : Int) then ((impl_has.f k t290 (a0_0.size : Int)).bind fun t296 => (if t296 = true then (if a0_2 = (t289.length : Int) then (some (t289, true)) else (some (([] : List (S27)), false))) else (some (([] : List (S27)), false)))) else (some (([] : List (S27)), false))) else (none)) else (none)) = some (r1, r2) := H
  have A3 := Aside0.mk A30
  clear A30
  obtain ⟨ji4, hji4⟩ : ∃ j_ : Int, (wrap64 ((t290.length : Int) - 1)) = j_ := ⟨_, rfl⟩
  replace H : (if 0 ≤ (ji4) then (if (ji4) < (t290.length : Int) then (if (rd t290 (ji4)) = ((sc a0_0 a0_1).size : Int) then ((impl_has.f k t290 (a0_0.size : Int)).bind fun t296 => (if t296 = true then (if a0_2 = (t289.length : Int) then (some (t289, true)) else (some (([] : List (S27)), false))) else (some (([] : List (S27)), false)))) else (some (([] : List (S27)), false))) else (none)) else (none)) = some (r1, r2) := by first | (rw [hji4] at H; exact H) | (simp only [hji4] at H ⊢; exact H)
  (try rw [hji4] at A3)
  have hji4w : (IntKind.i64.wrap ((t290.length : Int) - 1)) = ji4 := (i64_w _).trans hji4
  by_cases c5 : 0 ≤ (ji4)
  ·
   rw [if_pos c5] at H
   have c5b0 : decide (0 ≤ (ji4)) = true := decide_eq_true c5
   clear c5
   by_cases c6 : (ji4) < (t290.length : Int)
   ·
    rw [if_pos c6] at H
    have c6b0 : decide ((ji4) < (t290.length : Int)) = true := decide_eq_true c6
    clear c6
    by_cases c7 : (rd t290 (ji4)) = ((sc a0_0 a0_1).size : Int)
    ·
     rw [if_pos c7] at H
     have c7b0 : ((rd t290 (ji4)) == ((sc a0_0 a0_1).size : Int)) = true := beq_iff_eq.mpr c7
     have c7b1 : ((rd t290 (ji4)) != ((sc a0_0 a0_1).size : Int)) = false := bne_eq_false_iff_eq.mpr c7
     clear c7
     replace H := Option.bind_eq_some_iff.mp H
     obtain ⟨t296, A80, H⟩ := H
     replace H : (if t296 = true then (if a0_2 = (t289.length : Int) then (some (t289, true)) else (some (([] : List (S27)), false))) else (some (([] : List (S27)), false))) = some (r1, r2) := H
     have A8 := Aside0.mk A80
     clear A80
     by_cases c9 : t296 = true
     ·
      subst c9
      have H1 : (if a0_2 = (t289.length : Int) then (some (t289, true)) else (some (([] : List (S27)), false))) = some (r1, r2) := by rw [if_pos rfl] at H; exact H
      clear H
      have H := H1
      clear H1
      by_cases c10 : a0_2 = (t289.length : Int)
      ·
       rw [if_pos c10] at H
       have c10b0 : (a0_2 == (t289.length : Int)) = true := beq_iff_eq.mpr c10
       have c10b1 : (a0_2 != (t289.length : Int)) = false := bne_eq_false_iff_eq.mpr c10
       clear c10
       simp only [Option.some.injEq, Prod.mk.injEq] at H
       obtain ⟨rfl, rfl⟩ := H
       go_enter Tryd.func50, Tryd.ntmps50
       go_wp2_with (first | ((with_reducible refine gate_dst (N := 1) rfl ?_); (try (refine gate_guard (by rfl) ?_; dsimp only)); refine box_event ?hg (N := 1) ?hd (cs := #[.string a0_0, .string a0_1, .int .i64 a0_2]) (t := 31) ?hr ?_; (case hd => rfl); (case hg => rfl); (case hr => first | (go_simp; done) | (go_simp; rfl)); intro gb288 hg w11 hbox hb; have BK288 := Aside0.mk (hbox); have GW288 := Aside0.mk ((bz_ hg (lb0_ HB.out))); have GE288 := Aside0.mk ((bz_ hg (lb0_ HB.out))); replace HB := Aside0.mk (below_step (lb0_ HB.out) hb); clear hb hbox hg; obtain ⟨hcz12_0, hcz12_1, hcz12_2⟩ := cz3_ BK288.out; obtain ⟨hfz12_0, hfz12_1, hfz12_2⟩ := fz3_ BK288.out) | ((with_reducible refine gate_callee (f := 48) rfl ?_); refine ga_ (some 14) Tryd.func48 #[.string (sc a0_0 a0_1)] ?_; (with_reducible refine (impl_readRecords.calls k (sc a0_0 a0_1) t289 t290 _ A3.out ?sideT).mono ?_); (case sideT => first | exact HT.out | exact Tb.step HT.out HB.out | exact Tb.step HT.out (by repeat (first | (with_reducible first | exact HB.out | apply below_alloc | apply pw_below_drewN | apply below_drew1 | refine below_set ?_ GE288.out) | exact HB.out | exact Below.refl _ _))); rintro e w13 ⟨v291, v293, rfl, ho0, ho1, hb⟩; refine ⟨_, rfl, ?_⟩; have HO292 := Aside0.mk (Kd.R_lower ho0 (below_size (lb1_ HB.out GE288.out))); have HO294 := Aside0.mk (Kd.R_lower ho1 (below_size (lb1_ HB.out GE288.out))); replace BK288 := Aside0.mk (bb_ (bk_ BK288.out) hb); replace HB := Aside0.mk (below_step (lb1_ HB.out GE288.out) hb); (try clear hb); (try clear hb2); (try clear hk); (try clear hi); (try clear ho0); (try clear ho1); obtain ⟨Ao14, co14, eo14⟩ := Kd.R_slice HO294.out; subst eo14; have p295 : 0 ≤ ((ji4) : Int) := dt_; have q295 : (ji4) < (t290.length : Int) := dt_; obtain ⟨ad295, e295, hx295_0⟩ := Kd.at_int (Kd.R_reads' HO294.out).2.2 (ji4) p295 q295; cases e295; replace p295 := eq_true p295; replace q295 := eq_true q295; obtain ⟨hcz15_0, hcz15_1, hcz15_2⟩ := cz3_ BK288.out; obtain ⟨hfz15_0, hfz15_1, hfz15_2⟩ := fz3_ BK288.out) | (go_at_call 71; (with_reducible refine (impl_has.calls k _ _ t290 (a0_0.size : Int) true _ ?side1 ?side2 A8.out).mono ?_); (case side1 => exact kc_ (Kd.R_reads' HO294.out).2.2); (case side2 => exact (Kd.R_reads' HO294.out).2.1); rintro e w' ⟨rfl, ⟨nd, rfl⟩⟩; obtain ⟨Ao16, co16, eo16⟩ := Kd.R_slice HO292.out; subst eo16))
       go_ret2
       exact ⟨_, by first | rfl | (simp [errW_none, errW_some] <;> rfl) | (simp only [← hji4]; first | rfl | (simp [errW_none, errW_some] <;> rfl)) | (simp [*, errW_none, errW_some] <;> rfl), kr_ HO292.out, lb1_ HB.out GE288.out⟩
      ·
       rw [if_neg c10] at H
       have c10b0 : (a0_2 == (t289.length : Int)) = false := beq_eq_false_iff_ne.mpr c10
       have c10b1 : (a0_2 != (t289.length : Int)) = true := bne_iff_ne.mpr c10
       simp only [Option.some.injEq, Prod.mk.injEq] at H
       obtain ⟨rfl, rfl⟩ := H
       go_enter Tryd.func50, Tryd.ntmps50
       go_wp2_with (first | ((with_reducible refine gate_dst (N := 1) rfl ?_); (try (refine gate_guard (by rfl) ?_; dsimp only)); refine box_event ?hg (N := 1) ?hd (cs := #[.string a0_0, .string a0_1, .int .i64 a0_2]) (t := 31) ?hr ?_; (case hd => rfl); (case hg => rfl); (case hr => first | (go_simp; done) | (go_simp; rfl)); intro gb288 hg w17 hbox hb; have BK288 := Aside0.mk (hbox); have GW288 := Aside0.mk ((bz_ hg (lb0_ HB.out))); have GE288 := Aside0.mk ((bz_ hg (lb0_ HB.out))); replace HB := Aside0.mk (below_step (lb0_ HB.out) hb); clear hb hbox hg; obtain ⟨hcz18_0, hcz18_1, hcz18_2⟩ := cz3_ BK288.out; obtain ⟨hfz18_0, hfz18_1, hfz18_2⟩ := fz3_ BK288.out) | ((with_reducible refine gate_callee (f := 48) rfl ?_); refine ga_ (some 14) Tryd.func48 #[.string (sc a0_0 a0_1)] ?_; (with_reducible refine (impl_readRecords.calls k (sc a0_0 a0_1) t289 t290 _ A3.out ?sideT).mono ?_); (case sideT => first | exact HT.out | exact Tb.step HT.out HB.out | exact Tb.step HT.out (by repeat (first | (with_reducible first | exact HB.out | apply below_alloc | apply pw_below_drewN | apply below_drew1 | refine below_set ?_ GE288.out) | exact HB.out | exact Below.refl _ _))); rintro e w19 ⟨v291, v293, rfl, ho0, ho1, hb⟩; refine ⟨_, rfl, ?_⟩; have HO292 := Aside0.mk (Kd.R_lower ho0 (below_size (lb1_ HB.out GE288.out))); have HO294 := Aside0.mk (Kd.R_lower ho1 (below_size (lb1_ HB.out GE288.out))); replace BK288 := Aside0.mk (bb_ (bk_ BK288.out) hb); replace HB := Aside0.mk (below_step (lb1_ HB.out GE288.out) hb); (try clear hb); (try clear hb2); (try clear hk); (try clear hi); (try clear ho0); (try clear ho1); obtain ⟨Ao20, co20, eo20⟩ := Kd.R_slice HO294.out; subst eo20; have p295 : 0 ≤ ((ji4) : Int) := dt_; have q295 : (ji4) < (t290.length : Int) := dt_; obtain ⟨ad295, e295, hx295_0⟩ := Kd.at_int (Kd.R_reads' HO294.out).2.2 (ji4) p295 q295; cases e295; replace p295 := eq_true p295; replace q295 := eq_true q295; obtain ⟨hcz21_0, hcz21_1, hcz21_2⟩ := cz3_ BK288.out; obtain ⟨hfz21_0, hfz21_1, hfz21_2⟩ := fz3_ BK288.out) | (go_at_call 71; (with_reducible refine (impl_has.calls k _ _ t290 (a0_0.size : Int) true _ ?side1 ?side2 A8.out).mono ?_); (case side1 => exact kc_ (Kd.R_reads' HO294.out).2.2); (case side2 => exact (Kd.R_reads' HO294.out).2.1); rintro e w' ⟨rfl, ⟨nd, rfl⟩⟩; obtain ⟨Ao22, co22, eo22⟩ := Kd.R_slice HO292.out; subst eo22))
       go_ret2
       exact ⟨_, by first | rfl | (simp [errW_none, errW_some] <;> rfl) | (simp only [← hji4]; first | rfl | (simp [errW_none, errW_some] <;> rfl)) | (simp [*, errW_none, errW_some] <;> rfl), by first | exact Kd.R_nil _ _ _ _ _ | exact Kd.N_nil _ _ _ _ _ | exact Kd.V_nil _ _ _ _ _ | exact Kd.Q_nil _ _ _ _ _ | exact Kd.S_nil _ _ _ _ _, lb1_ HB.out GE288.out⟩
     ·
      replace c9 := Bool.eq_false_iff.mpr c9
      subst c9
      have H1 : (some (([] : List (S27)), false)) = some (r1, r2) := by rw [if_neg (show ¬ (false = true) by decide)] at H; exact H
      clear H
      have H := H1
      clear H1
      simp only [Option.some.injEq, Prod.mk.injEq] at H
      obtain ⟨rfl, rfl⟩ := H
      go_enter Tryd.func50, Tryd.ntmps50
      go_wp2_with (first | ((with_reducible refine gate_dst (N := 1) rfl ?_); (try (refine gate_guard (by rfl) ?_; dsimp only)); refine box_event ?hg (N := 1) ?hd (cs := #[.string a0_0, .string a0_1, .int .i64 a0_2]) (t := 31) ?hr ?_; (case hd => rfl); (case hg => rfl); (case hr => first | (go_simp; done) | (go_simp; rfl)); intro gb288 hg w23 hbox hb; have BK288 := Aside0.mk (hbox); have GW288 := Aside0.mk ((bz_ hg (lb0_ HB.out))); have GE288 := Aside0.mk ((bz_ hg (lb0_ HB.out))); replace HB := Aside0.mk (below_step (lb0_ HB.out) hb); clear hb hbox hg; obtain ⟨hcz24_0, hcz24_1, hcz24_2⟩ := cz3_ BK288.out; obtain ⟨hfz24_0, hfz24_1, hfz24_2⟩ := fz3_ BK288.out) | ((with_reducible refine gate_callee (f := 48) rfl ?_); refine ga_ (some 14) Tryd.func48 #[.string (sc a0_0 a0_1)] ?_; (with_reducible refine (impl_readRecords.calls k (sc a0_0 a0_1) t289 t290 _ A3.out ?sideT).mono ?_); (case sideT => first | exact HT.out | exact Tb.step HT.out HB.out | exact Tb.step HT.out (by repeat (first | (with_reducible first | exact HB.out | apply below_alloc | apply pw_below_drewN | apply below_drew1 | refine below_set ?_ GE288.out) | exact HB.out | exact Below.refl _ _))); rintro e w25 ⟨v291, v293, rfl, ho0, ho1, hb⟩; refine ⟨_, rfl, ?_⟩; have HO292 := Aside0.mk (Kd.R_lower ho0 (below_size (lb1_ HB.out GE288.out))); have HO294 := Aside0.mk (Kd.R_lower ho1 (below_size (lb1_ HB.out GE288.out))); replace BK288 := Aside0.mk (bb_ (bk_ BK288.out) hb); replace HB := Aside0.mk (below_step (lb1_ HB.out GE288.out) hb); (try clear hb); (try clear hb2); (try clear hk); (try clear hi); (try clear ho0); (try clear ho1); obtain ⟨Ao26, co26, eo26⟩ := Kd.R_slice HO294.out; subst eo26; have p295 : 0 ≤ ((ji4) : Int) := dt_; have q295 : (ji4) < (t290.length : Int) := dt_; obtain ⟨ad295, e295, hx295_0⟩ := Kd.at_int (Kd.R_reads' HO294.out).2.2 (ji4) p295 q295; cases e295; replace p295 := eq_true p295; replace q295 := eq_true q295; obtain ⟨hcz27_0, hcz27_1, hcz27_2⟩ := cz3_ BK288.out; obtain ⟨hfz27_0, hfz27_1, hfz27_2⟩ := fz3_ BK288.out) | (go_at_call 71; (with_reducible refine (impl_has.calls k _ _ t290 (a0_0.size : Int) false _ ?side1 ?side2 A8.out).mono ?_); (case side1 => exact kc_ (Kd.R_reads' HO294.out).2.2); (case side2 => exact (Kd.R_reads' HO294.out).2.1); rintro e w' ⟨rfl, ⟨nd, rfl⟩⟩))
      go_ret2
      exact ⟨_, by first | rfl | (simp [errW_none, errW_some] <;> rfl) | (simp only [← hji4]; first | rfl | (simp [errW_none, errW_some] <;> rfl)) | (simp [*, errW_none, errW_some] <;> rfl), by first | exact Kd.R_nil _ _ _ _ _ | exact Kd.N_nil _ _ _ _ _ | exact Kd.V_nil _ _ _ _ _ | exact Kd.Q_nil _ _ _ _ _ | exact Kd.S_nil _ _ _ _ _, lb1_ HB.out GE288.out⟩
    ·
     rw [if_neg c7] at H
     have c7b0 : ((rd t290 (ji4)) == ((sc a0_0 a0_1).size : Int)) = false := beq_eq_false_iff_ne.mpr c7
     have c7b1 : ((rd t290 (ji4)) != ((sc a0_0 a0_1).size : Int)) = true := bne_iff_ne.mpr c7
     simp only [Option.some.injEq, Prod.mk.injEq] at H
     obtain ⟨rfl, rfl⟩ := H
     go_enter Tryd.func50, Tryd.ntmps50
     go_wp2_with (first | ((with_reducible refine gate_dst (N := 1) rfl ?_); (try (refine gate_guard (by rfl) ?_; dsimp only)); refine box_event ?hg (N := 1) ?hd (cs := #[.string a0_0, .string a0_1, .int .i64 a0_2]) (t := 31) ?hr ?_; (case hd => rfl); (case hg => rfl); (case hr => first | (go_simp; done) | (go_simp; rfl)); intro gb288 hg w28 hbox hb; have BK288 := Aside0.mk (hbox); have GW288 := Aside0.mk ((bz_ hg (lb0_ HB.out))); have GE288 := Aside0.mk ((bz_ hg (lb0_ HB.out))); replace HB := Aside0.mk (below_step (lb0_ HB.out) hb); clear hb hbox hg; obtain ⟨hcz29_0, hcz29_1, hcz29_2⟩ := cz3_ BK288.out; obtain ⟨hfz29_0, hfz29_1, hfz29_2⟩ := fz3_ BK288.out) | ((with_reducible refine gate_callee (f := 48) rfl ?_); refine ga_ (some 14) Tryd.func48 #[.string (sc a0_0 a0_1)] ?_; (with_reducible refine (impl_readRecords.calls k (sc a0_0 a0_1) t289 t290 _ A3.out ?sideT).mono ?_); (case sideT => first | exact HT.out | exact Tb.step HT.out HB.out | exact Tb.step HT.out (by repeat (first | (with_reducible first | exact HB.out | apply below_alloc | apply pw_below_drewN | apply below_drew1 | refine below_set ?_ GE288.out) | exact HB.out | exact Below.refl _ _))); rintro e w30 ⟨v291, v293, rfl, ho0, ho1, hb⟩; refine ⟨_, rfl, ?_⟩; have HO292 := Aside0.mk (Kd.R_lower ho0 (below_size (lb1_ HB.out GE288.out))); have HO294 := Aside0.mk (Kd.R_lower ho1 (below_size (lb1_ HB.out GE288.out))); replace BK288 := Aside0.mk (bb_ (bk_ BK288.out) hb); replace HB := Aside0.mk (below_step (lb1_ HB.out GE288.out) hb); (try clear hb); (try clear hb2); (try clear hk); (try clear hi); (try clear ho0); (try clear ho1); obtain ⟨Ao31, co31, eo31⟩ := Kd.R_slice HO294.out; subst eo31; have p295 : 0 ≤ ((ji4) : Int) := dt_; have q295 : (ji4) < (t290.length : Int) := dt_; obtain ⟨ad295, e295, hx295_0⟩ := Kd.at_int (Kd.R_reads' HO294.out).2.2 (ji4) p295 q295; cases e295; replace p295 := eq_true p295; replace q295 := eq_true q295))
     go_ret2
     exact ⟨_, by first | rfl | (simp [errW_none, errW_some] <;> rfl) | (simp only [← hji4]; first | rfl | (simp [errW_none, errW_some] <;> rfl)) | (simp [*, errW_none, errW_some] <;> rfl), by first | exact Kd.R_nil _ _ _ _ _ | exact Kd.N_nil _ _ _ _ _ | exact Kd.V_nil _ _ _ _ _ | exact Kd.Q_nil _ _ _ _ _ | exact Kd.S_nil _ _ _ _ _, lb1_ HB.out GE288.out⟩
   ·
    rw [if_neg c6] at H
    exact absurd H (by simp)
  ·
   rw [if_neg c5] at H
   exact absurd H (by simp)
 ·
  rw [if_neg c2] at H
  exact absurd H (by simp)
end Go.Proofs.YtdpinnhgkocjhaaDoor.Pr

namespace Go.Proofs.YtdpinnhgkocjhaaDoor.Pr
open Go.RowKit Go.Proofs.YtdpinnhgkocjhaaDoorW.PrintWords Go.Proofs.YtdpinnhgkocjhaaDoorW.PrintLast Go.Proofs.YtdpinnhgkocjhaaDoorW.PrintMore
attribute [local go_sem] max2_int min2_int max_two min_two max_three min_three max_four min_four   -- for this text's walks alone
set_option linter.unusedVariables false
set_option linter.unusedSimpArgs false
def impl_IsValidLog.f (k : Nat) (a0_0 : ByteArray) (a0_1 : ByteArray) (a0_2 : Int) : Option (Bool) := (impl_records.f k a0_0 a0_1 a0_2).bind fun bt298 => (some bt298.2)
set_option maxHeartbeats 8000000 in
set_option maxRecDepth 100000 in
theorem impl_IsValidLog.calls (k : Nat) (a0_0 : ByteArray) (a0_1 : ByteArray) (a0_2 : Int) (r : Bool) (w : World) (h : impl_IsValidLog.f k a0_0 a0_1 a0_2 = some r) (hT : Tb w) :
  Calls Tryd.prog 23 #[.agg #[.string a0_0, .string a0_1, .int .i64 a0_2]] w fun e w' => e = .returned (.bool r) ∧ Below w.heap.size w w' := by
 have HT := Aside0.mk hT
 clear hT
 have hu31 := Tryd.underlying31
 have HB := Aside0.mk (Below.refl w.heap.size w)
 have H : ((impl_records.f k a0_0 a0_1 a0_2).bind fun bt298 => (some bt298.2)) = some r := h
 clear h
 replace H := Option.bind_eq_some_iff.mp H
 obtain ⟨⟨t298, t301⟩, A20, H⟩ := H
 replace H : (some t301) = some r := H
 have A2 := Aside0.mk A20
 clear A20
 obtain rfl := Option.some.inj H
 go_enter Tryd.func23, Tryd.ntmps23
 go_wp2_with (first | ((with_reducible refine gate_dst (N := 1) rfl ?_); refine box_event ?hg (N := 1) ?hd (cs := #[.string a0_0, .string a0_1, .int .i64 a0_2]) (t := 31) ?hr ?_; (case hd => rfl); (case hg => rfl); (case hr => first | (go_simp; done) | (go_simp; rfl)); intro gb297 hg w3 hbox hb; have BK297 := Aside0.mk (hbox); have GW297 := Aside0.mk ((bz_ hg (lb0_ HB.out))); have GE297 := Aside0.mk ((bz_ hg (lb0_ HB.out))); replace HB := Aside0.mk (below_step (lb0_ HB.out) hb); clear hb hbox hg; obtain ⟨hcz4_0, hcz4_1, hcz4_2⟩ := cz3_ BK297.out; obtain ⟨hfz4_0, hfz4_1, hfz4_2⟩ := fz3_ BK297.out) | ((with_reducible refine gate_callee (f := 50) rfl ?_); refine ga_ (some 7) Tryd.func50 #[.agg #[.string a0_0, .string a0_1, .int .i64 a0_2]] ?_; (with_reducible refine (impl_records.calls k a0_0 a0_1 a0_2 t298 t301 _ A2.out ?sideT).mono ?_); (case sideT => first | exact HT.out | exact Tb.step HT.out HB.out | exact Tb.step HT.out (by repeat (first | (with_reducible first | exact HB.out | apply below_alloc | apply pw_below_drewN | apply below_drew1 | refine below_set ?_ GE297.out) | exact HB.out | exact Below.refl _ _))); rintro e w5 ⟨v299, rfl, ho0, hb⟩; refine ⟨_, rfl, ?_⟩; have HO300 := Aside0.mk (Kd.R_lower ho0 (below_size (lb1_ HB.out GE297.out))); replace BK297 := Aside0.mk (bb_ (bk_ BK297.out) hb); replace HB := Aside0.mk (below_step (lb1_ HB.out GE297.out) hb); (try clear hb); (try clear hb2); (try clear hk); (try clear hi); (try clear ho0)))
 go_ret
 exact ⟨rr_, lb1_ HB.out GE297.out⟩
end Go.Proofs.YtdpinnhgkocjhaaDoor.Pr

namespace Go.Proofs.YtdpinnhgkocjhaaDoor.Pr
open Go.RowKit Go.Proofs.YtdpinnhgkocjhaaDoorW.PrintWords Go.Proofs.YtdpinnhgkocjhaaDoorW.PrintLast Go.Proofs.YtdpinnhgkocjhaaDoorW.PrintMore
attribute [local go_sem] max2_int min2_int max_two min_two max_three min_three max_four min_four sc_in sx_in   -- for this text's walks alone
set_option linter.unusedVariables false
set_option linter.unusedSimpArgs false
def impl_CrashLog.f (k : Nat) (a0_0 : ByteArray) (a0_1 : ByteArray) (a0_2 : Int) (a1 : Int) (a2 : Bool) : Option (ByteArray × Bool) :=
 (impl_IsValidLog.f k a0_0 a0_1 a0_2).bind fun t => if t = true then (if 0 ≤ a1 ∧ a1 ≤ (a0_1.size : Int) then (if a0_0.size + a0_1.size ≤ 1000000 then (if a2 = true ∧ 0 < a1 then some (⟨(flipL_ (sc a0_0 (sx a0_1 0 a1.toNat)).data.toList).toArray⟩, true) else some (sc a0_0 (sx a0_1 0 a1.toNat), true)) else none) else some (⟨#[]⟩, false)) else some (⟨#[]⟩, false)
set_option maxHeartbeats 4000000 in
set_option maxRecDepth 100000 in
theorem impl_CrashLog.calls (k : Nat) (a0_0 : ByteArray) (a0_1 : ByteArray) (a0_2 : Int) (a1 : Int) (a2 : Bool) (r1 : ByteArray) (r2 : Bool) (w : World) (h : impl_CrashLog.f k a0_0 a0_1 a0_2 a1 a2 = some (r1, r2)) (hT : Tb w) :
  Calls Tryd.prog 25 #[.agg #[.string a0_0, .string a0_1, .int .i64 a0_2], .int .i64 a1, .bool a2] w fun e w' => e = .returned (.tuple #[.string r1, .bool r2]) ∧ Below w.heap.size w w' := by
 unfold impl_CrashLog.f at h
 replace h := Option.bind_eq_some_iff.mp h
 obtain ⟨t, e1, h⟩ := h
 have E1 := Aside0.mk e1
 have HT := Aside0.mk hT
 have hB0 := below_alloc (Below.refl w.heap.size w) (.cells #[.string a0_0, .string a0_1, .int .i64 a0_2] 31)
 have HB0 := Aside0.mk hB0
 clear e1 hT hB0
 cases t with
 | false =>
  rw [if_neg (by decide)] at h
  simp only [Option.some.injEq, Prod.mk.injEq] at h
  obtain ⟨rfl, rfl⟩ := h
  go_enter Tryd.func25, Tryd.ntmps25
  go_wp2_with (first | (go_at_call 23; (with_reducible refine (impl_IsValidLog.calls k a0_0 a0_1 a0_2 false _ E1.out (HT.out.step HB0.out)).mono ?_); rintro e w1 ⟨rfl, hb⟩))
  go_ret2
  exact ⟨rfl, below_step HB0.out hb⟩
 | true =>
  rw [if_pos rfl] at h
  by_cases g : 0 ≤ a1 ∧ a1 ≤ (a0_1.size : Int)
  ·
   rw [if_pos g] at h
   have EW := Aside0.mk (show impl_within.f a1 0 (a0_1.size : Int) = some true from by unfold impl_within.f; rw [if_pos g.1, decide_eq_true g.2])
   by_cases z : a0_0.size + a0_1.size ≤ 1000000
   ·
    rw [if_pos z] at h
    obtain ⟨X, hX⟩ : ∃ X, X = sc a0_0 (sx a0_1 0 a1.toNat) := ⟨_, rfl⟩
    rw [← hX] at h
    have hXs : X.size ≤ 1000000 := by
     rw [hX]
     show (a0_0 ++ a0_1.extract 0 a1.toNat).size ≤ _
     rw [ByteArray.size_append, ByteArray.size_extract]
     omega
    have HX := Aside0.mk hX
    have q1 : decide (0 ≤ a1) = true := decide_eq_true g.1
    have q2 : decide (a1 ≤ (a0_1.size : Int)) = true := decide_eq_true g.2
    have g' := g
    by_cases y : a2 = true ∧ 0 < a1
    ·
     rw [if_pos y] at h
     simp only [Option.some.injEq, Prod.mk.injEq] at h
     obtain ⟨rfl, rfl⟩ := h
     clear hX
     go_enter Tryd.func25, Tryd.ntmps25
     go_upto_region 3 with (first | (go_at_call 23; (with_reducible refine (impl_IsValidLog.calls k a0_0 a0_1 a0_2 true _ E1.out (HT.out.step HB0.out)).mono ?_); rintro e w1 ⟨rfl, hb1⟩; have HBK := Aside0.mk (blk_below (blk_new w _) hb1); have HB := Aside0.mk (below_step HB0.out hb1); clear hb1; obtain ⟨c0, c1, c2⟩ := cz3_ HBK.out) | (go_at_call 45; (with_reducible refine (impl_within.calls a1 0 (a0_1.size : Int) true _ EW.out).mono ?_); rintro e w2 ⟨rfl, hd⟩; have hb2 : Below w1.heap.size w1 w2 := (by obtain ⟨n, rfl⟩ := hd; exact pw_below_drewN (Below.refl _ _) n); clear hd; replace HBK := Aside0.mk (blk_below HBK.out hb2); replace HB := Aside0.mk (below_step HB.out hb2); clear hb2 c0 c1 c2; obtain ⟨c0, c1, c2⟩ := cz3_ HBK.out))
     have hsx : (sx a0_1 0 a1.toNat).size ≤ a0_1.size := by
      show (a0_1.extract 0 a1.toNat).size ≤ _
      rw [ByteArray.size_extract]
      omega
     have hlim : (9223372036854775807 < a0_0.size + (sx a0_1 0 a1.toNat).size) = False := eq_false (by omega)
     go_still_tail 7, (by kernel_rfl)
     rw [← HX.out]
     generalize hW : ({ heap := w2.heap, tape := w2.tape, drawn := w2.drawn + 1, os := w2.os, output := w2.output } : World) = W
     have hBW : Below w.heap.size w W := by
      rw [← hW]
      exact HB.out.drew
     clear hW c0 c1 c2 HBK HB
     obtain ⟨gr, cap, w3, hcv, hc3, hf3, hg3, hB3, _, _⟩ := bytes_conv_ w W X hBW
     have hXl : X.data.toList.length = X.size := Array.length_toList
     have hX0 : 0 < X.size := by
      rw [HX.out]
      show 0 < (a0_0 ++ a0_1.extract 0 a1.toNat).size
      rw [ByteArray.size_append, ByteArray.size_extract]
      omega
     have hfl := hf3 (X.size - 1) (by omega)
     have hback := bytes_back_ _ gr cap X.size _ ((flip_len_ _).trans hXl) (flip_cells_ w3 gr X.data.toList (by omega) hc3)
     rw [hXl] at hback
     obtain ⟨b, hb⟩ : ∃ b, b = X.data.toList.getD (X.size - 1) 0 := ⟨_, rfl⟩
     have hlast : w3.cell? ⟨gr, X.size - 1, none⟩ = some (.int .u8 ((b.toNat : Nat) : Int)) := by
      rw [hc3 (X.size - 1) (by omega), hb, List.getD_eq_getElem?_getD, List.getElem?_eq_getElem (by omega)]
      rfl
     rw [← hb] at hback
     have hm : (255 - ((b.toNat : Nat) : Int)) % 256 = 255 - ((b.toNat : Nat) : Int) := by
      have := b.toNat_lt
      omega
     rw [← hm] at hback
     clear hc3 hf3 hm hb hXl
     go_wp2
     go_ret2
     exact ⟨rfl, below_set hB3 hg3⟩
    ·
     rw [if_neg y] at h
     simp only [Option.some.injEq, Prod.mk.injEq] at h
     obtain ⟨rfl, rfl⟩ := h
     have q3 : (if a2 = true then decide (0 < a1) else false) = false := by
      by_cases c : a2 = true
      ·
       rw [if_pos c]
       exact decide_eq_false (fun h => y ⟨c, h⟩)
      ·
       rw [if_neg c]
     clear hX
     go_enter Tryd.func25, Tryd.ntmps25
     go_upto_region 3 with (first | (go_at_call 23; (with_reducible refine (impl_IsValidLog.calls k a0_0 a0_1 a0_2 true _ E1.out (HT.out.step HB0.out)).mono ?_); rintro e w1 ⟨rfl, hb1⟩; have HBK := Aside0.mk (blk_below (blk_new w _) hb1); have HB := Aside0.mk (below_step HB0.out hb1); clear hb1; obtain ⟨c0, c1, c2⟩ := cz3_ HBK.out) | (go_at_call 45; (with_reducible refine (impl_within.calls a1 0 (a0_1.size : Int) true _ EW.out).mono ?_); rintro e w2 ⟨rfl, hd⟩; have hb2 : Below w1.heap.size w1 w2 := (by obtain ⟨n, rfl⟩ := hd; exact pw_below_drewN (Below.refl _ _) n); clear hd; replace HBK := Aside0.mk (blk_below HBK.out hb2); replace HB := Aside0.mk (below_step HB.out hb2); clear hb2 c0 c1 c2; obtain ⟨c0, c1, c2⟩ := cz3_ HBK.out))
     have hsx : (sx a0_1 0 a1.toNat).size ≤ a0_1.size := by
      show (a0_1.extract 0 a1.toNat).size ≤ _
      rw [ByteArray.size_extract]
      omega
     have hlim : (9223372036854775807 < a0_0.size + (sx a0_1 0 a1.toNat).size) = False := eq_false (by omega)
     go_still_tail 7, (by kernel_rfl)
     rw [← HX.out]
     generalize hW : ({ heap := w2.heap, tape := w2.tape, drawn := w2.drawn + 1, os := w2.os, output := w2.output } : World) = W
     have hBW : Below w.heap.size w W := by
      rw [← hW]
      exact HB.out.drew
     clear hW c0 c1 c2 HBK HB
     obtain ⟨gr, cap, w3, hcv, hc3, hf3, hg3, hB3, _, _⟩ := bytes_conv_ w W X hBW
     have hXl : X.data.toList.length = X.size := Array.length_toList
     have hback := bytes_back_ w3 gr cap X.size _ hXl hc3
     rw [show (⟨X.data.toList.toArray⟩ : ByteArray) = X from by rw [Array.toArray_toList]] at hback
     clear hc3 hf3 hXl
     cases a2 with
     | false =>
      go_wp2
      go_ret2
      exact ⟨rfl, hB3⟩
     | true =>
      have q4 : decide (0 < a1) = false := decide_eq_false (fun h => y ⟨rfl, h⟩)
      clear q3 y
      go_wp2
      go_ret2
      exact ⟨rfl, hB3⟩
   ·
    rw [if_neg z] at h
    cases h
  ·
   rw [if_neg g] at h
   simp only [Option.some.injEq, Prod.mk.injEq] at h
   obtain ⟨rfl, rfl⟩ := h
   have EW := Aside0.mk (show impl_within.f a1 0 (a0_1.size : Int) = some false from by
    unfold impl_within.f
    by_cases c : a1 ≥ 0
    ·
     rw [if_pos c, decide_eq_false (fun h => g ⟨c, h⟩)]
    ·
     rw [if_neg c])
   go_enter Tryd.func25, Tryd.ntmps25
   go_wp2_with (first | (go_at_call 23; (with_reducible refine (impl_IsValidLog.calls k a0_0 a0_1 a0_2 true _ E1.out (HT.out.step HB0.out)).mono ?_); rintro e w1 ⟨rfl, hb1⟩; have HBK := Aside0.mk (blk_below (blk_new w _) hb1); have HB := Aside0.mk (below_step HB0.out hb1); clear hb1; obtain ⟨c0, c1, c2⟩ := cz3_ HBK.out) | (go_at_call 45; (with_reducible refine (impl_within.calls a1 0 (a0_1.size : Int) false _ EW.out).mono ?_); rintro e w2 ⟨rfl, hd⟩; have hb2 : Below w1.heap.size w1 w2 := (by obtain ⟨n, rfl⟩ := hd; exact pw_below_drewN (Below.refl _ _) n)))
   go_ret2
   exact ⟨rfl, below_step HB.out hb2⟩
end Go.Proofs.YtdpinnhgkocjhaaDoor.Pr

namespace Go.Proofs.YtdpinnhgkocjhaaDoor.Pr
open Go.RowKit Go.Proofs.YtdpinnhgkocjhaaDoorW.PrintWords Go.Proofs.YtdpinnhgkocjhaaDoorW.PrintLast Go.Proofs.YtdpinnhgkocjhaaDoorW.PrintMore
attribute [local go_sem] max2_int min2_int max_two min_two max_three min_three max_four min_four   -- for this text's walks alone
set_option linter.unusedVariables false
set_option linter.unusedSimpArgs false
def laws_FnExactCrashLog.f (k : Nat) (a0_0 : ByteArray) (a0_1 : ByteArray) (a0_2 : Int) (a1 : Int) (a2 : Bool) : Option (Bool) := (laws_szLog.f a0_0 a0_1 a0_2 1048576).bind fun t313 => (if t313 < 0 then (some true) else ((laws_toLog.f a0_0 a0_1 a0_2).bind fun bt314 => ((spec_CrashLog.f k bt314.1 bt314.2.1 bt314.2.2 a1 a2).bind fun bt317 => ((laws_toLog.f a0_0 a0_1 a0_2).bind fun bt319 => ((impl_CrashLog.f k bt319.1 bt319.2.1 bt319.2.2 a1 a2).bind fun bt322 => (if bt322.1.toList = bt317.1.toList then (if (bt322.2 != bt317.2) = true then (none) else (some true)) else (none)))))))
set_option maxHeartbeats 8000000 in
set_option maxRecDepth 100000 in
theorem laws_FnExactCrashLog.calls (k : Nat) (a0_0 : ByteArray) (a0_1 : ByteArray) (a0_2 : Int) (a1 : Int) (a2 : Bool) (r : Bool) (w : World) (h : laws_FnExactCrashLog.f k a0_0 a0_1 a0_2 a1 a2 = some r) (hT : Tb w) :
  Calls Tryd.prog 6 #[.agg #[.string a0_0, .string a0_1, .int .i64 a0_2], .int .i64 a1, .bool a2] w fun e w' => e = .returned (.bool r) ∧ Below w.heap.size w w' := by
 have HT := Aside0.mk hT
 clear hT
 have hu36 := Tryd.underlying36
 have HB := Aside0.mk (Below.refl w.heap.size w)
 have H : ((laws_szLog.f a0_0 a0_1 a0_2 1048576).bind fun t313 => (if t313 < 0 then (some true) else ((laws_toLog.f a0_0 a0_1 a0_2).bind fun bt314 => ((spec_CrashLog.f k bt314.1 bt314.2.1 bt314.2.2 a1 a2).bind fun bt317 => ((laws_toLog.f a0_0 a0_1 a0_2).bind fun bt319 => ((impl_CrashLog.f k bt319.1 bt319.2.1 bt319.2.2 a1 a2).bind fun bt322 => (if bt322.1.toList = bt317.1.toList then (if (bt322.2 != bt317.2) = true then (none) else (some true)) else (none)))))))) = some r := h
 clear h
 replace H := Option.bind_eq_some_iff.mp H
 obtain ⟨t313, A40, H⟩ := H
 replace H : (if t313 < 0 then (some true) else ((laws_toLog.f a0_0 a0_1 a0_2).bind fun bt314 => ((spec_CrashLog.f k bt314.1 bt314.2.1 bt314.2.2 a1 a2).bind fun bt317 => ((laws_toLog.f a0_0 a0_1 a0_2).bind fun bt319 => ((impl_CrashLog.f k bt319.1 bt319.2.1 bt319.2.2 a1 a2).bind fun bt322 => (if bt322.1.toList = bt317.1.toList then (if (bt322.2 != bt317.2) = true then (none) else (some true)) else (none))))))) = some r := H
 have A4 := Aside0.mk A40
 clear A40
 by_cases c5 : t313 < 0
 ·
  rw [if_pos c5] at H
  have c5b0 : decide (t313 < 0) = true := decide_eq_true c5
  clear c5
  obtain rfl := Option.some.inj H
  go_enter Tryd.func6, Tryd.ntmps6
  go_wp2_with (first | ((with_reducible refine gate_dst (N := 3) rfl ?_); refine box_event ?hg (N := 3) ?hd (cs := #[.string a0_0, .string a0_1, .int .i64 a0_2]) (t := 36) ?hr ?_; (case hd => rfl); (case hg => rfl); (case hr => first | (go_simp; done) | (go_simp; rfl)); intro gb312 hg w6 hbox hb; have BK312 := Aside0.mk (hbox); have GW312 := Aside0.mk ((bz_ hg (lb0_ HB.out))); have GE312 := Aside0.mk ((bz_ hg (lb0_ HB.out))); replace HB := Aside0.mk (below_step (lb0_ HB.out) hb); clear hb hbox hg; obtain ⟨hcz7_0, hcz7_1, hcz7_2⟩ := cz3_ BK312.out; obtain ⟨hfz7_0, hfz7_1, hfz7_2⟩ := fz3_ BK312.out) | ((with_reducible refine gate_callee (f := 20) rfl ?_); refine ga_ (some 14) Tryd.func20 #[.agg #[.string a0_0, .string a0_1, .int .i64 a0_2], .int .i64 1048576] ?_; (with_reducible refine (laws_szLog.calls a0_0 a0_1 a0_2 1048576 t313 _ A4.out).mono ?_); rintro e w8 ⟨rfl, hb⟩; refine ⟨_, rfl, ?_⟩; replace BK312 := Aside0.mk (bb_ (bk_ BK312.out) hb); replace HB := Aside0.mk (below_step (lb1_ HB.out GE312.out) hb); (try clear hb); (try clear hb2); (try clear hk); (try clear hi)))
  go_ret
  exact ⟨rr_, lb1_ HB.out GE312.out⟩
 ·
  rw [if_neg c5] at H
  have c5b0 : decide (t313 < 0) = false := decide_eq_false c5
  clear c5
  replace H := Option.bind_eq_some_iff.mp H
  obtain ⟨⟨t314, t315, t316⟩, A90, H⟩ := H
  replace H : ((spec_CrashLog.f k t314 t315 t316 a1 a2).bind fun bt317 => ((laws_toLog.f a0_0 a0_1 a0_2).bind fun bt319 => ((impl_CrashLog.f k bt319.1 bt319.2.1 bt319.2.2 a1 a2).bind fun bt322 => (if bt322.1.toList = bt317.1.toList then (if (bt322.2 != bt317.2) = true then (none) else (some true)) else (none))))) = some r := H
  have A9 := Aside0.mk A90
  clear A90
  replace H := Option.bind_eq_some_iff.mp H
  obtain ⟨⟨t317, t318⟩, A100, H⟩ := H
  replace H : ((laws_toLog.f a0_0 a0_1 a0_2).bind fun bt319 => ((impl_CrashLog.f k bt319.1 bt319.2.1 bt319.2.2 a1 a2).bind fun bt322 => (if bt322.1.toList = t317.toList then (if (bt322.2 != t318) = true then (none) else (some true)) else (none)))) = some r := H
  have A10 := Aside0.mk A100
  clear A100
  replace H := Option.bind_eq_some_iff.mp H
  obtain ⟨⟨t319, t320, t321⟩, A110, H⟩ := H
  replace H : ((impl_CrashLog.f k t319 t320 t321 a1 a2).bind fun bt322 => (if bt322.1.toList = t317.toList then (if (bt322.2 != t318) = true then (none) else (some true)) else (none))) = some r := H
  have A11 := Aside0.mk A110
  clear A110
  replace H := Option.bind_eq_some_iff.mp H
  obtain ⟨⟨t322, t323⟩, A120, H⟩ := H
  replace H : (if t322.toList = t317.toList then (if (t323 != t318) = true then (none) else (some true)) else (none)) = some r := H
  have A12 := Aside0.mk A120
  clear A120
  by_cases c13 : t322.toList = t317.toList
  ·
   rw [if_pos c13] at H
   have c13b0 : (t322.toList == t317.toList) = true := beq_iff_eq.mpr c13
   have c13b1 : (t322.toList != t317.toList) = false := bne_eq_false_iff_eq.mpr c13
   clear c13
   by_cases c14 : (t323 != t318) = true
   ·
    rw [if_pos c14] at H
    exact absurd H (by simp)
   ·
    rw [if_neg c14] at H
    have c14b0 : (t323 != t318) = false := by simpa using c14
    (try (have c14b1 : decide (t323 = t318) = true := by simpa using c14))
    (try (have c14b2 : (t323 == t318) = true := by simpa using c14))
    clear c14
    obtain rfl := Option.some.inj H
    go_enter Tryd.func6, Tryd.ntmps6
    go_wp2_with (first | ((with_reducible refine gate_dst (N := 3) rfl ?_); refine box_event ?hg (N := 3) ?hd (cs := #[.string a0_0, .string a0_1, .int .i64 a0_2]) (t := 36) ?hr ?_; (case hd => rfl); (case hg => rfl); (case hr => first | (go_simp; done) | (go_simp; rfl)); intro gb312 hg w15 hbox hb; have BK312 := Aside0.mk (hbox); have GW312 := Aside0.mk ((bz_ hg (lb0_ HB.out))); have GE312 := Aside0.mk ((bz_ hg (lb0_ HB.out))); replace HB := Aside0.mk (below_step (lb0_ HB.out) hb); clear hb hbox hg; obtain ⟨hcz16_0, hcz16_1, hcz16_2⟩ := cz3_ BK312.out; obtain ⟨hfz16_0, hfz16_1, hfz16_2⟩ := fz3_ BK312.out) | ((with_reducible refine gate_callee (f := 20) rfl ?_); refine ga_ (some 14) Tryd.func20 #[.agg #[.string a0_0, .string a0_1, .int .i64 a0_2], .int .i64 1048576] ?_; (with_reducible refine (laws_szLog.calls a0_0 a0_1 a0_2 1048576 t313 _ A4.out).mono ?_); rintro e w17 ⟨rfl, hb⟩; refine ⟨_, rfl, ?_⟩; replace BK312 := Aside0.mk (bb_ (bk_ BK312.out) hb); replace HB := Aside0.mk (below_step (lb1_ HB.out GE312.out) hb); (try clear hb); (try clear hb2); (try clear hk); (try clear hi); obtain ⟨hcz18_0, hcz18_1, hcz18_2⟩ := cz3_ BK312.out; obtain ⟨hfz18_0, hfz18_1, hfz18_2⟩ := fz3_ BK312.out) | ((with_reducible refine gate_callee (f := 22) rfl ?_); refine ga_ (some 19) Tryd.func22 #[.agg #[.string a0_0, .string a0_1, .int .i64 a0_2]] ?_; (with_reducible refine (laws_toLog.calls a0_0 a0_1 a0_2 t314 t315 t316 _ A9.out).mono ?_); rintro e w19 ⟨rfl, hb⟩; refine ⟨_, rfl, ?_⟩; replace BK312 := Aside0.mk (bb_ (bk_ BK312.out) hb); replace HB := Aside0.mk (below_step (lb1_ HB.out GE312.out) hb); (try clear hb); (try clear hb2); (try clear hk); (try clear hi)) | ((with_reducible refine gate_callee (f := 24) rfl ?_); refine ga_ (some 22) Tryd.func24 #[.agg #[.string t314, .string t315, .int .i64 t316], .int .i64 a1, .bool a2] ?_; (with_reducible refine (spec_CrashLog.calls k t314 t315 t316 a1 a2 t317 t318 _ A10.out).mono ?_); rintro e w20 ⟨rfl, hb⟩; refine ⟨_, rfl, ?_⟩; replace BK312 := Aside0.mk (bb_ (bk_ BK312.out) hb); replace HB := Aside0.mk (below_step (lb1_ HB.out GE312.out) hb); (try clear hb); (try clear hb2); (try clear hk); (try clear hi); obtain ⟨hcz21_0, hcz21_1, hcz21_2⟩ := cz3_ BK312.out; obtain ⟨hfz21_0, hfz21_1, hfz21_2⟩ := fz3_ BK312.out) | ((with_reducible refine gate_callee (f := 22) rfl ?_); refine ga_ (some 27) Tryd.func22 #[.agg #[.string a0_0, .string a0_1, .int .i64 a0_2]] ?_; (with_reducible refine (laws_toLog.calls a0_0 a0_1 a0_2 t319 t320 t321 _ A11.out).mono ?_); rintro e w22 ⟨rfl, hb⟩; refine ⟨_, rfl, ?_⟩; replace BK312 := Aside0.mk (bb_ (bk_ BK312.out) hb); replace HB := Aside0.mk (below_step (lb1_ HB.out GE312.out) hb); (try clear hb); (try clear hb2); (try clear hk); (try clear hi)) | ((with_reducible refine gate_callee (f := 25) rfl ?_); refine ga_ (some 30) Tryd.func25 #[.agg #[.string t319, .string t320, .int .i64 t321], .int .i64 a1, .bool a2] ?_; (with_reducible refine (impl_CrashLog.calls k t319 t320 t321 a1 a2 t322 t323 _ A12.out ?sideT).mono ?_); (case sideT => first | exact HT.out | exact Tb.step HT.out HB.out | exact Tb.step HT.out (by repeat (first | (with_reducible first | exact HB.out | apply below_alloc | apply pw_below_drewN | apply below_drew1 | refine below_set ?_ GE312.out) | exact HB.out | exact Below.refl _ _))); rintro e w23 ⟨rfl, hb⟩; refine ⟨_, rfl, ?_⟩; replace BK312 := Aside0.mk (bb_ (bk_ BK312.out) hb); replace HB := Aside0.mk (below_step (lb1_ HB.out GE312.out) hb); (try clear hb); (try clear hb2); (try clear hk); (try clear hi)))
    go_ret
    exact ⟨rr_, lb1_ HB.out GE312.out⟩
  ·
   rw [if_neg c13] at H
   exact absurd H (by simp)
end Go.Proofs.YtdpinnhgkocjhaaDoor.Pr

namespace Go.Proofs.YtdpinnhgkocjhaaDoorW.Opens
open Go.ChangeShapes Go.WideShapes Go.RowKit
open Go.Deep (open_slice choose_lt)
open Go.Proofs.YtdpinnhgkocjhaaDoorW.PrintWords
set_option linter.unusedVariables false
set_option linter.unusedSimpArgs false
def Opn {α : Type} (P : Program) (t : TypeId) (d : Kd α) (wf : α → Prop) : Prop :=
 P.cellsOf t = d.sz ∧ ∀ (H : Type) (enc : TypeId × Value → H) (W : World) (fuel : Nat) (cs : List Value) (x : DataW H × List MemPlace),
  DataW.trod enc P W 0 (fun _ => true) true fuel t cs = some x → (∀ n ∈ x.1.weights P t, n ≤ reachBytes) → ∃ y, d.K W y cs ∧ wf y
theorem Opn.int {P : Program} {t : TypeId} {k : IntKind} (hc : P.cellsOf t = 1) (ht : P.underlying t = some (.int k)) : Opn P t (Kd.int k) (fun n => (Lit.int k n).wf = true) :=
 ⟨hc, fun H enc W fuel cs x h _ => by
  obtain ⟨m, rfl, rfl, hw⟩ := DataW.trod_int ht h
  exact ⟨m, rfl, hw⟩⟩
theorem Opn.bool {P : Program} {t : TypeId} (hc : P.cellsOf t = 1) (ht : P.underlying t = some .bool) : Opn P t Kd.bool (fun _ => True) :=
 ⟨hc, fun H enc W fuel cs x h _ => by
  obtain ⟨m, rfl, rfl⟩ := DataW.trod_bool ht h
  exact ⟨m, rfl, trivial⟩⟩
theorem Opn.string {P : Program} {t : TypeId} (hc : P.cellsOf t = 1) (ht : P.underlying t = some .string) : Opn P t Kd.string (fun s => s.size ≤ 140737488351232) :=
 ⟨hc, fun H enc W fuel cs x h hw => by
  obtain ⟨m, rfl, rfl, hm⟩ := DataW.trod_string ht h
  have := hw m.data.toList.length (by simp [DataW.weights])
  rw [Array.length_toList] at this
  exact ⟨m, rfl, this⟩⟩
theorem weightsAll_mem {H : Type} {P : Program} {e : TypeId} : ∀ {l : List (DataW H)} {d : DataW H}, d ∈ l → ∀ n ∈ d.weights P e, n ∈ DataW.weightsAll P e l
 | _ :: r, d, h, n, hn => by
  simp only [DataW.weightsAll, List.mem_append]
  rcases List.mem_cons.1 h with rfl | h
  ·
   exact .inl hn
  ·
   exact .inr (weightsAll_mem h n hn)
theorem Opn.slice {α : Type} (z : α) {P : Program} {t e : TypeId} {d : Kd α} {wf : α → Prop} {B : Nat} (hc : P.cellsOf t = 1) (ht : P.underlying t = some (.slice e)) (hB : P.bytesOf e = B) (h : Opn P e d wf) :
  Opn P t (Kd.slice e d) (fun xs => xs.length ≤ maxLen ∧ xs.length * B ≤ 140737488351232 ∧ ∀ y ∈ xs, wf y) :=
 ⟨hc, fun H enc W fuel cs x hf hw => by
  haveI : Inhabited α := ⟨z⟩
  rcases open_slice ht hf with ⟨rfl, rfl⟩ | ⟨a, len, cap, m, n, D, Pl, rfl, _, hl, hm, hmm, rfl, each⟩
  ·
   exact ⟨[], ⟨none, 0, rfl, Nat.le_refl _, rfl, by simp, fun h => absurd h (Nat.lt_irrefl 0)⟩, by simp, by simp, by simp⟩
  ·
   rw [if_pos rfl] at hmm
   subst hmm
   have hw0 : ∀ n ∈ DataW.weights P t (DataW.slice (H := H) ((List.range len).map D) ((List.range (m - len)).map fun j => D (len + j))), n ≤ reachBytes := hw
   have hww : ∀ i, i < len → ∀ n ∈ (D i).weights P e, n ≤ reachBytes := by
    intro i hi n hn
    refine hw0 n ?_
    simp only [DataW.weights, ht, List.mem_cons, List.mem_append]
    exact .inr (.inl (weightsAll_mem (List.mem_map.2 ⟨i, List.mem_range.2 hi, rfl⟩) n hn))
   have hB2 : len * B ≤ 140737488351232 := by
    have := hw0 ((len + (m - len)) * B) (by simp [DataW.weights, ht, hB])
    refine Nat.le_trans (Nat.mul_le_mul_right _ (by omega)) this
   have hx : ∀ i, i < len → ∃ y, ∃ c : List Value, c.length = d.sz ∧ d.K W y c ∧ wf y ∧ ∀ j u, c[j]? = some u → W.cell? (a.add (i * d.sz + j)) = some u := by
    intro i hi
    obtain ⟨cs', h1, h2⟩ := each i (by omega)
    obtain ⟨y, hy, hwy⟩ := h.2 H enc W n cs' _ h2 (hww i hi)
    obtain ⟨_, hlen, hcell⟩ := World.cells?_some h1
    rw [h.1] at hlen hcell
    refine ⟨y, cs', hlen, hy, hwy, fun j u hu => ?_⟩
    have hj : j < d.sz := by
     have := (List.getElem?_eq_some_iff.1 hu).1
     omega
    have := hcell j hj
    rw [add_add] at this
    exact this.trans hu
   obtain ⟨f, hf'⟩ := choose_lt hx
   refine ⟨(List.range len).map f, ⟨some a, m, by simp, by simpa using hl, by simp, by simp only [maxLen] at hm; simp; omega, fun _ => ⟨a, rfl, fun j p hj => ?_⟩⟩, ?_, ?_, ?_⟩
   ·
    rw [List.getElem?_map] at hj
    have hj' : j < len := by
     by_cases hjl : j < len
     ·
      exact hjl
     ·
      rw [List.getElem?_eq_none (by simp; omega)] at hj
      cases hj
    rw [List.getElem?_range hj'] at hj
    obtain rfl := Option.some.inj hj
    obtain ⟨c, h1, h2, _, h3⟩ := hf' j hj'
    exact ⟨c, h1, h2, h3⟩
   ·
    simp; omega
   ·
    simpa using hB2
   ·
    intro y hy
    obtain ⟨i, hi, rfl⟩ := List.mem_map.1 hy
    obtain ⟨c, _, _, h2, _⟩ := hf' i (List.mem_range.1 hi)
    exact h2⟩
def FOpn {α : Type} (P : Program) (fs : List Field) (off : Nat) (d : Kd α) (wf : α → Prop) : Prop :=
 ∀ (H : Type) (enc : TypeId × Value → H) (W : World) (fuel : Nat) (cs : List Value) (xs : List (DataW H × List MemPlace)),
  xs.length = fs.length → (∀ (i : Nat) (f : Field), fs[i]? = some f → DataW.trod enc P W 0 (fun _ => true) true fuel f.type ((cs.drop f.offset).take (P.cellsOf f.type)) = xs[i]?) →
  (∀ n ∈ DataW.weightsEach P (fs.map (·.type)) (xs.map (·.1)), n ≤ reachBytes) → ∃ y, d.K W y ((cs.drop off).take d.sz) ∧ wf y
theorem FOpn.one {α : Type} {P : Program} {f : Field} {off : Nat} {d : Kd α} {wf : α → Prop} (ho : f.offset = off) (h : Opn P f.type d wf) : FOpn P [f] off d wf := by
 intro H enc W fuel cs xs hl hx hw
 match xs, hl with
 | [x], _ =>
  have h0 := hx 0 f rfl
  rw [ho, h.1] at h0
  exact h.2 H enc W fuel _ x h0 (fun n hn => hw n (by simp only [List.map, DataW.weightsEach, List.mem_append]; exact .inl hn))
theorem FOpn.cons {α β : Type} {P : Program} {f : Field} {fs : List Field} {off : Nat} {d : Kd α} {d' : Kd β} {wf : α → Prop} {wf' : β → Prop} (ho : f.offset = off) (h : Opn P f.type d wf) (h' : FOpn P fs (off + d.sz) d' wf') :
  FOpn P (f :: fs) off (Kd.pair d d') (fun x => wf x.1 ∧ wf' x.2) := by
 intro H enc W fuel cs xs hl hx hw
 match xs, hl with
 | x :: xs, hl =>
  have h0 := hx 0 f rfl
  rw [ho, h.1] at h0
  have hw' : ∀ n ∈ x.1.weights P f.type ++ DataW.weightsEach P (fs.map (·.type)) (xs.map (·.1)), n ≤ reachBytes := hw
  obtain ⟨y, hy, hwy⟩ := h.2 H enc W fuel _ x h0 (fun n hn => hw' n (List.mem_append_left _ hn))
  obtain ⟨y', hy', hwy'⟩ := h' H enc W fuel cs xs (by simpa using hl) (fun i f' hf' => hx (i + 1) f' (by simpa using hf')) (fun n hn => hw' n (List.mem_append_right _ hn))
  refine ⟨(y, y'), ⟨_, _, ?_, hy, hy'⟩, hwy, hwy'⟩
  show (cs.drop off).take (d.sz + d'.sz) = _
  rw [List.take_add, List.drop_drop]
theorem Opn.struct {α β : Type} {P : Program} {t : TypeId} {fs : Array Field} {d : Kd α} {wf : α → Prop} (f : β → α) (g : α → β) (hfg : ∀ x, f (g x) = x) (hc : P.cellsOf t = d.sz) (ht : P.underlying t = some (.struct fs)) (h : FOpn P fs.toList 0 d wf) :
  Opn P t (Kd.iso d f) (fun x => wf (f x)) :=
 ⟨hc, fun H enc W fuel cs x hf hw => by
  obtain ⟨xs, n, rfl, rfl, hl, hxs, each⟩ := DataW.trod_struct ht hf
  obtain ⟨y, hy, hwy⟩ := h H enc W n cs xs (by simpa using hxs) (fun i f' hf' => each i f' (by simpa using hf')) (fun n hn => hw n (by simp only [DataW.weights, ht]; exact hn))
  rw [List.drop_zero, List.take_of_length_le (by rw [hl, hc]; exact Nat.le_refl _)] at hy
  exact ⟨g y, (by rw [← hfg y] at hy; exact hy), (by rw [← hfg y] at hwy; exact hwy)⟩⟩
theorem par_weights {H : Type} {P : Program} {ts : List TypeId} {ds : List (DataW H)} {j : Nat} {t : TypeId} {d : DataW H} (h : (DataW.weightsEach P ts ds).all (· ≤ reachBytes) = true) (ht : ts[j]? = some t) (hd : ds[j]? = some d) :
  ∀ n ∈ d.weights P t, n ≤ reachBytes := fun n hn => of_decide_eq_true (List.all_eq_true.1 h n (DataW.weights_mem_each ht hd n hn))
theorem par_struct {α : Type} {H : Type} {enc : TypeId × Value → H} {P : Program} {W : World} {r : Reach} {b0 : Nat} {t : TypeId} {fs : Array Field} {d : Kd α} {wf : α → Prop} {v : Value} {D : DataW H} {ps : List MemPlace}
  (ht : P.underlying t = some (.struct fs)) (ho : Opn P t d wf) (hv : Value.okWide P W r b0 t v) (hd : DataW.Trod enc P W 0 (fun _ => true) true t v D ps) (hw : ∀ n ∈ D.weights P t, n ≤ reachBytes) :
  ∃ (cs : List Value) (x : α), v = .agg cs.toArray ∧ d.K W x cs ∧ wf x := by
 obtain ⟨cs, rfl, _⟩ := okWide_struct ht hv
 obtain ⟨fuel, hf⟩ := hd
 obtain ⟨y, hy, hwy⟩ := ho.2 H enc W fuel _ _ hf hw
 exact ⟨cs.toList, y, by simp, hy, hwy⟩
end Go.Proofs.YtdpinnhgkocjhaaDoorW.Opens

namespace Go.Proofs.YtdpinnhgkocjhaaDoor.Pr
open Go.RowKit Go.Proofs.YtdpinnhgkocjhaaDoorW.PrintWords Go.Proofs.YtdpinnhgkocjhaaDoorW.PrintLast Go.Proofs.YtdpinnhgkocjhaaDoorW.Opens
set_option linter.unusedVariables false
structure S36 where
 f0 : ByteArray
 f1 : ByteArray
 f2 : Int
def k36 : Kd S36 := Kd.iso (Kd.pair Kd.string (Kd.pair Kd.string (Kd.int .i64))) (fun x : S36 => (x.f0, x.f1, x.f2))
def wf36 (x : S36) : Prop := x.f0.size ≤ 140737488351232 ∧ x.f1.size ≤ 140737488351232 ∧ (Lit.int .i64 x.f2).wf = true
theorem opn36 : Opn Tryd.prog 36 k36 wf36 := Opn.struct (fun x : S36 => (x.f0, x.f1, x.f2)) (fun p => ⟨p.1, p.2.1, p.2.2⟩) (fun _ => rfl) (by kernel_rfl) Tryd.underlying36 (FOpn.cons rfl (Opn.string (by kernel_rfl) Tryd.underlying9) (FOpn.cons rfl (Opn.string (by kernel_rfl) Tryd.underlying9) (FOpn.one rfl (Opn.int (by kernel_rfl) Tryd.underlying3))))
theorem kq36_open {w : World} {x : S36} {cs : List Value} (h : k36.K w x cs) : cs = [.string x.f0, .string x.f1, .int .i64 x.f2] := by
 obtain ⟨_, _, rfl, rfl, ⟨_, _, rfl, rfl, rfl⟩⟩ := h
 exact rfl
def FnExactCrashLog.Pure : Prop := ∀ (x0 : S36) (x1 : Int) (x2 : Bool), wf36 x0 → (Lit.int .i64 x1).wf = true → ∃ k, laws_FnExactCrashLog.f k x0.f0 x0.f1 x0.f2 x1 x2 = some true
end Go.Proofs.YtdpinnhgkocjhaaDoor.Pr

namespace Go.Proofs.YtdpinnhgkocjhaaDoor.Pr.Pure
open Go.RowKit Go.Proofs.YtdpinnhgkocjhaaDoorW.PrintWords Go.Proofs.YtdpinnhgkocjhaaDoorW.PrintLast Go.Proofs.YtdpinnhgkocjhaaDoorW.PrintMore  Go.Lib
set_option linter.unusedVariables false
set_option linter.unusedSimpArgs false
theorem w64 {x : Int} (h1 : -9223372036854775808 ≤ x) (h2 : x ≤ 9223372036854775807) : wrap64 x = x := by
 unfold wrap64
 omega
theorem obs {α β : Type} (a : α) (f : α → Option β) : (some a).bind f = f a := id (Option.bind_some a f)
def M (l : List UInt8) : ByteArray := ⟨l.toArray⟩
theorem ex_M (b : ByteArray) : ∃ l, b = M l := ⟨b.data.toList, by unfold M; rw [Array.toArray_toList]⟩
theorem M_size (l : List UInt8) : (M l).size = l.length := by simp [M, ByteArray.size]
theorem M_data (l : List UInt8) : (M l).data.toList = l := by simp [M]
theorem M_inj {a b : List UInt8} : M a = M b ↔ a = b := ⟨fun h => by
 have := congrArg (fun x : ByteArray => x.data.toList) h
 simpa [M] using this, fun h => by rw [h]⟩
theorem M_toList (l : List UInt8) : (M l).toList = l := by rw [ByteArray.toList_eq, M_data]
theorem sc_M (a b : List UInt8) : sc (M a) (M b) = M (a ++ b) := by
 apply ByteArray.ext
 unfold sc M
 rw [ByteArray.data_append]
 simp
theorem sx_M (a : List UInt8) (i j : Nat) : sx (M a) i j = M ((a.drop i).take (j - i)) := by
 apply ByteArray.ext
 unfold sx M
 rw [ByteArray.data_extract]
 simp [List.extract_eq_take_drop]
theorem bt_M (l : List UInt8) (i : Nat) : bt (M l) (i : Int) = ((l.getD i 0).toNat : Int) := by
 have hb := rd_bytesOf (M l) (i : Int)
 rw [← hb]
 unfold rd bytesOf
 rw [M_data, Int.toNat_natCast, List.getD_eq_getElem?_getD, List.getD_eq_getElem?_getD, List.getElem?_map]
 cases l[i]? <;> rfl
theorem drop_at (l : List UInt8) (i : Nat) (h : i < l.length) : l.drop i = l.getD i 0 :: l.drop (i + 1) := by
 rw [List.drop_eq_getElem_cons h, List.getD_eq_getElem?_getD, List.getElem?_eq_getElem h]
 rfl
theorem byte_eq (x : UInt8) (c : Nat) (hc : c < 256) : ((x.toNat : Int) = (c : Int)) ↔ x = UInt8.ofNat c := by
 constructor
 ·
  intro h
  apply UInt8.toNat_inj.1
  rw [UInt8.toNat_ofNat']
  omega
 ·
  rintro rfl
  rw [UInt8.toNat_ofNat']
  omega
theorem byte_rng (x : UInt8) : 0 ≤ (x.toNat : Int) ∧ (x.toNat : Int) ≤ 255 := by
 have := x.toNat_lt
 omega
theorem l1In_eq (a b c : Int) : spec_l1In.f a b c = some (decide (b ≤ a ∧ a ≤ c)) := by
 unfold spec_l1In.f
 by_cases h : b ≤ a
 ·
  rw [if_pos h]; simp [h]
 ·
  rw [if_neg (by omega)]; simp [h]
theorem within_eq (a b c : Int) : impl_within.f a b c = some (decide (b ≤ a ∧ a ≤ c)) := by
 unfold impl_within.f
 by_cases h : b ≤ a
 ·
  rw [if_pos h]; simp [h]
 ·
  rw [if_neg (by omega)]; simp [h]
theorem dec_of {p : Prop} [Decidable p] {b : Bool} (h : b = true ↔ p) : some b = some (decide p) := by
 congr 1
 rw [Bool.eq_iff_iff, h, decide_eq_true_eq]
end Go.Proofs.YtdpinnhgkocjhaaDoor.Pr.Pure

namespace Go.Proofs.YtdpinnhgkocjhaaDoor.Log
open Go.Lib
set_option linter.unusedVariables false
theorem digit_mem (u : Nat) : ∀ b ∈ decDigits u, 48 ≤ b.toNat ∧ b.toNat ≤ 57 := by
 induction u using Nat.strongRecOn with
 | _ u ih =>
  intro b hb
  by_cases h : u < 10
  ·
   rw [decDigits, dif_pos h] at hb
   obtain rfl := List.mem_singleton.1 hb
   simp
   omega
  ·
   rw [decDigits, dif_neg h] at hb
   rcases List.mem_append.1 hb with hb | hb
   ·
    exact ih _ (by omega) b hb
   ·
    obtain rfl := List.mem_singleton.1 hb
    simp
    omega
theorem digits_len_aux (j : Nat) : ∀ u : Nat, u < 10 ^ (j + 1) → (decDigits u).length ≤ j + 1 := by
 induction j with
 | zero =>
  intro u h
  rw [decDigits, dif_pos (by omega)]
  simp
 | succ j ih =>
  intro u h
  by_cases h1 : u < 10
  ·
   rw [decDigits, dif_pos h1]
   simp
  ·
   rw [decDigits, dif_neg h1]
   have : u / 10 < 10 ^ (j + 1) := by
    rw [Nat.pow_succ] at h
    omega
   have := ih _ this
   simp
   omega
abbrev B := List UInt8
def upto (c : UInt8) : B → B
 | [] => []
 | x :: l => if x = c then [] else x :: upto c l
def after (c : UInt8) : B → B
 | [] => []
 | x :: l => if x = c then l else after c l
theorem upto_app {c : UInt8} : ∀ {l : B} (r : B), c ∉ l → upto c (l ++ c :: r) = l
 | [], r, _ => by simp [upto]
 | x :: l, r, h => by
  have h1 : x ≠ c := fun e => h (by simp [e])
  have h2 : c ∉ l := fun e => h (by simp [e])
  simp [upto, h1, upto_app r h2]
theorem after_app {c : UInt8} : ∀ {l : B} (r : B), c ∉ l → after c (l ++ c :: r) = r
 | [], r, _ => by simp [after]
 | x :: l, r, h => by
  have h1 : x ≠ c := fun e => h (by simp [e])
  have h2 : c ∉ l := fun e => h (by simp [e])
  simp [after, h1, after_app r h2]
theorem upto_none {c : UInt8} : ∀ {l : B}, c ∉ l → upto c l = l
 | [], _ => rfl
 | x :: l, h => by
  have h1 : x ≠ c := fun e => h (by simp [e])
  have h2 : c ∉ l := fun e => h (by simp [e])
  simp [upto, h1, upto_none h2]
theorem after_none {c : UInt8} : ∀ {l : B}, c ∉ l → after c l = []
 | [], _ => rfl
 | x :: l, h => by
  have h1 : x ≠ c := fun e => h (by simp [e])
  have h2 : c ∉ l := fun e => h (by simp [e])
  simp [after, h1, after_none h2]
theorem cut_at {c : UInt8} : ∀ {l : B}, c ∈ l → l = upto c l ++ c :: after c l
 | [], h => by simp at h
 | x :: l, h => by
  by_cases e : x = c
  ·
   simp [upto, after, e]
  ·
   have h2 : c ∈ l := by
    rcases List.mem_cons.1 h with h | h
    ·
     exact absurd h.symm e
    ·
     exact h
   have := cut_at h2
   simp only [upto, after, e, if_false, List.cons_append]
   rw [← this]
theorem upto_len {c : UInt8} : ∀ (l : B), (upto c l).length ≤ l.length
 | [] => by simp [upto]
 | x :: l => by
  by_cases e : x = c
  ·
   simp [upto, e]
  ·
   simp only [upto, e, if_false, List.length_cons]
   have := upto_len (c := c) l
   omega
theorem upto_lt {c : UInt8} {l : B} (h : c ∈ l) : (upto c l).length < l.length := by
 have := congrArg List.length (cut_at h)
 simp at this
 omega
theorem upto_take (c : UInt8) : ∀ (l : B), upto c l = l.take (upto c l).length
 | [] => by simp [upto]
 | x :: l => by
  by_cases e : x = c
  ·
   simp [upto, e]
  ·
   simp only [upto, e, if_false, List.length_cons, List.take_succ_cons]
   rw [← upto_take c l]
theorem after_drop (c : UInt8) {l : B} (h : c ∈ l) : after c l = l.drop ((upto c l).length + 1) := by
 have e := cut_at h
 generalize upto c l = u at e ⊢
 generalize after c l = v at e ⊢
 subst e
 simp
theorem index_some {c : UInt8} : ∀ {l : B}, c ∈ l → indexByte l c = ((upto c l).length : Int)
 | [], h => by simp at h
 | x :: l, h => by
  by_cases e : x = c
  ·
   simp [upto, e, indexByte]
  ·
   have h2 : c ∈ l := by
    rcases List.mem_cons.1 h with h | h
    ·
     exact absurd h.symm e
    ·
     exact h
   have ih := index_some h2
   have hb : (x == c) = false := by simpa using e
   have hn : (indexByte l c == -1) = false := by
    rw [ih, beq_eq_false_iff_ne]
    omega
   simp only [indexByte, hb, hn, upto, e, if_false, List.length_cons, Bool.false_eq_true]
   rw [ih]
   omega
theorem index_none {c : UInt8} : ∀ {l : B}, c ∉ l → indexByte l c = -1
 | [], _ => rfl
 | x :: l, h => by
  have h1 : x ≠ c := fun e => h (by simp [e])
  have h2 : c ∉ l := fun e => h (by simp [e])
  have hb : (x == c) = false := by simpa using h1
  simp [indexByte, hb, index_none h2]
def sum (l : B) : Nat := l.foldl (fun n b => (41 * n + b.toNat + 1) % 999979) 7
theorem sum_fold_lt (l : B) : ∀ n, n < 999979 → l.foldl (fun n b => (41 * n + b.toNat + 1) % 999979) n < 999979 := by
 induction l with
 | nil => intro n h; exact h
 | cons x l ih => intro n h; exact ih _ (Nat.mod_lt _ (by omega))
theorem sum_lt (l : B) : sum l < 999979 := sum_fold_lt l 7 (by omega)
def Plain (l : B) : Prop := ∀ b ∈ l, 32 ≤ b.toNat ∧ b.toNat ≤ 126 ∧ b ≠ 35
instance (l : B) : Decidable (Plain l) := inferInstanceAs (Decidable (∀ b ∈ l, 32 ≤ b.toNat ∧ b.toNat ≤ 126 ∧ b ≠ 35))
def Ok (c r : B) : Prop := 1 ≤ c.length ∧ c.length ≤ 160 ∧ Plain c ∧ (64 : UInt8) ∉ c ∧ r.length ≤ 200 ∧ Plain r
instance (c r : B) : Decidable (Ok c r) := inferInstanceAs (Decidable (_ ∧ _))
def body (k : Nat) (c r : B) : B := decDigits k ++ 32 :: (c ++ 64 :: r)
def line (k : Nat) (c r : B) : B := body k c r ++ 35 :: decDigits (sum (body k c r))
def enc (k : Nat) (c r : B) : B := line k c r ++ [10]
theorem body_no {k : Nat} {c r : B} (h : Ok c r) (x : UInt8) (hx : x = 10 ∨ x = 35) : x ∉ body k c r := by
 intro hm
 rcases List.mem_append.1 hm with hm | hm
 ·
  have := digit_mem k x hm
  rcases hx with rfl | rfl
  ·
   exact absurd this.1 (by decide)
  ·
   exact absurd this.1 (by decide)
 ·
  rcases List.mem_cons.1 hm with hm | hm
  ·
   rcases hx with rfl | rfl <;> exact absurd hm (by decide)
  ·
   rcases List.mem_append.1 hm with hm | hm
   ·
    have := h.2.2.1 x hm
    rcases hx with rfl | rfl
    ·
     exact absurd this.1 (by decide)
    ·
     exact this.2.2 rfl
   ·
    rcases List.mem_cons.1 hm with hm | hm
    ·
     rcases hx with rfl | rfl <;> exact absurd hm (by decide)
    ·
     have := h.2.2.2.2.2 x hm
     rcases hx with rfl | rfl
     ·
      exact absurd this.1 (by decide)
     ·
      exact this.2.2 rfl
theorem line_no {k : Nat} {c r : B} (h : Ok c r) : (10 : UInt8) ∉ line k c r := by
 intro hm
 rcases List.mem_append.1 hm with hm | hm
 ·
  exact body_no h 10 (.inl rfl) hm
 ·
  rcases List.mem_cons.1 hm with hm | hm
  ·
   exact absurd hm (by decide)
  ·
   exact absurd (digit_mem _ _ hm).1 (by decide)
theorem dig_no (k : Nat) (x : UInt8) (h : x.toNat < 48) : x ∉ decDigits k := fun hm => by
 have := (digit_mem _ _ hm).1
 omega
theorem line_text {k : Nat} {c r : B} (h : Ok c r) : upto 35 (line k c r) = body k c r := upto_app _ (body_no h 35 (.inr rfl))
theorem body_rest {k : Nat} {c r : B} : after 32 (body k c r) = c ++ 64 :: r := after_app _ (dig_no k 32 (by decide))
theorem rest_cmd {c r : B} (h : Ok c r) : upto 64 (c ++ 64 :: r) = c := upto_app _ h.2.2.2.1
theorem rest_rep {c r : B} (h : Ok c r) : after 64 (c ++ 64 :: r) = r := after_app _ h.2.2.2.1
theorem body_len (k : Nat) (c r : B) : (body k c r).length = (decDigits k).length + 2 + c.length + r.length := by
 simp [body]
 omega
theorem enc_len {k : Nat} {c r : B} (hk : k < 60) (h : Ok c r) : (enc k c r).length ≤ 372 ∧ 1 ≤ (enc k c r).length := by
 have h1 := digits_len_aux 1 k (by omega)
 have h2 := digits_len_aux 5 (sum (body k c r)) (by have := sum_lt (body k c r); omega)
 have h3 := h.2.1
 have h4 := h.2.2.2.2.1
 have := body_len k c r
 simp only [enc, line, List.length_append, List.length_cons, List.length_nil]
 omega
def dec (k : Nat) (s : B) : Option (B × B × Nat) :=
 if (10 : UInt8) ∈ s ∧ k < 60 ∧ Ok (upto 64 (after 32 (upto 35 (upto 10 s)))) (after 64 (after 32 (upto 35 (upto 10 s)))) ∧
   enc k (upto 64 (after 32 (upto 35 (upto 10 s)))) (after 64 (after 32 (upto 35 (upto 10 s)))) = upto 10 s ++ [10]
 then some (upto 64 (after 32 (upto 35 (upto 10 s))), after 64 (after 32 (upto 35 (upto 10 s))), (upto 10 s).length + 1) else none
theorem dec_some {k : Nat} {s c r : B} {n : Nat} : dec k s = some (c, r, n) ↔ k < 60 ∧ Ok c r ∧ enc k c r <+: s ∧ n = (enc k c r).length := by
 unfold dec
 constructor
 ·
  intro h
  split at h
  ·
   rename_i hc
   obtain ⟨h1, h2, h3, h4⟩ := hc
   simp only [Option.some.injEq, Prod.mk.injEq] at h
   obtain ⟨rfl, rfl, rfl⟩ := h
   refine ⟨h2, h3, ?_, ?_⟩
   ·
    rw [h4]
    refine ⟨after 10 s, ?_⟩
    rw [List.append_assoc, List.singleton_append, ← cut_at h1]
   ·
    rw [h4]
    simp
  ·
   cases h
 ·
  rintro ⟨h1, h2, ⟨t, ht⟩, rfl⟩
  have e : s = line k c r ++ 10 :: t := by rw [← ht]; simp [enc]
  have hu : upto 10 s = line k c r := by rw [e]; exact upto_app _ (line_no h2)
  have hm : (10 : UInt8) ∈ s := by rw [e]; simp
  rw [hu, line_text h2, body_rest, rest_cmd h2, rest_rep h2, if_pos ⟨hm, h1, h2, rfl⟩]
  simp [enc]
theorem dec_le {k : Nat} {s c r : B} {n : Nat} (h : dec k s = some (c, r, n)) : n ≤ s.length ∧ 1 ≤ n ∧ n ≤ 372 := by
 obtain ⟨h1, h2, h3, rfl⟩ := dec_some.1 h
 have := enc_len h1 h2
 exact ⟨h3.length_le, this.2, this.1⟩
theorem dec_app {k : Nat} {s : B} {x : B × B × Nat} (t : B) (h : dec k s = some x) : dec k (s ++ t) = some x := by
 obtain ⟨c, r, n⟩ := x
 obtain ⟨h1, h2, h3, h4⟩ := dec_some.1 h
 exact dec_some.2 ⟨h1, h2, h3.trans (List.prefix_append _ _), h4⟩
theorem dec_cut {k : Nat} {s : B} {x : B × B × Nat} {m : Nat} (h : dec k s = some x) (hm : x.2.2 ≤ m) : dec k (s.take m) = some x := by
 obtain ⟨c, r, n⟩ := x
 obtain ⟨h1, h2, h3, rfl⟩ := dec_some.1 h
 exact dec_some.2 ⟨h1, h2, List.prefix_take_iff.2 ⟨h3, hm⟩, rfl⟩
theorem dec_nil (k : Nat) : dec k [] = none := by simp [dec]
def all : Nat → Nat → B → List (B × B × Nat)
 | 0, _, _ => []
 | m + 1, k, s => match dec k s with
  | none => []
  | some x => x :: all m (k + 1) (s.drop x.2.2)
def tot (l : List (B × B × Nat)) : Nat := (l.map (·.2.2)).sum
theorem all_nil (m k : Nat) : all m k [] = [] := by
 cases m with
 | zero => rfl
 | succ m => simp [all, dec_nil]
theorem all_none {m k : Nat} {s : B} (h : dec k s = none) : all m k s = [] := by
 cases m with
 | zero => rfl
 | succ m => simp [all, h]
theorem all_some {m k : Nat} {s : B} {x : B × B × Nat} (h : dec k s = some x) : all (m + 1) k s = x :: all m (k + 1) (s.drop x.2.2) := by simp [all, h]
theorem tot_cons (x : B × B × Nat) (l : List (B × B × Nat)) : tot (x :: l) = x.2.2 + tot l := by simp [tot]
theorem all_len (m : Nat) : ∀ (k : Nat) (s : B), (all m k s).length ≤ m := by
 induction m with
 | zero => intro k s; simp [all]
 | succ m ih =>
  intro k s
  cases h : dec k s with
  | none => rw [all_none h]; simp
  | some x => rw [all_some h]; simp; exact ih _ _
theorem all_tot372 (m : Nat) : ∀ (k : Nat) (s : B), tot (all m k s) ≤ 372 * m := by
 induction m with
 | zero => intro k s; simp [all, tot]
 | succ m ih =>
  intro k s
  cases h : dec k s with
  | none => rw [all_none h]; simp [tot]
  | some x =>
   obtain ⟨c, r, n⟩ := x
   have h1 := (dec_le h).2.2
   have := ih (k + 1) (s.drop n)
   rw [all_some h, tot_cons]
   simp only
   omega
theorem ends_iff (m : Nat) : ∀ (k : Nat) (D P : B), (∃ j, j ≤ (all m k (D ++ P)).length ∧ tot ((all m k (D ++ P)).take j) = D.length) ↔ tot (all m k D) = D.length := by
 induction m with
 | zero => intro k D P; simp [all, tot]
 | succ m ih =>
  intro k D P
  by_cases h0 : D = []
  ·
   subst h0
   simp only [List.length_nil, all_nil]
   exact ⟨fun _ => rfl, fun _ => ⟨0, Nat.zero_le _, rfl⟩⟩
  have hD : 0 < D.length := List.length_pos_iff.2 h0
  have none_D : dec k D = none → ¬ tot (all (m + 1) k D) = D.length := fun h e => by
   rw [all_none h] at e
   simp [tot] at e
   omega
  cases hs : dec k (D ++ P) with
  | none =>
   have hd : dec k D = none := by
    cases hd : dec k D with
    | none => rfl
    | some x => rw [dec_app P hd] at hs; cases hs
   rw [all_none hs]
   refine ⟨?_, fun e => absurd e (none_D hd)⟩
   rintro ⟨j, hj, e⟩
   simp [tot] at e
   omega
  | some x =>
   obtain ⟨c, r, n⟩ := x
   have hn := dec_le hs
   rw [all_some hs]
   by_cases hc : n ≤ D.length
   ·
    have hd : dec k D = some (c, r, n) := by
     have := dec_cut (m := D.length) hs hc
     rwa [List.take_left] at this
    rw [all_some hd, tot_cons]
    simp only
    have e := ih (k + 1) (D.drop n) P
    rw [← List.drop_append_of_le_length hc] at e
    constructor
    ·
     rintro ⟨j, hj, h⟩
     cases j with
     | zero => simp [tot] at h; omega
     | succ j =>
      rw [List.take_succ_cons, tot_cons] at h
      simp only at h
      have := e.1 ⟨j, by simpa using hj, by rw [List.length_drop]; omega⟩
      rw [List.length_drop] at this
      omega
    ·
     intro h
     obtain ⟨j, hj, h'⟩ := e.2 (by rw [List.length_drop]; omega)
     rw [List.length_drop] at h'
     refine ⟨j + 1, by simpa using hj, ?_⟩
     rw [List.take_succ_cons, tot_cons]
     simp only
     omega
   ·
    have hd : dec k D = none := by
     cases hd : dec k D with
     | none => rfl
     | some x =>
      obtain ⟨c', r', n'⟩ := x
      rw [dec_app P hd] at hs
      have := dec_le hd
      simp only [Option.some.injEq, Prod.mk.injEq] at hs
      omega
    refine ⟨?_, fun e => absurd e (none_D hd)⟩
    rintro ⟨j, hj, h⟩
    cases j with
    | zero => simp [tot] at h; omega
    | succ j =>
     rw [List.take_succ_cons, tot_cons] at h
     simp only at h
     omega
end Go.Proofs.YtdpinnhgkocjhaaDoor.Log

namespace Go.Proofs.YtdpinnhgkocjhaaDoor.Pr.Pure
open Go.RowKit Go.Proofs.YtdpinnhgkocjhaaDoorW.PrintWords Go.Proofs.YtdpinnhgkocjhaaDoorW.PrintLast Go.Proofs.YtdpinnhgkocjhaaDoorW.PrintMore Go.Proofs.YtdpinnhgkocjhaaDoor.Log Go.Lib
set_option linter.unusedVariables false
set_option linter.unusedSimpArgs false
theorem plain_nil : Plain [] := fun b h => by simp at h
theorem plain_cons (x : UInt8) (l : List UInt8) : Plain (x :: l) ↔ (32 ≤ x.toNat ∧ x.toNat ≤ 126 ∧ x ≠ 35) ∧ Plain l := by simp [Plain]
theorem isPlain_l0 (l : List UInt8) (hl : l.length ≤ 4611686018427387904) (d : Nat) : ∀ (k i : Nat), i + d = l.length → d < k → impl_isPlain.l0 k (M l) l.length i = some (decide (Plain (l.drop i))) := by
 induction d with
 | zero =>
  intro k i hd hk
  obtain ⟨k, rfl⟩ : ∃ m, k = m + 1 := ⟨k - 1, by omega⟩
  simp only [impl_isPlain.l0]
  rw [if_neg (by omega), List.drop_of_length_le (by omega)]
  simp [plain_nil]
 | succ d ih =>
  intro k i hd hk
  obtain ⟨k, rfl⟩ : ∃ m, k = m + 1 := ⟨k - 1, by omega⟩
  simp only [impl_isPlain.l0]
  rw [if_pos (by omega), if_pos (by omega), if_pos (by rw [M_size]; omega), bt_M, drop_at l i (by omega)]
  generalize l.getD i 0 = x
  have hx := byte_rng x
  rw [w64 (by omega) (by omega), w64 (by omega) (by omega), within_eq]
  simp only [Option.bind_some, decide_eq_true_eq]
  have ih' := ih k (i + 1) (by omega) (by omega)
  rw [show ((i + 1 : Nat) : Int) = (i : Int) + 1 by omega] at ih'
  by_cases h1 : (32 : Int) ≤ x.toNat ∧ (x.toNat : Int) ≤ 126
  ·
   rw [if_pos h1]
   by_cases h2 : (x.toNat : Int) = 35
   ·
    rw [if_pos h2]
    have : x = 35 := (byte_eq x 35 (by omega)).1 h2
    subst this
    simp [plain_cons]
   ·
    rw [if_neg h2, ih']
    have h3 : x ≠ 35 := fun e => h2 (by rw [e]; rfl)
    have : (Plain (x :: l.drop (i + 1)) ↔ Plain (l.drop (i + 1))) := by
     rw [plain_cons]
     exact ⟨fun h => h.2, fun h => ⟨⟨by omega, by omega, h3⟩, h⟩⟩
    simp [this]
  ·
   rw [if_neg h1]
   have : ¬ Plain (x :: l.drop (i + 1)) := by
    rw [plain_cons]
    rintro ⟨⟨a, b, _⟩, _⟩
    exact h1 ⟨by omega, by omega⟩
   simp [this]
theorem isPlain_eq (l : List UInt8) (hl : l.length ≤ 4611686018427387904) {k : Nat} (hk : l.length < k) : impl_isPlain.f k (M l) = some (decide (Plain l)) := by
 unfold impl_isPlain.f
 rw [M_size]
 simpa using isPlain_l0 l hl l.length k 0 (by omega) hk
theorem plain_l0 (l : List UInt8) (m : Int) (hl : l.length ≤ 4611686018427387904) (d : Nat) : ∀ (k i : Nat), i + d = l.length → d < k → spec_l27Plain.l0 k (M l) m i = some (decide (Plain (l.drop i) ∧ (l.length : Int) ≤ m)) := by
 induction d with
 | zero =>
  intro k i hd hk
  obtain ⟨k, rfl⟩ : ∃ m, k = m + 1 := ⟨k - 1, by omega⟩
  simp only [spec_l27Plain.l0]
  rw [M_size, if_neg (by omega), List.drop_of_length_le (by omega)]
  simp [plain_nil]
 | succ d ih =>
  intro k i hd hk
  obtain ⟨k, rfl⟩ : ∃ m, k = m + 1 := ⟨k - 1, by omega⟩
  simp only [spec_l27Plain.l0]
  rw [M_size, if_pos (by omega), if_pos (by omega), bt_M, drop_at l i (by omega)]
  generalize l.getD i 0 = x
  have hx := byte_rng x
  rw [w64 (by omega) (by omega), w64 (by omega) (by omega), l1In_eq]
  simp only [Option.bind_some, decide_eq_true_eq]
  have ih' := ih k (i + 1) (by omega) (by omega)
  rw [show ((i + 1 : Nat) : Int) = (i : Int) + 1 by omega] at ih'
  by_cases h1 : (32 : Int) ≤ x.toNat ∧ (x.toNat : Int) ≤ 126
  ·
   rw [if_pos h1]
   by_cases h2 : (x.toNat : Int) = 35
   ·
    rw [if_pos h2]
    have : x = 35 := (byte_eq x 35 (by omega)).1 h2
    subst this
    simp [plain_cons]
   ·
    rw [if_neg h2, ih']
    have h3 : x ≠ 35 := fun e => h2 (by rw [e]; rfl)
    have : (Plain (x :: l.drop (i + 1)) ↔ Plain (l.drop (i + 1))) := by
     rw [plain_cons]
     exact ⟨fun h => h.2, fun h => ⟨⟨by omega, by omega, h3⟩, h⟩⟩
    simp [this]
  ·
   rw [if_neg h1]
   have : ¬ Plain (x :: l.drop (i + 1)) := by
    rw [plain_cons]
    rintro ⟨⟨a, b, _⟩, _⟩
    exact h1 ⟨by omega, by omega⟩
   simp [this]
theorem plain_eq (l : List UInt8) (m : Int) (hl : l.length ≤ 4611686018427387904) {k : Nat} (hk : l.length < k) : spec_l27Plain.f k (M l) m = some (decide (Plain l ∧ (l.length : Int) ≤ m)) := by
 unfold spec_l27Plain.f
 simpa using plain_l0 l m hl l.length k 0 (by omega) hk
theorem stands_l0 (l : List UInt8) (c : Nat) (hc : c < 256) (hl : l.length ≤ 4611686018427387904) (d : Nat) : ∀ (k i : Nat), i + d = l.length → d < k → spec_l1Stands.l0 k (M l) c i = some (decide (UInt8.ofNat c ∈ l.drop i)) := by
 induction d with
 | zero =>
  intro k i hd hk
  obtain ⟨k, rfl⟩ : ∃ m, k = m + 1 := ⟨k - 1, by omega⟩
  simp only [spec_l1Stands.l0]
  rw [M_size, if_neg (by omega), List.drop_of_length_le (by omega)]
  simp
 | succ d ih =>
  intro k i hd hk
  obtain ⟨k, rfl⟩ : ∃ m, k = m + 1 := ⟨k - 1, by omega⟩
  simp only [spec_l1Stands.l0]
  rw [M_size, if_pos (by omega), if_pos (by omega), bt_M, drop_at l i (by omega)]
  generalize l.getD i 0 = x
  rw [w64 (by omega) (by omega)]
  have ih' := ih k (i + 1) (by omega) (by omega)
  rw [show ((i + 1 : Nat) : Int) = (i : Int) + 1 by omega] at ih'
  by_cases h1 : (x.toNat : Int) = (c : Int)
  ·
   rw [if_pos h1]
   have : UInt8.ofNat c = x := ((byte_eq x c hc).1 h1).symm
   simp [this]
  ·
   rw [if_neg h1, ih']
   have : ¬ UInt8.ofNat c = x := fun e => h1 ((byte_eq x c hc).2 e.symm)
   simp [this]
theorem stands_eq (l : List UInt8) (c : Nat) (hc : c < 256) (hl : l.length ≤ 4611686018427387904) {k : Nat} (hk : l.length < k) : spec_l1Stands.f k (M l) c = some (decide (UInt8.ofNat c ∈ l)) := by
 unfold spec_l1Stands.f
 simpa using stands_l0 l c hc hl l.length k 0 (by omega) hk
theorem index_eq (l : List UInt8) (c : UInt8) : stringslite_Index.f (M l) (M [c]) = some (indexByte l c) := by
 unfold stringslite_Index.f
 rw [M_size, M_data, M_data]
 rfl
theorem contains_eq (l : List UInt8) (c : UInt8) : strings_Contains.f (M l) (M [c]) = some (decide (c ∈ l)) := by
 unfold strings_Contains.f strings_Index.f
 rw [index_eq]
 simp only [Option.bind_some]
 by_cases h : c ∈ l
 ·
  rw [index_some h]
  simp [h]
 ·
  rw [index_none h]
  simp [h]
theorem isRec_eq (c r : List UInt8) (hc : c.length ≤ 4611686018427387904) (hr : r.length ≤ 4611686018427387904) {k : Nat} (hk : c.length + r.length < k) : impl_IsValidRecord.f k (M c) (M r) = some (decide (Ok c r)) := by
 unfold impl_IsValidRecord.f impl_isCommand.f
 rw [within_eq, isPlain_eq c hc (by omega), isPlain_eq r hr (by omega), M_size, M_size, show (⟨#[64]⟩ : ByteArray) = M [64] from rfl, contains_eq]
 simp only [Option.bind_some, decide_eq_true_eq]
 by_cases h1 : (1 : Int) ≤ c.length ∧ (c.length : Int) ≤ 160
 ·
  rw [if_pos h1]
  have a1 : 1 ≤ c.length := by omega
  have a2 : c.length ≤ 160 := by omega
  by_cases h2 : Plain c
  ·
   rw [if_pos h2]
   simp only [Option.bind_some]
   by_cases h3 : (64 : UInt8) ∈ c
   ·
    rw [if_neg (by simp [h3])]
    exact dec_of ⟨fun h => by simp at h, fun h => absurd h3 h.2.2.2.1⟩
   ·
    rw [if_pos (by simp [h3])]
    by_cases h4 : (r.length : Int) ≤ 200
    ·
     rw [if_pos h4]
     exact dec_of ⟨fun h => ⟨a1, a2, h2, h3, by omega, of_decide_eq_true h⟩, fun h => decide_eq_true h.2.2.2.2.2⟩
    ·
     rw [if_neg h4]
     exact dec_of ⟨fun h => by simp at h, fun h => absurd h.2.2.2.2.1 (by omega)⟩
  ·
   rw [if_neg h2]
   simp only [Option.bind_some]
   rw [if_neg (by simp)]
   exact dec_of ⟨fun h => by simp at h, fun h => absurd h.2.2.1 h2⟩
 ·
  rw [if_neg h1]
  simp only [Option.bind_some]
  rw [if_neg (by simp)]
  exact dec_of ⟨fun h => by simp at h, fun h => absurd (And.intro h.1 h.2.1) (fun h => h1 ⟨by omega, by omega⟩)⟩
theorem good_eq (c r : List UInt8) (hc : c.length ≤ 4611686018427387904) (hr : r.length ≤ 4611686018427387904) {k : Nat} (hk : c.length + r.length < k) : spec_l27Good.f k (M c) (M r) = some (decide (Ok c r)) := by
 unfold spec_l27Good.f
 rw [M_toList, plain_eq c 160 hc (by omega), plain_eq r 200 hr (by omega), show (64 : Int) = ((64 : Nat) : Int) from rfl, stands_eq c 64 (by omega) hc (by omega)]
 simp only [Option.bind_some, decide_eq_true_eq]
 by_cases h1 : c = []
 ·
  rw [if_pos h1]
  exact dec_of ⟨fun h => by simp at h, fun h => absurd h.1 (by simp [h1])⟩
 ·
  rw [if_neg h1]
  have a1 : 1 ≤ c.length := by have := List.length_pos_iff.2 h1; omega
  by_cases h2 : Plain c ∧ (c.length : Int) ≤ 160
  ·
   rw [if_pos h2]
   have a2 : c.length ≤ 160 := by omega
   by_cases h3 : UInt8.ofNat 64 ∈ c
   ·
    rw [if_pos h3]
    exact dec_of ⟨fun h => by simp at h, fun h => absurd h3 h.2.2.2.1⟩
   ·
    rw [if_neg h3]
    refine dec_of ⟨fun h => ?_, fun h => decide_eq_true ⟨h.2.2.2.2.2, by have := h.2.2.2.2.1; omega⟩⟩
    have h := of_decide_eq_true h
    exact ⟨a1, a2, h2.1, h3, by omega, h.1⟩
  ·
   rw [if_neg h2]
   exact dec_of ⟨fun h => by simp at h, fun h => absurd (And.intro h.2.2.1 h.2.1) (fun h => h2 ⟨h.1, by omega⟩)⟩
theorem itoa_nat (n : Nat) : itoa (n : Int) = decDigits n := by
 unfold itoa
 rw [if_neg (by omega), Int.toNat_natCast]
theorem decimal_eq {a : Int} (h0 : -9223372036854775808 ≤ a) (h1 : a ≤ 9223372036854775807) : impl_decimal.f a = some (M (itoa a)) := by
 unfold impl_decimal.f strconv_Itoa_76.f
 rw [if_pos h0, if_pos h1]
 rfl
theorem dig_at (n : Nat) (h : n < 10) : (([48, 49, 50, 51, 52, 53, 54, 55, 56, 57] : List UInt8).drop n).take 1 = [UInt8.ofNat (48 + n)] := by
 match n, h with
 | 0, _ => rfl
 | 1, _ => rfl
 | 2, _ => rfl
 | 3, _ => rfl
 | 4, _ => rfl
 | 5, _ => rfl
 | 6, _ => rfl
 | 7, _ => rfl
 | 8, _ => rfl
 | 9, _ => rfl
theorem num_small (k n : Nat) (h : n < 10) : spec_l1Num.f (k + 1) (n : Int) = some (M (decDigits n)) := by
 rw [spec_l1Num.f, if_neg (by omega), if_pos (by omega), if_pos (by omega), w64 (by omega) (by omega), if_pos (by omega), if_pos (by omega), show (⟨#[48, 49, 50, 51, 52, 53, 54, 55, 56, 57]⟩ : ByteArray) = M [48, 49, 50, 51, 52, 53, 54, 55, 56, 57] from rfl, sx_M, show ((n : Int) + 1).toNat - (n : Int).toNat = 1 by omega, Int.toNat_natCast, dig_at n h, decDigits, dif_pos h]
theorem num_div (n : Nat) (hn : n ≤ 1000000000000000000) : wrap64 (Int.tdiv (n : Int) 10) = ((n / 10 : Nat) : Int) := by
  rw [Int.tdiv_eq_ediv_of_nonneg (by omega)]
  unfold wrap64
  omega
theorem num_mod (n : Nat) : Int.tmod (n : Int) 10 = ((n % 10 : Nat) : Int) := by
  rw [Int.tmod_eq_emod_of_nonneg (by omega)]
  omega
theorem num_app (n : Nat) (h10 : ¬ n < 10) : decDigits n = decDigits (n / 10) ++ [UInt8.ofNat (48 + n % 10)] := by
  conv => lhs; rw [decDigits, dif_neg h10]
theorem num_dig (q : Nat) (hm : q < 10) : sx (⟨#[48, 49, 50, 51, 52, 53, 54, 55, 56, 57]⟩ : ByteArray) ((q : Int).toNat) ((wrap64 ((q : Int) + 1) : Int).toNat) = M [UInt8.ofNat (48 + q)] := by
 rw [w64 (by omega) (by omega), show (⟨#[48, 49, 50, 51, 52, 53, 54, 55, 56, 57]⟩ : ByteArray) = M [48, 49, 50, 51, 52, 53, 54, 55, 56, 57] from rfl, sx_M, show ((q : Int) + 1).toNat - (q : Int).toNat = 1 by omega, Int.toNat_natCast, dig_at q hm]
theorem num_unf (k : Nat) (a0 : Int) (D d : ByteArray) (q : Int) (h : ¬ a0 < 0) (h2 : ¬ a0 < 10) (hq : Int.tmod a0 10 = q) (hb : spec_l1Num.f k (wrap64 (Int.tdiv a0 10)) = some D) (c1 : 0 ≤ q) (c2 : q ≤ wrap64 (q + 1)) (c3 : wrap64 (q + 1) ≤ 10)
  (hd : sx (⟨#[48, 49, 50, 51, 52, 53, 54, 55, 56, 57]⟩ : ByteArray) ((q : Int).toNat) ((wrap64 (q + 1) : Int).toNat) = d) (c4 : D.size + d.size ≤ 9223372036854775807) : spec_l1Num.f (k + 1) a0 = some (sc D d) := by
 subst hd
 subst hq
 rw [spec_l1Num.f, if_neg h, if_neg h2, hb, Option.bind_some, if_pos c1, if_pos c2, if_pos c3, if_pos c4]
theorem num_step (k n : Nat) (h10 : ¬ n < 10) (hn : n ≤ 1000000000000000000) (ih : spec_l1Num.f k ((n / 10 : Nat) : Int) = some (M (decDigits (n / 10)))) (hl : (decDigits (n / 10)).length ≤ 40) : spec_l1Num.f (k + 1) (n : Int) = some (M (decDigits n)) := by
 have hq : n % 10 < 10 := Nat.mod_lt _ (by omega)
 have hw : wrap64 (((n % 10 : Nat) : Int) + 1) = ((n % 10 : Nat) : Int) + 1 := w64 (by omega) (by omega)
 have := num_unf k n (M (decDigits (n / 10))) (M [UInt8.ofNat (48 + n % 10)]) ((n % 10 : Nat) : Int) (by omega) (by omega) (num_mod n) (by rw [num_div n hn]; exact ih) (by omega) (by rw [hw]; omega) (by rw [hw]; omega) (num_dig _ hq) (by rw [M_size, M_size]; simp only [List.length_cons, List.length_nil]; omega)
 rw [this, sc_M, ← num_app n h10]
theorem num_of {n k : Nat} (h : n ≤ 1000000000000000000) (hk : 20 ≤ k) : spec_l1Num.f k (n : Int) = some (M (decDigits n)) := by
 have all : ∀ (j k n : Nat), n ≤ 1000000000000000000 → n < 10 ^ (j + 1) → j ≤ 19 → j < k → spec_l1Num.f k (n : Int) = some (M (decDigits n)) := by
  intro j
  induction j with
  | zero =>
   intro k n h hj h19 hk
   obtain ⟨k, rfl⟩ : ∃ m, k = m + 1 := ⟨k - 1, by omega⟩
   exact num_small k n (by omega)
  | succ j ih =>
   intro k n h hj h19 hk
   obtain ⟨k, rfl⟩ : ∃ m, k = m + 1 := ⟨k - 1, by omega⟩
   by_cases h10 : n < 10
   ·
    exact num_small k n h10
   ·
    have hd : n / 10 < 10 ^ (j + 1) := by
     rw [Nat.pow_succ] at hj
     omega
    exact num_step k n h10 h (ih k (n / 10) (by omega) hd (by omega) (by omega)) (Nat.le_trans (digits_len_aux j (n / 10) hd) (by omega))
 exact all 19 k n h (Nat.lt_of_le_of_lt h (by decide)) (by omega) (by omega)
theorem cut_eq (l : List UInt8) (c : UInt8) (hl : l.length ≤ 4611686018427387904) : strings_Cut.f (M l) (M [c]) = some (M (upto c l), M (after c l), decide (c ∈ l)) := by
 unfold strings_Cut.f stringslite_Cut.f
 rw [index_eq]
 simp only [Option.bind_some]
 by_cases h : c ∈ l
 ·
  have hlt := upto_lt h
  rw [index_some h, M_size, M_size, w64 (by simp; omega) (by simp; omega), if_pos (by omega), if_pos (by omega), if_pos (by omega), if_pos (by first | omega | (simp; done) | (simp; omega)), if_pos (by first | omega | (simp; done) | (simp; omega))]
  simp only [Option.bind_some, sx_M, Option.some.injEq, Prod.mk.injEq, M_inj, h, decide_true, and_true]
  constructor
  ·
   rw [Int.toNat_natCast, List.drop_zero, Nat.sub_zero, ← upto_take]
  ·
   rw [after_drop c h, show (((upto c l).length : Int) + ([c].length : Nat)).toNat = (upto c l).length + 1 by (first | omega | (simp; done) | (simp; omega)), List.take_of_length_le (by first | omega | (simp; done) | (simp; omega))]
 ·
  rw [index_none h, if_neg (by omega)]
  simp only [Option.bind_some, Option.some.injEq, Prod.mk.injEq, h, decide_false, and_true, upto_none h, after_none h, true_and]
  rfl
theorem step_rng (n : Nat) (x : UInt8) (h : n < 999979) : Int.tmod (wrap64 (wrap64 (wrap64 (41 * (n : Int)) + wrap64 (x.toNat : Int)) + 1)) 999979 = (((41 * n + x.toNat + 1) % 999979 : Nat) : Int) := by
 have hx := byte_rng x
 rw [w64 (x := 41 * (n : Int)) (by omega) (by omega), w64 (x := (x.toNat : Int)) (by omega) (by omega), w64 (x := 41 * (n : Int) + x.toNat) (by omega) (by omega), w64 (by omega) (by omega)]
 rw [Int.tmod_eq_emod_of_nonneg (by omega)]
 omega
theorem checksum_l0 (l : List UInt8) (hl : l.length ≤ 4611686018427387904) (d : Nat) : ∀ (k i n : Nat), n < 999979 → i + d = l.length → d < k →
  impl_checksum.l0 k (M l) n l.length i = some (((l.drop i).foldl (fun n b => (41 * n + b.toNat + 1) % 999979) n : Nat) : Int) ∧
  spec_l1Sum.l0 k (M l) n i = some (((l.drop i).foldl (fun n b => (41 * n + b.toNat + 1) % 999979) n : Nat) : Int) := by
 induction d with
 | zero =>
  intro k i n hn hd hk
  obtain ⟨k, rfl⟩ : ∃ m, k = m + 1 := ⟨k - 1, by omega⟩
  simp only [impl_checksum.l0, spec_l1Sum.l0]
  rw [M_size, if_neg (by omega), if_neg (by omega), List.drop_of_length_le (by omega)]
  simp
 | succ d ih =>
  intro k i n hn hd hk
  obtain ⟨k, rfl⟩ : ∃ m, k = m + 1 := ⟨k - 1, by omega⟩
  simp only [impl_checksum.l0, spec_l1Sum.l0]
  rw [M_size, if_pos (by omega), if_pos (by omega), if_pos (by omega), if_pos (by omega), if_pos (by omega), bt_M, drop_at l i (by omega)]
  generalize l.getD i 0 = x
  rw [step_rng n x hn, w64 (x := (i : Int) + 1) (by omega) (by omega)]
  have := ih k (i + 1) ((41 * n + x.toNat + 1) % 999979) (Nat.mod_lt _ (by omega)) (by omega) (by omega)
  rw [show ((i + 1 : Nat) : Int) = (i : Int) + 1 by omega] at this
  exact this
theorem checksum_eq (l : List UInt8) (hl : l.length ≤ 4611686018427387904) {k : Nat} (hk : l.length < k) : impl_checksum.f k (M l) = some ((sum l : Nat) : Int) ∧ spec_l1Sum.f k (M l) = some ((sum l : Nat) : Int) := by
 unfold impl_checksum.f spec_l1Sum.f sum
 rw [M_size]
 simpa using checksum_l0 l hl l.length k 0 7 (by omega) (by omega) hk
theorem encode_eq {a k : Nat} (ha : a ≤ 1000000000000000000) (c r : List UInt8) (hc : c.length ≤ 1152921504606846976) (hr : r.length ≤ 1152921504606846976) (hk : c.length + r.length + 60 < k) : impl_encode.f k a (M c) (M r) = some (M (enc a c r)) := by
 have hd := digits_len_aux 19 a (by omega)
 have hb := body_len a c r
 have hs := sum_lt (body a c r)
 have hd2 := digits_len_aux 5 (sum (body a c r)) (by omega)
 unfold impl_encode.f
 rw [decimal_eq (by omega) (by omega), itoa_nat]
 simp only [Option.bind_some, show (⟨#[32]⟩ : ByteArray) = M [32] from rfl, show (⟨#[64]⟩ : ByteArray) = M [64] from rfl, show (⟨#[35]⟩ : ByteArray) = M [35] from rfl, show (⟨#[10]⟩ : ByteArray) = M [10] from rfl, sc_M, M_size]
 have e : decDigits a ++ [32] ++ c ++ [64] ++ r = body a c r := by simp [body]
 rw [e]
 have hks : (body a c r).length < k := by omega
 rw [(checksum_eq (body a c r) (by omega) hks).1]
 simp only [Option.bind_some]
 rw [decimal_eq (by omega) (by omega), itoa_nat]
 simp only [Option.bind_some, sc_M, M_size]
 rw [if_pos (by omega), if_pos (by simp; omega), if_pos (by simp; omega), if_pos (by simp; omega), if_pos (by omega), if_pos (by simp; omega), if_pos (by simp; omega)]
 simp [enc, line]
theorem line_eq {a k : Nat} (ha : a ≤ 1000000000000000000) (c r : List UInt8) (hc : c.length ≤ 1152921504606846976) (hr : r.length ≤ 1152921504606846976) (hk : c.length + r.length + 60 < k) : spec_l27Line.f k a (M c) (M r) = some (M (enc a c r)) := by
 have hd := digits_len_aux 19 a (by omega)
 have hb := body_len a c r
 have hs := sum_lt (body a c r)
 have hd2 := digits_len_aux 5 (sum (body a c r)) (by omega)
 unfold spec_l27Line.f
 rw [num_of ha (by omega)]
 simp only [Option.bind_some, show (⟨#[32]⟩ : ByteArray) = M [32] from rfl, show (⟨#[64]⟩ : ByteArray) = M [64] from rfl, show (⟨#[10]⟩ : ByteArray) = M [10] from rfl, sc_M, M_size]
 have e : decDigits a ++ [32] ++ c ++ [64] ++ r = body a c r := by simp [body]
 rw [e]
 have hks : (body a c r).length < k := by omega
 have hseal : spec_l1Seal.f k (M (body a c r)) = some (M (line a c r)) := by
  unfold spec_l1Seal.f
  rw [(checksum_eq (body a c r) (by omega) hks).2]
  simp only [Option.bind_some]
  rw [num_of (by omega) (by omega)]
  simp only [Option.bind_some, show (⟨#[35]⟩ : ByteArray) = M [35] from rfl, sc_M, M_size]
  rw [if_pos (by omega), if_pos (by simp; omega)]
  simp [line]
 rw [hseal]
 simp only [Option.bind_some, sc_M, M_size]
 have hll : (line a c r).length = (body a c r).length + 1 + (decDigits (sum (body a c r))).length := by simp [line]; omega
 rw [if_pos (by omega), if_pos (by simp; omega), if_pos (by simp; omega), if_pos (by simp; omega), if_pos (by omega)]
 rfl
def pieces (c : UInt8) : List UInt8 → List (List UInt8)
 | [] => [[]]
 | x :: l => if x = c then [] :: pieces c l else match pieces c l with
  | [] => [[x]]
  | p :: ps => (x :: p) :: ps
theorem pieces_ne (c : UInt8) : ∀ l, ∃ p ps, pieces c l = p :: ps
 | [] => ⟨[], [], rfl⟩
 | x :: l => by
  obtain ⟨p, ps, h⟩ := pieces_ne c l
  by_cases e : x = c
  ·
   exact ⟨_, _, by simp [pieces, e]; exact ⟨rfl, rfl⟩⟩
  ·
   exact ⟨_, _, by simp [pieces, e, h]; exact ⟨rfl, rfl⟩⟩
theorem pieces_len (c : UInt8) : ∀ l, (pieces c l).length ≤ l.length + 1
 | [] => by simp [pieces]
 | x :: l => by
  have := pieces_len c l
  by_cases e : x = c
  ·
   simp [pieces, e]; omega
  ·
   obtain ⟨p, ps, h⟩ := pieces_ne c l
   rw [h] at this
   simp [pieces, e, h] at this ⊢
   omega
theorem pieces_head (c : UInt8) : ∀ l, ∃ ps, pieces c l = upto c l :: ps ∧ (ps ≠ [] ↔ c ∈ l)
 | [] => ⟨[], rfl, by simp⟩
 | x :: l => by
  by_cases e : x = c
  ·
   obtain ⟨p, ps, h⟩ := pieces_ne c l
   refine ⟨pieces c l, by simp [pieces, upto, e], ?_⟩
   rw [h]
   simp [e]
  ·
   obtain ⟨ps, h, h2⟩ := pieces_head c l
   refine ⟨ps, by simp [pieces, upto, e, h], ?_⟩
   rw [h2]
   have : ¬ c = x := fun h => e h.symm
   simp [this]
def glue (p : List UInt8) : List (List UInt8) → List (List UInt8)
 | [] => [p]
 | q :: qs => (p ++ q) :: qs
theorem split_l0 (l : List UInt8) (c : Nat) (hc : c < 256) (hl : l.length ≤ 1099511627776) (d : Nat) : ∀ (k i j : Nat) (acc : List ByteArray), i + d = l.length → j ≤ i → d < k → acc.length + d ≤ 2199023255552 →
  spec_l1Split.l0 k (M l) c acc j i = some (acc ++ (glue ((l.drop j).take (i - j)) (pieces (UInt8.ofNat c) (l.drop i))).map M) := by
 induction d with
 | zero =>
  intro k i j acc hd hj hk ha
  obtain ⟨k, rfl⟩ : ∃ m, k = m + 1 := ⟨k - 1, by omega⟩
  simp only [spec_l1Split.l0]
  rw [M_size, if_neg (by omega), if_pos (by omega), if_pos (by omega), if_pos (by omega), List.drop_of_length_le (i := i) (by omega), sx_M, Int.toNat_natCast]
  simp only [pieces, glue, List.append_nil, List.map_cons, List.map_nil]
  rw [List.take_of_length_le (by simp), List.take_of_length_le (by first | omega | (simp; done) | (simp; omega))]
 | succ d ih =>
  intro k i j acc hd hj hk ha
  obtain ⟨k, rfl⟩ : ∃ m, k = m + 1 := ⟨k - 1, by omega⟩
  simp only [spec_l1Split.l0]
  rw [M_size, if_pos (by omega), if_pos (by omega), bt_M, drop_at l i (by omega)]
  have hx : (l.drop j).take (i + 1 - j) = (l.drop j).take (i - j) ++ [l.getD i 0] := by
   rw [show i + 1 - j = (i - j) + 1 by omega, List.take_add_one, List.getElem?_drop, show j + (i - j) = i by omega, List.getElem?_eq_getElem (by omega), List.getD_eq_getElem?_getD, List.getElem?_eq_getElem (by omega)]
   rfl
  generalize hxx : l.getD i 0 = x at hx ⊢
  rw [w64 (x := (i : Int) + 1) (by omega) (by omega)]
  by_cases h1 : (x.toNat : Int) = (c : Int)
  ·
   have he : x = UInt8.ofNat c := (byte_eq x c hc).1 h1
   rw [if_pos h1, if_pos (by omega), if_pos (by omega), if_pos (by omega), if_pos (by omega), sx_M, Int.toNat_natCast, Int.toNat_natCast]
   have := ih k (i + 1) (i + 1) (acc ++ [M ((l.drop j).take (i - j))]) (by omega) (by omega) (by omega) (by first | omega | (simp; done) | (simp; omega))
   rw [show ((i + 1 : Nat) : Int) = (i : Int) + 1 by omega] at this
   rw [this]
   obtain ⟨p, ps, hp⟩ := pieces_ne (UInt8.ofNat c) (l.drop (i + 1))
   simp [pieces, he, glue, hp]
  ·
   have he : ¬ x = UInt8.ofNat c := fun e => h1 ((byte_eq x c hc).2 e)
   rw [if_neg h1]
   have := ih k (i + 1) j acc (by omega) (by omega) (by omega) (by omega)
   rw [show ((i + 1 : Nat) : Int) = (i : Int) + 1 by omega] at this
   rw [this, hx]
   obtain ⟨p, ps, hp⟩ := pieces_ne (UInt8.ofNat c) (l.drop (i + 1))
   simp [pieces, he, glue, hp]
theorem split_eq (l : List UInt8) (c : Nat) (hc : c < 256) (hl : l.length ≤ 1099511627776) {k : Nat} (hk : l.length < k) : spec_l1Split.f k (M l) c = some ((pieces (UInt8.ofNat c) l).map M) := by
 unfold spec_l1Split.f
 have := split_l0 l c hc hl l.length k 0 0 [] (by omega) (by omega) hk (by first | omega | (simp; done) | (simp; omega))
 obtain ⟨p, ps, hp⟩ := pieces_ne (UInt8.ofNat c) l
 simpa [glue, hp] using this
theorem split_head (l : List UInt8) (c : Nat) (hc : c < 256) (hl : l.length ≤ 1099511627776) {k : Nat} (hk : l.length < k) :
  ∃ ps : List ByteArray, spec_l1Split.f k (M l) c = some (M (upto (UInt8.ofNat c) l) :: ps) ∧ (ps ≠ [] ↔ UInt8.ofNat c ∈ l) ∧ ps.length ≤ l.length := by
 obtain ⟨ps, h1, h2⟩ := pieces_head (UInt8.ofNat c) l
 refine ⟨ps.map M, by rw [split_eq l c hc hl hk, h1]; rfl, by rw [← h2]; simp, ?_⟩
 have := pieces_len (UInt8.ofNat c) l
 rw [h1] at this
 simpa using this
theorem rd_head (a : ByteArray) (ps : List ByteArray) : rdOf ByteArray.empty (a :: ps) 0 = a := rfl
theorem readRecord_eq {k K : Nat} (s : List UInt8) (hs : s.length ≤ 1099511627776) (hk : k ≤ 1000000) (hK : 2 * s.length + 100 < K) :
  impl_readRecord.f K k (M s) = some (match dec k s with | some (c, r, n) => (M c, M r, (n : Int), true) | none => (M [], M [], 0, false)) := by
 have l1 := upto_len (c := 10) s
 have l2 := upto_len (c := 35) (upto 10 s)
 have l3 : ∀ (c : UInt8) (l : List UInt8), (after c l).length ≤ l.length := fun c l => by
  by_cases h : c ∈ l
  ·
   rw [after_drop c h, List.length_drop]; omega
  ·
   rw [after_none h]; simp
 have l4 := l3 32 (upto 35 (upto 10 s))
 have l5 := upto_len (c := 64) (after 32 (upto 35 (upto 10 s)))
 have l6 := l3 64 (after 32 (upto 35 (upto 10 s)))
 unfold impl_readRecord.f
 rw [show (⟨#[10]⟩ : ByteArray) = M [10] from rfl, show (⟨#[35]⟩ : ByteArray) = M [35] from rfl, show (⟨#[32]⟩ : ByteArray) = M [32] from rfl, show (⟨#[64]⟩ : ByteArray) = M [64] from rfl, cut_eq s 10 (by omega)]
 simp only [Option.bind_some]
 rw [cut_eq _ 35 (by omega)]
 simp only [Option.bind_some]
 rw [cut_eq _ 32 (by omega)]
 simp only [Option.bind_some]
 rw [cut_eq _ 64 (by omega)]
 simp only [Option.bind_some]
 unfold dec
 generalize after 32 (upto 35 (upto 10 s)) = rest at l4 l5 l6 ⊢
 by_cases h1 : (10 : UInt8) ∈ s
 ·
  rw [if_pos (by simpa using h1)]
  by_cases h2 : 60 ≤ k
  ·
   rw [if_pos (by omega), if_neg (by omega)]
   rfl
  ·
   rw [if_neg (by omega), isRec_eq _ _ (by omega) (by omega) (by omega)]
   simp only [Option.bind_some, decide_eq_true_eq]
   by_cases h3 : Ok (upto 64 rest) (after 64 rest)
   ·
    rw [if_pos h3, encode_eq (by omega) _ _ (by omega) (by omega) (by omega)]
    simp only [Option.bind_some]
    rw [M_size, if_pos (by omega), sc_M, M_toList, M_toList]
    by_cases h4 : enc k (upto 64 rest) (after 64 rest) = upto 10 s ++ [10]
    ·
     rw [if_pos h4, if_pos ⟨h1, by omega, h3, h4⟩, w64 (by omega) (by omega)]
     simp
    ·
     rw [if_neg h4, if_neg (fun h => h4 h.2.2.2)]
     rfl
   ·
    rw [if_neg h3, if_neg (fun h => h3 h.2.2.1)]
    rfl
 ·
  rw [if_neg (by simpa using h1), if_neg (fun h => h1 h.1)]
  rfl
theorem read_eq {k K : Nat} (s : List UInt8) (hs : s.length ≤ 1099511627776) (hk : k ≤ 1000000) (hK : 4 * s.length + 200 < K) :
  ∃ (c r : List UInt8) (b : Bool), spec_l27Read.f K (M s) k = some (M c, M r, b) ∧ (b = true → Ok c r ∧ enc k c r = s ++ [10]) ∧ (∀ c' r', Ok c' r' → enc k c' r' = s ++ [10] → b = true ∧ c = c' ∧ r = r') := by
 have hd := digits_len_aux 7 k (by omega)
 obtain ⟨ps, hp, _, _⟩ := split_head s 35 (by omega) hs (k := K) (by omega)
 have l1 := upto_len (c := 35) s
 have hline : ∀ c' r', Ok c' r' → enc k c' r' = s ++ [10] → upto 35 s = decDigits k ++ 32 :: (c' ++ 64 :: r') := fun c' r' ho he => by
  have : s = line k c' r' := by
   have := congrArg List.dropLast he
   simpa [enc] using this.symm
  rw [this, line_text ho]
  rfl
 unfold spec_l27Read.f
 rw [num_of (by omega) (by omega)]
 simp only [Option.bind_some]
 rw [M_size, if_pos (by omega), show (35 : Int) = ((35 : Nat) : Int) from rfl, hp]
 simp only [Option.bind_some]
 rw [if_pos (by first | omega | (simp; done) | (simp; omega)), rd_head, show (⟨#[32]⟩ : ByteArray) = M [32] from rfl, sc_M, M_size, M_size, show UInt8.ofNat 35 = 35 from rfl]
 generalize htx : upto 35 s = text at l1 hline ⊢
 have hlen : (decDigits k ++ [32]).length = (decDigits k).length + 1 := by simp
 obtain ⟨K1, rfl⟩ : ∃ m, K = m + 1 := ⟨K - 1, by omega⟩
 have fail : spec_l27Read.j0 (K1 + 1) (M s) k (M (decDigits k ++ [32])) (M text) true = some (M [], M [], false) := by
  simp only [spec_l27Read.j0]
  rfl
 by_cases h1 : text.length < (decDigits k ++ [32]).length
 ·
  rw [if_pos (by omega), fail]
  refine ⟨[], [], false, rfl, by simp, fun c' r' ho he => ?_⟩
  have := hline c' r' ho he
  rw [this] at h1
  simp only [List.length_append, List.length_cons, List.length_nil] at h1
  omega
 ·
  rw [if_neg (by omega), if_pos (by omega), if_pos (by omega), sx_M, M_toList, M_toList, List.drop_zero, Nat.sub_zero]
  by_cases h2 : text.take (decDigits k ++ [32]).length = decDigits k ++ [32]
  ·
   have hb : (List.take (decDigits k ++ [32]).length text != decDigits k ++ [32]) = false := by simpa using h2
   rw [hb]
   simp only [spec_l27Read.j0]
   rw [if_neg (by simp), M_size, M_size, if_pos (by omega), if_pos (by omega), sx_M, List.take_of_length_le (by simp)]
   generalize hrest : text.drop (decDigits k ++ [32]).length = rest
   have hrl : rest.length = text.length - (decDigits k ++ [32]).length := by rw [← hrest, List.length_drop]
   obtain ⟨qs, hq, _, _⟩ := split_head rest 64 (by omega) (by omega) (k := K1) (by omega)
   rw [show (64 : Int) = ((64 : Nat) : Int) from rfl, hq]
   simp only [Option.bind_some]
   rw [if_pos (by first | omega | (simp; done) | (simp; omega)), rd_head, M_size, M_size, show UInt8.ofNat 64 = 64 from rfl]
   have hcr : ∀ c' r', Ok c' r' → enc k c' r' = s ++ [10] → rest = c' ++ 64 :: r' := fun c' r' ho he => by
    rw [← hrest, hline c' r' ho he, show decDigits k ++ 32 :: (c' ++ 64 :: r') = (decDigits k ++ [32]) ++ (c' ++ 64 :: r') by simp]
    exact List.drop_left
   by_cases h3 : (64 : UInt8) ∈ rest
   ·
    have hlt := upto_lt h3
    rw [if_neg (by omega), w64 (by omega) (by omega), if_pos (by omega), if_pos (by omega), sx_M, show (((upto 64 rest).length : Int) + 1).toNat = (upto 64 rest).length + 1 by omega, List.take_of_length_le (by simp), ← after_drop 64 h3]
    have l6 : (after 64 rest).length ≤ rest.length := by rw [after_drop 64 h3, List.length_drop]; omega
    rw [good_eq _ _ (by omega) (by omega) (by omega)]
    simp only [Option.bind_some, decide_eq_true_eq]
    have hun : ∀ c' r', Ok c' r' → enc k c' r' = s ++ [10] → upto 64 rest = c' ∧ after 64 rest = r' := fun c' r' ho he => by
     rw [hcr c' r' ho he, rest_cmd ho, rest_rep ho]
     exact ⟨rfl, rfl⟩
    by_cases h4 : Ok (upto 64 rest) (after 64 rest)
    ·
     rw [if_pos h4, line_eq (by omega) _ _ (by omega) (by omega) (by omega)]
     simp only [Option.bind_some]
     rw [M_size, if_pos (by omega), show (⟨#[10]⟩ : ByteArray) = M [10] from rfl, sc_M, M_toList, M_toList]
     refine ⟨_, _, _, rfl, fun h => ⟨h4, by simpa using h⟩, fun c' r' ho he => ?_⟩
     obtain ⟨e1, e2⟩ := hun c' r' ho he
     refine ⟨?_, e1, e2⟩
     rw [e1, e2, he]
     simp
    ·
     rw [if_neg h4]
     refine ⟨_, _, false, rfl, by simp, fun c' r' ho he => ?_⟩
     obtain ⟨e1, e2⟩ := hun c' r' ho he
     rw [e1, e2] at h4
     exact absurd ho h4
   ·
    rw [upto_none h3, if_pos rfl]
    refine ⟨[], [], false, rfl, by simp, fun c' r' ho he => ?_⟩
    rw [hcr c' r' ho he] at h3
    exact absurd h3 (by simp)
  ·
   have hb : (List.take (decDigits k ++ [32]).length text != decDigits k ++ [32]) = true := by simpa using h2
   rw [hb, fail]
   refine ⟨[], [], false, rfl, by simp, fun c' r' ho he => ?_⟩
   have h5 := hline c' r' ho he
   rw [show decDigits k ++ 32 :: (c' ++ 64 :: r') = (decDigits k ++ [32]) ++ (c' ++ 64 :: r') by simp] at h5
   rw [h5, List.take_left] at h2
   exact absurd rfl h2
theorem dec_iff {k : Nat} {s c r : B} {n : Nat} : dec k s = some (c, r, n) ↔ k < 60 ∧ (10 : UInt8) ∈ s ∧ Ok c r ∧ enc k c r = upto 10 s ++ [10] ∧ n = (upto 10 s).length + 1 := by
 constructor
 ·
  intro h
  unfold dec at h
  split at h
  ·
   rename_i hc
   simp only [Option.some.injEq, Prod.mk.injEq] at h
   obtain ⟨rfl, rfl, rfl⟩ := h
   exact ⟨hc.2.1, hc.1, hc.2.2.1, hc.2.2.2, rfl⟩
  ·
   cases h
 ·
  rintro ⟨h1, h2, h3, h4, rfl⟩
  refine dec_some.2 ⟨h1, h3, ?_, by rw [h4]; simp⟩
  rw [h4]
  refine ⟨after 10 s, ?_⟩
  rw [List.append_assoc, List.singleton_append, ← cut_at h2]
def R27 (x : B × B × Nat) : S27 := ⟨M x.1, M x.2.1⟩
theorem open_l0 (s : List UInt8) (hs : s.length ≤ 1099511627776) (m : Nat) : ∀ (K at_ : Nat) (acc : List S27), acc.length + m = 60 → at_ ≤ s.length → 2 * m + 4 * s.length + 300 < K →
  spec_l27Open.l0 K (M s) acc at_ = some (acc ++ (all m acc.length (s.drop at_)).map R27, ((at_ + tot (all m acc.length (s.drop at_)) : Nat) : Int)) := by
 induction m with
 | zero =>
  intro K at_ acc ha hat hK
  obtain ⟨K, rfl⟩ : ∃ m, K = m + 1 + 1 := ⟨K - 2, by omega⟩
  simp only [spec_l27Open.l0]
  have : decide ((acc.length : Int) < 60) = false := by simp; omega
  rw [this, ite_self]
  simp [spec_l27Open.j1, all, tot]
 | succ m ih =>
  intro K at_ acc ha hat hK
  obtain ⟨K, rfl⟩ : ∃ m, K = m + 1 + 1 := ⟨K - 2, by omega⟩
  simp only [spec_l27Open.l0]
  have hd : decide ((acc.length : Int) < 60) = true := by simp; omega
  rw [M_size, hd]
  by_cases hlt : at_ < s.length
  ·
   rw [if_pos (by omega)]
   have hrl : (s.drop at_).length = s.length - at_ := List.length_drop
   have hsx : sx (M s) (((at_ : Int) : Int).toNat) s.length = M (s.drop at_) := by
    rw [sx_M, Int.toNat_natCast, List.take_of_length_le (by simp)]
   generalize hrest : s.drop at_ = rest at hrl hsx ⊢
   have lu := upto_len (c := 10) rest
   obtain ⟨ps, hp, hpn, _⟩ := split_head rest 10 (by omega) (by omega) (k := K) (by omega)
   obtain ⟨c, r, b, hr, hb, hu⟩ := read_eq (k := acc.length) (K := K) (upto 10 rest) (by omega) (by omega) (by omega)
   simp only [spec_l27Open.j1]
   rw [if_pos trivial, if_pos (by omega), M_size, if_pos (by omega), hsx, show (10 : Int) = ((10 : Nat) : Int) from rfl, hp]
   simp only [Option.bind_some]
   rw [if_pos (by first | omega | (simp; done) | (simp; omega)), rd_head, show UInt8.ofNat 10 = 10 from rfl, hr]
   simp only [Option.bind_some]
   by_cases h2 : ps = []
   ·
    have h10 : (10 : UInt8) ∉ rest := fun h => absurd h2 (hpn.2 h)
    have hn : dec acc.length rest = none := by
     cases h : dec acc.length rest with
     | none => rfl
     | some x => obtain ⟨c', r', n'⟩ := x; exact absurd (dec_iff.1 h).2.1 h10
    rw [if_pos (by rw [h2]; simp), all_none hn]
    simp [tot]
   ·
    have h10 : (10 : UInt8) ∈ rest := hpn.1 h2
    have hpl : 0 < ps.length := List.length_pos_iff.2 h2
    rw [if_neg (by first | omega | (simp; omega))]
    cases hbb : b with
    | true =>
     subst hbb
     obtain ⟨ho, he⟩ := hb rfl
     have hdec : dec acc.length rest = some (c, r, (upto 10 rest).length + 1) := dec_iff.2 ⟨by omega, h10, ho, he, rfl⟩
     have hlt' := upto_lt h10
     rw [if_pos rfl, if_pos (by omega), M_size, w64 (x := (at_ : Int) + ((upto 10 rest).length : Nat)) (by omega) (by omega), w64 (by omega) (by omega)]
     have := ih K (at_ + ((upto 10 rest).length + 1)) (acc ++ [⟨M c, M r⟩]) (by simp; omega) (by omega) (by omega)
     rw [show ((at_ : Int) + ((upto 10 rest).length : Nat) + 1) = ((at_ + ((upto 10 rest).length + 1) : Nat) : Int) by omega, this, all_some hdec, tot_cons, ← List.drop_drop, hrest]
     simp [R27]
     omega
    | false =>
     subst hbb
     have hn : dec acc.length rest = none := by
      cases h : dec acc.length rest with
      | none => rfl
      | some x =>
       obtain ⟨c', r', n'⟩ := x
       obtain ⟨_, _, ho, he, _⟩ := dec_iff.1 h
       exact absurd (hu c' r' ho he).1 (by simp)
     rw [if_neg (by simp), all_none hn]
     simp [tot]
  ·
   rw [if_neg (by omega), List.drop_of_length_le (by omega), all_nil]
   simp [spec_l27Open.j1, tot]
theorem open_eq (s : List UInt8) (hs : s.length ≤ 1099511627776) {K : Nat} (hK : 4 * s.length + 500 < K) : spec_l27Open.f K (M s) = some ((all 60 0 s).map R27, ((tot (all 60 0 s) : Nat) : Int)) := by
 unfold spec_l27Open.f
 have := open_l0 s hs 60 K 0 [] rfl (Nat.zero_le _) (by omega)
 simpa using this
def sums (a : Nat) : List (B × B × Nat) → List Int
 | [] => []
 | x :: xs => ((a + x.2.2 : Nat) : Int) :: sums (a + x.2.2) xs
theorem rd_last (E : List Int) (a : Int) : rd (E ++ [a]) (((E ++ [a]).length : Int) - 1) = a := by
 unfold rd
 rw [List.length_append, show (((E.length + [a].length : Nat) : Int) - 1).toNat = E.length by simp, List.getD_eq_getElem?_getD, List.getElem?_append_right (Nat.le_refl _), Nat.sub_self]
 rfl
theorem reads_l0 (s : List UInt8) (hs : s.length ≤ 1099511627776) (m : Nat) : ∀ (K at_ : Nat) (acc : List S27) (E : List Int), acc.length + m = 60 → E.length ≤ acc.length → at_ ≤ s.length → m + 2 * s.length + 200 < K →
  impl_readRecords.l0 K (M s) acc (E ++ [(at_ : Int)]) = some (acc ++ (all m acc.length (s.drop at_)).map R27, E ++ [(at_ : Int)] ++ sums at_ (all m acc.length (s.drop at_))) := by
 induction m with
 | zero =>
  intro K at_ acc E ha hE hat hK
  obtain ⟨K, rfl⟩ : ∃ m, K = m + 1 := ⟨K - 1, by omega⟩
  have hl : (E ++ [(at_ : Int)]).length = E.length + 1 := by simp
  simp only [impl_readRecords.l0]
  rw [w64 (by omega) (by omega), if_pos (by omega), if_pos (by omega), rd_last, M_size, if_pos (by omega), if_pos (by omega), sx_M, Int.toNat_natCast, List.take_of_length_le (by simp), readRecord_eq _ (by simp; omega) (by omega) (by simp; omega)]
  have hn : dec acc.length (s.drop at_) = none := by
   cases h : dec acc.length (s.drop at_) with
   | none => rfl
   | some x => obtain ⟨c', r', n'⟩ := x; have := (dec_iff.1 h).1; omega
  rw [hn]
  simp [all, sums]
 | succ m ih =>
  intro K at_ acc E ha hE hat hK
  obtain ⟨K, rfl⟩ : ∃ m, K = m + 1 := ⟨K - 1, by omega⟩
  have hl : (E ++ [(at_ : Int)]).length = E.length + 1 := by simp
  have hdl : (s.drop at_).length = s.length - at_ := List.length_drop
  simp only [impl_readRecords.l0]
  rw [w64 (by omega) (by omega), if_pos (by omega), if_pos (by omega), rd_last, M_size, if_pos (by omega), if_pos (by omega), sx_M, Int.toNat_natCast, List.take_of_length_le (by simp), readRecord_eq _ (by omega) (by omega) (by omega)]
  cases h : dec acc.length (s.drop at_) with
  | none =>
   rw [all_none h]
   simp [sums]
  | some x =>
   obtain ⟨c, r, n⟩ := x
   have hn := dec_le h
   simp only [Option.bind_some]
   rw [if_pos trivial, if_pos (by omega), if_pos (by omega), w64 (by omega) (by omega)]
   have := ih K (at_ + n) (acc ++ [⟨M c, M r⟩]) (E ++ [(at_ : Int)]) (by simp; omega) (by simp; omega) (by omega) (by omega)
   rw [show ((at_ : Int) + (n : Int)) = ((at_ + n : Nat) : Int) by omega, this, all_some h, ← List.drop_drop]
   simp [sums, R27]
theorem reads_eq (s : List UInt8) (hs : s.length ≤ 1099511627776) {K : Nat} (hK : 2 * s.length + 300 < K) : impl_readRecords.f K (M s) = some ((all 60 0 s).map R27, 0 :: sums 0 (all 60 0 s)) := by
 unfold impl_readRecords.f
 have := reads_l0 s hs 60 K 0 [] [] rfl (Nat.le_refl _) (Nat.zero_le _) (by omega)
 simpa using this
theorem sums_len (l : List (B × B × Nat)) : ∀ a, (sums a l).length = l.length := by
 induction l with
 | nil => intro a; rfl
 | cons x l ih => intro a; simp [sums, ih]
theorem sums_last (l : List (B × B × Nat)) : ∀ a : Nat, ∃ E, (a : Int) :: sums a l = E ++ [((a + tot l : Nat) : Int)] := by
 induction l with
 | nil => intro a; exact ⟨[], by simp [sums, tot]⟩
 | cons x l ih =>
  intro a
  obtain ⟨E, h⟩ := ih (a + x.2.2)
  refine ⟨(a : Int) :: E, ?_⟩
  rw [sums, h, tot_cons]
  simp
  omega
theorem rd_sums (l : List (B × B × Nat)) : rd (0 :: sums 0 l) ((((0 : Int) :: sums 0 l).length : Int) - 1) = ((tot l : Nat) : Int) := by
 obtain ⟨E, h⟩ := sums_last l 0
 have h' : (0 : Int) :: sums 0 l = E ++ [((tot l : Nat) : Int)] := by simpa using h
 rw [h', rd_last]
theorem sums_mem (l : List (B × B × Nat)) : ∀ (a n : Nat), (n : Int) ∈ ((a : Int) :: sums a l) ↔ ∃ j, j ≤ l.length ∧ a + tot (l.take j) = n := by
 induction l with
 | nil =>
  intro a n
  constructor
  ·
   intro h
   simp [sums] at h
   exact ⟨0, Nat.le_refl _, by simp [tot]; omega⟩
  ·
   rintro ⟨j, _, h⟩
   simp [tot] at h
   simp [sums]
   omega
 | cons x l ih =>
  intro a n
  rw [sums, List.mem_cons, ih (a + x.2.2) n]
  constructor
  ·
   rintro (h | ⟨j, hj, h⟩)
   ·
    exact ⟨0, Nat.zero_le _, by simp [tot]; omega⟩
   ·
    exact ⟨j + 1, by simpa using hj, by rw [List.take_succ_cons, tot_cons]; omega⟩
  ·
   rintro ⟨j, hj, h⟩
   cases j with
   | zero => simp [tot] at h; exact .inl (by omega)
   | succ j => rw [List.take_succ_cons, tot_cons] at h; exact .inr ⟨j, by simpa using hj, by omega⟩
theorem has_l0 (l : List Int) (x : Int) (hl : l.length ≤ 4611686018427387904) (d : Nat) : ∀ (k i : Nat), i + d = l.length → d < k → ∃ r : Int, slices_Index_int_int.l0 k l x l.length i = some r ∧ (0 ≤ r ↔ x ∈ l.drop i) := by
 induction d with
 | zero =>
  intro k i hd hk
  obtain ⟨k, rfl⟩ : ∃ m, k = m + 1 := ⟨k - 1, by omega⟩
  refine ⟨-1, ?_, ?_⟩
  ·
   simp only [slices_Index_int_int.l0]
   rw [if_neg (by omega)]
  ·
   rw [List.drop_of_length_le (by omega)]
   simp
 | succ d ih =>
  intro k i hd hk
  obtain ⟨k, rfl⟩ : ∃ m, k = m + 1 := ⟨k - 1, by omega⟩
  have hx : l.drop i = rd l i :: l.drop (i + 1) := by
   unfold rd
   rw [Int.toNat_natCast, List.drop_eq_getElem_cons (by omega), List.getD_eq_getElem?_getD, List.getElem?_eq_getElem (by omega)]
   rfl
  simp only [slices_Index_int_int.l0]
  rw [if_pos (by omega), if_pos (by omega), if_pos (by omega), hx, w64 (by omega) (by omega)]
  by_cases h : x = rd l i
  ·
   rw [if_pos h]
   exact ⟨i, rfl, by simp [h]⟩
  ·
   rw [if_neg h]
   obtain ⟨r, h1, h2⟩ := ih k (i + 1) (by omega) (by omega)
   rw [show ((i + 1 : Nat) : Int) = (i : Int) + 1 by omega] at h1
   exact ⟨r, h1, by rw [h2]; simp [h]⟩
theorem has_eq (l : List Int) (x : Int) (hl : l.length ≤ 4611686018427387904) {k : Nat} (hk : l.length < k) : impl_has.f k l x = some (decide (x ∈ l)) := by
 unfold impl_has.f slices_Contains_int_int.f slices_Index_int_int.f
 obtain ⟨r, h1, h2⟩ := has_l0 l x hl l.length k 0 (by omega) hk
 rw [show ((0 : Nat) : Int) = 0 from rfl] at h1
 rw [h1]
 simp only [Option.bind_some]
 exact dec_of (by rw [decide_eq_true_eq]; simpa using h2)
def Good (D P : List UInt8) (C : Int) : Prop := tot (all 60 0 (D ++ P)) = (D ++ P).length ∧ tot (all 60 0 D) = D.length ∧ C = ((all 60 0 (D ++ P)).length : Int)
instance (D P : List UInt8) (C : Int) : Decidable (Good D P C) := inferInstanceAs (Decidable (_ ∧ _))
theorem Good.le {D P : List UInt8} {C : Int} (h : Good D P C) : (D ++ P).length ≤ 22320 := by
 have := all_tot372 60 0 (D ++ P)
 have := h.1
 omega
theorem records_eq (D P : List UInt8) (C : Int) (hs : (D ++ P).length ≤ 1099511627776) {K : Nat} (hK : 4 * (D ++ P).length + 600 < K) :
  impl_records.f K (M D) (M P) C = some (if Good D P C then ((all 60 0 (D ++ P)).map R27, true) else ([], false)) := by
 have hl : (D ++ P).length = D.length + P.length := List.length_append
 have h60 := all_len 60 0 (D ++ P)
 have hsl := sums_len (all 60 0 (D ++ P)) 0
 have hsl' : ((0 : Int) :: sums 0 (all 60 0 (D ++ P))).length = (all 60 0 (D ++ P)).length + 1 := by rw [List.length_cons, hsl]
 unfold impl_records.f
 rw [M_size, M_size, if_pos (by omega), sc_M, reads_eq _ hs (by omega)]
 simp only [Option.bind_some]
 rw [w64 (by omega) (by omega), if_pos (by omega), if_pos (by omega), rd_sums, M_size]
 by_cases h1 : tot (all 60 0 (D ++ P)) = (D ++ P).length
 ·
  rw [if_pos (by omega), has_eq _ _ (by omega) (by omega)]
  simp only [Option.bind_some, decide_eq_true_eq]
  have hm : ((D.length : Int) ∈ ((0 : Int) :: sums 0 (all 60 0 (D ++ P)))) ↔ tot (all 60 0 D) = D.length := by
   have := sums_mem (all 60 0 (D ++ P)) 0 D.length
   rw [show (((0 : Nat)) : Int) = 0 from rfl] at this
   rw [this]
   simpa using ends_iff 60 0 D P
  by_cases h2 : tot (all 60 0 D) = D.length
  ·
   rw [if_pos (hm.2 h2)]
   by_cases h3 : C = ((all 60 0 (D ++ P)).length : Int)
   ·
    have hg : Good D P C := ⟨h1, h2, h3⟩
    rw [if_pos (by rw [List.length_map]; exact h3), if_pos hg]
   ·
    rw [if_neg (by rw [List.length_map]; exact h3), if_neg (show ¬ Good D P C from fun h => h3 h.2.2)]
  ·
   rw [if_neg (fun h => h2 (hm.1 h)), if_neg (show ¬ Good D P C from fun h => h2 h.2.1)]
 ·
  rw [if_neg (by omega), if_neg (show ¬ Good D P C from fun h => h1 h.1)]
theorem log_eq (D P : List UInt8) (C : Int) (hD : D.length ≤ 549755813888) (hP : P.length ≤ 549755813888) {K : Nat} (hK : 4 * (D ++ P).length + 600 < K) : spec_l27Log.f K (M D) (M P) C = some (decide (Good D P C)) := by
 have hl : (D ++ P).length = D.length + P.length := List.length_append
 unfold spec_l27Log.f
 rw [M_size, M_size, w64 (by omega) (by omega), sc_M, open_eq _ (by omega) (by omega), open_eq _ (by omega) (by omega)]
 simp only [Option.bind_some]
 by_cases h0 : (30000 : Int) < (D.length : Int) + (P.length : Int)
 ·
  rw [if_pos h0]
  exact dec_of ⟨fun h => by simp at h, fun h => by have := Good.le h; omega⟩
 ·
  rw [if_neg h0, if_pos (by omega)]
  by_cases h1 : tot (all 60 0 (D ++ P)) = (D ++ P).length
  ·
   rw [if_pos (by omega)]
   by_cases h2 : tot (all 60 0 D) = D.length
   ·
    rw [if_pos (by omega)]
    refine dec_of ?_
    rw [beq_iff_eq, List.length_map]
    exact ⟨fun h => ⟨h1, h2, h.symm⟩, fun h => h.2.2.symm⟩
   ·
    rw [if_neg (by omega)]
    exact dec_of ⟨fun h => by simp at h, fun h => absurd h.2.1 h2⟩
  ·
   rw [if_neg (by omega)]
   exact dec_of ⟨fun h => by simp at h, fun h => absurd h.1 h1⟩
theorem valid_eq (D P : List UInt8) (C : Int) (hs : (D ++ P).length ≤ 1099511627776) {K : Nat} (hK : 4 * (D ++ P).length + 600 < K) : impl_IsValidLog.f K (M D) (M P) C = some (decide (Good D P C)) := by
 unfold impl_IsValidLog.f
 rw [records_eq D P C hs hK]
 simp only [Option.bind_some]
 by_cases h : Good D P C <;> simp [h]
theorem szLog_eq (D P : List UInt8) (C : Int) (hc : D.length ≤ 140737488351232) (hr : P.length ≤ 140737488351232) :
  ∃ t, laws_szLog.f (M D) (M P) C 1048576 = some t ∧ (¬ t < 0 → D.length + P.length ≤ 1048576 ∧ t ≤ 1048576) := by
 unfold laws_szLog.f
 rw [M_size, M_size, w64 (x := 1048576 - (D.length : Int)) (by omega) (by omega), w64 (x := 1048576 - (D.length : Int) - (P.length : Int)) (by omega) (by omega)]
 by_cases a : 1048576 - (D.length : Int) < 0
 ·
  rw [if_pos a]; exact ⟨_, rfl, fun h => absurd (by omega) h⟩
 ·
  rw [if_neg a]
  by_cases b : 1048576 - (D.length : Int) - (P.length : Int) < 0
  ·
   rw [if_pos b]; exact ⟨_, rfl, fun h => absurd (by omega) h⟩
  ·
   rw [if_neg b]; exact ⟨_, rfl, fun _ => by omega⟩
theorem fuel_log {a k : Nat} (hk : k = 4 * a + 700) : 4 * a + 600 < k := by omega
theorem ex_log (a b : ByteArray) : ∃ D P, a = M D ∧ b = M P := by
 obtain ⟨D, h1⟩ := ex_M a
 obtain ⟨P, h2⟩ := ex_M b
 exact ⟨D, P, h1, h2⟩
theorem flip_app (D : List UInt8) {Q : List UInt8} (h : 0 < Q.length) : flipL_ (D ++ Q) = D ++ flipL_ Q := by
 unfold flipL_
 rw [List.length_append, List.set_append_right _ _ (by omega), show D.length + Q.length - 1 - D.length = Q.length - 1 by omega]
 congr 2
 rw [List.getD_eq_getElem?_getD, List.getD_eq_getElem?_getD, List.getElem?_append_right (by omega), show D.length + Q.length - 1 - D.length = Q.length - 1 by omega]
def crashP (P : List UInt8) (n : Nat) (b : Bool) : List UInt8 := if b = true ∧ 0 < n then flipL_ (P.take n) else P.take n
def crashed (D P : List UInt8) (C a : Int) (b : Bool) : ByteArray × Bool := if Good D P C ∧ 0 ≤ a ∧ a ≤ P.length then (M (D ++ crashP P a.toNat b), true) else (M [], false)
theorem flip_M (l : List UInt8) : (⟨(flipL_ (M l).data.toList).toArray⟩ : ByteArray) = M (flipL_ l) := by rw [M_data]; rfl
theorem crash_both (D P : List UInt8) (C a : Int) (b : Bool) (hs : D.length + P.length ≤ 1048576) {k : Nat} (hk : 4 * (D.length + P.length) + 600 < k) :
  spec_CrashLog.f k (M D) (M P) C a b = some (crashed D P C a b) ∧ impl_CrashLog.f k (M D) (M P) C a b = some (crashed D P C a b) := by
 have hl : (D ++ P).length = D.length + P.length := List.length_append
 unfold spec_CrashLog.f impl_CrashLog.f crashed
 rw [log_eq D P C (by omega) (by omega) (by omega), valid_eq D P C (by omega) (by omega), obs, obs, M_size, M_size]
 by_cases g : Good D P C
 ·
  have gl := g.le
  have hz : D.length + P.length ≤ 1000000 := by omega
  rw [decide_eq_true g, if_pos rfl, if_pos rfl]
  by_cases r : 0 ≤ a ∧ a ≤ (P.length : Int)
  ·
   rw [if_pos r, if_pos r, if_pos (show Good D P C ∧ 0 ≤ a ∧ a ≤ (P.length : Int) from ⟨g, r⟩), if_pos hz, if_pos hz, sx_M, List.drop_zero, Nat.sub_zero]
   obtain ⟨n, rfl⟩ : ∃ n : Nat, a = n := ⟨a.toNat, by omega⟩
   rw [Int.toNat_natCast]
   unfold crashP
   by_cases t : b = true ∧ 0 < n
   ·
    have t2 : b = true ∧ (0 : Int) < (n : Int) := ⟨t.1, by omega⟩
    simp only [if_pos t, if_pos t2]
    rw [sc_M, flip_M, flip_M, sc_M, flip_app D (by rw [List.length_take]; omega)]
    exact ⟨rfl, rfl⟩
   ·
    have t2 : ¬ (b = true ∧ (0 : Int) < (n : Int)) := fun h => t ⟨h.1, by omega⟩
    simp only [if_neg t, if_neg t2]
    rw [sc_M]
    exact ⟨rfl, rfl⟩
  ·
   rw [if_neg r, if_neg r, if_neg (show ¬ (Good D P C ∧ 0 ≤ a ∧ a ≤ (P.length : Int)) from fun h => r h.2)]
   exact ⟨rfl, rfl⟩
 ·
  have hf : ¬ (false = true) := by decide
  rw [decide_eq_false g, if_neg hf, if_neg hf, if_neg (show ¬ (Good D P C ∧ 0 ≤ a ∧ a ≤ (P.length : Int)) from fun h => g h.1)]
  exact ⟨rfl, rfl⟩
end Go.Proofs.YtdpinnhgkocjhaaDoor.Pr.Pure

namespace Go.Proofs.YtdpinnhgkocjhaaDoor.Pr.Pure
open Go.RowKit Go.Proofs.YtdpinnhgkocjhaaDoorW.PrintWords Go.Proofs.YtdpinnhgkocjhaaDoorW.PrintLast Go.Proofs.YtdpinnhgkocjhaaDoorW.PrintMore Go.Proofs.YtdpinnhgkocjhaaDoorW.Opens Go.Proofs.YtdpinnhgkocjhaaDoor.Log
set_option linter.unusedVariables false
theorem FnExactCrashLog : FnExactCrashLog.Pure := by
 intro x0 a b h0 h1
 obtain ⟨D, P, hD, hP⟩ := ex_log x0.f0 x0.f1
 obtain ⟨hs0, hs1, hs2⟩ := h0
 rw [hD, M_size] at hs0
 rw [hP, M_size] at hs1
 obtain ⟨t, ht, hb⟩ := szLog_eq D P x0.f2 hs0 hs1
 obtain ⟨k, hk⟩ : ∃ k, k = 4 * (D.length + P.length) + 700 := ⟨_, rfl⟩
 refine ⟨k, ?_⟩
 unfold laws_FnExactCrashLog.f laws_toLog.f
 rw [hD, hP, ht]
 simp only [obs]
 by_cases hn : t < 0
 ·
  rw [if_pos hn]
 ·
  rw [if_neg hn]
  have hle := hb hn
  obtain ⟨r_, e1, e2⟩ : ∃ r_, spec_CrashLog.f k (M D) (M P) x0.f2 a b = some r_ ∧ impl_CrashLog.f k (M D) (M P) x0.f2 a b = some r_ := ⟨_, crash_both D P x0.f2 a b hle.1 (k := k) (fuel_log hk)⟩
  simp only [e1, e2, obs, if_true, bne_self_eq_false, Bool.false_eq_true, if_false]
end Go.Proofs.YtdpinnhgkocjhaaDoor.Pr.Pure

