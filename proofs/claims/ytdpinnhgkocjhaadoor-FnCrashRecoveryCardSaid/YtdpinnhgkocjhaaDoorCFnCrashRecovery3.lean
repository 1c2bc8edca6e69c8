/-
What is proved: parts of the law FnCrashRecovery: what the functions that it reaches compute, and the plain law.
Conditions: those of each theorem.
-/
import Derived.ChangeArms
import Derived.ChangeSlices
import Derived.Deep.Slices
import Derived.Lib.Bytealg
import Derived.Lib.ItoaNum
import Derived.RowKit
import Derived.SizedLaws
import Derived.WideShapes
import Derived.Test.YtdpinnhgkocjhaaDoorCFnCrashRecovery2
namespace Go.Proofs.YtdpinnhgkocjhaaDoor.Pr
open Go.RowKit Go.Proofs.YtdpinnhgkocjhaaDoorW.PrintWords Go.Proofs.YtdpinnhgkocjhaaDoorW.PrintLast Go.Proofs.YtdpinnhgkocjhaaDoorW.PrintMore
attribute [local go_sem] max2_int min2_int max_two min_two max_three min_three max_four min_four   -- for this text's walks alone
set_option linter.unusedVariables false
set_option linter.unusedSimpArgs false
def spec_l1Cur_log.l0 : Nat → Int → List Int → Int → Int → ByteArray → ByteArray → Int → Option (ByteArray × ByteArray × Int × Int × Int)
 | 0, _, _, _, _, _, _, _ => none
 | k + 1, x4, x1000, x1001, x1002, x493000, x493001, x493002 => if x4 > 0 then ((spec_l1Cur_logRecord.f x1000 x1001 x1002).bind fun bt496 => ((spec_AppendRecord.f k x493000 x493001 x493002 bt496.1 bt496.2.1).bind fun bt500 => ((spec_l1Cur_one.f x1000 bt496.2.2.1 bt496.2.2.2 4).bind fun bt504 => (if bt504.1 = true then ((spec_SyncLog.f k bt500.1 bt500.2.1 bt500.2.2.1).bind fun bt507 => (spec_l1Cur_log.l0 k (wrap64 (x4 - 1)) x1000 bt504.2.1 bt504.2.2 bt507.1 bt507.2.1 bt507.2.2.1)) else (spec_l1Cur_log.l0 k (wrap64 (x4 - 1)) x1000 bt504.2.1 bt504.2.2 bt500.1 bt500.2.1 bt500.2.2.1))))) else (some (x493000, x493001, x493002, x1001, x1002))
def spec_l1Cur_log.f (k : Nat) (s0_0 : List Int) (s0_1 : Int) (s0_2 : Int) : Option (ByteArray × ByteArray × Int × Int × Int) := (spec_l1Cur_pick.f s0_0 s0_1 s0_2 7).bind fun bt493 => (spec_l1Cur_log.l0 k bt493.1 s0_0 bt493.2.1 bt493.2.2 (⟨#[]⟩ : ByteArray) (⟨#[]⟩ : ByteArray) 0)
def spec_l1Cur_log.T5 : Bool × List (List Nat × List Nat) := (true, [([], []), ([], []), ([1], [1]), ([0, 2, 2], [0, 2]), ([3], [3]), ([4], [4]), ([4], [4]), ([5, 3, 0, 1, 2, 3, 4, 5], [5])])
def spec_l1Cur_log.B5 : List Nat := [0, 0, 2, 7, 15, 31, 31, 63]
theorem spec_l1Cur_log.tab5 : rtab .any (opsOf Tryd.f60 5) = spec_l1Cur_log.T5 := by kernel_rfl
theorem spec_l1Cur_log.bits5 : waitsOk spec_l1Cur_log.T5.2 spec_l1Cur_log.B5 = true := by kernel_rfl
set_option maxHeartbeats 8000000 in
set_option maxRecDepth 100000 in
theorem spec_l1Cur_log.calls (k : Nat) (g : Nat) (s0_0 : List Int) (s0_1 : Int) (s0_2 : Int) (r1 : ByteArray) (r2 : ByteArray) (r3 : Int) (r4 : Int) (r5 : Int) (w0 w : World) (hI : IsS74 w0 w g s0_0 s0_1 s0_2) (hB : Below w0.heap.size w0 w) (h : spec_l1Cur_log.f k s0_0 s0_1 s0_2 = some (r1, r2, r3, r4, r5)) :
  Calls Tryd.prog 60 #[.pointer (some ⟨g, 0, none⟩)] w fun e w' => e = .returned (.agg #[.string r1, .string r2, .int .i64 r3]) ∧ IsS74 w0 w' g s0_0 r4 r5 ∧ Below w0.heap.size w0 w' ∧ KeepBut w w' g none := by
 have hu31 := Tryd.underlying31
 have HI0 := Aside0.mk hI
 have HK := Aside0.mk (KeepBut.refl w g none)
 have HL := Aside0.mk hB.size
 clear hI
 have HW0 := Aside0.mk hB.size
 have HB := Aside0.mk hB
 clear hB
 have H : ((spec_l1Cur_pick.f s0_0 s0_1 s0_2 7).bind fun bt493 => (spec_l1Cur_log.l0 k bt493.1 s0_0 bt493.2.1 bt493.2.2 (⟨#[]⟩ : ByteArray) (⟨#[]⟩ : ByteArray) 0)) = some (r1, r2, r3, r4, r5) := h
 clear h
 replace H := Option.bind_eq_some_iff.mp H
 obtain ⟨⟨t493, t494, t495⟩, A20, H⟩ := H
 replace H : (spec_l1Cur_log.l0 k t493 s0_0 t494 t495 (⟨#[]⟩ : ByteArray) (⟨#[]⟩ : ByteArray) 0) = some (r1, r2, r3, r4, r5) := H
 have A2 := Aside0.mk A20
 clear A20
 have H' := Aside0.mk H
 clear H
 go_enter Tryd.func60, Tryd.ntmps60
 go_wp2_with (first | ((with_reducible refine gate_dst (N := 2) rfl ?_); refine box_event ?hg (N := 2) ?hd (cs := #[.string (⟨#[]⟩ : ByteArray), .string (⟨#[]⟩ : ByteArray), .int .i64 0]) (t := 31) ?hr ?_; (case hd => rfl); (case hg => rfl); (case hr => first | (go_simp; done) | (go_simp; rfl)); intro gb491 hg w3 hbox hb; replace HB := Aside0.mk (below_step (lb1_ HB.out (IsS74.ge HI0.out)) hb); have BK491 := Aside0.mk (hbox); have GW491 := Aside0.mk ((by rw [hg]; exact (keep_size (w := w) (g := g) (row := none) (kb0_ HK.out)) : w.heap.size ≤ gb491)); have GE491 := Aside0.mk ((Nat.le_trans HW0.out (by rw [hg]; exact (keep_size (w := w) (g := g) (row := none) (kb0_ HK.out)) : w.heap.size ≤ gb491) : w0.heap.size ≤ gb491)); replace HK := Aside0.mk (KeepBut.trans (kb0_ HK.out) (KeepBut.of_below hb g none) (.inl rfl)); have NB0_491 := Aside0.mk ((by rw [hg]; exact Nat.ne_of_lt (IsS74.lt (show IsS74 w0 _ g s0_0 s0_1 s0_2 from is74_0 HI0.out)) : g ≠ gb491)); have NB491_0 := Aside0.mk ((by rw [hg]; exact Nat.ne_of_gt (IsS74.lt (show IsS74 w0 _ g s0_0 s0_1 s0_2 from is74_0 HI0.out)) : gb491 ≠ g)); replace HI0 := Aside0.mk (IsS74.below (is74_0 HI0.out) hb); clear hb hbox hg) | ((with_reducible refine gate_dst (N := 3) rfl ?_); refine box_event ?hg (N := 3) ?hd (cs := #[.string (⟨#[]⟩ : ByteArray), .string (⟨#[]⟩ : ByteArray), .int .i64 0]) (t := 31) ?hr ?_; (case hd => rfl); (case hg => rfl); (case hr => first | (go_simp; done) | (go_simp; rfl)); intro gb492 hg w4 hbox hb; replace HB := Aside0.mk (below_step (lb2_ HB.out (IsS74.ge HI0.out) GE491.out) hb); have BK492 := Aside0.mk (hbox); have GW492 := Aside0.mk ((by rw [hg]; exact (keep_size (w := w) (g := g) (row := none) (kb1_ HK.out GW491.out)) : w.heap.size ≤ gb492)); have GE492 := Aside0.mk ((Nat.le_trans HW0.out (by rw [hg]; exact (keep_size (w := w) (g := g) (row := none) (kb1_ HK.out GW491.out)) : w.heap.size ≤ gb492) : w0.heap.size ≤ gb492)); replace HK := Aside0.mk (KeepBut.trans (kb1_ HK.out GW491.out) (KeepBut.of_below hb g none) (.inl rfl)); have NB491_492 := Aside0.mk ((by rw [hg]; exact Nat.ne_of_lt (blk_lt (g := gb491) (o := .cells #[.string (⟨#[]⟩ : ByteArray), .string (⟨#[]⟩ : ByteArray), .int .i64 0] 31 (0, 0)) (bk_ BK491.out)) : gb491 ≠ gb492)); have NB492_491 := Aside0.mk ((by rw [hg]; exact Nat.ne_of_gt (blk_lt (g := gb491) (o := .cells #[.string (⟨#[]⟩ : ByteArray), .string (⟨#[]⟩ : ByteArray), .int .i64 0] 31 (0, 0)) (bk_ BK491.out)) : gb492 ≠ gb491)); replace BK491 := Aside0.mk (bb_ (bk_ BK491.out) hb); have NB0_492 := Aside0.mk ((by rw [hg]; exact Nat.ne_of_lt (IsS74.lt (show IsS74 w0 _ g s0_0 s0_1 s0_2 from is74_1 HI0.out NB0_491.out)) : g ≠ gb492)); have NB492_0 := Aside0.mk ((by rw [hg]; exact Nat.ne_of_gt (IsS74.lt (show IsS74 w0 _ g s0_0 s0_1 s0_2 from is74_1 HI0.out NB0_491.out)) : gb492 ≠ g)); replace HI0 := Aside0.mk (IsS74.below (is74_1 HI0.out NB0_491.out) hb); clear hb hbox hg; have hnb5 := NB492_491.out; have hnc5 := NB491_492.out; have hnb6 := NB492_0.out; have hnc6 := NB0_492.out; obtain ⟨hcz7_0, hcz7_1, hcz7_2⟩ := cz3_ BK492.out; obtain ⟨hfz7_0, hfz7_1, hfz7_2⟩ := fz3_ BK492.out) | ((with_reducible refine gate_callee (f := 55) rfl ?_); refine ga_ (some 7) Tryd.func55 #[.pointer (some ⟨g, 0, none⟩), .int .i64 7] ?_; (with_reducible refine (spec_l1Cur_pick.calls g s0_0 s0_1 s0_2 7 t493 t494 t495 w0 _ ?side1 ?side2 A2.out).mono ?_); (case side1 => exact is74_2 HI0.out NB0_491.out NB0_492.out); (case side2 => exact lb3_ HB.out (IsS74.ge HI0.out) GE491.out GE492.out); rintro e w8 ⟨rfl, hi, hb, hk⟩; refine ⟨_, rfl, ?_⟩; replace BK491 := Aside0.mk (KeepBut.blk hk (g' := gb491) (o := .cells #[.string (⟨#[]⟩ : ByteArray), .string (⟨#[]⟩ : ByteArray), .int .i64 0] 31 (0, 0)) (by (with_reducible repeat (first | refine blk_drewN ?_ _ | refine blk_drew ?_ | refine blk_alloc ?_ _)); refine blk_far ?_ NB491_492.out _; (with_reducible repeat (first | refine blk_drewN ?_ _ | refine blk_drew ?_ | refine blk_alloc ?_ _)); refine blk_far ?_ NB491_492.out _; (with_reducible repeat (first | refine blk_drewN ?_ _ | refine blk_drew ?_ | refine blk_alloc ?_ _)); refine blk_far ?_ NB491_492.out _; (with_reducible repeat (first | refine blk_drewN ?_ _ | refine blk_drew ?_ | refine blk_alloc ?_ _)); exact BK491.out) NB491_0.out (by simp)); replace BK492 := Aside0.mk (KeepBut.blk hk (g' := gb492) (o := .cells #[.string (⟨#[]⟩ : ByteArray), .string (⟨#[]⟩ : ByteArray), .int .i64 0] 31 (0, 0)) (by (with_reducible repeat (first | refine blk_drewN ?_ _ | refine blk_drew ?_ | refine blk_alloc ?_ _)); refine blk_put (cs := #[.string (⟨#[]⟩ : ByteArray), .string (⟨#[]⟩ : ByteArray), .int .i64 0]) ?_ 2 _ rfl; (with_reducible repeat (first | refine blk_drewN ?_ _ | refine blk_drew ?_ | refine blk_alloc ?_ _)); refine blk_put (cs := #[.string (⟨#[]⟩ : ByteArray), .string (⟨#[]⟩ : ByteArray), .int .i64 0]) ?_ 1 _ rfl; (with_reducible repeat (first | refine blk_drewN ?_ _ | refine blk_drew ?_ | refine blk_alloc ?_ _)); refine blk_put (cs := #[.string (⟨#[]⟩ : ByteArray), .string (⟨#[]⟩ : ByteArray), .int .i64 0]) ?_ 0 _ rfl; (with_reducible repeat (first | refine blk_drewN ?_ _ | refine blk_drew ?_ | refine blk_alloc ?_ _)); exact BK492.out) NB492_0.out (by simp)); replace HK := Aside0.mk (KeepBut.trans (kb2_ HK.out GW491.out GW492.out) hk (.inl rfl)); replace HB := Aside0.mk (hb); replace HI0 := Aside0.mk (hi); (try clear hb); (try clear hb2); (try clear hk); (try clear hi)))
 go_loopg [4] k (fun kq v4 w' => ∃ (x4_1 : Int) (x1001_1 : Int) (x1002_1 : Int) (x493000_1 : ByteArray) (x493001_1 : ByteArray) (x493002_1 : Int), v4 = .int .i64 x4_1 ∧ Aside0 (spec_l1Cur_log.l0 kq x4_1 s0_0 x1001_1 x1002_1 x493000_1 x493001_1 x493002_1 = some (r1, r2, r3, r4, r5)) ∧ Aside0 (kq ≤ k) ∧ Aside0 (w'.heap[gb491]? = some (.cells #[.string (⟨#[]⟩ : ByteArray), .string (⟨#[]⟩ : ByteArray), .int .i64 0] 31 (0, 0))) ∧ Aside0 (w'.heap[gb492]? = some (.cells #[.string x493000_1, .string x493001_1, .int .i64 x493002_1] 31 (0, 0))) ∧ Aside0 (IsS74 w0 w' g s0_0 x1001_1 x1002_1) ∧ Aside0 (KeepBut w w' g none) ∧ Aside0 (Below w0.heap.size w0 w'))
 case atStart => exact ⟨(t493), (t494), (t495), ((⟨#[]⟩ : ByteArray)), ((⟨#[]⟩ : ByteArray)), (0), (by first | rfl | (simp; done) | (simp [*]; done)), H', ⟨Nat.le_refl _⟩, ⟨bk_ BK491.out⟩, ⟨bk_ BK492.out⟩, ⟨is74_2 HI0.out NB0_491.out NB0_492.out⟩, ⟨kb2_ HK.out GW491.out GW492.out⟩, ⟨lb3_ HB.out (IsS74.ge HI0.out) GE491.out GE492.out⟩⟩
 case round =>
  clear H'
  try clear p2
  try clear c5
  try clear c6
  try clear hcz7_0 hcz7_1 hcz7_2
  try clear hfz7_0 hfz7_1 hfz7_2
  obtain ⟨x4_1, x1001_1, x1002_1, x493000_1, x493001_1, x493002_1, rfl, HA, HK1, BK491, BK492, HI0, HK, HB⟩ := hrel
  cases gk with
  | zero => exact absurd HA.out (by simp [spec_l1Cur_log.l0])
  | succ k1 =>
   have H := HA.out
   clear HA
   simp only [spec_l1Cur_log.l0] at H
   by_cases c9 : x4_1 > 0
   ·
    rw [if_pos c9] at H
    have c9b0 : decide (0 < x4_1) = true := decide_eq_true c9
    clear c9
    replace H := Option.bind_eq_some_iff.mp H
    obtain ⟨⟨t496, t497, t498, t499⟩, A100, H⟩ := H
    replace H : ((spec_AppendRecord.f k1 x493000_1 x493001_1 x493002_1 t496 t497).bind fun bt500 => ((spec_l1Cur_one.f s0_0 t498 t499 4).bind fun bt504 => (if bt504.1 = true then ((spec_SyncLog.f k1 bt500.1 bt500.2.1 bt500.2.2.1).bind fun bt507 => (spec_l1Cur_log.l0 k1 (wrap64 (x4_1 - 1)) s0_0 bt504.2.1 bt504.2.2 bt507.1 bt507.2.1 bt507.2.2.1)) else (spec_l1Cur_log.l0 k1 (wrap64 (x4_1 - 1)) s0_0 bt504.2.1 bt504.2.2 bt500.1 bt500.2.1 bt500.2.2.1)))) = some (r1, r2, r3, r4, r5) := H
    have A10 := Aside0.mk A100
    clear A100
    replace H := Option.bind_eq_some_iff.mp H
    obtain ⟨⟨t500, t501, t502, t503⟩, A110, H⟩ := H
    replace H : ((spec_l1Cur_one.f s0_0 t498 t499 4).bind fun bt504 => (if bt504.1 = true then ((spec_SyncLog.f k1 t500 t501 t502).bind fun bt507 => (spec_l1Cur_log.l0 k1 (wrap64 (x4_1 - 1)) s0_0 bt504.2.1 bt504.2.2 bt507.1 bt507.2.1 bt507.2.2.1)) else (spec_l1Cur_log.l0 k1 (wrap64 (x4_1 - 1)) s0_0 bt504.2.1 bt504.2.2 t500 t501 t502))) = some (r1, r2, r3, r4, r5) := H
    have A11 := Aside0.mk A110
    clear A110
    replace H := Option.bind_eq_some_iff.mp H
    obtain ⟨⟨t504, t505, t506⟩, A120, H⟩ := H
    replace H : (if t504 = true then ((spec_SyncLog.f k1 t500 t501 t502).bind fun bt507 => (spec_l1Cur_log.l0 k1 (wrap64 (x4_1 - 1)) s0_0 t505 t506 bt507.1 bt507.2.1 bt507.2.2.1)) else (spec_l1Cur_log.l0 k1 (wrap64 (x4_1 - 1)) s0_0 t505 t506 t500 t501 t502)) = some (r1, r2, r3, r4, r5) := H
    have A12 := Aside0.mk A120
    clear A120
    by_cases c13 : t504 = true
    ·
     subst c13
     have H1 : ((spec_SyncLog.f k1 t500 t501 t502).bind fun bt507 => (spec_l1Cur_log.l0 k1 (wrap64 (x4_1 - 1)) s0_0 t505 t506 bt507.1 bt507.2.1 bt507.2.2.1)) = some (r1, r2, r3, r4, r5) := by rw [if_pos rfl] at H; exact H
     clear H
     have H := H1
     clear H1
     replace H := Option.bind_eq_some_iff.mp H
     obtain ⟨⟨t507, t508, t509, t510⟩, A140, H⟩ := H
     replace H : (spec_l1Cur_log.l0 k1 (wrap64 (x4_1 - 1)) s0_0 t505 t506 t507 t508 t509) = some (r1, r2, r3, r4, r5) := H
     have A14 := Aside0.mk A140
     clear A140
     have H' := Aside0.mk H
     clear H
     try go_wp2
     replace BK491 := Aside0.mk (blk_drew BK491.out)
     replace BK492 := Aside0.mk (blk_drew BK492.out)
     replace HI0 := Aside0.mk (IsS74.drew HI0.out)
     replace HK := Aside0.mk (keep_drew HK.out)
     replace HB := Aside0.mk (below_drew1 HB.out)
     refine start_ (n := 8) (S := fun w' => w'.cell? ⟨gb492, 0, none⟩ = some (.string x493000_1) ∧ w'.cell? ⟨gb492, 1, none⟩ = some (.string x493001_1) ∧ w'.cell? ⟨gb492, 2, none⟩ = some (.int .i64 x493002_1)) (ds := [7]) #[false, false, false, false, false, false, false, false] (by kernel_rfl) rfl rfl ⟨(blk_cell BK492.out 0).trans rfl, (blk_cell BK492.out 1).trans rfl, (blk_cell BK492.out 2).trans rfl⟩ (fun hHeld => ?_); refine with_tabW spec_l1Cur_log.tab5 spec_l1Cur_log.bits5 (fun HT_ HW_ => ?_)
     generalize wr.drew = w15 at BK491 BK492 HI0 HK HB hHeld ⊢
     refine pz_ HT_ 1 (some 14) #[false, true, false, false, false, false, false, false] ?_
     refine take_ (i := 0) (N := some 13) (v := ?_) (a' := ?_) #[true, true, false, false, false, false, false, false] rfl rfl (take_ofW HT_.out HW_.out (by kernel_rfl)) (fun _ _ _ h => h) (Or.inl ⟨by rfl, ?_⟩) hHeld ?_ ?_
     rotate_left
     ·
      rintro w' ⟨s0, s1, s2⟩
      go_simp
      with_reducible rfl
     rotate_left
     ·
      simp only [Act.put, List.setIfInBounds_toArray, List.set_cons_zero, List.set_cons_succ, i64_w, i32_w]
      rfl
     refine one_ (i := 2) (N := some 15) #[true, true, true, false, false, false, false, false] rfl rfl (one_of HT_.out (by kernel_rfl)) (by decide) (fun K hK => ?_)
     refine gs_ Tryd.func56 #[.pointer (some ⟨g, 0, none⟩)] ?_
     with_reducible refine (spec_l1Cur_logRecord.calls g s0_0 x1001_1 x1002_1 t496 t497 t498 t499 w0 _ ?side1 ?side2 A10.out).mono ?_
     (case side1 => exact is74_2 HI0.out NB0_491.out NB0_492.out)
     (case side2 => exact lb3_ HB.out (IsS74.ge HI0.out) GE491.out GE492.out)
     rintro e w16 ⟨rfl, hi, hb, hk⟩
     refine ⟨_, rfl, ?_⟩
     replace BK491 := Aside0.mk (KeepBut.blk hk (g' := gb491) (o := .cells #[.string (⟨#[]⟩ : ByteArray), .string (⟨#[]⟩ : ByteArray), .int .i64 0] 31 (0, 0)) (bk_ BK491.out) NB491_0.out (by simp))
     replace BK492 := Aside0.mk (KeepBut.blk hk (g' := gb492) (o := .cells #[.string x493000_1, .string x493001_1, .int .i64 x493002_1] 31 (0, 0)) (bk_ BK492.out) NB492_0.out (by simp))
     replace HK := Aside0.mk (KeepBut.trans (kb2_ HK.out GW491.out GW492.out) hk (.inl rfl))
     replace HB := Aside0.mk (hb)
     replace HI0 := Aside0.mk (hi)
     (try clear hb)
     (try clear hb2)
     (try clear hk)
     (try clear hi)
     refine hK.out _ _ ⟨(blk_cell BK492.out 0).trans rfl, (blk_cell BK492.out 1).trans rfl, (blk_cell BK492.out 2).trans rfl⟩ (fun hHeld => ?_)
     clear hK K
     refine na_ ?_
     refine one_ (i := 3) (N := some 16) #[true, true, true, true, false, false, false, false] rfl rfl (one_of HT_.out (by kernel_rfl)) (by decide) (fun K hK => ?_)
     refine gs_ Tryd.func28 #[.agg #[.string x493000_1, .string x493001_1, .int .i64 x493002_1], .agg #[.string t496, .string t497]] ?_
     with_reducible refine (spec_AppendRecord.calls k1 x493000_1 x493001_1 x493002_1 t496 t497 t500 t501 t502 t503 _ A11.out).mono ?_
     rintro e w17 ⟨rfl, hb⟩
     refine ⟨_, rfl, ?_⟩
     replace BK491 := Aside0.mk (bb_ (bk_ BK491.out) hb)
     replace BK492 := Aside0.mk (bb_ (bk_ BK492.out) hb)
     replace HK := Aside0.mk (KeepBut.trans (kb2_ HK.out GW491.out GW492.out) (KeepBut.of_below hb g none) (.inl rfl))
     replace HB := Aside0.mk (below_step (lb3_ HB.out (IsS74.ge HI0.out) GE491.out GE492.out) hb)
     replace HI0 := Aside0.mk (IsS74.below (is74_2 HI0.out NB0_491.out NB0_492.out) hb)
     (try clear hb)
     (try clear hb2)
     (try clear hk)
     (try clear hi)
     refine hK.out _ _ ⟨(blk_cell BK492.out 0).trans rfl, (blk_cell BK492.out 1).trans rfl, (blk_cell BK492.out 2).trans rfl⟩ (fun hHeld => ?_)
     clear hK K
     refine na_ ?_
     refine pz_ HT_ 4 (some 12) #[true, true, true, true, true, false, false, false] ?_
     refine pz_ HT_ 5 (some 17) #[true, true, true, true, true, true, false, false] ?_
     refine pz_ HT_ 6 (some 18) #[true, true, true, true, true, true, true, false] ?_
     refine last_ (i := 7) (N := none) #[true, true, true, true, true, true, true, true] rfl rfl (one_of HT_.out (by kernel_rfl)) (by decide) (fun K hK => ?_)
     have hs18 : w17.cell? ⟨gb492, 0, none⟩ = some (.string x493000_1) := (blk_cell BK492.out 0).trans rfl
     have hfs18 := blk_frozen BK492.out 0
     have hns18_0 := NB491_492.out
     have hms18_0 := NB492_491.out
     have hs19 : w17.cell? ⟨gb492, 1, none⟩ = some (.string x493001_1) := (blk_cell BK492.out 1).trans rfl
     have hfs19 := blk_frozen BK492.out 1
     have hns19_0 := NB491_492.out
     have hms19_0 := NB492_491.out
     have hs20 : w17.cell? ⟨gb492, 2, none⟩ = some (.int .i64 x493002_1) := (blk_cell BK492.out 2).trans rfl
     have hfs20 := blk_frozen BK492.out 2
     have hns20_0 := NB491_492.out
     have hms20_0 := NB492_491.out
     refine skip_ (w1 := ?_) (by rfl) rfl ?_ ?_
     rotate_left
     ·
      go_simp
      rfl
     refine hK.out _ _ ?_
     clear hK K
     refine done_ (done_of HT_.out (by kernel_rfl)) ?_
     try go_wp2_with (first | ((with_reducible refine gate_callee (f := 54) rfl ?_); refine ga_ (some 20) Tryd.func54 #[.pointer (some ⟨g, 0, none⟩), .int .i64 4] ?_; (with_reducible refine (spec_l1Cur_one.calls g s0_0 t498 t499 4 true t505 t506 w0 _ ?side1 ?side2 A12.out).mono ?_); (case side1 => exact is74_2 HI0.out NB0_491.out NB0_492.out); (case side2 => exact lb3_ HB.out (IsS74.ge HI0.out) GE491.out GE492.out); rintro e w21 ⟨rfl, hi, hb, hk⟩; refine ⟨_, rfl, ?_⟩; replace BK491 := Aside0.mk (KeepBut.blk hk (g' := gb491) (o := .cells #[.string (⟨#[]⟩ : ByteArray), .string (⟨#[]⟩ : ByteArray), .int .i64 0] 31 (0, 0)) (by (with_reducible repeat (first | refine blk_drewN ?_ _ | refine blk_drew ?_ | refine blk_alloc ?_ _)); refine blk_far ?_ NB491_492.out _; (with_reducible repeat (first | refine blk_drewN ?_ _ | refine blk_drew ?_ | refine blk_alloc ?_ _)); refine blk_far ?_ NB491_492.out _; (with_reducible repeat (first | refine blk_drewN ?_ _ | refine blk_drew ?_ | refine blk_alloc ?_ _)); refine blk_far ?_ NB491_492.out _; (with_reducible repeat (first | refine blk_drewN ?_ _ | refine blk_drew ?_ | refine blk_alloc ?_ _)); exact BK491.out) NB491_0.out (by simp)); replace BK492 := Aside0.mk (KeepBut.blk hk (g' := gb492) (o := .cells #[.string t500, .string t501, .int .i64 t502] 31 (0, 0)) (by (with_reducible repeat (first | refine blk_drewN ?_ _ | refine blk_drew ?_ | refine blk_alloc ?_ _)); refine blk_put (cs := #[.string t500, .string t501, .int .i64 x493002_1]) ?_ 2 _ rfl; (with_reducible repeat (first | refine blk_drewN ?_ _ | refine blk_drew ?_ | refine blk_alloc ?_ _)); refine blk_put (cs := #[.string t500, .string x493001_1, .int .i64 x493002_1]) ?_ 1 _ rfl; (with_reducible repeat (first | refine blk_drewN ?_ _ | refine blk_drew ?_ | refine blk_alloc ?_ _)); refine blk_put (cs := #[.string x493000_1, .string x493001_1, .int .i64 x493002_1]) ?_ 0 _ rfl; (with_reducible repeat (first | refine blk_drewN ?_ _ | refine blk_drew ?_ | refine blk_alloc ?_ _)); exact BK492.out) NB492_0.out (by simp)); replace HK := Aside0.mk (KeepBut.trans (kb2_ HK.out GW491.out GW492.out) hk (.inl rfl)); replace HB := Aside0.mk (hb); replace HI0 := Aside0.mk (hi); (try clear hb); (try clear hb2); (try clear hk); (try clear hi); have hnb22 := NB492_491.out; have hnc22 := NB491_492.out; have hnb23 := NB492_0.out; have hnc23 := NB0_492.out; obtain ⟨hcz24_0, hcz24_1, hcz24_2⟩ := cz3_ BK492.out; obtain ⟨hfz24_0, hfz24_1, hfz24_2⟩ := fz3_ BK492.out) | ((with_reducible refine gate_callee (f := 26) rfl ?_); refine ga_ (some 23) Tryd.func26 #[.agg #[.string t500, .string t501, .int .i64 t502]] ?_; (with_reducible refine (spec_SyncLog.calls k1 t500 t501 t502 t507 t508 t509 t510 _ A14.out).mono ?_); rintro e w25 ⟨rfl, hb⟩; refine ⟨_, rfl, ?_⟩; replace BK491 := Aside0.mk (bb_ (bk_ BK491.out) hb); replace BK492 := Aside0.mk (bb_ (bk_ BK492.out) hb); replace HK := Aside0.mk (KeepBut.trans (kb2_ HK.out GW491.out GW492.out) (KeepBut.of_below hb g none) (.inl rfl)); replace HB := Aside0.mk (below_step (lb3_ HB.out (IsS74.ge HI0.out) GE491.out GE492.out) hb); replace HI0 := Aside0.mk (IsS74.below (is74_2 HI0.out NB0_491.out NB0_492.out) hb); (try clear hb); (try clear hb2); (try clear hk); (try clear hi); obtain ⟨hcz26_0, hcz26_1, hcz26_2⟩ := cz3_ BK492.out; obtain ⟨hfz26_0, hfz26_1, hfz26_2⟩ := fz3_ BK492.out))
     go_roundg k1
     case measure => have := HK1.out; omega
     case rel => exact ⟨(wrap64 (x4_1 - 1)), (t505), (t506), (t507), (t508), (t509), (by first | rfl | (simp; done) | (simp [*]; done)), H', ⟨by have := HK1.out; omega⟩, ⟨by (with_reducible repeat (first | refine blk_drewN ?_ _ | refine blk_drew ?_ | refine blk_alloc ?_ _)); refine blk_far ?_ NB491_492.out _; (with_reducible repeat (first | refine blk_drewN ?_ _ | refine blk_drew ?_ | refine blk_alloc ?_ _)); refine blk_far ?_ NB491_492.out _; (with_reducible repeat (first | refine blk_drewN ?_ _ | refine blk_drew ?_ | refine blk_alloc ?_ _)); refine blk_far ?_ NB491_492.out _; (with_reducible repeat (first | refine blk_drewN ?_ _ | refine blk_drew ?_ | refine blk_alloc ?_ _)); exact BK491.out⟩, ⟨by (with_reducible repeat (first | refine blk_drewN ?_ _ | refine blk_drew ?_ | refine blk_alloc ?_ _)); refine blk_put (cs := #[.string t507, .string t508, .int .i64 t502]) ?_ 2 _ rfl; (with_reducible repeat (first | refine blk_drewN ?_ _ | refine blk_drew ?_ | refine blk_alloc ?_ _)); refine blk_put (cs := #[.string t507, .string t501, .int .i64 t502]) ?_ 1 _ rfl; (with_reducible repeat (first | refine blk_drewN ?_ _ | refine blk_drew ?_ | refine blk_alloc ?_ _)); refine blk_put (cs := #[.string t500, .string t501, .int .i64 t502]) ?_ 0 _ rfl; (with_reducible repeat (first | refine blk_drewN ?_ _ | refine blk_drew ?_ | refine blk_alloc ?_ _)); exact BK492.out⟩, ⟨is74_2 HI0.out NB0_491.out NB0_492.out⟩, ⟨kb2_ HK.out GW491.out GW492.out⟩, ⟨lb3_ HB.out (IsS74.ge HI0.out) GE491.out GE492.out⟩⟩
    ·
     replace c13 := Bool.eq_false_iff.mpr c13
     subst c13
     have H1 : (spec_l1Cur_log.l0 k1 (wrap64 (x4_1 - 1)) s0_0 t505 t506 t500 t501 t502) = some (r1, r2, r3, r4, r5) := by rw [if_neg (show ¬ (false = true) by decide)] at H; exact H
     clear H
     have H := H1
     clear H1
     have H' := Aside0.mk H
     clear H
     try go_wp2
     replace BK491 := Aside0.mk (blk_drew BK491.out)
     replace BK492 := Aside0.mk (blk_drew BK492.out)
     replace HI0 := Aside0.mk (IsS74.drew HI0.out)
     replace HK := Aside0.mk (keep_drew HK.out)
     replace HB := Aside0.mk (below_drew1 HB.out)
     refine start_ (n := 8) (S := fun w' => w'.cell? ⟨gb492, 0, none⟩ = some (.string x493000_1) ∧ w'.cell? ⟨gb492, 1, none⟩ = some (.string x493001_1) ∧ w'.cell? ⟨gb492, 2, none⟩ = some (.int .i64 x493002_1)) (ds := [7]) #[false, false, false, false, false, false, false, false] (by kernel_rfl) rfl rfl ⟨(blk_cell BK492.out 0).trans rfl, (blk_cell BK492.out 1).trans rfl, (blk_cell BK492.out 2).trans rfl⟩ (fun hHeld => ?_); refine with_tabW spec_l1Cur_log.tab5 spec_l1Cur_log.bits5 (fun HT_ HW_ => ?_)
     generalize wr.drew = w27 at BK491 BK492 HI0 HK HB hHeld ⊢
     refine pz_ HT_ 1 (some 14) #[false, true, false, false, false, false, false, false] ?_
     refine take_ (i := 0) (N := some 13) (v := ?_) (a' := ?_) #[true, true, false, false, false, false, false, false] rfl rfl (take_ofW HT_.out HW_.out (by kernel_rfl)) (fun _ _ _ h => h) (Or.inl ⟨by rfl, ?_⟩) hHeld ?_ ?_
     rotate_left
     ·
      rintro w' ⟨s0, s1, s2⟩
      go_simp
      with_reducible rfl
     rotate_left
     ·
      simp only [Act.put, List.setIfInBounds_toArray, List.set_cons_zero, List.set_cons_succ, i64_w, i32_w]
      rfl
     refine one_ (i := 2) (N := some 15) #[true, true, true, false, false, false, false, false] rfl rfl (one_of HT_.out (by kernel_rfl)) (by decide) (fun K hK => ?_)
     refine gs_ Tryd.func56 #[.pointer (some ⟨g, 0, none⟩)] ?_
     with_reducible refine (spec_l1Cur_logRecord.calls g s0_0 x1001_1 x1002_1 t496 t497 t498 t499 w0 _ ?side1 ?side2 A10.out).mono ?_
     (case side1 => exact is74_2 HI0.out NB0_491.out NB0_492.out)
     (case side2 => exact lb3_ HB.out (IsS74.ge HI0.out) GE491.out GE492.out)
     rintro e w28 ⟨rfl, hi, hb, hk⟩
     refine ⟨_, rfl, ?_⟩
     replace BK491 := Aside0.mk (KeepBut.blk hk (g' := gb491) (o := .cells #[.string (⟨#[]⟩ : ByteArray), .string (⟨#[]⟩ : ByteArray), .int .i64 0] 31 (0, 0)) (bk_ BK491.out) NB491_0.out (by simp))
     replace BK492 := Aside0.mk (KeepBut.blk hk (g' := gb492) (o := .cells #[.string x493000_1, .string x493001_1, .int .i64 x493002_1] 31 (0, 0)) (bk_ BK492.out) NB492_0.out (by simp))
     replace HK := Aside0.mk (KeepBut.trans (kb2_ HK.out GW491.out GW492.out) hk (.inl rfl))
     replace HB := Aside0.mk (hb)
     replace HI0 := Aside0.mk (hi)
     (try clear hb)
     (try clear hb2)
     (try clear hk)
     (try clear hi)
     refine hK.out _ _ ⟨(blk_cell BK492.out 0).trans rfl, (blk_cell BK492.out 1).trans rfl, (blk_cell BK492.out 2).trans rfl⟩ (fun hHeld => ?_)
     clear hK K
     refine na_ ?_
     refine one_ (i := 3) (N := some 16) #[true, true, true, true, false, false, false, false] rfl rfl (one_of HT_.out (by kernel_rfl)) (by decide) (fun K hK => ?_)
     refine gs_ Tryd.func28 #[.agg #[.string x493000_1, .string x493001_1, .int .i64 x493002_1], .agg #[.string t496, .string t497]] ?_
     with_reducible refine (spec_AppendRecord.calls k1 x493000_1 x493001_1 x493002_1 t496 t497 t500 t501 t502 t503 _ A11.out).mono ?_
     rintro e w29 ⟨rfl, hb⟩
     refine ⟨_, rfl, ?_⟩
     replace BK491 := Aside0.mk (bb_ (bk_ BK491.out) hb)
     replace BK492 := Aside0.mk (bb_ (bk_ BK492.out) hb)
     replace HK := Aside0.mk (KeepBut.trans (kb2_ HK.out GW491.out GW492.out) (KeepBut.of_below hb g none) (.inl rfl))
     replace HB := Aside0.mk (below_step (lb3_ HB.out (IsS74.ge HI0.out) GE491.out GE492.out) hb)
     replace HI0 := Aside0.mk (IsS74.below (is74_2 HI0.out NB0_491.out NB0_492.out) hb)
     (try clear hb)
     (try clear hb2)
     (try clear hk)
     (try clear hi)
     refine hK.out _ _ ⟨(blk_cell BK492.out 0).trans rfl, (blk_cell BK492.out 1).trans rfl, (blk_cell BK492.out 2).trans rfl⟩ (fun hHeld => ?_)
     clear hK K
     refine na_ ?_
     refine pz_ HT_ 4 (some 12) #[true, true, true, true, true, false, false, false] ?_
     refine pz_ HT_ 5 (some 17) #[true, true, true, true, true, true, false, false] ?_
     refine pz_ HT_ 6 (some 18) #[true, true, true, true, true, true, true, false] ?_
     refine last_ (i := 7) (N := none) #[true, true, true, true, true, true, true, true] rfl rfl (one_of HT_.out (by kernel_rfl)) (by decide) (fun K hK => ?_)
     have hs30 : w29.cell? ⟨gb492, 0, none⟩ = some (.string x493000_1) := (blk_cell BK492.out 0).trans rfl
     have hfs30 := blk_frozen BK492.out 0
     have hns30_0 := NB491_492.out
     have hms30_0 := NB492_491.out
     have hs31 : w29.cell? ⟨gb492, 1, none⟩ = some (.string x493001_1) := (blk_cell BK492.out 1).trans rfl
     have hfs31 := blk_frozen BK492.out 1
     have hns31_0 := NB491_492.out
     have hms31_0 := NB492_491.out
     have hs32 : w29.cell? ⟨gb492, 2, none⟩ = some (.int .i64 x493002_1) := (blk_cell BK492.out 2).trans rfl
     have hfs32 := blk_frozen BK492.out 2
     have hns32_0 := NB491_492.out
     have hms32_0 := NB492_491.out
     refine skip_ (w1 := ?_) (by rfl) rfl ?_ ?_
     rotate_left
     ·
      go_simp
      rfl
     refine hK.out _ _ ?_
     clear hK K
     refine done_ (done_of HT_.out (by kernel_rfl)) ?_
     try go_wp2_with (first | ((with_reducible refine gate_callee (f := 54) rfl ?_); refine ga_ (some 20) Tryd.func54 #[.pointer (some ⟨g, 0, none⟩), .int .i64 4] ?_; (with_reducible refine (spec_l1Cur_one.calls g s0_0 t498 t499 4 false t505 t506 w0 _ ?side1 ?side2 A12.out).mono ?_); (case side1 => exact is74_2 HI0.out NB0_491.out NB0_492.out); (case side2 => exact lb3_ HB.out (IsS74.ge HI0.out) GE491.out GE492.out); rintro e w33 ⟨rfl, hi, hb, hk⟩; refine ⟨_, rfl, ?_⟩; replace BK491 := Aside0.mk (KeepBut.blk hk (g' := gb491) (o := .cells #[.string (⟨#[]⟩ : ByteArray), .string (⟨#[]⟩ : ByteArray), .int .i64 0] 31 (0, 0)) (by (with_reducible repeat (first | refine blk_drewN ?_ _ | refine blk_drew ?_ | refine blk_alloc ?_ _)); refine blk_far ?_ NB491_492.out _; (with_reducible repeat (first | refine blk_drewN ?_ _ | refine blk_drew ?_ | refine blk_alloc ?_ _)); refine blk_far ?_ NB491_492.out _; (with_reducible repeat (first | refine blk_drewN ?_ _ | refine blk_drew ?_ | refine blk_alloc ?_ _)); refine blk_far ?_ NB491_492.out _; (with_reducible repeat (first | refine blk_drewN ?_ _ | refine blk_drew ?_ | refine blk_alloc ?_ _)); exact BK491.out) NB491_0.out (by simp)); replace BK492 := Aside0.mk (KeepBut.blk hk (g' := gb492) (o := .cells #[.string t500, .string t501, .int .i64 t502] 31 (0, 0)) (by (with_reducible repeat (first | refine blk_drewN ?_ _ | refine blk_drew ?_ | refine blk_alloc ?_ _)); refine blk_put (cs := #[.string t500, .string t501, .int .i64 x493002_1]) ?_ 2 _ rfl; (with_reducible repeat (first | refine blk_drewN ?_ _ | refine blk_drew ?_ | refine blk_alloc ?_ _)); refine blk_put (cs := #[.string t500, .string x493001_1, .int .i64 x493002_1]) ?_ 1 _ rfl; (with_reducible repeat (first | refine blk_drewN ?_ _ | refine blk_drew ?_ | refine blk_alloc ?_ _)); refine blk_put (cs := #[.string x493000_1, .string x493001_1, .int .i64 x493002_1]) ?_ 0 _ rfl; (with_reducible repeat (first | refine blk_drewN ?_ _ | refine blk_drew ?_ | refine blk_alloc ?_ _)); exact BK492.out) NB492_0.out (by simp)); replace HK := Aside0.mk (KeepBut.trans (kb2_ HK.out GW491.out GW492.out) hk (.inl rfl)); replace HB := Aside0.mk (hb); replace HI0 := Aside0.mk (hi); (try clear hb); (try clear hb2); (try clear hk); (try clear hi)))
     go_roundg k1
     case measure => have := HK1.out; omega
     case rel => exact ⟨(wrap64 (x4_1 - 1)), (t505), (t506), (t500), (t501), (t502), (by first | rfl | (simp; done) | (simp [*]; done)), H', ⟨by have := HK1.out; omega⟩, ⟨bk_ BK491.out⟩, ⟨bk_ BK492.out⟩, ⟨is74_2 HI0.out NB0_491.out NB0_492.out⟩, ⟨kb2_ HK.out GW491.out GW492.out⟩, ⟨lb3_ HB.out (IsS74.ge HI0.out) GE491.out GE492.out⟩⟩
   ·
    rw [if_neg c9] at H
    have c9b0 : decide (0 < x4_1) = false := decide_eq_false c9
    clear c9
    simp only [Option.some.injEq, Prod.mk.injEq] at H
    obtain ⟨rfl, rfl, rfl, rfl, rfl⟩ := H
    have hnb34 := NB492_491.out
    have hnc34 := NB491_492.out
    have hnb35 := NB492_0.out
    have hnc35 := NB0_492.out
    obtain ⟨hcz36_0, hcz36_1, hcz36_2⟩ := cz3_ BK492.out
    obtain ⟨hfz36_0, hfz36_1, hfz36_2⟩ := fz3_ BK492.out
    have hnb37 := NB491_0.out
    have hnc37 := NB0_491.out
    obtain ⟨hcz38_0, hcz38_1, hcz38_2⟩ := cz3_ BK491.out
    obtain ⟨hfz38_0, hfz38_1, hfz38_2⟩ := fz3_ BK491.out
    go_wp2
    refine bodyPost_ret (results_cell_row rfl _ _ gb491 31 #[.string x493000_1, .string x493001_1, .int .i64 x493002_1] (0, 0) _ rfl (by (with_reducible repeat (first | refine blk_drewN ?_ _ | refine blk_drew ?_ | refine blk_alloc ?_ _)); refine blk_put (cs := #[.string x493000_1, .string x493001_1, .int .i64 0]) ?_ 2 _ rfl; (with_reducible repeat (first | refine blk_drewN ?_ _ | refine blk_drew ?_ | refine blk_alloc ?_ _)); refine blk_put (cs := #[.string x493000_1, .string (⟨#[]⟩ : ByteArray), .int .i64 0]) ?_ 1 _ rfl; (with_reducible repeat (first | refine blk_drewN ?_ _ | refine blk_drew ?_ | refine blk_alloc ?_ _)); refine blk_put (cs := #[.string (⟨#[]⟩ : ByteArray), .string (⟨#[]⟩ : ByteArray), .int .i64 0]) ?_ 0 _ rfl; (with_reducible repeat (first | refine blk_drewN ?_ _ | refine blk_drew ?_ | refine blk_alloc ?_ _)); exact BK491.out) Tryd.underlying31 rfl (by kernel_rfl)) rfl ?_
    exact ⟨rr_, is74_2 HI0.out NB0_491.out NB0_492.out, lb3_ HB.out (IsS74.ge HI0.out) GE491.out GE492.out, kb2_ HK.out GW491.out GW492.out⟩
end Go.Proofs.YtdpinnhgkocjhaaDoor.Pr

namespace Go.Proofs.YtdpinnhgkocjhaaDoor.Pr
open Go.RowKit Go.Proofs.YtdpinnhgkocjhaaDoorW.PrintWords Go.Proofs.YtdpinnhgkocjhaaDoorW.PrintLast Go.Proofs.YtdpinnhgkocjhaaDoorW.PrintMore
attribute [local go_sem] max2_int min2_int max_two min_two max_three min_three max_four min_four sc_in sx_in   -- for this text's walks alone
set_option linter.unusedVariables false
set_option linter.unusedSimpArgs false
def spec_l1Cur_spoilt.f (s0_0 : List Int) (s0_1 : Int) (s0_2 : Int) (a1 : ByteArray) (a2 : ByteArray) : Option (ByteArray × Int × Int) := if a1.toList = ([] : List UInt8) then (if 0 ≤ 1 then (if 1 ≤ (a2.size : Int) then (some (sx a2 (0) (1), s0_1, s0_2)) else (none)) else (none)) else ((spec_l1Cur_pick.f s0_0 s0_1 s0_2 (a1.size : Int)).bind fun bt511 => ((spec_l1Cur_pick.f s0_0 bt511.2.1 bt511.2.2 (a2.size : Int)).bind fun bt514 => (if 0 ≤ bt514.1 then (if bt514.1 ≤ (a2.size : Int) then (if 0 ≤ 1 then (if 1 ≤ ((sx a2 ((bt514.1 : Int).toNat) (a2.size)).size : Int) then ((spec_l1Cur_pick.f s0_0 bt514.2.1 bt514.2.2 3).bind fun bt517 => (if bt517.1 = 0 then (if 0 ≤ bt511.1 then (if bt511.1 ≤ (a1.size : Int) then (if (sx a1 (0) ((bt511.1 : Int).toNat)).size + (sx (sx a2 ((bt514.1 : Int).toNat) (a2.size)) (0) (1)).size ≤ 9223372036854775807 then (if (sc (sx a1 (0) ((bt511.1 : Int).toNat)) (sx (sx a2 ((bt514.1 : Int).toNat) (a2.size)) (0) (1))).size + (sx a1 ((bt511.1 : Int).toNat) (a1.size)).size ≤ 9223372036854775807 then (some (sc (sc (sx a1 (0) ((bt511.1 : Int).toNat)) (sx (sx a2 ((bt514.1 : Int).toNat) (a2.size)) (0) (1))) (sx a1 ((bt511.1 : Int).toNat) (a1.size)), bt517.2.1, bt517.2.2)) else (none)) else (none)) else (none)) else (none)) else (if bt517.1 = 1 then (if 0 ≤ bt511.1 then (if bt511.1 ≤ (a1.size : Int) then (if (sx a1 (0) ((bt511.1 : Int).toNat)).size + (sx (sx a2 ((bt514.1 : Int).toNat) (a2.size)) (0) (1)).size ≤ 9223372036854775807 then (if 0 ≤ (wrap64 (bt511.1 + 1)) then (if (wrap64 (bt511.1 + 1)) ≤ (a1.size : Int) then (if (sc (sx a1 (0) ((bt511.1 : Int).toNat)) (sx (sx a2 ((bt514.1 : Int).toNat) (a2.size)) (0) (1))).size + (sx a1 (((wrap64 (bt511.1 + 1)) : Int).toNat) (a1.size)).size ≤ 9223372036854775807 then (some (sc (sc (sx a1 (0) ((bt511.1 : Int).toNat)) (sx (sx a2 ((bt514.1 : Int).toNat) (a2.size)) (0) (1))) (sx a1 (((wrap64 (bt511.1 + 1)) : Int).toNat) (a1.size)), bt517.2.1, bt517.2.2)) else (none)) else (none)) else (none)) else (none)) else (none)) else (none)) else (if 0 ≤ bt511.1 then (if bt511.1 ≤ (a1.size : Int) then (if 0 ≤ (wrap64 (bt511.1 + 1)) then (if (wrap64 (bt511.1 + 1)) ≤ (a1.size : Int) then (if (sx a1 (0) ((bt511.1 : Int).toNat)).size + (sx a1 (((wrap64 (bt511.1 + 1)) : Int).toNat) (a1.size)).size ≤ 9223372036854775807 then (some (sc (sx a1 (0) ((bt511.1 : Int).toNat)) (sx a1 (((wrap64 (bt511.1 + 1)) : Int).toNat) (a1.size)), bt517.2.1, bt517.2.2)) else (none)) else (none)) else (none)) else (none)) else (none))))) else (none)) else (none)) else (none)) else (none))))
set_option maxHeartbeats 8000000 in
set_option maxRecDepth 100000 in
theorem spec_l1Cur_spoilt.calls (g : Nat) (s0_0 : List Int) (s0_1 : Int) (s0_2 : Int) (a1 : ByteArray) (a2 : ByteArray) (r1 : ByteArray) (r2 : Int) (r3 : Int) (w0 w : World) (hI : IsS74 w0 w g s0_0 s0_1 s0_2) (hB : Below w0.heap.size w0 w) (h : spec_l1Cur_spoilt.f s0_0 s0_1 s0_2 a1 a2 = some (r1, r2, r3)) :
  Calls Tryd.prog 61 #[.pointer (some ⟨g, 0, none⟩), .string a1, .string a2] w fun e w' => e = .returned (.string r1) ∧ IsS74 w0 w' g s0_0 r2 r3 ∧ Below w0.heap.size w0 w' ∧ KeepBut w w' g none := by
 have HI0 := Aside0.mk hI
 have HK := Aside0.mk (KeepBut.refl w g none)
 have HL := Aside0.mk hB.size
 clear hI
 have HW0 := Aside0.mk hB.size
 have HB := Aside0.mk hB
 clear hB
 have H : (if a1.toList = ([] : List UInt8) then (if 0 ≤ 1 then (if 1 ≤ (a2.size : Int) then (some (sx a2 (0) (1), s0_1, s0_2)) else (none)) else (none)) else ((spec_l1Cur_pick.f s0_0 s0_1 s0_2 (a1.size : Int)).bind fun bt511 => ((spec_l1Cur_pick.f s0_0 bt511.2.1 bt511.2.2 (a2.size : Int)).bind fun bt514 => (if 0 ≤ bt514.1 then (if bt514.1 ≤ (a2.size : Int) then (if 0 ≤ 1 then (if 1 ≤ ((sx a2 ((bt514.1 : Int).toNat) (a2.size)).size : Int) then ((spec_l1Cur_pick.f s0_0 bt514.2.1 bt514.2.2 3).bind fun bt517 => (if bt517.1 = 0 then (if 0 ≤ bt511.1 then (if bt511.1 ≤ (a1.size : Int) then (if (sx a1 (0) ((bt511.1 : Int).toNat)).size + (sx (sx a2 ((bt514.1 : Int).toNat) (a2.size)) (0) (1)).size ≤ 9223372036854775807 then (if (sc (sx a1 (0) ((bt511.1 : Int).toNat)) (sx (sx a2 ((bt514.1 : Int).toNat) (a2.size)) (0) (1))).size + (sx a1 ((bt511.1 : Int).toNat) (a1.size)).size ≤ 9223372036854775807 then (some (sc (sc (sx a1 (0) ((bt511.1 : Int).toNat)) (sx (sx a2 ((bt514.1 : Int).toNat) (a2.size)) (0) (1))) (sx a1 ((bt511.1 : Int).toNat) (a1.size)), bt517.2.1, bt517.2.2)) else (none)) else (none)) else (none)) else (none)) else (if bt517.1 = 1 then (if 0 ≤ bt511.1 then (if bt511.1 ≤ (a1.size : Int) then (if (sx a1 (0) ((bt511.1 : Int).toNat)).size + (sx (sx a2 ((bt514.1 : Int).toNat) (a2.size)) (0) (1)).size ≤ 9223372036854775807 then (if 0 ≤ (wrap64 (bt511.1 + 1)) then (if (wrap64 (bt511.1 + 1)) ≤ (a1.size : Int) then (if (sc (sx a1 (0) ((bt511.1 : Int).toNat)) (sx (sx a2 ((bt514.1 : Int).toNat) (a2.size)) (0) (1))).size + (sx a1 (((wrap64 (bt511.1 + 1)) : Int).toNat) (a1.size)).size ≤ 9223372036854775807 then (some (sc (sc (sx a1 (0) ((bt511.1 : Int).toNat)) (sx (sx a2 ((bt514.1 : Int).toNat) (a2.size)) (0) (1))) (sx a1 (((wrap64 (bt511.1 + 1)) : Int).toNat) (a1.size)), bt517.2.1, bt517.2.2)) else (none)) else (none)) else (none)) else (none)) else (none)) else (none)) else (if 0 ≤ bt511.1 then (if bt511.1 ≤ (a1.size : Int) then (if 0 ≤ (wrap64 (bt511.1 + 1)) then (if (wrap64 (bt511.1 + 1)) ≤ (a1.size : Int) then (if (sx a1 (0) ((bt511.1 : Int).toNat)).size + (sx a1 (((wrap64 (bt511.1 + 1)) : Int).toNat) (a1.size)).size ≤ 9223372036854775807 then (some (sc (sx a1 (0) ((bt511.1 : Int).toNat)) (sx a1 (((wrap64 (bt511.1 + 1)) : Int).toNat) (a1.size)), bt517.2.1, bt517.2.2)) else (none)) else (none)) else (none)) else (none)) else (none))))) else (none)) else (none)) else (none)) else (none))))) = some (r1, r2, r3) := h
 clear h
 by_cases c4 : a1.toList = ([] : List UInt8)
 ·
  rw [if_pos c4] at H
  have c4b0 : (a1.toList == ([] : List UInt8)) = true := beq_iff_eq.mpr c4
  have c4b1 : (a1.toList != ([] : List UInt8)) = false := bne_eq_false_iff_eq.mpr c4
  clear c4
  by_cases c5 : 0 ≤ 1
  ·
   rw [if_pos c5] at H
   have c5b0 := eq_true c5
   have c5b1 : decide (0 ≤ 1) = true := decide_eq_true c5
   clear c5
   by_cases c6 : 1 ≤ (a2.size : Int)
   ·
    rw [if_pos c6] at H
    have c6b0 := eq_true c6
    have c6b1 : decide (1 ≤ (a2.size : Int)) = true := decide_eq_true c6
    clear c6
    simp only [Option.some.injEq, Prod.mk.injEq] at H
    obtain ⟨rfl, rfl, rfl⟩ := H
    go_enter Tryd.func61, Tryd.ntmps61
    go_wp2
    repeat (go_quiet (fail); try go_wp2)
    go_ret
    exact ⟨rr_, is74_0 HI0.out, lb1_ HB.out (IsS74.ge HI0.out), kb0_ HK.out⟩
   ·
    rw [if_neg c6] at H
    exact absurd H (by simp)
  ·
   rw [if_neg c5] at H
   exact absurd H (by simp)
 ·
  rw [if_neg c4] at H
  have c4b0 : (a1.toList == ([] : List UInt8)) = false := beq_eq_false_iff_ne.mpr c4
  have c4b1 : (a1.toList != ([] : List UInt8)) = true := bne_iff_ne.mpr c4
  replace H := Option.bind_eq_some_iff.mp H
  obtain ⟨⟨t511, t512, t513⟩, A70, H⟩ := H
  replace H : ((spec_l1Cur_pick.f s0_0 t512 t513 (a2.size : Int)).bind fun bt514 => (if 0 ≤ bt514.1 then (if bt514.1 ≤ (a2.size : Int) then (if 0 ≤ 1 then (if 1 ≤ ((sx a2 ((bt514.1 : Int).toNat) (a2.size)).size : Int) then ((spec_l1Cur_pick.f s0_0 bt514.2.1 bt514.2.2 3).bind fun bt517 => (if bt517.1 = 0 then (if 0 ≤ t511 then (if t511 ≤ (a1.size : Int) then (if (sx a1 (0) ((t511 : Int).toNat)).size + (sx (sx a2 ((bt514.1 : Int).toNat) (a2.size)) (0) (1)).size ≤ 9223372036854775807 then (if (sc (sx a1 (0) ((t511 : Int).toNat)) (sx (sx a2 ((bt514.1 : Int).toNat) (a2.size)) (0) (1))).size + (sx a1 ((t511 : Int).toNat) (a1.size)).size ≤ 9223372036854775807 then (some (sc (sc (sx a1 (0) ((t511 : Int).toNat)) (sx (sx a2 ((bt514.1 : Int).toNat) (a2.size)) (0) (1))) (sx a1 ((t511 : Int).toNat) (a1.size)), bt517.2.1, bt517.2.2)) else (none)) else (none)) else (none)) else (none)) else (if bt517.1 = 1 then (if 0 ≤ t511 then (if t511 ≤ (a1.size : Int) then (if (sx a1 (0) ((t511 : Int).toNat)).size + (sx (sx a2 ((bt514.1 : Int).toNat) (a2.size)) (0) (1)).size ≤ 9223372036854775807 then (if 0 ≤ (wrap64 (t511 + 1)) then (if (wrap64 (t511 + 1)) ≤ (a1.size : Int) then (if (sc (sx a1 (0) ((t511 : Int).toNat)) (sx (sx a2 ((bt514.1 : Int).toNat) (a2.size)) (0) (1))).size + (sx a1 (((wrap64 (t511 + 1)) : Int).toNat) (a1.size)).size ≤ 9223372036854775807 then (some (sc (sc (sx a1 (0) ((t511 : Int).toNat)) (sx (sx a2 ((bt514.1 : Int).toNat) (a2.size)) (0) (1))) (sx a1 (((wrap64 (t511 + 1)) : Int).toNat) (a1.size)), bt517.2.1, bt517.2.2)) else (none)) else (none)) else (none)) else (none)) else (none)) else (none)) else (if 0 ≤ t511 then (if t511 ≤ (a1.size : Int) then (if 0 ≤ (wrap64 (t511 + 1)) then (if (wrap64 (t511 + 1)) ≤ (a1.size : Int) then (if (sx a1 (0) ((t511 : Int).toNat)).size + (sx a1 (((wrap64 (t511 + 1)) : Int).toNat) (a1.size)).size ≤ 9223372036854775807 then (some (sc (sx a1 (0) ((t511 : Int).toNat)) (sx a1 (((wrap64 (t511 + 1)) : Int).toNat) (a1.size)), bt517.2.1, bt517.2.2)) else (none)) else (none)) else (none)) else (none)) else (none))))) else (none)) else (none)) else (none)) else (none))) = some (r1, r2, r3) := H
  have A7 := Aside0.mk A70
  clear A70
  replace H := Option.bind_eq_some_iff.mp H
  obtain ⟨⟨t514, t515, t516⟩, A80, H⟩ := H
  replace H : (if 0 ≤ t514 then (if t514 ≤ (a2.size : Int) then (if 0 ≤ 1 then (if 1 ≤ ((sx a2 ((t514 : Int).toNat) (a2.size)).size : Int) then ((spec_l1Cur_pick.f s0_0 t515 t516 3).bind fun bt517 => (if bt517.1 = 0 then (if 0 ≤ t511 then (if t511 ≤ (a1.size : Int) then (if (sx a1 (0) ((t511 : Int).toNat)).size + (sx (sx a2 ((t514 : Int).toNat) (a2.size)) (0) (1)).size ≤ 9223372036854775807 then (if (sc (sx a1 (0) ((t511 : Int).toNat)) (sx (sx a2 ((t514 : Int).toNat) (a2.size)) (0) (1))).size + (sx a1 ((t511 : Int).toNat) (a1.size)).size ≤ 9223372036854775807 then (some (sc (sc (sx a1 (0) ((t511 : Int).toNat)) (sx (sx a2 ((t514 : Int).toNat) (a2.size)) (0) (1))) (sx a1 ((t511 : Int).toNat) (a1.size)), bt517.2.1, bt517.2.2)) else (none)) else (none)) else (none)) else (none)) else (if bt517.1 = 1 then (if 0 ≤ t511 then (if t511 ≤ (a1.size : Int) then (if (sx a1 (0) ((t511 : Int).toNat)).size + (sx (sx a2 ((t514 : Int).toNat) (a2.size)) (0) (1)).size ≤ 9223372036854775807 then (if 0 ≤ (wrap64 (t511 + 1)) then (if (wrap64 (t511 + 1)) ≤ (a1.size : Int) then (if (sc (sx a1 (0) ((t511 : Int).toNat)) (sx (sx a2 ((t514 : Int).toNat) (a2.size)) (0) (1))).size + (sx a1 (((wrap64 (t511 + 1)) : Int).toNat) (a1.size)).size ≤ 9223372036854775807 then (some (sc (sc (sx a1 (0) ((t511 : Int).toNat)) (sx (sx a2 ((t514 : Int).toNat) (a2.size)) (0) (1))) (sx a1 (((wrap64 (t511 + 1)) : Int).toNat) (a1.size)), bt517.2.1, bt517.2.2)) else (none)) else (none)) else (none)) else (none)) else (none)) else (none)) else (if 0 ≤ t511 then (if t511 ≤ (a1.size : Int) then (if 0 ≤ (wrap64 (t511 + 1)) then (if (wrap64 (t511 + 1)) ≤ (a1.size : Int) then (if (sx a1 (0) ((t511 : Int).toNat)).size + (sx a1 (((wrap64 (t511 + 1)) : Int).toNat) (a1.size)).size ≤ 9223372036854775807 then (some (sc (sx a1 (0) ((t511 : Int).toNat)) (sx a1 (((wrap64 (t511 + 1)) : Int).toNat) (a1.size)), bt517.2.1, bt517.2.2)) else (none)) else (none)) else (none)) else (none)) else (none))))) else (none)) else (none)) else (none)) else (none)) = some (r1, r2, r3) := H
  have A8 := Aside0.mk A80
  clear A80
  by_cases c9 : 0 ≤ t514
  ·
   rw [if_pos c9] at H
   have c9b0 := eq_true c9
   have c9b1 : decide (0 ≤ t514) = true := decide_eq_true c9
   clear c9
   by_cases c10 : t514 ≤ (a2.size : Int)
   ·
    rw [if_pos c10] at H
    have c10b0 := eq_true c10
    have c10b1 : decide (t514 ≤ (a2.size : Int)) = true := decide_eq_true c10
    clear c10
    by_cases c11 : 0 ≤ 1
    ·
     rw [if_pos c11] at H
     have c11b0 := eq_true c11
     have c11b1 : decide (0 ≤ 1) = true := decide_eq_true c11
     clear c11
     by_cases c12 : 1 ≤ ((sx a2 ((t514 : Int).toNat) (a2.size)).size : Int)
     ·
      rw [if_pos c12] at H
      have c12b0 := eq_true c12
      have c12b1 : decide (1 ≤ ((sx a2 ((t514 : Int).toNat) (a2.size)).size : Int)) = true := decide_eq_true c12
      clear c12
      replace H := Option.bind_eq_some_iff.mp H
      obtain ⟨⟨t517, t518, t519⟩, A130, H⟩ := H
      replace H : (if t517 = 0 then (if 0 ≤ t511 then (if t511 ≤ (a1.size : Int) then (if (sx a1 (0) ((t511 : Int).toNat)).size + (sx (sx a2 ((t514 : Int).toNat) (a2.size)) (0) (1)).size ≤ 9223372036854775807 then (if (sc (sx a1 (0) ((t511 : Int).toNat)) (sx (sx a2 ((t514 : Int).toNat) (a2.size)) (0) (1))).size + (sx a1 ((t511 : Int).toNat) (a1.size)).size ≤ 9223372036854775807 then (some (sc (sc (sx a1 (0) ((t511 : Int).toNat)) (sx (sx a2 ((t514 : Int).toNat) (a2.size)) (0) (1))) (sx a1 ((t511 : Int).toNat) (a1.size)), t518, t519)) else (none)) else (none)) else (none)) else (none)) else (if t517 = 1 then (if 0 ≤ t511 then (if t511 ≤ (a1.size : Int) then (if (sx a1 (0) ((t511 : Int).toNat)).size + (sx (sx a2 ((t514 : Int).toNat) (a2.size)) (0) (1)).size ≤ 9223372036854775807 then (if 0 ≤ (wrap64 (t511 + 1)) then (if (wrap64 (t511 + 1)) ≤ (a1.size : Int) then (if (sc (sx a1 (0) ((t511 : Int).toNat)) (sx (sx a2 ((t514 : Int).toNat) (a2.size)) (0) (1))).size + (sx a1 (((wrap64 (t511 + 1)) : Int).toNat) (a1.size)).size ≤ 9223372036854775807 then (some (sc (sc (sx a1 (0) ((t511 : Int).toNat)) (sx (sx a2 ((t514 : Int).toNat) (a2.size)) (0) (1))) (sx a1 (((wrap64 (t511 + 1)) : Int).toNat) (a1.size)), t518, t519)) else (none)) else (none)) else (none)) else (none)) else (none)) else (none)) else (if 0 ≤ t511 then (if t511 ≤ (a1.size : Int) then (if 0 ≤ (wrap64 (t511 + 1)) then (if (wrap64 (t511 + 1)) ≤ (a1.size : Int) then (if (sx a1 (0) ((t511 : Int).toNat)).size + (sx a1 (((wrap64 (t511 + 1)) : Int).toNat) (a1.size)).size ≤ 9223372036854775807 then (some (sc (sx a1 (0) ((t511 : Int).toNat)) (sx a1 (((wrap64 (t511 + 1)) : Int).toNat) (a1.size)), t518, t519)) else (none)) else (none)) else (none)) else (none)) else (none)))) = some (r1, r2, r3) := H
      have A13 := Aside0.mk A130
      clear A130
      by_cases c14 : t517 = 0
      ·
       rw [if_pos c14] at H
       have c14b0 : (t517 == 0) = true := beq_iff_eq.mpr c14
       have c14b1 : (t517 != 0) = false := bne_eq_false_iff_eq.mpr c14
       clear c14
       by_cases c15 : 0 ≤ t511
       ·
        rw [if_pos c15] at H
        have c15b0 := eq_true c15; have c15b1 : decide (0 ≤ t511) = true := decide_eq_true c15; clear c15
        by_cases c16 : t511 ≤ (a1.size : Int)
        ·
         rw [if_pos c16] at H
         have c16b0 := eq_true c16; have c16b1 : decide (t511 ≤ (a1.size : Int)) = true := decide_eq_true c16; clear c16
         by_cases c17 : (sx a1 (0) ((t511 : Int).toNat)).size + (sx (sx a2 ((t514 : Int).toNat) (a2.size)) (0) (1)).size ≤ 9223372036854775807
         ·
          rw [if_pos c17] at H
          have c17b0 := eq_true c17; have c17b1 : decide ((sx a1 (0) ((t511 : Int).toNat)).size + (sx (sx a2 ((t514 : Int).toNat) (a2.size)) (0) (1)).size ≤ 9223372036854775807) = true := decide_eq_true c17
          try have c17b2 : (9223372036854775807 < (sx a1 (0) ((t511 : Int).toNat)).size + (sx (sx a2 ((t514 : Int).toNat) (a2.size)) (0) (1)).size) = False := eq_false (Nat.not_lt.2 c17)
          have c18b0 := eq_true (dt_ : 0 ≤ t511); have c19b0 := eq_true (dt_ : t511 ≤ (a1.size : Int))
          by_cases c20 : (sc (sx a1 (0) ((t511 : Int).toNat)) (sx (sx a2 ((t514 : Int).toNat) (a2.size)) (0) (1))).size + (sx a1 ((t511 : Int).toNat) (a1.size)).size ≤ 9223372036854775807
          ·
           rw [if_pos c20] at H
           have c20b0 := eq_true c20; have c20b1 : decide ((sc (sx a1 (0) ((t511 : Int).toNat)) (sx (sx a2 ((t514 : Int).toNat) (a2.size)) (0) (1))).size + (sx a1 ((t511 : Int).toNat) (a1.size)).size ≤ 9223372036854775807) = true := decide_eq_true c20
           try have c20b2 : (9223372036854775807 < (sc (sx a1 (0) ((t511 : Int).toNat)) (sx (sx a2 ((t514 : Int).toNat) (a2.size)) (0) (1))).size + (sx a1 ((t511 : Int).toNat) (a1.size)).size) = False := eq_false (Nat.not_lt.2 c20)
           simp only [Option.some.injEq, Prod.mk.injEq] at H; obtain ⟨rfl, rfl, rfl⟩ := H
           go_enter Tryd.func61, Tryd.ntmps61
           go_wp2_with (first | (go_at_call 55; (with_reducible refine (spec_l1Cur_pick.calls g s0_0 s0_1 s0_2 (a1.size : Int) t511 t512 t513 w0 _ ?side1 ?side2 A7.out).mono ?_); (case side1 => exact is74_0 HI0.out); (case side2 => exact lb1_ HB.out (IsS74.ge HI0.out)); rintro e w21 ⟨rfl, hi, hb, hk⟩; replace HK := Aside0.mk (KeepBut.trans (kb0_ HK.out) hk (.inl rfl)); replace HB := Aside0.mk (hb); replace HI0 := Aside0.mk (hi); (try clear hb); (try clear hb2); (try clear hk); (try clear hi)) | (go_at_call 55; (with_reducible refine (spec_l1Cur_pick.calls g s0_0 t512 t513 (a2.size : Int) t514 t515 t516 w0 _ ?side1 ?side2 A8.out).mono ?_); (case side1 => exact is74_0 HI0.out); (case side2 => exact lb1_ HB.out (IsS74.ge HI0.out)); rintro e w22 ⟨rfl, hi, hb, hk⟩; replace HK := Aside0.mk (KeepBut.trans (kb0_ HK.out) hk (.inl rfl)); replace HB := Aside0.mk (hb); replace HI0 := Aside0.mk (hi); (try clear hb); (try clear hb2); (try clear hk); (try clear hi)) | (go_at_call 55; (with_reducible refine (spec_l1Cur_pick.calls g s0_0 t515 t516 3 t517 t518 t519 w0 _ ?side1 ?side2 A13.out).mono ?_); (case side1 => exact is74_0 HI0.out); (case side2 => exact lb1_ HB.out (IsS74.ge HI0.out)); rintro e w23 ⟨rfl, hi, hb, hk⟩; replace HK := Aside0.mk (KeepBut.trans (kb0_ HK.out) hk (.inl rfl)); replace HB := Aside0.mk (hb); replace HI0 := Aside0.mk (hi); (try clear hb); (try clear hb2); (try clear hk); (try clear hi)))
           repeat (go_quiet (first | (go_at_call 55; (with_reducible refine (spec_l1Cur_pick.calls g s0_0 s0_1 s0_2 (a1.size : Int) t511 t512 t513 w0 _ ?side1 ?side2 A7.out).mono ?_); (case side1 => exact is74_0 HI0.out); (case side2 => exact lb1_ HB.out (IsS74.ge HI0.out)); rintro e w21 ⟨rfl, hi, hb, hk⟩; replace HK := Aside0.mk (KeepBut.trans (kb0_ HK.out) hk (.inl rfl)); replace HB := Aside0.mk (hb); replace HI0 := Aside0.mk (hi); (try clear hb); (try clear hb2); (try clear hk); (try clear hi)) | (go_at_call 55; (with_reducible refine (spec_l1Cur_pick.calls g s0_0 t512 t513 (a2.size : Int) t514 t515 t516 w0 _ ?side1 ?side2 A8.out).mono ?_); (case side1 => exact is74_0 HI0.out); (case side2 => exact lb1_ HB.out (IsS74.ge HI0.out)); rintro e w22 ⟨rfl, hi, hb, hk⟩; replace HK := Aside0.mk (KeepBut.trans (kb0_ HK.out) hk (.inl rfl)); replace HB := Aside0.mk (hb); replace HI0 := Aside0.mk (hi); (try clear hb); (try clear hb2); (try clear hk); (try clear hi)) | (go_at_call 55; (with_reducible refine (spec_l1Cur_pick.calls g s0_0 t515 t516 3 t517 t518 t519 w0 _ ?side1 ?side2 A13.out).mono ?_); (case side1 => exact is74_0 HI0.out); (case side2 => exact lb1_ HB.out (IsS74.ge HI0.out)); rintro e w23 ⟨rfl, hi, hb, hk⟩; replace HK := Aside0.mk (KeepBut.trans (kb0_ HK.out) hk (.inl rfl)); replace HB := Aside0.mk (hb); replace HI0 := Aside0.mk (hi); (try clear hb); (try clear hb2); (try clear hk); (try clear hi))); try go_wp2_with (first | (go_at_call 55; (with_reducible refine (spec_l1Cur_pick.calls g s0_0 s0_1 s0_2 (a1.size : Int) t511 t512 t513 w0 _ ?side1 ?side2 A7.out).mono ?_); (case side1 => exact is74_0 HI0.out); (case side2 => exact lb1_ HB.out (IsS74.ge HI0.out)); rintro e w21 ⟨rfl, hi, hb, hk⟩; replace HK := Aside0.mk (KeepBut.trans (kb0_ HK.out) hk (.inl rfl)); replace HB := Aside0.mk (hb); replace HI0 := Aside0.mk (hi); (try clear hb); (try clear hb2); (try clear hk); (try clear hi)) | (go_at_call 55; (with_reducible refine (spec_l1Cur_pick.calls g s0_0 t512 t513 (a2.size : Int) t514 t515 t516 w0 _ ?side1 ?side2 A8.out).mono ?_); (case side1 => exact is74_0 HI0.out); (case side2 => exact lb1_ HB.out (IsS74.ge HI0.out)); rintro e w22 ⟨rfl, hi, hb, hk⟩; replace HK := Aside0.mk (KeepBut.trans (kb0_ HK.out) hk (.inl rfl)); replace HB := Aside0.mk (hb); replace HI0 := Aside0.mk (hi); (try clear hb); (try clear hb2); (try clear hk); (try clear hi)) | (go_at_call 55; (with_reducible refine (spec_l1Cur_pick.calls g s0_0 t515 t516 3 t517 t518 t519 w0 _ ?side1 ?side2 A13.out).mono ?_); (case side1 => exact is74_0 HI0.out); (case side2 => exact lb1_ HB.out (IsS74.ge HI0.out)); rintro e w23 ⟨rfl, hi, hb, hk⟩; replace HK := Aside0.mk (KeepBut.trans (kb0_ HK.out) hk (.inl rfl)); replace HB := Aside0.mk (hb); replace HI0 := Aside0.mk (hi); (try clear hb); (try clear hb2); (try clear hk); (try clear hi))))
           go_ret
           exact ⟨rr_, is74_0 HI0.out, lb1_ HB.out (IsS74.ge HI0.out), kb0_ HK.out⟩
          ·
           rw [if_neg c20] at H
           exact absurd H (by simp)
         ·
          rw [if_neg c17] at H
          exact absurd H (by simp)
        ·
         rw [if_neg c16] at H
         exact absurd H (by simp)
       ·
        rw [if_neg c15] at H
        exact absurd H (by simp)
      ·
       rw [if_neg c14] at H
       have c14b0 : (t517 == 0) = false := beq_eq_false_iff_ne.mpr c14
       have c14b1 : (t517 != 0) = true := bne_iff_ne.mpr c14
       by_cases c24 : t517 = 1
       ·
        rw [if_pos c24] at H
        have c24b0 : (t517 == 1) = true := beq_iff_eq.mpr c24; have c24b1 : (t517 != 1) = false := bne_eq_false_iff_eq.mpr c24; clear c24
        by_cases c25 : 0 ≤ t511
        ·
         rw [if_pos c25] at H
         have c25b0 := eq_true c25; have c25b1 : decide (0 ≤ t511) = true := decide_eq_true c25; clear c25
         by_cases c26 : t511 ≤ (a1.size : Int)
         ·
          rw [if_pos c26] at H
          have c26b0 := eq_true c26; have c26b1 : decide (t511 ≤ (a1.size : Int)) = true := decide_eq_true c26; clear c26
          by_cases c27 : (sx a1 (0) ((t511 : Int).toNat)).size + (sx (sx a2 ((t514 : Int).toNat) (a2.size)) (0) (1)).size ≤ 9223372036854775807
          ·
           rw [if_pos c27] at H
           have c27b0 := eq_true c27; have c27b1 : decide ((sx a1 (0) ((t511 : Int).toNat)).size + (sx (sx a2 ((t514 : Int).toNat) (a2.size)) (0) (1)).size ≤ 9223372036854775807) = true := decide_eq_true c27
           try have c27b2 : (9223372036854775807 < (sx a1 (0) ((t511 : Int).toNat)).size + (sx (sx a2 ((t514 : Int).toNat) (a2.size)) (0) (1)).size) = False := eq_false (Nat.not_lt.2 c27)
           obtain ⟨ji28, hji28⟩ : ∃ j_ : Int, (wrap64 (t511 + 1)) = j_ := ⟨_, rfl⟩
           replace H : (if 0 ≤ (ji28) then (if (ji28) ≤ (a1.size : Int) then (if (sc (sx a1 (0) ((t511 : Int).toNat)) (sx (sx a2 ((t514 : Int).toNat) (a2.size)) (0) (1))).size + (sx a1 (((ji28) : Int).toNat) (a1.size)).size ≤ 9223372036854775807 then (some (sc (sc (sx a1 (0) ((t511 : Int).toNat)) (sx (sx a2 ((t514 : Int).toNat) (a2.size)) (0) (1))) (sx a1 (((ji28) : Int).toNat) (a1.size)), t518, t519)) else (none)) else (none)) else (none)) = some (r1, r2, r3) := by first | (rw [hji28] at H; exact H) | (simp only [hji28] at H ⊢; exact H)
           (try rw [hji28] at A7); (try rw [hji28] at A8); (try rw [hji28] at A13); have hji28w : (IntKind.i64.wrap (t511 + 1)) = ji28 := (i64_w _).trans hji28
           by_cases c29 : 0 ≤ (ji28)
           ·
            rw [if_pos c29] at H
            have c29b0 := eq_true c29; have c29b1 : decide (0 ≤ (ji28)) = true := decide_eq_true c29; clear c29
            by_cases c30 : (ji28) ≤ (a1.size : Int)
            ·
             rw [if_pos c30] at H
             have c30b0 := eq_true c30; have c30b1 : decide ((ji28) ≤ (a1.size : Int)) = true := decide_eq_true c30; clear c30
             by_cases c31 : (sc (sx a1 (0) ((t511 : Int).toNat)) (sx (sx a2 ((t514 : Int).toNat) (a2.size)) (0) (1))).size + (sx a1 (((ji28) : Int).toNat) (a1.size)).size ≤ 9223372036854775807
             ·
              rw [if_pos c31] at H
              have c31b0 := eq_true c31; have c31b1 : decide ((sc (sx a1 (0) ((t511 : Int).toNat)) (sx (sx a2 ((t514 : Int).toNat) (a2.size)) (0) (1))).size + (sx a1 (((ji28) : Int).toNat) (a1.size)).size ≤ 9223372036854775807) = true := decide_eq_true c31
              try have c31b2 : (9223372036854775807 < (sc (sx a1 (0) ((t511 : Int).toNat)) (sx (sx a2 ((t514 : Int).toNat) (a2.size)) (0) (1))).size + (sx a1 (((ji28) : Int).toNat) (a1.size)).size) = False := eq_false (Nat.not_lt.2 c31)
              simp only [Option.some.injEq, Prod.mk.injEq] at H; obtain ⟨rfl, rfl, rfl⟩ := H
              go_enter Tryd.func61, Tryd.ntmps61
              go_wp2_with (first | (go_at_call 55; (with_reducible refine (spec_l1Cur_pick.calls g s0_0 s0_1 s0_2 (a1.size : Int) t511 t512 t513 w0 _ ?side1 ?side2 A7.out).mono ?_); (case side1 => exact is74_0 HI0.out); (case side2 => exact lb1_ HB.out (IsS74.ge HI0.out)); rintro e w32 ⟨rfl, hi, hb, hk⟩; replace HK := Aside0.mk (KeepBut.trans (kb0_ HK.out) hk (.inl rfl)); replace HB := Aside0.mk (hb); replace HI0 := Aside0.mk (hi); (try clear hb); (try clear hb2); (try clear hk); (try clear hi)) | (go_at_call 55; (with_reducible refine (spec_l1Cur_pick.calls g s0_0 t512 t513 (a2.size : Int) t514 t515 t516 w0 _ ?side1 ?side2 A8.out).mono ?_); (case side1 => exact is74_0 HI0.out); (case side2 => exact lb1_ HB.out (IsS74.ge HI0.out)); rintro e w33 ⟨rfl, hi, hb, hk⟩; replace HK := Aside0.mk (KeepBut.trans (kb0_ HK.out) hk (.inl rfl)); replace HB := Aside0.mk (hb); replace HI0 := Aside0.mk (hi); (try clear hb); (try clear hb2); (try clear hk); (try clear hi)) | (go_at_call 55; (with_reducible refine (spec_l1Cur_pick.calls g s0_0 t515 t516 3 t517 t518 t519 w0 _ ?side1 ?side2 A13.out).mono ?_); (case side1 => exact is74_0 HI0.out); (case side2 => exact lb1_ HB.out (IsS74.ge HI0.out)); rintro e w34 ⟨rfl, hi, hb, hk⟩; replace HK := Aside0.mk (KeepBut.trans (kb0_ HK.out) hk (.inl rfl)); replace HB := Aside0.mk (hb); replace HI0 := Aside0.mk (hi); (try clear hb); (try clear hb2); (try clear hk); (try clear hi)))
              repeat (go_quiet (first | (go_at_call 55; (with_reducible refine (spec_l1Cur_pick.calls g s0_0 s0_1 s0_2 (a1.size : Int) t511 t512 t513 w0 _ ?side1 ?side2 A7.out).mono ?_); (case side1 => exact is74_0 HI0.out); (case side2 => exact lb1_ HB.out (IsS74.ge HI0.out)); rintro e w32 ⟨rfl, hi, hb, hk⟩; replace HK := Aside0.mk (KeepBut.trans (kb0_ HK.out) hk (.inl rfl)); replace HB := Aside0.mk (hb); replace HI0 := Aside0.mk (hi); (try clear hb); (try clear hb2); (try clear hk); (try clear hi)) | (go_at_call 55; (with_reducible refine (spec_l1Cur_pick.calls g s0_0 t512 t513 (a2.size : Int) t514 t515 t516 w0 _ ?side1 ?side2 A8.out).mono ?_); (case side1 => exact is74_0 HI0.out); (case side2 => exact lb1_ HB.out (IsS74.ge HI0.out)); rintro e w33 ⟨rfl, hi, hb, hk⟩; replace HK := Aside0.mk (KeepBut.trans (kb0_ HK.out) hk (.inl rfl)); replace HB := Aside0.mk (hb); replace HI0 := Aside0.mk (hi); (try clear hb); (try clear hb2); (try clear hk); (try clear hi)) | (go_at_call 55; (with_reducible refine (spec_l1Cur_pick.calls g s0_0 t515 t516 3 t517 t518 t519 w0 _ ?side1 ?side2 A13.out).mono ?_); (case side1 => exact is74_0 HI0.out); (case side2 => exact lb1_ HB.out (IsS74.ge HI0.out)); rintro e w34 ⟨rfl, hi, hb, hk⟩; replace HK := Aside0.mk (KeepBut.trans (kb0_ HK.out) hk (.inl rfl)); replace HB := Aside0.mk (hb); replace HI0 := Aside0.mk (hi); (try clear hb); (try clear hb2); (try clear hk); (try clear hi))); try go_wp2_with (first | (go_at_call 55; (with_reducible refine (spec_l1Cur_pick.calls g s0_0 s0_1 s0_2 (a1.size : Int) t511 t512 t513 w0 _ ?side1 ?side2 A7.out).mono ?_); (case side1 => exact is74_0 HI0.out); (case side2 => exact lb1_ HB.out (IsS74.ge HI0.out)); rintro e w32 ⟨rfl, hi, hb, hk⟩; replace HK := Aside0.mk (KeepBut.trans (kb0_ HK.out) hk (.inl rfl)); replace HB := Aside0.mk (hb); replace HI0 := Aside0.mk (hi); (try clear hb); (try clear hb2); (try clear hk); (try clear hi)) | (go_at_call 55; (with_reducible refine (spec_l1Cur_pick.calls g s0_0 t512 t513 (a2.size : Int) t514 t515 t516 w0 _ ?side1 ?side2 A8.out).mono ?_); (case side1 => exact is74_0 HI0.out); (case side2 => exact lb1_ HB.out (IsS74.ge HI0.out)); rintro e w33 ⟨rfl, hi, hb, hk⟩; replace HK := Aside0.mk (KeepBut.trans (kb0_ HK.out) hk (.inl rfl)); replace HB := Aside0.mk (hb); replace HI0 := Aside0.mk (hi); (try clear hb); (try clear hb2); (try clear hk); (try clear hi)) | (go_at_call 55; (with_reducible refine (spec_l1Cur_pick.calls g s0_0 t515 t516 3 t517 t518 t519 w0 _ ?side1 ?side2 A13.out).mono ?_); (case side1 => exact is74_0 HI0.out); (case side2 => exact lb1_ HB.out (IsS74.ge HI0.out)); rintro e w34 ⟨rfl, hi, hb, hk⟩; replace HK := Aside0.mk (KeepBut.trans (kb0_ HK.out) hk (.inl rfl)); replace HB := Aside0.mk (hb); replace HI0 := Aside0.mk (hi); (try clear hb); (try clear hb2); (try clear hk); (try clear hi))))
              go_ret
              exact ⟨by first | rfl | (simp [errW_none, errW_some] <;> rfl) | (simp only [← hji28]; first | rfl | (simp [errW_none, errW_some] <;> rfl)) | (simp [*, errW_none, errW_some] <;> rfl), is74_0 HI0.out, lb1_ HB.out (IsS74.ge HI0.out), kb0_ HK.out⟩
             ·
              rw [if_neg c31] at H
              exact absurd H (by simp)
            ·
             rw [if_neg c30] at H
             exact absurd H (by simp)
           ·
            rw [if_neg c29] at H
            exact absurd H (by simp)
          ·
           rw [if_neg c27] at H
           exact absurd H (by simp)
         ·
          rw [if_neg c26] at H
          exact absurd H (by simp)
        ·
         rw [if_neg c25] at H
         exact absurd H (by simp)
       ·
        rw [if_neg c24] at H
        have c24b0 : (t517 == 1) = false := beq_eq_false_iff_ne.mpr c24; have c24b1 : (t517 != 1) = true := bne_iff_ne.mpr c24
        by_cases c35 : 0 ≤ t511
        ·
         rw [if_pos c35] at H
         have c35b0 := eq_true c35; have c35b1 : decide (0 ≤ t511) = true := decide_eq_true c35; clear c35
         by_cases c36 : t511 ≤ (a1.size : Int)
         ·
          rw [if_pos c36] at H
          have c36b0 := eq_true c36; have c36b1 : decide (t511 ≤ (a1.size : Int)) = true := decide_eq_true c36; clear c36
          obtain ⟨ji37, hji37⟩ : ∃ j_ : Int, (wrap64 (t511 + 1)) = j_ := ⟨_, rfl⟩
          replace H : (if 0 ≤ (ji37) then (if (ji37) ≤ (a1.size : Int) then (if (sx a1 (0) ((t511 : Int).toNat)).size + (sx a1 (((ji37) : Int).toNat) (a1.size)).size ≤ 9223372036854775807 then (some (sc (sx a1 (0) ((t511 : Int).toNat)) (sx a1 (((ji37) : Int).toNat) (a1.size)), t518, t519)) else (none)) else (none)) else (none)) = some (r1, r2, r3) := by first | (rw [hji37] at H; exact H) | (simp only [hji37] at H ⊢; exact H)
          (try rw [hji37] at A7); (try rw [hji37] at A8); (try rw [hji37] at A13); have hji37w : (IntKind.i64.wrap (t511 + 1)) = ji37 := (i64_w _).trans hji37
          by_cases c38 : 0 ≤ (ji37)
          ·
           rw [if_pos c38] at H
           have c38b0 := eq_true c38; have c38b1 : decide (0 ≤ (ji37)) = true := decide_eq_true c38; clear c38
           by_cases c39 : (ji37) ≤ (a1.size : Int)
           ·
            rw [if_pos c39] at H
            have c39b0 := eq_true c39; have c39b1 : decide ((ji37) ≤ (a1.size : Int)) = true := decide_eq_true c39; clear c39
            by_cases c40 : (sx a1 (0) ((t511 : Int).toNat)).size + (sx a1 (((ji37) : Int).toNat) (a1.size)).size ≤ 9223372036854775807
            ·
             rw [if_pos c40] at H
             have c40b0 := eq_true c40; have c40b1 : decide ((sx a1 (0) ((t511 : Int).toNat)).size + (sx a1 (((ji37) : Int).toNat) (a1.size)).size ≤ 9223372036854775807) = true := decide_eq_true c40
             try have c40b2 : (9223372036854775807 < (sx a1 (0) ((t511 : Int).toNat)).size + (sx a1 (((ji37) : Int).toNat) (a1.size)).size) = False := eq_false (Nat.not_lt.2 c40)
             simp only [Option.some.injEq, Prod.mk.injEq] at H; obtain ⟨rfl, rfl, rfl⟩ := H
             go_enter Tryd.func61, Tryd.ntmps61
             go_wp2_with (first | (go_at_call 55; (with_reducible refine (spec_l1Cur_pick.calls g s0_0 s0_1 s0_2 (a1.size : Int) t511 t512 t513 w0 _ ?side1 ?side2 A7.out).mono ?_); (case side1 => exact is74_0 HI0.out); (case side2 => exact lb1_ HB.out (IsS74.ge HI0.out)); rintro e w41 ⟨rfl, hi, hb, hk⟩; replace HK := Aside0.mk (KeepBut.trans (kb0_ HK.out) hk (.inl rfl)); replace HB := Aside0.mk (hb); replace HI0 := Aside0.mk (hi); (try clear hb); (try clear hb2); (try clear hk); (try clear hi)) | (go_at_call 55; (with_reducible refine (spec_l1Cur_pick.calls g s0_0 t512 t513 (a2.size : Int) t514 t515 t516 w0 _ ?side1 ?side2 A8.out).mono ?_); (case side1 => exact is74_0 HI0.out); (case side2 => exact lb1_ HB.out (IsS74.ge HI0.out)); rintro e w42 ⟨rfl, hi, hb, hk⟩; replace HK := Aside0.mk (KeepBut.trans (kb0_ HK.out) hk (.inl rfl)); replace HB := Aside0.mk (hb); replace HI0 := Aside0.mk (hi); (try clear hb); (try clear hb2); (try clear hk); (try clear hi)) | (go_at_call 55; (with_reducible refine (spec_l1Cur_pick.calls g s0_0 t515 t516 3 t517 t518 t519 w0 _ ?side1 ?side2 A13.out).mono ?_); (case side1 => exact is74_0 HI0.out); (case side2 => exact lb1_ HB.out (IsS74.ge HI0.out)); rintro e w43 ⟨rfl, hi, hb, hk⟩; replace HK := Aside0.mk (KeepBut.trans (kb0_ HK.out) hk (.inl rfl)); replace HB := Aside0.mk (hb); replace HI0 := Aside0.mk (hi); (try clear hb); (try clear hb2); (try clear hk); (try clear hi)))
             repeat (go_quiet (first | (go_at_call 55; (with_reducible refine (spec_l1Cur_pick.calls g s0_0 s0_1 s0_2 (a1.size : Int) t511 t512 t513 w0 _ ?side1 ?side2 A7.out).mono ?_); (case side1 => exact is74_0 HI0.out); (case side2 => exact lb1_ HB.out (IsS74.ge HI0.out)); rintro e w41 ⟨rfl, hi, hb, hk⟩; replace HK := Aside0.mk (KeepBut.trans (kb0_ HK.out) hk (.inl rfl)); replace HB := Aside0.mk (hb); replace HI0 := Aside0.mk (hi); (try clear hb); (try clear hb2); (try clear hk); (try clear hi)) | (go_at_call 55; (with_reducible refine (spec_l1Cur_pick.calls g s0_0 t512 t513 (a2.size : Int) t514 t515 t516 w0 _ ?side1 ?side2 A8.out).mono ?_); (case side1 => exact is74_0 HI0.out); (case side2 => exact lb1_ HB.out (IsS74.ge HI0.out)); rintro e w42 ⟨rfl, hi, hb, hk⟩; replace HK := Aside0.mk (KeepBut.trans (kb0_ HK.out) hk (.inl rfl)); replace HB := Aside0.mk (hb); replace HI0 := Aside0.mk (hi); (try clear hb); (try clear hb2); (try clear hk); (try clear hi)) | (go_at_call 55; (with_reducible refine (spec_l1Cur_pick.calls g s0_0 t515 t516 3 t517 t518 t519 w0 _ ?side1 ?side2 A13.out).mono ?_); (case side1 => exact is74_0 HI0.out); (case side2 => exact lb1_ HB.out (IsS74.ge HI0.out)); rintro e w43 ⟨rfl, hi, hb, hk⟩; replace HK := Aside0.mk (KeepBut.trans (kb0_ HK.out) hk (.inl rfl)); replace HB := Aside0.mk (hb); replace HI0 := Aside0.mk (hi); (try clear hb); (try clear hb2); (try clear hk); (try clear hi))); try go_wp2_with (first | (go_at_call 55; (with_reducible refine (spec_l1Cur_pick.calls g s0_0 s0_1 s0_2 (a1.size : Int) t511 t512 t513 w0 _ ?side1 ?side2 A7.out).mono ?_); (case side1 => exact is74_0 HI0.out); (case side2 => exact lb1_ HB.out (IsS74.ge HI0.out)); rintro e w41 ⟨rfl, hi, hb, hk⟩; replace HK := Aside0.mk (KeepBut.trans (kb0_ HK.out) hk (.inl rfl)); replace HB := Aside0.mk (hb); replace HI0 := Aside0.mk (hi); (try clear hb); (try clear hb2); (try clear hk); (try clear hi)) | (go_at_call 55; (with_reducible refine (spec_l1Cur_pick.calls g s0_0 t512 t513 (a2.size : Int) t514 t515 t516 w0 _ ?side1 ?side2 A8.out).mono ?_); (case side1 => exact is74_0 HI0.out); (case side2 => exact lb1_ HB.out (IsS74.ge HI0.out)); rintro e w42 ⟨rfl, hi, hb, hk⟩; replace HK := Aside0.mk (KeepBut.trans (kb0_ HK.out) hk (.inl rfl)); replace HB := Aside0.mk (hb); replace HI0 := Aside0.mk (hi); (try clear hb); (try clear hb2); (try clear hk); (try clear hi)) | (go_at_call 55; (with_reducible refine (spec_l1Cur_pick.calls g s0_0 t515 t516 3 t517 t518 t519 w0 _ ?side1 ?side2 A13.out).mono ?_); (case side1 => exact is74_0 HI0.out); (case side2 => exact lb1_ HB.out (IsS74.ge HI0.out)); rintro e w43 ⟨rfl, hi, hb, hk⟩; replace HK := Aside0.mk (KeepBut.trans (kb0_ HK.out) hk (.inl rfl)); replace HB := Aside0.mk (hb); replace HI0 := Aside0.mk (hi); (try clear hb); (try clear hb2); (try clear hk); (try clear hi))))
             go_ret
             exact ⟨by first | rfl | (simp [errW_none, errW_some] <;> rfl) | (simp only [← hji37]; first | rfl | (simp [errW_none, errW_some] <;> rfl)) | (simp [*, errW_none, errW_some] <;> rfl), is74_0 HI0.out, lb1_ HB.out (IsS74.ge HI0.out), kb0_ HK.out⟩
            ·
             rw [if_neg c40] at H
             exact absurd H (by simp)
           ·
            rw [if_neg c39] at H
            exact absurd H (by simp)
          ·
           rw [if_neg c38] at H
           exact absurd H (by simp)
         ·
          rw [if_neg c36] at H
          exact absurd H (by simp)
        ·
         rw [if_neg c35] at H
         exact absurd H (by simp)
     ·
      rw [if_neg c12] at H
      exact absurd H (by simp)
    ·
     rw [if_neg c11] at H
     exact absurd H (by simp)
   ·
    rw [if_neg c10] at H
    exact absurd H (by simp)
  ·
   rw [if_neg c9] at H
   exact absurd H (by simp)
def spec_l1Cur_anyLog.f (k : Nat) (s0_0 : List Int) (s0_1 : Int) (s0_2 : Int) : Option (ByteArray × ByteArray × Int × Int × Int) := (spec_l1Cur_log.f k s0_0 s0_1 s0_2).bind fun bt521 => ((spec_l1Cur_pick.f s0_0 bt521.2.2.2.1 bt521.2.2.2.2 24).bind fun bt527 => (if bt527.1 = 0 then (some (bt521.1, bt521.2.1, wrap64 (bt521.2.2.1 + 1), bt527.2.1, bt527.2.2)) else (if bt527.1 = 1 then ((spec_l1Cur_spoilt.f s0_0 bt527.2.1 bt527.2.2 bt521.2.1 (⟨#[35, 64, 10, 48, 49]⟩ : ByteArray)).bind fun bt530 => (some (bt521.1, bt530.1, bt521.2.2.1, bt530.2.1, bt530.2.2))) else (if bt527.1 = 2 then (if bt521.1.size + bt521.2.1.size ≤ 9223372036854775807 then (some (sc bt521.1 bt521.2.1, bt521.2.1, bt521.2.2.1, bt527.2.1, bt527.2.2)) else (none)) else (some (bt521.1, bt521.2.1, bt521.2.2.1, bt527.2.1, bt527.2.2))))))
set_option maxHeartbeats 8000000 in
set_option maxRecDepth 100000 in
theorem spec_l1Cur_anyLog.calls (k : Nat) (g : Nat) (s0_0 : List Int) (s0_1 : Int) (s0_2 : Int) (r1 : ByteArray) (r2 : ByteArray) (r3 : Int) (r4 : Int) (r5 : Int) (w0 w : World) (hI : IsS74 w0 w g s0_0 s0_1 s0_2) (hB : Below w0.heap.size w0 w) (h : spec_l1Cur_anyLog.f k s0_0 s0_1 s0_2 = some (r1, r2, r3, r4, r5)) :
  Calls Tryd.prog 53 #[.pointer (some ⟨g, 0, none⟩)] w fun e w' => e = .returned (.agg #[.string r1, .string r2, .int .i64 r3]) ∧ IsS74 w0 w' g s0_0 r4 r5 ∧ Below w0.heap.size w0 w' ∧ KeepBut w w' g none := by
 have hu31 := Tryd.underlying31
 have HI0 := Aside0.mk hI
 have HK := Aside0.mk (KeepBut.refl w g none)
 have HL := Aside0.mk hB.size
 clear hI
 have HW0 := Aside0.mk hB.size
 have HB := Aside0.mk hB
 clear hB
 have H : ((spec_l1Cur_log.f k s0_0 s0_1 s0_2).bind fun bt521 => ((spec_l1Cur_pick.f s0_0 bt521.2.2.2.1 bt521.2.2.2.2 24).bind fun bt527 => (if bt527.1 = 0 then (some (bt521.1, bt521.2.1, wrap64 (bt521.2.2.1 + 1), bt527.2.1, bt527.2.2)) else (if bt527.1 = 1 then ((spec_l1Cur_spoilt.f s0_0 bt527.2.1 bt527.2.2 bt521.2.1 (⟨#[35, 64, 10, 48, 49]⟩ : ByteArray)).bind fun bt530 => (some (bt521.1, bt530.1, bt521.2.2.1, bt530.2.1, bt530.2.2))) else (if bt527.1 = 2 then (if bt521.1.size + bt521.2.1.size ≤ 9223372036854775807 then (some (sc bt521.1 bt521.2.1, bt521.2.1, bt521.2.2.1, bt527.2.1, bt527.2.2)) else (none)) else (some (bt521.1, bt521.2.1, bt521.2.2.1, bt527.2.1, bt527.2.2))))))) = some (r1, r2, r3, r4, r5) := h
 clear h
 replace H := Option.bind_eq_some_iff.mp H
 obtain ⟨⟨t521, t522, t523, t524, t525⟩, A20, H⟩ := H
 replace H : ((spec_l1Cur_pick.f s0_0 t524 t525 24).bind fun bt527 => (if bt527.1 = 0 then (some (t521, t522, wrap64 (t523 + 1), bt527.2.1, bt527.2.2)) else (if bt527.1 = 1 then ((spec_l1Cur_spoilt.f s0_0 bt527.2.1 bt527.2.2 t522 (⟨#[35, 64, 10, 48, 49]⟩ : ByteArray)).bind fun bt530 => (some (t521, bt530.1, t523, bt530.2.1, bt530.2.2))) else (if bt527.1 = 2 then (if t521.size + t522.size ≤ 9223372036854775807 then (some (sc t521 t522, t522, t523, bt527.2.1, bt527.2.2)) else (none)) else (some (t521, t522, t523, bt527.2.1, bt527.2.2)))))) = some (r1, r2, r3, r4, r5) := H
 have A2 := Aside0.mk A20
 clear A20
 replace H := Option.bind_eq_some_iff.mp H
 obtain ⟨⟨t527, t528, t529⟩, A30, H⟩ := H
 replace H : (if t527 = 0 then (some (t521, t522, wrap64 (t523 + 1), t528, t529)) else (if t527 = 1 then ((spec_l1Cur_spoilt.f s0_0 t528 t529 t522 (⟨#[35, 64, 10, 48, 49]⟩ : ByteArray)).bind fun bt530 => (some (t521, bt530.1, t523, bt530.2.1, bt530.2.2))) else (if t527 = 2 then (if t521.size + t522.size ≤ 9223372036854775807 then (some (sc t521 t522, t522, t523, t528, t529)) else (none)) else (some (t521, t522, t523, t528, t529))))) = some (r1, r2, r3, r4, r5) := H
 have A3 := Aside0.mk A30
 clear A30
 by_cases c4 : t527 = 0
 ·
  rw [if_pos c4] at H
  have c4b0 : (t527 == 0) = true := beq_iff_eq.mpr c4
  have c4b1 : (t527 != 0) = false := bne_eq_false_iff_eq.mpr c4
  clear c4
  simp only [Option.some.injEq, Prod.mk.injEq] at H
  obtain ⟨rfl, rfl, rfl, rfl, rfl⟩ := H
  go_enter Tryd.func53, Tryd.ntmps53
  go_wp2_with (first | ((with_reducible refine gate_dst (N := 2) rfl ?_); refine box_event ?hg (N := 2) ?hd (cs := #[.string (⟨#[]⟩ : ByteArray), .string (⟨#[]⟩ : ByteArray), .int .i64 0]) (t := 31) ?hr ?_; (case hd => rfl); (case hg => rfl); (case hr => first | (go_simp; done) | (go_simp; rfl)); intro gb520 hg w5 hbox hb; replace HB := Aside0.mk (below_step (lb1_ HB.out (IsS74.ge HI0.out)) hb); have BK520 := Aside0.mk (hbox); have GW520 := Aside0.mk ((by rw [hg]; exact (keep_size (w := w) (g := g) (row := none) (kb0_ HK.out)) : w.heap.size ≤ gb520)); have GE520 := Aside0.mk ((Nat.le_trans HW0.out (by rw [hg]; exact (keep_size (w := w) (g := g) (row := none) (kb0_ HK.out)) : w.heap.size ≤ gb520) : w0.heap.size ≤ gb520)); replace HK := Aside0.mk (KeepBut.trans (kb0_ HK.out) (KeepBut.of_below hb g none) (.inl rfl)); have NB0_520 := Aside0.mk ((by rw [hg]; exact Nat.ne_of_lt (IsS74.lt (show IsS74 w0 _ g s0_0 s0_1 s0_2 from is74_0 HI0.out)) : g ≠ gb520)); have NB520_0 := Aside0.mk ((by rw [hg]; exact Nat.ne_of_gt (IsS74.lt (show IsS74 w0 _ g s0_0 s0_1 s0_2 from is74_0 HI0.out)) : gb520 ≠ g)); replace HI0 := Aside0.mk (IsS74.below (is74_0 HI0.out) hb); clear hb hbox hg) | ((with_reducible refine gate_callee (f := 60) rfl ?_); refine ga_ (some 5) Tryd.func60 #[.pointer (some ⟨g, 0, none⟩)] ?_; (with_reducible refine (spec_l1Cur_log.calls k g s0_0 s0_1 s0_2 t521 t522 t523 t524 t525 w0 _ ?side1 ?side2 A2.out).mono ?_); (case side1 => exact is74_1 HI0.out NB0_520.out); (case side2 => exact lb2_ HB.out (IsS74.ge HI0.out) GE520.out); rintro e w6 ⟨rfl, hi, hb, hk⟩; refine ⟨_, rfl, ?_⟩; replace BK520 := Aside0.mk (KeepBut.blk hk (g' := gb520) (o := .cells #[.string (⟨#[]⟩ : ByteArray), .string (⟨#[]⟩ : ByteArray), .int .i64 0] 31 (0, 0)) (bk_ BK520.out) NB520_0.out (by simp)); replace HK := Aside0.mk (KeepBut.trans (kb1_ HK.out GW520.out) hk (.inl rfl)); replace HB := Aside0.mk (hb); replace HI0 := Aside0.mk (hi); (try clear hb); (try clear hb2); (try clear hk); (try clear hi)) | ((with_reducible refine gate_dst (N := 3) rfl ?_); refine box_event ?hg (N := 3) ?hd (cs := #[.string (⟨#[]⟩ : ByteArray), .string (⟨#[]⟩ : ByteArray), .int .i64 0]) (t := 31) ?hr ?_; (case hd => rfl); (case hg => rfl); (case hr => first | (go_simp; done) | (go_simp; rfl)); intro gb526 hg w7 hbox hb; replace HB := Aside0.mk (below_step (lb2_ HB.out (IsS74.ge HI0.out) GE520.out) hb); have BK526 := Aside0.mk (hbox); have GW526 := Aside0.mk ((by rw [hg]; exact (keep_size (w := w) (g := g) (row := none) (kb1_ HK.out GW520.out)) : w.heap.size ≤ gb526)); have GE526 := Aside0.mk ((Nat.le_trans HW0.out (by rw [hg]; exact (keep_size (w := w) (g := g) (row := none) (kb1_ HK.out GW520.out)) : w.heap.size ≤ gb526) : w0.heap.size ≤ gb526)); replace HK := Aside0.mk (KeepBut.trans (kb1_ HK.out GW520.out) (KeepBut.of_below hb g none) (.inl rfl)); have NB520_526 := Aside0.mk ((by rw [hg]; exact Nat.ne_of_lt (blk_lt (g := gb520) (o := .cells #[.string (⟨#[]⟩ : ByteArray), .string (⟨#[]⟩ : ByteArray), .int .i64 0] 31 (0, 0)) (bk_ BK520.out)) : gb520 ≠ gb526)); have NB526_520 := Aside0.mk ((by rw [hg]; exact Nat.ne_of_gt (blk_lt (g := gb520) (o := .cells #[.string (⟨#[]⟩ : ByteArray), .string (⟨#[]⟩ : ByteArray), .int .i64 0] 31 (0, 0)) (bk_ BK520.out)) : gb526 ≠ gb520)); replace BK520 := Aside0.mk (bb_ (bk_ BK520.out) hb); have NB0_526 := Aside0.mk ((by rw [hg]; exact Nat.ne_of_lt (IsS74.lt (show IsS74 w0 _ g s0_0 t524 t525 from is74_1 HI0.out NB0_520.out)) : g ≠ gb526)); have NB526_0 := Aside0.mk ((by rw [hg]; exact Nat.ne_of_gt (IsS74.lt (show IsS74 w0 _ g s0_0 t524 t525 from is74_1 HI0.out NB0_520.out)) : gb526 ≠ g)); replace HI0 := Aside0.mk (IsS74.below (is74_1 HI0.out NB0_520.out) hb); clear hb hbox hg; have hnb8 := NB526_520.out; have hnc8 := NB520_526.out; have hnb9 := NB526_0.out; have hnc9 := NB0_526.out; obtain ⟨hcz10_0, hcz10_1, hcz10_2⟩ := cz3_ BK526.out; obtain ⟨hfz10_0, hfz10_1, hfz10_2⟩ := fz3_ BK526.out) | ((with_reducible refine gate_callee (f := 55) rfl ?_); refine ga_ (some 7) Tryd.func55 #[.pointer (some ⟨g, 0, none⟩), .int .i64 24] ?_; (with_reducible refine (spec_l1Cur_pick.calls g s0_0 t524 t525 24 t527 t528 t529 w0 _ ?side1 ?side2 A3.out).mono ?_); (case side1 => exact is74_2 HI0.out NB0_520.out NB0_526.out); (case side2 => exact lb3_ HB.out (IsS74.ge HI0.out) GE520.out GE526.out); rintro e w11 ⟨rfl, hi, hb, hk⟩; refine ⟨_, rfl, ?_⟩; replace BK520 := Aside0.mk (KeepBut.blk hk (g' := gb520) (o := .cells #[.string (⟨#[]⟩ : ByteArray), .string (⟨#[]⟩ : ByteArray), .int .i64 0] 31 (0, 0)) (by (with_reducible repeat (first | refine blk_drewN ?_ _ | refine blk_drew ?_ | refine blk_alloc ?_ _)); refine blk_far ?_ NB520_526.out _; (with_reducible repeat (first | refine blk_drewN ?_ _ | refine blk_drew ?_ | refine blk_alloc ?_ _)); refine blk_far ?_ NB520_526.out _; (with_reducible repeat (first | refine blk_drewN ?_ _ | refine blk_drew ?_ | refine blk_alloc ?_ _)); refine blk_far ?_ NB520_526.out _; (with_reducible repeat (first | refine blk_drewN ?_ _ | refine blk_drew ?_ | refine blk_alloc ?_ _)); exact BK520.out) NB520_0.out (by simp)); replace BK526 := Aside0.mk (KeepBut.blk hk (g' := gb526) (o := .cells #[.string t521, .string t522, .int .i64 t523] 31 (0, 0)) (by (with_reducible repeat (first | refine blk_drewN ?_ _ | refine blk_drew ?_ | refine blk_alloc ?_ _)); refine blk_put (cs := #[.string t521, .string t522, .int .i64 0]) ?_ 2 _ rfl; (with_reducible repeat (first | refine blk_drewN ?_ _ | refine blk_drew ?_ | refine blk_alloc ?_ _)); refine blk_put (cs := #[.string t521, .string (⟨#[]⟩ : ByteArray), .int .i64 0]) ?_ 1 _ rfl; (with_reducible repeat (first | refine blk_drewN ?_ _ | refine blk_drew ?_ | refine blk_alloc ?_ _)); refine blk_put (cs := #[.string (⟨#[]⟩ : ByteArray), .string (⟨#[]⟩ : ByteArray), .int .i64 0]) ?_ 0 _ rfl; (with_reducible repeat (first | refine blk_drewN ?_ _ | refine blk_drew ?_ | refine blk_alloc ?_ _)); exact BK526.out) NB526_0.out (by simp)); replace HK := Aside0.mk (KeepBut.trans (kb2_ HK.out GW520.out GW526.out) hk (.inl rfl)); replace HB := Aside0.mk (hb); replace HI0 := Aside0.mk (hi); (try clear hb); (try clear hb2); (try clear hk); (try clear hi); obtain ⟨hcz12_0, hcz12_1, hcz12_2⟩ := cz3_ BK526.out; obtain ⟨hfz12_0, hfz12_1, hfz12_2⟩ := fz3_ BK526.out; have hnb13 := NB520_0.out; have hnc13 := NB0_520.out; obtain ⟨hcz14_0, hcz14_1, hcz14_2⟩ := cz3_ BK520.out; obtain ⟨hfz14_0, hfz14_1, hfz14_2⟩ := fz3_ BK520.out))
  refine bodyPost_ret (results_cell_row rfl _ _ gb520 31 #[.string t521, .string t522, .int .i64 (wrap64 (t523 + 1))] (0, 0) _ rfl (by (with_reducible repeat (first | refine blk_drewN ?_ _ | refine blk_drew ?_ | refine blk_alloc ?_ _)); refine blk_put (cs := #[.string t521, .string t522, .int .i64 0]) ?_ 2 _ rfl; (with_reducible repeat (first | refine blk_drewN ?_ _ | refine blk_drew ?_ | refine blk_alloc ?_ _)); refine blk_put (cs := #[.string t521, .string (⟨#[]⟩ : ByteArray), .int .i64 0]) ?_ 1 _ rfl; (with_reducible repeat (first | refine blk_drewN ?_ _ | refine blk_drew ?_ | refine blk_alloc ?_ _)); refine blk_put (cs := #[.string (⟨#[]⟩ : ByteArray), .string (⟨#[]⟩ : ByteArray), .int .i64 0]) ?_ 0 _ rfl; (with_reducible repeat (first | refine blk_drewN ?_ _ | refine blk_drew ?_ | refine blk_alloc ?_ _)); refine blk_far ?_ NB520_526.out _; (with_reducible repeat (first | refine blk_drewN ?_ _ | refine blk_drew ?_ | refine blk_alloc ?_ _)); exact BK520.out) Tryd.underlying31 rfl (by kernel_rfl)) rfl ?_
  exact ⟨rr_, is74_2 HI0.out NB0_520.out NB0_526.out, lb3_ HB.out (IsS74.ge HI0.out) GE520.out GE526.out, kb2_ HK.out GW520.out GW526.out⟩
 ·
  rw [if_neg c4] at H
  have c4b0 : (t527 == 0) = false := beq_eq_false_iff_ne.mpr c4
  have c4b1 : (t527 != 0) = true := bne_iff_ne.mpr c4
  by_cases c15 : t527 = 1
  ·
   rw [if_pos c15] at H
   have c15b0 : (t527 == 1) = true := beq_iff_eq.mpr c15
   have c15b1 : (t527 != 1) = false := bne_eq_false_iff_eq.mpr c15
   clear c15
   replace H := Option.bind_eq_some_iff.mp H
   obtain ⟨⟨t530, t531, t532⟩, A160, H⟩ := H
   replace H : (some (t521, t530, t523, t531, t532)) = some (r1, r2, r3, r4, r5) := H
   have A16 := Aside0.mk A160
   clear A160
   simp only [Option.some.injEq, Prod.mk.injEq] at H
   obtain ⟨rfl, rfl, rfl, rfl, rfl⟩ := H
   go_enter Tryd.func53, Tryd.ntmps53
   go_wp2_with (first | ((with_reducible refine gate_dst (N := 2) rfl ?_); refine box_event ?hg (N := 2) ?hd (cs := #[.string (⟨#[]⟩ : ByteArray), .string (⟨#[]⟩ : ByteArray), .int .i64 0]) (t := 31) ?hr ?_; (case hd => rfl); (case hg => rfl); (case hr => first | (go_simp; done) | (go_simp; rfl)); intro gb520 hg w17 hbox hb; replace HB := Aside0.mk (below_step (lb1_ HB.out (IsS74.ge HI0.out)) hb); have BK520 := Aside0.mk (hbox); have GW520 := Aside0.mk ((by rw [hg]; exact (keep_size (w := w) (g := g) (row := none) (kb0_ HK.out)) : w.heap.size ≤ gb520)); have GE520 := Aside0.mk ((Nat.le_trans HW0.out (by rw [hg]; exact (keep_size (w := w) (g := g) (row := none) (kb0_ HK.out)) : w.heap.size ≤ gb520) : w0.heap.size ≤ gb520)); replace HK := Aside0.mk (KeepBut.trans (kb0_ HK.out) (KeepBut.of_below hb g none) (.inl rfl)); have NB0_520 := Aside0.mk ((by rw [hg]; exact Nat.ne_of_lt (IsS74.lt (show IsS74 w0 _ g s0_0 s0_1 s0_2 from is74_0 HI0.out)) : g ≠ gb520)); have NB520_0 := Aside0.mk ((by rw [hg]; exact Nat.ne_of_gt (IsS74.lt (show IsS74 w0 _ g s0_0 s0_1 s0_2 from is74_0 HI0.out)) : gb520 ≠ g)); replace HI0 := Aside0.mk (IsS74.below (is74_0 HI0.out) hb); clear hb hbox hg) | ((with_reducible refine gate_callee (f := 60) rfl ?_); refine ga_ (some 5) Tryd.func60 #[.pointer (some ⟨g, 0, none⟩)] ?_; (with_reducible refine (spec_l1Cur_log.calls k g s0_0 s0_1 s0_2 t521 t522 t523 t524 t525 w0 _ ?side1 ?side2 A2.out).mono ?_); (case side1 => exact is74_1 HI0.out NB0_520.out); (case side2 => exact lb2_ HB.out (IsS74.ge HI0.out) GE520.out); rintro e w18 ⟨rfl, hi, hb, hk⟩; refine ⟨_, rfl, ?_⟩; replace BK520 := Aside0.mk (KeepBut.blk hk (g' := gb520) (o := .cells #[.string (⟨#[]⟩ : ByteArray), .string (⟨#[]⟩ : ByteArray), .int .i64 0] 31 (0, 0)) (bk_ BK520.out) NB520_0.out (by simp)); replace HK := Aside0.mk (KeepBut.trans (kb1_ HK.out GW520.out) hk (.inl rfl)); replace HB := Aside0.mk (hb); replace HI0 := Aside0.mk (hi); (try clear hb); (try clear hb2); (try clear hk); (try clear hi)) | ((with_reducible refine gate_dst (N := 3) rfl ?_); refine box_event ?hg (N := 3) ?hd (cs := #[.string (⟨#[]⟩ : ByteArray), .string (⟨#[]⟩ : ByteArray), .int .i64 0]) (t := 31) ?hr ?_; (case hd => rfl); (case hg => rfl); (case hr => first | (go_simp; done) | (go_simp; rfl)); intro gb526 hg w19 hbox hb; replace HB := Aside0.mk (below_step (lb2_ HB.out (IsS74.ge HI0.out) GE520.out) hb); have BK526 := Aside0.mk (hbox); have GW526 := Aside0.mk ((by rw [hg]; exact (keep_size (w := w) (g := g) (row := none) (kb1_ HK.out GW520.out)) : w.heap.size ≤ gb526)); have GE526 := Aside0.mk ((Nat.le_trans HW0.out (by rw [hg]; exact (keep_size (w := w) (g := g) (row := none) (kb1_ HK.out GW520.out)) : w.heap.size ≤ gb526) : w0.heap.size ≤ gb526)); replace HK := Aside0.mk (KeepBut.trans (kb1_ HK.out GW520.out) (KeepBut.of_below hb g none) (.inl rfl)); have NB520_526 := Aside0.mk ((by rw [hg]; exact Nat.ne_of_lt (blk_lt (g := gb520) (o := .cells #[.string (⟨#[]⟩ : ByteArray), .string (⟨#[]⟩ : ByteArray), .int .i64 0] 31 (0, 0)) (bk_ BK520.out)) : gb520 ≠ gb526)); have NB526_520 := Aside0.mk ((by rw [hg]; exact Nat.ne_of_gt (blk_lt (g := gb520) (o := .cells #[.string (⟨#[]⟩ : ByteArray), .string (⟨#[]⟩ : ByteArray), .int .i64 0] 31 (0, 0)) (bk_ BK520.out)) : gb526 ≠ gb520)); replace BK520 := Aside0.mk (bb_ (bk_ BK520.out) hb); have NB0_526 := Aside0.mk ((by rw [hg]; exact Nat.ne_of_lt (IsS74.lt (show IsS74 w0 _ g s0_0 t524 t525 from is74_1 HI0.out NB0_520.out)) : g ≠ gb526)); have NB526_0 := Aside0.mk ((by rw [hg]; exact Nat.ne_of_gt (IsS74.lt (show IsS74 w0 _ g s0_0 t524 t525 from is74_1 HI0.out NB0_520.out)) : gb526 ≠ g)); replace HI0 := Aside0.mk (IsS74.below (is74_1 HI0.out NB0_520.out) hb); clear hb hbox hg; have hnb20 := NB526_520.out; have hnc20 := NB520_526.out; have hnb21 := NB526_0.out; have hnc21 := NB0_526.out; obtain ⟨hcz22_0, hcz22_1, hcz22_2⟩ := cz3_ BK526.out; obtain ⟨hfz22_0, hfz22_1, hfz22_2⟩ := fz3_ BK526.out) | ((with_reducible refine gate_callee (f := 55) rfl ?_); refine ga_ (some 7) Tryd.func55 #[.pointer (some ⟨g, 0, none⟩), .int .i64 24] ?_; (with_reducible refine (spec_l1Cur_pick.calls g s0_0 t524 t525 24 t527 t528 t529 w0 _ ?side1 ?side2 A3.out).mono ?_); (case side1 => exact is74_2 HI0.out NB0_520.out NB0_526.out); (case side2 => exact lb3_ HB.out (IsS74.ge HI0.out) GE520.out GE526.out); rintro e w23 ⟨rfl, hi, hb, hk⟩; refine ⟨_, rfl, ?_⟩; replace BK520 := Aside0.mk (KeepBut.blk hk (g' := gb520) (o := .cells #[.string (⟨#[]⟩ : ByteArray), .string (⟨#[]⟩ : ByteArray), .int .i64 0] 31 (0, 0)) (by (with_reducible repeat (first | refine blk_drewN ?_ _ | refine blk_drew ?_ | refine blk_alloc ?_ _)); refine blk_far ?_ NB520_526.out _; (with_reducible repeat (first | refine blk_drewN ?_ _ | refine blk_drew ?_ | refine blk_alloc ?_ _)); refine blk_far ?_ NB520_526.out _; (with_reducible repeat (first | refine blk_drewN ?_ _ | refine blk_drew ?_ | refine blk_alloc ?_ _)); refine blk_far ?_ NB520_526.out _; (with_reducible repeat (first | refine blk_drewN ?_ _ | refine blk_drew ?_ | refine blk_alloc ?_ _)); exact BK520.out) NB520_0.out (by simp)); replace BK526 := Aside0.mk (KeepBut.blk hk (g' := gb526) (o := .cells #[.string t521, .string t522, .int .i64 t523] 31 (0, 0)) (by (with_reducible repeat (first | refine blk_drewN ?_ _ | refine blk_drew ?_ | refine blk_alloc ?_ _)); refine blk_put (cs := #[.string t521, .string t522, .int .i64 0]) ?_ 2 _ rfl; (with_reducible repeat (first | refine blk_drewN ?_ _ | refine blk_drew ?_ | refine blk_alloc ?_ _)); refine blk_put (cs := #[.string t521, .string (⟨#[]⟩ : ByteArray), .int .i64 0]) ?_ 1 _ rfl; (with_reducible repeat (first | refine blk_drewN ?_ _ | refine blk_drew ?_ | refine blk_alloc ?_ _)); refine blk_put (cs := #[.string (⟨#[]⟩ : ByteArray), .string (⟨#[]⟩ : ByteArray), .int .i64 0]) ?_ 0 _ rfl; (with_reducible repeat (first | refine blk_drewN ?_ _ | refine blk_drew ?_ | refine blk_alloc ?_ _)); exact BK526.out) NB526_0.out (by simp)); replace HK := Aside0.mk (KeepBut.trans (kb2_ HK.out GW520.out GW526.out) hk (.inl rfl)); replace HB := Aside0.mk (hb); replace HI0 := Aside0.mk (hi); (try clear hb); (try clear hb2); (try clear hk); (try clear hi); obtain ⟨hcz24_0, hcz24_1, hcz24_2⟩ := cz3_ BK526.out; obtain ⟨hfz24_0, hfz24_1, hfz24_2⟩ := fz3_ BK526.out) | ((with_reducible refine gate_callee (f := 61) rfl ?_); refine ga_ (some 19) Tryd.func61 #[.pointer (some ⟨g, 0, none⟩), .string t522, .string (⟨#[35, 64, 10, 48, 49]⟩ : ByteArray)] ?_; (with_reducible refine (spec_l1Cur_spoilt.calls g s0_0 t528 t529 t522 (⟨#[35, 64, 10, 48, 49]⟩ : ByteArray) t530 t531 t532 w0 _ ?side1 ?side2 A16.out).mono ?_); (case side1 => exact is74_2 HI0.out NB0_520.out NB0_526.out); (case side2 => exact lb3_ HB.out (IsS74.ge HI0.out) GE520.out GE526.out); rintro e w25 ⟨rfl, hi, hb, hk⟩; refine ⟨_, rfl, ?_⟩; replace BK520 := Aside0.mk (KeepBut.blk hk (g' := gb520) (o := .cells #[.string (⟨#[]⟩ : ByteArray), .string (⟨#[]⟩ : ByteArray), .int .i64 0] 31 (0, 0)) (bk_ BK520.out) NB520_0.out (by simp)); replace BK526 := Aside0.mk (KeepBut.blk hk (g' := gb526) (o := .cells #[.string t521, .string t522, .int .i64 t523] 31 (0, 0)) (bk_ BK526.out) NB526_0.out (by simp)); replace HK := Aside0.mk (KeepBut.trans (kb2_ HK.out GW520.out GW526.out) hk (.inl rfl)); replace HB := Aside0.mk (hb); replace HI0 := Aside0.mk (hi); (try clear hb); (try clear hb2); (try clear hk); (try clear hi); obtain ⟨hcz26_0, hcz26_1, hcz26_2⟩ := cz3_ BK526.out; obtain ⟨hfz26_0, hfz26_1, hfz26_2⟩ := fz3_ BK526.out; have hnb27 := NB520_0.out; have hnc27 := NB0_520.out; obtain ⟨hcz28_0, hcz28_1, hcz28_2⟩ := cz3_ BK520.out; obtain ⟨hfz28_0, hfz28_1, hfz28_2⟩ := fz3_ BK520.out))
   refine bodyPost_ret (results_cell_row rfl _ _ gb520 31 #[.string t521, .string t530, .int .i64 t523] (0, 0) _ rfl (by (with_reducible repeat (first | refine blk_drewN ?_ _ | refine blk_drew ?_ | refine blk_alloc ?_ _)); refine blk_put (cs := #[.string t521, .string t530, .int .i64 0]) ?_ 2 _ rfl; (with_reducible repeat (first | refine blk_drewN ?_ _ | refine blk_drew ?_ | refine blk_alloc ?_ _)); refine blk_put (cs := #[.string t521, .string (⟨#[]⟩ : ByteArray), .int .i64 0]) ?_ 1 _ rfl; (with_reducible repeat (first | refine blk_drewN ?_ _ | refine blk_drew ?_ | refine blk_alloc ?_ _)); refine blk_put (cs := #[.string (⟨#[]⟩ : ByteArray), .string (⟨#[]⟩ : ByteArray), .int .i64 0]) ?_ 0 _ rfl; (with_reducible repeat (first | refine blk_drewN ?_ _ | refine blk_drew ?_ | refine blk_alloc ?_ _)); refine blk_far ?_ NB520_526.out _; (with_reducible repeat (first | refine blk_drewN ?_ _ | refine blk_drew ?_ | refine blk_alloc ?_ _)); exact BK520.out) Tryd.underlying31 rfl (by kernel_rfl)) rfl ?_
   exact ⟨rr_, is74_2 HI0.out NB0_520.out NB0_526.out, lb3_ HB.out (IsS74.ge HI0.out) GE520.out GE526.out, kb2_ HK.out GW520.out GW526.out⟩
  ·
   rw [if_neg c15] at H
   have c15b0 : (t527 == 1) = false := beq_eq_false_iff_ne.mpr c15
   have c15b1 : (t527 != 1) = true := bne_iff_ne.mpr c15
   by_cases c29 : t527 = 2
   ·
    rw [if_pos c29] at H
    have c29b0 : (t527 == 2) = true := beq_iff_eq.mpr c29
    have c29b1 : (t527 != 2) = false := bne_eq_false_iff_eq.mpr c29
    clear c29
    by_cases c30 : t521.size + t522.size ≤ 9223372036854775807
    ·
     rw [if_pos c30] at H
     have c30b0 := eq_true c30
     have c30b1 : decide (t521.size + t522.size ≤ 9223372036854775807) = true := decide_eq_true c30
     try have c30b2 : (9223372036854775807 < t521.size + t522.size) = False := eq_false (Nat.not_lt.2 c30)
     simp only [Option.some.injEq, Prod.mk.injEq] at H
     obtain ⟨rfl, rfl, rfl, rfl, rfl⟩ := H
     go_enter Tryd.func53, Tryd.ntmps53
     go_wp2_with (first | ((with_reducible refine gate_dst (N := 2) rfl ?_); refine box_event ?hg (N := 2) ?hd (cs := #[.string (⟨#[]⟩ : ByteArray), .string (⟨#[]⟩ : ByteArray), .int .i64 0]) (t := 31) ?hr ?_; (case hd => rfl); (case hg => rfl); (case hr => first | (go_simp; done) | (go_simp; rfl)); intro gb520 hg w31 hbox hb; replace HB := Aside0.mk (below_step (lb1_ HB.out (IsS74.ge HI0.out)) hb); have BK520 := Aside0.mk (hbox); have GW520 := Aside0.mk ((by rw [hg]; exact (keep_size (w := w) (g := g) (row := none) (kb0_ HK.out)) : w.heap.size ≤ gb520)); have GE520 := Aside0.mk ((Nat.le_trans HW0.out (by rw [hg]; exact (keep_size (w := w) (g := g) (row := none) (kb0_ HK.out)) : w.heap.size ≤ gb520) : w0.heap.size ≤ gb520)); replace HK := Aside0.mk (KeepBut.trans (kb0_ HK.out) (KeepBut.of_below hb g none) (.inl rfl)); have NB0_520 := Aside0.mk ((by rw [hg]; exact Nat.ne_of_lt (IsS74.lt (show IsS74 w0 _ g s0_0 s0_1 s0_2 from is74_0 HI0.out)) : g ≠ gb520)); have NB520_0 := Aside0.mk ((by rw [hg]; exact Nat.ne_of_gt (IsS74.lt (show IsS74 w0 _ g s0_0 s0_1 s0_2 from is74_0 HI0.out)) : gb520 ≠ g)); replace HI0 := Aside0.mk (IsS74.below (is74_0 HI0.out) hb); clear hb hbox hg) | ((with_reducible refine gate_callee (f := 60) rfl ?_); refine ga_ (some 5) Tryd.func60 #[.pointer (some ⟨g, 0, none⟩)] ?_; (with_reducible refine (spec_l1Cur_log.calls k g s0_0 s0_1 s0_2 t521 t522 t523 t524 t525 w0 _ ?side1 ?side2 A2.out).mono ?_); (case side1 => exact is74_1 HI0.out NB0_520.out); (case side2 => exact lb2_ HB.out (IsS74.ge HI0.out) GE520.out); rintro e w32 ⟨rfl, hi, hb, hk⟩; refine ⟨_, rfl, ?_⟩; replace BK520 := Aside0.mk (KeepBut.blk hk (g' := gb520) (o := .cells #[.string (⟨#[]⟩ : ByteArray), .string (⟨#[]⟩ : ByteArray), .int .i64 0] 31 (0, 0)) (bk_ BK520.out) NB520_0.out (by simp)); replace HK := Aside0.mk (KeepBut.trans (kb1_ HK.out GW520.out) hk (.inl rfl)); replace HB := Aside0.mk (hb); replace HI0 := Aside0.mk (hi); (try clear hb); (try clear hb2); (try clear hk); (try clear hi)) | ((with_reducible refine gate_dst (N := 3) rfl ?_); refine box_event ?hg (N := 3) ?hd (cs := #[.string (⟨#[]⟩ : ByteArray), .string (⟨#[]⟩ : ByteArray), .int .i64 0]) (t := 31) ?hr ?_; (case hd => rfl); (case hg => rfl); (case hr => first | (go_simp; done) | (go_simp; rfl)); intro gb526 hg w33 hbox hb; replace HB := Aside0.mk (below_step (lb2_ HB.out (IsS74.ge HI0.out) GE520.out) hb); have BK526 := Aside0.mk (hbox); have GW526 := Aside0.mk ((by rw [hg]; exact (keep_size (w := w) (g := g) (row := none) (kb1_ HK.out GW520.out)) : w.heap.size ≤ gb526)); have GE526 := Aside0.mk ((Nat.le_trans HW0.out (by rw [hg]; exact (keep_size (w := w) (g := g) (row := none) (kb1_ HK.out GW520.out)) : w.heap.size ≤ gb526) : w0.heap.size ≤ gb526)); replace HK := Aside0.mk (KeepBut.trans (kb1_ HK.out GW520.out) (KeepBut.of_below hb g none) (.inl rfl)); have NB520_526 := Aside0.mk ((by rw [hg]; exact Nat.ne_of_lt (blk_lt (g := gb520) (o := .cells #[.string (⟨#[]⟩ : ByteArray), .string (⟨#[]⟩ : ByteArray), .int .i64 0] 31 (0, 0)) (bk_ BK520.out)) : gb520 ≠ gb526)); have NB526_520 := Aside0.mk ((by rw [hg]; exact Nat.ne_of_gt (blk_lt (g := gb520) (o := .cells #[.string (⟨#[]⟩ : ByteArray), .string (⟨#[]⟩ : ByteArray), .int .i64 0] 31 (0, 0)) (bk_ BK520.out)) : gb526 ≠ gb520)); replace BK520 := Aside0.mk (bb_ (bk_ BK520.out) hb); have NB0_526 := Aside0.mk ((by rw [hg]; exact Nat.ne_of_lt (IsS74.lt (show IsS74 w0 _ g s0_0 t524 t525 from is74_1 HI0.out NB0_520.out)) : g ≠ gb526)); have NB526_0 := Aside0.mk ((by rw [hg]; exact Nat.ne_of_gt (IsS74.lt (show IsS74 w0 _ g s0_0 t524 t525 from is74_1 HI0.out NB0_520.out)) : gb526 ≠ g)); replace HI0 := Aside0.mk (IsS74.below (is74_1 HI0.out NB0_520.out) hb); clear hb hbox hg; have hnb34 := NB526_520.out; have hnc34 := NB520_526.out; have hnb35 := NB526_0.out; have hnc35 := NB0_526.out; obtain ⟨hcz36_0, hcz36_1, hcz36_2⟩ := cz3_ BK526.out; obtain ⟨hfz36_0, hfz36_1, hfz36_2⟩ := fz3_ BK526.out) | ((with_reducible refine gate_callee (f := 55) rfl ?_); refine ga_ (some 7) Tryd.func55 #[.pointer (some ⟨g, 0, none⟩), .int .i64 24] ?_; (with_reducible refine (spec_l1Cur_pick.calls g s0_0 t524 t525 24 t527 t528 t529 w0 _ ?side1 ?side2 A3.out).mono ?_); (case side1 => exact is74_2 HI0.out NB0_520.out NB0_526.out); (case side2 => exact lb3_ HB.out (IsS74.ge HI0.out) GE520.out GE526.out); rintro e w37 ⟨rfl, hi, hb, hk⟩; refine ⟨_, rfl, ?_⟩; replace BK520 := Aside0.mk (KeepBut.blk hk (g' := gb520) (o := .cells #[.string (⟨#[]⟩ : ByteArray), .string (⟨#[]⟩ : ByteArray), .int .i64 0] 31 (0, 0)) (by (with_reducible repeat (first | refine blk_drewN ?_ _ | refine blk_drew ?_ | refine blk_alloc ?_ _)); refine blk_far ?_ NB520_526.out _; (with_reducible repeat (first | refine blk_drewN ?_ _ | refine blk_drew ?_ | refine blk_alloc ?_ _)); refine blk_far ?_ NB520_526.out _; (with_reducible repeat (first | refine blk_drewN ?_ _ | refine blk_drew ?_ | refine blk_alloc ?_ _)); refine blk_far ?_ NB520_526.out _; (with_reducible repeat (first | refine blk_drewN ?_ _ | refine blk_drew ?_ | refine blk_alloc ?_ _)); exact BK520.out) NB520_0.out (by simp)); replace BK526 := Aside0.mk (KeepBut.blk hk (g' := gb526) (o := .cells #[.string t521, .string t522, .int .i64 t523] 31 (0, 0)) (by (with_reducible repeat (first | refine blk_drewN ?_ _ | refine blk_drew ?_ | refine blk_alloc ?_ _)); refine blk_put (cs := #[.string t521, .string t522, .int .i64 0]) ?_ 2 _ rfl; (with_reducible repeat (first | refine blk_drewN ?_ _ | refine blk_drew ?_ | refine blk_alloc ?_ _)); refine blk_put (cs := #[.string t521, .string (⟨#[]⟩ : ByteArray), .int .i64 0]) ?_ 1 _ rfl; (with_reducible repeat (first | refine blk_drewN ?_ _ | refine blk_drew ?_ | refine blk_alloc ?_ _)); refine blk_put (cs := #[.string (⟨#[]⟩ : ByteArray), .string (⟨#[]⟩ : ByteArray), .int .i64 0]) ?_ 0 _ rfl; (with_reducible repeat (first | refine blk_drewN ?_ _ | refine blk_drew ?_ | refine blk_alloc ?_ _)); exact BK526.out) NB526_0.out (by simp)); replace HK := Aside0.mk (KeepBut.trans (kb2_ HK.out GW520.out GW526.out) hk (.inl rfl)); replace HB := Aside0.mk (hb); replace HI0 := Aside0.mk (hi); (try clear hb); (try clear hb2); (try clear hk); (try clear hi); obtain ⟨hcz38_0, hcz38_1, hcz38_2⟩ := cz3_ BK526.out; obtain ⟨hfz38_0, hfz38_1, hfz38_2⟩ := fz3_ BK526.out; have hnb39 := NB520_0.out; have hnc39 := NB0_520.out; obtain ⟨hcz40_0, hcz40_1, hcz40_2⟩ := cz3_ BK520.out; obtain ⟨hfz40_0, hfz40_1, hfz40_2⟩ := fz3_ BK520.out))
     refine bodyPost_ret (results_cell_row rfl _ _ gb520 31 #[.string (sc t521 t522), .string t522, .int .i64 t523] (0, 0) _ rfl (by (with_reducible repeat (first | refine blk_drewN ?_ _ | refine blk_drew ?_ | refine blk_alloc ?_ _)); refine blk_put (cs := #[.string (sc t521 t522), .string t522, .int .i64 0]) ?_ 2 _ rfl; (with_reducible repeat (first | refine blk_drewN ?_ _ | refine blk_drew ?_ | refine blk_alloc ?_ _)); refine blk_put (cs := #[.string (sc t521 t522), .string (⟨#[]⟩ : ByteArray), .int .i64 0]) ?_ 1 _ rfl; (with_reducible repeat (first | refine blk_drewN ?_ _ | refine blk_drew ?_ | refine blk_alloc ?_ _)); refine blk_put (cs := #[.string (⟨#[]⟩ : ByteArray), .string (⟨#[]⟩ : ByteArray), .int .i64 0]) ?_ 0 _ rfl; (with_reducible repeat (first | refine blk_drewN ?_ _ | refine blk_drew ?_ | refine blk_alloc ?_ _)); refine blk_far ?_ NB520_526.out _; (with_reducible repeat (first | refine blk_drewN ?_ _ | refine blk_drew ?_ | refine blk_alloc ?_ _)); exact BK520.out) Tryd.underlying31 rfl (by kernel_rfl)) rfl ?_
     exact ⟨rr_, is74_2 HI0.out NB0_520.out NB0_526.out, lb3_ HB.out (IsS74.ge HI0.out) GE520.out GE526.out, kb2_ HK.out GW520.out GW526.out⟩
    ·
     rw [if_neg c30] at H
     exact absurd H (by simp)
   ·
    rw [if_neg c29] at H
    have c29b0 : (t527 == 2) = false := beq_eq_false_iff_ne.mpr c29
    have c29b1 : (t527 != 2) = true := bne_iff_ne.mpr c29
    simp only [Option.some.injEq, Prod.mk.injEq] at H
    obtain ⟨rfl, rfl, rfl, rfl, rfl⟩ := H
    go_enter Tryd.func53, Tryd.ntmps53
    go_wp2_with (first | ((with_reducible refine gate_dst (N := 2) rfl ?_); refine box_event ?hg (N := 2) ?hd (cs := #[.string (⟨#[]⟩ : ByteArray), .string (⟨#[]⟩ : ByteArray), .int .i64 0]) (t := 31) ?hr ?_; (case hd => rfl); (case hg => rfl); (case hr => first | (go_simp; done) | (go_simp; rfl)); intro gb520 hg w41 hbox hb; replace HB := Aside0.mk (below_step (lb1_ HB.out (IsS74.ge HI0.out)) hb); have BK520 := Aside0.mk (hbox); have GW520 := Aside0.mk ((by rw [hg]; exact (keep_size (w := w) (g := g) (row := none) (kb0_ HK.out)) : w.heap.size ≤ gb520)); have GE520 := Aside0.mk ((Nat.le_trans HW0.out (by rw [hg]; exact (keep_size (w := w) (g := g) (row := none) (kb0_ HK.out)) : w.heap.size ≤ gb520) : w0.heap.size ≤ gb520)); replace HK := Aside0.mk (KeepBut.trans (kb0_ HK.out) (KeepBut.of_below hb g none) (.inl rfl)); have NB0_520 := Aside0.mk ((by rw [hg]; exact Nat.ne_of_lt (IsS74.lt (show IsS74 w0 _ g s0_0 s0_1 s0_2 from is74_0 HI0.out)) : g ≠ gb520)); have NB520_0 := Aside0.mk ((by rw [hg]; exact Nat.ne_of_gt (IsS74.lt (show IsS74 w0 _ g s0_0 s0_1 s0_2 from is74_0 HI0.out)) : gb520 ≠ g)); replace HI0 := Aside0.mk (IsS74.below (is74_0 HI0.out) hb); clear hb hbox hg) | ((with_reducible refine gate_callee (f := 60) rfl ?_); refine ga_ (some 5) Tryd.func60 #[.pointer (some ⟨g, 0, none⟩)] ?_; (with_reducible refine (spec_l1Cur_log.calls k g s0_0 s0_1 s0_2 t521 t522 t523 t524 t525 w0 _ ?side1 ?side2 A2.out).mono ?_); (case side1 => exact is74_1 HI0.out NB0_520.out); (case side2 => exact lb2_ HB.out (IsS74.ge HI0.out) GE520.out); rintro e w42 ⟨rfl, hi, hb, hk⟩; refine ⟨_, rfl, ?_⟩; replace BK520 := Aside0.mk (KeepBut.blk hk (g' := gb520) (o := .cells #[.string (⟨#[]⟩ : ByteArray), .string (⟨#[]⟩ : ByteArray), .int .i64 0] 31 (0, 0)) (bk_ BK520.out) NB520_0.out (by simp)); replace HK := Aside0.mk (KeepBut.trans (kb1_ HK.out GW520.out) hk (.inl rfl)); replace HB := Aside0.mk (hb); replace HI0 := Aside0.mk (hi); (try clear hb); (try clear hb2); (try clear hk); (try clear hi)) | ((with_reducible refine gate_dst (N := 3) rfl ?_); refine box_event ?hg (N := 3) ?hd (cs := #[.string (⟨#[]⟩ : ByteArray), .string (⟨#[]⟩ : ByteArray), .int .i64 0]) (t := 31) ?hr ?_; (case hd => rfl); (case hg => rfl); (case hr => first | (go_simp; done) | (go_simp; rfl)); intro gb526 hg w43 hbox hb; replace HB := Aside0.mk (below_step (lb2_ HB.out (IsS74.ge HI0.out) GE520.out) hb); have BK526 := Aside0.mk (hbox); have GW526 := Aside0.mk ((by rw [hg]; exact (keep_size (w := w) (g := g) (row := none) (kb1_ HK.out GW520.out)) : w.heap.size ≤ gb526)); have GE526 := Aside0.mk ((Nat.le_trans HW0.out (by rw [hg]; exact (keep_size (w := w) (g := g) (row := none) (kb1_ HK.out GW520.out)) : w.heap.size ≤ gb526) : w0.heap.size ≤ gb526)); replace HK := Aside0.mk (KeepBut.trans (kb1_ HK.out GW520.out) (KeepBut.of_below hb g none) (.inl rfl)); have NB520_526 := Aside0.mk ((by rw [hg]; exact Nat.ne_of_lt (blk_lt (g := gb520) (o := .cells #[.string (⟨#[]⟩ : ByteArray), .string (⟨#[]⟩ : ByteArray), .int .i64 0] 31 (0, 0)) (bk_ BK520.out)) : gb520 ≠ gb526)); have NB526_520 := Aside0.mk ((by rw [hg]; exact Nat.ne_of_gt (blk_lt (g := gb520) (o := .cells #[.string (⟨#[]⟩ : ByteArray), .string (⟨#[]⟩ : ByteArray), .int .i64 0] 31 (0, 0)) (bk_ BK520.out)) : gb526 ≠ gb520)); replace BK520 := Aside0.mk (bb_ (bk_ BK520.out) hb); have NB0_526 := Aside0.mk ((by rw [hg]; exact Nat.ne_of_lt (IsS74.lt (show IsS74 w0 _ g s0_0 t524 t525 from is74_1 HI0.out NB0_520.out)) : g ≠ gb526)); have NB526_0 := Aside0.mk ((by rw [hg]; exact Nat.ne_of_gt (IsS74.lt (show IsS74 w0 _ g s0_0 t524 t525 from is74_1 HI0.out NB0_520.out)) : gb526 ≠ g)); replace HI0 := Aside0.mk (IsS74.below (is74_1 HI0.out NB0_520.out) hb); clear hb hbox hg; have hnb44 := NB526_520.out; have hnc44 := NB520_526.out; have hnb45 := NB526_0.out; have hnc45 := NB0_526.out; obtain ⟨hcz46_0, hcz46_1, hcz46_2⟩ := cz3_ BK526.out; obtain ⟨hfz46_0, hfz46_1, hfz46_2⟩ := fz3_ BK526.out) | ((with_reducible refine gate_callee (f := 55) rfl ?_); refine ga_ (some 7) Tryd.func55 #[.pointer (some ⟨g, 0, none⟩), .int .i64 24] ?_; (with_reducible refine (spec_l1Cur_pick.calls g s0_0 t524 t525 24 t527 t528 t529 w0 _ ?side1 ?side2 A3.out).mono ?_); (case side1 => exact is74_2 HI0.out NB0_520.out NB0_526.out); (case side2 => exact lb3_ HB.out (IsS74.ge HI0.out) GE520.out GE526.out); rintro e w47 ⟨rfl, hi, hb, hk⟩; refine ⟨_, rfl, ?_⟩; replace BK520 := Aside0.mk (KeepBut.blk hk (g' := gb520) (o := .cells #[.string (⟨#[]⟩ : ByteArray), .string (⟨#[]⟩ : ByteArray), .int .i64 0] 31 (0, 0)) (by (with_reducible repeat (first | refine blk_drewN ?_ _ | refine blk_drew ?_ | refine blk_alloc ?_ _)); refine blk_far ?_ NB520_526.out _; (with_reducible repeat (first | refine blk_drewN ?_ _ | refine blk_drew ?_ | refine blk_alloc ?_ _)); refine blk_far ?_ NB520_526.out _; (with_reducible repeat (first | refine blk_drewN ?_ _ | refine blk_drew ?_ | refine blk_alloc ?_ _)); refine blk_far ?_ NB520_526.out _; (with_reducible repeat (first | refine blk_drewN ?_ _ | refine blk_drew ?_ | refine blk_alloc ?_ _)); exact BK520.out) NB520_0.out (by simp)); replace BK526 := Aside0.mk (KeepBut.blk hk (g' := gb526) (o := .cells #[.string t521, .string t522, .int .i64 t523] 31 (0, 0)) (by (with_reducible repeat (first | refine blk_drewN ?_ _ | refine blk_drew ?_ | refine blk_alloc ?_ _)); refine blk_put (cs := #[.string t521, .string t522, .int .i64 0]) ?_ 2 _ rfl; (with_reducible repeat (first | refine blk_drewN ?_ _ | refine blk_drew ?_ | refine blk_alloc ?_ _)); refine blk_put (cs := #[.string t521, .string (⟨#[]⟩ : ByteArray), .int .i64 0]) ?_ 1 _ rfl; (with_reducible repeat (first | refine blk_drewN ?_ _ | refine blk_drew ?_ | refine blk_alloc ?_ _)); refine blk_put (cs := #[.string (⟨#[]⟩ : ByteArray), .string (⟨#[]⟩ : ByteArray), .int .i64 0]) ?_ 0 _ rfl; (with_reducible repeat (first | refine blk_drewN ?_ _ | refine blk_drew ?_ | refine blk_alloc ?_ _)); exact BK526.out) NB526_0.out (by simp)); replace HK := Aside0.mk (KeepBut.trans (kb2_ HK.out GW520.out GW526.out) hk (.inl rfl)); replace HB := Aside0.mk (hb); replace HI0 := Aside0.mk (hi); (try clear hb); (try clear hb2); (try clear hk); (try clear hi); obtain ⟨hcz48_0, hcz48_1, hcz48_2⟩ := cz3_ BK526.out; obtain ⟨hfz48_0, hfz48_1, hfz48_2⟩ := fz3_ BK526.out; have hnb49 := NB520_0.out; have hnc49 := NB0_520.out; obtain ⟨hcz50_0, hcz50_1, hcz50_2⟩ := cz3_ BK520.out; obtain ⟨hfz50_0, hfz50_1, hfz50_2⟩ := fz3_ BK520.out))
    refine bodyPost_ret (results_cell_row rfl _ _ gb520 31 #[.string t521, .string t522, .int .i64 t523] (0, 0) _ rfl (by (with_reducible repeat (first | refine blk_drewN ?_ _ | refine blk_drew ?_ | refine blk_alloc ?_ _)); refine blk_put (cs := #[.string t521, .string t522, .int .i64 0]) ?_ 2 _ rfl; (with_reducible repeat (first | refine blk_drewN ?_ _ | refine blk_drew ?_ | refine blk_alloc ?_ _)); refine blk_put (cs := #[.string t521, .string (⟨#[]⟩ : ByteArray), .int .i64 0]) ?_ 1 _ rfl; (with_reducible repeat (first | refine blk_drewN ?_ _ | refine blk_drew ?_ | refine blk_alloc ?_ _)); refine blk_put (cs := #[.string (⟨#[]⟩ : ByteArray), .string (⟨#[]⟩ : ByteArray), .int .i64 0]) ?_ 0 _ rfl; (with_reducible repeat (first | refine blk_drewN ?_ _ | refine blk_drew ?_ | refine blk_alloc ?_ _)); exact BK520.out) Tryd.underlying31 rfl (by kernel_rfl)) rfl ?_
    exact ⟨rr_, is74_2 HI0.out NB0_520.out NB0_526.out, lb3_ HB.out (IsS74.ge HI0.out) GE520.out GE526.out, kb2_ HK.out GW520.out GW526.out⟩
end Go.Proofs.YtdpinnhgkocjhaaDoor.Pr

namespace Go.Proofs.YtdpinnhgkocjhaaDoor.Pr
open Go.RowKit Go.Proofs.YtdpinnhgkocjhaaDoorW.PrintWords Go.Proofs.YtdpinnhgkocjhaaDoorW.PrintLast Go.Proofs.YtdpinnhgkocjhaaDoorW.PrintMore
attribute [local go_sem] max2_int min2_int max_two min_two max_three min_three max_four min_four   -- for this text's walks alone
set_option linter.unusedVariables false
set_option linter.unusedSimpArgs false
def spec_DrawCrashLog.f (k : Nat) (l0 : List Int) : Option (ByteArray × ByteArray × Int × Int × Bool) := (spec_newCur.f l0).bind fun bt611 => ((spec_l1Cur_anyLog.f k bt611.1 bt611.2.1 bt611.2.2).bind fun bt615 => ((spec_l1Cur_pick.f bt611.1 bt615.2.2.2.1 bt615.2.2.2.2 (wrap64 ((bt615.2.1.size : Int) + 3))).bind fun bt621 => ((spec_l1Cur_one.f bt611.1 bt621.2.1 bt621.2.2 2).bind fun bt624 => (some (bt615.1, bt615.2.1, bt615.2.2.1, wrap64 (bt621.1 - 1), bt624.1)))))
set_option maxHeartbeats 8000000 in
set_option maxRecDepth 100000 in
theorem spec_DrawCrashLog.calls (k : Nat) (A0 : Option Addr) (c0 : Nat) (l0 : List Int) (r1 : ByteArray) (r2 : ByteArray) (r3 : Int) (r4 : Int) (r5 : Bool) (w : World) (hr0 : Kd.C (Kd.int .u8) w A0 l0.length l0) (hc0 : l0.length ≤ c0) (h : spec_DrawCrashLog.f k l0 = some (r1, r2, r3, r4, r5)) :
  Calls Tryd.prog 39 #[.slice A0 l0.length c0] w fun e w' => e = .returned (.tuple #[.agg #[.string r1, .string r2, .int .i64 r3], .int .i64 r4, .bool r5]) ∧ Below w.heap.size w w' := by
 have hu31 := Tryd.underlying31
 have hu74 := Tryd.underlying74
 have HR0 := Aside0.mk hr0
 have HC0 := Aside0.mk hc0
 clear hr0 hc0
 have HB := Aside0.mk (Below.refl w.heap.size w)
 have H : ((spec_newCur.f l0).bind fun bt611 => ((spec_l1Cur_anyLog.f k bt611.1 bt611.2.1 bt611.2.2).bind fun bt615 => ((spec_l1Cur_pick.f bt611.1 bt615.2.2.2.1 bt615.2.2.2.2 (wrap64 ((bt615.2.1.size : Int) + 3))).bind fun bt621 => ((spec_l1Cur_one.f bt611.1 bt621.2.1 bt621.2.2 2).bind fun bt624 => (some (bt615.1, bt615.2.1, bt615.2.2.1, wrap64 (bt621.1 - 1), bt624.1)))))) = some (r1, r2, r3, r4, r5) := h
 clear h
 replace H := Option.bind_eq_some_iff.mp H
 obtain ⟨⟨t611, t612, t613⟩, A20, H⟩ := H
 replace H : ((spec_l1Cur_anyLog.f k t611 t612 t613).bind fun bt615 => ((spec_l1Cur_pick.f t611 bt615.2.2.2.1 bt615.2.2.2.2 (wrap64 ((bt615.2.1.size : Int) + 3))).bind fun bt621 => ((spec_l1Cur_one.f t611 bt621.2.1 bt621.2.2 2).bind fun bt624 => (some (bt615.1, bt615.2.1, bt615.2.2.1, wrap64 (bt621.1 - 1), bt624.1))))) = some (r1, r2, r3, r4, r5) := H
 have A2 := Aside0.mk A20
 clear A20
 replace H := Option.bind_eq_some_iff.mp H
 obtain ⟨⟨t615, t616, t617, t618, t619⟩, A30, H⟩ := H
 replace H : ((spec_l1Cur_pick.f t611 t618 t619 (wrap64 ((t616.size : Int) + 3))).bind fun bt621 => ((spec_l1Cur_one.f t611 bt621.2.1 bt621.2.2 2).bind fun bt624 => (some (t615, t616, t617, wrap64 (bt621.1 - 1), bt624.1)))) = some (r1, r2, r3, r4, r5) := H
 have A3 := Aside0.mk A30
 clear A30
 replace H := Option.bind_eq_some_iff.mp H
 obtain ⟨⟨t621, t622, t623⟩, A40, H⟩ := H
 replace H : ((spec_l1Cur_one.f t611 t622 t623 2).bind fun bt624 => (some (t615, t616, t617, wrap64 (t621 - 1), bt624.1))) = some (r1, r2, r3, r4, r5) := H
 have A4 := Aside0.mk A40
 clear A40
 replace H := Option.bind_eq_some_iff.mp H
 obtain ⟨⟨t624, t625, t626⟩, A50, H⟩ := H
 replace H : (some (t615, t616, t617, wrap64 (t621 - 1), t624)) = some (r1, r2, r3, r4, r5) := H
 have A5 := Aside0.mk A50
 clear A50
 simp only [Option.some.injEq, Prod.mk.injEq] at H
 obtain ⟨rfl, rfl, rfl, rfl, rfl⟩ := H
 go_enter Tryd.func39, Tryd.ntmps39
 try go_wp2_with (first | ((with_reducible refine gate_dst (N := 2) rfl ?_); refine box_event ?hg (N := 2) ?hd (cs := #[.string (⟨#[]⟩ : ByteArray), .string (⟨#[]⟩ : ByteArray), .int .i64 0]) (t := 31) ?hr ?_; (case hd => rfl); (case hg => rfl); (case hr => first | (go_simp; done) | (go_simp; rfl)); intro gb610 hg w6 hbox hb; have BK610 := Aside0.mk (hbox); have GW610 := Aside0.mk ((bz_ hg (lb0_ HB.out))); have GE610 := Aside0.mk ((bz_ hg (lb0_ HB.out))); replace HB := Aside0.mk (below_step (lb0_ HB.out) hb); clear hb hbox hg) | ((with_reducible refine gate_dst (N := 10) rfl ?_); refine box_event ?hg (N := 10) ?hd (cs := #[.slice A0 l0.length c0, .int .i64 0, .int .u64 0]) (t := 74) ?hr ?_; (case hd => rfl); (case hg => rfl); (case hr => first | (go_simp; done) | (go_simp; rfl)); intro g614 hg w7 hbx hb2; have hb := below_step (lb1_ HB.out GE610.out) hb2; have hi : IsS74 w w7 g614 t611 t612 t613 := (by have hz_ := A2.out; simp only [spec_newCur.f, Option.some.injEq, Prod.mk.injEq] at hz_; rw [← hz_.1, ← hz_.2.1, ← hz_.2.2]; exact ⟨_, _, hbx, (bz_ hg (lb1_ HB.out GE610.out)), HR0.out⟩); clear hg hbx; replace HB := Aside0.mk (hb); have HI614 := Aside0.mk (hi); have NB614_610 := Aside0.mk (IsS74.ne_blk hi (bb_ (bk_ BK610.out) hb2) (by decide)); have NB610_614 := Aside0.mk (Ne.symm (IsS74.ne_blk hi (bb_ (bk_ BK610.out) hb2) (by decide))); replace BK610 := Aside0.mk (bb_ (bk_ BK610.out) hb2); (try clear hb); (try clear hb2); (try clear hk); (try clear hi)) | ((with_reducible refine gate_callee (f := 53) rfl ?_); refine ga_ (some 12) Tryd.func53 #[.pointer (some ⟨g614, 0, none⟩)] ?_; (with_reducible refine (spec_l1Cur_anyLog.calls k g614 t611 t612 t613 t615 t616 t617 t618 t619 w _ ?side1 ?side2 A3.out).mono ?_); (case side1 => exact is74_1 HI614.out NB614_610.out); (case side2 => exact lb2_ HB.out (IsS74.ge HI614.out) GE610.out); rintro e w8 ⟨rfl, hi, hb, hk⟩; refine ⟨_, rfl, ?_⟩; replace BK610 := Aside0.mk (KeepBut.blk hk (g' := gb610) (o := .cells #[.string (⟨#[]⟩ : ByteArray), .string (⟨#[]⟩ : ByteArray), .int .i64 0] 31 (0, 0)) (bk_ BK610.out) NB610_614.out (by simp)); replace HB := Aside0.mk (hb); replace HI614 := Aside0.mk (hi); (try clear hb); (try clear hb2); (try clear hk); (try clear hi)) | ((with_reducible refine gate_dst (N := 6) rfl ?_); refine box_event ?hg (N := 6) ?hd (cs := #[.string (⟨#[]⟩ : ByteArray), .string (⟨#[]⟩ : ByteArray), .int .i64 0]) (t := 31) ?hr ?_; (case hd => rfl); (case hg => rfl); (case hr => first | (go_simp; done) | (go_simp; rfl)); intro gb620 hg w9 hbox hb; have BK620 := Aside0.mk (hbox); have GW620 := Aside0.mk ((by rw [hg]; exact (below_size (lb2_ HB.out (IsS74.ge HI614.out) GE610.out)) : w.heap.size ≤ gb620)); have GE620 := Aside0.mk ((by rw [hg]; exact (below_size (lb2_ HB.out (IsS74.ge HI614.out) GE610.out)) : w.heap.size ≤ gb620)); replace HB := Aside0.mk (below_step (lb2_ HB.out (IsS74.ge HI614.out) GE610.out) hb); have NB610_620 := Aside0.mk ((by rw [hg]; exact Nat.ne_of_lt (blk_lt (g := gb610) (o := .cells #[.string (⟨#[]⟩ : ByteArray), .string (⟨#[]⟩ : ByteArray), .int .i64 0] 31 (0, 0)) (bk_ BK610.out)) : gb610 ≠ gb620)); have NB620_610 := Aside0.mk ((by rw [hg]; exact Nat.ne_of_gt (blk_lt (g := gb610) (o := .cells #[.string (⟨#[]⟩ : ByteArray), .string (⟨#[]⟩ : ByteArray), .int .i64 0] 31 (0, 0)) (bk_ BK610.out)) : gb620 ≠ gb610)); replace BK610 := Aside0.mk (bb_ (bk_ BK610.out) hb); have NB614_620 := Aside0.mk ((by rw [hg]; exact Nat.ne_of_lt (IsS74.lt (show IsS74 w _ g614 t611 t618 t619 from is74_1 HI614.out NB614_610.out)) : g614 ≠ gb620)); have NB620_614 := Aside0.mk ((by rw [hg]; exact Nat.ne_of_gt (IsS74.lt (show IsS74 w _ g614 t611 t618 t619 from is74_1 HI614.out NB614_610.out)) : gb620 ≠ g614)); replace HI614 := Aside0.mk (IsS74.below (is74_1 HI614.out NB614_610.out) hb); clear hb hbox hg; have hnb10 := NB620_610.out; have hnc10 := NB610_620.out; have hnb11 := NB620_614.out; have hnc11 := NB614_620.out; obtain ⟨hcz12_0, hcz12_1, hcz12_2⟩ := cz3_ BK620.out; obtain ⟨hfz12_0, hfz12_1, hfz12_2⟩ := fz3_ BK620.out) | ((with_reducible refine gate_callee (f := 55) rfl ?_); refine ga_ (some 18) Tryd.func55 #[.pointer (some ⟨g614, 0, none⟩), .int .i64 (wrap64 ((t616.size : Int) + 3))] ?_; (with_reducible refine (spec_l1Cur_pick.calls g614 t611 t618 t619 (wrap64 ((t616.size : Int) + 3)) t621 t622 t623 w _ ?side1 ?side2 A4.out).mono ?_); (case side1 => exact is74_2 HI614.out NB614_610.out NB614_620.out); (case side2 => exact lb3_ HB.out (IsS74.ge HI614.out) GE610.out GE620.out); rintro e w13 ⟨rfl, hi, hb, hk⟩; refine ⟨_, rfl, ?_⟩; replace BK610 := Aside0.mk (KeepBut.blk hk (g' := gb610) (o := .cells #[.string (⟨#[]⟩ : ByteArray), .string (⟨#[]⟩ : ByteArray), .int .i64 0] 31 (0, 0)) (by (with_reducible repeat (first | refine blk_drewN ?_ _ | refine blk_drew ?_ | refine blk_alloc ?_ _)); refine blk_far ?_ NB610_620.out _; (with_reducible repeat (first | refine blk_drewN ?_ _ | refine blk_drew ?_ | refine blk_alloc ?_ _)); refine blk_far ?_ NB610_620.out _; (with_reducible repeat (first | refine blk_drewN ?_ _ | refine blk_drew ?_ | refine blk_alloc ?_ _)); refine blk_far ?_ NB610_620.out _; (with_reducible repeat (first | refine blk_drewN ?_ _ | refine blk_drew ?_ | refine blk_alloc ?_ _)); exact BK610.out) NB610_614.out (by simp)); replace BK620 := Aside0.mk (KeepBut.blk hk (g' := gb620) (o := .cells #[.string t615, .string t616, .int .i64 t617] 31 (0, 0)) (by (with_reducible repeat (first | refine blk_drewN ?_ _ | refine blk_drew ?_ | refine blk_alloc ?_ _)); refine blk_put (cs := #[.string t615, .string t616, .int .i64 0]) ?_ 2 _ rfl; (with_reducible repeat (first | refine blk_drewN ?_ _ | refine blk_drew ?_ | refine blk_alloc ?_ _)); refine blk_put (cs := #[.string t615, .string (⟨#[]⟩ : ByteArray), .int .i64 0]) ?_ 1 _ rfl; (with_reducible repeat (first | refine blk_drewN ?_ _ | refine blk_drew ?_ | refine blk_alloc ?_ _)); refine blk_put (cs := #[.string (⟨#[]⟩ : ByteArray), .string (⟨#[]⟩ : ByteArray), .int .i64 0]) ?_ 0 _ rfl; (with_reducible repeat (first | refine blk_drewN ?_ _ | refine blk_drew ?_ | refine blk_alloc ?_ _)); exact BK620.out) NB620_614.out (by simp)); replace HB := Aside0.mk (hb); replace HI614 := Aside0.mk (hi); (try clear hb); (try clear hb2); (try clear hk); (try clear hi)))
 replace BK610 := Aside0.mk (blk_drew BK610.out)
 replace BK620 := Aside0.mk (blk_drew BK620.out)
 replace HI614 := Aside0.mk (IsS74.drew HI614.out)
 replace HB := Aside0.mk (below_drew1 HB.out)
 refine start_ (n := 7) (S := fun w' => w'.cell? ⟨gb620, 0, none⟩ = some (.string t615) ∧ w'.cell? ⟨gb620, 1, none⟩ = some (.string t616) ∧ w'.cell? ⟨gb620, 2, none⟩ = some (.int .i64 t617)) (ds := []) #[false, false, false, false, false, false, false] (by kernel_rfl) rfl rfl ⟨(blk_cell BK620.out 0).trans rfl, (blk_cell BK620.out 1).trans rfl, (blk_cell BK620.out 2).trans rfl⟩ (fun hHeld => ?_)
 generalize w13.drew = w14 at BK610 BK620 HI614 HB hHeld ⊢
 refine pure_ (i := 1) (N := some 21) (v := ?_) (a' := ?_) #[false, true, false, false, false, false, false] rfl rfl (by kernel_rfl) (fun _ _ _ h => h) (Or.inl ⟨by rfl, ?_⟩) ?_ ?_
 rotate_left
 ·
  intro w'
  go_simp
  with_reducible rfl
 rotate_left
 ·
  simp only [Act.put, List.setIfInBounds_toArray, List.set_cons_zero, List.set_cons_succ, i64_w, i32_w]
  rfl
 refine pure_ (i := 2) (N := some 22) (v := ?_) (a' := ?_) #[false, true, true, false, false, false, false] rfl rfl (by kernel_rfl) (fun _ _ _ h => h) (Or.inl ⟨by rfl, ?_⟩) ?_ ?_
 rotate_left
 ·
  intro w'
  go_simp
  with_reducible rfl
 rotate_left
 ·
  simp only [Act.put, List.setIfInBounds_toArray, List.set_cons_zero, List.set_cons_succ, i64_w, i32_w]
  rfl
 refine take_ (i := 0) (N := some 20) (v := ?_) (a' := ?_) #[true, true, true, false, false, false, false] rfl rfl (by kernel_rfl) (fun _ _ _ h => h) (Or.inl ⟨by rfl, ?_⟩) hHeld ?_ ?_
 rotate_left
 ·
  rintro w' ⟨s0, s1, s2⟩
  go_simp
  with_reducible rfl
 rotate_left
 ·
  simp only [Act.put, List.setIfInBounds_toArray, List.set_cons_zero, List.set_cons_succ, i64_w, i32_w]
  rfl
 refine one_ (i := 3) (N := some 23) #[true, true, true, true, false, false, false] rfl rfl (by kernel_rfl) (by decide) (fun K hK => ?_)
 refine gs_ Tryd.func54 #[.pointer (some ⟨g614, 0, none⟩), .int .i64 2] ?_
 with_reducible refine (spec_l1Cur_one.calls g614 t611 t622 t623 2 t624 t625 t626 w _ ?side1 ?side2 A5.out).mono ?_
 (case side1 => exact is74_2 HI614.out NB614_610.out NB614_620.out)
 (case side2 => exact lb3_ HB.out (IsS74.ge HI614.out) GE610.out GE620.out)
 rintro e w15 ⟨rfl, hi, hb, hk⟩
 refine ⟨_, rfl, ?_⟩
 replace BK610 := Aside0.mk (KeepBut.blk hk (g' := gb610) (o := .cells #[.string (⟨#[]⟩ : ByteArray), .string (⟨#[]⟩ : ByteArray), .int .i64 0] 31 (0, 0)) (bk_ BK610.out) NB610_614.out (by simp))
 replace BK620 := Aside0.mk (KeepBut.blk hk (g' := gb620) (o := .cells #[.string t615, .string t616, .int .i64 t617] 31 (0, 0)) (bk_ BK620.out) NB620_614.out (by simp))
 replace HB := Aside0.mk (hb)
 replace HI614 := Aside0.mk (hi)
 (try clear hb)
 (try clear hb2)
 (try clear hk)
 (try clear hi)
 refine hK.out _ _ ⟨(blk_cell BK620.out 0).trans rfl, (blk_cell BK620.out 1).trans rfl, (blk_cell BK620.out 2).trans rfl⟩ (fun hHeld => ?_)
 clear hK K
 refine na_ ?_
 refine one_ (i := 4) (N := none) #[true, true, true, true, true, false, false] rfl rfl (by kernel_rfl) (by decide) (fun K hK => ?_)
 have hs16 : w15.cell? ⟨gb610, 0, none⟩ = some (.string (⟨#[]⟩ : ByteArray)) := (blk_cell BK610.out 0).trans rfl
 have hfs16 := blk_frozen BK610.out 0
 have hns16_1 := NB620_610.out
 have hms16_1 := NB610_620.out
 have hs17 : w15.cell? ⟨gb610, 1, none⟩ = some (.string (⟨#[]⟩ : ByteArray)) := (blk_cell BK610.out 1).trans rfl
 have hfs17 := blk_frozen BK610.out 1
 have hns17_1 := NB620_610.out
 have hms17_1 := NB610_620.out
 have hs18 : w15.cell? ⟨gb610, 2, none⟩ = some (.int .i64 0) := (blk_cell BK610.out 2).trans rfl
 have hfs18 := blk_frozen BK610.out 2
 have hns18_1 := NB620_610.out
 have hms18_1 := NB610_620.out
 refine skip_ (w1 := ?_) (by rfl) rfl ?_ ?_
 rotate_left
 ·
  go_simp
  rfl
 refine hK.out _ _ ⟨((cell_far (p := ⟨gb610, _, none⟩) NB620_610.out _).trans (((cell_far (p := ⟨gb610, _, none⟩) NB620_610.out _).trans (((cell_far (p := ⟨gb610, _, none⟩) NB620_610.out _).trans (hHeld.1)))))), ((cell_far (p := ⟨gb610, _, none⟩) NB620_610.out _).trans (((cell_far (p := ⟨gb610, _, none⟩) NB620_610.out _).trans (((cell_far (p := ⟨gb610, _, none⟩) NB620_610.out _).trans (hHeld.2.1)))))), ((cell_far (p := ⟨gb610, _, none⟩) NB620_610.out _).trans (((cell_far (p := ⟨gb610, _, none⟩) NB620_610.out _).trans (((cell_far (p := ⟨gb610, _, none⟩) NB620_610.out _).trans (hHeld.2.2))))))⟩ (fun hHeld => ?_)
 clear hK K
 refine pure_ (i := 5) (N := some 3) (v := ?_) (a' := ?_) #[true, true, true, true, true, true, false] rfl rfl (by kernel_rfl) (fun _ _ _ h => h) (Or.inl ⟨by rfl, ?_⟩) ?_ ?_
 rotate_left
 ·
  intro w'
  go_simp
  with_reducible rfl
 rotate_left
 ·
  simp only [Act.put, List.setIfInBounds_toArray, List.set_cons_zero, List.set_cons_succ, i64_w, i32_w]
  rfl
 refine pure_ (i := 6) (N := some 4) (v := ?_) (a' := ?_) #[true, true, true, true, true, true, true] rfl rfl (by kernel_rfl) (fun _ _ _ h => h) (Or.inl ⟨by rfl, ?_⟩) ?_ ?_
 rotate_left
 ·
  intro w'
  go_simp
  with_reducible rfl
 rotate_left
 ·
  simp only [Act.put, List.setIfInBounds_toArray, List.set_cons_zero, List.set_cons_succ, i64_w, i32_w]
  rfl
 refine done_ (by kernel_rfl) ?_
 try go_wp2
 refine bodyPost_ret (results_ctt rfl _ _ gb610 31 #[.string t615, .string t616, .int .i64 t617] (0, 0) _ rfl (by (with_reducible repeat (first | refine blk_drewN ?_ _ | refine blk_drew ?_ | refine blk_alloc ?_ _)); refine blk_put (cs := #[.string t615, .string t616, .int .i64 0]) ?_ 2 _ rfl; (with_reducible repeat (first | refine blk_drewN ?_ _ | refine blk_drew ?_ | refine blk_alloc ?_ _)); refine blk_put (cs := #[.string t615, .string (⟨#[]⟩ : ByteArray), .int .i64 0]) ?_ 1 _ rfl; (with_reducible repeat (first | refine blk_drewN ?_ _ | refine blk_drew ?_ | refine blk_alloc ?_ _)); refine blk_put (cs := #[.string (⟨#[]⟩ : ByteArray), .string (⟨#[]⟩ : ByteArray), .int .i64 0]) ?_ 0 _ rfl; (with_reducible repeat (first | refine blk_drewN ?_ _ | refine blk_drew ?_ | refine blk_alloc ?_ _)); exact BK610.out) Tryd.underlying31 rfl (by kernel_rfl)) rfl ?_
 exact ⟨rr_, lb3_ HB.out (IsS74.ge HI614.out) GE610.out GE620.out⟩
end Go.Proofs.YtdpinnhgkocjhaaDoor.Pr

namespace Go.Proofs.YtdpinnhgkocjhaaDoor.Pr
open Go.RowKit Go.Proofs.YtdpinnhgkocjhaaDoorW.PrintWords Go.Proofs.YtdpinnhgkocjhaaDoorW.PrintLast Go.Proofs.YtdpinnhgkocjhaaDoorW.PrintMore
attribute [local go_sem] max2_int min2_int max_two min_two max_three min_three max_four min_four sc_in sx_in   -- for this text's walks alone
set_option linter.unusedVariables false
set_option linter.unusedSimpArgs false
attribute [local go_sem high] eqA27
mutual
def laws_FnCrashRecovery.j0 : Nat → ByteArray → Bool → Bool → ByteArray → ByteArray → Int → Option (Bool)
 | 0, _, _, _, _, _, _ => none
 | k + 1, x6, x7, x47, x634000, x634001, x634002 => if x47 = true then (none) else (if x7 = true then ((impl_RecoverLog.f k x6).bind fun bt638 => ((impl_LogRecords.f k bt638.1 bt638.2.1 bt638.2.2.1).bind fun bt644 => ((spec_LogRecords.f k x634000 x634001 x634002).bind fun bt648 => (if bt638.2.2.2.2 = true then (if bt638.2.2.2.1 > (x6.size : Int) then (laws_FnCrashRecovery.j1 k x6 bt638.2.2.2.1 bt644.1 bt648.1 true bt638.1 bt638.2.1 bt638.2.2.1) else (if bt638.2.2.2.1 < (x634000.size : Int) then (laws_FnCrashRecovery.j1 k x6 bt638.2.2.2.1 bt644.1 bt648.1 true bt638.1 bt638.2.1 bt638.2.2.1) else (laws_FnCrashRecovery.j1 k x6 bt638.2.2.2.1 bt644.1 bt648.1 (decide ((bt644.1.length : Int) > (bt648.1.length : Int))) bt638.1 bt638.2.1 bt638.2.2.1))) else (laws_FnCrashRecovery.j1 k x6 bt638.2.2.2.1 bt644.1 bt648.1 true bt638.1 bt638.2.1 bt638.2.2.1))))) else (some (x6.toList == ([] : List UInt8))))
def laws_FnCrashRecovery.j1 : Nat → ByteArray → Int → List (S27) → List (S27) → Bool → ByteArray → ByteArray → Int → Option (Bool)
 | 0, _, _, _, _, _, _, _, _ => none
 | k + 1, x6, x11, x13, x15, x89, x644000, x644001, x644002 => if x89 = true then (none) else (laws_FnCrashRecovery.l0 k x6 x11 x13 x15 0 x644000 x644001 x644002)
def laws_FnCrashRecovery.l0 : Nat → ByteArray → Int → List (S27) → List (S27) → Int → ByteArray → ByteArray → Int → Option (Bool)
 | 0, _, _, _, _, _, _, _, _ => none
 | k + 1, x6, x11, x13, x15, x17, x644000, x644001, x644002 => if x17 < (x13.length : Int) then (if 0 ≤ x17 then (if x17 < (x15.length : Int) then (if (!((((rd_T27 x13 x17).f0).toList) == (((rd_T27 x15 x17).f0).toList)) || (!((((rd_T27 x13 x17).f1).toList) == (((rd_T27 x15 x17).f1).toList)))) = true then (none) else (laws_FnCrashRecovery.l0 k x6 x11 x13 x15 (wrap64 (x17 + 1)) x644000 x644001 x644002)) else (none)) else (none)) else ((impl_IsValidLog.f k x644000 x644001 x644002).bind fun t654 => (if t654 = true then (if 0 ≤ x11 then (if x11 ≤ (x6.size : Int) then (some (x644000.toList == (sx x6 (0) ((x11 : Int).toNat)).toList)) else (none)) else (none)) else (none)))
end
def laws_FnCrashRecovery.f (k : Nat) (l0 : List Int) : Option (Bool) := (laws_vBig.f l0).bind fun t627 => (if t627 = true then (some true) else ((spec_DrawCrashLog.f k l0).bind fun bt628 => ((impl_CrashLog.f k bt628.1 bt628.2.1 bt628.2.2.1 bt628.2.2.2.1 bt628.2.2.2.2).bind fun bt634 => ((spec_CrashLog.f k bt628.1 bt628.2.1 bt628.2.2.1 bt628.2.2.2.1 bt628.2.2.2.2).bind fun bt636 => (if bt634.1.toList = bt636.1.toList then (laws_FnCrashRecovery.j0 k bt634.1 bt634.2 (bt634.2 != bt636.2) bt628.1 bt628.2.1 bt628.2.2.1) else (laws_FnCrashRecovery.j0 k bt634.1 bt634.2 true bt628.1 bt628.2.1 bt628.2.2.1))))))
def laws_FnCrashRecovery.T18 : Bool × List (List Nat × List Nat) := (true, [([], []), ([], []), ([0, 1], [0, 1]), ([2], [2]), ([], []), ([], []), ([4, 5], [4, 5]), ([6], [6]), ([3, 7], [3, 7])])
def laws_FnCrashRecovery.B18 : List Nat := [0, 0, 3, 7, 0, 0, 48, 112, 255]
theorem laws_FnCrashRecovery.tab18 : rtab .any (opsOf Tryd.f11 18) = laws_FnCrashRecovery.T18 := by kernel_rfl
theorem laws_FnCrashRecovery.bits18 : waitsOk laws_FnCrashRecovery.T18.2 laws_FnCrashRecovery.B18 = true := by kernel_rfl
def laws_FnCrashRecovery.T20 : Bool × List (List Nat × List Nat) := (true, [([], []), ([0], [0]), ([1, 1], [1]), ([2], [2]), ([3, 2], [2, 3]), ([2], [2]), ([2], [2]), ([5, 6, 2], [2, 5, 6]), ([4, 7, 2], [2, 4, 7]), ([2, 8], [2, 8]), ([9, 2, 0, 1, 2, 3, 4, 5, 6, 7, 8, 9], [9])])
def laws_FnCrashRecovery.B20 : List Nat := [0, 1, 3, 7, 15, 7, 7, 103, 255, 511, 1023]
theorem laws_FnCrashRecovery.tab20 : rtab .any (opsOf Tryd.f11 20) = laws_FnCrashRecovery.T20 := by kernel_rfl
theorem laws_FnCrashRecovery.bits20 : waitsOk laws_FnCrashRecovery.T20.2 laws_FnCrashRecovery.B20 = true := by kernel_rfl
abbrev laws_FnCrashRecovery.mk0 : Array Bool := #[false, false, false, false, false, false, false, false, false]
abbrev laws_FnCrashRecovery.mk1 : Array Bool := #[true, false, false, false, false, false, false, false, false]
abbrev laws_FnCrashRecovery.mk2 : Array Bool := #[true, true, false, false, false, false, false, false, false]
abbrev laws_FnCrashRecovery.mk3 : Array Bool := #[true, true, true, false, false, false, false, false, false]
abbrev laws_FnCrashRecovery.mk4 : Array Bool := #[true, true, true, false, true, false, false, false, false]
abbrev laws_FnCrashRecovery.mk5 : Array Bool := #[true, true, true, false, true, true, false, false, false]
abbrev laws_FnCrashRecovery.mk6 : Array Bool := #[true, true, true, false, true, true, true, false, false]
abbrev laws_FnCrashRecovery.mk7 : Array Bool := #[true, true, true, true, true, true, true, false, false]
abbrev laws_FnCrashRecovery.mk8 : Array Bool := #[true, true, true, true, true, true, true, true, false]
abbrev laws_FnCrashRecovery.mk9 : Array Bool := #[true, true, true, true, true, true, true, true, true]
abbrev laws_FnCrashRecovery.mk10 : Array Bool := #[false, false, false, false, false, false, false, false, false, false, false]
abbrev laws_FnCrashRecovery.mk11 : Array Bool := #[true, false, false, false, false, false, false, false, false, false, false]
abbrev laws_FnCrashRecovery.mk12 : Array Bool := #[true, true, false, false, false, false, false, false, false, false, false]
abbrev laws_FnCrashRecovery.mk13 : Array Bool := #[true, true, true, false, false, false, false, false, false, false, false]
abbrev laws_FnCrashRecovery.mk14 : Array Bool := #[true, true, true, true, false, false, false, false, false, false, false]
abbrev laws_FnCrashRecovery.mk15 : Array Bool := #[true, true, true, true, false, true, false, false, false, false, false]
abbrev laws_FnCrashRecovery.mk16 : Array Bool := #[true, true, true, true, false, true, true, false, false, false, false]
abbrev laws_FnCrashRecovery.mk17 : Array Bool := #[true, true, true, true, false, true, true, true, false, false, false]
abbrev laws_FnCrashRecovery.mk18 : Array Bool := #[true, true, true, true, true, true, true, true, false, false, false]
abbrev laws_FnCrashRecovery.mk19 : Array Bool := #[true, true, true, true, true, true, true, true, true, false, false]
abbrev laws_FnCrashRecovery.mk20 : Array Bool := #[true, true, true, true, true, true, true, true, true, true, false]
abbrev laws_FnCrashRecovery.mk21 : Array Bool := #[true, true, true, true, true, true, true, true, true, true, true]
set_option maxHeartbeats 8000000 in
set_option maxRecDepth 100000 in
theorem laws_FnCrashRecovery.calls (k : Nat) (A0 : Option Addr) (c0 : Nat) (l0 : List Int) (r : Bool) (w : World) (hr0 : Kd.C (Kd.int .u8) w A0 l0.length l0) (hc0 : l0.length ≤ c0) (h : laws_FnCrashRecovery.f k l0 = some r) (hT : Tb w) :
  Calls Tryd.prog 11 #[.slice A0 l0.length c0] w fun e w' => e = .returned (.bool r) ∧ Below w.heap.size w w' := by
 have HT := Aside0.mk hT
 clear hT
 have hu31 := Tryd.underlying31
 have hu27 := Tryd.underlying27
 have HR0 := Aside0.mk hr0
 have HC0 := Aside0.mk hc0
 clear hr0 hc0
 have HB := Aside0.mk (Below.refl w.heap.size w)
 have H : ((laws_vBig.f l0).bind fun t627 => (if t627 = true then (some true) else ((spec_DrawCrashLog.f k l0).bind fun bt628 => ((impl_CrashLog.f k bt628.1 bt628.2.1 bt628.2.2.1 bt628.2.2.2.1 bt628.2.2.2.2).bind fun bt634 => ((spec_CrashLog.f k bt628.1 bt628.2.1 bt628.2.2.1 bt628.2.2.2.1 bt628.2.2.2.2).bind fun bt636 => (if bt634.1.toList = bt636.1.toList then (laws_FnCrashRecovery.j0 k bt634.1 bt634.2 (bt634.2 != bt636.2) bt628.1 bt628.2.1 bt628.2.2.1) else (laws_FnCrashRecovery.j0 k bt634.1 bt634.2 true bt628.1 bt628.2.1 bt628.2.2.1))))))) = some r := h
 clear h
 replace H := Option.bind_eq_some_iff.mp H
 obtain ⟨t627, A20, H⟩ := H
 replace H : (if t627 = true then (some true) else ((spec_DrawCrashLog.f k l0).bind fun bt628 => ((impl_CrashLog.f k bt628.1 bt628.2.1 bt628.2.2.1 bt628.2.2.2.1 bt628.2.2.2.2).bind fun bt634 => ((spec_CrashLog.f k bt628.1 bt628.2.1 bt628.2.2.1 bt628.2.2.2.1 bt628.2.2.2.2).bind fun bt636 => (if bt634.1.toList = bt636.1.toList then (laws_FnCrashRecovery.j0 k bt634.1 bt634.2 (bt634.2 != bt636.2) bt628.1 bt628.2.1 bt628.2.2.1) else (laws_FnCrashRecovery.j0 k bt634.1 bt634.2 true bt628.1 bt628.2.1 bt628.2.2.1)))))) = some r := H
 have A2 := Aside0.mk A20
 clear A20
 by_cases c3 : t627 = true
 ·
  subst c3
  have H1 : (some true) = some r := by rw [if_pos rfl] at H; exact H
  clear H
  have H := H1
  clear H1
  obtain rfl := Option.some.inj H
  go_enter Tryd.func11, Tryd.ntmps11
  go_wp2_with (first | ((with_reducible refine gate_callee (f := 35) rfl ?_); refine ga_ (some 19) Tryd.func35 #[.slice A0 l0.length c0] ?_; (with_reducible refine (laws_vBig.calls _ _ l0 true _ ?side1 ?side2 A2.out).mono ?_); (case side1 => exact kc_ HR0.out); (case side2 => exact HC0.out); rintro e w' ⟨rfl, ⟨nd, rfl⟩⟩; refine ⟨_, rfl, ?_⟩))
  go_ret
  exact ⟨rr_, lb0_ HB.out⟩
 ·
  replace c3 := Bool.eq_false_iff.mpr c3
  subst c3
  have H1 : ((spec_DrawCrashLog.f k l0).bind fun bt628 => ((impl_CrashLog.f k bt628.1 bt628.2.1 bt628.2.2.1 bt628.2.2.2.1 bt628.2.2.2.2).bind fun bt634 => ((spec_CrashLog.f k bt628.1 bt628.2.1 bt628.2.2.1 bt628.2.2.2.1 bt628.2.2.2.2).bind fun bt636 => (if bt634.1.toList = bt636.1.toList then (laws_FnCrashRecovery.j0 k bt634.1 bt634.2 (bt634.2 != bt636.2) bt628.1 bt628.2.1 bt628.2.2.1) else (laws_FnCrashRecovery.j0 k bt634.1 bt634.2 true bt628.1 bt628.2.1 bt628.2.2.1))))) = some r := by rw [if_neg (show ¬ (false = true) by decide)] at H; exact H
  clear H
  have H := H1
  clear H1
  replace H := Option.bind_eq_some_iff.mp H
  obtain ⟨⟨t628, t629, t630, t631, t632⟩, A40, H⟩ := H
  replace H : ((impl_CrashLog.f k t628 t629 t630 t631 t632).bind fun bt634 => ((spec_CrashLog.f k t628 t629 t630 t631 t632).bind fun bt636 => (if bt634.1.toList = bt636.1.toList then (laws_FnCrashRecovery.j0 k bt634.1 bt634.2 (bt634.2 != bt636.2) t628 t629 t630) else (laws_FnCrashRecovery.j0 k bt634.1 bt634.2 true t628 t629 t630)))) = some r := H
  have A4 := Aside0.mk A40
  clear A40
  replace H := Option.bind_eq_some_iff.mp H
  obtain ⟨⟨t634, t635⟩, A50, H⟩ := H
  replace H : ((spec_CrashLog.f k t628 t629 t630 t631 t632).bind fun bt636 => (if t634.toList = bt636.1.toList then (laws_FnCrashRecovery.j0 k t634 t635 (t635 != bt636.2) t628 t629 t630) else (laws_FnCrashRecovery.j0 k t634 t635 true t628 t629 t630))) = some r := H
  have A5 := Aside0.mk A50
  clear A50
  replace H := Option.bind_eq_some_iff.mp H
  obtain ⟨⟨t636, t637⟩, A60, H⟩ := H
  replace H : (if t634.toList = t636.toList then (laws_FnCrashRecovery.j0 k t634 t635 (t635 != t637) t628 t629 t630) else (laws_FnCrashRecovery.j0 k t634 t635 true t628 t629 t630)) = some r := H
  have A6 := Aside0.mk A60
  clear A60
  have HC7 := Aside0.mk H
  clear H
  go_enter Tryd.func11, Tryd.ntmps11
  go_upto_region 6 with (first | ((with_reducible refine gate_callee (f := 35) rfl ?_); refine ga_ (some 19) Tryd.func35 #[.slice A0 l0.length c0] ?_; (with_reducible refine (laws_vBig.calls _ _ l0 false _ ?side1 ?side2 A2.out).mono ?_); (case side1 => exact kc_ HR0.out); (case side2 => exact HC0.out); rintro e w' ⟨rfl, ⟨nd, rfl⟩⟩; refine ⟨_, rfl, ?_⟩) | ((with_reducible refine gate_callee (f := 39) rfl ?_); refine ga_ (some 22) Tryd.func39 #[.slice A0 l0.length c0] ?_; (with_reducible refine (spec_DrawCrashLog.calls k _ _ l0 t628 t629 t630 t631 t632 _ ?side1 ?side2 A4.out).mono ?_); (case side1 => exact kc_ HR0.out); (case side2 => exact HC0.out); rintro e w8 ⟨rfl, hb⟩; refine ⟨_, rfl, ?_⟩; replace HB := Aside0.mk (below_step (lb0_ HB.out) hb); (try clear hb); (try clear hb2); (try clear hk); (try clear hi)) | ((with_reducible refine gate_dst (N := 3) rfl ?_); (try (refine gate_guard (by rfl) ?_; dsimp only)); refine box_event ?hg (N := 3) ?hd (cs := #[.string (⟨#[]⟩ : ByteArray), .string (⟨#[]⟩ : ByteArray), .int .i64 0]) (t := 31) ?hr ?_; (case hd => rfl); (case hg => rfl); (case hr => first | (go_simp; done) | (go_simp; rfl)); intro gb633 hg w9 hbox hb; have BK633 := Aside0.mk (hbox); have GW633 := Aside0.mk ((bz_ hg (lb0_ HB.out))); have GE633 := Aside0.mk ((bz_ hg (lb0_ HB.out))); replace HB := Aside0.mk (below_step (lb0_ HB.out) hb); clear hb hbox hg; obtain ⟨hcz10_0, hcz10_1, hcz10_2⟩ := cz3_ BK633.out; obtain ⟨hfz10_0, hfz10_1, hfz10_2⟩ := fz3_ BK633.out) | ((with_reducible refine gate_callee (f := 25) rfl ?_); refine ga_ (some 30) Tryd.func25 #[.agg #[.string t628, .string t629, .int .i64 t630], .int .i64 t631, .bool t632] ?_; (with_reducible refine (impl_CrashLog.calls k t628 t629 t630 t631 t632 t634 t635 _ A5.out ?sideT).mono ?_); (case sideT => first | exact HT.out | exact Tb.step HT.out HB.out | exact Tb.step HT.out (by repeat (first | (with_reducible first | exact HB.out | apply below_alloc | apply pw_below_drewN | apply below_drew1 | refine below_set ?_ GE633.out | refine below_set ?_ GE643.out) | exact HB.out | exact Below.refl _ _))); rintro e w11 ⟨rfl, hb⟩; refine ⟨_, rfl, ?_⟩; replace BK633 := Aside0.mk (blk_below (g := gb633) (o := .cells #[.string t628, .string t629, .int .i64 t630] 31 (0, 0)) (by (with_reducible repeat (first | refine blk_drewN ?_ _ | refine blk_drew ?_ | refine blk_alloc ?_ _)); refine blk_put (cs := #[.string t628, .string t629, .int .i64 0]) ?_ 2 _ rfl; (with_reducible repeat (first | refine blk_drewN ?_ _ | refine blk_drew ?_ | refine blk_alloc ?_ _)); refine blk_put (cs := #[.string t628, .string (⟨#[]⟩ : ByteArray), .int .i64 0]) ?_ 1 _ rfl; (with_reducible repeat (first | refine blk_drewN ?_ _ | refine blk_drew ?_ | refine blk_alloc ?_ _)); refine blk_put (cs := #[.string (⟨#[]⟩ : ByteArray), .string (⟨#[]⟩ : ByteArray), .int .i64 0]) ?_ 0 _ rfl; (with_reducible repeat (first | refine blk_drewN ?_ _ | refine blk_drew ?_ | refine blk_alloc ?_ _)); exact BK633.out) hb); replace HB := Aside0.mk (below_step (lb1_ HB.out GE633.out) hb); (try clear hb); (try clear hb2); (try clear hk); (try clear hi); obtain ⟨hcz12_0, hcz12_1, hcz12_2⟩ := cz3_ BK633.out; obtain ⟨hfz12_0, hfz12_1, hfz12_2⟩ := fz3_ BK633.out) | ((with_reducible refine gate_callee (f := 24) rfl ?_); refine ga_ (some 37) Tryd.func24 #[.agg #[.string t628, .string t629, .int .i64 t630], .int .i64 t631, .bool t632] ?_; (with_reducible refine (spec_CrashLog.calls k t628 t629 t630 t631 t632 t636 t637 _ A6.out).mono ?_); rintro e w13 ⟨rfl, hb⟩; refine ⟨_, rfl, ?_⟩; replace BK633 := Aside0.mk (bb_ (bk_ BK633.out) hb); replace HB := Aside0.mk (below_step (lb1_ HB.out GE633.out) hb); (try clear hb); (try clear hb2); (try clear hk); (try clear hi)))
  (try simp only [Act.put, List.setIfInBounds_toArray, List.set_cons_zero, List.set_cons_succ])
  go_cut [47] (fun v47 wc => ∃ (kq : Nat) (x47_6 : Bool), v47 = .bool x47_6 ∧ Aside0 (laws_FnCrashRecovery.j0 kq t634 t635 x47_6 t628 t629 t630 = some r) ∧ Aside0 (kq ≤ k) ∧ Aside0 (wc.heap[gb633]? = some (.cells #[.string t628, .string t629, .int .i64 t630] 31 (0, 0))) ∧ Aside0 (Below w.heap.size w wc))
  case first =>
   as_aux_lemma =>
    have H := HC7.out
    clear HC7
    by_cases c14 : t634.toList = t636.toList
    ·
     rw [if_pos c14] at H
     have c14b0 : (t634.toList == t636.toList) = true := beq_iff_eq.mpr c14
     have c14b1 : (t634.toList != t636.toList) = false := bne_eq_false_iff_eq.mpr c14
     clear c14
     (first | rw [c14b0] | (simp only [i64_w, i32_w]; rw [c14b0]) | skip)
     have H' := Aside0.mk H
     clear H
     go_wp2
     go_meet
     case rel => exact ⟨_, ((t635 != t637)), (by first | rfl | (simp; done) | (simp [*]; done)), H', ⟨by first | omega | exact Nat.le_refl _⟩, ⟨bk_ BK633.out⟩, ⟨lb1_ HB.out GE633.out⟩⟩
    ·
     rw [if_neg c14] at H
     have c14b0 : (t634.toList == t636.toList) = false := beq_eq_false_iff_ne.mpr c14
     have c14b1 : (t634.toList != t636.toList) = true := bne_iff_ne.mpr c14
     (first | rw [c14b0] | (simp only [i64_w, i32_w]; rw [c14b0]) | skip)
     have H' := Aside0.mk H
     clear H
     go_wp2
     go_meet
     case rel => exact ⟨_, (true), (by first | rfl | (simp; done) | (simp [*]; done)), H', ⟨by first | omega | exact Nat.le_refl _⟩, ⟨bk_ BK633.out⟩, ⟨lb1_ HB.out GE633.out⟩⟩
  case rest =>
   as_aux_lemma =>
    clear HC7
    try clear c1
    try clear c2
    try clear p2
    try clear c3
    try clear c11
    try clear c14
    try clear c14b0
    try clear c14b1
    try clear hcz10_0 hcz10_1 hcz10_2
    try clear hcz12_0 hcz12_1 hcz12_2
    try clear hfz10_0 hfz10_1 hfz10_2
    try clear hfz12_0 hfz12_1 hfz12_2
    obtain ⟨kq, x47_6, rfl, HA, HJ6, BK633, HB⟩ := hcut
    cases kq with
    | zero => exact absurd HA.out (by simp [laws_FnCrashRecovery.j0])
    | succ kj6 =>
     have H := HA.out
     clear HA
     simp only [laws_FnCrashRecovery.j0] at H
     by_cases c15 : x47_6 = true
     ·
      subst c15
      have H1 : (none) = some r := by rw [if_pos rfl] at H; exact H
      clear H
      have H := H1
      clear H1
      exact absurd H (by simp)
     ·
      replace c15 := Bool.eq_false_iff.mpr c15
      subst c15
      have H1 : (if t635 = true then ((impl_RecoverLog.f kj6 t634).bind fun bt638 => ((impl_LogRecords.f kj6 bt638.1 bt638.2.1 bt638.2.2.1).bind fun bt644 => ((spec_LogRecords.f kj6 t628 t629 t630).bind fun bt648 => (if bt638.2.2.2.2 = true then (if bt638.2.2.2.1 > (t634.size : Int) then (laws_FnCrashRecovery.j1 kj6 t634 bt638.2.2.2.1 bt644.1 bt648.1 true bt638.1 bt638.2.1 bt638.2.2.1) else (if bt638.2.2.2.1 < (t628.size : Int) then (laws_FnCrashRecovery.j1 kj6 t634 bt638.2.2.2.1 bt644.1 bt648.1 true bt638.1 bt638.2.1 bt638.2.2.1) else (laws_FnCrashRecovery.j1 kj6 t634 bt638.2.2.2.1 bt644.1 bt648.1 (decide ((bt644.1.length : Int) > (bt648.1.length : Int))) bt638.1 bt638.2.1 bt638.2.2.1))) else (laws_FnCrashRecovery.j1 kj6 t634 bt638.2.2.2.1 bt644.1 bt648.1 true bt638.1 bt638.2.1 bt638.2.2.1))))) else (some (t634.toList == ([] : List UInt8)))) = some r := by rw [if_neg (show ¬ (false = true) by decide)] at H; exact H
      clear H
      have H := H1
      clear H1
      by_cases c16 : t635 = true
      ·
       subst c16
       have H1 : ((impl_RecoverLog.f kj6 t634).bind fun bt638 => ((impl_LogRecords.f kj6 bt638.1 bt638.2.1 bt638.2.2.1).bind fun bt644 => ((spec_LogRecords.f kj6 t628 t629 t630).bind fun bt648 => (if bt638.2.2.2.2 = true then (if bt638.2.2.2.1 > (t634.size : Int) then (laws_FnCrashRecovery.j1 kj6 t634 bt638.2.2.2.1 bt644.1 bt648.1 true bt638.1 bt638.2.1 bt638.2.2.1) else (if bt638.2.2.2.1 < (t628.size : Int) then (laws_FnCrashRecovery.j1 kj6 t634 bt638.2.2.2.1 bt644.1 bt648.1 true bt638.1 bt638.2.1 bt638.2.2.1) else (laws_FnCrashRecovery.j1 kj6 t634 bt638.2.2.2.1 bt644.1 bt648.1 (decide ((bt644.1.length : Int) > (bt648.1.length : Int))) bt638.1 bt638.2.1 bt638.2.2.1))) else (laws_FnCrashRecovery.j1 kj6 t634 bt638.2.2.2.1 bt644.1 bt648.1 true bt638.1 bt638.2.1 bt638.2.2.1))))) = some r := by rw [if_pos rfl] at H; exact H
       clear H
       have H := H1
       clear H1
       replace H := Option.bind_eq_some_iff.mp H
       obtain ⟨⟨t638, t639, t640, t641, t642⟩, A170, H⟩ := H
       replace H : ((impl_LogRecords.f kj6 t638 t639 t640).bind fun bt644 => ((spec_LogRecords.f kj6 t628 t629 t630).bind fun bt648 => (if t642 = true then (if t641 > (t634.size : Int) then (laws_FnCrashRecovery.j1 kj6 t634 t641 bt644.1 bt648.1 true t638 t639 t640) else (if t641 < (t628.size : Int) then (laws_FnCrashRecovery.j1 kj6 t634 t641 bt644.1 bt648.1 true t638 t639 t640) else (laws_FnCrashRecovery.j1 kj6 t634 t641 bt644.1 bt648.1 (decide ((bt644.1.length : Int) > (bt648.1.length : Int))) t638 t639 t640))) else (laws_FnCrashRecovery.j1 kj6 t634 t641 bt644.1 bt648.1 true t638 t639 t640)))) = some r := H
       have A17 := Aside0.mk A170
       clear A170
       replace H := Option.bind_eq_some_iff.mp H
       obtain ⟨⟨t644, t647⟩, A180, H⟩ := H
       replace H : ((spec_LogRecords.f kj6 t628 t629 t630).bind fun bt648 => (if t642 = true then (if t641 > (t634.size : Int) then (laws_FnCrashRecovery.j1 kj6 t634 t641 t644 bt648.1 true t638 t639 t640) else (if t641 < (t628.size : Int) then (laws_FnCrashRecovery.j1 kj6 t634 t641 t644 bt648.1 true t638 t639 t640) else (laws_FnCrashRecovery.j1 kj6 t634 t641 t644 bt648.1 (decide ((t644.length : Int) > (bt648.1.length : Int))) t638 t639 t640))) else (laws_FnCrashRecovery.j1 kj6 t634 t641 t644 bt648.1 true t638 t639 t640))) = some r := H
       have A18 := Aside0.mk A180
       clear A180
       replace H := Option.bind_eq_some_iff.mp H
       obtain ⟨⟨t648, t651⟩, A190, H⟩ := H
       replace H : (if t642 = true then (if t641 > (t634.size : Int) then (laws_FnCrashRecovery.j1 kj6 t634 t641 t644 t648 true t638 t639 t640) else (if t641 < (t628.size : Int) then (laws_FnCrashRecovery.j1 kj6 t634 t641 t644 t648 true t638 t639 t640) else (laws_FnCrashRecovery.j1 kj6 t634 t641 t644 t648 (decide ((t644.length : Int) > (t648.length : Int))) t638 t639 t640))) else (laws_FnCrashRecovery.j1 kj6 t634 t641 t644 t648 true t638 t639 t640)) = some r := H
       have A19 := Aside0.mk A190
       clear A190
       have HC20 := Aside0.mk H
       clear H
       go_upto_region 13 with (first | ((with_reducible refine gate_callee (f := 18) rfl ?_); refine ga_ (some 54) Tryd.func18 #[.string t634] ?_; (with_reducible refine (impl_RecoverLog.calls kj6 t634 t638 t639 t640 t641 t642 _ A17.out ?sideT).mono ?_); (case sideT => first | exact HT.out | exact Tb.step HT.out HB.out | exact Tb.step HT.out (by repeat (first | (with_reducible first | exact HB.out | apply below_alloc | apply pw_below_drewN | apply below_drew1 | refine below_set ?_ GE633.out | refine below_set ?_ GE643.out) | exact HB.out | exact Below.refl _ _))); rintro e w21 ⟨rfl, hb⟩; refine ⟨_, rfl, ?_⟩; replace BK633 := Aside0.mk (bb_ (bk_ BK633.out) hb); replace HB := Aside0.mk (below_step (lb1_ HB.out GE633.out) hb); (try clear hb); (try clear hb2); (try clear hk); (try clear hi)) | ((with_reducible refine gate_dst (N := 10) rfl ?_); (try (refine gate_guard (by rfl) ?_; dsimp only)); refine box_event ?hg (N := 10) ?hd (cs := #[.string (⟨#[]⟩ : ByteArray), .string (⟨#[]⟩ : ByteArray), .int .i64 0]) (t := 31) ?hr ?_; (case hd => rfl); (case hg => rfl); (case hr => first | (go_simp; done) | (go_simp; rfl)); intro gb643 hg w22 hbox hb; have BK643 := Aside0.mk (hbox); have GW643 := Aside0.mk ((bz_ hg (lb1_ HB.out GE633.out))); have GE643 := Aside0.mk ((bz_ hg (lb1_ HB.out GE633.out))); replace HB := Aside0.mk (below_step (lb1_ HB.out GE633.out) hb); have NB633_643 := Aside0.mk ((by rw [hg]; exact Nat.ne_of_lt (blk_lt (g := gb633) (o := .cells #[.string t628, .string t629, .int .i64 t630] 31 (0, 0)) (bk_ BK633.out)) : gb633 ≠ gb643)); have NB643_633 := Aside0.mk ((by rw [hg]; exact Nat.ne_of_gt (blk_lt (g := gb633) (o := .cells #[.string t628, .string t629, .int .i64 t630] 31 (0, 0)) (bk_ BK633.out)) : gb643 ≠ gb633)); replace BK633 := Aside0.mk (bb_ (bk_ BK633.out) hb); clear hb hbox hg; have hnb23 := NB643_633.out; have hnc23 := NB633_643.out; obtain ⟨hcz24_0, hcz24_1, hcz24_2⟩ := cz3_ BK643.out; obtain ⟨hfz24_0, hfz24_1, hfz24_2⟩ := fz3_ BK643.out) | ((with_reducible refine gate_callee (f := 31) rfl ?_); refine ga_ (some 60) Tryd.func31 #[.agg #[.string t638, .string t639, .int .i64 t640]] ?_; (with_reducible refine (impl_LogRecords.calls kj6 t638 t639 t640 t644 t647 _ A18.out ?sideT).mono ?_); (case sideT => first | exact HT.out | exact Tb.step HT.out HB.out | exact Tb.step HT.out (by repeat (first | (with_reducible first | exact HB.out | apply below_alloc | apply pw_below_drewN | apply below_drew1 | refine below_set ?_ GE633.out | refine below_set ?_ GE643.out) | exact HB.out | exact Below.refl _ _))); rintro e w25 ⟨v645, rfl, ho0, hb⟩; refine ⟨_, rfl, ?_⟩; have HO646 := Aside0.mk (Kd.R_lower ho0 (below_size (lb2_ HB.out GE633.out GE643.out))); replace BK633 := Aside0.mk (blk_below (g := gb633) (o := .cells #[.string t628, .string t629, .int .i64 t630] 31 (0, 0)) (by (with_reducible repeat (first | refine blk_drewN ?_ _ | refine blk_drew ?_ | refine blk_alloc ?_ _)); refine blk_far ?_ NB633_643.out _; (with_reducible repeat (first | refine blk_drewN ?_ _ | refine blk_drew ?_ | refine blk_alloc ?_ _)); refine blk_far ?_ NB633_643.out _; (with_reducible repeat (first | refine blk_drewN ?_ _ | refine blk_drew ?_ | refine blk_alloc ?_ _)); refine blk_far ?_ NB633_643.out _; (with_reducible repeat (first | refine blk_drewN ?_ _ | refine blk_drew ?_ | refine blk_alloc ?_ _)); exact BK633.out) hb); replace BK643 := Aside0.mk (blk_below (g := gb643) (o := .cells #[.string t638, .string t639, .int .i64 t640] 31 (0, 0)) (by (with_reducible repeat (first | refine blk_drewN ?_ _ | refine blk_drew ?_ | refine blk_alloc ?_ _)); refine blk_put (cs := #[.string t638, .string t639, .int .i64 0]) ?_ 2 _ rfl; (with_reducible repeat (first | refine blk_drewN ?_ _ | refine blk_drew ?_ | refine blk_alloc ?_ _)); refine blk_put (cs := #[.string t638, .string (⟨#[]⟩ : ByteArray), .int .i64 0]) ?_ 1 _ rfl; (with_reducible repeat (first | refine blk_drewN ?_ _ | refine blk_drew ?_ | refine blk_alloc ?_ _)); refine blk_put (cs := #[.string (⟨#[]⟩ : ByteArray), .string (⟨#[]⟩ : ByteArray), .int .i64 0]) ?_ 0 _ rfl; (with_reducible repeat (first | refine blk_drewN ?_ _ | refine blk_drew ?_ | refine blk_alloc ?_ _)); exact BK643.out) hb); replace HB := Aside0.mk (below_step (lb2_ HB.out GE633.out GE643.out) hb); (try clear hb); (try clear hb2); (try clear hk); (try clear hi); (try clear ho0); obtain ⟨hcz26_0, hcz26_1, hcz26_2⟩ := cz3_ BK633.out; obtain ⟨hfz26_0, hfz26_1, hfz26_2⟩ := fz3_ BK633.out) | ((with_reducible refine gate_callee (f := 30) rfl ?_); refine ga_ (some 65) Tryd.func30 #[.agg #[.string t628, .string t629, .int .i64 t630]] ?_; (with_reducible refine (spec_LogRecords.calls kj6 t628 t629 t630 t648 t651 _ A19.out).mono ?_); rintro e w27 ⟨v649, rfl, ho0, hb⟩; refine ⟨_, rfl, ?_⟩; have HO650 := Aside0.mk (Kd.R_lower (Kd.R_new' ho0 (Kd.R_lt (kr_ HO646.out))) (below_size (lb2_ HB.out GE633.out GE643.out))); replace HO646 := Aside0.mk (Kd.R_elder' (kr_ HO646.out) (Kd.R_base ho0) hb); replace BK633 := Aside0.mk (bb_ (bk_ BK633.out) hb); replace BK643 := Aside0.mk (bb_ (bk_ BK643.out) hb); replace HB := Aside0.mk (below_step (lb2_ HB.out GE633.out GE643.out) hb); (try clear hb); (try clear hb2); (try clear hk); (try clear hi); (try clear ho0)))
       (try simp only [Act.put, List.setIfInBounds_toArray, List.set_cons_zero, List.set_cons_succ])
       go_cut [89] (fun v89 wc => ∃ (kq : Nat) (x89_19 : Bool), v89 = .bool x89_19 ∧ Aside0 (laws_FnCrashRecovery.j1 kq t634 t641 t644 t648 x89_19 t638 t639 t640 = some r) ∧ Aside0 (kq ≤ kj6) ∧ Aside0 (Kd.R k27 27 wc w.heap.size (fun k_ => some k_ ≠ (v649 : Value).ownBlock) v645 t644) ∧ Aside0 (Kd.R k27 27 wc w.heap.size (fun k_ => some k_ ≠ (v645 : Value).ownBlock) v649 t648) ∧ Aside0 (wc.heap[gb633]? = some (.cells #[.string t628, .string t629, .int .i64 t630] 31 (0, 0))) ∧ Aside0 (wc.heap[gb643]? = some (.cells #[.string t638, .string t639, .int .i64 t640] 31 (0, 0))) ∧ Aside0 (Below w.heap.size w wc))
       case first =>
        as_aux_lemma =>
         have H := HC20.out; clear HC20
         by_cases c28 : t642 = true
         ·
          subst c28
          have H1 : (if t641 > (t634.size : Int) then (laws_FnCrashRecovery.j1 kj6 t634 t641 t644 t648 true t638 t639 t640) else (if t641 < (t628.size : Int) then (laws_FnCrashRecovery.j1 kj6 t634 t641 t644 t648 true t638 t639 t640) else (laws_FnCrashRecovery.j1 kj6 t634 t641 t644 t648 (decide ((t644.length : Int) > (t648.length : Int))) t638 t639 t640))) = some r := by rw [if_pos rfl] at H; exact H
          clear H; have H := H1; clear H1
          by_cases c29 : t641 > (t634.size : Int)
          ·
           rw [if_pos c29] at H
           have c29b0 : decide ((t634.size : Int) < t641) = true := decide_eq_true c29; clear c29
           (first | rw [c29b0] | (simp only [i64_w, i32_w]; rw [c29b0]) | skip)
           have H' := Aside0.mk H; clear H
           go_wp2
           go_meet
           case rel => exact ⟨_, (true), (by first | rfl | (simp; done) | (simp [*]; done)), H', ⟨by have := HJ6.out; first | omega | exact Nat.le_refl _⟩, ⟨krm_ HO646.out (fun _ hk => hk.2)⟩, ⟨krm_ HO650.out (fun _ hk => hk.2)⟩, ⟨bk_ BK633.out⟩, ⟨bk_ BK643.out⟩, ⟨lb2_ HB.out GE633.out GE643.out⟩⟩
          ·
           rw [if_neg c29] at H
           have c29b0 : decide ((t634.size : Int) < t641) = false := decide_eq_false c29; clear c29
           (first | rw [c29b0] | (simp only [i64_w, i32_w]; rw [c29b0]) | skip)
           by_cases c30 : t641 < (t628.size : Int)
           ·
            rw [if_pos c30] at H
            have c30b0 : decide (t641 < (t628.size : Int)) = true := decide_eq_true c30; clear c30; have H' := Aside0.mk H; clear H; have hnb31 := NB633_643.out; have hnc31 := NB643_633.out; obtain ⟨hcz32_0, hcz32_1, hcz32_2⟩ := cz3_ BK633.out; obtain ⟨hfz32_0, hfz32_1, hfz32_2⟩ := fz3_ BK633.out
            go_wp2
            go_meet
            case rel => exact ⟨_, (true), (by first | rfl | (simp; done) | (simp [*]; done)), H', ⟨by have := HJ6.out; first | omega | exact Nat.le_refl _⟩, ⟨krm_ HO646.out (fun _ hk => hk.2)⟩, ⟨krm_ HO650.out (fun _ hk => hk.2)⟩, ⟨bk_ BK633.out⟩, ⟨bk_ BK643.out⟩, ⟨lb2_ HB.out GE633.out GE643.out⟩⟩
           ·
            rw [if_neg c30] at H
            have c30b0 : decide (t641 < (t628.size : Int)) = false := decide_eq_false c30; clear c30; have H' := Aside0.mk H; clear H; have hnb33 := NB633_643.out; have hnc33 := NB643_633.out; obtain ⟨hcz34_0, hcz34_1, hcz34_2⟩ := cz3_ BK633.out; obtain ⟨hfz34_0, hfz34_1, hfz34_2⟩ := fz3_ BK633.out; obtain ⟨Ao35, co35, eo35⟩ := Kd.R_slice HO646.out; subst eo35; obtain ⟨Ao36, co36, eo36⟩ := Kd.R_slice HO650.out; subst eo36
            go_wp2
            go_meet
            case rel => exact ⟨_, (decide ((t644.length : Int) > (t648.length : Int))), (by first | rfl | (simp; done) | (simp [*]; done)), H', ⟨by have := HJ6.out; first | omega | exact Nat.le_refl _⟩, ⟨krm_ HO646.out (fun _ hk => hk.2)⟩, ⟨krm_ HO650.out (fun _ hk => hk.2)⟩, ⟨bk_ BK633.out⟩, ⟨bk_ BK643.out⟩, ⟨lb2_ HB.out GE633.out GE643.out⟩⟩
         ·
          replace c28 := Bool.eq_false_iff.mpr c28; subst c28
          have H1 : (laws_FnCrashRecovery.j1 kj6 t634 t641 t644 t648 true t638 t639 t640) = some r := by rw [if_neg (show ¬ (false = true) by decide)] at H; exact H
          clear H; have H := H1; clear H1; have H' := Aside0.mk H; clear H
          go_wp2
          go_meet
          case rel => exact ⟨_, (true), (by first | rfl | (simp; done) | (simp [*]; done)), H', ⟨by have := HJ6.out; first | omega | exact Nat.le_refl _⟩, ⟨krm_ HO646.out (fun _ hk => hk.2)⟩, ⟨krm_ HO650.out (fun _ hk => hk.2)⟩, ⟨bk_ BK633.out⟩, ⟨bk_ BK643.out⟩, ⟨lb2_ HB.out GE633.out GE643.out⟩⟩
       case rest =>
        as_aux_lemma =>
         clear HC20
         try clear c1
         try clear c2
         try clear p2
         try clear c3
         try clear c11
         try clear c14
         try clear c14b0
         try clear c14b1
         try clear c15
         try clear c16
         try clear c18
         try clear c23
         try clear c24
         try clear c25
         try clear c28
         try clear c29
         try clear c29b0
         try clear c30
         try clear c30b0
         try clear c31
         try clear c33
         try clear c35
         try clear hcz10_0 hcz10_1 hcz10_2
         try clear hcz12_0 hcz12_1 hcz12_2
         try clear hcz24_0 hcz24_1 hcz24_2
         try clear hcz26_0 hcz26_1 hcz26_2
         try clear hcz32_0 hcz32_1 hcz32_2
         try clear hcz34_0 hcz34_1 hcz34_2
         try clear hfz10_0 hfz10_1 hfz10_2
         try clear hfz12_0 hfz12_1 hfz12_2
         try clear hfz24_0 hfz24_1 hfz24_2
         try clear hfz26_0 hfz26_1 hfz26_2
         try clear hfz32_0 hfz32_1 hfz32_2
         try clear hfz34_0 hfz34_1 hfz34_2
         try clear p2
         obtain ⟨kq, x89_19, rfl, HA, HJ19, HO_13, HO_15, BK633, BK643, HB⟩ := hcut
         cases kq with
         | zero => exact absurd HA.out (by simp [laws_FnCrashRecovery.j1])
         | succ kj19 =>
          have H := HA.out; clear HA; simp only [laws_FnCrashRecovery.j1] at H
          by_cases c37 : x89_19 = true
          ·
           subst c37
           have H1 : (none) = some r := by rw [if_pos rfl] at H; exact H
           clear H; have H := H1; clear H1; exact absurd H (by simp)
          ·
           replace c37 := Bool.eq_false_iff.mpr c37; subst c37
           have H1 : (laws_FnCrashRecovery.l0 kj19 t634 t641 t644 t648 0 t638 t639 t640) = some r := by rw [if_neg (show ¬ (false = true) by decide)] at H; exact H
           clear H; have H := H1; clear H1; have H' := Aside0.mk H; clear H
           go_wp2
           go_loopg [17] kj19 (fun kq v17 w' => ∃ (x17_3 : Int), v17 = .int .i64 x17_3 ∧ Aside0 (laws_FnCrashRecovery.l0 kq t634 t641 t644 t648 x17_3 t638 t639 t640 = some r) ∧ Aside0 (kq ≤ kj19) ∧ Aside0 (Kd.R k27 27 w' w.heap.size (fun k_ => some k_ ≠ (v649 : Value).ownBlock) v645 t644) ∧ Aside0 (Kd.R k27 27 w' w.heap.size (fun k_ => some k_ ≠ (v645 : Value).ownBlock) v649 t648) ∧ Aside0 (w'.heap[gb633]? = some (.cells #[.string t628, .string t629, .int .i64 t630] 31 (0, 0))) ∧ Aside0 (w'.heap[gb643]? = some (.cells #[.string t638, .string t639, .int .i64 t640] 31 (0, 0))) ∧ Aside0 (Below w.heap.size w w'))
           case atStart => exact ⟨(0), (by first | rfl | (simp; done) | (simp [*]; done)), H', ⟨Nat.le_refl _⟩, ⟨kr_ HO_13.out⟩, ⟨kr_ HO_15.out⟩, ⟨bk_ BK633.out⟩, ⟨bk_ BK643.out⟩, ⟨lb2_ HB.out GE633.out GE643.out⟩⟩
           case round =>
            as_aux_lemma =>
             clear H'
             try clear c1
             try clear c2
             try clear p2
             try clear c3
             try clear c11
             try clear c14
             try clear c14b0
             try clear c14b1
             try clear c15
             try clear c16
             try clear c18
             try clear c23
             try clear c24
             try clear c25
             try clear c28
             try clear c29
             try clear c29b0
             try clear c30
             try clear c30b0
             try clear c31
             try clear c33
             try clear c35
             try clear c37
             try clear hcz10_0 hcz10_1 hcz10_2
             try clear hcz12_0 hcz12_1 hcz12_2
             try clear hcz24_0 hcz24_1 hcz24_2
             try clear hcz26_0 hcz26_1 hcz26_2
             try clear hcz32_0 hcz32_1 hcz32_2
             try clear hcz34_0 hcz34_1 hcz34_2
             try clear hfz10_0 hfz10_1 hfz10_2
             try clear hfz12_0 hfz12_1 hfz12_2
             try clear hfz24_0 hfz24_1 hfz24_2
             try clear hfz26_0 hfz26_1 hfz26_2
             try clear hfz32_0 hfz32_1 hfz32_2
             try clear hfz34_0 hfz34_1 hfz34_2
             try clear p2
             obtain ⟨x17_3, rfl, HA, HK3, HO_13, HO_15, BK633, BK643, HB⟩ := hrel
             cases gk with
             | zero => exact absurd HA.out (by simp [laws_FnCrashRecovery.l0])
             | succ k3 =>
              have H := HA.out; clear HA; simp only [laws_FnCrashRecovery.l0] at H
              by_cases c38 : x17_3 < (t644.length : Int)
              ·
               rw [if_pos c38] at H
               have c38b0 : decide (x17_3 < (t644.length : Int)) = true := decide_eq_true c38; clear c38
               by_cases c39 : 0 ≤ x17_3
               ·
                rw [if_pos c39] at H
                have c39b0 : decide (0 ≤ x17_3) = true := decide_eq_true c39; clear c39
                by_cases c40 : x17_3 < (t648.length : Int)
                ·
                 rw [if_pos c40] at H
                 have c40b0 : decide (x17_3 < (t648.length : Int)) = true := decide_eq_true c40; clear c40
                 by_cases c41 : (!((((rd_T27 t644 x17_3).f0).toList) == (((rd_T27 t648 x17_3).f0).toList)) || (!((((rd_T27 t644 x17_3).f1).toList) == (((rd_T27 t648 x17_3).f1).toList)))) = true
                 ·
                  rw [if_pos c41] at H
                  exact absurd H (by simp)
                 ·
                  rw [if_neg c41] at H
                  have c41b0 : (!((((rd_T27 t644 x17_3).f0).toList) == (((rd_T27 t648 x17_3).f0).toList)) || (!((((rd_T27 t644 x17_3).f1).toList) == (((rd_T27 t648 x17_3).f1).toList)))) = false := by simpa using c41
                  clear c41; have H' := Aside0.mk H; clear H; obtain ⟨Ao42, co42, eo42⟩ := Kd.R_slice HO_13.out; subst eo42
                  try go_wp2
                  replace HO_13 := Aside0.mk (Kd.R_drew HO_13.out); replace HO_15 := Aside0.mk (Kd.R_drew HO_15.out); replace BK633 := Aside0.mk (blk_drew BK633.out); replace BK643 := Aside0.mk (blk_drew BK643.out); replace HB := Aside0.mk (below_drew1 HB.out); have p652 : 0 ≤ (x17_3 : Int) := dt_; have q652 : x17_3 < (t644.length : Int) := dt_; obtain ⟨ad652, e652, hx652_0, hx652_1⟩ := at_T27 (Kd.R_reads' HO_13.out).2.2 x17_3 p652 q652
                  cases e652
                  replace p652 := eq_true p652; replace q652 := eq_true q652; obtain ⟨Ao44, co44, eo44⟩ := Kd.R_slice HO_15.out
                  (first | subst eo44 | (injection eo44 with f1_ f2_ f3_; have f4_ := f1_.symm; have f5_ := f3_.symm; clear f1_ f2_ f3_; subst f4_; subst f5_))
                  have p653 : 0 ≤ (x17_3 : Int) := dt_; have q653 : x17_3 < (t648.length : Int) := dt_; obtain ⟨ad653, e653, hx653_0, hx653_1⟩ := at_T27 (Kd.R_reads' HO_15.out).2.2 x17_3 p653 q653
                  cases e653
                  replace p653 := eq_true p653; replace q653 := eq_true q653; refine start_ (n := 9) (S := fun w' => w'.cell? (ad652.add ((x17_3).toNat * 2)) = some (.string ((rd_T27 t644 x17_3).f0)) ∧ w'.cell? ⟨(ad652.add ((x17_3).toNat * 2)).block, (ad652.add ((x17_3).toNat * 2)).off + 1, none⟩ = some (.string ((rd_T27 t644 x17_3).f1)) ∧ w'.cell? (ad653.add ((x17_3).toNat * 2)) = some (.string ((rd_T27 t648 x17_3).f0)) ∧ w'.cell? ⟨(ad653.add ((x17_3).toNat * 2)).block, (ad653.add ((x17_3).toNat * 2)).off + 1, none⟩ = some (.string ((rd_T27 t648 x17_3).f1))) (ds := []) laws_FnCrashRecovery.mk0 (by kernel_rfl) rfl rfl ⟨hx652_0, hx652_1, hx653_0, hx653_1⟩ (fun hHeld => ?_); refine with_tabW laws_FnCrashRecovery.tab18 laws_FnCrashRecovery.bits18 (fun HT_ HW_ => ?_); generalize wr.drew = w43 at HO_13 HO_15 BK633 BK643 HB hx652_0 hx652_1 hx653_0 hx653_1 hHeld ⊢; refine pz_ HT_ 0 (some 96) laws_FnCrashRecovery.mk1 ?_; refine pz_ HT_ 1 (some 97) laws_FnCrashRecovery.mk2 ?_; refine pz_ HT_ 2 (some 98) laws_FnCrashRecovery.mk3 ?_; refine pz_ HT_ 4 (some 100) laws_FnCrashRecovery.mk4 ?_; refine pz_ HT_ 5 (some 101) laws_FnCrashRecovery.mk5 ?_; refine pz_ HT_ 6 (some 102) laws_FnCrashRecovery.mk6 ?_; refine take_ (i := 3) (N := some 99) (v := ?_) (a' := ?_) laws_FnCrashRecovery.mk7 rfl rfl (take_ofW HT_.out HW_.out (by kernel_rfl)) (fun _ _ _ h => h) (Or.inl ⟨by rfl, ?_⟩) hHeld ?_ ?_; rotate_left
                  ·
                   rintro w' ⟨s0, s1, s2, s3⟩; go_simp; (with_reducible rfl)
                  rotate_left
                  ·
                   simp only [Act.put, List.setIfInBounds_toArray, List.set_cons_zero, List.set_cons_succ, i64_w, i32_w]; rfl
                  refine take_ (i := 7) (N := some 103) (v := ?_) (a' := ?_) laws_FnCrashRecovery.mk8 rfl rfl (take_ofW HT_.out HW_.out (by kernel_rfl)) (fun _ _ _ h => h) (Or.inl ⟨by rfl, ?_⟩) hHeld ?_ ?_; rotate_left
                  ·
                   rintro w' ⟨s0, s1, s2, s3⟩; go_simp; (with_reducible rfl)
                  rotate_left
                  ·
                   simp only [Act.put, List.setIfInBounds_toArray, List.set_cons_zero, List.set_cons_succ, i64_w, i32_w]; rfl
                  refine pz_ HT_ 8 (some 104) laws_FnCrashRecovery.mk9 ?_; refine done_ (done_of HT_.out (by kernel_rfl)) ?_
                  try go_wp2
                  go_roundg k3
                  case measure => have := HJ6.out; have := HJ19.out; have := HK3.out; omega
                  case rel => exact ⟨(wrap64 (x17_3 + 1)), (by first | rfl | (simp; done) | (simp [*]; done)), H', ⟨by have := HJ6.out; have := HJ19.out; have := HK3.out; omega⟩, ⟨kr_ HO_13.out⟩, ⟨kr_ HO_15.out⟩, ⟨bk_ BK633.out⟩, ⟨bk_ BK643.out⟩, ⟨lb2_ HB.out GE633.out GE643.out⟩⟩
                ·
                 rw [if_neg c40] at H
                 exact absurd H (by simp)
               ·
                rw [if_neg c39] at H
                exact absurd H (by simp)
              ·
               rw [if_neg c38] at H
               have c38b0 : decide (x17_3 < (t644.length : Int)) = false := decide_eq_false c38; clear c38; replace H := Option.bind_eq_some_iff.mp H; obtain ⟨t654, A450, H⟩ := H; replace H : (if t654 = true then (if 0 ≤ t641 then (if t641 ≤ (t634.size : Int) then (some (t638.toList == (sx t634 (0) ((t641 : Int).toNat)).toList)) else (none)) else (none)) else (none)) = some r := H; have A45 := Aside0.mk A450; clear A450
               by_cases c46 : t654 = true
               ·
                subst c46
                have H1 : (if 0 ≤ t641 then (if t641 ≤ (t634.size : Int) then (some (t638.toList == (sx t634 (0) ((t641 : Int).toNat)).toList)) else (none)) else (none)) = some r := by rw [if_pos rfl] at H; exact H
                clear H; have H := H1; clear H1
                by_cases c47 : 0 ≤ t641
                ·
                 rw [if_pos c47] at H
                 have c47b0 := eq_true c47; have c47b1 : decide (0 ≤ t641) = true := decide_eq_true c47; clear c47
                 by_cases c48 : t641 ≤ (t634.size : Int)
                 ·
                  rw [if_pos c48] at H
                  have c48b0 := eq_true c48; have c48b1 : decide (t641 ≤ (t634.size : Int)) = true := decide_eq_true c48; clear c48; obtain rfl := Option.some.inj H; obtain ⟨Ao49, co49, eo49⟩ := Kd.R_slice HO_13.out; subst eo49
                  try go_wp2
                  replace HO_13 := Aside0.mk (Kd.R_drew HO_13.out); replace HO_15 := Aside0.mk (Kd.R_drew HO_15.out); replace BK633 := Aside0.mk (blk_drew BK633.out); replace BK643 := Aside0.mk (blk_drew BK643.out); replace HB := Aside0.mk (below_drew1 HB.out); refine start_ (n := 11) (S := fun w' => w'.cell? ⟨gb643, 0, none⟩ = some (.string t638) ∧ w'.cell? ⟨gb643, 1, none⟩ = some (.string t639) ∧ w'.cell? ⟨gb643, 2, none⟩ = some (.int .i64 t640)) (ds := []) laws_FnCrashRecovery.mk10 (by kernel_rfl) rfl rfl ⟨(blk_cell BK643.out 0).trans rfl, (blk_cell BK643.out 1).trans rfl, (blk_cell BK643.out 2).trans rfl⟩ (fun hHeld => ?_); refine with_tabW laws_FnCrashRecovery.tab20 laws_FnCrashRecovery.bits20 (fun HT_ HW_ => ?_); generalize wr.drew = w50 at HO_13 HO_15 BK633 BK643 HB hHeld ⊢; refine take_ (i := 0) (N := some 105) (v := ?_) (a' := ?_) laws_FnCrashRecovery.mk11 rfl rfl (take_ofW HT_.out HW_.out (by kernel_rfl)) (fun _ _ _ h => h) (Or.inl ⟨by rfl, ?_⟩) hHeld ?_ ?_; rotate_left
                  ·
                   rintro w' ⟨s0, s1, s2⟩; go_simp; (with_reducible rfl)
                  rotate_left
                  ·
                   simp only [Act.put, List.setIfInBounds_toArray, List.set_cons_zero, List.set_cons_succ, i64_w, i32_w]; rfl
                  refine one_ (i := 1) (N := some 106) laws_FnCrashRecovery.mk12 rfl rfl (one_of HT_.out (by kernel_rfl)) (by decide) (fun K hK => ?_); refine gs_ Tryd.func23 #[.agg #[.string t638, .string t639, .int .i64 t640]] ?_; (with_reducible refine (impl_IsValidLog.calls k3 t638 t639 t640 true _ A45.out ?sideT).mono ?_)
                  case sideT => first | exact HT.out | exact Tb.step HT.out HB.out | exact Tb.step HT.out (by repeat (first | (with_reducible first | exact HB.out | apply below_alloc | apply pw_below_drewN | apply below_drew1 | refine below_set ?_ GE633.out | refine below_set ?_ GE643.out) | exact HB.out | exact Below.refl _ _))
                  rintro e w51 ⟨rfl, hb⟩; refine ⟨_, rfl, ?_⟩; replace HO_13 := Aside0.mk (Kd.R_below (kr_ HO_13.out) hb); replace HO_15 := Aside0.mk (Kd.R_below (kr_ HO_15.out) hb); replace BK633 := Aside0.mk (bb_ (bk_ BK633.out) hb); replace BK643 := Aside0.mk (bb_ (bk_ BK643.out) hb); replace HB := Aside0.mk (below_step (lb2_ HB.out GE633.out GE643.out) hb); (try clear hb); (try clear hb2); (try clear hk); (try clear hi); refine hK.out _ _ ⟨(blk_cell BK643.out 0).trans rfl, (blk_cell BK643.out 1).trans rfl, (blk_cell BK643.out 2).trans rfl⟩ (fun hHeld => ?_); clear hK K; refine na_ ?_; refine pz_ HT_ 2 (some 107) laws_FnCrashRecovery.mk13 ?_; refine pz_ HT_ 3 (some 108) laws_FnCrashRecovery.mk14 ?_; refine pz_ HT_ 5 (some 110) laws_FnCrashRecovery.mk15 ?_; refine pz_ HT_ 6 (some 111) laws_FnCrashRecovery.mk16 ?_; refine pz_ HT_ 7 (some 112) laws_FnCrashRecovery.mk17 ?_; refine take_ (i := 4) (N := some 109) (v := ?_) (a' := ?_) laws_FnCrashRecovery.mk18 rfl rfl (take_ofW HT_.out HW_.out (by kernel_rfl)) (fun _ _ _ h => h) (Or.inl ⟨by rfl, ?_⟩) hHeld ?_ ?_; rotate_left
                  ·
                   rintro w' ⟨s0, s1, s2⟩; go_simp; (with_reducible rfl)
                  rotate_left
                  ·
                   simp only [Act.put, List.setIfInBounds_toArray, List.set_cons_zero, List.set_cons_succ, i64_w, i32_w]; rfl
                  refine pz_ HT_ 8 (some 113) laws_FnCrashRecovery.mk19 ?_; refine pz_ HT_ 9 (some 114) laws_FnCrashRecovery.mk20 ?_; refine pz_ HT_ 10 (some 2) laws_FnCrashRecovery.mk21 ?_; refine done_ (done_of HT_.out (by kernel_rfl)) ?_
                  try go_wp2
                  go_ret
                  exact ⟨rr_, lb2_ HB.out GE633.out GE643.out⟩
                 ·
                  rw [if_neg c48] at H
                  exact absurd H (by simp)
                ·
                 rw [if_neg c47] at H
                 exact absurd H (by simp)
               ·
                replace c46 := Bool.eq_false_iff.mpr c46; subst c46
                have H1 : (none) = some r := by rw [if_neg (show ¬ (false = true) by decide)] at H; exact H
                clear H; have H := H1; clear H1; exact absurd H (by simp)
      ·
       replace c16 := Bool.eq_false_iff.mpr c16
       subst c16
       have H1 : (some (t634.toList == ([] : List UInt8))) = some r := by rw [if_neg (show ¬ (false = true) by decide)] at H; exact H
       clear H
       have H := H1
       clear H1
       obtain rfl := Option.some.inj H
       go_wp2
       go_ret
       exact ⟨rr_, lb1_ HB.out GE633.out⟩
end Go.Proofs.YtdpinnhgkocjhaaDoor.Pr

namespace Go.Proofs.YtdpinnhgkocjhaaDoorW.Opens
open Go.ChangeShapes Go.WideShapes Go.RowKit
open Go.Deep (open_slice choose_lt)
open Go.Proofs.YtdpinnhgkocjhaaDoorW.PrintWords
set_option linter.unusedVariables false
set_option linter.unusedSimpArgs false
def Opn {α : Type} (P : Program) (t : TypeId) (d : Kd α) (wf : α → Prop) : Prop :=
 P.cellsOf t = d.sz ∧ ∀ (H : Type) (enc : TypeId × Value → H) (W : World) (fuel : Nat) (cs : List Value) (x : DataW H × List MemPlace),
  DataW.trod enc P W 0 (fun _ => true) true fuel t cs = some x → (∀ n ∈ x.1.weights P t, n ≤ reachBytes) → ∃ y, d.K W y cs ∧ wf y
theorem Opn.int {P : Program} {t : TypeId} {k : IntKind} (hc : P.cellsOf t = 1) (ht : P.underlying t = some (.int k)) : Opn P t (Kd.int k) (fun n => (Lit.int k n).wf = true) :=
 ⟨hc, fun H enc W fuel cs x h _ => by
  obtain ⟨m, rfl, rfl, hw⟩ := DataW.trod_int ht h
  exact ⟨m, rfl, hw⟩⟩
theorem Opn.bool {P : Program} {t : TypeId} (hc : P.cellsOf t = 1) (ht : P.underlying t = some .bool) : Opn P t Kd.bool (fun _ => True) :=
 ⟨hc, fun H enc W fuel cs x h _ => by
  obtain ⟨m, rfl, rfl⟩ := DataW.trod_bool ht h
  exact ⟨m, rfl, trivial⟩⟩
theorem Opn.string {P : Program} {t : TypeId} (hc : P.cellsOf t = 1) (ht : P.underlying t = some .string) : Opn P t Kd.string (fun s => s.size ≤ 140737488351232) :=
 ⟨hc, fun H enc W fuel cs x h hw => by
  obtain ⟨m, rfl, rfl, hm⟩ := DataW.trod_string ht h
  have := hw m.data.toList.length (by simp [DataW.weights])
  rw [Array.length_toList] at this
  exact ⟨m, rfl, this⟩⟩
theorem weightsAll_mem {H : Type} {P : Program} {e : TypeId} : ∀ {l : List (DataW H)} {d : DataW H}, d ∈ l → ∀ n ∈ d.weights P e, n ∈ DataW.weightsAll P e l
 | _ :: r, d, h, n, hn => by
  simp only [DataW.weightsAll, List.mem_append]
  rcases List.mem_cons.1 h with rfl | h
  ·
   exact .inl hn
  ·
   exact .inr (weightsAll_mem h n hn)
theorem Opn.slice {α : Type} (z : α) {P : Program} {t e : TypeId} {d : Kd α} {wf : α → Prop} {B : Nat} (hc : P.cellsOf t = 1) (ht : P.underlying t = some (.slice e)) (hB : P.bytesOf e = B) (h : Opn P e d wf) :
  Opn P t (Kd.slice e d) (fun xs => xs.length ≤ maxLen ∧ xs.length * B ≤ 140737488351232 ∧ ∀ y ∈ xs, wf y) :=
 ⟨hc, fun H enc W fuel cs x hf hw => by
  haveI : Inhabited α := ⟨z⟩
  rcases open_slice ht hf with ⟨rfl, rfl⟩ | ⟨a, len, cap, m, n, D, Pl, rfl, _, hl, hm, hmm, rfl, each⟩
  ·
   exact ⟨[], ⟨none, 0, rfl, Nat.le_refl _, rfl, by simp, fun h => absurd h (Nat.lt_irrefl 0)⟩, by simp, by simp, by simp⟩
  ·
   rw [if_pos rfl] at hmm
   subst hmm
   have hw0 : ∀ n ∈ DataW.weights P t (DataW.slice (H := H) ((List.range len).map D) ((List.range (m - len)).map fun j => D (len + j))), n ≤ reachBytes := hw
   have hww : ∀ i, i < len → ∀ n ∈ (D i).weights P e, n ≤ reachBytes := by
    intro i hi n hn
    refine hw0 n ?_
    simp only [DataW.weights, ht, List.mem_cons, List.mem_append]
    exact .inr (.inl (weightsAll_mem (List.mem_map.2 ⟨i, List.mem_range.2 hi, rfl⟩) n hn))
   have hB2 : len * B ≤ 140737488351232 := by
    have := hw0 ((len + (m - len)) * B) (by simp [DataW.weights, ht, hB])
    refine Nat.le_trans (Nat.mul_le_mul_right _ (by omega)) this
   have hx : ∀ i, i < len → ∃ y, ∃ c : List Value, c.length = d.sz ∧ d.K W y c ∧ wf y ∧ ∀ j u, c[j]? = some u → W.cell? (a.add (i * d.sz + j)) = some u := by
    intro i hi
    obtain ⟨cs', h1, h2⟩ := each i (by omega)
    obtain ⟨y, hy, hwy⟩ := h.2 H enc W n cs' _ h2 (hww i hi)
    obtain ⟨_, hlen, hcell⟩ := World.cells?_some h1
    rw [h.1] at hlen hcell
    refine ⟨y, cs', hlen, hy, hwy, fun j u hu => ?_⟩
    have hj : j < d.sz := by
     have := (List.getElem?_eq_some_iff.1 hu).1
     omega
    have := hcell j hj
    rw [add_add] at this
    exact this.trans hu
   obtain ⟨f, hf'⟩ := choose_lt hx
   refine ⟨(List.range len).map f, ⟨some a, m, by simp, by simpa using hl, by simp, by simp only [maxLen] at hm; simp; omega, fun _ => ⟨a, rfl, fun j p hj => ?_⟩⟩, ?_, ?_, ?_⟩
   ·
    rw [List.getElem?_map] at hj
    have hj' : j < len := by
     by_cases hjl : j < len
     ·
      exact hjl
     ·
      rw [List.getElem?_eq_none (by simp; omega)] at hj
      cases hj
    rw [List.getElem?_range hj'] at hj
    obtain rfl := Option.some.inj hj
    obtain ⟨c, h1, h2, _, h3⟩ := hf' j hj'
    exact ⟨c, h1, h2, h3⟩
   ·
    simp; omega
   ·
    simpa using hB2
   ·
    intro y hy
    obtain ⟨i, hi, rfl⟩ := List.mem_map.1 hy
    obtain ⟨c, _, _, h2, _⟩ := hf' i (List.mem_range.1 hi)
    exact h2⟩
def FOpn {α : Type} (P : Program) (fs : List Field) (off : Nat) (d : Kd α) (wf : α → Prop) : Prop :=
 ∀ (H : Type) (enc : TypeId × Value → H) (W : World) (fuel : Nat) (cs : List Value) (xs : List (DataW H × List MemPlace)),
  xs.length = fs.length → (∀ (i : Nat) (f : Field), fs[i]? = some f → DataW.trod enc P W 0 (fun _ => true) true fuel f.type ((cs.drop f.offset).take (P.cellsOf f.type)) = xs[i]?) →
  (∀ n ∈ DataW.weightsEach P (fs.map (·.type)) (xs.map (·.1)), n ≤ reachBytes) → ∃ y, d.K W y ((cs.drop off).take d.sz) ∧ wf y
theorem FOpn.one {α : Type} {P : Program} {f : Field} {off : Nat} {d : Kd α} {wf : α → Prop} (ho : f.offset = off) (h : Opn P f.type d wf) : FOpn P [f] off d wf := by
 intro H enc W fuel cs xs hl hx hw
 match xs, hl with
 | [x], _ =>
  have h0 := hx 0 f rfl
  rw [ho, h.1] at h0
  exact h.2 H enc W fuel _ x h0 (fun n hn => hw n (by simp only [List.map, DataW.weightsEach, List.mem_append]; exact .inl hn))
theorem FOpn.cons {α β : Type} {P : Program} {f : Field} {fs : List Field} {off : Nat} {d : Kd α} {d' : Kd β} {wf : α → Prop} {wf' : β → Prop} (ho : f.offset = off) (h : Opn P f.type d wf) (h' : FOpn P fs (off + d.sz) d' wf') :
  FOpn P (f :: fs) off (Kd.pair d d') (fun x => wf x.1 ∧ wf' x.2) := by
 intro H enc W fuel cs xs hl hx hw
 match xs, hl with
 | x :: xs, hl =>
  have h0 := hx 0 f rfl
  rw [ho, h.1] at h0
  have hw' : ∀ n ∈ x.1.weights P f.type ++ DataW.weightsEach P (fs.map (·.type)) (xs.map (·.1)), n ≤ reachBytes := hw
  obtain ⟨y, hy, hwy⟩ := h.2 H enc W fuel _ x h0 (fun n hn => hw' n (List.mem_append_left _ hn))
  obtain ⟨y', hy', hwy'⟩ := h' H enc W fuel cs xs (by simpa using hl) (fun i f' hf' => hx (i + 1) f' (by simpa using hf')) (fun n hn => hw' n (List.mem_append_right _ hn))
  refine ⟨(y, y'), ⟨_, _, ?_, hy, hy'⟩, hwy, hwy'⟩
  show (cs.drop off).take (d.sz + d'.sz) = _
  rw [List.take_add, List.drop_drop]
theorem par_weights {H : Type} {P : Program} {ts : List TypeId} {ds : List (DataW H)} {j : Nat} {t : TypeId} {d : DataW H} (h : (DataW.weightsEach P ts ds).all (· ≤ reachBytes) = true) (ht : ts[j]? = some t) (hd : ds[j]? = some d) :
  ∀ n ∈ d.weights P t, n ≤ reachBytes := fun n hn => of_decide_eq_true (List.all_eq_true.1 h n (DataW.weights_mem_each ht hd n hn))
theorem par_slice {α : Type} {H : Type} {enc : TypeId × Value → H} {P : Program} {W : World} {r : Reach} {b0 : Nat} {t e : TypeId} {d : Kd α} {wf : List α → Prop} {v : Value} {D : DataW H} {ps : List MemPlace}
  (ht : P.underlying t = some (.slice e)) (ho : Opn P t (Kd.slice e d) wf) (hv : Value.okWide P W r b0 t v) (hd : DataW.Trod enc P W 0 (fun _ => true) true t v D ps) (hw : ∀ n ∈ D.weights P t, n ≤ reachBytes) :
  ∃ (A : Option Addr) (l : List α) (c : Nat), v = .slice A l.length c ∧ l.length ≤ c ∧ d.C W A l.length l ∧ wf l := by
 obtain ⟨A, len, cap, rfl⟩ := okWide_slice ht hv
 obtain ⟨fuel, hf⟩ := hd
 obtain ⟨l, ⟨A', c, he, hl, hC⟩, hwl⟩ := ho.2 H enc W fuel _ _ hf hw
 have he' : [Value.slice A len cap] = [.slice A' l.length c] := he
 simp only [List.cons.injEq, Value.slice.injEq, and_true] at he'
 obtain ⟨rfl, rfl, rfl⟩ := he'
 exact ⟨_, l, _, rfl, hl, hC, hwl⟩
end Go.Proofs.YtdpinnhgkocjhaaDoorW.Opens

namespace Go.Proofs.YtdpinnhgkocjhaaDoor.Pr
open Go.RowKit Go.Proofs.YtdpinnhgkocjhaaDoorW.PrintWords Go.Proofs.YtdpinnhgkocjhaaDoorW.PrintLast Go.Proofs.YtdpinnhgkocjhaaDoorW.Opens
set_option linter.unusedVariables false
def wfL5 (l : List Int) : Prop := l.length ≤ maxLen ∧ l.length * 1 ≤ 140737488351232 ∧ ∀ y ∈ l, (Lit.int .u8 y).wf = true
theorem opnL53 : Opn Tryd.prog 53 (Kd.slice 5 (Kd.int .u8)) wfL5 := Opn.slice (0 : Int) (by kernel_rfl) Tryd.underlying53 (by kernel_rfl) (Opn.int (by kernel_rfl) Tryd.underlying5)
def FnCrashRecovery.Pure : Prop := ∀ (x0 : (List Int)), wfL5 x0 → ∃ k, laws_FnCrashRecovery.f k x0 = some true
end Go.Proofs.YtdpinnhgkocjhaaDoor.Pr

namespace Go.Proofs.YtdpinnhgkocjhaaDoor.Pr.Pure
open Go.RowKit Go.Proofs.YtdpinnhgkocjhaaDoorW.PrintWords Go.Proofs.YtdpinnhgkocjhaaDoorW.PrintLast Go.Proofs.YtdpinnhgkocjhaaDoorW.PrintMore  Go.Lib
set_option linter.unusedVariables false
set_option linter.unusedSimpArgs false
theorem w64 {x : Int} (h1 : -9223372036854775808 ≤ x) (h2 : x ≤ 9223372036854775807) : wrap64 x = x := by
 unfold wrap64
 omega
theorem obs {α β : Type} (a : α) (f : α → Option β) : (some a).bind f = f a := id (Option.bind_some a f)
def M (l : List UInt8) : ByteArray := ⟨l.toArray⟩
theorem ex_M (b : ByteArray) : ∃ l, b = M l := ⟨b.data.toList, by unfold M; rw [Array.toArray_toList]⟩
theorem M_size (l : List UInt8) : (M l).size = l.length := by simp [M, ByteArray.size]
theorem M_data (l : List UInt8) : (M l).data.toList = l := by simp [M]
theorem M_inj {a b : List UInt8} : M a = M b ↔ a = b := ⟨fun h => by
 have := congrArg (fun x : ByteArray => x.data.toList) h
 simpa [M] using this, fun h => by rw [h]⟩
theorem M_toList (l : List UInt8) : (M l).toList = l := by rw [ByteArray.toList_eq, M_data]
theorem sc_M (a b : List UInt8) : sc (M a) (M b) = M (a ++ b) := by
 apply ByteArray.ext
 unfold sc M
 rw [ByteArray.data_append]
 simp
theorem sx_M (a : List UInt8) (i j : Nat) : sx (M a) i j = M ((a.drop i).take (j - i)) := by
 apply ByteArray.ext
 unfold sx M
 rw [ByteArray.data_extract]
 simp [List.extract_eq_take_drop]
theorem bt_M (l : List UInt8) (i : Nat) : bt (M l) (i : Int) = ((l.getD i 0).toNat : Int) := by
 have hb := rd_bytesOf (M l) (i : Int)
 rw [← hb]
 unfold rd bytesOf
 rw [M_data, Int.toNat_natCast, List.getD_eq_getElem?_getD, List.getD_eq_getElem?_getD, List.getElem?_map]
 cases l[i]? <;> rfl
theorem drop_at (l : List UInt8) (i : Nat) (h : i < l.length) : l.drop i = l.getD i 0 :: l.drop (i + 1) := by
 rw [List.drop_eq_getElem_cons h, List.getD_eq_getElem?_getD, List.getElem?_eq_getElem h]
 rfl
theorem byte_eq (x : UInt8) (c : Nat) (hc : c < 256) : ((x.toNat : Int) = (c : Int)) ↔ x = UInt8.ofNat c := by
 constructor
 ·
  intro h
  apply UInt8.toNat_inj.1
  rw [UInt8.toNat_ofNat']
  omega
 ·
  rintro rfl
  rw [UInt8.toNat_ofNat']
  omega
theorem byte_rng (x : UInt8) : 0 ≤ (x.toNat : Int) ∧ (x.toNat : Int) ≤ 255 := by
 have := x.toNat_lt
 omega
theorem l1In_eq (a b c : Int) : spec_l1In.f a b c = some (decide (b ≤ a ∧ a ≤ c)) := by
 unfold spec_l1In.f
 by_cases h : b ≤ a
 ·
  rw [if_pos h]; simp [h]
 ·
  rw [if_neg (by omega)]; simp [h]
theorem within_eq (a b c : Int) : impl_within.f a b c = some (decide (b ≤ a ∧ a ≤ c)) := by
 unfold impl_within.f
 by_cases h : b ≤ a
 ·
  rw [if_pos h]; simp [h]
 ·
  rw [if_neg (by omega)]; simp [h]
theorem dec_of {p : Prop} [Decidable p] {b : Bool} (h : b = true ↔ p) : some b = some (decide p) := by
 congr 1
 rw [Bool.eq_iff_iff, h, decide_eq_true_eq]
end Go.Proofs.YtdpinnhgkocjhaaDoor.Pr.Pure

namespace Go.Proofs.YtdpinnhgkocjhaaDoor.Pr.Pure
open Go.RowKit Go.Proofs.YtdpinnhgkocjhaaDoorW.PrintWords Go.Proofs.YtdpinnhgkocjhaaDoorW.PrintLast Go.Proofs.YtdpinnhgkocjhaaDoorW.PrintMore Go.Lib
set_option linter.unusedVariables false
theorem bits255 (x : Int) : 0 ≤ Go.bits .and .u64 x 255 ∧ Go.bits .and .u64 x 255 ≤ 255 := by
 have h : (BitVec.ofInt IntKind.u64.bits x &&& BitVec.ofInt IntKind.u64.bits 255).toNat ≤ 255 := by
  rw [BitVec.toNat_and]
  exact Nat.le_trans Nat.and_le_right (by decide)
 have e : Go.bits .and .u64 x 255 = IntKind.u64.wrap (((BitVec.ofInt IntKind.u64.bits x &&& BitVec.ofInt IntKind.u64.bits 255).toNat : Nat) : Int) := rfl
 rw [e]
 generalize (BitVec.ofInt IntKind.u64.bits x &&& BitVec.ofInt IntKind.u64.bits 255).toNat = n at h
 have e2 : IntKind.u64.wrap (n : Int) = (n : Int) := by
  have : IntKind.u64.wrap (n : Int) = (n : Int) % 18446744073709551616 := rfl
  omega
 rw [e2]
 omega
theorem rdI_mem (l : List Int) {i : Int} (h0 : 0 ≤ i) (h1 : i < l.length) : rd l i ∈ l := by
 unfold rd
 rw [List.getD_eq_getElem?_getD, List.getElem?_eq_getElem (by omega)]
 exact List.getElem_mem _
theorem rdB_mem (l : List ByteArray) {i : Int} (h0 : 0 ≤ i) (h1 : i < l.length) : rdOf ByteArray.empty l i ∈ l := by
 unfold rdOf
 rw [List.getD_eq_getElem?_getD, List.getElem?_eq_getElem (by omega)]
 exact List.getElem_mem _
theorem next_ok {c : List Int} (hc : ∀ x, x ∈ c → 0 ≤ x ∧ x ≤ 255) {p : Int} (h0 : 0 ≤ p) (h1 : p ≤ 1000000000) (s : Int) :
  ∃ r q, spec_l1Cur_next.f c p s = some (r, p + 1, q) ∧ 0 ≤ r ∧ r ≤ 255 := by
 have hw : wrap64 (p + 1) = p + 1 := w64 (by omega) (by omega)
 unfold spec_l1Cur_next.f
 rw [hw]
 by_cases a : p < (c.length : Int)
 ·
  have hb := hc _ (rdI_mem c h0 a)
  have hv : wrap64 (rd c p) = rd c p := w64 (by omega) (by omega)
  rw [if_pos a, if_pos h0]
  by_cases b : p + 1 ≤ (c.length : Int)
  ·
   rw [if_pos b, hv]
   exact ⟨_, _, rfl, hb.1, hb.2⟩
  ·
   rw [if_neg b]
   refine ⟨_, _, rfl, ?_⟩
   rw [w64 (by have := bits255; exact Int.le_trans (by decide) (this _).1) (Int.le_trans (bits255 _).2 (by decide))]
   exact bits255 _
 ·
  rw [if_neg a]
  by_cases b : p + 1 ≤ (c.length : Int)
  ·
   rw [if_pos b]
   exact ⟨_, _, rfl, by decide, by decide⟩
  ·
   rw [if_neg b]
   refine ⟨_, _, rfl, ?_⟩
   rw [w64 (by have := bits255; exact Int.le_trans (by decide) (this _).1) (Int.le_trans (bits255 _).2 (by decide))]
   exact bits255 _
theorem tmod_lt {a n : Int} (h : 0 ≤ a) (hn : 0 < n) : 0 ≤ Int.tmod a n ∧ Int.tmod a n < n :=
 ⟨Int.tmod_nonneg _ h, Int.tmod_lt_of_pos _ hn⟩
theorem pick_ok {c : List Int} (hc : ∀ x, x ∈ c → 0 ≤ x ∧ x ≤ 255) {p : Int} (h0 : 0 ≤ p) (h1 : p ≤ 900000000) (s : Int) {n : Int} (hn : 0 < n) :
  ∃ r p1 q, spec_l1Cur_pick.f c p s n = some (r, p1, q) ∧ (0 ≤ r ∧ r < n) ∧ p ≤ p1 ∧ p1 ≤ p + 2 := by
 unfold spec_l1Cur_pick.f
 by_cases a : n ≤ 1
 ·
  rw [if_pos a]
  exact ⟨0, p, s, rfl, ⟨by decide, hn⟩, by omega, by omega⟩
 ·
  obtain ⟨r, q, e, b1, b2⟩ := next_ok hc h0 (by omega) s
  have n0 : ¬ n = 0 := by omega
  rw [if_neg a, e, obs]
  by_cases d : n > 200
  ·
   obtain ⟨r2, q2, e2, d1, d2⟩ := next_ok hc (p := p + 1) (by omega) (by omega) q
   rw [if_pos d, e2, obs, if_neg n0]
   have hw : wrap64 (wrap64 (r * 256) + r2) = r * 256 + r2 := by
    rw [w64 (x := r * 256) (by omega) (by omega), w64 (by omega) (by omega)]
   refine ⟨_, p + 1 + 1, q2, rfl, ?_, by omega, by omega⟩
   simp only
   rw [hw]
   exact tmod_lt (by omega) hn
  ·
   rw [if_neg d, if_neg n0]
   exact ⟨_, p + 1, q, rfl, tmod_lt b1 hn, by omega, by omega⟩
theorem one_ok {c : List Int} (hc : ∀ x, x ∈ c → 0 ≤ x ∧ x ≤ 255) {p : Int} (h0 : 0 ≤ p) (h1 : p ≤ 900000000) (s : Int) {n : Int} (hn : 0 < n) :
  ∃ b p1 q, spec_l1Cur_one.f c p s n = some (b, p1, q) ∧ p ≤ p1 ∧ p1 ≤ p + 2 := by
 obtain ⟨r, p1, q, e, _, a1, a2⟩ := pick_ok hc h0 h1 s hn
 unfold spec_l1Cur_one.f
 rw [e, obs]
 exact ⟨_, p1, q, rfl, a1, a2⟩
theorem of_ok {c : List Int} (hc : ∀ x, x ∈ c → 0 ≤ x ∧ x ≤ 255) {p : Int} (h0 : 0 ≤ p) (h1 : p ≤ 900000000) (s : Int) {l : List ByteArray} (hl : 0 < l.length) :
  ∃ r p1 q, spec_l1Cur_of.f c p s l = some (r, p1, q) ∧ r ∈ l ∧ p ≤ p1 ∧ p1 ≤ p + 2 := by
 obtain ⟨r, p1, q, e, b, a1, a2⟩ := pick_ok hc h0 h1 s (n := (l.length : Int)) (by omega)
 unfold spec_l1Cur_of.f
 rw [e, obs, if_pos b.1, if_pos b.2]
 exact ⟨_, p1, q, rfl, rdB_mem l b.1 b.2, a1, a2⟩
end Go.Proofs.YtdpinnhgkocjhaaDoor.Pr.Pure

namespace Go.Proofs.YtdpinnhgkocjhaaDoor.Pr
open Go.RowKit Go.Proofs.YtdpinnhgkocjhaaDoorW.PrintWords Go.Proofs.YtdpinnhgkocjhaaDoorW.PrintLast Go.Proofs.YtdpinnhgkocjhaaDoorW.PrintMore
attribute [local go_sem] max2_int min2_int max_two min_two max_three min_three max_four min_four sc_in sx_in   -- for this text's walks alone
set_option linter.unusedVariables false
set_option linter.unusedSimpArgs false
def spec_RecoverLog.f (k : Nat) (a0 : ByteArray) : Option (ByteArray × ByteArray × Int × Int × Bool) := if (a0.size : Int) > 30000 then (some ((⟨#[]⟩ : ByteArray), (⟨#[]⟩ : ByteArray), 0, 0, false)) else ((spec_l27Open.f k a0).bind fun bt208 => (if 0 ≤ bt208.2 then (if bt208.2 ≤ (a0.size : Int) then (some (sx a0 (0) ((bt208.2 : Int).toNat), (⟨#[]⟩ : ByteArray), (bt208.1.length : Int), bt208.2, true)) else (none)) else (none)))
end Go.Proofs.YtdpinnhgkocjhaaDoor.Pr

namespace Go.Proofs.YtdpinnhgkocjhaaDoor.Pr
open Go.RowKit Go.Proofs.YtdpinnhgkocjhaaDoorW.PrintWords Go.Proofs.YtdpinnhgkocjhaaDoorW.PrintLast Go.Proofs.YtdpinnhgkocjhaaDoorW.PrintMore
attribute [local go_sem] max2_int min2_int max_two min_two max_three min_three max_four min_four   -- for this text's walks alone
set_option linter.unusedVariables false
set_option linter.unusedSimpArgs false
def spec_IsValidLog.f (k : Nat) (a0_0 : ByteArray) (a0_1 : ByteArray) (a0_2 : Int) : Option (Bool) := (spec_l27Log.f k a0_0 a0_1 a0_2).bind fun t281 => (some t281)
end Go.Proofs.YtdpinnhgkocjhaaDoor.Pr

namespace Go.Proofs.YtdpinnhgkocjhaaDoor.Pr
open Go.RowKit Go.Proofs.YtdpinnhgkocjhaaDoorW.PrintWords Go.Proofs.YtdpinnhgkocjhaaDoorW.PrintLast Go.Proofs.YtdpinnhgkocjhaaDoorW.PrintMore
attribute [local go_sem] max2_int min2_int max_two min_two max_three min_three max_four min_four sc_in sx_in   -- for this text's walks alone
set_option linter.unusedVariables false
set_option linter.unusedSimpArgs false
def impl_SyncLog.f (k : Nat) (a0_0 : ByteArray) (a0_1 : ByteArray) (a0_2 : Int) : Option (ByteArray × ByteArray × Int × Bool) := (impl_IsValidLog.f k a0_0 a0_1 a0_2).bind fun t329 => (if t329 = true then (if a0_0.size + a0_1.size ≤ 9223372036854775807 then (some (sc a0_0 a0_1, (⟨#[]⟩ : ByteArray), a0_2, true)) else (none)) else (some ((⟨#[]⟩ : ByteArray), (⟨#[]⟩ : ByteArray), 0, false)))
def impl_AppendRecord.j0 : Nat → Bool → ByteArray → ByteArray → Int → ByteArray → ByteArray → Option (ByteArray × ByteArray × Int × Int)
 | 0, _, _, _, _, _, _ => none
 | k + 1, x6, x356000, x356001, x356002, x357000, x357001 => if x6 = true then (some (x356000, x356001, x356002, 1)) else (if x356002 = 60 then (some (x356000, x356001, x356002, 2)) else ((impl_encode.f k x356002 x357000 x357001).bind fun t360 => (if x356001.size + t360.size ≤ 9223372036854775807 then (some (x356000, sc x356001 t360, wrap64 (x356002 + 1), 0)) else (none))))
def impl_AppendRecord.f (k : Nat) (a0_0 : ByteArray) (a0_1 : ByteArray) (a0_2 : Int) (a1_0 : ByteArray) (a1_1 : ByteArray) : Option (ByteArray × ByteArray × Int × Int) := (impl_IsValidLog.f k a0_0 a0_1 a0_2).bind fun t358 => (if t358 = true then ((impl_IsValidRecord.f k a1_0 a1_1).bind fun t359 => (impl_AppendRecord.j0 k (!t359) a0_0 a0_1 a0_2 a1_0 a1_1)) else (impl_AppendRecord.j0 k true a0_0 a0_1 a0_2 a1_0 a1_1))
end Go.Proofs.YtdpinnhgkocjhaaDoor.Pr

namespace Go.Proofs.YtdpinnhgkocjhaaDoor.Log
open Go.Lib
set_option linter.unusedVariables false
theorem digit_mem (u : Nat) : ∀ b ∈ decDigits u, 48 ≤ b.toNat ∧ b.toNat ≤ 57 := by
 induction u using Nat.strongRecOn with
 | _ u ih =>
  intro b hb
  by_cases h : u < 10
  ·
   rw [decDigits, dif_pos h] at hb
   obtain rfl := List.mem_singleton.1 hb
   simp
   omega
  ·
   rw [decDigits, dif_neg h] at hb
   rcases List.mem_append.1 hb with hb | hb
   ·
    exact ih _ (by omega) b hb
   ·
    obtain rfl := List.mem_singleton.1 hb
    simp
    omega
theorem digits_len_aux (j : Nat) : ∀ u : Nat, u < 10 ^ (j + 1) → (decDigits u).length ≤ j + 1 := by
 induction j with
 | zero =>
  intro u h
  rw [decDigits, dif_pos (by omega)]
  simp
 | succ j ih =>
  intro u h
  by_cases h1 : u < 10
  ·
   rw [decDigits, dif_pos h1]
   simp
  ·
   rw [decDigits, dif_neg h1]
   have : u / 10 < 10 ^ (j + 1) := by
    rw [Nat.pow_succ] at h
    omega
   have := ih _ this
   simp
   omega
abbrev B := List UInt8
def upto (c : UInt8) : B → B
 | [] => []
 | x :: l => if x = c then [] else x :: upto c l
def after (c : UInt8) : B → B
 | [] => []
 | x :: l => if x = c then l else after c l
theorem upto_app {c : UInt8} : ∀ {l : B} (r : B), c ∉ l → upto c (l ++ c :: r) = l
 | [], r, _ => by simp [upto]
 | x :: l, r, h => by
  have h1 : x ≠ c := fun e => h (by simp [e])
  have h2 : c ∉ l := fun e => h (by simp [e])
  simp [upto, h1, upto_app r h2]
theorem after_app {c : UInt8} : ∀ {l : B} (r : B), c ∉ l → after c (l ++ c :: r) = r
 | [], r, _ => by simp [after]
 | x :: l, r, h => by
  have h1 : x ≠ c := fun e => h (by simp [e])
  have h2 : c ∉ l := fun e => h (by simp [e])
  simp [after, h1, after_app r h2]
theorem upto_none {c : UInt8} : ∀ {l : B}, c ∉ l → upto c l = l
 | [], _ => rfl
 | x :: l, h => by
  have h1 : x ≠ c := fun e => h (by simp [e])
  have h2 : c ∉ l := fun e => h (by simp [e])
  simp [upto, h1, upto_none h2]
theorem after_none {c : UInt8} : ∀ {l : B}, c ∉ l → after c l = []
 | [], _ => rfl
 | x :: l, h => by
  have h1 : x ≠ c := fun e => h (by simp [e])
  have h2 : c ∉ l := fun e => h (by simp [e])
  simp [after, h1, after_none h2]
theorem cut_at {c : UInt8} : ∀ {l : B}, c ∈ l → l = upto c l ++ c :: after c l
 | [], h => by simp at h
 | x :: l, h => by
  by_cases e : x = c
  ·
   simp [upto, after, e]
  ·
   have h2 : c ∈ l := by
    rcases List.mem_cons.1 h with h | h
    ·
     exact absurd h.symm e
    ·
     exact h
   have := cut_at h2
   simp only [upto, after, e, if_false, List.cons_append]
   rw [← this]
theorem upto_len {c : UInt8} : ∀ (l : B), (upto c l).length ≤ l.length
 | [] => by simp [upto]
 | x :: l => by
  by_cases e : x = c
  ·
   simp [upto, e]
  ·
   simp only [upto, e, if_false, List.length_cons]
   have := upto_len (c := c) l
   omega
theorem upto_lt {c : UInt8} {l : B} (h : c ∈ l) : (upto c l).length < l.length := by
 have := congrArg List.length (cut_at h)
 simp at this
 omega
theorem upto_take (c : UInt8) : ∀ (l : B), upto c l = l.take (upto c l).length
 | [] => by simp [upto]
 | x :: l => by
  by_cases e : x = c
  ·
   simp [upto, e]
  ·
   simp only [upto, e, if_false, List.length_cons, List.take_succ_cons]
   rw [← upto_take c l]
theorem after_drop (c : UInt8) {l : B} (h : c ∈ l) : after c l = l.drop ((upto c l).length + 1) := by
 have e := cut_at h
 generalize upto c l = u at e ⊢
 generalize after c l = v at e ⊢
 subst e
 simp
theorem index_some {c : UInt8} : ∀ {l : B}, c ∈ l → indexByte l c = ((upto c l).length : Int)
 | [], h => by simp at h
 | x :: l, h => by
  by_cases e : x = c
  ·
   simp [upto, e, indexByte]
  ·
   have h2 : c ∈ l := by
    rcases List.mem_cons.1 h with h | h
    ·
     exact absurd h.symm e
    ·
     exact h
   have ih := index_some h2
   have hb : (x == c) = false := by simpa using e
   have hn : (indexByte l c == -1) = false := by
    rw [ih, beq_eq_false_iff_ne]
    omega
   simp only [indexByte, hb, hn, upto, e, if_false, List.length_cons, Bool.false_eq_true]
   rw [ih]
   omega
theorem index_none {c : UInt8} : ∀ {l : B}, c ∉ l → indexByte l c = -1
 | [], _ => rfl
 | x :: l, h => by
  have h1 : x ≠ c := fun e => h (by simp [e])
  have h2 : c ∉ l := fun e => h (by simp [e])
  have hb : (x == c) = false := by simpa using h1
  simp [indexByte, hb, index_none h2]
def sum (l : B) : Nat := l.foldl (fun n b => (41 * n + b.toNat + 1) % 999979) 7
theorem sum_fold_lt (l : B) : ∀ n, n < 999979 → l.foldl (fun n b => (41 * n + b.toNat + 1) % 999979) n < 999979 := by
 induction l with
 | nil => intro n h; exact h
 | cons x l ih => intro n h; exact ih _ (Nat.mod_lt _ (by omega))
theorem sum_lt (l : B) : sum l < 999979 := sum_fold_lt l 7 (by omega)
def Plain (l : B) : Prop := ∀ b ∈ l, 32 ≤ b.toNat ∧ b.toNat ≤ 126 ∧ b ≠ 35
instance (l : B) : Decidable (Plain l) := inferInstanceAs (Decidable (∀ b ∈ l, 32 ≤ b.toNat ∧ b.toNat ≤ 126 ∧ b ≠ 35))
def Ok (c r : B) : Prop := 1 ≤ c.length ∧ c.length ≤ 160 ∧ Plain c ∧ (64 : UInt8) ∉ c ∧ r.length ≤ 200 ∧ Plain r
instance (c r : B) : Decidable (Ok c r) := inferInstanceAs (Decidable (_ ∧ _))
def body (k : Nat) (c r : B) : B := decDigits k ++ 32 :: (c ++ 64 :: r)
def line (k : Nat) (c r : B) : B := body k c r ++ 35 :: decDigits (sum (body k c r))
def enc (k : Nat) (c r : B) : B := line k c r ++ [10]
theorem body_no {k : Nat} {c r : B} (h : Ok c r) (x : UInt8) (hx : x = 10 ∨ x = 35) : x ∉ body k c r := by
 intro hm
 rcases List.mem_append.1 hm with hm | hm
 ·
  have := digit_mem k x hm
  rcases hx with rfl | rfl
  ·
   exact absurd this.1 (by decide)
  ·
   exact absurd this.1 (by decide)
 ·
  rcases List.mem_cons.1 hm with hm | hm
  ·
   rcases hx with rfl | rfl <;> exact absurd hm (by decide)
  ·
   rcases List.mem_append.1 hm with hm | hm
   ·
    have := h.2.2.1 x hm
    rcases hx with rfl | rfl
    ·
     exact absurd this.1 (by decide)
    ·
     exact this.2.2 rfl
   ·
    rcases List.mem_cons.1 hm with hm | hm
    ·
     rcases hx with rfl | rfl <;> exact absurd hm (by decide)
    ·
     have := h.2.2.2.2.2 x hm
     rcases hx with rfl | rfl
     ·
      exact absurd this.1 (by decide)
     ·
      exact this.2.2 rfl
theorem line_no {k : Nat} {c r : B} (h : Ok c r) : (10 : UInt8) ∉ line k c r := by
 intro hm
 rcases List.mem_append.1 hm with hm | hm
 ·
  exact body_no h 10 (.inl rfl) hm
 ·
  rcases List.mem_cons.1 hm with hm | hm
  ·
   exact absurd hm (by decide)
  ·
   exact absurd (digit_mem _ _ hm).1 (by decide)
theorem dig_no (k : Nat) (x : UInt8) (h : x.toNat < 48) : x ∉ decDigits k := fun hm => by
 have := (digit_mem _ _ hm).1
 omega
theorem line_text {k : Nat} {c r : B} (h : Ok c r) : upto 35 (line k c r) = body k c r := upto_app _ (body_no h 35 (.inr rfl))
theorem body_rest {k : Nat} {c r : B} : after 32 (body k c r) = c ++ 64 :: r := after_app _ (dig_no k 32 (by decide))
theorem rest_cmd {c r : B} (h : Ok c r) : upto 64 (c ++ 64 :: r) = c := upto_app _ h.2.2.2.1
theorem rest_rep {c r : B} (h : Ok c r) : after 64 (c ++ 64 :: r) = r := after_app _ h.2.2.2.1
theorem body_len (k : Nat) (c r : B) : (body k c r).length = (decDigits k).length + 2 + c.length + r.length := by
 simp [body]
 omega
theorem enc_len {k : Nat} {c r : B} (hk : k < 60) (h : Ok c r) : (enc k c r).length ≤ 372 ∧ 1 ≤ (enc k c r).length := by
 have h1 := digits_len_aux 1 k (by omega)
 have h2 := digits_len_aux 5 (sum (body k c r)) (by have := sum_lt (body k c r); omega)
 have h3 := h.2.1
 have h4 := h.2.2.2.2.1
 have := body_len k c r
 simp only [enc, line, List.length_append, List.length_cons, List.length_nil]
 omega
def dec (k : Nat) (s : B) : Option (B × B × Nat) :=
 if (10 : UInt8) ∈ s ∧ k < 60 ∧ Ok (upto 64 (after 32 (upto 35 (upto 10 s)))) (after 64 (after 32 (upto 35 (upto 10 s)))) ∧
   enc k (upto 64 (after 32 (upto 35 (upto 10 s)))) (after 64 (after 32 (upto 35 (upto 10 s)))) = upto 10 s ++ [10]
 then some (upto 64 (after 32 (upto 35 (upto 10 s))), after 64 (after 32 (upto 35 (upto 10 s))), (upto 10 s).length + 1) else none
theorem dec_some {k : Nat} {s c r : B} {n : Nat} : dec k s = some (c, r, n) ↔ k < 60 ∧ Ok c r ∧ enc k c r <+: s ∧ n = (enc k c r).length := by
 unfold dec
 constructor
 ·
  intro h
  split at h
  ·
   rename_i hc
   obtain ⟨h1, h2, h3, h4⟩ := hc
   simp only [Option.some.injEq, Prod.mk.injEq] at h
   obtain ⟨rfl, rfl, rfl⟩ := h
   refine ⟨h2, h3, ?_, ?_⟩
   ·
    rw [h4]
    refine ⟨after 10 s, ?_⟩
    rw [List.append_assoc, List.singleton_append, ← cut_at h1]
   ·
    rw [h4]
    simp
  ·
   cases h
 ·
  rintro ⟨h1, h2, ⟨t, ht⟩, rfl⟩
  have e : s = line k c r ++ 10 :: t := by rw [← ht]; simp [enc]
  have hu : upto 10 s = line k c r := by rw [e]; exact upto_app _ (line_no h2)
  have hm : (10 : UInt8) ∈ s := by rw [e]; simp
  rw [hu, line_text h2, body_rest, rest_cmd h2, rest_rep h2, if_pos ⟨hm, h1, h2, rfl⟩]
  simp [enc]
theorem dec_le {k : Nat} {s c r : B} {n : Nat} (h : dec k s = some (c, r, n)) : n ≤ s.length ∧ 1 ≤ n ∧ n ≤ 372 := by
 obtain ⟨h1, h2, h3, rfl⟩ := dec_some.1 h
 have := enc_len h1 h2
 exact ⟨h3.length_le, this.2, this.1⟩
theorem dec_app {k : Nat} {s : B} {x : B × B × Nat} (t : B) (h : dec k s = some x) : dec k (s ++ t) = some x := by
 obtain ⟨c, r, n⟩ := x
 obtain ⟨h1, h2, h3, h4⟩ := dec_some.1 h
 exact dec_some.2 ⟨h1, h2, h3.trans (List.prefix_append _ _), h4⟩
theorem dec_prefix {k : Nat} {s t : B} {x : B × B × Nat} (hp : s <+: t) (h : dec k s = some x) : dec k t = some x := by
 obtain ⟨u, rfl⟩ := hp
 exact dec_app u h
theorem dec_cut {k : Nat} {s : B} {x : B × B × Nat} {m : Nat} (h : dec k s = some x) (hm : x.2.2 ≤ m) : dec k (s.take m) = some x := by
 obtain ⟨c, r, n⟩ := x
 obtain ⟨h1, h2, h3, rfl⟩ := dec_some.1 h
 exact dec_some.2 ⟨h1, h2, List.prefix_take_iff.2 ⟨h3, hm⟩, rfl⟩
theorem dec_nil (k : Nat) : dec k [] = none := by simp [dec]
def all : Nat → Nat → B → List (B × B × Nat)
 | 0, _, _ => []
 | m + 1, k, s => match dec k s with
  | none => []
  | some x => x :: all m (k + 1) (s.drop x.2.2)
def tot (l : List (B × B × Nat)) : Nat := (l.map (·.2.2)).sum
theorem all_nil (m k : Nat) : all m k [] = [] := by
 cases m with
 | zero => rfl
 | succ m => simp [all, dec_nil]
theorem all_none {m k : Nat} {s : B} (h : dec k s = none) : all m k s = [] := by
 cases m with
 | zero => rfl
 | succ m => simp [all, h]
theorem all_some {m k : Nat} {s : B} {x : B × B × Nat} (h : dec k s = some x) : all (m + 1) k s = x :: all m (k + 1) (s.drop x.2.2) := by simp [all, h]
theorem tot_cons (x : B × B × Nat) (l : List (B × B × Nat)) : tot (x :: l) = x.2.2 + tot l := by simp [tot]
theorem tot_app (l r : List (B × B × Nat)) : tot (l ++ r) = tot l + tot r := by simp [tot]
theorem all_len (m : Nat) : ∀ (k : Nat) (s : B), (all m k s).length ≤ m := by
 induction m with
 | zero => intro k s; simp [all]
 | succ m ih =>
  intro k s
  cases h : dec k s with
  | none => rw [all_none h]; simp
  | some x => rw [all_some h]; simp; exact ih _ _
theorem all_tot (m : Nat) : ∀ (k : Nat) (s : B), tot (all m k s) ≤ s.length := by
 induction m with
 | zero => intro k s; simp [all, tot]
 | succ m ih =>
  intro k s
  cases h : dec k s with
  | none => rw [all_none h]; simp [tot]
  | some x =>
   obtain ⟨c, r, n⟩ := x
   have h1 := (dec_le h).1
   have := ih (k + 1) (s.drop n)
   rw [all_some h, tot_cons]
   rw [List.length_drop] at this
   simp only
   omega
theorem all_tot372 (m : Nat) : ∀ (k : Nat) (s : B), tot (all m k s) ≤ 372 * m := by
 induction m with
 | zero => intro k s; simp [all, tot]
 | succ m ih =>
  intro k s
  cases h : dec k s with
  | none => rw [all_none h]; simp [tot]
  | some x =>
   obtain ⟨c, r, n⟩ := x
   have h1 := (dec_le h).2.2
   have := ih (k + 1) (s.drop n)
   rw [all_some h, tot_cons]
   simp only
   omega
theorem all_app (m : Nat) : ∀ (k : Nat) (s t : B), tot (all m k s) = s.length → all m k (s ++ t) = all m k s ++ all (m - (all m k s).length) (k + (all m k s).length) t := by
 induction m with
 | zero => intro k s t h; simp [all]
 | succ m ih =>
  intro k s t h
  by_cases h0 : s = []
  ·
   subst h0
   simp [all_nil]
  ·
   cases hd : dec k s with
   | none =>
    rw [all_none hd] at h
    exact absurd (List.length_eq_zero_iff.1 h.symm) h0
   | some x =>
    obtain ⟨c, r, n⟩ := x
    have hn := dec_le hd
    rw [all_some hd, tot_cons] at h
    simp only at h
    have hl : tot (all m (k + 1) (s.drop n)) = (s.drop n).length := by
     rw [List.length_drop]
     omega
    have e := ih (k + 1) (s.drop n) t hl
    rw [all_some (dec_app t hd), all_some hd]
    simp only [List.length_cons, List.cons_append]
    rw [List.drop_append_of_le_length hn.1, e]
    congr 3
    ·
     omega
    ·
     omega
theorem ends_iff (m : Nat) : ∀ (k : Nat) (D P : B), (∃ j, j ≤ (all m k (D ++ P)).length ∧ tot ((all m k (D ++ P)).take j) = D.length) ↔ tot (all m k D) = D.length := by
 induction m with
 | zero => intro k D P; simp [all, tot]
 | succ m ih =>
  intro k D P
  by_cases h0 : D = []
  ·
   subst h0
   simp only [List.length_nil, all_nil]
   exact ⟨fun _ => rfl, fun _ => ⟨0, Nat.zero_le _, rfl⟩⟩
  have hD : 0 < D.length := List.length_pos_iff.2 h0
  have none_D : dec k D = none → ¬ tot (all (m + 1) k D) = D.length := fun h e => by
   rw [all_none h] at e
   simp [tot] at e
   omega
  cases hs : dec k (D ++ P) with
  | none =>
   have hd : dec k D = none := by
    cases hd : dec k D with
    | none => rfl
    | some x => rw [dec_app P hd] at hs; cases hs
   rw [all_none hs]
   refine ⟨?_, fun e => absurd e (none_D hd)⟩
   rintro ⟨j, hj, e⟩
   simp [tot] at e
   omega
  | some x =>
   obtain ⟨c, r, n⟩ := x
   have hn := dec_le hs
   rw [all_some hs]
   by_cases hc : n ≤ D.length
   ·
    have hd : dec k D = some (c, r, n) := by
     have := dec_cut (m := D.length) hs hc
     rwa [List.take_left] at this
    rw [all_some hd, tot_cons]
    simp only
    have e := ih (k + 1) (D.drop n) P
    rw [← List.drop_append_of_le_length hc] at e
    constructor
    ·
     rintro ⟨j, hj, h⟩
     cases j with
     | zero => simp [tot] at h; omega
     | succ j =>
      rw [List.take_succ_cons, tot_cons] at h
      simp only at h
      have := e.1 ⟨j, by simpa using hj, by rw [List.length_drop]; omega⟩
      rw [List.length_drop] at this
      omega
    ·
     intro h
     obtain ⟨j, hj, h'⟩ := e.2 (by rw [List.length_drop]; omega)
     rw [List.length_drop] at h'
     refine ⟨j + 1, by simpa using hj, ?_⟩
     rw [List.take_succ_cons, tot_cons]
     simp only
     omega
   ·
    have hd : dec k D = none := by
     cases hd : dec k D with
     | none => rfl
     | some x =>
      obtain ⟨c', r', n'⟩ := x
      rw [dec_app P hd] at hs
      have := dec_le hd
      simp only [Option.some.injEq, Prod.mk.injEq] at hs
      omega
    refine ⟨?_, fun e => absurd e (none_D hd)⟩
    rintro ⟨j, hj, h⟩
    cases j with
    | zero => simp [tot] at h; omega
    | succ j =>
     rw [List.take_succ_cons, tot_cons] at h
     simp only at h
     omega
end Go.Proofs.YtdpinnhgkocjhaaDoor.Log

namespace Go.Proofs.YtdpinnhgkocjhaaDoor.Pr.Pure
open Go.RowKit Go.Proofs.YtdpinnhgkocjhaaDoorW.PrintWords Go.Proofs.YtdpinnhgkocjhaaDoorW.PrintLast Go.Proofs.YtdpinnhgkocjhaaDoorW.PrintMore Go.Proofs.YtdpinnhgkocjhaaDoor.Log Go.Lib
set_option linter.unusedVariables false
set_option linter.unusedSimpArgs false
theorem plain_nil : Plain [] := fun b h => by simp at h
theorem plain_cons (x : UInt8) (l : List UInt8) : Plain (x :: l) ↔ (32 ≤ x.toNat ∧ x.toNat ≤ 126 ∧ x ≠ 35) ∧ Plain l := by simp [Plain]
theorem isPlain_l0 (l : List UInt8) (hl : l.length ≤ 4611686018427387904) (d : Nat) : ∀ (k i : Nat), i + d = l.length → d < k → impl_isPlain.l0 k (M l) l.length i = some (decide (Plain (l.drop i))) := by
 induction d with
 | zero =>
  intro k i hd hk
  obtain ⟨k, rfl⟩ : ∃ m, k = m + 1 := ⟨k - 1, by omega⟩
  simp only [impl_isPlain.l0]
  rw [if_neg (by omega), List.drop_of_length_le (by omega)]
  simp [plain_nil]
 | succ d ih =>
  intro k i hd hk
  obtain ⟨k, rfl⟩ : ∃ m, k = m + 1 := ⟨k - 1, by omega⟩
  simp only [impl_isPlain.l0]
  rw [if_pos (by omega), if_pos (by omega), if_pos (by rw [M_size]; omega), bt_M, drop_at l i (by omega)]
  generalize l.getD i 0 = x
  have hx := byte_rng x
  rw [w64 (by omega) (by omega), w64 (by omega) (by omega), within_eq]
  simp only [Option.bind_some, decide_eq_true_eq]
  have ih' := ih k (i + 1) (by omega) (by omega)
  rw [show ((i + 1 : Nat) : Int) = (i : Int) + 1 by omega] at ih'
  by_cases h1 : (32 : Int) ≤ x.toNat ∧ (x.toNat : Int) ≤ 126
  ·
   rw [if_pos h1]
   by_cases h2 : (x.toNat : Int) = 35
   ·
    rw [if_pos h2]
    have : x = 35 := (byte_eq x 35 (by omega)).1 h2
    subst this
    simp [plain_cons]
   ·
    rw [if_neg h2, ih']
    have h3 : x ≠ 35 := fun e => h2 (by rw [e]; rfl)
    have : (Plain (x :: l.drop (i + 1)) ↔ Plain (l.drop (i + 1))) := by
     rw [plain_cons]
     exact ⟨fun h => h.2, fun h => ⟨⟨by omega, by omega, h3⟩, h⟩⟩
    simp [this]
  ·
   rw [if_neg h1]
   have : ¬ Plain (x :: l.drop (i + 1)) := by
    rw [plain_cons]
    rintro ⟨⟨a, b, _⟩, _⟩
    exact h1 ⟨by omega, by omega⟩
   simp [this]
theorem isPlain_eq (l : List UInt8) (hl : l.length ≤ 4611686018427387904) {k : Nat} (hk : l.length < k) : impl_isPlain.f k (M l) = some (decide (Plain l)) := by
 unfold impl_isPlain.f
 rw [M_size]
 simpa using isPlain_l0 l hl l.length k 0 (by omega) hk
theorem plain_l0 (l : List UInt8) (m : Int) (hl : l.length ≤ 4611686018427387904) (d : Nat) : ∀ (k i : Nat), i + d = l.length → d < k → spec_l27Plain.l0 k (M l) m i = some (decide (Plain (l.drop i) ∧ (l.length : Int) ≤ m)) := by
 induction d with
 | zero =>
  intro k i hd hk
  obtain ⟨k, rfl⟩ : ∃ m, k = m + 1 := ⟨k - 1, by omega⟩
  simp only [spec_l27Plain.l0]
  rw [M_size, if_neg (by omega), List.drop_of_length_le (by omega)]
  simp [plain_nil]
 | succ d ih =>
  intro k i hd hk
  obtain ⟨k, rfl⟩ : ∃ m, k = m + 1 := ⟨k - 1, by omega⟩
  simp only [spec_l27Plain.l0]
  rw [M_size, if_pos (by omega), if_pos (by omega), bt_M, drop_at l i (by omega)]
  generalize l.getD i 0 = x
  have hx := byte_rng x
  rw [w64 (by omega) (by omega), w64 (by omega) (by omega), l1In_eq]
  simp only [Option.bind_some, decide_eq_true_eq]
  have ih' := ih k (i + 1) (by omega) (by omega)
  rw [show ((i + 1 : Nat) : Int) = (i : Int) + 1 by omega] at ih'
  by_cases h1 : (32 : Int) ≤ x.toNat ∧ (x.toNat : Int) ≤ 126
  ·
   rw [if_pos h1]
   by_cases h2 : (x.toNat : Int) = 35
   ·
    rw [if_pos h2]
    have : x = 35 := (byte_eq x 35 (by omega)).1 h2
    subst this
    simp [plain_cons]
   ·
    rw [if_neg h2, ih']
    have h3 : x ≠ 35 := fun e => h2 (by rw [e]; rfl)
    have : (Plain (x :: l.drop (i + 1)) ↔ Plain (l.drop (i + 1))) := by
     rw [plain_cons]
     exact ⟨fun h => h.2, fun h => ⟨⟨by omega, by omega, h3⟩, h⟩⟩
    simp [this]
  ·
   rw [if_neg h1]
   have : ¬ Plain (x :: l.drop (i + 1)) := by
    rw [plain_cons]
    rintro ⟨⟨a, b, _⟩, _⟩
    exact h1 ⟨by omega, by omega⟩
   simp [this]
theorem plain_eq (l : List UInt8) (m : Int) (hl : l.length ≤ 4611686018427387904) {k : Nat} (hk : l.length < k) : spec_l27Plain.f k (M l) m = some (decide (Plain l ∧ (l.length : Int) ≤ m)) := by
 unfold spec_l27Plain.f
 simpa using plain_l0 l m hl l.length k 0 (by omega) hk
theorem stands_l0 (l : List UInt8) (c : Nat) (hc : c < 256) (hl : l.length ≤ 4611686018427387904) (d : Nat) : ∀ (k i : Nat), i + d = l.length → d < k → spec_l1Stands.l0 k (M l) c i = some (decide (UInt8.ofNat c ∈ l.drop i)) := by
 induction d with
 | zero =>
  intro k i hd hk
  obtain ⟨k, rfl⟩ : ∃ m, k = m + 1 := ⟨k - 1, by omega⟩
  simp only [spec_l1Stands.l0]
  rw [M_size, if_neg (by omega), List.drop_of_length_le (by omega)]
  simp
 | succ d ih =>
  intro k i hd hk
  obtain ⟨k, rfl⟩ : ∃ m, k = m + 1 := ⟨k - 1, by omega⟩
  simp only [spec_l1Stands.l0]
  rw [M_size, if_pos (by omega), if_pos (by omega), bt_M, drop_at l i (by omega)]
  generalize l.getD i 0 = x
  rw [w64 (by omega) (by omega)]
  have ih' := ih k (i + 1) (by omega) (by omega)
  rw [show ((i + 1 : Nat) : Int) = (i : Int) + 1 by omega] at ih'
  by_cases h1 : (x.toNat : Int) = (c : Int)
  ·
   rw [if_pos h1]
   have : UInt8.ofNat c = x := ((byte_eq x c hc).1 h1).symm
   simp [this]
  ·
   rw [if_neg h1, ih']
   have : ¬ UInt8.ofNat c = x := fun e => h1 ((byte_eq x c hc).2 e.symm)
   simp [this]
theorem stands_eq (l : List UInt8) (c : Nat) (hc : c < 256) (hl : l.length ≤ 4611686018427387904) {k : Nat} (hk : l.length < k) : spec_l1Stands.f k (M l) c = some (decide (UInt8.ofNat c ∈ l)) := by
 unfold spec_l1Stands.f
 simpa using stands_l0 l c hc hl l.length k 0 (by omega) hk
theorem index_eq (l : List UInt8) (c : UInt8) : stringslite_Index.f (M l) (M [c]) = some (indexByte l c) := by
 unfold stringslite_Index.f
 rw [M_size, M_data, M_data]
 rfl
theorem contains_eq (l : List UInt8) (c : UInt8) : strings_Contains.f (M l) (M [c]) = some (decide (c ∈ l)) := by
 unfold strings_Contains.f strings_Index.f
 rw [index_eq]
 simp only [Option.bind_some]
 by_cases h : c ∈ l
 ·
  rw [index_some h]
  simp [h]
 ·
  rw [index_none h]
  simp [h]
theorem isRec_eq (c r : List UInt8) (hc : c.length ≤ 4611686018427387904) (hr : r.length ≤ 4611686018427387904) {k : Nat} (hk : c.length + r.length < k) : impl_IsValidRecord.f k (M c) (M r) = some (decide (Ok c r)) := by
 unfold impl_IsValidRecord.f impl_isCommand.f
 rw [within_eq, isPlain_eq c hc (by omega), isPlain_eq r hr (by omega), M_size, M_size, show (⟨#[64]⟩ : ByteArray) = M [64] from rfl, contains_eq]
 simp only [Option.bind_some, decide_eq_true_eq]
 by_cases h1 : (1 : Int) ≤ c.length ∧ (c.length : Int) ≤ 160
 ·
  rw [if_pos h1]
  have a1 : 1 ≤ c.length := by omega
  have a2 : c.length ≤ 160 := by omega
  by_cases h2 : Plain c
  ·
   rw [if_pos h2]
   simp only [Option.bind_some]
   by_cases h3 : (64 : UInt8) ∈ c
   ·
    rw [if_neg (by simp [h3])]
    exact dec_of ⟨fun h => by simp at h, fun h => absurd h3 h.2.2.2.1⟩
   ·
    rw [if_pos (by simp [h3])]
    by_cases h4 : (r.length : Int) ≤ 200
    ·
     rw [if_pos h4]
     exact dec_of ⟨fun h => ⟨a1, a2, h2, h3, by omega, of_decide_eq_true h⟩, fun h => decide_eq_true h.2.2.2.2.2⟩
    ·
     rw [if_neg h4]
     exact dec_of ⟨fun h => by simp at h, fun h => absurd h.2.2.2.2.1 (by omega)⟩
  ·
   rw [if_neg h2]
   simp only [Option.bind_some]
   rw [if_neg (by simp)]
   exact dec_of ⟨fun h => by simp at h, fun h => absurd h.2.2.1 h2⟩
 ·
  rw [if_neg h1]
  simp only [Option.bind_some]
  rw [if_neg (by simp)]
  exact dec_of ⟨fun h => by simp at h, fun h => absurd (And.intro h.1 h.2.1) (fun h => h1 ⟨by omega, by omega⟩)⟩
theorem good_eq (c r : List UInt8) (hc : c.length ≤ 4611686018427387904) (hr : r.length ≤ 4611686018427387904) {k : Nat} (hk : c.length + r.length < k) : spec_l27Good.f k (M c) (M r) = some (decide (Ok c r)) := by
 unfold spec_l27Good.f
 rw [M_toList, plain_eq c 160 hc (by omega), plain_eq r 200 hr (by omega), show (64 : Int) = ((64 : Nat) : Int) from rfl, stands_eq c 64 (by omega) hc (by omega)]
 simp only [Option.bind_some, decide_eq_true_eq]
 by_cases h1 : c = []
 ·
  rw [if_pos h1]
  exact dec_of ⟨fun h => by simp at h, fun h => absurd h.1 (by simp [h1])⟩
 ·
  rw [if_neg h1]
  have a1 : 1 ≤ c.length := by have := List.length_pos_iff.2 h1; omega
  by_cases h2 : Plain c ∧ (c.length : Int) ≤ 160
  ·
   rw [if_pos h2]
   have a2 : c.length ≤ 160 := by omega
   by_cases h3 : UInt8.ofNat 64 ∈ c
   ·
    rw [if_pos h3]
    exact dec_of ⟨fun h => by simp at h, fun h => absurd h3 h.2.2.2.1⟩
   ·
    rw [if_neg h3]
    refine dec_of ⟨fun h => ?_, fun h => decide_eq_true ⟨h.2.2.2.2.2, by have := h.2.2.2.2.1; omega⟩⟩
    have h := of_decide_eq_true h
    exact ⟨a1, a2, h2.1, h3, by omega, h.1⟩
  ·
   rw [if_neg h2]
   exact dec_of ⟨fun h => by simp at h, fun h => absurd (And.intro h.2.2.1 h.2.1) (fun h => h2 ⟨h.1, by omega⟩)⟩
theorem itoa_nat (n : Nat) : itoa (n : Int) = decDigits n := by
 unfold itoa
 rw [if_neg (by omega), Int.toNat_natCast]
theorem decimal_eq {a : Int} (h0 : -9223372036854775808 ≤ a) (h1 : a ≤ 9223372036854775807) : impl_decimal.f a = some (M (itoa a)) := by
 unfold impl_decimal.f strconv_Itoa_76.f
 rw [if_pos h0, if_pos h1]
 rfl
theorem dig_at (n : Nat) (h : n < 10) : (([48, 49, 50, 51, 52, 53, 54, 55, 56, 57] : List UInt8).drop n).take 1 = [UInt8.ofNat (48 + n)] := by
 match n, h with
 | 0, _ => rfl
 | 1, _ => rfl
 | 2, _ => rfl
 | 3, _ => rfl
 | 4, _ => rfl
 | 5, _ => rfl
 | 6, _ => rfl
 | 7, _ => rfl
 | 8, _ => rfl
 | 9, _ => rfl
theorem num_small (k n : Nat) (h : n < 10) : spec_l1Num.f (k + 1) (n : Int) = some (M (decDigits n)) := by
 rw [spec_l1Num.f, if_neg (by omega), if_pos (by omega), if_pos (by omega), w64 (by omega) (by omega), if_pos (by omega), if_pos (by omega), show (⟨#[48, 49, 50, 51, 52, 53, 54, 55, 56, 57]⟩ : ByteArray) = M [48, 49, 50, 51, 52, 53, 54, 55, 56, 57] from rfl, sx_M, show ((n : Int) + 1).toNat - (n : Int).toNat = 1 by omega, Int.toNat_natCast, dig_at n h, decDigits, dif_pos h]
theorem num_div (n : Nat) (hn : n ≤ 1000000000000000000) : wrap64 (Int.tdiv (n : Int) 10) = ((n / 10 : Nat) : Int) := by
  rw [Int.tdiv_eq_ediv_of_nonneg (by omega)]
  unfold wrap64
  omega
theorem num_mod (n : Nat) : Int.tmod (n : Int) 10 = ((n % 10 : Nat) : Int) := by
  rw [Int.tmod_eq_emod_of_nonneg (by omega)]
  omega
theorem num_app (n : Nat) (h10 : ¬ n < 10) : decDigits n = decDigits (n / 10) ++ [UInt8.ofNat (48 + n % 10)] := by
  conv => lhs; rw [decDigits, dif_neg h10]
theorem num_dig (q : Nat) (hm : q < 10) : sx (⟨#[48, 49, 50, 51, 52, 53, 54, 55, 56, 57]⟩ : ByteArray) ((q : Int).toNat) ((wrap64 ((q : Int) + 1) : Int).toNat) = M [UInt8.ofNat (48 + q)] := by
 rw [w64 (by omega) (by omega), show (⟨#[48, 49, 50, 51, 52, 53, 54, 55, 56, 57]⟩ : ByteArray) = M [48, 49, 50, 51, 52, 53, 54, 55, 56, 57] from rfl, sx_M, show ((q : Int) + 1).toNat - (q : Int).toNat = 1 by omega, Int.toNat_natCast, dig_at q hm]
theorem num_unf (k : Nat) (a0 : Int) (D d : ByteArray) (q : Int) (h : ¬ a0 < 0) (h2 : ¬ a0 < 10) (hq : Int.tmod a0 10 = q) (hb : spec_l1Num.f k (wrap64 (Int.tdiv a0 10)) = some D) (c1 : 0 ≤ q) (c2 : q ≤ wrap64 (q + 1)) (c3 : wrap64 (q + 1) ≤ 10)
  (hd : sx (⟨#[48, 49, 50, 51, 52, 53, 54, 55, 56, 57]⟩ : ByteArray) ((q : Int).toNat) ((wrap64 (q + 1) : Int).toNat) = d) (c4 : D.size + d.size ≤ 9223372036854775807) : spec_l1Num.f (k + 1) a0 = some (sc D d) := by
 subst hd
 subst hq
 rw [spec_l1Num.f, if_neg h, if_neg h2, hb, Option.bind_some, if_pos c1, if_pos c2, if_pos c3, if_pos c4]
theorem num_step (k n : Nat) (h10 : ¬ n < 10) (hn : n ≤ 1000000000000000000) (ih : spec_l1Num.f k ((n / 10 : Nat) : Int) = some (M (decDigits (n / 10)))) (hl : (decDigits (n / 10)).length ≤ 40) : spec_l1Num.f (k + 1) (n : Int) = some (M (decDigits n)) := by
 have hq : n % 10 < 10 := Nat.mod_lt _ (by omega)
 have hw : wrap64 (((n % 10 : Nat) : Int) + 1) = ((n % 10 : Nat) : Int) + 1 := w64 (by omega) (by omega)
 have := num_unf k n (M (decDigits (n / 10))) (M [UInt8.ofNat (48 + n % 10)]) ((n % 10 : Nat) : Int) (by omega) (by omega) (num_mod n) (by rw [num_div n hn]; exact ih) (by omega) (by rw [hw]; omega) (by rw [hw]; omega) (num_dig _ hq) (by rw [M_size, M_size]; simp only [List.length_cons, List.length_nil]; omega)
 rw [this, sc_M, ← num_app n h10]
theorem num_of {n k : Nat} (h : n ≤ 1000000000000000000) (hk : 20 ≤ k) : spec_l1Num.f k (n : Int) = some (M (decDigits n)) := by
 have all : ∀ (j k n : Nat), n ≤ 1000000000000000000 → n < 10 ^ (j + 1) → j ≤ 19 → j < k → spec_l1Num.f k (n : Int) = some (M (decDigits n)) := by
  intro j
  induction j with
  | zero =>
   intro k n h hj h19 hk
   obtain ⟨k, rfl⟩ : ∃ m, k = m + 1 := ⟨k - 1, by omega⟩
   exact num_small k n (by omega)
  | succ j ih =>
   intro k n h hj h19 hk
   obtain ⟨k, rfl⟩ : ∃ m, k = m + 1 := ⟨k - 1, by omega⟩
   by_cases h10 : n < 10
   ·
    exact num_small k n h10
   ·
    have hd : n / 10 < 10 ^ (j + 1) := by
     rw [Nat.pow_succ] at hj
     omega
    exact num_step k n h10 h (ih k (n / 10) (by omega) hd (by omega) (by omega)) (Nat.le_trans (digits_len_aux j (n / 10) hd) (by omega))
 exact all 19 k n h (Nat.lt_of_le_of_lt h (by decide)) (by omega) (by omega)
theorem cut_eq (l : List UInt8) (c : UInt8) (hl : l.length ≤ 4611686018427387904) : strings_Cut.f (M l) (M [c]) = some (M (upto c l), M (after c l), decide (c ∈ l)) := by
 unfold strings_Cut.f stringslite_Cut.f
 rw [index_eq]
 simp only [Option.bind_some]
 by_cases h : c ∈ l
 ·
  have hlt := upto_lt h
  rw [index_some h, M_size, M_size, w64 (by simp; omega) (by simp; omega), if_pos (by omega), if_pos (by omega), if_pos (by omega), if_pos (by first | omega | (simp; done) | (simp; omega)), if_pos (by first | omega | (simp; done) | (simp; omega))]
  simp only [Option.bind_some, sx_M, Option.some.injEq, Prod.mk.injEq, M_inj, h, decide_true, and_true]
  constructor
  ·
   rw [Int.toNat_natCast, List.drop_zero, Nat.sub_zero, ← upto_take]
  ·
   rw [after_drop c h, show (((upto c l).length : Int) + ([c].length : Nat)).toNat = (upto c l).length + 1 by (first | omega | (simp; done) | (simp; omega)), List.take_of_length_le (by first | omega | (simp; done) | (simp; omega))]
 ·
  rw [index_none h, if_neg (by omega)]
  simp only [Option.bind_some, Option.some.injEq, Prod.mk.injEq, h, decide_false, and_true, upto_none h, after_none h, true_and]
  rfl
theorem step_rng (n : Nat) (x : UInt8) (h : n < 999979) : Int.tmod (wrap64 (wrap64 (wrap64 (41 * (n : Int)) + wrap64 (x.toNat : Int)) + 1)) 999979 = (((41 * n + x.toNat + 1) % 999979 : Nat) : Int) := by
 have hx := byte_rng x
 rw [w64 (x := 41 * (n : Int)) (by omega) (by omega), w64 (x := (x.toNat : Int)) (by omega) (by omega), w64 (x := 41 * (n : Int) + x.toNat) (by omega) (by omega), w64 (by omega) (by omega)]
 rw [Int.tmod_eq_emod_of_nonneg (by omega)]
 omega
theorem checksum_l0 (l : List UInt8) (hl : l.length ≤ 4611686018427387904) (d : Nat) : ∀ (k i n : Nat), n < 999979 → i + d = l.length → d < k →
  impl_checksum.l0 k (M l) n l.length i = some (((l.drop i).foldl (fun n b => (41 * n + b.toNat + 1) % 999979) n : Nat) : Int) ∧
  spec_l1Sum.l0 k (M l) n i = some (((l.drop i).foldl (fun n b => (41 * n + b.toNat + 1) % 999979) n : Nat) : Int) := by
 induction d with
 | zero =>
  intro k i n hn hd hk
  obtain ⟨k, rfl⟩ : ∃ m, k = m + 1 := ⟨k - 1, by omega⟩
  simp only [impl_checksum.l0, spec_l1Sum.l0]
  rw [M_size, if_neg (by omega), if_neg (by omega), List.drop_of_length_le (by omega)]
  simp
 | succ d ih =>
  intro k i n hn hd hk
  obtain ⟨k, rfl⟩ : ∃ m, k = m + 1 := ⟨k - 1, by omega⟩
  simp only [impl_checksum.l0, spec_l1Sum.l0]
  rw [M_size, if_pos (by omega), if_pos (by omega), if_pos (by omega), if_pos (by omega), if_pos (by omega), bt_M, drop_at l i (by omega)]
  generalize l.getD i 0 = x
  rw [step_rng n x hn, w64 (x := (i : Int) + 1) (by omega) (by omega)]
  have := ih k (i + 1) ((41 * n + x.toNat + 1) % 999979) (Nat.mod_lt _ (by omega)) (by omega) (by omega)
  rw [show ((i + 1 : Nat) : Int) = (i : Int) + 1 by omega] at this
  exact this
theorem checksum_eq (l : List UInt8) (hl : l.length ≤ 4611686018427387904) {k : Nat} (hk : l.length < k) : impl_checksum.f k (M l) = some ((sum l : Nat) : Int) ∧ spec_l1Sum.f k (M l) = some ((sum l : Nat) : Int) := by
 unfold impl_checksum.f spec_l1Sum.f sum
 rw [M_size]
 simpa using checksum_l0 l hl l.length k 0 7 (by omega) (by omega) hk
theorem encode_eq {a k : Nat} (ha : a ≤ 1000000000000000000) (c r : List UInt8) (hc : c.length ≤ 1152921504606846976) (hr : r.length ≤ 1152921504606846976) (hk : c.length + r.length + 60 < k) : impl_encode.f k a (M c) (M r) = some (M (enc a c r)) := by
 have hd := digits_len_aux 19 a (by omega)
 have hb := body_len a c r
 have hs := sum_lt (body a c r)
 have hd2 := digits_len_aux 5 (sum (body a c r)) (by omega)
 unfold impl_encode.f
 rw [decimal_eq (by omega) (by omega), itoa_nat]
 simp only [Option.bind_some, show (⟨#[32]⟩ : ByteArray) = M [32] from rfl, show (⟨#[64]⟩ : ByteArray) = M [64] from rfl, show (⟨#[35]⟩ : ByteArray) = M [35] from rfl, show (⟨#[10]⟩ : ByteArray) = M [10] from rfl, sc_M, M_size]
 have e : decDigits a ++ [32] ++ c ++ [64] ++ r = body a c r := by simp [body]
 rw [e]
 have hks : (body a c r).length < k := by omega
 rw [(checksum_eq (body a c r) (by omega) hks).1]
 simp only [Option.bind_some]
 rw [decimal_eq (by omega) (by omega), itoa_nat]
 simp only [Option.bind_some, sc_M, M_size]
 rw [if_pos (by omega), if_pos (by simp; omega), if_pos (by simp; omega), if_pos (by simp; omega), if_pos (by omega), if_pos (by simp; omega), if_pos (by simp; omega)]
 simp [enc, line]
theorem line_eq {a k : Nat} (ha : a ≤ 1000000000000000000) (c r : List UInt8) (hc : c.length ≤ 1152921504606846976) (hr : r.length ≤ 1152921504606846976) (hk : c.length + r.length + 60 < k) : spec_l27Line.f k a (M c) (M r) = some (M (enc a c r)) := by
 have hd := digits_len_aux 19 a (by omega)
 have hb := body_len a c r
 have hs := sum_lt (body a c r)
 have hd2 := digits_len_aux 5 (sum (body a c r)) (by omega)
 unfold spec_l27Line.f
 rw [num_of ha (by omega)]
 simp only [Option.bind_some, show (⟨#[32]⟩ : ByteArray) = M [32] from rfl, show (⟨#[64]⟩ : ByteArray) = M [64] from rfl, show (⟨#[10]⟩ : ByteArray) = M [10] from rfl, sc_M, M_size]
 have e : decDigits a ++ [32] ++ c ++ [64] ++ r = body a c r := by simp [body]
 rw [e]
 have hks : (body a c r).length < k := by omega
 have hseal : spec_l1Seal.f k (M (body a c r)) = some (M (line a c r)) := by
  unfold spec_l1Seal.f
  rw [(checksum_eq (body a c r) (by omega) hks).2]
  simp only [Option.bind_some]
  rw [num_of (by omega) (by omega)]
  simp only [Option.bind_some, show (⟨#[35]⟩ : ByteArray) = M [35] from rfl, sc_M, M_size]
  rw [if_pos (by omega), if_pos (by simp; omega)]
  simp [line]
 rw [hseal]
 simp only [Option.bind_some, sc_M, M_size]
 have hll : (line a c r).length = (body a c r).length + 1 + (decDigits (sum (body a c r))).length := by simp [line]; omega
 rw [if_pos (by omega), if_pos (by simp; omega), if_pos (by simp; omega), if_pos (by simp; omega), if_pos (by omega)]
 rfl
def pieces (c : UInt8) : List UInt8 → List (List UInt8)
 | [] => [[]]
 | x :: l => if x = c then [] :: pieces c l else match pieces c l with
  | [] => [[x]]
  | p :: ps => (x :: p) :: ps
theorem pieces_ne (c : UInt8) : ∀ l, ∃ p ps, pieces c l = p :: ps
 | [] => ⟨[], [], rfl⟩
 | x :: l => by
  obtain ⟨p, ps, h⟩ := pieces_ne c l
  by_cases e : x = c
  ·
   exact ⟨_, _, by simp [pieces, e]; exact ⟨rfl, rfl⟩⟩
  ·
   exact ⟨_, _, by simp [pieces, e, h]; exact ⟨rfl, rfl⟩⟩
theorem pieces_len (c : UInt8) : ∀ l, (pieces c l).length ≤ l.length + 1
 | [] => by simp [pieces]
 | x :: l => by
  have := pieces_len c l
  by_cases e : x = c
  ·
   simp [pieces, e]; omega
  ·
   obtain ⟨p, ps, h⟩ := pieces_ne c l
   rw [h] at this
   simp [pieces, e, h] at this ⊢
   omega
theorem pieces_head (c : UInt8) : ∀ l, ∃ ps, pieces c l = upto c l :: ps ∧ (ps ≠ [] ↔ c ∈ l)
 | [] => ⟨[], rfl, by simp⟩
 | x :: l => by
  by_cases e : x = c
  ·
   obtain ⟨p, ps, h⟩ := pieces_ne c l
   refine ⟨pieces c l, by simp [pieces, upto, e], ?_⟩
   rw [h]
   simp [e]
  ·
   obtain ⟨ps, h, h2⟩ := pieces_head c l
   refine ⟨ps, by simp [pieces, upto, e, h], ?_⟩
   rw [h2]
   have : ¬ c = x := fun h => e h.symm
   simp [this]
def glue (p : List UInt8) : List (List UInt8) → List (List UInt8)
 | [] => [p]
 | q :: qs => (p ++ q) :: qs
theorem split_l0 (l : List UInt8) (c : Nat) (hc : c < 256) (hl : l.length ≤ 1099511627776) (d : Nat) : ∀ (k i j : Nat) (acc : List ByteArray), i + d = l.length → j ≤ i → d < k → acc.length + d ≤ 2199023255552 →
  spec_l1Split.l0 k (M l) c acc j i = some (acc ++ (glue ((l.drop j).take (i - j)) (pieces (UInt8.ofNat c) (l.drop i))).map M) := by
 induction d with
 | zero =>
  intro k i j acc hd hj hk ha
  obtain ⟨k, rfl⟩ : ∃ m, k = m + 1 := ⟨k - 1, by omega⟩
  simp only [spec_l1Split.l0]
  rw [M_size, if_neg (by omega), if_pos (by omega), if_pos (by omega), if_pos (by omega), List.drop_of_length_le (i := i) (by omega), sx_M, Int.toNat_natCast]
  simp only [pieces, glue, List.append_nil, List.map_cons, List.map_nil]
  rw [List.take_of_length_le (by simp), List.take_of_length_le (by first | omega | (simp; done) | (simp; omega))]
 | succ d ih =>
  intro k i j acc hd hj hk ha
  obtain ⟨k, rfl⟩ : ∃ m, k = m + 1 := ⟨k - 1, by omega⟩
  simp only [spec_l1Split.l0]
  rw [M_size, if_pos (by omega), if_pos (by omega), bt_M, drop_at l i (by omega)]
  have hx : (l.drop j).take (i + 1 - j) = (l.drop j).take (i - j) ++ [l.getD i 0] := by
   rw [show i + 1 - j = (i - j) + 1 by omega, List.take_add_one, List.getElem?_drop, show j + (i - j) = i by omega, List.getElem?_eq_getElem (by omega), List.getD_eq_getElem?_getD, List.getElem?_eq_getElem (by omega)]
   rfl
  generalize hxx : l.getD i 0 = x at hx ⊢
  rw [w64 (x := (i : Int) + 1) (by omega) (by omega)]
  by_cases h1 : (x.toNat : Int) = (c : Int)
  ·
   have he : x = UInt8.ofNat c := (byte_eq x c hc).1 h1
   rw [if_pos h1, if_pos (by omega), if_pos (by omega), if_pos (by omega), if_pos (by omega), sx_M, Int.toNat_natCast, Int.toNat_natCast]
   have := ih k (i + 1) (i + 1) (acc ++ [M ((l.drop j).take (i - j))]) (by omega) (by omega) (by omega) (by first | omega | (simp; done) | (simp; omega))
   rw [show ((i + 1 : Nat) : Int) = (i : Int) + 1 by omega] at this
   rw [this]
   obtain ⟨p, ps, hp⟩ := pieces_ne (UInt8.ofNat c) (l.drop (i + 1))
   simp [pieces, he, glue, hp]
  ·
   have he : ¬ x = UInt8.ofNat c := fun e => h1 ((byte_eq x c hc).2 e)
   rw [if_neg h1]
   have := ih k (i + 1) j acc (by omega) (by omega) (by omega) (by omega)
   rw [show ((i + 1 : Nat) : Int) = (i : Int) + 1 by omega] at this
   rw [this, hx]
   obtain ⟨p, ps, hp⟩ := pieces_ne (UInt8.ofNat c) (l.drop (i + 1))
   simp [pieces, he, glue, hp]
theorem split_eq (l : List UInt8) (c : Nat) (hc : c < 256) (hl : l.length ≤ 1099511627776) {k : Nat} (hk : l.length < k) : spec_l1Split.f k (M l) c = some ((pieces (UInt8.ofNat c) l).map M) := by
 unfold spec_l1Split.f
 have := split_l0 l c hc hl l.length k 0 0 [] (by omega) (by omega) hk (by first | omega | (simp; done) | (simp; omega))
 obtain ⟨p, ps, hp⟩ := pieces_ne (UInt8.ofNat c) l
 simpa [glue, hp] using this
theorem split_head (l : List UInt8) (c : Nat) (hc : c < 256) (hl : l.length ≤ 1099511627776) {k : Nat} (hk : l.length < k) :
  ∃ ps : List ByteArray, spec_l1Split.f k (M l) c = some (M (upto (UInt8.ofNat c) l) :: ps) ∧ (ps ≠ [] ↔ UInt8.ofNat c ∈ l) ∧ ps.length ≤ l.length := by
 obtain ⟨ps, h1, h2⟩ := pieces_head (UInt8.ofNat c) l
 refine ⟨ps.map M, by rw [split_eq l c hc hl hk, h1]; rfl, by rw [← h2]; simp, ?_⟩
 have := pieces_len (UInt8.ofNat c) l
 rw [h1] at this
 simpa using this
theorem rd_head (a : ByteArray) (ps : List ByteArray) : rdOf ByteArray.empty (a :: ps) 0 = a := rfl
theorem readRecord_eq {k K : Nat} (s : List UInt8) (hs : s.length ≤ 1099511627776) (hk : k ≤ 1000000) (hK : 2 * s.length + 100 < K) :
  impl_readRecord.f K k (M s) = some (match dec k s with | some (c, r, n) => (M c, M r, (n : Int), true) | none => (M [], M [], 0, false)) := by
 have l1 := upto_len (c := 10) s
 have l2 := upto_len (c := 35) (upto 10 s)
 have l3 : ∀ (c : UInt8) (l : List UInt8), (after c l).length ≤ l.length := fun c l => by
  by_cases h : c ∈ l
  ·
   rw [after_drop c h, List.length_drop]; omega
  ·
   rw [after_none h]; simp
 have l4 := l3 32 (upto 35 (upto 10 s))
 have l5 := upto_len (c := 64) (after 32 (upto 35 (upto 10 s)))
 have l6 := l3 64 (after 32 (upto 35 (upto 10 s)))
 unfold impl_readRecord.f
 rw [show (⟨#[10]⟩ : ByteArray) = M [10] from rfl, show (⟨#[35]⟩ : ByteArray) = M [35] from rfl, show (⟨#[32]⟩ : ByteArray) = M [32] from rfl, show (⟨#[64]⟩ : ByteArray) = M [64] from rfl, cut_eq s 10 (by omega)]
 simp only [Option.bind_some]
 rw [cut_eq _ 35 (by omega)]
 simp only [Option.bind_some]
 rw [cut_eq _ 32 (by omega)]
 simp only [Option.bind_some]
 rw [cut_eq _ 64 (by omega)]
 simp only [Option.bind_some]
 unfold dec
 generalize after 32 (upto 35 (upto 10 s)) = rest at l4 l5 l6 ⊢
 by_cases h1 : (10 : UInt8) ∈ s
 ·
  rw [if_pos (by simpa using h1)]
  by_cases h2 : 60 ≤ k
  ·
   rw [if_pos (by omega), if_neg (by omega)]
   rfl
  ·
   rw [if_neg (by omega), isRec_eq _ _ (by omega) (by omega) (by omega)]
   simp only [Option.bind_some, decide_eq_true_eq]
   by_cases h3 : Ok (upto 64 rest) (after 64 rest)
   ·
    rw [if_pos h3, encode_eq (by omega) _ _ (by omega) (by omega) (by omega)]
    simp only [Option.bind_some]
    rw [M_size, if_pos (by omega), sc_M, M_toList, M_toList]
    by_cases h4 : enc k (upto 64 rest) (after 64 rest) = upto 10 s ++ [10]
    ·
     rw [if_pos h4, if_pos ⟨h1, by omega, h3, h4⟩, w64 (by omega) (by omega)]
     simp
    ·
     rw [if_neg h4, if_neg (fun h => h4 h.2.2.2)]
     rfl
   ·
    rw [if_neg h3, if_neg (fun h => h3 h.2.2.1)]
    rfl
 ·
  rw [if_neg (by simpa using h1), if_neg (fun h => h1 h.1)]
  rfl
theorem read_eq {k K : Nat} (s : List UInt8) (hs : s.length ≤ 1099511627776) (hk : k ≤ 1000000) (hK : 4 * s.length + 200 < K) :
  ∃ (c r : List UInt8) (b : Bool), spec_l27Read.f K (M s) k = some (M c, M r, b) ∧ (b = true → Ok c r ∧ enc k c r = s ++ [10]) ∧ (∀ c' r', Ok c' r' → enc k c' r' = s ++ [10] → b = true ∧ c = c' ∧ r = r') := by
 have hd := digits_len_aux 7 k (by omega)
 obtain ⟨ps, hp, _, _⟩ := split_head s 35 (by omega) hs (k := K) (by omega)
 have l1 := upto_len (c := 35) s
 have hline : ∀ c' r', Ok c' r' → enc k c' r' = s ++ [10] → upto 35 s = decDigits k ++ 32 :: (c' ++ 64 :: r') := fun c' r' ho he => by
  have : s = line k c' r' := by
   have := congrArg List.dropLast he
   simpa [enc] using this.symm
  rw [this, line_text ho]
  rfl
 unfold spec_l27Read.f
 rw [num_of (by omega) (by omega)]
 simp only [Option.bind_some]
 rw [M_size, if_pos (by omega), show (35 : Int) = ((35 : Nat) : Int) from rfl, hp]
 simp only [Option.bind_some]
 rw [if_pos (by first | omega | (simp; done) | (simp; omega)), rd_head, show (⟨#[32]⟩ : ByteArray) = M [32] from rfl, sc_M, M_size, M_size, show UInt8.ofNat 35 = 35 from rfl]
 generalize htx : upto 35 s = text at l1 hline ⊢
 have hlen : (decDigits k ++ [32]).length = (decDigits k).length + 1 := by simp
 obtain ⟨K1, rfl⟩ : ∃ m, K = m + 1 := ⟨K - 1, by omega⟩
 have fail : spec_l27Read.j0 (K1 + 1) (M s) k (M (decDigits k ++ [32])) (M text) true = some (M [], M [], false) := by
  simp only [spec_l27Read.j0]
  rfl
 by_cases h1 : text.length < (decDigits k ++ [32]).length
 ·
  rw [if_pos (by omega), fail]
  refine ⟨[], [], false, rfl, by simp, fun c' r' ho he => ?_⟩
  have := hline c' r' ho he
  rw [this] at h1
  simp only [List.length_append, List.length_cons, List.length_nil] at h1
  omega
 ·
  rw [if_neg (by omega), if_pos (by omega), if_pos (by omega), sx_M, M_toList, M_toList, List.drop_zero, Nat.sub_zero]
  by_cases h2 : text.take (decDigits k ++ [32]).length = decDigits k ++ [32]
  ·
   have hb : (List.take (decDigits k ++ [32]).length text != decDigits k ++ [32]) = false := by simpa using h2
   rw [hb]
   simp only [spec_l27Read.j0]
   rw [if_neg (by simp), M_size, M_size, if_pos (by omega), if_pos (by omega), sx_M, List.take_of_length_le (by simp)]
   generalize hrest : text.drop (decDigits k ++ [32]).length = rest
   have hrl : rest.length = text.length - (decDigits k ++ [32]).length := by rw [← hrest, List.length_drop]
   obtain ⟨qs, hq, _, _⟩ := split_head rest 64 (by omega) (by omega) (k := K1) (by omega)
   rw [show (64 : Int) = ((64 : Nat) : Int) from rfl, hq]
   simp only [Option.bind_some]
   rw [if_pos (by first | omega | (simp; done) | (simp; omega)), rd_head, M_size, M_size, show UInt8.ofNat 64 = 64 from rfl]
   have hcr : ∀ c' r', Ok c' r' → enc k c' r' = s ++ [10] → rest = c' ++ 64 :: r' := fun c' r' ho he => by
    rw [← hrest, hline c' r' ho he, show decDigits k ++ 32 :: (c' ++ 64 :: r') = (decDigits k ++ [32]) ++ (c' ++ 64 :: r') by simp]
    exact List.drop_left
   by_cases h3 : (64 : UInt8) ∈ rest
   ·
    have hlt := upto_lt h3
    rw [if_neg (by omega), w64 (by omega) (by omega), if_pos (by omega), if_pos (by omega), sx_M, show (((upto 64 rest).length : Int) + 1).toNat = (upto 64 rest).length + 1 by omega, List.take_of_length_le (by simp), ← after_drop 64 h3]
    have l6 : (after 64 rest).length ≤ rest.length := by rw [after_drop 64 h3, List.length_drop]; omega
    rw [good_eq _ _ (by omega) (by omega) (by omega)]
    simp only [Option.bind_some, decide_eq_true_eq]
    have hun : ∀ c' r', Ok c' r' → enc k c' r' = s ++ [10] → upto 64 rest = c' ∧ after 64 rest = r' := fun c' r' ho he => by
     rw [hcr c' r' ho he, rest_cmd ho, rest_rep ho]
     exact ⟨rfl, rfl⟩
    by_cases h4 : Ok (upto 64 rest) (after 64 rest)
    ·
     rw [if_pos h4, line_eq (by omega) _ _ (by omega) (by omega) (by omega)]
     simp only [Option.bind_some]
     rw [M_size, if_pos (by omega), show (⟨#[10]⟩ : ByteArray) = M [10] from rfl, sc_M, M_toList, M_toList]
     refine ⟨_, _, _, rfl, fun h => ⟨h4, by simpa using h⟩, fun c' r' ho he => ?_⟩
     obtain ⟨e1, e2⟩ := hun c' r' ho he
     refine ⟨?_, e1, e2⟩
     rw [e1, e2, he]
     simp
    ·
     rw [if_neg h4]
     refine ⟨_, _, false, rfl, by simp, fun c' r' ho he => ?_⟩
     obtain ⟨e1, e2⟩ := hun c' r' ho he
     rw [e1, e2] at h4
     exact absurd ho h4
   ·
    rw [upto_none h3, if_pos rfl]
    refine ⟨[], [], false, rfl, by simp, fun c' r' ho he => ?_⟩
    rw [hcr c' r' ho he] at h3
    exact absurd h3 (by simp)
  ·
   have hb : (List.take (decDigits k ++ [32]).length text != decDigits k ++ [32]) = true := by simpa using h2
   rw [hb, fail]
   refine ⟨[], [], false, rfl, by simp, fun c' r' ho he => ?_⟩
   have h5 := hline c' r' ho he
   rw [show decDigits k ++ 32 :: (c' ++ 64 :: r') = (decDigits k ++ [32]) ++ (c' ++ 64 :: r') by simp] at h5
   rw [h5, List.take_left] at h2
   exact absurd rfl h2
theorem dec_iff {k : Nat} {s c r : B} {n : Nat} : dec k s = some (c, r, n) ↔ k < 60 ∧ (10 : UInt8) ∈ s ∧ Ok c r ∧ enc k c r = upto 10 s ++ [10] ∧ n = (upto 10 s).length + 1 := by
 constructor
 ·
  intro h
  unfold dec at h
  split at h
  ·
   rename_i hc
   simp only [Option.some.injEq, Prod.mk.injEq] at h
   obtain ⟨rfl, rfl, rfl⟩ := h
   exact ⟨hc.2.1, hc.1, hc.2.2.1, hc.2.2.2, rfl⟩
  ·
   cases h
 ·
  rintro ⟨h1, h2, h3, h4, rfl⟩
  refine dec_some.2 ⟨h1, h3, ?_, by rw [h4]; simp⟩
  rw [h4]
  refine ⟨after 10 s, ?_⟩
  rw [List.append_assoc, List.singleton_append, ← cut_at h2]
def R27 (x : B × B × Nat) : S27 := ⟨M x.1, M x.2.1⟩
theorem open_l0 (s : List UInt8) (hs : s.length ≤ 1099511627776) (m : Nat) : ∀ (K at_ : Nat) (acc : List S27), acc.length + m = 60 → at_ ≤ s.length → 2 * m + 4 * s.length + 300 < K →
  spec_l27Open.l0 K (M s) acc at_ = some (acc ++ (all m acc.length (s.drop at_)).map R27, ((at_ + tot (all m acc.length (s.drop at_)) : Nat) : Int)) := by
 induction m with
 | zero =>
  intro K at_ acc ha hat hK
  obtain ⟨K, rfl⟩ : ∃ m, K = m + 1 + 1 := ⟨K - 2, by omega⟩
  simp only [spec_l27Open.l0]
  have : decide ((acc.length : Int) < 60) = false := by simp; omega
  rw [this, ite_self]
  simp [spec_l27Open.j1, all, tot]
 | succ m ih =>
  intro K at_ acc ha hat hK
  obtain ⟨K, rfl⟩ : ∃ m, K = m + 1 + 1 := ⟨K - 2, by omega⟩
  simp only [spec_l27Open.l0]
  have hd : decide ((acc.length : Int) < 60) = true := by simp; omega
  rw [M_size, hd]
  by_cases hlt : at_ < s.length
  ·
   rw [if_pos (by omega)]
   have hrl : (s.drop at_).length = s.length - at_ := List.length_drop
   have hsx : sx (M s) (((at_ : Int) : Int).toNat) s.length = M (s.drop at_) := by
    rw [sx_M, Int.toNat_natCast, List.take_of_length_le (by simp)]
   generalize hrest : s.drop at_ = rest at hrl hsx ⊢
   have lu := upto_len (c := 10) rest
   obtain ⟨ps, hp, hpn, _⟩ := split_head rest 10 (by omega) (by omega) (k := K) (by omega)
   obtain ⟨c, r, b, hr, hb, hu⟩ := read_eq (k := acc.length) (K := K) (upto 10 rest) (by omega) (by omega) (by omega)
   simp only [spec_l27Open.j1]
   rw [if_pos trivial, if_pos (by omega), M_size, if_pos (by omega), hsx, show (10 : Int) = ((10 : Nat) : Int) from rfl, hp]
   simp only [Option.bind_some]
   rw [if_pos (by first | omega | (simp; done) | (simp; omega)), rd_head, show UInt8.ofNat 10 = 10 from rfl, hr]
   simp only [Option.bind_some]
   by_cases h2 : ps = []
   ·
    have h10 : (10 : UInt8) ∉ rest := fun h => absurd h2 (hpn.2 h)
    have hn : dec acc.length rest = none := by
     cases h : dec acc.length rest with
     | none => rfl
     | some x => obtain ⟨c', r', n'⟩ := x; exact absurd (dec_iff.1 h).2.1 h10
    rw [if_pos (by rw [h2]; simp), all_none hn]
    simp [tot]
   ·
    have h10 : (10 : UInt8) ∈ rest := hpn.1 h2
    have hpl : 0 < ps.length := List.length_pos_iff.2 h2
    rw [if_neg (by first | omega | (simp; omega))]
    cases hbb : b with
    | true =>
     subst hbb
     obtain ⟨ho, he⟩ := hb rfl
     have hdec : dec acc.length rest = some (c, r, (upto 10 rest).length + 1) := dec_iff.2 ⟨by omega, h10, ho, he, rfl⟩
     have hlt' := upto_lt h10
     rw [if_pos rfl, if_pos (by omega), M_size, w64 (x := (at_ : Int) + ((upto 10 rest).length : Nat)) (by omega) (by omega), w64 (by omega) (by omega)]
     have := ih K (at_ + ((upto 10 rest).length + 1)) (acc ++ [⟨M c, M r⟩]) (by simp; omega) (by omega) (by omega)
     rw [show ((at_ : Int) + ((upto 10 rest).length : Nat) + 1) = ((at_ + ((upto 10 rest).length + 1) : Nat) : Int) by omega, this, all_some hdec, tot_cons, ← List.drop_drop, hrest]
     simp [R27]
     omega
    | false =>
     subst hbb
     have hn : dec acc.length rest = none := by
      cases h : dec acc.length rest with
      | none => rfl
      | some x =>
       obtain ⟨c', r', n'⟩ := x
       obtain ⟨_, _, ho, he, _⟩ := dec_iff.1 h
       exact absurd (hu c' r' ho he).1 (by simp)
     rw [if_neg (by simp), all_none hn]
     simp [tot]
  ·
   rw [if_neg (by omega), List.drop_of_length_le (by omega), all_nil]
   simp [spec_l27Open.j1, tot]
theorem open_eq (s : List UInt8) (hs : s.length ≤ 1099511627776) {K : Nat} (hK : 4 * s.length + 500 < K) : spec_l27Open.f K (M s) = some ((all 60 0 s).map R27, ((tot (all 60 0 s) : Nat) : Int)) := by
 unfold spec_l27Open.f
 have := open_l0 s hs 60 K 0 [] rfl (Nat.zero_le _) (by omega)
 simpa using this
def sums (a : Nat) : List (B × B × Nat) → List Int
 | [] => []
 | x :: xs => ((a + x.2.2 : Nat) : Int) :: sums (a + x.2.2) xs
theorem rd_last (E : List Int) (a : Int) : rd (E ++ [a]) (((E ++ [a]).length : Int) - 1) = a := by
 unfold rd
 rw [List.length_append, show (((E.length + [a].length : Nat) : Int) - 1).toNat = E.length by simp, List.getD_eq_getElem?_getD, List.getElem?_append_right (Nat.le_refl _), Nat.sub_self]
 rfl
theorem reads_l0 (s : List UInt8) (hs : s.length ≤ 1099511627776) (m : Nat) : ∀ (K at_ : Nat) (acc : List S27) (E : List Int), acc.length + m = 60 → E.length ≤ acc.length → at_ ≤ s.length → m + 2 * s.length + 200 < K →
  impl_readRecords.l0 K (M s) acc (E ++ [(at_ : Int)]) = some (acc ++ (all m acc.length (s.drop at_)).map R27, E ++ [(at_ : Int)] ++ sums at_ (all m acc.length (s.drop at_))) := by
 induction m with
 | zero =>
  intro K at_ acc E ha hE hat hK
  obtain ⟨K, rfl⟩ : ∃ m, K = m + 1 := ⟨K - 1, by omega⟩
  have hl : (E ++ [(at_ : Int)]).length = E.length + 1 := by simp
  simp only [impl_readRecords.l0]
  rw [w64 (by omega) (by omega), if_pos (by omega), if_pos (by omega), rd_last, M_size, if_pos (by omega), if_pos (by omega), sx_M, Int.toNat_natCast, List.take_of_length_le (by simp), readRecord_eq _ (by simp; omega) (by omega) (by simp; omega)]
  have hn : dec acc.length (s.drop at_) = none := by
   cases h : dec acc.length (s.drop at_) with
   | none => rfl
   | some x => obtain ⟨c', r', n'⟩ := x; have := (dec_iff.1 h).1; omega
  rw [hn]
  simp [all, sums]
 | succ m ih =>
  intro K at_ acc E ha hE hat hK
  obtain ⟨K, rfl⟩ : ∃ m, K = m + 1 := ⟨K - 1, by omega⟩
  have hl : (E ++ [(at_ : Int)]).length = E.length + 1 := by simp
  have hdl : (s.drop at_).length = s.length - at_ := List.length_drop
  simp only [impl_readRecords.l0]
  rw [w64 (by omega) (by omega), if_pos (by omega), if_pos (by omega), rd_last, M_size, if_pos (by omega), if_pos (by omega), sx_M, Int.toNat_natCast, List.take_of_length_le (by simp), readRecord_eq _ (by omega) (by omega) (by omega)]
  cases h : dec acc.length (s.drop at_) with
  | none =>
   rw [all_none h]
   simp [sums]
  | some x =>
   obtain ⟨c, r, n⟩ := x
   have hn := dec_le h
   simp only [Option.bind_some]
   rw [if_pos trivial, if_pos (by omega), if_pos (by omega), w64 (by omega) (by omega)]
   have := ih K (at_ + n) (acc ++ [⟨M c, M r⟩]) (E ++ [(at_ : Int)]) (by simp; omega) (by simp; omega) (by omega) (by omega)
   rw [show ((at_ : Int) + (n : Int)) = ((at_ + n : Nat) : Int) by omega, this, all_some h, ← List.drop_drop]
   simp [sums, R27]
theorem reads_eq (s : List UInt8) (hs : s.length ≤ 1099511627776) {K : Nat} (hK : 2 * s.length + 300 < K) : impl_readRecords.f K (M s) = some ((all 60 0 s).map R27, 0 :: sums 0 (all 60 0 s)) := by
 unfold impl_readRecords.f
 have := reads_l0 s hs 60 K 0 [] [] rfl (Nat.le_refl _) (Nat.zero_le _) (by omega)
 simpa using this
theorem sums_len (l : List (B × B × Nat)) : ∀ a, (sums a l).length = l.length := by
 induction l with
 | nil => intro a; rfl
 | cons x l ih => intro a; simp [sums, ih]
theorem sums_last (l : List (B × B × Nat)) : ∀ a : Nat, ∃ E, (a : Int) :: sums a l = E ++ [((a + tot l : Nat) : Int)] := by
 induction l with
 | nil => intro a; exact ⟨[], by simp [sums, tot]⟩
 | cons x l ih =>
  intro a
  obtain ⟨E, h⟩ := ih (a + x.2.2)
  refine ⟨(a : Int) :: E, ?_⟩
  rw [sums, h, tot_cons]
  simp
  omega
theorem rd_sums (l : List (B × B × Nat)) : rd (0 :: sums 0 l) ((((0 : Int) :: sums 0 l).length : Int) - 1) = ((tot l : Nat) : Int) := by
 obtain ⟨E, h⟩ := sums_last l 0
 have h' : (0 : Int) :: sums 0 l = E ++ [((tot l : Nat) : Int)] := by simpa using h
 rw [h', rd_last]
theorem sums_mem (l : List (B × B × Nat)) : ∀ (a n : Nat), (n : Int) ∈ ((a : Int) :: sums a l) ↔ ∃ j, j ≤ l.length ∧ a + tot (l.take j) = n := by
 induction l with
 | nil =>
  intro a n
  constructor
  ·
   intro h
   simp [sums] at h
   exact ⟨0, Nat.le_refl _, by simp [tot]; omega⟩
  ·
   rintro ⟨j, _, h⟩
   simp [tot] at h
   simp [sums]
   omega
 | cons x l ih =>
  intro a n
  rw [sums, List.mem_cons, ih (a + x.2.2) n]
  constructor
  ·
   rintro (h | ⟨j, hj, h⟩)
   ·
    exact ⟨0, Nat.zero_le _, by simp [tot]; omega⟩
   ·
    exact ⟨j + 1, by simpa using hj, by rw [List.take_succ_cons, tot_cons]; omega⟩
  ·
   rintro ⟨j, hj, h⟩
   cases j with
   | zero => simp [tot] at h; exact .inl (by omega)
   | succ j => rw [List.take_succ_cons, tot_cons] at h; exact .inr ⟨j, by simpa using hj, by omega⟩
theorem has_l0 (l : List Int) (x : Int) (hl : l.length ≤ 4611686018427387904) (d : Nat) : ∀ (k i : Nat), i + d = l.length → d < k → ∃ r : Int, slices_Index_int_int.l0 k l x l.length i = some r ∧ (0 ≤ r ↔ x ∈ l.drop i) := by
 induction d with
 | zero =>
  intro k i hd hk
  obtain ⟨k, rfl⟩ : ∃ m, k = m + 1 := ⟨k - 1, by omega⟩
  refine ⟨-1, ?_, ?_⟩
  ·
   simp only [slices_Index_int_int.l0]
   rw [if_neg (by omega)]
  ·
   rw [List.drop_of_length_le (by omega)]
   simp
 | succ d ih =>
  intro k i hd hk
  obtain ⟨k, rfl⟩ : ∃ m, k = m + 1 := ⟨k - 1, by omega⟩
  have hx : l.drop i = rd l i :: l.drop (i + 1) := by
   unfold rd
   rw [Int.toNat_natCast, List.drop_eq_getElem_cons (by omega), List.getD_eq_getElem?_getD, List.getElem?_eq_getElem (by omega)]
   rfl
  simp only [slices_Index_int_int.l0]
  rw [if_pos (by omega), if_pos (by omega), if_pos (by omega), hx, w64 (by omega) (by omega)]
  by_cases h : x = rd l i
  ·
   rw [if_pos h]
   exact ⟨i, rfl, by simp [h]⟩
  ·
   rw [if_neg h]
   obtain ⟨r, h1, h2⟩ := ih k (i + 1) (by omega) (by omega)
   rw [show ((i + 1 : Nat) : Int) = (i : Int) + 1 by omega] at h1
   exact ⟨r, h1, by rw [h2]; simp [h]⟩
theorem has_eq (l : List Int) (x : Int) (hl : l.length ≤ 4611686018427387904) {k : Nat} (hk : l.length < k) : impl_has.f k l x = some (decide (x ∈ l)) := by
 unfold impl_has.f slices_Contains_int_int.f slices_Index_int_int.f
 obtain ⟨r, h1, h2⟩ := has_l0 l x hl l.length k 0 (by omega) hk
 rw [show ((0 : Nat) : Int) = 0 from rfl] at h1
 rw [h1]
 simp only [Option.bind_some]
 exact dec_of (by rw [decide_eq_true_eq]; simpa using h2)
def Good (D P : List UInt8) (C : Int) : Prop := tot (all 60 0 (D ++ P)) = (D ++ P).length ∧ tot (all 60 0 D) = D.length ∧ C = ((all 60 0 (D ++ P)).length : Int)
instance (D P : List UInt8) (C : Int) : Decidable (Good D P C) := inferInstanceAs (Decidable (_ ∧ _))
theorem Good.le {D P : List UInt8} {C : Int} (h : Good D P C) : (D ++ P).length ≤ 22320 := by
 have := all_tot372 60 0 (D ++ P)
 have := h.1
 omega
theorem records_eq (D P : List UInt8) (C : Int) (hs : (D ++ P).length ≤ 1099511627776) {K : Nat} (hK : 4 * (D ++ P).length + 600 < K) :
  impl_records.f K (M D) (M P) C = some (if Good D P C then ((all 60 0 (D ++ P)).map R27, true) else ([], false)) := by
 have hl : (D ++ P).length = D.length + P.length := List.length_append
 have h60 := all_len 60 0 (D ++ P)
 have hsl := sums_len (all 60 0 (D ++ P)) 0
 have hsl' : ((0 : Int) :: sums 0 (all 60 0 (D ++ P))).length = (all 60 0 (D ++ P)).length + 1 := by rw [List.length_cons, hsl]
 unfold impl_records.f
 rw [M_size, M_size, if_pos (by omega), sc_M, reads_eq _ hs (by omega)]
 simp only [Option.bind_some]
 rw [w64 (by omega) (by omega), if_pos (by omega), if_pos (by omega), rd_sums, M_size]
 by_cases h1 : tot (all 60 0 (D ++ P)) = (D ++ P).length
 ·
  rw [if_pos (by omega), has_eq _ _ (by omega) (by omega)]
  simp only [Option.bind_some, decide_eq_true_eq]
  have hm : ((D.length : Int) ∈ ((0 : Int) :: sums 0 (all 60 0 (D ++ P)))) ↔ tot (all 60 0 D) = D.length := by
   have := sums_mem (all 60 0 (D ++ P)) 0 D.length
   rw [show (((0 : Nat)) : Int) = 0 from rfl] at this
   rw [this]
   simpa using ends_iff 60 0 D P
  by_cases h2 : tot (all 60 0 D) = D.length
  ·
   rw [if_pos (hm.2 h2)]
   by_cases h3 : C = ((all 60 0 (D ++ P)).length : Int)
   ·
    have hg : Good D P C := ⟨h1, h2, h3⟩
    rw [if_pos (by rw [List.length_map]; exact h3), if_pos hg]
   ·
    rw [if_neg (by rw [List.length_map]; exact h3), if_neg (show ¬ Good D P C from fun h => h3 h.2.2)]
  ·
   rw [if_neg (fun h => h2 (hm.1 h)), if_neg (show ¬ Good D P C from fun h => h2 h.2.1)]
 ·
  rw [if_neg (by omega), if_neg (show ¬ Good D P C from fun h => h1 h.1)]
theorem log_eq (D P : List UInt8) (C : Int) (hD : D.length ≤ 549755813888) (hP : P.length ≤ 549755813888) {K : Nat} (hK : 4 * (D ++ P).length + 600 < K) : spec_l27Log.f K (M D) (M P) C = some (decide (Good D P C)) := by
 have hl : (D ++ P).length = D.length + P.length := List.length_append
 unfold spec_l27Log.f
 rw [M_size, M_size, w64 (by omega) (by omega), sc_M, open_eq _ (by omega) (by omega), open_eq _ (by omega) (by omega)]
 simp only [Option.bind_some]
 by_cases h0 : (30000 : Int) < (D.length : Int) + (P.length : Int)
 ·
  rw [if_pos h0]
  exact dec_of ⟨fun h => by simp at h, fun h => by have := Good.le h; omega⟩
 ·
  rw [if_neg h0, if_pos (by omega)]
  by_cases h1 : tot (all 60 0 (D ++ P)) = (D ++ P).length
  ·
   rw [if_pos (by omega)]
   by_cases h2 : tot (all 60 0 D) = D.length
   ·
    rw [if_pos (by omega)]
    refine dec_of ?_
    rw [beq_iff_eq, List.length_map]
    exact ⟨fun h => ⟨h1, h2, h.symm⟩, fun h => h.2.2.symm⟩
   ·
    rw [if_neg (by omega)]
    exact dec_of ⟨fun h => by simp at h, fun h => absurd h.2.1 h2⟩
  ·
   rw [if_neg (by omega)]
   exact dec_of ⟨fun h => by simp at h, fun h => absurd h.1 h1⟩
theorem valid_eq (D P : List UInt8) (C : Int) (hs : (D ++ P).length ≤ 1099511627776) {K : Nat} (hK : 4 * (D ++ P).length + 600 < K) : impl_IsValidLog.f K (M D) (M P) C = some (decide (Good D P C)) := by
 unfold impl_IsValidLog.f
 rw [records_eq D P C hs hK]
 simp only [Option.bind_some]
 by_cases h : Good D P C <;> simp [h]
def recov (s : List UInt8) : List UInt8 := s.take (tot (all 60 0 s))
theorem recover_both (s : List UInt8) (hs : s.length ≤ 1048576) {k : Nat} (hk : 4 * s.length + 600 < k) :
  spec_RecoverLog.f k (M s) = some (if s.length ≤ 30000 then (M (recov s), M [], ((all 60 0 s).length : Int), ((tot (all 60 0 s) : Nat) : Int), true) else (M [], M [], 0, 0, false)) ∧
  impl_RecoverLog.f k (M s) = some (if s.length ≤ 30000 then (M (recov s), M [], ((all 60 0 s).length : Int), ((tot (all 60 0 s) : Nat) : Int), true) else (M [], M [], 0, 0, false)) := by
 have h60 := all_len 60 0 s
 have htl := all_tot 60 0 s
 have hsl' : ((0 : Int) :: sums 0 (all 60 0 s)).length = (all 60 0 s).length + 1 := by rw [List.length_cons, sums_len]
 unfold spec_RecoverLog.f impl_RecoverLog.f recov
 rw [M_size]
 by_cases h : s.length ≤ 30000
 ·
  rw [if_pos h, if_neg (by omega), if_neg (by omega), open_eq s (by omega) (by omega), reads_eq s (by omega) (by omega)]
  simp only [Option.bind_some]
  rw [w64 (by omega) (by omega), rd_sums]
  repeat rw [if_pos (by omega)]
  rw [sx_M, Int.toNat_natCast, List.drop_zero, Nat.sub_zero, List.length_map]
  exact ⟨rfl, rfl⟩
 ·
  rw [if_neg h, if_pos (by omega), if_pos (by omega)]
  exact ⟨rfl, rfl⟩
theorem isLog_both (D P : List UInt8) (C : Int) (hs : D.length + P.length ≤ 1048576) {k : Nat} (hk : 4 * (D.length + P.length) + 600 < k) :
  spec_IsValidLog.f k (M D) (M P) C = some (decide (Good D P C)) ∧ impl_IsValidLog.f k (M D) (M P) C = some (decide (Good D P C)) := by
 have hl : (D ++ P).length = D.length + P.length := List.length_append
 unfold spec_IsValidLog.f
 rw [log_eq D P C (by omega) (by omega) (by omega), valid_eq D P C (by omega) (by omega)]
 exact ⟨rfl, rfl⟩
theorem sync_both (D P : List UInt8) (C : Int) (hs : D.length + P.length ≤ 1048576) {k : Nat} (hk : 4 * (D.length + P.length) + 600 < k) :
  spec_SyncLog.f k (M D) (M P) C = some (if Good D P C then (M (D ++ P), M [], C, true) else (M [], M [], 0, false)) ∧ impl_SyncLog.f k (M D) (M P) C = some (if Good D P C then (M (D ++ P), M [], C, true) else (M [], M [], 0, false)) := by
 have hl : (D ++ P).length = D.length + P.length := List.length_append
 unfold spec_SyncLog.f impl_SyncLog.f
 rw [log_eq D P C (by omega) (by omega) (by omega), valid_eq D P C (by omega) (by omega)]
 simp only [Option.bind_some]
 by_cases g : Good D P C
 ·
  rw [if_pos g, decide_eq_true g, if_pos rfl]
  try rw [if_pos rfl]
  rw [M_size, M_size]
  repeat rw [if_pos (by omega)]
  rw [sc_M]
  exact ⟨rfl, rfl⟩
 ·
  rw [if_neg g, decide_eq_false g, if_neg Bool.false_ne_true]
  try rw [if_neg Bool.false_ne_true]
  exact ⟨rfl, rfl⟩
theorem Good.count {D P : List UInt8} {C : Int} (h : Good D P C) : 0 ≤ C ∧ C ≤ 60 := by
 have := all_len 60 0 (D ++ P)
 have := h.2.2
 omega
def appended (D P : List UInt8) (C : Int) (c r : List UInt8) : ByteArray × ByteArray × Int × Int :=
 if Good D P C ∧ Ok c r then (if C = 60 then (M D, M P, C, 2) else (M D, M (P ++ enc C.toNat c r), C + 1, 0)) else (M D, M P, C, 1)
theorem append_both (D P : List UInt8) (C : Int) (c r : List UInt8) (hs : D.length + P.length ≤ 1048576) (hc : c.length ≤ 1048576) (hr : r.length ≤ 1048576) {k : Nat} (hk : 4 * (D.length + P.length) + c.length + r.length + 700 < k) :
  spec_AppendRecord.f k (M D) (M P) C (M c) (M r) = some (appended D P C c r) ∧ impl_AppendRecord.f k (M D) (M P) C (M c) (M r) = some (appended D P C c r) := by
 have hl : (D ++ P).length = D.length + P.length := List.length_append
 unfold spec_AppendRecord.f impl_AppendRecord.f appended
 obtain ⟨k, rfl⟩ : ∃ m, k = m + 1 := ⟨k - 1, by omega⟩
 rw [log_eq D P C (by omega) (by omega) (by omega), valid_eq D P C (by omega) (by omega), good_eq c r (by omega) (by omega) (by omega), isRec_eq c r (by omega) (by omega) (by omega)]
 simp only [Option.bind_some, spec_AppendRecord.j0, impl_AppendRecord.j0]
 by_cases g : Good D P C
 ·
  have hct := g.count
  rw [decide_eq_true g, if_pos rfl, if_pos rfl]
  by_cases o : Ok c r
  ·
   have hgo : Good D P C ∧ Ok c r := ⟨g, o⟩
   have hn : ¬ ((!true) = true) := by decide
   rw [if_pos hgo, decide_eq_true o, if_neg hn, if_neg hn]
   by_cases h60 : C = 60
   ·
    rw [if_pos h60, if_pos h60, if_pos h60]
    exact ⟨rfl, rfl⟩
   ·
    obtain ⟨n, rfl⟩ : ∃ n : Nat, C = n := ⟨C.toNat, by omega⟩
    have hel := (enc_len (k := n) (by omega) o).1
    rw [if_neg h60, if_neg h60, if_neg h60, line_eq (by omega) c r (by omega) (by omega) (by omega), encode_eq (by omega) c r (by omega) (by omega) (by omega)]
    simp only [Option.bind_some]
    rw [M_size, M_size, if_pos (by omega)]
    try rw [if_pos (by omega)]
    rw [sc_M, w64 (by omega) (by omega), Int.toNat_natCast]
    exact ⟨rfl, rfl⟩
  ·
   rw [if_neg (show ¬ (Good D P C ∧ Ok c r) from fun h => o h.2), decide_eq_false o, if_pos (show (!false) = true from rfl), if_pos (show (!false) = true from rfl)]
   exact ⟨rfl, rfl⟩
 ·
  rw [if_neg (show ¬ (Good D P C ∧ Ok c r) from fun h => g h.1), decide_eq_false g, if_neg Bool.false_ne_true]
  try rw [if_neg Bool.false_ne_true]
  repeat rw [if_pos rfl]
  exact ⟨rfl, rfl⟩
theorem records_both (D P : List UInt8) (C : Int) (hs : D.length + P.length ≤ 1048576) {k : Nat} (hk : 4 * (D.length + P.length) + 600 < k) :
  spec_LogRecords.f k (M D) (M P) C = some (if Good D P C then ((all 60 0 (D ++ P)).map R27, true) else ([], false)) ∧ impl_LogRecords.f k (M D) (M P) C = some (if Good D P C then ((all 60 0 (D ++ P)).map R27, true) else ([], false)) := by
 have hl : (D ++ P).length = D.length + P.length := List.length_append
 unfold spec_LogRecords.f impl_LogRecords.f
 rw [log_eq D P C (by omega) (by omega) (by omega), records_eq D P C (by omega) (by omega)]
 simp only [Option.bind_some]
 by_cases g : Good D P C
 ·
  rw [if_pos g, decide_eq_true g, if_pos rfl, M_size, M_size, if_pos (by omega), sc_M, open_eq _ (by omega) (by omega)]
  simp
 ·
  rw [if_neg g, decide_eq_false g, if_neg Bool.false_ne_true]
  simp
theorem rec_ok {c : List Int} (hc : ∀ x, x ∈ c → 0 ≤ x ∧ x ≤ 255) {p : Int} (h0 : 0 ≤ p) (h1 : p ≤ 700000000) (s : Int) :
  ∃ m r p1 q, spec_l1Cur_logRecord.f c p s = some (m, r, p1, q) ∧ m.size ≤ 16 ∧ r.size ≤ 16 ∧ p ≤ p1 ∧ p1 ≤ p + 8 := by
 unfold spec_l1Cur_logRecord.f
 obtain ⟨r1, p1, q1, e1, m1, a1, b1⟩ := of_ok hc h0 (by omega) s (l := [(⟨#[99, 111, 117, 110, 116]⟩ : ByteArray), (⟨#[115, 111, 114, 116, 32, 109, 101, 114, 103, 101]⟩ : ByteArray), (⟨#[120]⟩ : ByteArray), (⟨#[115, 101, 108, 101, 99, 116, 32, 50]⟩ : ByteArray), (⟨#[48, 32, 49]⟩ : ByteArray)]) (by decide)
 rw [e1, obs]
 simp only
 obtain ⟨r2, p2, q2, e2, m2, a2, b2⟩ := of_ok hc (p := p1) (by omega) (by omega) q1 (l := [(⟨#[]⟩ : ByteArray), (⟨#[51]⟩ : ByteArray), (⟨#[63]⟩ : ByteArray), (⟨#[97, 64, 98]⟩ : ByteArray), (⟨#[51, 32, 49, 32, 50]⟩ : ByteArray)]) (by decide)
 rw [e2, obs]
 simp only
 obtain ⟨r3, p3, q3, e3, m3, a3, b3⟩ := pick_ok hc (p := p2) (by omega) (by omega) q2 (n := 24) (by decide)
 rw [e3, obs]
 simp only
 have s1 : r1.size ≤ 16 := by
  simp only [List.mem_cons, List.not_mem_nil, or_false] at m1
  rcases m1 with rfl | rfl | rfl | rfl | rfl <;> decide
 have s2 : r2.size ≤ 16 := by
  simp only [List.mem_cons, List.not_mem_nil, or_false] at m2
  rcases m2 with rfl | rfl | rfl | rfl | rfl <;> decide
 by_cases c0 : r3 = 0
 ·
  rw [if_pos c0, if_pos (by decide)]
  obtain ⟨r4, p4, q4, e4, m4, a4, b4⟩ := of_ok hc (p := p3) (by omega) (by omega) q3 (l := [(⟨#[]⟩ : ByteArray), (⟨#[97, 64, 98]⟩ : ByteArray), (⟨#[97, 35]⟩ : ByteArray), (⟨#[10]⟩ : ByteArray), strOfNums (List.replicate 3 0)]) (by decide)
  rw [e4, obs]
  refine ⟨_, _, p4, _, rfl, ?_, s2, by omega, by omega⟩
  simp only [List.mem_cons, List.not_mem_nil, or_false] at m4
  have z : (strOfNums (List.replicate 3 0)).size = 3 := rfl
  show r4.size ≤ 16
  rcases m4 with rfl | rfl | rfl | rfl | rfl
  ·
   decide
  ·
   decide
  ·
   decide
  ·
   decide
  ·
   omega
 ·
  rw [if_neg c0]
  by_cases c1 : r3 = 1
  ·
   rw [if_pos c1]
   obtain ⟨r4, p4, q4, e4, m4, a4, b4⟩ := of_ok hc (p := p3) (by omega) (by omega) q3 (l := [(⟨#[35]⟩ : ByteArray), (⟨#[10]⟩ : ByteArray), (⟨#[127]⟩ : ByteArray)]) (by decide)
   rw [e4, obs]
   refine ⟨_, _, p4, _, rfl, s1, ?_, by omega, by omega⟩
   simp only [List.mem_cons, List.not_mem_nil, or_false] at m4
   show r4.size ≤ 16
   rcases m4 with rfl | rfl | rfl <;> decide
  ·
   rw [if_neg c1]
   exact ⟨_, _, p3, _, rfl, s1, s2, by omega, by omega⟩
theorem rec_okM {c : List Int} (hc : ∀ x, x ∈ c → 0 ≤ x ∧ x ≤ 255) {p : Int} (h0 : 0 ≤ p) (h1 : p ≤ 700000000) (s : Int) :
  ∃ m r p1 q, spec_l1Cur_logRecord.f c p s = some (M m, M r, p1, q) ∧ m.length ≤ 16 ∧ r.length ≤ 16 ∧ p ≤ p1 ∧ p1 ≤ p + 8 := by
 obtain ⟨m, r, p1, q, e, h2, h3, h4, h5⟩ := rec_ok hc h0 h1 s
 obtain ⟨m, rfl⟩ := ex_M m
 obtain ⟨r, rfl⟩ := ex_M r
 rw [M_size] at h2 h3
 exact ⟨m, r, p1, q, e, h2, h3, h4, h5⟩
theorem appended_ex (D P : List UInt8) (C : Int) (c r : List UInt8) : ∃ D' P' C' x, appended D P C c r = (M D', M P', C', x) ∧ D'.length + P'.length ≤ D.length + P.length + 372 := by
 unfold appended
 split
 ·
  rename_i h
  split
  ·
   exact ⟨_, _, _, _, rfl, by omega⟩
  ·
   rename_i h2
   have hct := h.1.count
   have := (enc_len (k := C.toNat) (by omega) h.2).1
   refine ⟨_, _, _, _, rfl, ?_⟩
   rw [List.length_append]
   omega
 ·
  exact ⟨_, _, _, _, rfl, by omega⟩
theorem log_l0 {c : List Int} (hc : ∀ x, x ∈ c → 0 ≤ x ∧ x ≤ 255) (d : Nat) : ∀ (D P : List UInt8) (C p s : Int) (k : Nat), D.length + P.length + 372 * d ≤ 30000 → 0 ≤ p → p + 20 * d ≤ 600000000 → 200000 + d < k →
  ∃ D' P' C' p1 q, spec_l1Cur_log.l0 k d c p s (M D) (M P) C = some (M D', M P', C', p1, q) ∧ D'.length + P'.length ≤ D.length + P.length + 372 * d ∧ p ≤ p1 ∧ p1 ≤ p + 20 * d := by
 induction d with
 | zero =>
  intro D P C p s k hl h0 h1 hk
  obtain ⟨k, rfl⟩ : ∃ m, k = m + 1 := ⟨k - 1, by omega⟩
  simp only [spec_l1Cur_log.l0]
  rw [if_neg (by omega)]
  exact ⟨_, _, _, _, _, rfl, by omega, by omega, by omega⟩
 | succ d ih =>
  intro D P C p s k hl h0 h1 hk
  obtain ⟨k, rfl⟩ : ∃ m, k = m + 1 := ⟨k - 1, by omega⟩
  simp only [spec_l1Cur_log.l0]
  rw [if_pos (by omega)]
  obtain ⟨m, r, p1, q1, e1, hm, hr, a1, b1⟩ := rec_okM hc h0 (by omega) s
  rw [e1, obs]
  simp only
  obtain ⟨D1, P1, C1, x1, e2, hl1⟩ := appended_ex D P C m r
  rw [(append_both D P C m r (by omega) (by omega) (by omega) (by omega)).1, e2, obs]
  simp only
  obtain ⟨b, p2, q2, e3, a2, b2⟩ := one_ok hc (p := p1) (by omega) (by omega) q1 (n := 4) (by decide)
  rw [e3, obs]
  simp only
  rw [w64 (x := ((d + 1 : Nat) : Int) - 1) (by omega) (by omega), show ((d + 1 : Nat) : Int) - 1 = (d : Int) by omega]
  cases b with
  | false =>
   rw [if_neg (by decide)]
   obtain ⟨D2, P2, C2, p3, q3, e4, h5, h6, h7⟩ := ih D1 P1 C1 p2 q2 k (by omega) (by omega) (by omega) (by omega)
   exact ⟨D2, P2, C2, p3, q3, e4, by omega, by omega, by omega⟩
  | true =>
   rw [if_pos rfl, (sync_both D1 P1 C1 (by omega) (by omega)).1, obs]
   by_cases g : Good D1 P1 C1
   ·
    rw [if_pos g]
    simp only
    have hx : (D1 ++ P1).length = D1.length + P1.length := List.length_append
    obtain ⟨D2, P2, C2, p3, q3, e4, h5, h6, h7⟩ := ih (D1 ++ P1) [] C1 p2 q2 k (by rw [List.length_nil]; omega) (by omega) (by omega) (by omega)
    rw [List.length_nil] at h5
    exact ⟨D2, P2, C2, p3, q3, e4, by omega, by omega, by omega⟩
   ·
    rw [if_neg g]
    simp only
    obtain ⟨D2, P2, C2, p3, q3, e4, h5, h6, h7⟩ := ih [] [] 0 p2 q2 k (by rw [List.length_nil]; omega) (by omega) (by omega) (by omega)
    rw [List.length_nil] at h5
    exact ⟨D2, P2, C2, p3, q3, e4, by omega, by omega, by omega⟩
theorem log_ok {c : List Int} (hc : ∀ x, x ∈ c → 0 ≤ x ∧ x ≤ 255) {p : Int} (h0 : 0 ≤ p) (h1 : p ≤ 500000000) (s : Int) {k : Nat} (hk : 200010 < k) :
  ∃ D P C p1 q, spec_l1Cur_log.f k c p s = some (M D, M P, C, p1, q) ∧ D.length + P.length ≤ 2300 ∧ p ≤ p1 ∧ p1 ≤ p + 130 := by
 unfold spec_l1Cur_log.f
 obtain ⟨r, p1, q1, e1, hr, a1, b1⟩ := pick_ok hc h0 (by omega) s (n := 7) (by decide)
 rw [e1, obs]
 simp only
 obtain ⟨n, rfl⟩ : ∃ n : Nat, r = n := ⟨r.toNat, by omega⟩
 obtain ⟨D, P, C, p2, q2, e2, h2, h3, h4⟩ := log_l0 hc n [] [] 0 p1 q1 k (by rw [List.length_nil]; omega) (by omega) (by omega) (by omega)
 rw [List.length_nil] at h2
 exact ⟨D, P, C, p2, q2, e2, by omega, by omega, by omega⟩
theorem spoilt_ok {c : List Int} (hc : ∀ x, x ∈ c → 0 ≤ x ∧ x ≤ 255) {p : Int} (h0 : 0 ≤ p) (h1 : p ≤ 500000000) (s : Int) (l w : List UInt8) (hl : l.length ≤ 100000) (hw : w.length = 5) :
  ∃ r p1 q, spec_l1Cur_spoilt.f c p s (M l) (M w) = some (M r, p1, q) ∧ r.length ≤ l.length + 1 ∧ p ≤ p1 ∧ p1 ≤ p + 6 := by
 unfold spec_l1Cur_spoilt.f
 rw [M_toList, M_size, M_size]
 by_cases z : l = []
 ·
  rw [if_pos z, if_pos (by decide), if_pos (by omega), sx_M]
  refine ⟨_, p, s, rfl, ?_, by omega, by omega⟩
  rw [List.length_take]
  omega
 ·
  rw [if_neg z]
  have hp : 0 < l.length := List.length_pos_iff.2 z
  obtain ⟨i, p1, q1, e1, hi, a1, b1⟩ := pick_ok hc h0 (by omega) s (n := (l.length : Int)) (by omega)
  rw [e1, obs]
  simp only
  obtain ⟨j, p2, q2, e2, hj, a2, b2⟩ := pick_ok hc (p := p1) (by omega) (by omega) q1 (n := (w.length : Int)) (by omega)
  rw [e2, obs]
  simp only
  obtain ⟨i, rfl⟩ : ∃ n : Nat, i = n := ⟨i.toNat, by omega⟩
  obtain ⟨j, rfl⟩ : ∃ n : Nat, j = n := ⟨j.toNat, by omega⟩
  obtain ⟨t, p3, q3, e3, ht, a3, b3⟩ := pick_ok hc (p := p2) (by omega) (by omega) q2 (n := 3) (by decide)
  simp only [Int.toNat_natCast, sx_M]
  rw [w64 (x := (i : Int) + 1) (by omega) (by omega), show ((i : Int) + 1).toNat = i + 1 by omega]
  have l1 : ((w.drop j).take (w.length - j)).length = w.length - j := by rw [List.length_take, List.length_drop]; omega
  have l2 : ((((w.drop j).take (w.length - j)).drop 0).take (1 - 0)).length = 1 := by rw [List.length_take, List.length_drop]; omega
  have l3 : ((l.drop 0).take (i - 0)).length = i := by rw [List.length_take, List.length_drop]; omega
  have l4 : ((l.drop i).take (l.length - i)).length = l.length - i := by rw [List.length_take, List.length_drop]; omega
  have l5 : ((l.drop (i + 1)).take (l.length - (i + 1))).length = l.length - (i + 1) := by rw [List.length_take, List.length_drop]; omega
  generalize (w.drop j).take (w.length - j) = A at *
  generalize (A.drop 0).take (1 - 0) = B at *
  generalize (l.drop 0).take (i - 0) = E at *
  generalize (l.drop i).take (l.length - i) = F at *
  generalize (l.drop (i + 1)).take (l.length - (i + 1)) = G at *
  rw [M_size, if_pos (by omega), if_pos (by omega), if_pos (by decide), if_pos (by omega), e3, obs]
  simp only [sc_M, M_size]
  have l6 : (E ++ B).length = E.length + B.length := List.length_append
  have l7 : (E ++ B ++ F).length = E.length + B.length + F.length := by rw [List.length_append, List.length_append]
  have l8 : (E ++ B ++ G).length = E.length + B.length + G.length := by rw [List.length_append, List.length_append]
  have l9 : (E ++ G).length = E.length + G.length := List.length_append
  by_cases t0 : t = 0
  ·
   rw [if_pos t0, if_pos (by omega), if_pos (by omega), if_pos (by omega), if_pos (by omega)]
   exact ⟨_, p3, _, rfl, by omega, by omega, by omega⟩
  ·
   rw [if_neg t0]
   by_cases t1 : t = 1
   ·
    rw [if_pos t1, if_pos (by omega), if_pos (by omega), if_pos (by omega), if_pos (by omega), if_pos (by omega), if_pos (by omega)]
    exact ⟨_, p3, _, rfl, by omega, by omega, by omega⟩
   ·
    rw [if_neg t1, if_pos (by omega), if_pos (by omega), if_pos (by omega), if_pos (by omega), if_pos (by omega)]
    exact ⟨_, p3, _, rfl, by omega, by omega, by omega⟩
theorem M_with : (⟨#[35, 64, 10, 48, 49]⟩ : ByteArray) = M [35, 64, 10, 48, 49] := rfl
theorem anyLog_ok {c : List Int} (hc : ∀ x, x ∈ c → 0 ≤ x ∧ x ≤ 255) {p : Int} (h0 : 0 ≤ p) (h1 : p ≤ 400000000) (s : Int) {k : Nat} (hk : 200010 < k) :
  ∃ D P C p1 q, spec_l1Cur_anyLog.f k c p s = some (M D, M P, C, p1, q) ∧ D.length + P.length ≤ 5000 ∧ p ≤ p1 ∧ p1 ≤ p + 200 := by
 unfold spec_l1Cur_anyLog.f
 obtain ⟨D, P, C, p1, q1, e1, hl, a1, b1⟩ := log_ok hc h0 (by omega) s hk
 rw [e1, obs]
 simp only
 obtain ⟨r, p2, q2, e2, hr, a2, b2⟩ := pick_ok hc (p := p1) (by omega) (by omega) q1 (n := 24) (by decide)
 rw [e2, obs]
 simp only
 by_cases c0 : r = 0
 ·
  rw [if_pos c0]
  exact ⟨_, _, _, p2, _, rfl, by omega, by omega, by omega⟩
 ·
  rw [if_neg c0]
  by_cases c1 : r = 1
  ·
   rw [if_pos c1, M_with]
   obtain ⟨r2, p3, q3, e3, h3, a3, b3⟩ := spoilt_ok hc (p := p2) (by omega) (by omega) q2 P [35, 64, 10, 48, 49] (by omega) rfl
   rw [e3, obs]
   exact ⟨_, _, _, p3, _, rfl, by omega, by omega, by omega⟩
  ·
   rw [if_neg c1]
   by_cases c2 : r = 2
   ·
    rw [if_pos c2, M_size, M_size, if_pos (by omega), sc_M]
    refine ⟨_, _, _, p2, _, rfl, ?_, by omega, by omega⟩
    rw [List.length_append]
    omega
   ·
    rw [if_neg c2]
    exact ⟨_, _, _, p2, _, rfl, by omega, by omega, by omega⟩
theorem drawCrash_ok {c : List Int} (hc : ∀ x, x ∈ c → 0 ≤ x ∧ x ≤ 255) {k : Nat} (hk : 200100 < k) :
  ∃ D P C a b, spec_DrawCrashLog.f k c = some (M D, M P, C, a, b) ∧ D.length + P.length ≤ 5000 := by
 unfold spec_DrawCrashLog.f spec_newCur.f
 rw [obs]
 simp only
 obtain ⟨D, P, C, p1, q1, e1, hl, a1, b1⟩ := anyLog_ok hc (p := 0) (by omega) (by omega) 0 (k := k) (by omega)
 rw [e1, obs]
 simp only
 rw [M_size, w64 (x := (P.length : Int) + 3) (by omega) (by omega)]
 obtain ⟨i, p2, q2, e2, hi, a2, b2⟩ := pick_ok hc (p := p1) (by omega) (by omega) q1 (n := (P.length : Int) + 3) (by omega)
 rw [e2, obs]
 simp only
 obtain ⟨b, p3, q3, e3, a3, b3⟩ := one_ok hc (p := p2) (by omega) (by omega) q2 (n := 2) (by decide)
 rw [e3, obs]
 exact ⟨_, _, _, _, _, rfl, hl⟩
theorem flip_app (D : List UInt8) {Q : List UInt8} (h : 0 < Q.length) : flipL_ (D ++ Q) = D ++ flipL_ Q := by
 unfold flipL_
 rw [List.length_append, List.set_append_right _ _ (by omega), show D.length + Q.length - 1 - D.length = Q.length - 1 by omega]
 congr 2
 rw [List.getD_eq_getElem?_getD, List.getD_eq_getElem?_getD, List.getElem?_append_right (by omega), show D.length + Q.length - 1 - D.length = Q.length - 1 by omega]
def crashP (P : List UInt8) (n : Nat) (b : Bool) : List UInt8 := if b = true ∧ 0 < n then flipL_ (P.take n) else P.take n
def crashed (D P : List UInt8) (C a : Int) (b : Bool) : ByteArray × Bool := if Good D P C ∧ 0 ≤ a ∧ a ≤ P.length then (M (D ++ crashP P a.toNat b), true) else (M [], false)
theorem flip_M (l : List UInt8) : (⟨(flipL_ (M l).data.toList).toArray⟩ : ByteArray) = M (flipL_ l) := by rw [M_data]; rfl
theorem crash_both (D P : List UInt8) (C a : Int) (b : Bool) (hs : D.length + P.length ≤ 1048576) {k : Nat} (hk : 4 * (D.length + P.length) + 600 < k) :
  spec_CrashLog.f k (M D) (M P) C a b = some (crashed D P C a b) ∧ impl_CrashLog.f k (M D) (M P) C a b = some (crashed D P C a b) := by
 have hl : (D ++ P).length = D.length + P.length := List.length_append
 unfold spec_CrashLog.f impl_CrashLog.f crashed
 rw [log_eq D P C (by omega) (by omega) (by omega), valid_eq D P C (by omega) (by omega), obs, obs, M_size, M_size]
 by_cases g : Good D P C
 ·
  have gl := g.le
  have hz : D.length + P.length ≤ 1000000 := by omega
  rw [decide_eq_true g, if_pos rfl, if_pos rfl]
  by_cases r : 0 ≤ a ∧ a ≤ (P.length : Int)
  ·
   rw [if_pos r, if_pos r, if_pos (show Good D P C ∧ 0 ≤ a ∧ a ≤ (P.length : Int) from ⟨g, r⟩), if_pos hz, if_pos hz, sx_M, List.drop_zero, Nat.sub_zero]
   obtain ⟨n, rfl⟩ : ∃ n : Nat, a = n := ⟨a.toNat, by omega⟩
   rw [Int.toNat_natCast]
   unfold crashP
   by_cases t : b = true ∧ 0 < n
   ·
    have t2 : b = true ∧ (0 : Int) < (n : Int) := ⟨t.1, by omega⟩
    simp only [if_pos t, if_pos t2]
    rw [sc_M, flip_M, flip_M, sc_M, flip_app D (by rw [List.length_take]; omega)]
    exact ⟨rfl, rfl⟩
   ·
    have t2 : ¬ (b = true ∧ (0 : Int) < (n : Int)) := fun h => t ⟨h.1, by omega⟩
    simp only [if_neg t, if_neg t2]
    rw [sc_M]
    exact ⟨rfl, rfl⟩
  ·
   rw [if_neg r, if_neg r, if_neg (show ¬ (Good D P C ∧ 0 ≤ a ∧ a ≤ (P.length : Int)) from fun h => r h.2)]
   exact ⟨rfl, rfl⟩
 ·
  have hf : ¬ (false = true) := by decide
  rw [decide_eq_false g, if_neg hf, if_neg hf, if_neg (show ¬ (Good D P C ∧ 0 ≤ a ∧ a ≤ (P.length : Int)) from fun h => g h.1)]
  exact ⟨rfl, rfl⟩
theorem enc_byte {k : Nat} {c r : List UInt8} (h : Ok c r) : ∀ b ∈ enc k c r, b.toNat ≤ 126 := by
 intro b hb
 simp only [enc, line, body, List.mem_append, List.mem_cons, List.not_mem_nil, or_false] at hb
 rcases hb with ((((hb | rfl | hb | rfl | hb)) | rfl | hb) | rfl)
 ·
  have := (digit_mem _ _ hb).2
  omega
 ·
  decide
 ·
  exact (h.2.2.1 _ hb).2.1
 ·
  decide
 ·
  exact (h.2.2.2.2.2 _ hb).2.1
 ·
  decide
 ·
  have := (digit_mem _ _ hb).2
  omega
 ·
  decide
theorem all_byte (m : Nat) : ∀ (k : Nat) (s : List UInt8), tot (all m k s) = s.length → ∀ b ∈ s, b.toNat ≤ 126 := by
 induction m with
 | zero =>
  intro k s h b hb
  have : s.length = 0 := h.symm
  rw [List.length_eq_zero_iff.1 this] at hb
  cases hb
 | succ m ih =>
  intro k s h b hb
  cases e : dec k s with
  | none =>
   rw [all_none e] at h
   have : s.length = 0 := h.symm
   rw [List.length_eq_zero_iff.1 this] at hb
   cases hb
  | some x =>
   obtain ⟨c, r, n⟩ := x
   rw [all_some e, tot_cons] at h
   obtain ⟨h1, h2, ⟨t, ht⟩, h4⟩ := dec_some.1 e
   have hd : s.drop n = t := by rw [← ht, h4, List.drop_left]
   have hl : s.length = n + t.length := by rw [← ht, List.length_append, h4]
   simp only [hd] at h
   rw [← ht] at hb
   rcases List.mem_append.1 hb with hb | hb
   ·
    exact enc_byte h2 b hb
   ·
    exact ih (k + 1) t (by omega) b hb
theorem all_take (m : Nat) : ∀ (k : Nat) (s : List UInt8) (j : Nat), ∃ r, all m k s = all m k (s.take j) ++ r := by
 induction m with
 | zero => intro k s j; exact ⟨[], rfl⟩
 | succ m ih =>
  intro k s j
  cases e : dec k (s.take j) with
  | none => exact ⟨_, by rw [all_none e]; rfl⟩
  | some x =>
   have e2 := dec_prefix (List.take_prefix j s) e
   obtain ⟨r, hr⟩ := ih (k + 1) (s.drop x.2.2) (j - x.2.2)
   refine ⟨r, ?_⟩
   rw [all_some e, all_some e2, List.drop_take, hr, List.cons_append]
theorem dec_flip {k : Nat} {t : List UInt8} {c : UInt8} (hc : 127 ≤ c.toNat) : dec k (t ++ [c]) = dec k t := by
 cases e : dec k (t ++ [c]) with
 | none =>
  cases e2 : dec k t with
  | none => rfl
  | some x => rw [dec_app [c] e2] at e; cases e
 | some x =>
  obtain ⟨a, r, n⟩ := x
  obtain ⟨h1, h2, ⟨u, hu⟩, h4⟩ := dec_some.1 e
  have hn : n ≤ t.length := by
   rcases Nat.lt_or_ge t.length n with h | h
   ·
    have l := congrArg List.length hu
    rw [List.length_append, List.length_append, List.length_singleton, ← h4] at l
    have : u = [] := List.length_eq_zero_iff.1 (by omega)
    subst this
    rw [List.append_nil] at hu
    have := enc_byte h2 c (by rw [hu]; simp)
    omega
   ·
    exact h
  have := dec_cut e (m := t.length) hn
  rw [List.take_left] at this
  exact this.symm
theorem all_flip (m : Nat) : ∀ (k : Nat) (t : List UInt8) {c : UInt8}, 127 ≤ c.toNat → all m k (t ++ [c]) = all m k t := by
 induction m with
 | zero => intro k t c hc; rfl
 | succ m ih =>
  intro k t c hc
  cases e : dec k t with
  | none => rw [all_none e, all_none ((dec_flip hc).trans e)]
  | some x =>
   have := (dec_le (c := x.1) (r := x.2.1) (n := x.2.2) e).1
   rw [all_some e, all_some ((dec_flip hc).trans e), List.drop_append_of_le_length this, ih _ _ hc]
theorem all_recov (m : Nat) : ∀ (k : Nat) (s : List UInt8), all m k (s.take (tot (all m k s))) = all m k s := by
 induction m with
 | zero => intro k s; rfl
 | succ m ih =>
  intro k s
  cases e : dec k s with
  | none => rw [all_none e]; exact all_nil _ _
  | some x =>
   rw [all_some e, tot_cons]
   have e2 : dec k (s.take (x.2.2 + tot (all m (k + 1) (s.drop x.2.2)))) = some x := dec_cut e (Nat.le_add_right _ _)
   rw [all_some e2, List.drop_take, Nat.add_sub_cancel_left, ih]
theorem good_recov (s : List UInt8) : Good (recov s) [] ((all 60 0 s).length : Int) := by
 have h := all_recov 60 0 s
 have ht := all_tot 60 0 s
 unfold Good recov
 rw [List.append_nil, h, List.length_take]
 omega
theorem take_flip (P : List UInt8) (n : Nat) (h0 : 0 < n) (h1 : n ≤ P.length) : ∃ b, b ∈ P ∧ flipL_ (P.take n) = P.take (n - 1) ++ [255 - b] := by
 have hl : (P.take n).length = n := by rw [List.length_take]; omega
 refine ⟨P[n - 1]'(by omega), List.getElem_mem _, ?_⟩
 unfold flipL_
 rw [hl]
 have e : P.take n = P.take (n - 1) ++ [P[n - 1]'(by omega)] := by
  rw [List.take_append_getElem (by omega), show n - 1 + 1 = n by omega]
 have l1 : (P.take (n - 1)).length = n - 1 := by rw [List.length_take]; omega
 rw [e, List.set_append_right _ _ (by omega), l1, Nat.sub_self, List.getD_eq_getElem?_getD, List.getElem?_append_right (by omega), l1, Nat.sub_self]
 rfl
theorem crash_all {D P : List UInt8} {C : Int} (g : Good D P C) {n : Nat} (hn : n ≤ P.length) (b : Bool) :
  ∃ r, all 60 0 (D ++ P) = all 60 0 (D ++ crashP P n b) ++ r ∧ D.length ≤ tot (all 60 0 (D ++ crashP P n b)) := by
 have hD : ∀ X, D.length ≤ tot (all 60 0 (D ++ X)) := fun X => by
  rw [all_app 60 0 D X g.2.1, tot_app]
  have := g.2.1
  omega
 have ht : ∀ j, ∃ r, all 60 0 (D ++ P) = all 60 0 (D ++ P.take j) ++ r := fun j => by
  obtain ⟨r, hr⟩ := all_take 60 0 (D ++ P) (D.length + j)
  rw [List.take_append, List.take_of_length_le (Nat.le_add_right _ _), Nat.add_sub_cancel_left] at hr
  exact ⟨r, hr⟩
 unfold crashP
 by_cases t : b = true ∧ 0 < n
 ·
  rw [if_pos t]
  obtain ⟨x, hx, e⟩ := take_flip P n t.2 hn
  have hb := all_byte 60 0 (D ++ P) g.1 x (List.mem_append_right _ hx)
  have hc : 127 ≤ (255 - x).toNat := by
   rw [UInt8.toNat_sub_of_le _ _ (by show x.toNat ≤ 255; omega)]
   show 127 ≤ 255 - x.toNat
   omega
  obtain ⟨r, hr⟩ := ht (n - 1)
  rw [e, ← List.append_assoc, all_flip 60 0 _ hc]
  exact ⟨r, hr, hD _⟩
 ·
  rw [if_neg t]
  obtain ⟨r, hr⟩ := ht n
  exact ⟨r, hr, hD _⟩
end Go.Proofs.YtdpinnhgkocjhaaDoor.Pr.Pure

