/-
What is proved: parts of the law FnLogLines: what the functions that it reaches compute, and the plain law.
Conditions: those of each theorem.
-/
import Derived.ChangeArms
import Derived.ChangeSlices
import Derived.Deep.Slices
import Derived.Lib.Bytealg
import Derived.Lib.ItoaNum
import Derived.RowKit
import Derived.SizedLaws
import Derived.WideShapes
import Derived.Test.YtdpinnhgkocjhaaDoorCFnLogLines2
namespace Go.Proofs.YtdpinnhgkocjhaaDoor.Pr
open Go.RowKit Go.Proofs.YtdpinnhgkocjhaaDoorW.PrintWords Go.Proofs.YtdpinnhgkocjhaaDoorW.PrintLast Go.Proofs.YtdpinnhgkocjhaaDoorW.PrintMore
attribute [local go_sem] max2_int min2_int max_two min_two max_three min_three max_four min_four   -- for this text's walks alone
set_option linter.unusedVariables false
set_option linter.unusedSimpArgs false
def spec_l1Cur_log.l0 : Nat → Int → List Int → Int → Int → ByteArray → ByteArray → Int → Option (ByteArray × ByteArray × Int × Int × Int)
 | 0, _, _, _, _, _, _, _ => none
 | k + 1, x4, x1000, x1001, x1002, x493000, x493001, x493002 => if x4 > 0 then ((spec_l1Cur_logRecord.f x1000 x1001 x1002).bind fun bt496 => ((spec_AppendRecord.f k x493000 x493001 x493002 bt496.1 bt496.2.1).bind fun bt500 => ((spec_l1Cur_one.f x1000 bt496.2.2.1 bt496.2.2.2 4).bind fun bt504 => (if bt504.1 = true then ((spec_SyncLog.f k bt500.1 bt500.2.1 bt500.2.2.1).bind fun bt507 => (spec_l1Cur_log.l0 k (wrap64 (x4 - 1)) x1000 bt504.2.1 bt504.2.2 bt507.1 bt507.2.1 bt507.2.2.1)) else (spec_l1Cur_log.l0 k (wrap64 (x4 - 1)) x1000 bt504.2.1 bt504.2.2 bt500.1 bt500.2.1 bt500.2.2.1))))) else (some (x493000, x493001, x493002, x1001, x1002))
def spec_l1Cur_log.f (k : Nat) (s0_0 : List Int) (s0_1 : Int) (s0_2 : Int) : Option (ByteArray × ByteArray × Int × Int × Int) := (spec_l1Cur_pick.f s0_0 s0_1 s0_2 7).bind fun bt493 => (spec_l1Cur_log.l0 k bt493.1 s0_0 bt493.2.1 bt493.2.2 (⟨#[]⟩ : ByteArray) (⟨#[]⟩ : ByteArray) 0)
def spec_l1Cur_log.T5 : Bool × List (List Nat × List Nat) := (true, [([], []), ([], []), ([1], [1]), ([0, 2, 2], [0, 2]), ([3], [3]), ([4], [4]), ([4], [4]), ([5, 3, 0, 1, 2, 3, 4, 5], [5])])
def spec_l1Cur_log.B5 : List Nat := [0, 0, 2, 7, 15, 31, 31, 63]
theorem spec_l1Cur_log.tab5 : rtab .any (opsOf Tryd.f60 5) = spec_l1Cur_log.T5 := by kernel_rfl
theorem spec_l1Cur_log.bits5 : waitsOk spec_l1Cur_log.T5.2 spec_l1Cur_log.B5 = true := by kernel_rfl
set_option maxHeartbeats 8000000 in
set_option maxRecDepth 100000 in
theorem spec_l1Cur_log.calls (k : Nat) (g : Nat) (s0_0 : List Int) (s0_1 : Int) (s0_2 : Int) (r1 : ByteArray) (r2 : ByteArray) (r3 : Int) (r4 : Int) (r5 : Int) (w0 w : World) (hI : IsS74 w0 w g s0_0 s0_1 s0_2) (hB : Below w0.heap.size w0 w) (h : spec_l1Cur_log.f k s0_0 s0_1 s0_2 = some (r1, r2, r3, r4, r5)) :
  Calls Tryd.prog 60 #[.pointer (some ⟨g, 0, none⟩)] w fun e w' => e = .returned (.agg #[.string r1, .string r2, .int .i64 r3]) ∧ IsS74 w0 w' g s0_0 r4 r5 ∧ Below w0.heap.size w0 w' ∧ KeepBut w w' g none := by
 have hu31 := Tryd.underlying31
 have HI0 := Aside0.mk hI
 have HK := Aside0.mk (KeepBut.refl w g none)
 have HL := Aside0.mk hB.size
 clear hI
 have HW0 := Aside0.mk hB.size
 have HB := Aside0.mk hB
 clear hB
 have H : ((spec_l1Cur_pick.f s0_0 s0_1 s0_2 7).bind fun bt493 => (spec_l1Cur_log.l0 k bt493.1 s0_0 bt493.2.1 bt493.2.2 (⟨#[]⟩ : ByteArray) (⟨#[]⟩ : ByteArray) 0)) = some (r1, r2, r3, r4, r5) := h
 clear h
 replace H := Option.bind_eq_some_iff.mp H
 obtain ⟨⟨t493, t494, t495⟩, A20, H⟩ := H
 replace H : (spec_l1Cur_log.l0 k t493 s0_0 t494 t495 (⟨#[]⟩ : ByteArray) (⟨#[]⟩ : ByteArray) 0) = some (r1, r2, r3, r4, r5) := H
 have A2 := Aside0.mk A20
 clear A20
 have H' := Aside0.mk H
 clear H
 go_enter Tryd.func60, Tryd.ntmps60
 go_wp2_with (first | ((with_reducible refine gate_dst (N := 2) rfl ?_); refine box_event ?hg (N := 2) ?hd (cs := #[.string (⟨#[]⟩ : ByteArray), .string (⟨#[]⟩ : ByteArray), .int .i64 0]) (t := 31) ?hr ?_; (case hd => rfl); (case hg => rfl); (case hr => first | (go_simp; done) | (go_simp; rfl)); intro gb491 hg w3 hbox hb; replace HB := Aside0.mk (below_step (lb1_ HB.out (IsS74.ge HI0.out)) hb); have BK491 := Aside0.mk (hbox); have GW491 := Aside0.mk ((by rw [hg]; exact (keep_size (w := w) (g := g) (row := none) (kb0_ HK.out)) : w.heap.size ≤ gb491)); have GE491 := Aside0.mk ((Nat.le_trans HW0.out (by rw [hg]; exact (keep_size (w := w) (g := g) (row := none) (kb0_ HK.out)) : w.heap.size ≤ gb491) : w0.heap.size ≤ gb491)); replace HK := Aside0.mk (KeepBut.trans (kb0_ HK.out) (KeepBut.of_below hb g none) (.inl rfl)); have NB0_491 := Aside0.mk ((by rw [hg]; exact Nat.ne_of_lt (IsS74.lt (show IsS74 w0 _ g s0_0 s0_1 s0_2 from is74_0 HI0.out)) : g ≠ gb491)); have NB491_0 := Aside0.mk ((by rw [hg]; exact Nat.ne_of_gt (IsS74.lt (show IsS74 w0 _ g s0_0 s0_1 s0_2 from is74_0 HI0.out)) : gb491 ≠ g)); replace HI0 := Aside0.mk (IsS74.below (is74_0 HI0.out) hb); clear hb hbox hg) | ((with_reducible refine gate_dst (N := 3) rfl ?_); refine box_event ?hg (N := 3) ?hd (cs := #[.string (⟨#[]⟩ : ByteArray), .string (⟨#[]⟩ : ByteArray), .int .i64 0]) (t := 31) ?hr ?_; (case hd => rfl); (case hg => rfl); (case hr => first | (go_simp; done) | (go_simp; rfl)); intro gb492 hg w4 hbox hb; replace HB := Aside0.mk (below_step (lb2_ HB.out (IsS74.ge HI0.out) GE491.out) hb); have BK492 := Aside0.mk (hbox); have GW492 := Aside0.mk ((by rw [hg]; exact (keep_size (w := w) (g := g) (row := none) (kb1_ HK.out GW491.out)) : w.heap.size ≤ gb492)); have GE492 := Aside0.mk ((Nat.le_trans HW0.out (by rw [hg]; exact (keep_size (w := w) (g := g) (row := none) (kb1_ HK.out GW491.out)) : w.heap.size ≤ gb492) : w0.heap.size ≤ gb492)); replace HK := Aside0.mk (KeepBut.trans (kb1_ HK.out GW491.out) (KeepBut.of_below hb g none) (.inl rfl)); have NB491_492 := Aside0.mk ((by rw [hg]; exact Nat.ne_of_lt (blk_lt (g := gb491) (o := .cells #[.string (⟨#[]⟩ : ByteArray), .string (⟨#[]⟩ : ByteArray), .int .i64 0] 31 (0, 0)) (bk_ BK491.out)) : gb491 ≠ gb492)); have NB492_491 := Aside0.mk ((by rw [hg]; exact Nat.ne_of_gt (blk_lt (g := gb491) (o := .cells #[.string (⟨#[]⟩ : ByteArray), .string (⟨#[]⟩ : ByteArray), .int .i64 0] 31 (0, 0)) (bk_ BK491.out)) : gb492 ≠ gb491)); replace BK491 := Aside0.mk (bb_ (bk_ BK491.out) hb); have NB0_492 := Aside0.mk ((by rw [hg]; exact Nat.ne_of_lt (IsS74.lt (show IsS74 w0 _ g s0_0 s0_1 s0_2 from is74_1 HI0.out NB0_491.out)) : g ≠ gb492)); have NB492_0 := Aside0.mk ((by rw [hg]; exact Nat.ne_of_gt (IsS74.lt (show IsS74 w0 _ g s0_0 s0_1 s0_2 from is74_1 HI0.out NB0_491.out)) : gb492 ≠ g)); replace HI0 := Aside0.mk (IsS74.below (is74_1 HI0.out NB0_491.out) hb); clear hb hbox hg; have hnb5 := NB492_491.out; have hnc5 := NB491_492.out; have hnb6 := NB492_0.out; have hnc6 := NB0_492.out; obtain ⟨hcz7_0, hcz7_1, hcz7_2⟩ := cz3_ BK492.out; obtain ⟨hfz7_0, hfz7_1, hfz7_2⟩ := fz3_ BK492.out) | ((with_reducible refine gate_callee (f := 55) rfl ?_); refine ga_ (some 7) Tryd.func55 #[.pointer (some ⟨g, 0, none⟩), .int .i64 7] ?_; (with_reducible refine (spec_l1Cur_pick.calls g s0_0 s0_1 s0_2 7 t493 t494 t495 w0 _ ?side1 ?side2 A2.out).mono ?_); (case side1 => exact is74_2 HI0.out NB0_491.out NB0_492.out); (case side2 => exact lb3_ HB.out (IsS74.ge HI0.out) GE491.out GE492.out); rintro e w8 ⟨rfl, hi, hb, hk⟩; refine ⟨_, rfl, ?_⟩; replace BK491 := Aside0.mk (KeepBut.blk hk (g' := gb491) (o := .cells #[.string (⟨#[]⟩ : ByteArray), .string (⟨#[]⟩ : ByteArray), .int .i64 0] 31 (0, 0)) (by (with_reducible repeat (first | refine blk_drewN ?_ _ | refine blk_drew ?_ | refine blk_alloc ?_ _)); refine blk_far ?_ NB491_492.out _; (with_reducible repeat (first | refine blk_drewN ?_ _ | refine blk_drew ?_ | refine blk_alloc ?_ _)); refine blk_far ?_ NB491_492.out _; (with_reducible repeat (first | refine blk_drewN ?_ _ | refine blk_drew ?_ | refine blk_alloc ?_ _)); refine blk_far ?_ NB491_492.out _; (with_reducible repeat (first | refine blk_drewN ?_ _ | refine blk_drew ?_ | refine blk_alloc ?_ _)); exact BK491.out) NB491_0.out (by simp)); replace BK492 := Aside0.mk (KeepBut.blk hk (g' := gb492) (o := .cells #[.string (⟨#[]⟩ : ByteArray), .string (⟨#[]⟩ : ByteArray), .int .i64 0] 31 (0, 0)) (by (with_reducible repeat (first | refine blk_drewN ?_ _ | refine blk_drew ?_ | refine blk_alloc ?_ _)); refine blk_put (cs := #[.string (⟨#[]⟩ : ByteArray), .string (⟨#[]⟩ : ByteArray), .int .i64 0]) ?_ 2 _ rfl; (with_reducible repeat (first | refine blk_drewN ?_ _ | refine blk_drew ?_ | refine blk_alloc ?_ _)); refine blk_put (cs := #[.string (⟨#[]⟩ : ByteArray), .string (⟨#[]⟩ : ByteArray), .int .i64 0]) ?_ 1 _ rfl; (with_reducible repeat (first | refine blk_drewN ?_ _ | refine blk_drew ?_ | refine blk_alloc ?_ _)); refine blk_put (cs := #[.string (⟨#[]⟩ : ByteArray), .string (⟨#[]⟩ : ByteArray), .int .i64 0]) ?_ 0 _ rfl; (with_reducible repeat (first | refine blk_drewN ?_ _ | refine blk_drew ?_ | refine blk_alloc ?_ _)); exact BK492.out) NB492_0.out (by simp)); replace HK := Aside0.mk (KeepBut.trans (kb2_ HK.out GW491.out GW492.out) hk (.inl rfl)); replace HB := Aside0.mk (hb); replace HI0 := Aside0.mk (hi); (try clear hb); (try clear hb2); (try clear hk); (try clear hi)))
 go_loopg [4] k (fun kq v4 w' => ∃ (x4_1 : Int) (x1001_1 : Int) (x1002_1 : Int) (x493000_1 : ByteArray) (x493001_1 : ByteArray) (x493002_1 : Int), v4 = .int .i64 x4_1 ∧ Aside0 (spec_l1Cur_log.l0 kq x4_1 s0_0 x1001_1 x1002_1 x493000_1 x493001_1 x493002_1 = some (r1, r2, r3, r4, r5)) ∧ Aside0 (kq ≤ k) ∧ Aside0 (w'.heap[gb491]? = some (.cells #[.string (⟨#[]⟩ : ByteArray), .string (⟨#[]⟩ : ByteArray), .int .i64 0] 31 (0, 0))) ∧ Aside0 (w'.heap[gb492]? = some (.cells #[.string x493000_1, .string x493001_1, .int .i64 x493002_1] 31 (0, 0))) ∧ Aside0 (IsS74 w0 w' g s0_0 x1001_1 x1002_1) ∧ Aside0 (KeepBut w w' g none) ∧ Aside0 (Below w0.heap.size w0 w'))
 case atStart => exact ⟨(t493), (t494), (t495), ((⟨#[]⟩ : ByteArray)), ((⟨#[]⟩ : ByteArray)), (0), (by first | rfl | (simp; done) | (simp [*]; done)), H', ⟨Nat.le_refl _⟩, ⟨bk_ BK491.out⟩, ⟨bk_ BK492.out⟩, ⟨is74_2 HI0.out NB0_491.out NB0_492.out⟩, ⟨kb2_ HK.out GW491.out GW492.out⟩, ⟨lb3_ HB.out (IsS74.ge HI0.out) GE491.out GE492.out⟩⟩
 case round =>
  clear H'
  try clear p2
  try clear c5
  try clear c6
  try clear hcz7_0 hcz7_1 hcz7_2
  try clear hfz7_0 hfz7_1 hfz7_2
  obtain ⟨x4_1, x1001_1, x1002_1, x493000_1, x493001_1, x493002_1, rfl, HA, HK1, BK491, BK492, HI0, HK, HB⟩ := hrel
  cases gk with
  | zero => exact absurd HA.out (by simp [spec_l1Cur_log.l0])
  | succ k1 =>
   have H := HA.out
   clear HA
   simp only [spec_l1Cur_log.l0] at H
   by_cases c9 : x4_1 > 0
   ·
    rw [if_pos c9] at H
    have c9b0 : decide (0 < x4_1) = true := decide_eq_true c9
    clear c9
    replace H := Option.bind_eq_some_iff.mp H
    obtain ⟨⟨t496, t497, t498, t499⟩, A100, H⟩ := H
    replace H : ((spec_AppendRecord.f k1 x493000_1 x493001_1 x493002_1 t496 t497).bind fun bt500 => ((spec_l1Cur_one.f s0_0 t498 t499 4).bind fun bt504 => (if bt504.1 = true then ((spec_SyncLog.f k1 bt500.1 bt500.2.1 bt500.2.2.1).bind fun bt507 => (spec_l1Cur_log.l0 k1 (wrap64 (x4_1 - 1)) s0_0 bt504.2.1 bt504.2.2 bt507.1 bt507.2.1 bt507.2.2.1)) else (spec_l1Cur_log.l0 k1 (wrap64 (x4_1 - 1)) s0_0 bt504.2.1 bt504.2.2 bt500.1 bt500.2.1 bt500.2.2.1)))) = some (r1, r2, r3, r4, r5) := H
    have A10 := Aside0.mk A100
    clear A100
    replace H := Option.bind_eq_some_iff.mp H
    obtain ⟨⟨t500, t501, t502, t503⟩, A110, H⟩ := H
    replace H : ((spec_l1Cur_one.f s0_0 t498 t499 4).bind fun bt504 => (if bt504.1 = true then ((spec_SyncLog.f k1 t500 t501 t502).bind fun bt507 => (spec_l1Cur_log.l0 k1 (wrap64 (x4_1 - 1)) s0_0 bt504.2.1 bt504.2.2 bt507.1 bt507.2.1 bt507.2.2.1)) else (spec_l1Cur_log.l0 k1 (wrap64 (x4_1 - 1)) s0_0 bt504.2.1 bt504.2.2 t500 t501 t502))) = some (r1, r2, r3, r4, r5) := H
    have A11 := Aside0.mk A110
    clear A110
    replace H := Option.bind_eq_some_iff.mp H
    obtain ⟨⟨t504, t505, t506⟩, A120, H⟩ := H
    replace H : (if t504 = true then ((spec_SyncLog.f k1 t500 t501 t502).bind fun bt507 => (spec_l1Cur_log.l0 k1 (wrap64 (x4_1 - 1)) s0_0 t505 t506 bt507.1 bt507.2.1 bt507.2.2.1)) else (spec_l1Cur_log.l0 k1 (wrap64 (x4_1 - 1)) s0_0 t505 t506 t500 t501 t502)) = some (r1, r2, r3, r4, r5) := H
    have A12 := Aside0.mk A120
    clear A120
    by_cases c13 : t504 = true
    ·
     subst c13
     have H1 : ((spec_SyncLog.f k1 t500 t501 t502).bind fun bt507 => (spec_l1Cur_log.l0 k1 (wrap64 (x4_1 - 1)) s0_0 t505 t506 bt507.1 bt507.2.1 bt507.2.2.1)) = some (r1, r2, r3, r4, r5) := by rw [if_pos rfl] at H; exact H
     clear H
     have H := H1
     clear H1
     replace H := Option.bind_eq_some_iff.mp H
     obtain ⟨⟨t507, t508, t509, t510⟩, A140, H⟩ := H
     replace H : (spec_l1Cur_log.l0 k1 (wrap64 (x4_1 - 1)) s0_0 t505 t506 t507 t508 t509) = some (r1, r2, r3, r4, r5) := H
     have A14 := Aside0.mk A140
     clear A140
     have H' := Aside0.mk H
     clear H
     try go_wp2
     replace BK491 := Aside0.mk (blk_drew BK491.out)
     replace BK492 := Aside0.mk (blk_drew BK492.out)
     replace HI0 := Aside0.mk (IsS74.drew HI0.out)
     replace HK := Aside0.mk (keep_drew HK.out)
     replace HB := Aside0.mk (below_drew1 HB.out)
     refine start_ (n := 8) (S := fun w' => w'.cell? ⟨gb492, 0, none⟩ = some (.string x493000_1) ∧ w'.cell? ⟨gb492, 1, none⟩ = some (.string x493001_1) ∧ w'.cell? ⟨gb492, 2, none⟩ = some (.int .i64 x493002_1)) (ds := [7]) #[false, false, false, false, false, false, false, false] (by kernel_rfl) rfl rfl ⟨(blk_cell BK492.out 0).trans rfl, (blk_cell BK492.out 1).trans rfl, (blk_cell BK492.out 2).trans rfl⟩ (fun hHeld => ?_); refine with_tabW spec_l1Cur_log.tab5 spec_l1Cur_log.bits5 (fun HT_ HW_ => ?_)
     generalize wr.drew = w15 at BK491 BK492 HI0 HK HB hHeld ⊢
     refine pz_ HT_ 1 (some 14) #[false, true, false, false, false, false, false, false] ?_
     refine take_ (i := 0) (N := some 13) (v := ?_) (a' := ?_) #[true, true, false, false, false, false, false, false] rfl rfl (take_ofW HT_.out HW_.out (by kernel_rfl)) (fun _ _ _ h => h) (Or.inl ⟨by rfl, ?_⟩) hHeld ?_ ?_
     rotate_left
     ·
      rintro w' ⟨s0, s1, s2⟩
      go_simp
      with_reducible rfl
     rotate_left
     ·
      simp only [Act.put, List.setIfInBounds_toArray, List.set_cons_zero, List.set_cons_succ, i64_w, i32_w]
      rfl
     refine one_ (i := 2) (N := some 15) #[true, true, true, false, false, false, false, false] rfl rfl (one_of HT_.out (by kernel_rfl)) (by decide) (fun K hK => ?_)
     refine gs_ Tryd.func56 #[.pointer (some ⟨g, 0, none⟩)] ?_
     with_reducible refine (spec_l1Cur_logRecord.calls g s0_0 x1001_1 x1002_1 t496 t497 t498 t499 w0 _ ?side1 ?side2 A10.out).mono ?_
     (case side1 => exact is74_2 HI0.out NB0_491.out NB0_492.out)
     (case side2 => exact lb3_ HB.out (IsS74.ge HI0.out) GE491.out GE492.out)
     rintro e w16 ⟨rfl, hi, hb, hk⟩
     refine ⟨_, rfl, ?_⟩
     replace BK491 := Aside0.mk (KeepBut.blk hk (g' := gb491) (o := .cells #[.string (⟨#[]⟩ : ByteArray), .string (⟨#[]⟩ : ByteArray), .int .i64 0] 31 (0, 0)) (bk_ BK491.out) NB491_0.out (by simp))
     replace BK492 := Aside0.mk (KeepBut.blk hk (g' := gb492) (o := .cells #[.string x493000_1, .string x493001_1, .int .i64 x493002_1] 31 (0, 0)) (bk_ BK492.out) NB492_0.out (by simp))
     replace HK := Aside0.mk (KeepBut.trans (kb2_ HK.out GW491.out GW492.out) hk (.inl rfl))
     replace HB := Aside0.mk (hb)
     replace HI0 := Aside0.mk (hi)
     (try clear hb)
     (try clear hb2)
     (try clear hk)
     (try clear hi)
     refine hK.out _ _ ⟨(blk_cell BK492.out 0).trans rfl, (blk_cell BK492.out 1).trans rfl, (blk_cell BK492.out 2).trans rfl⟩ (fun hHeld => ?_)
     clear hK K
     refine na_ ?_
     refine one_ (i := 3) (N := some 16) #[true, true, true, true, false, false, false, false] rfl rfl (one_of HT_.out (by kernel_rfl)) (by decide) (fun K hK => ?_)
     refine gs_ Tryd.func28 #[.agg #[.string x493000_1, .string x493001_1, .int .i64 x493002_1], .agg #[.string t496, .string t497]] ?_
     with_reducible refine (spec_AppendRecord.calls k1 x493000_1 x493001_1 x493002_1 t496 t497 t500 t501 t502 t503 _ A11.out).mono ?_
     rintro e w17 ⟨rfl, hb⟩
     refine ⟨_, rfl, ?_⟩
     replace BK491 := Aside0.mk (bb_ (bk_ BK491.out) hb)
     replace BK492 := Aside0.mk (bb_ (bk_ BK492.out) hb)
     replace HK := Aside0.mk (KeepBut.trans (kb2_ HK.out GW491.out GW492.out) (KeepBut.of_below hb g none) (.inl rfl))
     replace HB := Aside0.mk (below_step (lb3_ HB.out (IsS74.ge HI0.out) GE491.out GE492.out) hb)
     replace HI0 := Aside0.mk (IsS74.below (is74_2 HI0.out NB0_491.out NB0_492.out) hb)
     (try clear hb)
     (try clear hb2)
     (try clear hk)
     (try clear hi)
     refine hK.out _ _ ⟨(blk_cell BK492.out 0).trans rfl, (blk_cell BK492.out 1).trans rfl, (blk_cell BK492.out 2).trans rfl⟩ (fun hHeld => ?_)
     clear hK K
     refine na_ ?_
     refine pz_ HT_ 4 (some 12) #[true, true, true, true, true, false, false, false] ?_
     refine pz_ HT_ 5 (some 17) #[true, true, true, true, true, true, false, false] ?_
     refine pz_ HT_ 6 (some 18) #[true, true, true, true, true, true, true, false] ?_
     refine last_ (i := 7) (N := none) #[true, true, true, true, true, true, true, true] rfl rfl (one_of HT_.out (by kernel_rfl)) (by decide) (fun K hK => ?_)
     have hs18 : w17.cell? ⟨gb492, 0, none⟩ = some (.string x493000_1) := (blk_cell BK492.out 0).trans rfl
     have hfs18 := blk_frozen BK492.out 0
     have hns18_0 := NB491_492.out
     have hms18_0 := NB492_491.out
     have hs19 : w17.cell? ⟨gb492, 1, none⟩ = some (.string x493001_1) := (blk_cell BK492.out 1).trans rfl
     have hfs19 := blk_frozen BK492.out 1
     have hns19_0 := NB491_492.out
     have hms19_0 := NB492_491.out
     have hs20 : w17.cell? ⟨gb492, 2, none⟩ = some (.int .i64 x493002_1) := (blk_cell BK492.out 2).trans rfl
     have hfs20 := blk_frozen BK492.out 2
     have hns20_0 := NB491_492.out
     have hms20_0 := NB492_491.out
     refine skip_ (w1 := ?_) (by rfl) rfl ?_ ?_
     rotate_left
     ·
      go_simp
      rfl
     refine hK.out _ _ ?_
     clear hK K
     refine done_ (done_of HT_.out (by kernel_rfl)) ?_
     try go_wp2_with (first | ((with_reducible refine gate_callee (f := 54) rfl ?_); refine ga_ (some 20) Tryd.func54 #[.pointer (some ⟨g, 0, none⟩), .int .i64 4] ?_; (with_reducible refine (spec_l1Cur_one.calls g s0_0 t498 t499 4 true t505 t506 w0 _ ?side1 ?side2 A12.out).mono ?_); (case side1 => exact is74_2 HI0.out NB0_491.out NB0_492.out); (case side2 => exact lb3_ HB.out (IsS74.ge HI0.out) GE491.out GE492.out); rintro e w21 ⟨rfl, hi, hb, hk⟩; refine ⟨_, rfl, ?_⟩; replace BK491 := Aside0.mk (KeepBut.blk hk (g' := gb491) (o := .cells #[.string (⟨#[]⟩ : ByteArray), .string (⟨#[]⟩ : ByteArray), .int .i64 0] 31 (0, 0)) (by (with_reducible repeat (first | refine blk_drewN ?_ _ | refine blk_drew ?_ | refine blk_alloc ?_ _)); refine blk_far ?_ NB491_492.out _; (with_reducible repeat (first | refine blk_drewN ?_ _ | refine blk_drew ?_ | refine blk_alloc ?_ _)); refine blk_far ?_ NB491_492.out _; (with_reducible repeat (first | refine blk_drewN ?_ _ | refine blk_drew ?_ | refine blk_alloc ?_ _)); refine blk_far ?_ NB491_492.out _; (with_reducible repeat (first | refine blk_drewN ?_ _ | refine blk_drew ?_ | refine blk_alloc ?_ _)); exact BK491.out) NB491_0.out (by simp)); replace BK492 := Aside0.mk (KeepBut.blk hk (g' := gb492) (o := .cells #[.string t500, .string t501, .int .i64 t502] 31 (0, 0)) (by (with_reducible repeat (first | refine blk_drewN ?_ _ | refine blk_drew ?_ | refine blk_alloc ?_ _)); refine blk_put (cs := #[.string t500, .string t501, .int .i64 x493002_1]) ?_ 2 _ rfl; (with_reducible repeat (first | refine blk_drewN ?_ _ | refine blk_drew ?_ | refine blk_alloc ?_ _)); refine blk_put (cs := #[.string t500, .string x493001_1, .int .i64 x493002_1]) ?_ 1 _ rfl; (with_reducible repeat (first | refine blk_drewN ?_ _ | refine blk_drew ?_ | refine blk_alloc ?_ _)); refine blk_put (cs := #[.string x493000_1, .string x493001_1, .int .i64 x493002_1]) ?_ 0 _ rfl; (with_reducible repeat (first | refine blk_drewN ?_ _ | refine blk_drew ?_ | refine blk_alloc ?_ _)); exact BK492.out) NB492_0.out (by simp)); replace HK := Aside0.mk (KeepBut.trans (kb2_ HK.out GW491.out GW492.out) hk (.inl rfl)); replace HB := Aside0.mk (hb); replace HI0 := Aside0.mk (hi); (try clear hb); (try clear hb2); (try clear hk); (try clear hi); have hnb22 := NB492_491.out; have hnc22 := NB491_492.out; have hnb23 := NB492_0.out; have hnc23 := NB0_492.out; obtain ⟨hcz24_0, hcz24_1, hcz24_2⟩ := cz3_ BK492.out; obtain ⟨hfz24_0, hfz24_1, hfz24_2⟩ := fz3_ BK492.out) | ((with_reducible refine gate_callee (f := 26) rfl ?_); refine ga_ (some 23) Tryd.func26 #[.agg #[.string t500, .string t501, .int .i64 t502]] ?_; (with_reducible refine (spec_SyncLog.calls k1 t500 t501 t502 t507 t508 t509 t510 _ A14.out).mono ?_); rintro e w25 ⟨rfl, hb⟩; refine ⟨_, rfl, ?_⟩; replace BK491 := Aside0.mk (bb_ (bk_ BK491.out) hb); replace BK492 := Aside0.mk (bb_ (bk_ BK492.out) hb); replace HK := Aside0.mk (KeepBut.trans (kb2_ HK.out GW491.out GW492.out) (KeepBut.of_below hb g none) (.inl rfl)); replace HB := Aside0.mk (below_step (lb3_ HB.out (IsS74.ge HI0.out) GE491.out GE492.out) hb); replace HI0 := Aside0.mk (IsS74.below (is74_2 HI0.out NB0_491.out NB0_492.out) hb); (try clear hb); (try clear hb2); (try clear hk); (try clear hi); obtain ⟨hcz26_0, hcz26_1, hcz26_2⟩ := cz3_ BK492.out; obtain ⟨hfz26_0, hfz26_1, hfz26_2⟩ := fz3_ BK492.out))
     go_roundg k1
     case measure => have := HK1.out; omega
     case rel => exact ⟨(wrap64 (x4_1 - 1)), (t505), (t506), (t507), (t508), (t509), (by first | rfl | (simp; done) | (simp [*]; done)), H', ⟨by have := HK1.out; omega⟩, ⟨by (with_reducible repeat (first | refine blk_drewN ?_ _ | refine blk_drew ?_ | refine blk_alloc ?_ _)); refine blk_far ?_ NB491_492.out _; (with_reducible repeat (first | refine blk_drewN ?_ _ | refine blk_drew ?_ | refine blk_alloc ?_ _)); refine blk_far ?_ NB491_492.out _; (with_reducible repeat (first | refine blk_drewN ?_ _ | refine blk_drew ?_ | refine blk_alloc ?_ _)); refine blk_far ?_ NB491_492.out _; (with_reducible repeat (first | refine blk_drewN ?_ _ | refine blk_drew ?_ | refine blk_alloc ?_ _)); exact BK491.out⟩, ⟨by (with_reducible repeat (first | refine blk_drewN ?_ _ | refine blk_drew ?_ | refine blk_alloc ?_ _)); refine blk_put (cs := #[.string t507, .string t508, .int .i64 t502]) ?_ 2 _ rfl; (with_reducible repeat (first | refine blk_drewN ?_ _ | refine blk_drew ?_ | refine blk_alloc ?_ _)); refine blk_put (cs := #[.string t507, .string t501, .int .i64 t502]) ?_ 1 _ rfl; (with_reducible repeat (first | refine blk_drewN ?_ _ | refine blk_drew ?_ | refine blk_alloc ?_ _)); refine blk_put (cs := #[.string t500, .string t501, .int .i64 t502]) ?_ 0 _ rfl; (with_reducible repeat (first | refine blk_drewN ?_ _ | refine blk_drew ?_ | refine blk_alloc ?_ _)); exact BK492.out⟩, ⟨is74_2 HI0.out NB0_491.out NB0_492.out⟩, ⟨kb2_ HK.out GW491.out GW492.out⟩, ⟨lb3_ HB.out (IsS74.ge HI0.out) GE491.out GE492.out⟩⟩
    ·
     replace c13 := Bool.eq_false_iff.mpr c13
     subst c13
     have H1 : (spec_l1Cur_log.l0 k1 (wrap64 (x4_1 - 1)) s0_0 t505 t506 t500 t501 t502) = some (r1, r2, r3, r4, r5) := by rw [if_neg (show ¬ (false = true) by decide)] at H; exact H
     clear H
     have H := H1
     clear H1
     have H' := Aside0.mk H
     clear H
     try go_wp2
     replace BK491 := Aside0.mk (blk_drew BK491.out)
     replace BK492 := Aside0.mk (blk_drew BK492.out)
     replace HI0 := Aside0.mk (IsS74.drew HI0.out)
     replace HK := Aside0.mk (keep_drew HK.out)
     replace HB := Aside0.mk (below_drew1 HB.out)
     refine start_ (n := 8) (S := fun w' => w'.cell? ⟨gb492, 0, none⟩ = some (.string x493000_1) ∧ w'.cell? ⟨gb492, 1, none⟩ = some (.string x493001_1) ∧ w'.cell? ⟨gb492, 2, none⟩ = some (.int .i64 x493002_1)) (ds := [7]) #[false, false, false, false, false, false, false, false] (by kernel_rfl) rfl rfl ⟨(blk_cell BK492.out 0).trans rfl, (blk_cell BK492.out 1).trans rfl, (blk_cell BK492.out 2).trans rfl⟩ (fun hHeld => ?_); refine with_tabW spec_l1Cur_log.tab5 spec_l1Cur_log.bits5 (fun HT_ HW_ => ?_)
     generalize wr.drew = w27 at BK491 BK492 HI0 HK HB hHeld ⊢
     refine pz_ HT_ 1 (some 14) #[false, true, false, false, false, false, false, false] ?_
     refine take_ (i := 0) (N := some 13) (v := ?_) (a' := ?_) #[true, true, false, false, false, false, false, false] rfl rfl (take_ofW HT_.out HW_.out (by kernel_rfl)) (fun _ _ _ h => h) (Or.inl ⟨by rfl, ?_⟩) hHeld ?_ ?_
     rotate_left
     ·
      rintro w' ⟨s0, s1, s2⟩
      go_simp
      with_reducible rfl
     rotate_left
     ·
      simp only [Act.put, List.setIfInBounds_toArray, List.set_cons_zero, List.set_cons_succ, i64_w, i32_w]
      rfl
     refine one_ (i := 2) (N := some 15) #[true, true, true, false, false, false, false, false] rfl rfl (one_of HT_.out (by kernel_rfl)) (by decide) (fun K hK => ?_)
     refine gs_ Tryd.func56 #[.pointer (some ⟨g, 0, none⟩)] ?_
     with_reducible refine (spec_l1Cur_logRecord.calls g s0_0 x1001_1 x1002_1 t496 t497 t498 t499 w0 _ ?side1 ?side2 A10.out).mono ?_
     (case side1 => exact is74_2 HI0.out NB0_491.out NB0_492.out)
     (case side2 => exact lb3_ HB.out (IsS74.ge HI0.out) GE491.out GE492.out)
     rintro e w28 ⟨rfl, hi, hb, hk⟩
     refine ⟨_, rfl, ?_⟩
     replace BK491 := Aside0.mk (KeepBut.blk hk (g' := gb491) (o := .cells #[.string (⟨#[]⟩ : ByteArray), .string (⟨#[]⟩ : ByteArray), .int .i64 0] 31 (0, 0)) (bk_ BK491.out) NB491_0.out (by simp))
     replace BK492 := Aside0.mk (KeepBut.blk hk (g' := gb492) (o := .cells #[.string x493000_1, .string x493001_1, .int .i64 x493002_1] 31 (0, 0)) (bk_ BK492.out) NB492_0.out (by simp))
     replace HK := Aside0.mk (KeepBut.trans (kb2_ HK.out GW491.out GW492.out) hk (.inl rfl))
     replace HB := Aside0.mk (hb)
     replace HI0 := Aside0.mk (hi)
     (try clear hb)
     (try clear hb2)
     (try clear hk)
     (try clear hi)
     refine hK.out _ _ ⟨(blk_cell BK492.out 0).trans rfl, (blk_cell BK492.out 1).trans rfl, (blk_cell BK492.out 2).trans rfl⟩ (fun hHeld => ?_)
     clear hK K
     refine na_ ?_
     refine one_ (i := 3) (N := some 16) #[true, true, true, true, false, false, false, false] rfl rfl (one_of HT_.out (by kernel_rfl)) (by decide) (fun K hK => ?_)
     refine gs_ Tryd.func28 #[.agg #[.string x493000_1, .string x493001_1, .int .i64 x493002_1], .agg #[.string t496, .string t497]] ?_
     with_reducible refine (spec_AppendRecord.calls k1 x493000_1 x493001_1 x493002_1 t496 t497 t500 t501 t502 t503 _ A11.out).mono ?_
     rintro e w29 ⟨rfl, hb⟩
     refine ⟨_, rfl, ?_⟩
     replace BK491 := Aside0.mk (bb_ (bk_ BK491.out) hb)
     replace BK492 := Aside0.mk (bb_ (bk_ BK492.out) hb)
     replace HK := Aside0.mk (KeepBut.trans (kb2_ HK.out GW491.out GW492.out) (KeepBut.of_below hb g none) (.inl rfl))
     replace HB := Aside0.mk (below_step (lb3_ HB.out (IsS74.ge HI0.out) GE491.out GE492.out) hb)
     replace HI0 := Aside0.mk (IsS74.below (is74_2 HI0.out NB0_491.out NB0_492.out) hb)
     (try clear hb)
     (try clear hb2)
     (try clear hk)
     (try clear hi)
     refine hK.out _ _ ⟨(blk_cell BK492.out 0).trans rfl, (blk_cell BK492.out 1).trans rfl, (blk_cell BK492.out 2).trans rfl⟩ (fun hHeld => ?_)
     clear hK K
     refine na_ ?_
     refine pz_ HT_ 4 (some 12) #[true, true, true, true, true, false, false, false] ?_
     refine pz_ HT_ 5 (some 17) #[true, true, true, true, true, true, false, false] ?_
     refine pz_ HT_ 6 (some 18) #[true, true, true, true, true, true, true, false] ?_
     refine last_ (i := 7) (N := none) #[true, true, true, true, true, true, true, true] rfl rfl (one_of HT_.out (by kernel_rfl)) (by decide) (fun K hK => ?_)
     have hs30 : w29.cell? ⟨gb492, 0, none⟩ = some (.string x493000_1) := (blk_cell BK492.out 0).trans rfl
     have hfs30 := blk_frozen BK492.out 0
     have hns30_0 := NB491_492.out
     have hms30_0 := NB492_491.out
     have hs31 : w29.cell? ⟨gb492, 1, none⟩ = some (.string x493001_1) := (blk_cell BK492.out 1).trans rfl
     have hfs31 := blk_frozen BK492.out 1
     have hns31_0 := NB491_492.out
     have hms31_0 := NB492_491.out
     have hs32 : w29.cell? ⟨gb492, 2, none⟩ = some (.int .i64 x493002_1) := (blk_cell BK492.out 2).trans rfl
     have hfs32 := blk_frozen BK492.out 2
     have hns32_0 := NB491_492.out
     have hms32_0 := NB492_491.out
     refine skip_ (w1 := ?_) (by rfl) rfl ?_ ?_
     rotate_left
     ·
      go_simp
      rfl
     refine hK.out _ _ ?_
     clear hK K
     refine done_ (done_of HT_.out (by kernel_rfl)) ?_
     try go_wp2_with (first | ((with_reducible refine gate_callee (f := 54) rfl ?_); refine ga_ (some 20) Tryd.func54 #[.pointer (some ⟨g, 0, none⟩), .int .i64 4] ?_; (with_reducible refine (spec_l1Cur_one.calls g s0_0 t498 t499 4 false t505 t506 w0 _ ?side1 ?side2 A12.out).mono ?_); (case side1 => exact is74_2 HI0.out NB0_491.out NB0_492.out); (case side2 => exact lb3_ HB.out (IsS74.ge HI0.out) GE491.out GE492.out); rintro e w33 ⟨rfl, hi, hb, hk⟩; refine ⟨_, rfl, ?_⟩; replace BK491 := Aside0.mk (KeepBut.blk hk (g' := gb491) (o := .cells #[.string (⟨#[]⟩ : ByteArray), .string (⟨#[]⟩ : ByteArray), .int .i64 0] 31 (0, 0)) (by (with_reducible repeat (first | refine blk_drewN ?_ _ | refine blk_drew ?_ | refine blk_alloc ?_ _)); refine blk_far ?_ NB491_492.out _; (with_reducible repeat (first | refine blk_drewN ?_ _ | refine blk_drew ?_ | refine blk_alloc ?_ _)); refine blk_far ?_ NB491_492.out _; (with_reducible repeat (first | refine blk_drewN ?_ _ | refine blk_drew ?_ | refine blk_alloc ?_ _)); refine blk_far ?_ NB491_492.out _; (with_reducible repeat (first | refine blk_drewN ?_ _ | refine blk_drew ?_ | refine blk_alloc ?_ _)); exact BK491.out) NB491_0.out (by simp)); replace BK492 := Aside0.mk (KeepBut.blk hk (g' := gb492) (o := .cells #[.string t500, .string t501, .int .i64 t502] 31 (0, 0)) (by (with_reducible repeat (first | refine blk_drewN ?_ _ | refine blk_drew ?_ | refine blk_alloc ?_ _)); refine blk_put (cs := #[.string t500, .string t501, .int .i64 x493002_1]) ?_ 2 _ rfl; (with_reducible repeat (first | refine blk_drewN ?_ _ | refine blk_drew ?_ | refine blk_alloc ?_ _)); refine blk_put (cs := #[.string t500, .string x493001_1, .int .i64 x493002_1]) ?_ 1 _ rfl; (with_reducible repeat (first | refine blk_drewN ?_ _ | refine blk_drew ?_ | refine blk_alloc ?_ _)); refine blk_put (cs := #[.string x493000_1, .string x493001_1, .int .i64 x493002_1]) ?_ 0 _ rfl; (with_reducible repeat (first | refine blk_drewN ?_ _ | refine blk_drew ?_ | refine blk_alloc ?_ _)); exact BK492.out) NB492_0.out (by simp)); replace HK := Aside0.mk (KeepBut.trans (kb2_ HK.out GW491.out GW492.out) hk (.inl rfl)); replace HB := Aside0.mk (hb); replace HI0 := Aside0.mk (hi); (try clear hb); (try clear hb2); (try clear hk); (try clear hi)))
     go_roundg k1
     case measure => have := HK1.out; omega
     case rel => exact ⟨(wrap64 (x4_1 - 1)), (t505), (t506), (t500), (t501), (t502), (by first | rfl | (simp; done) | (simp [*]; done)), H', ⟨by have := HK1.out; omega⟩, ⟨bk_ BK491.out⟩, ⟨bk_ BK492.out⟩, ⟨is74_2 HI0.out NB0_491.out NB0_492.out⟩, ⟨kb2_ HK.out GW491.out GW492.out⟩, ⟨lb3_ HB.out (IsS74.ge HI0.out) GE491.out GE492.out⟩⟩
   ·
    rw [if_neg c9] at H
    have c9b0 : decide (0 < x4_1) = false := decide_eq_false c9
    clear c9
    simp only [Option.some.injEq, Prod.mk.injEq] at H
    obtain ⟨rfl, rfl, rfl, rfl, rfl⟩ := H
    have hnb34 := NB492_491.out
    have hnc34 := NB491_492.out
    have hnb35 := NB492_0.out
    have hnc35 := NB0_492.out
    obtain ⟨hcz36_0, hcz36_1, hcz36_2⟩ := cz3_ BK492.out
    obtain ⟨hfz36_0, hfz36_1, hfz36_2⟩ := fz3_ BK492.out
    have hnb37 := NB491_0.out
    have hnc37 := NB0_491.out
    obtain ⟨hcz38_0, hcz38_1, hcz38_2⟩ := cz3_ BK491.out
    obtain ⟨hfz38_0, hfz38_1, hfz38_2⟩ := fz3_ BK491.out
    go_wp2
    refine bodyPost_ret (results_cell_row rfl _ _ gb491 31 #[.string x493000_1, .string x493001_1, .int .i64 x493002_1] (0, 0) _ rfl (by (with_reducible repeat (first | refine blk_drewN ?_ _ | refine blk_drew ?_ | refine blk_alloc ?_ _)); refine blk_put (cs := #[.string x493000_1, .string x493001_1, .int .i64 0]) ?_ 2 _ rfl; (with_reducible repeat (first | refine blk_drewN ?_ _ | refine blk_drew ?_ | refine blk_alloc ?_ _)); refine blk_put (cs := #[.string x493000_1, .string (⟨#[]⟩ : ByteArray), .int .i64 0]) ?_ 1 _ rfl; (with_reducible repeat (first | refine blk_drewN ?_ _ | refine blk_drew ?_ | refine blk_alloc ?_ _)); refine blk_put (cs := #[.string (⟨#[]⟩ : ByteArray), .string (⟨#[]⟩ : ByteArray), .int .i64 0]) ?_ 0 _ rfl; (with_reducible repeat (first | refine blk_drewN ?_ _ | refine blk_drew ?_ | refine blk_alloc ?_ _)); exact BK491.out) Tryd.underlying31 rfl (by kernel_rfl)) rfl ?_
    exact ⟨rr_, is74_2 HI0.out NB0_491.out NB0_492.out, lb3_ HB.out (IsS74.ge HI0.out) GE491.out GE492.out, kb2_ HK.out GW491.out GW492.out⟩
end Go.Proofs.YtdpinnhgkocjhaaDoor.Pr

namespace Go.Proofs.YtdpinnhgkocjhaaDoor.Pr
open Go.RowKit Go.Proofs.YtdpinnhgkocjhaaDoorW.PrintWords Go.Proofs.YtdpinnhgkocjhaaDoorW.PrintLast Go.Proofs.YtdpinnhgkocjhaaDoorW.PrintMore
attribute [local go_sem] max2_int min2_int max_two min_two max_three min_three max_four min_four sc_in sx_in   -- for this text's walks alone
set_option linter.unusedVariables false
set_option linter.unusedSimpArgs false
def spec_l1Cur_spoilt.f (s0_0 : List Int) (s0_1 : Int) (s0_2 : Int) (a1 : ByteArray) (a2 : ByteArray) : Option (ByteArray × Int × Int) := if a1.toList = ([] : List UInt8) then (if 0 ≤ 1 then (if 1 ≤ (a2.size : Int) then (some (sx a2 (0) (1), s0_1, s0_2)) else (none)) else (none)) else ((spec_l1Cur_pick.f s0_0 s0_1 s0_2 (a1.size : Int)).bind fun bt511 => ((spec_l1Cur_pick.f s0_0 bt511.2.1 bt511.2.2 (a2.size : Int)).bind fun bt514 => (if 0 ≤ bt514.1 then (if bt514.1 ≤ (a2.size : Int) then (if 0 ≤ 1 then (if 1 ≤ ((sx a2 ((bt514.1 : Int).toNat) (a2.size)).size : Int) then ((spec_l1Cur_pick.f s0_0 bt514.2.1 bt514.2.2 3).bind fun bt517 => (if bt517.1 = 0 then (if 0 ≤ bt511.1 then (if bt511.1 ≤ (a1.size : Int) then (if (sx a1 (0) ((bt511.1 : Int).toNat)).size + (sx (sx a2 ((bt514.1 : Int).toNat) (a2.size)) (0) (1)).size ≤ 9223372036854775807 then (if (sc (sx a1 (0) ((bt511.1 : Int).toNat)) (sx (sx a2 ((bt514.1 : Int).toNat) (a2.size)) (0) (1))).size + (sx a1 ((bt511.1 : Int).toNat) (a1.size)).size ≤ 9223372036854775807 then (some (sc (sc (sx a1 (0) ((bt511.1 : Int).toNat)) (sx (sx a2 ((bt514.1 : Int).toNat) (a2.size)) (0) (1))) (sx a1 ((bt511.1 : Int).toNat) (a1.size)), bt517.2.1, bt517.2.2)) else (none)) else (none)) else (none)) else (none)) else (if bt517.1 = 1 then (if 0 ≤ bt511.1 then (if bt511.1 ≤ (a1.size : Int) then (if (sx a1 (0) ((bt511.1 : Int).toNat)).size + (sx (sx a2 ((bt514.1 : Int).toNat) (a2.size)) (0) (1)).size ≤ 9223372036854775807 then (if 0 ≤ (wrap64 (bt511.1 + 1)) then (if (wrap64 (bt511.1 + 1)) ≤ (a1.size : Int) then (if (sc (sx a1 (0) ((bt511.1 : Int).toNat)) (sx (sx a2 ((bt514.1 : Int).toNat) (a2.size)) (0) (1))).size + (sx a1 (((wrap64 (bt511.1 + 1)) : Int).toNat) (a1.size)).size ≤ 9223372036854775807 then (some (sc (sc (sx a1 (0) ((bt511.1 : Int).toNat)) (sx (sx a2 ((bt514.1 : Int).toNat) (a2.size)) (0) (1))) (sx a1 (((wrap64 (bt511.1 + 1)) : Int).toNat) (a1.size)), bt517.2.1, bt517.2.2)) else (none)) else (none)) else (none)) else (none)) else (none)) else (none)) else (if 0 ≤ bt511.1 then (if bt511.1 ≤ (a1.size : Int) then (if 0 ≤ (wrap64 (bt511.1 + 1)) then (if (wrap64 (bt511.1 + 1)) ≤ (a1.size : Int) then (if (sx a1 (0) ((bt511.1 : Int).toNat)).size + (sx a1 (((wrap64 (bt511.1 + 1)) : Int).toNat) (a1.size)).size ≤ 9223372036854775807 then (some (sc (sx a1 (0) ((bt511.1 : Int).toNat)) (sx a1 (((wrap64 (bt511.1 + 1)) : Int).toNat) (a1.size)), bt517.2.1, bt517.2.2)) else (none)) else (none)) else (none)) else (none)) else (none))))) else (none)) else (none)) else (none)) else (none))))
set_option maxHeartbeats 8000000 in
set_option maxRecDepth 100000 in
theorem spec_l1Cur_spoilt.calls (g : Nat) (s0_0 : List Int) (s0_1 : Int) (s0_2 : Int) (a1 : ByteArray) (a2 : ByteArray) (r1 : ByteArray) (r2 : Int) (r3 : Int) (w0 w : World) (hI : IsS74 w0 w g s0_0 s0_1 s0_2) (hB : Below w0.heap.size w0 w) (h : spec_l1Cur_spoilt.f s0_0 s0_1 s0_2 a1 a2 = some (r1, r2, r3)) :
  Calls Tryd.prog 61 #[.pointer (some ⟨g, 0, none⟩), .string a1, .string a2] w fun e w' => e = .returned (.string r1) ∧ IsS74 w0 w' g s0_0 r2 r3 ∧ Below w0.heap.size w0 w' ∧ KeepBut w w' g none := by
 have HI0 := Aside0.mk hI
 have HK := Aside0.mk (KeepBut.refl w g none)
 have HL := Aside0.mk hB.size
 clear hI
 have HW0 := Aside0.mk hB.size
 have HB := Aside0.mk hB
 clear hB
 have H : (if a1.toList = ([] : List UInt8) then (if 0 ≤ 1 then (if 1 ≤ (a2.size : Int) then (some (sx a2 (0) (1), s0_1, s0_2)) else (none)) else (none)) else ((spec_l1Cur_pick.f s0_0 s0_1 s0_2 (a1.size : Int)).bind fun bt511 => ((spec_l1Cur_pick.f s0_0 bt511.2.1 bt511.2.2 (a2.size : Int)).bind fun bt514 => (if 0 ≤ bt514.1 then (if bt514.1 ≤ (a2.size : Int) then (if 0 ≤ 1 then (if 1 ≤ ((sx a2 ((bt514.1 : Int).toNat) (a2.size)).size : Int) then ((spec_l1Cur_pick.f s0_0 bt514.2.1 bt514.2.2 3).bind fun bt517 => (if bt517.1 = 0 then (if 0 ≤ bt511.1 then (if bt511.1 ≤ (a1.size : Int) then (if (sx a1 (0) ((bt511.1 : Int).toNat)).size + (sx (sx a2 ((bt514.1 : Int).toNat) (a2.size)) (0) (1)).size ≤ 9223372036854775807 then (if (sc (sx a1 (0) ((bt511.1 : Int).toNat)) (sx (sx a2 ((bt514.1 : Int).toNat) (a2.size)) (0) (1))).size + (sx a1 ((bt511.1 : Int).toNat) (a1.size)).size ≤ 9223372036854775807 then (some (sc (sc (sx a1 (0) ((bt511.1 : Int).toNat)) (sx (sx a2 ((bt514.1 : Int).toNat) (a2.size)) (0) (1))) (sx a1 ((bt511.1 : Int).toNat) (a1.size)), bt517.2.1, bt517.2.2)) else (none)) else (none)) else (none)) else (none)) else (if bt517.1 = 1 then (if 0 ≤ bt511.1 then (if bt511.1 ≤ (a1.size : Int) then (if (sx a1 (0) ((bt511.1 : Int).toNat)).size + (sx (sx a2 ((bt514.1 : Int).toNat) (a2.size)) (0) (1)).size ≤ 9223372036854775807 then (if 0 ≤ (wrap64 (bt511.1 + 1)) then (if (wrap64 (bt511.1 + 1)) ≤ (a1.size : Int) then (if (sc (sx a1 (0) ((bt511.1 : Int).toNat)) (sx (sx a2 ((bt514.1 : Int).toNat) (a2.size)) (0) (1))).size + (sx a1 (((wrap64 (bt511.1 + 1)) : Int).toNat) (a1.size)).size ≤ 9223372036854775807 then (some (sc (sc (sx a1 (0) ((bt511.1 : Int).toNat)) (sx (sx a2 ((bt514.1 : Int).toNat) (a2.size)) (0) (1))) (sx a1 (((wrap64 (bt511.1 + 1)) : Int).toNat) (a1.size)), bt517.2.1, bt517.2.2)) else (none)) else (none)) else (none)) else (none)) else (none)) else (none)) else (if 0 ≤ bt511.1 then (if bt511.1 ≤ (a1.size : Int) then (if 0 ≤ (wrap64 (bt511.1 + 1)) then (if (wrap64 (bt511.1 + 1)) ≤ (a1.size : Int) then (if (sx a1 (0) ((bt511.1 : Int).toNat)).size + (sx a1 (((wrap64 (bt511.1 + 1)) : Int).toNat) (a1.size)).size ≤ 9223372036854775807 then (some (sc (sx a1 (0) ((bt511.1 : Int).toNat)) (sx a1 (((wrap64 (bt511.1 + 1)) : Int).toNat) (a1.size)), bt517.2.1, bt517.2.2)) else (none)) else (none)) else (none)) else (none)) else (none))))) else (none)) else (none)) else (none)) else (none))))) = some (r1, r2, r3) := h
 clear h
 by_cases c4 : a1.toList = ([] : List UInt8)
 ·
  rw [if_pos c4] at H
  have c4b0 : (a1.toList == ([] : List UInt8)) = true := beq_iff_eq.mpr c4
  have c4b1 : (a1.toList != ([] : List UInt8)) = false := bne_eq_false_iff_eq.mpr c4
  clear c4
  by_cases c5 : 0 ≤ 1
  ·
   rw [if_pos c5] at H
   have c5b0 := eq_true c5
   have c5b1 : decide (0 ≤ 1) = true := decide_eq_true c5
   clear c5
   by_cases c6 : 1 ≤ (a2.size : Int)
   ·
    rw [if_pos c6] at H
    have c6b0 := eq_true c6
    have c6b1 : decide (1 ≤ (a2.size : Int)) = true := decide_eq_true c6
    clear c6
    simp only [Option.some.injEq, Prod.mk.injEq] at H
    obtain ⟨rfl, rfl, rfl⟩ := H
    go_enter Tryd.func61, Tryd.ntmps61
    go_wp2
    repeat (go_quiet (fail); try go_wp2)
    go_ret
    exact ⟨rr_, is74_0 HI0.out, lb1_ HB.out (IsS74.ge HI0.out), kb0_ HK.out⟩
   ·
    rw [if_neg c6] at H
    exact absurd H (by simp)
  ·
   rw [if_neg c5] at H
   exact absurd H (by simp)
 ·
  rw [if_neg c4] at H
  have c4b0 : (a1.toList == ([] : List UInt8)) = false := beq_eq_false_iff_ne.mpr c4
  have c4b1 : (a1.toList != ([] : List UInt8)) = true := bne_iff_ne.mpr c4
  replace H := Option.bind_eq_some_iff.mp H
  obtain ⟨⟨t511, t512, t513⟩, A70, H⟩ := H
  replace H : ((spec_l1Cur_pick.f s0_0 t512 t513 (a2.size : Int)).bind fun bt514 => (if 0 ≤ bt514.1 then (if bt514.1 ≤ (a2.size : Int) then (if 0 ≤ 1 then (if 1 ≤ ((sx a2 ((bt514.1 : Int).toNat) (a2.size)).size : Int) then ((spec_l1Cur_pick.f s0_0 bt514.2.1 bt514.2.2 3).bind fun bt517 => (if bt517.1 = 0 then (if 0 ≤ t511 then (if t511 ≤ (a1.size : Int) then (if (sx a1 (0) ((t511 : Int).toNat)).size + (sx (sx a2 ((bt514.1 : Int).toNat) (a2.size)) (0) (1)).size ≤ 9223372036854775807 then (if (sc (sx a1 (0) ((t511 : Int).toNat)) (sx (sx a2 ((bt514.1 : Int).toNat) (a2.size)) (0) (1))).size + (sx a1 ((t511 : Int).toNat) (a1.size)).size ≤ 9223372036854775807 then (some (sc (sc (sx a1 (0) ((t511 : Int).toNat)) (sx (sx a2 ((bt514.1 : Int).toNat) (a2.size)) (0) (1))) (sx a1 ((t511 : Int).toNat) (a1.size)), bt517.2.1, bt517.2.2)) else (none)) else (none)) else (none)) else (none)) else (if bt517.1 = 1 then (if 0 ≤ t511 then (if t511 ≤ (a1.size : Int) then (if (sx a1 (0) ((t511 : Int).toNat)).size + (sx (sx a2 ((bt514.1 : Int).toNat) (a2.size)) (0) (1)).size ≤ 9223372036854775807 then (if 0 ≤ (wrap64 (t511 + 1)) then (if (wrap64 (t511 + 1)) ≤ (a1.size : Int) then (if (sc (sx a1 (0) ((t511 : Int).toNat)) (sx (sx a2 ((bt514.1 : Int).toNat) (a2.size)) (0) (1))).size + (sx a1 (((wrap64 (t511 + 1)) : Int).toNat) (a1.size)).size ≤ 9223372036854775807 then (some (sc (sc (sx a1 (0) ((t511 : Int).toNat)) (sx (sx a2 ((bt514.1 : Int).toNat) (a2.size)) (0) (1))) (sx a1 (((wrap64 (t511 + 1)) : Int).toNat) (a1.size)), bt517.2.1, bt517.2.2)) else (none)) else (none)) else (none)) else (none)) else (none)) else (none)) else (if 0 ≤ t511 then (if t511 ≤ (a1.size : Int) then (if 0 ≤ (wrap64 (t511 + 1)) then (if (wrap64 (t511 + 1)) ≤ (a1.size : Int) then (if (sx a1 (0) ((t511 : Int).toNat)).size + (sx a1 (((wrap64 (t511 + 1)) : Int).toNat) (a1.size)).size ≤ 9223372036854775807 then (some (sc (sx a1 (0) ((t511 : Int).toNat)) (sx a1 (((wrap64 (t511 + 1)) : Int).toNat) (a1.size)), bt517.2.1, bt517.2.2)) else (none)) else (none)) else (none)) else (none)) else (none))))) else (none)) else (none)) else (none)) else (none))) = some (r1, r2, r3) := H
  have A7 := Aside0.mk A70
  clear A70
  replace H := Option.bind_eq_some_iff.mp H
  obtain ⟨⟨t514, t515, t516⟩, A80, H⟩ := H
  replace H : (if 0 ≤ t514 then (if t514 ≤ (a2.size : Int) then (if 0 ≤ 1 then (if 1 ≤ ((sx a2 ((t514 : Int).toNat) (a2.size)).size : Int) then ((spec_l1Cur_pick.f s0_0 t515 t516 3).bind fun bt517 => (if bt517.1 = 0 then (if 0 ≤ t511 then (if t511 ≤ (a1.size : Int) then (if (sx a1 (0) ((t511 : Int).toNat)).size + (sx (sx a2 ((t514 : Int).toNat) (a2.size)) (0) (1)).size ≤ 9223372036854775807 then (if (sc (sx a1 (0) ((t511 : Int).toNat)) (sx (sx a2 ((t514 : Int).toNat) (a2.size)) (0) (1))).size + (sx a1 ((t511 : Int).toNat) (a1.size)).size ≤ 9223372036854775807 then (some (sc (sc (sx a1 (0) ((t511 : Int).toNat)) (sx (sx a2 ((t514 : Int).toNat) (a2.size)) (0) (1))) (sx a1 ((t511 : Int).toNat) (a1.size)), bt517.2.1, bt517.2.2)) else (none)) else (none)) else (none)) else (none)) else (if bt517.1 = 1 then (if 0 ≤ t511 then (if t511 ≤ (a1.size : Int) then (if (sx a1 (0) ((t511 : Int).toNat)).size + (sx (sx a2 ((t514 : Int).toNat) (a2.size)) (0) (1)).size ≤ 9223372036854775807 then (if 0 ≤ (wrap64 (t511 + 1)) then (if (wrap64 (t511 + 1)) ≤ (a1.size : Int) then (if (sc (sx a1 (0) ((t511 : Int).toNat)) (sx (sx a2 ((t514 : Int).toNat) (a2.size)) (0) (1))).size + (sx a1 (((wrap64 (t511 + 1)) : Int).toNat) (a1.size)).size ≤ 9223372036854775807 then (some (sc (sc (sx a1 (0) ((t511 : Int).toNat)) (sx (sx a2 ((t514 : Int).toNat) (a2.size)) (0) (1))) (sx a1 (((wrap64 (t511 + 1)) : Int).toNat) (a1.size)), bt517.2.1, bt517.2.2)) else (none)) else (none)) else (none)) else (none)) else (none)) else (none)) else (if 0 ≤ t511 then (if t511 ≤ (a1.size : Int) then (if 0 ≤ (wrap64 (t511 + 1)) then (if (wrap64 (t511 + 1)) ≤ (a1.size : Int) then (if (sx a1 (0) ((t511 : Int).toNat)).size + (sx a1 (((wrap64 (t511 + 1)) : Int).toNat) (a1.size)).size ≤ 9223372036854775807 then (some (sc (sx a1 (0) ((t511 : Int).toNat)) (sx a1 (((wrap64 (t511 + 1)) : Int).toNat) (a1.size)), bt517.2.1, bt517.2.2)) else (none)) else (none)) else (none)) else (none)) else (none))))) else (none)) else (none)) else (none)) else (none)) = some (r1, r2, r3) := H
  have A8 := Aside0.mk A80
  clear A80
  by_cases c9 : 0 ≤ t514
  ·
   rw [if_pos c9] at H
   have c9b0 := eq_true c9
   have c9b1 : decide (0 ≤ t514) = true := decide_eq_true c9
   clear c9
   by_cases c10 : t514 ≤ (a2.size : Int)
   ·
    rw [if_pos c10] at H
    have c10b0 := eq_true c10
    have c10b1 : decide (t514 ≤ (a2.size : Int)) = true := decide_eq_true c10
    clear c10
    by_cases c11 : 0 ≤ 1
    ·
     rw [if_pos c11] at H
     have c11b0 := eq_true c11
     have c11b1 : decide (0 ≤ 1) = true := decide_eq_true c11
     clear c11
     by_cases c12 : 1 ≤ ((sx a2 ((t514 : Int).toNat) (a2.size)).size : Int)
     ·
      rw [if_pos c12] at H
      have c12b0 := eq_true c12
      have c12b1 : decide (1 ≤ ((sx a2 ((t514 : Int).toNat) (a2.size)).size : Int)) = true := decide_eq_true c12
      clear c12
      replace H := Option.bind_eq_some_iff.mp H
      obtain ⟨⟨t517, t518, t519⟩, A130, H⟩ := H
      replace H : (if t517 = 0 then (if 0 ≤ t511 then (if t511 ≤ (a1.size : Int) then (if (sx a1 (0) ((t511 : Int).toNat)).size + (sx (sx a2 ((t514 : Int).toNat) (a2.size)) (0) (1)).size ≤ 9223372036854775807 then (if (sc (sx a1 (0) ((t511 : Int).toNat)) (sx (sx a2 ((t514 : Int).toNat) (a2.size)) (0) (1))).size + (sx a1 ((t511 : Int).toNat) (a1.size)).size ≤ 9223372036854775807 then (some (sc (sc (sx a1 (0) ((t511 : Int).toNat)) (sx (sx a2 ((t514 : Int).toNat) (a2.size)) (0) (1))) (sx a1 ((t511 : Int).toNat) (a1.size)), t518, t519)) else (none)) else (none)) else (none)) else (none)) else (if t517 = 1 then (if 0 ≤ t511 then (if t511 ≤ (a1.size : Int) then (if (sx a1 (0) ((t511 : Int).toNat)).size + (sx (sx a2 ((t514 : Int).toNat) (a2.size)) (0) (1)).size ≤ 9223372036854775807 then (if 0 ≤ (wrap64 (t511 + 1)) then (if (wrap64 (t511 + 1)) ≤ (a1.size : Int) then (if (sc (sx a1 (0) ((t511 : Int).toNat)) (sx (sx a2 ((t514 : Int).toNat) (a2.size)) (0) (1))).size + (sx a1 (((wrap64 (t511 + 1)) : Int).toNat) (a1.size)).size ≤ 9223372036854775807 then (some (sc (sc (sx a1 (0) ((t511 : Int).toNat)) (sx (sx a2 ((t514 : Int).toNat) (a2.size)) (0) (1))) (sx a1 (((wrap64 (t511 + 1)) : Int).toNat) (a1.size)), t518, t519)) else (none)) else (none)) else (none)) else (none)) else (none)) else (none)) else (if 0 ≤ t511 then (if t511 ≤ (a1.size : Int) then (if 0 ≤ (wrap64 (t511 + 1)) then (if (wrap64 (t511 + 1)) ≤ (a1.size : Int) then (if (sx a1 (0) ((t511 : Int).toNat)).size + (sx a1 (((wrap64 (t511 + 1)) : Int).toNat) (a1.size)).size ≤ 9223372036854775807 then (some (sc (sx a1 (0) ((t511 : Int).toNat)) (sx a1 (((wrap64 (t511 + 1)) : Int).toNat) (a1.size)), t518, t519)) else (none)) else (none)) else (none)) else (none)) else (none)))) = some (r1, r2, r3) := H
      have A13 := Aside0.mk A130
      clear A130
      by_cases c14 : t517 = 0
      ·
       rw [if_pos c14] at H
       have c14b0 : (t517 == 0) = true := beq_iff_eq.mpr c14
       have c14b1 : (t517 != 0) = false := bne_eq_false_iff_eq.mpr c14
       clear c14
       by_cases c15 : 0 ≤ t511
       ·
        rw [if_pos c15] at H
        have c15b0 := eq_true c15; have c15b1 : decide (0 ≤ t511) = true := decide_eq_true c15; clear c15
        by_cases c16 : t511 ≤ (a1.size : Int)
        ·
         rw [if_pos c16] at H
         have c16b0 := eq_true c16; have c16b1 : decide (t511 ≤ (a1.size : Int)) = true := decide_eq_true c16; clear c16
         by_cases c17 : (sx a1 (0) ((t511 : Int).toNat)).size + (sx (sx a2 ((t514 : Int).toNat) (a2.size)) (0) (1)).size ≤ 9223372036854775807
         ·
          rw [if_pos c17] at H
          have c17b0 := eq_true c17; have c17b1 : decide ((sx a1 (0) ((t511 : Int).toNat)).size + (sx (sx a2 ((t514 : Int).toNat) (a2.size)) (0) (1)).size ≤ 9223372036854775807) = true := decide_eq_true c17
          try have c17b2 : (9223372036854775807 < (sx a1 (0) ((t511 : Int).toNat)).size + (sx (sx a2 ((t514 : Int).toNat) (a2.size)) (0) (1)).size) = False := eq_false (Nat.not_lt.2 c17)
          have c18b0 := eq_true (dt_ : 0 ≤ t511); have c19b0 := eq_true (dt_ : t511 ≤ (a1.size : Int))
          by_cases c20 : (sc (sx a1 (0) ((t511 : Int).toNat)) (sx (sx a2 ((t514 : Int).toNat) (a2.size)) (0) (1))).size + (sx a1 ((t511 : Int).toNat) (a1.size)).size ≤ 9223372036854775807
          ·
           rw [if_pos c20] at H
           have c20b0 := eq_true c20; have c20b1 : decide ((sc (sx a1 (0) ((t511 : Int).toNat)) (sx (sx a2 ((t514 : Int).toNat) (a2.size)) (0) (1))).size + (sx a1 ((t511 : Int).toNat) (a1.size)).size ≤ 9223372036854775807) = true := decide_eq_true c20
           try have c20b2 : (9223372036854775807 < (sc (sx a1 (0) ((t511 : Int).toNat)) (sx (sx a2 ((t514 : Int).toNat) (a2.size)) (0) (1))).size + (sx a1 ((t511 : Int).toNat) (a1.size)).size) = False := eq_false (Nat.not_lt.2 c20)
           simp only [Option.some.injEq, Prod.mk.injEq] at H; obtain ⟨rfl, rfl, rfl⟩ := H
           go_enter Tryd.func61, Tryd.ntmps61
           go_wp2_with (first | (go_at_call 55; (with_reducible refine (spec_l1Cur_pick.calls g s0_0 s0_1 s0_2 (a1.size : Int) t511 t512 t513 w0 _ ?side1 ?side2 A7.out).mono ?_); (case side1 => exact is74_0 HI0.out); (case side2 => exact lb1_ HB.out (IsS74.ge HI0.out)); rintro e w21 ⟨rfl, hi, hb, hk⟩; replace HK := Aside0.mk (KeepBut.trans (kb0_ HK.out) hk (.inl rfl)); replace HB := Aside0.mk (hb); replace HI0 := Aside0.mk (hi); (try clear hb); (try clear hb2); (try clear hk); (try clear hi)) | (go_at_call 55; (with_reducible refine (spec_l1Cur_pick.calls g s0_0 t512 t513 (a2.size : Int) t514 t515 t516 w0 _ ?side1 ?side2 A8.out).mono ?_); (case side1 => exact is74_0 HI0.out); (case side2 => exact lb1_ HB.out (IsS74.ge HI0.out)); rintro e w22 ⟨rfl, hi, hb, hk⟩; replace HK := Aside0.mk (KeepBut.trans (kb0_ HK.out) hk (.inl rfl)); replace HB := Aside0.mk (hb); replace HI0 := Aside0.mk (hi); (try clear hb); (try clear hb2); (try clear hk); (try clear hi)) | (go_at_call 55; (with_reducible refine (spec_l1Cur_pick.calls g s0_0 t515 t516 3 t517 t518 t519 w0 _ ?side1 ?side2 A13.out).mono ?_); (case side1 => exact is74_0 HI0.out); (case side2 => exact lb1_ HB.out (IsS74.ge HI0.out)); rintro e w23 ⟨rfl, hi, hb, hk⟩; replace HK := Aside0.mk (KeepBut.trans (kb0_ HK.out) hk (.inl rfl)); replace HB := Aside0.mk (hb); replace HI0 := Aside0.mk (hi); (try clear hb); (try clear hb2); (try clear hk); (try clear hi)))
           repeat (go_quiet (first | (go_at_call 55; (with_reducible refine (spec_l1Cur_pick.calls g s0_0 s0_1 s0_2 (a1.size : Int) t511 t512 t513 w0 _ ?side1 ?side2 A7.out).mono ?_); (case side1 => exact is74_0 HI0.out); (case side2 => exact lb1_ HB.out (IsS74.ge HI0.out)); rintro e w21 ⟨rfl, hi, hb, hk⟩; replace HK := Aside0.mk (KeepBut.trans (kb0_ HK.out) hk (.inl rfl)); replace HB := Aside0.mk (hb); replace HI0 := Aside0.mk (hi); (try clear hb); (try clear hb2); (try clear hk); (try clear hi)) | (go_at_call 55; (with_reducible refine (spec_l1Cur_pick.calls g s0_0 t512 t513 (a2.size : Int) t514 t515 t516 w0 _ ?side1 ?side2 A8.out).mono ?_); (case side1 => exact is74_0 HI0.out); (case side2 => exact lb1_ HB.out (IsS74.ge HI0.out)); rintro e w22 ⟨rfl, hi, hb, hk⟩; replace HK := Aside0.mk (KeepBut.trans (kb0_ HK.out) hk (.inl rfl)); replace HB := Aside0.mk (hb); replace HI0 := Aside0.mk (hi); (try clear hb); (try clear hb2); (try clear hk); (try clear hi)) | (go_at_call 55; (with_reducible refine (spec_l1Cur_pick.calls g s0_0 t515 t516 3 t517 t518 t519 w0 _ ?side1 ?side2 A13.out).mono ?_); (case side1 => exact is74_0 HI0.out); (case side2 => exact lb1_ HB.out (IsS74.ge HI0.out)); rintro e w23 ⟨rfl, hi, hb, hk⟩; replace HK := Aside0.mk (KeepBut.trans (kb0_ HK.out) hk (.inl rfl)); replace HB := Aside0.mk (hb); replace HI0 := Aside0.mk (hi); (try clear hb); (try clear hb2); (try clear hk); (try clear hi))); try go_wp2_with (first | (go_at_call 55; (with_reducible refine (spec_l1Cur_pick.calls g s0_0 s0_1 s0_2 (a1.size : Int) t511 t512 t513 w0 _ ?side1 ?side2 A7.out).mono ?_); (case side1 => exact is74_0 HI0.out); (case side2 => exact lb1_ HB.out (IsS74.ge HI0.out)); rintro e w21 ⟨rfl, hi, hb, hk⟩; replace HK := Aside0.mk (KeepBut.trans (kb0_ HK.out) hk (.inl rfl)); replace HB := Aside0.mk (hb); replace HI0 := Aside0.mk (hi); (try clear hb); (try clear hb2); (try clear hk); (try clear hi)) | (go_at_call 55; (with_reducible refine (spec_l1Cur_pick.calls g s0_0 t512 t513 (a2.size : Int) t514 t515 t516 w0 _ ?side1 ?side2 A8.out).mono ?_); (case side1 => exact is74_0 HI0.out); (case side2 => exact lb1_ HB.out (IsS74.ge HI0.out)); rintro e w22 ⟨rfl, hi, hb, hk⟩; replace HK := Aside0.mk (KeepBut.trans (kb0_ HK.out) hk (.inl rfl)); replace HB := Aside0.mk (hb); replace HI0 := Aside0.mk (hi); (try clear hb); (try clear hb2); (try clear hk); (try clear hi)) | (go_at_call 55; (with_reducible refine (spec_l1Cur_pick.calls g s0_0 t515 t516 3 t517 t518 t519 w0 _ ?side1 ?side2 A13.out).mono ?_); (case side1 => exact is74_0 HI0.out); (case side2 => exact lb1_ HB.out (IsS74.ge HI0.out)); rintro e w23 ⟨rfl, hi, hb, hk⟩; replace HK := Aside0.mk (KeepBut.trans (kb0_ HK.out) hk (.inl rfl)); replace HB := Aside0.mk (hb); replace HI0 := Aside0.mk (hi); (try clear hb); (try clear hb2); (try clear hk); (try clear hi))))
           go_ret
           exact ⟨rr_, is74_0 HI0.out, lb1_ HB.out (IsS74.ge HI0.out), kb0_ HK.out⟩
          ·
           rw [if_neg c20] at H
           exact absurd H (by simp)
         ·
          rw [if_neg c17] at H
          exact absurd H (by simp)
        ·
         rw [if_neg c16] at H
         exact absurd H (by simp)
       ·
        rw [if_neg c15] at H
        exact absurd H (by simp)
      ·
       rw [if_neg c14] at H
       have c14b0 : (t517 == 0) = false := beq_eq_false_iff_ne.mpr c14
       have c14b1 : (t517 != 0) = true := bne_iff_ne.mpr c14
       by_cases c24 : t517 = 1
       ·
        rw [if_pos c24] at H
        have c24b0 : (t517 == 1) = true := beq_iff_eq.mpr c24; have c24b1 : (t517 != 1) = false := bne_eq_false_iff_eq.mpr c24; clear c24
        by_cases c25 : 0 ≤ t511
        ·
         rw [if_pos c25] at H
         have c25b0 := eq_true c25; have c25b1 : decide (0 ≤ t511) = true := decide_eq_true c25; clear c25
         by_cases c26 : t511 ≤ (a1.size : Int)
         ·
          rw [if_pos c26] at H
          have c26b0 := eq_true c26; have c26b1 : decide (t511 ≤ (a1.size : Int)) = true := decide_eq_true c26; clear c26
          by_cases c27 : (sx a1 (0) ((t511 : Int).toNat)).size + (sx (sx a2 ((t514 : Int).toNat) (a2.size)) (0) (1)).size ≤ 9223372036854775807
          ·
           rw [if_pos c27] at H
           have c27b0 := eq_true c27; have c27b1 : decide ((sx a1 (0) ((t511 : Int).toNat)).size + (sx (sx a2 ((t514 : Int).toNat) (a2.size)) (0) (1)).size ≤ 9223372036854775807) = true := decide_eq_true c27
           try have c27b2 : (9223372036854775807 < (sx a1 (0) ((t511 : Int).toNat)).size + (sx (sx a2 ((t514 : Int).toNat) (a2.size)) (0) (1)).size) = False := eq_false (Nat.not_lt.2 c27)
           obtain ⟨ji28, hji28⟩ : ∃ j_ : Int, (wrap64 (t511 + 1)) = j_ := ⟨_, rfl⟩
           replace H : (if 0 ≤ (ji28) then (if (ji28) ≤ (a1.size : Int) then (if (sc (sx a1 (0) ((t511 : Int).toNat)) (sx (sx a2 ((t514 : Int).toNat) (a2.size)) (0) (1))).size + (sx a1 (((ji28) : Int).toNat) (a1.size)).size ≤ 9223372036854775807 then (some (sc (sc (sx a1 (0) ((t511 : Int).toNat)) (sx (sx a2 ((t514 : Int).toNat) (a2.size)) (0) (1))) (sx a1 (((ji28) : Int).toNat) (a1.size)), t518, t519)) else (none)) else (none)) else (none)) = some (r1, r2, r3) := by first | (rw [hji28] at H; exact H) | (simp only [hji28] at H ⊢; exact H)
           (try rw [hji28] at A7); (try rw [hji28] at A8); (try rw [hji28] at A13); have hji28w : (IntKind.i64.wrap (t511 + 1)) = ji28 := (i64_w _).trans hji28
           by_cases c29 : 0 ≤ (ji28)
           ·
            rw [if_pos c29] at H
            have c29b0 := eq_true c29; have c29b1 : decide (0 ≤ (ji28)) = true := decide_eq_true c29; clear c29
            by_cases c30 : (ji28) ≤ (a1.size : Int)
            ·
             rw [if_pos c30] at H
             have c30b0 := eq_true c30; have c30b1 : decide ((ji28) ≤ (a1.size : Int)) = true := decide_eq_true c30; clear c30
             by_cases c31 : (sc (sx a1 (0) ((t511 : Int).toNat)) (sx (sx a2 ((t514 : Int).toNat) (a2.size)) (0) (1))).size + (sx a1 (((ji28) : Int).toNat) (a1.size)).size ≤ 9223372036854775807
             ·
              rw [if_pos c31] at H
              have c31b0 := eq_true c31; have c31b1 : decide ((sc (sx a1 (0) ((t511 : Int).toNat)) (sx (sx a2 ((t514 : Int).toNat) (a2.size)) (0) (1))).size + (sx a1 (((ji28) : Int).toNat) (a1.size)).size ≤ 9223372036854775807) = true := decide_eq_true c31
              try have c31b2 : (9223372036854775807 < (sc (sx a1 (0) ((t511 : Int).toNat)) (sx (sx a2 ((t514 : Int).toNat) (a2.size)) (0) (1))).size + (sx a1 (((ji28) : Int).toNat) (a1.size)).size) = False := eq_false (Nat.not_lt.2 c31)
              simp only [Option.some.injEq, Prod.mk.injEq] at H; obtain ⟨rfl, rfl, rfl⟩ := H
              go_enter Tryd.func61, Tryd.ntmps61
              go_wp2_with (first | (go_at_call 55; (with_reducible refine (spec_l1Cur_pick.calls g s0_0 s0_1 s0_2 (a1.size : Int) t511 t512 t513 w0 _ ?side1 ?side2 A7.out).mono ?_); (case side1 => exact is74_0 HI0.out); (case side2 => exact lb1_ HB.out (IsS74.ge HI0.out)); rintro e w32 ⟨rfl, hi, hb, hk⟩; replace HK := Aside0.mk (KeepBut.trans (kb0_ HK.out) hk (.inl rfl)); replace HB := Aside0.mk (hb); replace HI0 := Aside0.mk (hi); (try clear hb); (try clear hb2); (try clear hk); (try clear hi)) | (go_at_call 55; (with_reducible refine (spec_l1Cur_pick.calls g s0_0 t512 t513 (a2.size : Int) t514 t515 t516 w0 _ ?side1 ?side2 A8.out).mono ?_); (case side1 => exact is74_0 HI0.out); (case side2 => exact lb1_ HB.out (IsS74.ge HI0.out)); rintro e w33 ⟨rfl, hi, hb, hk⟩; replace HK := Aside0.mk (KeepBut.trans (kb0_ HK.out) hk (.inl rfl)); replace HB := Aside0.mk (hb); replace HI0 := Aside0.mk (hi); (try clear hb); (try clear hb2); (try clear hk); (try clear hi)) | (go_at_call 55; (with_reducible refine (spec_l1Cur_pick.calls g s0_0 t515 t516 3 t517 t518 t519 w0 _ ?side1 ?side2 A13.out).mono ?_); (case side1 => exact is74_0 HI0.out); (case side2 => exact lb1_ HB.out (IsS74.ge HI0.out)); rintro e w34 ⟨rfl, hi, hb, hk⟩; replace HK := Aside0.mk (KeepBut.trans (kb0_ HK.out) hk (.inl rfl)); replace HB := Aside0.mk (hb); replace HI0 := Aside0.mk (hi); (try clear hb); (try clear hb2); (try clear hk); (try clear hi)))
              repeat (go_quiet (first | (go_at_call 55; (with_reducible refine (spec_l1Cur_pick.calls g s0_0 s0_1 s0_2 (a1.size : Int) t511 t512 t513 w0 _ ?side1 ?side2 A7.out).mono ?_); (case side1 => exact is74_0 HI0.out); (case side2 => exact lb1_ HB.out (IsS74.ge HI0.out)); rintro e w32 ⟨rfl, hi, hb, hk⟩; replace HK := Aside0.mk (KeepBut.trans (kb0_ HK.out) hk (.inl rfl)); replace HB := Aside0.mk (hb); replace HI0 := Aside0.mk (hi); (try clear hb); (try clear hb2); (try clear hk); (try clear hi)) | (go_at_call 55; (with_reducible refine (spec_l1Cur_pick.calls g s0_0 t512 t513 (a2.size : Int) t514 t515 t516 w0 _ ?side1 ?side2 A8.out).mono ?_); (case side1 => exact is74_0 HI0.out); (case side2 => exact lb1_ HB.out (IsS74.ge HI0.out)); rintro e w33 ⟨rfl, hi, hb, hk⟩; replace HK := Aside0.mk (KeepBut.trans (kb0_ HK.out) hk (.inl rfl)); replace HB := Aside0.mk (hb); replace HI0 := Aside0.mk (hi); (try clear hb); (try clear hb2); (try clear hk); (try clear hi)) | (go_at_call 55; (with_reducible refine (spec_l1Cur_pick.calls g s0_0 t515 t516 3 t517 t518 t519 w0 _ ?side1 ?side2 A13.out).mono ?_); (case side1 => exact is74_0 HI0.out); (case side2 => exact lb1_ HB.out (IsS74.ge HI0.out)); rintro e w34 ⟨rfl, hi, hb, hk⟩; replace HK := Aside0.mk (KeepBut.trans (kb0_ HK.out) hk (.inl rfl)); replace HB := Aside0.mk (hb); replace HI0 := Aside0.mk (hi); (try clear hb); (try clear hb2); (try clear hk); (try clear hi))); try go_wp2_with (first | (go_at_call 55; (with_reducible refine (spec_l1Cur_pick.calls g s0_0 s0_1 s0_2 (a1.size : Int) t511 t512 t513 w0 _ ?side1 ?side2 A7.out).mono ?_); (case side1 => exact is74_0 HI0.out); (case side2 => exact lb1_ HB.out (IsS74.ge HI0.out)); rintro e w32 ⟨rfl, hi, hb, hk⟩; replace HK := Aside0.mk (KeepBut.trans (kb0_ HK.out) hk (.inl rfl)); replace HB := Aside0.mk (hb); replace HI0 := Aside0.mk (hi); (try clear hb); (try clear hb2); (try clear hk); (try clear hi)) | (go_at_call 55; (with_reducible refine (spec_l1Cur_pick.calls g s0_0 t512 t513 (a2.size : Int) t514 t515 t516 w0 _ ?side1 ?side2 A8.out).mono ?_); (case side1 => exact is74_0 HI0.out); (case side2 => exact lb1_ HB.out (IsS74.ge HI0.out)); rintro e w33 ⟨rfl, hi, hb, hk⟩; replace HK := Aside0.mk (KeepBut.trans (kb0_ HK.out) hk (.inl rfl)); replace HB := Aside0.mk (hb); replace HI0 := Aside0.mk (hi); (try clear hb); (try clear hb2); (try clear hk); (try clear hi)) | (go_at_call 55; (with_reducible refine (spec_l1Cur_pick.calls g s0_0 t515 t516 3 t517 t518 t519 w0 _ ?side1 ?side2 A13.out).mono ?_); (case side1 => exact is74_0 HI0.out); (case side2 => exact lb1_ HB.out (IsS74.ge HI0.out)); rintro e w34 ⟨rfl, hi, hb, hk⟩; replace HK := Aside0.mk (KeepBut.trans (kb0_ HK.out) hk (.inl rfl)); replace HB := Aside0.mk (hb); replace HI0 := Aside0.mk (hi); (try clear hb); (try clear hb2); (try clear hk); (try clear hi))))
              go_ret
              exact ⟨by first | rfl | (simp [errW_none, errW_some] <;> rfl) | (simp only [← hji28]; first | rfl | (simp [errW_none, errW_some] <;> rfl)) | (simp [*, errW_none, errW_some] <;> rfl), is74_0 HI0.out, lb1_ HB.out (IsS74.ge HI0.out), kb0_ HK.out⟩
             ·
              rw [if_neg c31] at H
              exact absurd H (by simp)
            ·
             rw [if_neg c30] at H
             exact absurd H (by simp)
           ·
            rw [if_neg c29] at H
            exact absurd H (by simp)
          ·
           rw [if_neg c27] at H
           exact absurd H (by simp)
         ·
          rw [if_neg c26] at H
          exact absurd H (by simp)
        ·
         rw [if_neg c25] at H
         exact absurd H (by simp)
       ·
        rw [if_neg c24] at H
        have c24b0 : (t517 == 1) = false := beq_eq_false_iff_ne.mpr c24; have c24b1 : (t517 != 1) = true := bne_iff_ne.mpr c24
        by_cases c35 : 0 ≤ t511
        ·
         rw [if_pos c35] at H
         have c35b0 := eq_true c35; have c35b1 : decide (0 ≤ t511) = true := decide_eq_true c35; clear c35
         by_cases c36 : t511 ≤ (a1.size : Int)
         ·
          rw [if_pos c36] at H
          have c36b0 := eq_true c36; have c36b1 : decide (t511 ≤ (a1.size : Int)) = true := decide_eq_true c36; clear c36
          obtain ⟨ji37, hji37⟩ : ∃ j_ : Int, (wrap64 (t511 + 1)) = j_ := ⟨_, rfl⟩
          replace H : (if 0 ≤ (ji37) then (if (ji37) ≤ (a1.size : Int) then (if (sx a1 (0) ((t511 : Int).toNat)).size + (sx a1 (((ji37) : Int).toNat) (a1.size)).size ≤ 9223372036854775807 then (some (sc (sx a1 (0) ((t511 : Int).toNat)) (sx a1 (((ji37) : Int).toNat) (a1.size)), t518, t519)) else (none)) else (none)) else (none)) = some (r1, r2, r3) := by first | (rw [hji37] at H; exact H) | (simp only [hji37] at H ⊢; exact H)
          (try rw [hji37] at A7); (try rw [hji37] at A8); (try rw [hji37] at A13); have hji37w : (IntKind.i64.wrap (t511 + 1)) = ji37 := (i64_w _).trans hji37
          by_cases c38 : 0 ≤ (ji37)
          ·
           rw [if_pos c38] at H
           have c38b0 := eq_true c38; have c38b1 : decide (0 ≤ (ji37)) = true := decide_eq_true c38; clear c38
           by_cases c39 : (ji37) ≤ (a1.size : Int)
           ·
            rw [if_pos c39] at H
            have c39b0 := eq_true c39; have c39b1 : decide ((ji37) ≤ (a1.size : Int)) = true := decide_eq_true c39; clear c39
            by_cases c40 : (sx a1 (0) ((t511 : Int).toNat)).size + (sx a1 (((ji37) : Int).toNat) (a1.size)).size ≤ 9223372036854775807
            ·
             rw [if_pos c40] at H
             have c40b0 := eq_true c40; have c40b1 : decide ((sx a1 (0) ((t511 : Int).toNat)).size + (sx a1 (((ji37) : Int).toNat) (a1.size)).size ≤ 9223372036854775807) = true := decide_eq_true c40
             try have c40b2 : (9223372036854775807 < (sx a1 (0) ((t511 : Int).toNat)).size + (sx a1 (((ji37) : Int).toNat) (a1.size)).size) = False := eq_false (Nat.not_lt.2 c40)
             simp only [Option.some.injEq, Prod.mk.injEq] at H; obtain ⟨rfl, rfl, rfl⟩ := H
             go_enter Tryd.func61, Tryd.ntmps61
             go_wp2_with (first | (go_at_call 55; (with_reducible refine (spec_l1Cur_pick.calls g s0_0 s0_1 s0_2 (a1.size : Int) t511 t512 t513 w0 _ ?side1 ?side2 A7.out).mono ?_); (case side1 => exact is74_0 HI0.out); (case side2 => exact lb1_ HB.out (IsS74.ge HI0.out)); rintro e w41 ⟨rfl, hi, hb, hk⟩; replace HK := Aside0.mk (KeepBut.trans (kb0_ HK.out) hk (.inl rfl)); replace HB := Aside0.mk (hb); replace HI0 := Aside0.mk (hi); (try clear hb); (try clear hb2); (try clear hk); (try clear hi)) | (go_at_call 55; (with_reducible refine (spec_l1Cur_pick.calls g s0_0 t512 t513 (a2.size : Int) t514 t515 t516 w0 _ ?side1 ?side2 A8.out).mono ?_); (case side1 => exact is74_0 HI0.out); (case side2 => exact lb1_ HB.out (IsS74.ge HI0.out)); rintro e w42 ⟨rfl, hi, hb, hk⟩; replace HK := Aside0.mk (KeepBut.trans (kb0_ HK.out) hk (.inl rfl)); replace HB := Aside0.mk (hb); replace HI0 := Aside0.mk (hi); (try clear hb); (try clear hb2); (try clear hk); (try clear hi)) | (go_at_call 55; (with_reducible refine (spec_l1Cur_pick.calls g s0_0 t515 t516 3 t517 t518 t519 w0 _ ?side1 ?side2 A13.out).mono ?_); (case side1 => exact is74_0 HI0.out); (case side2 => exact lb1_ HB.out (IsS74.ge HI0.out)); rintro e w43 ⟨rfl, hi, hb, hk⟩; replace HK := Aside0.mk (KeepBut.trans (kb0_ HK.out) hk (.inl rfl)); replace HB := Aside0.mk (hb); replace HI0 := Aside0.mk (hi); (try clear hb); (try clear hb2); (try clear hk); (try clear hi)))
             repeat (go_quiet (first | (go_at_call 55; (with_reducible refine (spec_l1Cur_pick.calls g s0_0 s0_1 s0_2 (a1.size : Int) t511 t512 t513 w0 _ ?side1 ?side2 A7.out).mono ?_); (case side1 => exact is74_0 HI0.out); (case side2 => exact lb1_ HB.out (IsS74.ge HI0.out)); rintro e w41 ⟨rfl, hi, hb, hk⟩; replace HK := Aside0.mk (KeepBut.trans (kb0_ HK.out) hk (.inl rfl)); replace HB := Aside0.mk (hb); replace HI0 := Aside0.mk (hi); (try clear hb); (try clear hb2); (try clear hk); (try clear hi)) | (go_at_call 55; (with_reducible refine (spec_l1Cur_pick.calls g s0_0 t512 t513 (a2.size : Int) t514 t515 t516 w0 _ ?side1 ?side2 A8.out).mono ?_); (case side1 => exact is74_0 HI0.out); (case side2 => exact lb1_ HB.out (IsS74.ge HI0.out)); rintro e w42 ⟨rfl, hi, hb, hk⟩; replace HK := Aside0.mk (KeepBut.trans (kb0_ HK.out) hk (.inl rfl)); replace HB := Aside0.mk (hb); replace HI0 := Aside0.mk (hi); (try clear hb); (try clear hb2); (try clear hk); (try clear hi)) | (go_at_call 55; (with_reducible refine (spec_l1Cur_pick.calls g s0_0 t515 t516 3 t517 t518 t519 w0 _ ?side1 ?side2 A13.out).mono ?_); (case side1 => exact is74_0 HI0.out); (case side2 => exact lb1_ HB.out (IsS74.ge HI0.out)); rintro e w43 ⟨rfl, hi, hb, hk⟩; replace HK := Aside0.mk (KeepBut.trans (kb0_ HK.out) hk (.inl rfl)); replace HB := Aside0.mk (hb); replace HI0 := Aside0.mk (hi); (try clear hb); (try clear hb2); (try clear hk); (try clear hi))); try go_wp2_with (first | (go_at_call 55; (with_reducible refine (spec_l1Cur_pick.calls g s0_0 s0_1 s0_2 (a1.size : Int) t511 t512 t513 w0 _ ?side1 ?side2 A7.out).mono ?_); (case side1 => exact is74_0 HI0.out); (case side2 => exact lb1_ HB.out (IsS74.ge HI0.out)); rintro e w41 ⟨rfl, hi, hb, hk⟩; replace HK := Aside0.mk (KeepBut.trans (kb0_ HK.out) hk (.inl rfl)); replace HB := Aside0.mk (hb); replace HI0 := Aside0.mk (hi); (try clear hb); (try clear hb2); (try clear hk); (try clear hi)) | (go_at_call 55; (with_reducible refine (spec_l1Cur_pick.calls g s0_0 t512 t513 (a2.size : Int) t514 t515 t516 w0 _ ?side1 ?side2 A8.out).mono ?_); (case side1 => exact is74_0 HI0.out); (case side2 => exact lb1_ HB.out (IsS74.ge HI0.out)); rintro e w42 ⟨rfl, hi, hb, hk⟩; replace HK := Aside0.mk (KeepBut.trans (kb0_ HK.out) hk (.inl rfl)); replace HB := Aside0.mk (hb); replace HI0 := Aside0.mk (hi); (try clear hb); (try clear hb2); (try clear hk); (try clear hi)) | (go_at_call 55; (with_reducible refine (spec_l1Cur_pick.calls g s0_0 t515 t516 3 t517 t518 t519 w0 _ ?side1 ?side2 A13.out).mono ?_); (case side1 => exact is74_0 HI0.out); (case side2 => exact lb1_ HB.out (IsS74.ge HI0.out)); rintro e w43 ⟨rfl, hi, hb, hk⟩; replace HK := Aside0.mk (KeepBut.trans (kb0_ HK.out) hk (.inl rfl)); replace HB := Aside0.mk (hb); replace HI0 := Aside0.mk (hi); (try clear hb); (try clear hb2); (try clear hk); (try clear hi))))
             go_ret
             exact ⟨by first | rfl | (simp [errW_none, errW_some] <;> rfl) | (simp only [← hji37]; first | rfl | (simp [errW_none, errW_some] <;> rfl)) | (simp [*, errW_none, errW_some] <;> rfl), is74_0 HI0.out, lb1_ HB.out (IsS74.ge HI0.out), kb0_ HK.out⟩
            ·
             rw [if_neg c40] at H
             exact absurd H (by simp)
           ·
            rw [if_neg c39] at H
            exact absurd H (by simp)
          ·
           rw [if_neg c38] at H
           exact absurd H (by simp)
         ·
          rw [if_neg c36] at H
          exact absurd H (by simp)
        ·
         rw [if_neg c35] at H
         exact absurd H (by simp)
     ·
      rw [if_neg c12] at H
      exact absurd H (by simp)
    ·
     rw [if_neg c11] at H
     exact absurd H (by simp)
   ·
    rw [if_neg c10] at H
    exact absurd H (by simp)
  ·
   rw [if_neg c9] at H
   exact absurd H (by simp)
def spec_DrawRecoverLog.j0 : Nat → ByteArray → List Int → Int → Int → Option (ByteArray)
 | 0, _, _, _, _ => none
 | k + 1, x5, x678000, x678001, x678002 => (spec_l1Cur_one.f x678000 x678001 x678002 40).bind fun bt701 => (if bt701.1 = true then ((spec_l1Cur_pick.f x678000 bt701.2.1 bt701.2.2 2).bind fun bt704 => (if 0 ≤ (wrap64 (30000 + bt704.1)) then (if (wrap64 (30000 + bt704.1) : Int).toNat ≤ 281474976710656 then (some (strOfNums (List.replicate (wrap64 (30000 + bt704.1) : Int).toNat 0))) else (none)) else (none))) else (some x5))
def spec_DrawRecoverLog.f (k : Nat) (l0 : List Int) : Option (ByteArray) := (spec_newCur.f l0).bind fun bt674 => ((spec_l1Cur_log.f k bt674.1 bt674.2.1 bt674.2.2).bind fun bt678 => (if bt678.1.size + bt678.2.1.size ≤ 9223372036854775807 then ((spec_l1Cur_pick.f bt674.1 bt678.2.2.2.1 bt678.2.2.2.2 4).bind fun bt684 => (if bt684.1 = 0 then ((spec_l1Cur_spoilt.f bt674.1 bt684.2.1 bt684.2.2 (sc bt678.1 bt678.2.1) (⟨#[35, 64, 10, 48, 49]⟩ : ByteArray)).bind fun bt687 => (spec_DrawRecoverLog.j0 k bt687.1 bt674.1 bt687.2.1 bt687.2.2)) else (if bt684.1 = 1 then ((spec_l1Cur_pick.f bt674.1 bt684.2.1 bt684.2.2 (wrap64 (((sc bt678.1 bt678.2.1).size : Int) + 1))).bind fun bt690 => (if 0 ≤ bt690.1 then (if bt690.1 ≤ ((sc bt678.1 bt678.2.1).size : Int) then (spec_DrawRecoverLog.j0 k (sx (sc bt678.1 bt678.2.1) (0) ((bt690.1 : Int).toNat)) bt674.1 bt690.2.1 bt690.2.2) else (none)) else (none))) else (if bt684.1 = 2 then ((spec_l1Cur_pick.f bt674.1 bt684.2.1 bt684.2.2 4).bind fun bt693 => ((spec_l1Cur_logRecord.f bt674.1 bt693.2.1 bt693.2.2).bind fun bt696 => ((spec_l27Line.f k bt693.1 bt696.1 bt696.2.1).bind fun t700 => (if (sc bt678.1 bt678.2.1).size + t700.size ≤ 9223372036854775807 then (spec_DrawRecoverLog.j0 k (sc (sc bt678.1 bt678.2.1) t700) bt674.1 bt696.2.2.1 bt696.2.2.2) else (none))))) else (spec_DrawRecoverLog.j0 k (sc bt678.1 bt678.2.1) bt674.1 bt684.2.1 bt684.2.2))))) else (none)))
set_option maxHeartbeats 8000000 in
set_option maxRecDepth 100000 in
theorem spec_DrawRecoverLog.calls (k : Nat) (A0 : Option Addr) (c0 : Nat) (l0 : List Int) (r : ByteArray) (w : World) (hr0 : Kd.C (Kd.int .u8) w A0 l0.length l0) (hc0 : l0.length ≤ c0) (h : spec_DrawRecoverLog.f k l0 = some r) :
  Calls Tryd.prog 41 #[.slice A0 l0.length c0] w fun e w' => e = .returned (.string r) ∧ Below w.heap.size w w' := by
 have hu74 := Tryd.underlying74
 have hu31 := Tryd.underlying31
 have HR0 := Aside0.mk hr0
 have HC0 := Aside0.mk hc0
 clear hr0 hc0
 have HB := Aside0.mk (Below.refl w.heap.size w)
 have H : ((spec_newCur.f l0).bind fun bt674 => ((spec_l1Cur_log.f k bt674.1 bt674.2.1 bt674.2.2).bind fun bt678 => (if bt678.1.size + bt678.2.1.size ≤ 9223372036854775807 then ((spec_l1Cur_pick.f bt674.1 bt678.2.2.2.1 bt678.2.2.2.2 4).bind fun bt684 => (if bt684.1 = 0 then ((spec_l1Cur_spoilt.f bt674.1 bt684.2.1 bt684.2.2 (sc bt678.1 bt678.2.1) (⟨#[35, 64, 10, 48, 49]⟩ : ByteArray)).bind fun bt687 => (spec_DrawRecoverLog.j0 k bt687.1 bt674.1 bt687.2.1 bt687.2.2)) else (if bt684.1 = 1 then ((spec_l1Cur_pick.f bt674.1 bt684.2.1 bt684.2.2 (wrap64 (((sc bt678.1 bt678.2.1).size : Int) + 1))).bind fun bt690 => (if 0 ≤ bt690.1 then (if bt690.1 ≤ ((sc bt678.1 bt678.2.1).size : Int) then (spec_DrawRecoverLog.j0 k (sx (sc bt678.1 bt678.2.1) (0) ((bt690.1 : Int).toNat)) bt674.1 bt690.2.1 bt690.2.2) else (none)) else (none))) else (if bt684.1 = 2 then ((spec_l1Cur_pick.f bt674.1 bt684.2.1 bt684.2.2 4).bind fun bt693 => ((spec_l1Cur_logRecord.f bt674.1 bt693.2.1 bt693.2.2).bind fun bt696 => ((spec_l27Line.f k bt693.1 bt696.1 bt696.2.1).bind fun t700 => (if (sc bt678.1 bt678.2.1).size + t700.size ≤ 9223372036854775807 then (spec_DrawRecoverLog.j0 k (sc (sc bt678.1 bt678.2.1) t700) bt674.1 bt696.2.2.1 bt696.2.2.2) else (none))))) else (spec_DrawRecoverLog.j0 k (sc bt678.1 bt678.2.1) bt674.1 bt684.2.1 bt684.2.2))))) else (none)))) = some r := h
 clear h
 replace H := Option.bind_eq_some_iff.mp H
 obtain ⟨⟨t674, t675, t676⟩, A20, H⟩ := H
 replace H : ((spec_l1Cur_log.f k t674 t675 t676).bind fun bt678 => (if bt678.1.size + bt678.2.1.size ≤ 9223372036854775807 then ((spec_l1Cur_pick.f t674 bt678.2.2.2.1 bt678.2.2.2.2 4).bind fun bt684 => (if bt684.1 = 0 then ((spec_l1Cur_spoilt.f t674 bt684.2.1 bt684.2.2 (sc bt678.1 bt678.2.1) (⟨#[35, 64, 10, 48, 49]⟩ : ByteArray)).bind fun bt687 => (spec_DrawRecoverLog.j0 k bt687.1 t674 bt687.2.1 bt687.2.2)) else (if bt684.1 = 1 then ((spec_l1Cur_pick.f t674 bt684.2.1 bt684.2.2 (wrap64 (((sc bt678.1 bt678.2.1).size : Int) + 1))).bind fun bt690 => (if 0 ≤ bt690.1 then (if bt690.1 ≤ ((sc bt678.1 bt678.2.1).size : Int) then (spec_DrawRecoverLog.j0 k (sx (sc bt678.1 bt678.2.1) (0) ((bt690.1 : Int).toNat)) t674 bt690.2.1 bt690.2.2) else (none)) else (none))) else (if bt684.1 = 2 then ((spec_l1Cur_pick.f t674 bt684.2.1 bt684.2.2 4).bind fun bt693 => ((spec_l1Cur_logRecord.f t674 bt693.2.1 bt693.2.2).bind fun bt696 => ((spec_l27Line.f k bt693.1 bt696.1 bt696.2.1).bind fun t700 => (if (sc bt678.1 bt678.2.1).size + t700.size ≤ 9223372036854775807 then (spec_DrawRecoverLog.j0 k (sc (sc bt678.1 bt678.2.1) t700) t674 bt696.2.2.1 bt696.2.2.2) else (none))))) else (spec_DrawRecoverLog.j0 k (sc bt678.1 bt678.2.1) t674 bt684.2.1 bt684.2.2))))) else (none))) = some r := H
 have A2 := Aside0.mk A20
 clear A20
 replace H := Option.bind_eq_some_iff.mp H
 obtain ⟨⟨t678, t679, t680, t681, t682⟩, A30, H⟩ := H
 replace H : (if t678.size + t679.size ≤ 9223372036854775807 then ((spec_l1Cur_pick.f t674 t681 t682 4).bind fun bt684 => (if bt684.1 = 0 then ((spec_l1Cur_spoilt.f t674 bt684.2.1 bt684.2.2 (sc t678 t679) (⟨#[35, 64, 10, 48, 49]⟩ : ByteArray)).bind fun bt687 => (spec_DrawRecoverLog.j0 k bt687.1 t674 bt687.2.1 bt687.2.2)) else (if bt684.1 = 1 then ((spec_l1Cur_pick.f t674 bt684.2.1 bt684.2.2 (wrap64 (((sc t678 t679).size : Int) + 1))).bind fun bt690 => (if 0 ≤ bt690.1 then (if bt690.1 ≤ ((sc t678 t679).size : Int) then (spec_DrawRecoverLog.j0 k (sx (sc t678 t679) (0) ((bt690.1 : Int).toNat)) t674 bt690.2.1 bt690.2.2) else (none)) else (none))) else (if bt684.1 = 2 then ((spec_l1Cur_pick.f t674 bt684.2.1 bt684.2.2 4).bind fun bt693 => ((spec_l1Cur_logRecord.f t674 bt693.2.1 bt693.2.2).bind fun bt696 => ((spec_l27Line.f k bt693.1 bt696.1 bt696.2.1).bind fun t700 => (if (sc t678 t679).size + t700.size ≤ 9223372036854775807 then (spec_DrawRecoverLog.j0 k (sc (sc t678 t679) t700) t674 bt696.2.2.1 bt696.2.2.2) else (none))))) else (spec_DrawRecoverLog.j0 k (sc t678 t679) t674 bt684.2.1 bt684.2.2))))) else (none)) = some r := H
 have A3 := Aside0.mk A30
 clear A30
 by_cases c4 : t678.size + t679.size ≤ 9223372036854775807
 ·
  rw [if_pos c4] at H
  have c4b0 := eq_true c4
  have c4b1 : decide (t678.size + t679.size ≤ 9223372036854775807) = true := decide_eq_true c4
  try have c4b2 : (9223372036854775807 < t678.size + t679.size) = False := eq_false (Nat.not_lt.2 c4)
  replace H := Option.bind_eq_some_iff.mp H
  obtain ⟨⟨t684, t685, t686⟩, A50, H⟩ := H
  replace H : (if t684 = 0 then ((spec_l1Cur_spoilt.f t674 t685 t686 (sc t678 t679) (⟨#[35, 64, 10, 48, 49]⟩ : ByteArray)).bind fun bt687 => (spec_DrawRecoverLog.j0 k bt687.1 t674 bt687.2.1 bt687.2.2)) else (if t684 = 1 then ((spec_l1Cur_pick.f t674 t685 t686 (wrap64 (((sc t678 t679).size : Int) + 1))).bind fun bt690 => (if 0 ≤ bt690.1 then (if bt690.1 ≤ ((sc t678 t679).size : Int) then (spec_DrawRecoverLog.j0 k (sx (sc t678 t679) (0) ((bt690.1 : Int).toNat)) t674 bt690.2.1 bt690.2.2) else (none)) else (none))) else (if t684 = 2 then ((spec_l1Cur_pick.f t674 t685 t686 4).bind fun bt693 => ((spec_l1Cur_logRecord.f t674 bt693.2.1 bt693.2.2).bind fun bt696 => ((spec_l27Line.f k bt693.1 bt696.1 bt696.2.1).bind fun t700 => (if (sc t678 t679).size + t700.size ≤ 9223372036854775807 then (spec_DrawRecoverLog.j0 k (sc (sc t678 t679) t700) t674 bt696.2.2.1 bt696.2.2.2) else (none))))) else (spec_DrawRecoverLog.j0 k (sc t678 t679) t674 t685 t686)))) = some r := H
  have A5 := Aside0.mk A50
  clear A50
  have HC6 := Aside0.mk H
  clear H
  go_enter Tryd.func41, Tryd.ntmps41
  go_upto_block 0 with (first | ((with_reducible refine gate_dst (N := 8) rfl ?_); refine box_event ?hg (N := 8) ?hd (cs := #[.slice A0 l0.length c0, .int .i64 0, .int .u64 0]) (t := 74) ?hr ?_; (case hd => rfl); (case hg => rfl); (case hr => first | (go_simp; done) | (go_simp; rfl)); intro g677 hg w7 hbx hb2; have hb := below_step (lb0_ HB.out) hb2; have hi : IsS74 w w7 g677 t674 t675 t676 := (by have hz_ := A2.out; simp only [spec_newCur.f, Option.some.injEq, Prod.mk.injEq] at hz_; rw [← hz_.1, ← hz_.2.1, ← hz_.2.2]; exact ⟨_, _, hbx, (bz_ hg (lb0_ HB.out)), HR0.out⟩); clear hg hbx; replace HB := Aside0.mk (hb); have HI677 := Aside0.mk (hi); (try clear hb); (try clear hb2); (try clear hk); (try clear hi)) | ((with_reducible refine gate_callee (f := 60) rfl ?_); refine ga_ (some 10) Tryd.func60 #[.pointer (some ⟨g677, 0, none⟩)] ?_; (with_reducible refine (spec_l1Cur_log.calls k g677 t674 t675 t676 t678 t679 t680 t681 t682 w _ ?side1 ?side2 A3.out).mono ?_); (case side1 => exact is74_0 HI677.out); (case side2 => exact lb1_ HB.out (IsS74.ge HI677.out)); rintro e w8 ⟨rfl, hi, hb, hk⟩; refine ⟨_, rfl, ?_⟩; replace HB := Aside0.mk (hb); replace HI677 := Aside0.mk (hi); (try clear hb); (try clear hb2); (try clear hk); (try clear hi)) | ((with_reducible refine gate_dst (N := 4) rfl ?_); refine box_event ?hg (N := 4) ?hd (cs := #[.string (⟨#[]⟩ : ByteArray), .string (⟨#[]⟩ : ByteArray), .int .i64 0]) (t := 31) ?hr ?_; (case hd => rfl); (case hg => rfl); (case hr => first | (go_simp; done) | (go_simp; rfl)); intro gb683 hg w9 hbox hb; have BK683 := Aside0.mk (hbox); have GW683 := Aside0.mk ((by rw [hg]; exact (below_size (lb1_ HB.out (IsS74.ge HI677.out))) : w.heap.size ≤ gb683)); have GE683 := Aside0.mk ((by rw [hg]; exact (below_size (lb1_ HB.out (IsS74.ge HI677.out))) : w.heap.size ≤ gb683)); replace HB := Aside0.mk (below_step (lb1_ HB.out (IsS74.ge HI677.out)) hb); have NB677_683 := Aside0.mk ((by rw [hg]; exact Nat.ne_of_lt (IsS74.lt (show IsS74 w _ g677 t674 t681 t682 from is74_0 HI677.out)) : g677 ≠ gb683)); have NB683_677 := Aside0.mk ((by rw [hg]; exact Nat.ne_of_gt (IsS74.lt (show IsS74 w _ g677 t674 t681 t682 from is74_0 HI677.out)) : gb683 ≠ g677)); replace HI677 := Aside0.mk (IsS74.below (is74_0 HI677.out) hb); clear hb hbox hg; have hnb10 := NB683_677.out; have hnc10 := NB677_683.out; obtain ⟨hcz11_0, hcz11_1, hcz11_2⟩ := cz3_ BK683.out; obtain ⟨hfz11_0, hfz11_1, hfz11_2⟩ := fz3_ BK683.out) | ((with_reducible refine gate_callee (f := 55) rfl ?_); refine ga_ (some 17) Tryd.func55 #[.pointer (some ⟨g677, 0, none⟩), .int .i64 4] ?_; (with_reducible refine (spec_l1Cur_pick.calls g677 t674 t681 t682 4 t684 t685 t686 w _ ?side1 ?side2 A5.out).mono ?_); (case side1 => exact is74_1 HI677.out NB677_683.out); (case side2 => exact lb2_ HB.out (IsS74.ge HI677.out) GE683.out); rintro e w12 ⟨rfl, hi, hb, hk⟩; refine ⟨_, rfl, ?_⟩; replace BK683 := Aside0.mk (KeepBut.blk hk (g' := gb683) (o := .cells #[.string t678, .string t679, .int .i64 t680] 31 (0, 0)) (by (with_reducible repeat (first | refine blk_drewN ?_ _ | refine blk_drew ?_ | refine blk_alloc ?_ _)); refine blk_put (cs := #[.string t678, .string t679, .int .i64 0]) ?_ 2 _ rfl; (with_reducible repeat (first | refine blk_drewN ?_ _ | refine blk_drew ?_ | refine blk_alloc ?_ _)); refine blk_put (cs := #[.string t678, .string (⟨#[]⟩ : ByteArray), .int .i64 0]) ?_ 1 _ rfl; (with_reducible repeat (first | refine blk_drewN ?_ _ | refine blk_drew ?_ | refine blk_alloc ?_ _)); refine blk_put (cs := #[.string (⟨#[]⟩ : ByteArray), .string (⟨#[]⟩ : ByteArray), .int .i64 0]) ?_ 0 _ rfl; (with_reducible repeat (first | refine blk_drewN ?_ _ | refine blk_drew ?_ | refine blk_alloc ?_ _)); exact BK683.out) NB683_677.out (by simp)); replace HB := Aside0.mk (hb); replace HI677 := Aside0.mk (hi); (try clear hb); (try clear hb2); (try clear hk); (try clear hi)))
  (try simp only [Act.put, List.setIfInBounds_toArray, List.set_cons_zero, List.set_cons_succ])
  go_cut [5] (fun v5 wc => ∃ (kq : Nat) (x5_5 : ByteArray) (x678001_5 : Int) (x678002_5 : Int), v5 = .string x5_5 ∧ Aside0 (spec_DrawRecoverLog.j0 kq x5_5 t674 x678001_5 x678002_5 = some r) ∧ Aside0 (kq ≤ k) ∧ Aside0 (wc.heap[gb683]? = some (.cells #[.string t678, .string t679, .int .i64 t680] 31 (0, 0))) ∧ Aside0 (IsS74 w wc g677 t674 x678001_5 x678002_5) ∧ Aside0 (Below w.heap.size w wc))
  case first =>
   have H := HC6.out
   clear HC6
   by_cases c13 : t684 = 0
   ·
    rw [if_pos c13] at H
    have c13b0 : (t684 == 0) = true := beq_iff_eq.mpr c13
    have c13b1 : (t684 != 0) = false := bne_eq_false_iff_eq.mpr c13
    clear c13
    (first | rw [c13b0] | (simp only [i64_w, i32_w]; rw [c13b0]) | skip)
    replace H := Option.bind_eq_some_iff.mp H
    obtain ⟨⟨t687, t688, t689⟩, A140, H⟩ := H
    replace H : (spec_DrawRecoverLog.j0 k t687 t674 t688 t689) = some r := H
    have A14 := Aside0.mk A140
    clear A140
    have H' := Aside0.mk H
    clear H
    go_wp2_with (first | ((with_reducible refine gate_callee (f := 61) rfl ?_); refine ga_ (some 22) Tryd.func61 #[.pointer (some ⟨g677, 0, none⟩), .string (sc t678 t679), .string (⟨#[35, 64, 10, 48, 49]⟩ : ByteArray)] ?_; (with_reducible refine (spec_l1Cur_spoilt.calls g677 t674 t685 t686 (sc t678 t679) (⟨#[35, 64, 10, 48, 49]⟩ : ByteArray) t687 t688 t689 w _ ?side1 ?side2 A14.out).mono ?_); (case side1 => exact is74_1 HI677.out NB677_683.out); (case side2 => exact lb2_ HB.out (IsS74.ge HI677.out) GE683.out); rintro e w15 ⟨rfl, hi, hb, hk⟩; refine ⟨_, rfl, ?_⟩; replace BK683 := Aside0.mk (KeepBut.blk hk (g' := gb683) (o := .cells #[.string t678, .string t679, .int .i64 t680] 31 (0, 0)) (bk_ BK683.out) NB683_677.out (by simp)); replace HB := Aside0.mk (hb); replace HI677 := Aside0.mk (hi); (try clear hb); (try clear hb2); (try clear hk); (try clear hi)))
    go_meet
    case rel => exact ⟨_, (t687), (t688), (t689), (by first | rfl | (simp; done) | (simp [*]; done)), H', ⟨by first | omega | exact Nat.le_refl _⟩, ⟨bk_ BK683.out⟩, ⟨is74_1 HI677.out NB677_683.out⟩, ⟨lb2_ HB.out (IsS74.ge HI677.out) GE683.out⟩⟩
   ·
    rw [if_neg c13] at H
    have c13b0 : (t684 == 0) = false := beq_eq_false_iff_ne.mpr c13
    have c13b1 : (t684 != 0) = true := bne_iff_ne.mpr c13
    (first | rw [c13b0] | (simp only [i64_w, i32_w]; rw [c13b0]) | skip)
    by_cases c16 : t684 = 1
    ·
     rw [if_pos c16] at H
     have c16b0 : (t684 == 1) = true := beq_iff_eq.mpr c16
     have c16b1 : (t684 != 1) = false := bne_eq_false_iff_eq.mpr c16
     clear c16
     replace H := Option.bind_eq_some_iff.mp H
     obtain ⟨⟨t690, t691, t692⟩, A170, H⟩ := H
     replace H : (if 0 ≤ t690 then (if t690 ≤ ((sc t678 t679).size : Int) then (spec_DrawRecoverLog.j0 k (sx (sc t678 t679) (0) ((t690 : Int).toNat)) t674 t691 t692) else (none)) else (none)) = some r := H
     have A17 := Aside0.mk A170
     clear A170
     by_cases c18 : 0 ≤ t690
     ·
      rw [if_pos c18] at H
      have c18b0 := eq_true c18
      have c18b1 : decide (0 ≤ t690) = true := decide_eq_true c18
      clear c18
      by_cases c19 : t690 ≤ ((sc t678 t679).size : Int)
      ·
       rw [if_pos c19] at H
       have c19b0 := eq_true c19
       have c19b1 : decide (t690 ≤ ((sc t678 t679).size : Int)) = true := decide_eq_true c19
       clear c19
       have H' := Aside0.mk H
       clear H
       go_wp2_with (first | ((with_reducible refine gate_callee (f := 55) rfl ?_); refine ga_ (some 30) Tryd.func55 #[.pointer (some ⟨g677, 0, none⟩), .int .i64 (wrap64 (((sc t678 t679).size : Int) + 1))] ?_; (with_reducible refine (spec_l1Cur_pick.calls g677 t674 t685 t686 (wrap64 (((sc t678 t679).size : Int) + 1)) t690 t691 t692 w _ ?side1 ?side2 A17.out).mono ?_); (case side1 => exact is74_1 HI677.out NB677_683.out); (case side2 => exact lb2_ HB.out (IsS74.ge HI677.out) GE683.out); rintro e w20 ⟨rfl, hi, hb, hk⟩; refine ⟨_, rfl, ?_⟩; replace BK683 := Aside0.mk (KeepBut.blk hk (g' := gb683) (o := .cells #[.string t678, .string t679, .int .i64 t680] 31 (0, 0)) (bk_ BK683.out) NB683_677.out (by simp)); replace HB := Aside0.mk (hb); replace HI677 := Aside0.mk (hi); (try clear hb); (try clear hb2); (try clear hk); (try clear hi)))
       go_meet
       case rel => exact ⟨_, (sx (sc t678 t679) (0) ((t690 : Int).toNat)), (t691), (t692), (by first | rfl | (simp; done) | (simp [*]; done)), H', ⟨by first | omega | exact Nat.le_refl _⟩, ⟨bk_ BK683.out⟩, ⟨is74_1 HI677.out NB677_683.out⟩, ⟨lb2_ HB.out (IsS74.ge HI677.out) GE683.out⟩⟩
      ·
       rw [if_neg c19] at H
       exact absurd H (by simp)
     ·
      rw [if_neg c18] at H
      exact absurd H (by simp)
    ·
     rw [if_neg c16] at H
     have c16b0 : (t684 == 1) = false := beq_eq_false_iff_ne.mpr c16
     have c16b1 : (t684 != 1) = true := bne_iff_ne.mpr c16
     by_cases c21 : t684 = 2
     ·
      rw [if_pos c21] at H
      have c21b0 : (t684 == 2) = true := beq_iff_eq.mpr c21
      have c21b1 : (t684 != 2) = false := bne_eq_false_iff_eq.mpr c21
      clear c21
      replace H := Option.bind_eq_some_iff.mp H
      obtain ⟨⟨t693, t694, t695⟩, A220, H⟩ := H
      replace H : ((spec_l1Cur_logRecord.f t674 t694 t695).bind fun bt696 => ((spec_l27Line.f k t693 bt696.1 bt696.2.1).bind fun t700 => (if (sc t678 t679).size + t700.size ≤ 9223372036854775807 then (spec_DrawRecoverLog.j0 k (sc (sc t678 t679) t700) t674 bt696.2.2.1 bt696.2.2.2) else (none)))) = some r := H
      have A22 := Aside0.mk A220
      clear A220
      replace H := Option.bind_eq_some_iff.mp H
      obtain ⟨⟨t696, t697, t698, t699⟩, A230, H⟩ := H
      replace H : ((spec_l27Line.f k t693 t696 t697).bind fun t700 => (if (sc t678 t679).size + t700.size ≤ 9223372036854775807 then (spec_DrawRecoverLog.j0 k (sc (sc t678 t679) t700) t674 t698 t699) else (none))) = some r := H
      have A23 := Aside0.mk A230
      clear A230
      replace H := Option.bind_eq_some_iff.mp H
      obtain ⟨t700, A240, H⟩ := H
      replace H : (if (sc t678 t679).size + t700.size ≤ 9223372036854775807 then (spec_DrawRecoverLog.j0 k (sc (sc t678 t679) t700) t674 t698 t699) else (none)) = some r := H
      have A24 := Aside0.mk A240
      clear A240
      by_cases c25 : (sc t678 t679).size + t700.size ≤ 9223372036854775807
      ·
       rw [if_pos c25] at H
       have c25b0 := eq_true c25
       have c25b1 : decide ((sc t678 t679).size + t700.size ≤ 9223372036854775807) = true := decide_eq_true c25
       try have c25b2 : (9223372036854775807 < (sc t678 t679).size + t700.size) = False := eq_false (Nat.not_lt.2 c25)
       have H' := Aside0.mk H
       clear H
       go_wp2_with (first | ((with_reducible refine gate_callee (f := 55) rfl ?_); refine ga_ (some 36) Tryd.func55 #[.pointer (some ⟨g677, 0, none⟩), .int .i64 4] ?_; (with_reducible refine (spec_l1Cur_pick.calls g677 t674 t685 t686 4 t693 t694 t695 w _ ?side1 ?side2 A22.out).mono ?_); (case side1 => exact is74_1 HI677.out NB677_683.out); (case side2 => exact lb2_ HB.out (IsS74.ge HI677.out) GE683.out); rintro e w26 ⟨rfl, hi, hb, hk⟩; refine ⟨_, rfl, ?_⟩; replace BK683 := Aside0.mk (KeepBut.blk hk (g' := gb683) (o := .cells #[.string t678, .string t679, .int .i64 t680] 31 (0, 0)) (bk_ BK683.out) NB683_677.out (by simp)); replace HB := Aside0.mk (hb); replace HI677 := Aside0.mk (hi); (try clear hb); (try clear hb2); (try clear hk); (try clear hi)) | ((with_reducible refine gate_callee (f := 56) rfl ?_); refine ga_ (some 38) Tryd.func56 #[.pointer (some ⟨g677, 0, none⟩)] ?_; (with_reducible refine (spec_l1Cur_logRecord.calls g677 t674 t694 t695 t696 t697 t698 t699 w _ ?side1 ?side2 A23.out).mono ?_); (case side1 => exact is74_1 HI677.out NB677_683.out); (case side2 => exact lb2_ HB.out (IsS74.ge HI677.out) GE683.out); rintro e w27 ⟨rfl, hi, hb, hk⟩; refine ⟨_, rfl, ?_⟩; replace BK683 := Aside0.mk (KeepBut.blk hk (g' := gb683) (o := .cells #[.string t678, .string t679, .int .i64 t680] 31 (0, 0)) (bk_ BK683.out) NB683_677.out (by simp)); replace HB := Aside0.mk (hb); replace HI677 := Aside0.mk (hi); (try clear hb); (try clear hb2); (try clear hk); (try clear hi)) | ((with_reducible refine gate_callee (f := 44) rfl ?_); refine ga_ (some 39) Tryd.func44 #[.int .i64 t693, .agg #[.string t696, .string t697]] ?_; (with_reducible refine (spec_l27Line.calls k t693 t696 t697 t700 _ A24.out).mono ?_); rintro e w28 ⟨rfl, hb⟩; refine ⟨_, rfl, ?_⟩; replace BK683 := Aside0.mk (bb_ (bk_ BK683.out) hb); replace HB := Aside0.mk (below_step (lb2_ HB.out (IsS74.ge HI677.out) GE683.out) hb); replace HI677 := Aside0.mk (IsS74.below (is74_1 HI677.out NB677_683.out) hb); (try clear hb); (try clear hb2); (try clear hk); (try clear hi)))
       go_meet
       case rel => exact ⟨_, (sc (sc t678 t679) t700), (t698), (t699), (by first | rfl | (simp; done) | (simp [*]; done)), H', ⟨by first | omega | exact Nat.le_refl _⟩, ⟨bk_ BK683.out⟩, ⟨is74_1 HI677.out NB677_683.out⟩, ⟨lb2_ HB.out (IsS74.ge HI677.out) GE683.out⟩⟩
      ·
       rw [if_neg c25] at H
       exact absurd H (by simp)
     ·
      rw [if_neg c21] at H
      have c21b0 : (t684 == 2) = false := beq_eq_false_iff_ne.mpr c21
      have c21b1 : (t684 != 2) = true := bne_iff_ne.mpr c21
      have H' := Aside0.mk H
      clear H
      go_wp2
      go_meet
      case rel => exact ⟨_, (sc t678 t679), (t685), (t686), (by first | rfl | (simp; done) | (simp [*]; done)), H', ⟨by first | omega | exact Nat.le_refl _⟩, ⟨bk_ BK683.out⟩, ⟨is74_1 HI677.out NB677_683.out⟩, ⟨lb2_ HB.out (IsS74.ge HI677.out) GE683.out⟩⟩
  case rest =>
   clear HC6
   try clear c1
   try clear c2
   try clear p2
   try clear c4
   try clear c4b0
   try clear c4b1
   try clear c4b2
   try clear c5
   try clear c6
   try clear p6
   try clear c10
   try clear c13
   try clear c13b0
   try clear c13b1
   try clear c16
   try clear c16b0
   try clear c16b1
   try clear c18
   try clear c18b0
   try clear c18b1
   try clear c19
   try clear c19b0
   try clear c19b1
   try clear c21
   try clear c21b0
   try clear c21b1
   try clear c25
   try clear c25b0
   try clear c25b1
   try clear c25b2
   try clear hcz11_0 hcz11_1 hcz11_2
   try clear hfz11_0 hfz11_1 hfz11_2
   obtain ⟨kq, x5_5, x678001_5, x678002_5, rfl, HA, HJ5, BK683, HI677, HB⟩ := hcut
   cases kq with
   | zero => exact absurd HA.out (by simp [spec_DrawRecoverLog.j0])
   | succ kj5 =>
    have H := HA.out
    clear HA
    simp only [spec_DrawRecoverLog.j0] at H
    replace H := Option.bind_eq_some_iff.mp H
    obtain ⟨⟨t701, t702, t703⟩, A290, H⟩ := H
    replace H : (if t701 = true then ((spec_l1Cur_pick.f t674 t702 t703 2).bind fun bt704 => (if 0 ≤ (wrap64 (30000 + bt704.1)) then (if (wrap64 (30000 + bt704.1) : Int).toNat ≤ 281474976710656 then (some (strOfNums (List.replicate (wrap64 (30000 + bt704.1) : Int).toNat 0))) else (none)) else (none))) else (some x5_5)) = some r := H
    have A29 := Aside0.mk A290
    clear A290
    by_cases c30 : t701 = true
    ·
     subst c30
     have H1 : ((spec_l1Cur_pick.f t674 t702 t703 2).bind fun bt704 => (if 0 ≤ (wrap64 (30000 + bt704.1)) then (if (wrap64 (30000 + bt704.1) : Int).toNat ≤ 281474976710656 then (some (strOfNums (List.replicate (wrap64 (30000 + bt704.1) : Int).toNat 0))) else (none)) else (none))) = some r := by rw [if_pos rfl] at H; exact H
     clear H
     have H := H1
     clear H1
     replace H := Option.bind_eq_some_iff.mp H
     obtain ⟨⟨t704, t705, t706⟩, A310, H⟩ := H
     replace H : (if 0 ≤ (wrap64 (30000 + t704)) then (if (wrap64 (30000 + t704) : Int).toNat ≤ 281474976710656 then (some (strOfNums (List.replicate (wrap64 (30000 + t704) : Int).toNat 0))) else (none)) else (none)) = some r := H
     have A31 := Aside0.mk A310
     clear A310
     obtain ⟨ji32, hji32⟩ : ∃ j_ : Int, (wrap64 (30000 + t704)) = j_ := ⟨_, rfl⟩
     replace H : (if 0 ≤ (ji32) then (if (ji32 : Int).toNat ≤ 281474976710656 then (some (strOfNums (List.replicate (ji32 : Int).toNat 0))) else (none)) else (none)) = some r := by first | (rw [hji32] at H; exact H) | (simp only [hji32] at H ⊢; exact H)
     (try rw [hji32] at A29)
     (try rw [hji32] at A31)
     have hji32w : (IntKind.i64.wrap (30000 + t704)) = ji32 := (i64_w _).trans hji32
     by_cases c33 : 0 ≤ (ji32)
     ·
      rw [if_pos c33] at H
      have c33b0 := eq_true c33
      have c33b1 : decide (0 ≤ (ji32)) = true := decide_eq_true c33
      clear c33
      by_cases c34 : (ji32 : Int).toNat ≤ 281474976710656
      ·
       rw [if_pos c34] at H
       have c34b0 := eq_true c34
       have c34b1 : decide ((ji32 : Int).toNat ≤ 281474976710656) = true := decide_eq_true c34
       clear c34
       obtain ⟨y707, hy707⟩ : ∃ y_ : List Int, y_ = (List.replicate (ji32 : Int).toNat 0) := ⟨_, rfl⟩
       replace H : (some (strOfNums y707)) = some r := by first | (rw [hy707]; with_reducible exact H) | (have H2_ := (Option.bind_some _ _).symm.trans H; rw [hy707]; with_reducible exact H2_) | (have H2_ := (Option.bind_some _ _).symm.trans H; with_reducible exact H2_) | with_reducible exact H | (rw [hy707]; exact H) | exact H
       have Ny707 := Aside0.mk hy707
       clear hy707
       obtain rfl := Option.some.inj H
       go_wp2_with (first | ((with_reducible refine gate_callee (f := 54) rfl ?_); refine ga_ (some 42) Tryd.func54 #[.pointer (some ⟨g677, 0, none⟩), .int .i64 40] ?_; (with_reducible refine (spec_l1Cur_one.calls g677 t674 x678001_5 x678002_5 40 true t702 t703 w _ ?side1 ?side2 A29.out).mono ?_); (case side1 => exact is74_1 HI677.out NB677_683.out); (case side2 => exact lb2_ HB.out (IsS74.ge HI677.out) GE683.out); rintro e w35 ⟨rfl, hi, hb, hk⟩; refine ⟨_, rfl, ?_⟩; replace BK683 := Aside0.mk (KeepBut.blk hk (g' := gb683) (o := .cells #[.string t678, .string t679, .int .i64 t680] 31 (0, 0)) (bk_ BK683.out) NB683_677.out (by simp)); replace HB := Aside0.mk (hb); replace HI677 := Aside0.mk (hi); (try clear hb); (try clear hb2); (try clear hk); (try clear hi)) | ((with_reducible refine gate_callee (f := 55) rfl ?_); refine ga_ (some 44) Tryd.func55 #[.pointer (some ⟨g677, 0, none⟩), .int .i64 2] ?_; (with_reducible refine (spec_l1Cur_pick.calls g677 t674 t702 t703 2 t704 t705 t706 w _ ?side1 ?side2 A31.out).mono ?_); (case side1 => exact is74_1 HI677.out NB677_683.out); (case side2 => exact lb2_ HB.out (IsS74.ge HI677.out) GE683.out); rintro e w36 ⟨rfl, hi, hb, hk⟩; refine ⟨_, rfl, ?_⟩; replace BK683 := Aside0.mk (KeepBut.blk hk (g' := gb683) (o := .cells #[.string t678, .string t679, .int .i64 t680] 31 (0, 0)) (bk_ BK683.out) NB683_677.out (by simp)); replace HB := Aside0.mk (hb); replace HI677 := Aside0.mk (hi); (try clear hb); (try clear hb2); (try clear hk); (try clear hi)) | ((with_reducible refine gate_dst (N := 46) rfl ?_); refine Kd.R_make (Kd.int .u8) _ 5 rfl (N := 46) rfl 53 _ _ rfl ji32 rfl rfl Tryd.underlying53 (.int .u8 0) 1 info5 rfl (by decide) (by omega) 0 (ok := fun _ => True) (okp := fun _ => True) rfl (fun _ hk => hk) trivial (dt_) (Nat.le_trans (Nat.mul_le_mul_right _ (dt_ : ji32.toNat ≤ 281474976710656)) (by omega)) (Below.refl _ _) (Nat.le_refl _) ?_; intro v708 w37 ho38 hb hg_ hnew_; clear hg_ hnew_; replace ho38 := ry_ Ny707.out ho38; have HO709 := Aside0.mk (Kd.R_lower ho38 (below_size (lb2_ HB.out (IsS74.ge HI677.out) GE683.out))); replace BK683 := Aside0.mk (bb_ (bk_ BK683.out) hb); replace HB := Aside0.mk (below_step (lb2_ HB.out (IsS74.ge HI677.out) GE683.out) hb); replace HI677 := Aside0.mk (IsS74.below (is74_1 HI677.out NB677_683.out) hb); clear hb ho38; have hcv39 := own_string (P := Tryd.prog) Tryd.underlying53 Tryd.underlying5 Tryd.underlying9 (Kd.own_of_R HO709.out)))
       go_ret
       exact ⟨by first | rfl | (simp [errW_none, errW_some] <;> rfl) | (simp only [← hji32]; first | rfl | (simp [errW_none, errW_some] <;> rfl)) | (simp [*, errW_none, errW_some] <;> rfl) | (have hw_ : ∀ n : Nat, (n + 1 ≤ 9223372036854775807) → wrap64 ((n : Int) + 1) = (n : Int) + 1 := fun n hn => by unfold wrap64; omega); (rw [hw_ _ (by first | assumption | omega)]); rfl, lb2_ HB.out (IsS74.ge HI677.out) GE683.out⟩
      ·
       rw [if_neg c34] at H
       exact absurd H (by simp)
     ·
      rw [if_neg c33] at H
      exact absurd H (by simp)
    ·
     replace c30 := Bool.eq_false_iff.mpr c30
     subst c30
     have H1 : (some x5_5) = some r := by rw [if_neg (show ¬ (false = true) by decide)] at H; exact H
     clear H
     have H := H1
     clear H1
     obtain rfl := Option.some.inj H
     go_wp2_with (first | ((with_reducible refine gate_callee (f := 54) rfl ?_); refine ga_ (some 42) Tryd.func54 #[.pointer (some ⟨g677, 0, none⟩), .int .i64 40] ?_; (with_reducible refine (spec_l1Cur_one.calls g677 t674 x678001_5 x678002_5 40 false t702 t703 w _ ?side1 ?side2 A29.out).mono ?_); (case side1 => exact is74_1 HI677.out NB677_683.out); (case side2 => exact lb2_ HB.out (IsS74.ge HI677.out) GE683.out); rintro e w40 ⟨rfl, hi, hb, hk⟩; refine ⟨_, rfl, ?_⟩; replace BK683 := Aside0.mk (KeepBut.blk hk (g' := gb683) (o := .cells #[.string t678, .string t679, .int .i64 t680] 31 (0, 0)) (bk_ BK683.out) NB683_677.out (by simp)); replace HB := Aside0.mk (hb); replace HI677 := Aside0.mk (hi); (try clear hb); (try clear hb2); (try clear hk); (try clear hi)))
     go_ret
     exact ⟨by first | rfl | (simp [errW_none, errW_some] <;> rfl) | (simp [*, errW_none, errW_some] <;> rfl) | (have hw_ : ∀ n : Nat, (n + 1 ≤ 9223372036854775807) → wrap64 ((n : Int) + 1) = (n : Int) + 1 := fun n hn => by unfold wrap64; omega); (rw [hw_ _ (by first | assumption | omega)]); rfl, lb2_ HB.out (IsS74.ge HI677.out) GE683.out⟩
 ·
  rw [if_neg c4] at H
  exact absurd H (by simp)
end Go.Proofs.YtdpinnhgkocjhaaDoor.Pr

namespace Go.Proofs.YtdpinnhgkocjhaaDoor.Pr
open Go.RowKit Go.Proofs.YtdpinnhgkocjhaaDoorW.PrintWords Go.Proofs.YtdpinnhgkocjhaaDoorW.PrintLast Go.Proofs.YtdpinnhgkocjhaaDoorW.PrintMore
attribute [local go_sem] max2_int min2_int max_two min_two max_three min_three max_four min_four   -- for this text's walks alone
set_option linter.unusedVariables false
set_option linter.unusedSimpArgs false
attribute [local go_sem high] eqA31
mutual
def laws_FnLogLines.j0 : Nat → Int → ByteArray → Bool → Bool → Bool → ByteArray → ByteArray → Int → Option (Bool)
 | 0, _, _, _, _, _, _, _, _ => none
 | k + 1, x3, x5, x6, x12, x76, x726000, x726001, x726002 => if x76 = true then (none) else ((impl_RecoverLog.f k x5).bind fun bt732 => (if x6 = true then (if ((decide (bt732.2.2.2.1 > 0)) != (x3 == 0)) = true then (laws_FnLogLines.j1 k x5 x6 x12 true x726000 x726001 x726002) else (if x3 = 0 then (laws_FnLogLines.j1 k x5 x6 x12 (bt732.2.2.1 != 1) x726000 x726001 x726002) else (laws_FnLogLines.j1 k x5 x6 x12 false x726000 x726001 x726002))) else (laws_FnLogLines.j1 k x5 x6 x12 false x726000 x726001 x726002)))
def laws_FnLogLines.j1 : Nat → ByteArray → Bool → Bool → Bool → ByteArray → ByteArray → Int → Option (Bool)
 | 0, _, _, _, _, _, _, _ => none
 | k + 1, x5, x6, x12, x102, x726000, x726001, x726002 => if x102 = true then (none) else ((impl_SyncLog.f k x726000 x726001 x726002).bind fun bt738 => (if x12 = true then (if bt738.2.2.2 = true then (if (bt738.1.toList == x726000.toList && (bt738.2.1.toList == x726001.toList && (bt738.2.2.1 == x726002))) = true then ((impl_IsValidLog.f k x726000 x726001 x726002).bind fun t743 => (if t743 = true then (if x6 = true then (some true) else (some (x5.toList == ([] : List UInt8)))) else (none))) else (none)) else (none)) else (some true)))
end
def laws_FnLogLines.f (k : Nat) (l0 : List Int) : Option (Bool) := (laws_vBig.f l0).bind fun t710 => (if t710 = true then (some true) else ((spec_DrawEncodeRecord.f l0).bind fun bt711 => ((impl_EncodeRecord.f k bt711.1 bt711.2.1 bt711.2.2).bind fun bt715 => ((spec_EncodeRecord.f k bt711.1 bt711.2.1 bt711.2.2).bind fun bt717 => ((spec_DrawRecoverLog.f k l0).bind fun t719 => ((impl_RecoverLog.f k t719).bind fun bt720 => ((spec_RecoverLog.f k t719).bind fun bt726 => (if bt715.1.toList = bt717.1.toList then (if (bt715.2 != bt717.2) = true then (laws_FnLogLines.j0 k bt711.1 bt715.1 bt715.2 bt720.2.2.2.2 true bt720.1 bt720.2.1 bt720.2.2.1) else (if (!(bt720.1.toList == bt726.1.toList) || (!(bt720.2.1.toList == bt726.2.1.toList) || (!(bt720.2.2.1 == bt726.2.2.1)))) = true then (laws_FnLogLines.j0 k bt711.1 bt715.1 bt715.2 bt720.2.2.2.2 true bt720.1 bt720.2.1 bt720.2.2.1) else (if bt720.2.2.2.1 = bt726.2.2.2.1 then (laws_FnLogLines.j0 k bt711.1 bt715.1 bt715.2 bt720.2.2.2.2 (bt720.2.2.2.2 != bt726.2.2.2.2) bt720.1 bt720.2.1 bt720.2.2.1) else (laws_FnLogLines.j0 k bt711.1 bt715.1 bt715.2 bt720.2.2.2.2 true bt720.1 bt720.2.1 bt720.2.2.1)))) else (laws_FnLogLines.j0 k bt711.1 bt715.1 bt715.2 bt720.2.2.2.2 true bt720.1 bt720.2.1 bt720.2.2.1)))))))))
set_option maxHeartbeats 8000000 in
set_option maxRecDepth 100000 in
theorem laws_FnLogLines.calls (k : Nat) (A0 : Option Addr) (c0 : Nat) (l0 : List Int) (r : Bool) (w : World) (hr0 : Kd.C (Kd.int .u8) w A0 l0.length l0) (hc0 : l0.length ≤ c0) (h : laws_FnLogLines.f k l0 = some r) (hT : Tb w) :
  Calls Tryd.prog 12 #[.slice A0 l0.length c0] w fun e w' => e = .returned (.bool r) ∧ Below w.heap.size w w' := by
 have HT := Aside0.mk hT
 clear hT
 have hu27 := Tryd.underlying27
 have hu31 := Tryd.underlying31
 have HR0 := Aside0.mk hr0
 have HC0 := Aside0.mk hc0
 clear hr0 hc0
 have HB := Aside0.mk (Below.refl w.heap.size w)
 have H : ((laws_vBig.f l0).bind fun t710 => (if t710 = true then (some true) else ((spec_DrawEncodeRecord.f l0).bind fun bt711 => ((impl_EncodeRecord.f k bt711.1 bt711.2.1 bt711.2.2).bind fun bt715 => ((spec_EncodeRecord.f k bt711.1 bt711.2.1 bt711.2.2).bind fun bt717 => ((spec_DrawRecoverLog.f k l0).bind fun t719 => ((impl_RecoverLog.f k t719).bind fun bt720 => ((spec_RecoverLog.f k t719).bind fun bt726 => (if bt715.1.toList = bt717.1.toList then (if (bt715.2 != bt717.2) = true then (laws_FnLogLines.j0 k bt711.1 bt715.1 bt715.2 bt720.2.2.2.2 true bt720.1 bt720.2.1 bt720.2.2.1) else (if (!(bt720.1.toList == bt726.1.toList) || (!(bt720.2.1.toList == bt726.2.1.toList) || (!(bt720.2.2.1 == bt726.2.2.1)))) = true then (laws_FnLogLines.j0 k bt711.1 bt715.1 bt715.2 bt720.2.2.2.2 true bt720.1 bt720.2.1 bt720.2.2.1) else (if bt720.2.2.2.1 = bt726.2.2.2.1 then (laws_FnLogLines.j0 k bt711.1 bt715.1 bt715.2 bt720.2.2.2.2 (bt720.2.2.2.2 != bt726.2.2.2.2) bt720.1 bt720.2.1 bt720.2.2.1) else (laws_FnLogLines.j0 k bt711.1 bt715.1 bt715.2 bt720.2.2.2.2 true bt720.1 bt720.2.1 bt720.2.2.1)))) else (laws_FnLogLines.j0 k bt711.1 bt715.1 bt715.2 bt720.2.2.2.2 true bt720.1 bt720.2.1 bt720.2.2.1)))))))))) = some r := h
 clear h
 replace H := Option.bind_eq_some_iff.mp H
 obtain ⟨t710, A20, H⟩ := H
 replace H : (if t710 = true then (some true) else ((spec_DrawEncodeRecord.f l0).bind fun bt711 => ((impl_EncodeRecord.f k bt711.1 bt711.2.1 bt711.2.2).bind fun bt715 => ((spec_EncodeRecord.f k bt711.1 bt711.2.1 bt711.2.2).bind fun bt717 => ((spec_DrawRecoverLog.f k l0).bind fun t719 => ((impl_RecoverLog.f k t719).bind fun bt720 => ((spec_RecoverLog.f k t719).bind fun bt726 => (if bt715.1.toList = bt717.1.toList then (if (bt715.2 != bt717.2) = true then (laws_FnLogLines.j0 k bt711.1 bt715.1 bt715.2 bt720.2.2.2.2 true bt720.1 bt720.2.1 bt720.2.2.1) else (if (!(bt720.1.toList == bt726.1.toList) || (!(bt720.2.1.toList == bt726.2.1.toList) || (!(bt720.2.2.1 == bt726.2.2.1)))) = true then (laws_FnLogLines.j0 k bt711.1 bt715.1 bt715.2 bt720.2.2.2.2 true bt720.1 bt720.2.1 bt720.2.2.1) else (if bt720.2.2.2.1 = bt726.2.2.2.1 then (laws_FnLogLines.j0 k bt711.1 bt715.1 bt715.2 bt720.2.2.2.2 (bt720.2.2.2.2 != bt726.2.2.2.2) bt720.1 bt720.2.1 bt720.2.2.1) else (laws_FnLogLines.j0 k bt711.1 bt715.1 bt715.2 bt720.2.2.2.2 true bt720.1 bt720.2.1 bt720.2.2.1)))) else (laws_FnLogLines.j0 k bt711.1 bt715.1 bt715.2 bt720.2.2.2.2 true bt720.1 bt720.2.1 bt720.2.2.1))))))))) = some r := H
 have A2 := Aside0.mk A20
 clear A20
 by_cases c3 : t710 = true
 ·
  subst c3
  have H1 : (some true) = some r := by rw [if_pos rfl] at H; exact H
  clear H
  have H := H1
  clear H1
  obtain rfl := Option.some.inj H
  go_enter Tryd.func12, Tryd.ntmps12
  go_wp2_with (first | ((with_reducible refine gate_callee (f := 35) rfl ?_); refine ga_ (some 22) Tryd.func35 #[.slice A0 l0.length c0] ?_; (with_reducible refine (laws_vBig.calls _ _ l0 true _ ?side1 ?side2 A2.out).mono ?_); (case side1 => exact kc_ HR0.out); (case side2 => exact HC0.out); rintro e w' ⟨rfl, ⟨nd, rfl⟩⟩; refine ⟨_, rfl, ?_⟩))
  go_ret
  exact ⟨rr_, lb0_ HB.out⟩
 ·
  replace c3 := Bool.eq_false_iff.mpr c3
  subst c3
  have H1 : ((spec_DrawEncodeRecord.f l0).bind fun bt711 => ((impl_EncodeRecord.f k bt711.1 bt711.2.1 bt711.2.2).bind fun bt715 => ((spec_EncodeRecord.f k bt711.1 bt711.2.1 bt711.2.2).bind fun bt717 => ((spec_DrawRecoverLog.f k l0).bind fun t719 => ((impl_RecoverLog.f k t719).bind fun bt720 => ((spec_RecoverLog.f k t719).bind fun bt726 => (if bt715.1.toList = bt717.1.toList then (if (bt715.2 != bt717.2) = true then (laws_FnLogLines.j0 k bt711.1 bt715.1 bt715.2 bt720.2.2.2.2 true bt720.1 bt720.2.1 bt720.2.2.1) else (if (!(bt720.1.toList == bt726.1.toList) || (!(bt720.2.1.toList == bt726.2.1.toList) || (!(bt720.2.2.1 == bt726.2.2.1)))) = true then (laws_FnLogLines.j0 k bt711.1 bt715.1 bt715.2 bt720.2.2.2.2 true bt720.1 bt720.2.1 bt720.2.2.1) else (if bt720.2.2.2.1 = bt726.2.2.2.1 then (laws_FnLogLines.j0 k bt711.1 bt715.1 bt715.2 bt720.2.2.2.2 (bt720.2.2.2.2 != bt726.2.2.2.2) bt720.1 bt720.2.1 bt720.2.2.1) else (laws_FnLogLines.j0 k bt711.1 bt715.1 bt715.2 bt720.2.2.2.2 true bt720.1 bt720.2.1 bt720.2.2.1)))) else (laws_FnLogLines.j0 k bt711.1 bt715.1 bt715.2 bt720.2.2.2.2 true bt720.1 bt720.2.1 bt720.2.2.1)))))))) = some r := by rw [if_neg (show ¬ (false = true) by decide)] at H; exact H
  clear H
  have H := H1
  clear H1
  replace H := Option.bind_eq_some_iff.mp H
  obtain ⟨⟨t711, t712, t713⟩, A40, H⟩ := H
  replace H : ((impl_EncodeRecord.f k t711 t712 t713).bind fun bt715 => ((spec_EncodeRecord.f k t711 t712 t713).bind fun bt717 => ((spec_DrawRecoverLog.f k l0).bind fun t719 => ((impl_RecoverLog.f k t719).bind fun bt720 => ((spec_RecoverLog.f k t719).bind fun bt726 => (if bt715.1.toList = bt717.1.toList then (if (bt715.2 != bt717.2) = true then (laws_FnLogLines.j0 k t711 bt715.1 bt715.2 bt720.2.2.2.2 true bt720.1 bt720.2.1 bt720.2.2.1) else (if (!(bt720.1.toList == bt726.1.toList) || (!(bt720.2.1.toList == bt726.2.1.toList) || (!(bt720.2.2.1 == bt726.2.2.1)))) = true then (laws_FnLogLines.j0 k t711 bt715.1 bt715.2 bt720.2.2.2.2 true bt720.1 bt720.2.1 bt720.2.2.1) else (if bt720.2.2.2.1 = bt726.2.2.2.1 then (laws_FnLogLines.j0 k t711 bt715.1 bt715.2 bt720.2.2.2.2 (bt720.2.2.2.2 != bt726.2.2.2.2) bt720.1 bt720.2.1 bt720.2.2.1) else (laws_FnLogLines.j0 k t711 bt715.1 bt715.2 bt720.2.2.2.2 true bt720.1 bt720.2.1 bt720.2.2.1)))) else (laws_FnLogLines.j0 k t711 bt715.1 bt715.2 bt720.2.2.2.2 true bt720.1 bt720.2.1 bt720.2.2.1))))))) = some r := H
  have A4 := Aside0.mk A40
  clear A40
  replace H := Option.bind_eq_some_iff.mp H
  obtain ⟨⟨t715, t716⟩, A50, H⟩ := H
  replace H : ((spec_EncodeRecord.f k t711 t712 t713).bind fun bt717 => ((spec_DrawRecoverLog.f k l0).bind fun t719 => ((impl_RecoverLog.f k t719).bind fun bt720 => ((spec_RecoverLog.f k t719).bind fun bt726 => (if t715.toList = bt717.1.toList then (if (t716 != bt717.2) = true then (laws_FnLogLines.j0 k t711 t715 t716 bt720.2.2.2.2 true bt720.1 bt720.2.1 bt720.2.2.1) else (if (!(bt720.1.toList == bt726.1.toList) || (!(bt720.2.1.toList == bt726.2.1.toList) || (!(bt720.2.2.1 == bt726.2.2.1)))) = true then (laws_FnLogLines.j0 k t711 t715 t716 bt720.2.2.2.2 true bt720.1 bt720.2.1 bt720.2.2.1) else (if bt720.2.2.2.1 = bt726.2.2.2.1 then (laws_FnLogLines.j0 k t711 t715 t716 bt720.2.2.2.2 (bt720.2.2.2.2 != bt726.2.2.2.2) bt720.1 bt720.2.1 bt720.2.2.1) else (laws_FnLogLines.j0 k t711 t715 t716 bt720.2.2.2.2 true bt720.1 bt720.2.1 bt720.2.2.1)))) else (laws_FnLogLines.j0 k t711 t715 t716 bt720.2.2.2.2 true bt720.1 bt720.2.1 bt720.2.2.1)))))) = some r := H
  have A5 := Aside0.mk A50
  clear A50
  replace H := Option.bind_eq_some_iff.mp H
  obtain ⟨⟨t717, t718⟩, A60, H⟩ := H
  replace H : ((spec_DrawRecoverLog.f k l0).bind fun t719 => ((impl_RecoverLog.f k t719).bind fun bt720 => ((spec_RecoverLog.f k t719).bind fun bt726 => (if t715.toList = t717.toList then (if (t716 != t718) = true then (laws_FnLogLines.j0 k t711 t715 t716 bt720.2.2.2.2 true bt720.1 bt720.2.1 bt720.2.2.1) else (if (!(bt720.1.toList == bt726.1.toList) || (!(bt720.2.1.toList == bt726.2.1.toList) || (!(bt720.2.2.1 == bt726.2.2.1)))) = true then (laws_FnLogLines.j0 k t711 t715 t716 bt720.2.2.2.2 true bt720.1 bt720.2.1 bt720.2.2.1) else (if bt720.2.2.2.1 = bt726.2.2.2.1 then (laws_FnLogLines.j0 k t711 t715 t716 bt720.2.2.2.2 (bt720.2.2.2.2 != bt726.2.2.2.2) bt720.1 bt720.2.1 bt720.2.2.1) else (laws_FnLogLines.j0 k t711 t715 t716 bt720.2.2.2.2 true bt720.1 bt720.2.1 bt720.2.2.1)))) else (laws_FnLogLines.j0 k t711 t715 t716 bt720.2.2.2.2 true bt720.1 bt720.2.1 bt720.2.2.1))))) = some r := H
  have A6 := Aside0.mk A60
  clear A60
  replace H := Option.bind_eq_some_iff.mp H
  obtain ⟨t719, A70, H⟩ := H
  replace H : ((impl_RecoverLog.f k t719).bind fun bt720 => ((spec_RecoverLog.f k t719).bind fun bt726 => (if t715.toList = t717.toList then (if (t716 != t718) = true then (laws_FnLogLines.j0 k t711 t715 t716 bt720.2.2.2.2 true bt720.1 bt720.2.1 bt720.2.2.1) else (if (!(bt720.1.toList == bt726.1.toList) || (!(bt720.2.1.toList == bt726.2.1.toList) || (!(bt720.2.2.1 == bt726.2.2.1)))) = true then (laws_FnLogLines.j0 k t711 t715 t716 bt720.2.2.2.2 true bt720.1 bt720.2.1 bt720.2.2.1) else (if bt720.2.2.2.1 = bt726.2.2.2.1 then (laws_FnLogLines.j0 k t711 t715 t716 bt720.2.2.2.2 (bt720.2.2.2.2 != bt726.2.2.2.2) bt720.1 bt720.2.1 bt720.2.2.1) else (laws_FnLogLines.j0 k t711 t715 t716 bt720.2.2.2.2 true bt720.1 bt720.2.1 bt720.2.2.1)))) else (laws_FnLogLines.j0 k t711 t715 t716 bt720.2.2.2.2 true bt720.1 bt720.2.1 bt720.2.2.1)))) = some r := H
  have A7 := Aside0.mk A70
  clear A70
  replace H := Option.bind_eq_some_iff.mp H
  obtain ⟨⟨t720, t721, t722, t723, t724⟩, A80, H⟩ := H
  replace H : ((spec_RecoverLog.f k t719).bind fun bt726 => (if t715.toList = t717.toList then (if (t716 != t718) = true then (laws_FnLogLines.j0 k t711 t715 t716 t724 true t720 t721 t722) else (if (!(t720.toList == bt726.1.toList) || (!(t721.toList == bt726.2.1.toList) || (!(t722 == bt726.2.2.1)))) = true then (laws_FnLogLines.j0 k t711 t715 t716 t724 true t720 t721 t722) else (if t723 = bt726.2.2.2.1 then (laws_FnLogLines.j0 k t711 t715 t716 t724 (t724 != bt726.2.2.2.2) t720 t721 t722) else (laws_FnLogLines.j0 k t711 t715 t716 t724 true t720 t721 t722)))) else (laws_FnLogLines.j0 k t711 t715 t716 t724 true t720 t721 t722))) = some r := H
  have A8 := Aside0.mk A80
  clear A80
  replace H := Option.bind_eq_some_iff.mp H
  obtain ⟨⟨t726, t727, t728, t729, t730⟩, A90, H⟩ := H
  replace H : (if t715.toList = t717.toList then (if (t716 != t718) = true then (laws_FnLogLines.j0 k t711 t715 t716 t724 true t720 t721 t722) else (if (!(t720.toList == t726.toList) || (!(t721.toList == t727.toList) || (!(t722 == t728)))) = true then (laws_FnLogLines.j0 k t711 t715 t716 t724 true t720 t721 t722) else (if t723 = t729 then (laws_FnLogLines.j0 k t711 t715 t716 t724 (t724 != t730) t720 t721 t722) else (laws_FnLogLines.j0 k t711 t715 t716 t724 true t720 t721 t722)))) else (laws_FnLogLines.j0 k t711 t715 t716 t724 true t720 t721 t722)) = some r := H
  have A9 := Aside0.mk A90
  clear A90
  have HC10 := Aside0.mk H
  clear H
  go_enter Tryd.func12, Tryd.ntmps12
  go_upto_region 9 with (first | ((with_reducible refine gate_callee (f := 35) rfl ?_); refine ga_ (some 22) Tryd.func35 #[.slice A0 l0.length c0] ?_; (with_reducible refine (laws_vBig.calls _ _ l0 false _ ?side1 ?side2 A2.out).mono ?_); (case side1 => exact kc_ HR0.out); (case side2 => exact HC0.out); rintro e w' ⟨rfl, ⟨nd, rfl⟩⟩; refine ⟨_, rfl, ?_⟩) | ((with_reducible refine gate_callee (f := 40) rfl ?_); refine ga_ (some 25) Tryd.func40 #[.slice A0 l0.length c0] ?_; (with_reducible refine (spec_DrawEncodeRecord.calls _ _ l0 t711 t712 t713 _ ?side1 ?side2 A4.out).mono ?_); (case side1 => exact kc_ HR0.out); (case side2 => exact HC0.out); rintro e w11 ⟨rfl, hb⟩; refine ⟨_, rfl, ?_⟩; replace HB := Aside0.mk (below_step (lb0_ HB.out) hb); (try clear hb); (try clear hb2); (try clear hk); (try clear hi)) | ((with_reducible refine gate_dst (N := 4) rfl ?_); refine box_event ?hg (N := 4) ?hd (cs := #[.string (⟨#[]⟩ : ByteArray), .string (⟨#[]⟩ : ByteArray)]) (t := 27) ?hr ?_; (case hd => rfl); (case hg => rfl); (case hr => first | (go_simp; done) | (go_simp; rfl)); intro gb714 hg w12 hbox hb; have BK714 := Aside0.mk (hbox); have GW714 := Aside0.mk ((bz_ hg (lb0_ HB.out))); have GE714 := Aside0.mk ((bz_ hg (lb0_ HB.out))); replace HB := Aside0.mk (below_step (lb0_ HB.out) hb); clear hb hbox hg; obtain ⟨hcz13_0, hcz13_1⟩ := cz2_ BK714.out; obtain ⟨hfz13_0, hfz13_1⟩ := fz2_ BK714.out) | ((with_reducible refine gate_callee (f := 16) rfl ?_); refine ga_ (some 31) Tryd.func16 #[.int .i64 t711, .agg #[.string t712, .string t713]] ?_; (with_reducible refine (impl_EncodeRecord.calls k t711 t712 t713 t715 t716 _ A5.out ?sideT).mono ?_); (case sideT => first | exact HT.out | exact Tb.step HT.out HB.out | exact Tb.step HT.out (by repeat (first | (with_reducible first | exact HB.out | apply below_alloc | apply pw_below_drewN | apply below_drew1 | refine below_set ?_ GE714.out | refine below_set ?_ GE725.out | refine below_set ?_ GE731.out | refine below_set ?_ GE737.out | refine below_set ?_ GE742.out) | exact HB.out | exact Below.refl _ _))); rintro e w14 ⟨rfl, hb⟩; refine ⟨_, rfl, ?_⟩; replace BK714 := Aside0.mk (blk_below (g := gb714) (o := .cells #[.string t712, .string t713] 27 (0, 0)) (by (with_reducible repeat (first | refine blk_drewN ?_ _ | refine blk_drew ?_ | refine blk_alloc ?_ _)); refine blk_put (cs := #[.string t712, .string (⟨#[]⟩ : ByteArray)]) ?_ 1 _ rfl; (with_reducible repeat (first | refine blk_drewN ?_ _ | refine blk_drew ?_ | refine blk_alloc ?_ _)); refine blk_put (cs := #[.string (⟨#[]⟩ : ByteArray), .string (⟨#[]⟩ : ByteArray)]) ?_ 0 _ rfl; (with_reducible repeat (first | refine blk_drewN ?_ _ | refine blk_drew ?_ | refine blk_alloc ?_ _)); exact BK714.out) hb); replace HB := Aside0.mk (below_step (lb1_ HB.out GE714.out) hb); (try clear hb); (try clear hb2); (try clear hk); (try clear hi); obtain ⟨hcz15_0, hcz15_1⟩ := cz2_ BK714.out; obtain ⟨hfz15_0, hfz15_1⟩ := fz2_ BK714.out) | ((with_reducible refine gate_callee (f := 14) rfl ?_); refine ga_ (some 37) Tryd.func14 #[.int .i64 t711, .agg #[.string t712, .string t713]] ?_; (with_reducible refine (spec_EncodeRecord.calls k t711 t712 t713 t717 t718 _ A6.out).mono ?_); rintro e w16 ⟨rfl, hb⟩; refine ⟨_, rfl, ?_⟩; replace BK714 := Aside0.mk (bb_ (bk_ BK714.out) hb); replace HB := Aside0.mk (below_step (lb1_ HB.out GE714.out) hb); (try clear hb); (try clear hb2); (try clear hk); (try clear hi)) | ((with_reducible refine gate_callee (f := 41) rfl ?_); refine ga_ (some 41) Tryd.func41 #[.slice A0 l0.length c0] ?_; (with_reducible refine (spec_DrawRecoverLog.calls k _ _ l0 t719 _ ?side1 ?side2 A7.out).mono ?_); (case side1 => exact kc_ (Kd.C_below HR0.out HB.out)); (case side2 => exact HC0.out); rintro e w17 ⟨rfl, hb⟩; refine ⟨_, rfl, ?_⟩; replace BK714 := Aside0.mk (bb_ (bk_ BK714.out) hb); replace HB := Aside0.mk (below_step (lb1_ HB.out GE714.out) hb); (try clear hb); (try clear hb2); (try clear hk); (try clear hi)) | ((with_reducible refine gate_callee (f := 18) rfl ?_); refine ga_ (some 44) Tryd.func18 #[.string t719] ?_; (with_reducible refine (impl_RecoverLog.calls k t719 t720 t721 t722 t723 t724 _ A8.out ?sideT).mono ?_); (case sideT => first | exact HT.out | exact Tb.step HT.out HB.out | exact Tb.step HT.out (by repeat (first | (with_reducible first | exact HB.out | apply below_alloc | apply pw_below_drewN | apply below_drew1 | refine below_set ?_ GE714.out | refine below_set ?_ GE725.out | refine below_set ?_ GE731.out | refine below_set ?_ GE737.out | refine below_set ?_ GE742.out) | exact HB.out | exact Below.refl _ _))); rintro e w18 ⟨rfl, hb⟩; refine ⟨_, rfl, ?_⟩; replace BK714 := Aside0.mk (bb_ (bk_ BK714.out) hb); replace HB := Aside0.mk (below_step (lb1_ HB.out GE714.out) hb); (try clear hb); (try clear hb2); (try clear hk); (try clear hi)) | ((with_reducible refine gate_dst (N := 10) rfl ?_); refine box_event ?hg (N := 10) ?hd (cs := #[.string (⟨#[]⟩ : ByteArray), .string (⟨#[]⟩ : ByteArray), .int .i64 0]) (t := 31) ?hr ?_; (case hd => rfl); (case hg => rfl); (case hr => first | (go_simp; done) | (go_simp; rfl)); intro gb725 hg w19 hbox hb; have BK725 := Aside0.mk (hbox); have GW725 := Aside0.mk ((bz_ hg (lb1_ HB.out GE714.out))); have GE725 := Aside0.mk ((bz_ hg (lb1_ HB.out GE714.out))); replace HB := Aside0.mk (below_step (lb1_ HB.out GE714.out) hb); have NB714_725 := Aside0.mk ((by rw [hg]; exact Nat.ne_of_lt (blk_lt (g := gb714) (o := .cells #[.string t712, .string t713] 27 (0, 0)) (bk_ BK714.out)) : gb714 ≠ gb725)); have NB725_714 := Aside0.mk ((by rw [hg]; exact Nat.ne_of_gt (blk_lt (g := gb714) (o := .cells #[.string t712, .string t713] 27 (0, 0)) (bk_ BK714.out)) : gb725 ≠ gb714)); replace BK714 := Aside0.mk (bb_ (bk_ BK714.out) hb); clear hb hbox hg; have hnb20 := NB725_714.out; have hnc20 := NB714_725.out; obtain ⟨hcz21_0, hcz21_1, hcz21_2⟩ := cz3_ BK725.out; obtain ⟨hfz21_0, hfz21_1, hfz21_2⟩ := fz3_ BK725.out) | ((with_reducible refine gate_callee (f := 17) rfl ?_); refine ga_ (some 50) Tryd.func17 #[.string t719] ?_; (with_reducible refine (spec_RecoverLog.calls k t719 t726 t727 t728 t729 t730 _ A9.out).mono ?_); rintro e w22 ⟨rfl, hb⟩; refine ⟨_, rfl, ?_⟩; replace BK714 := Aside0.mk (blk_below (g := gb714) (o := .cells #[.string t712, .string t713] 27 (0, 0)) (by (with_reducible repeat (first | refine blk_drewN ?_ _ | refine blk_drew ?_ | refine blk_alloc ?_ _)); refine blk_far ?_ NB714_725.out _; (with_reducible repeat (first | refine blk_drewN ?_ _ | refine blk_drew ?_ | refine blk_alloc ?_ _)); refine blk_far ?_ NB714_725.out _; (with_reducible repeat (first | refine blk_drewN ?_ _ | refine blk_drew ?_ | refine blk_alloc ?_ _)); refine blk_far ?_ NB714_725.out _; (with_reducible repeat (first | refine blk_drewN ?_ _ | refine blk_drew ?_ | refine blk_alloc ?_ _)); exact BK714.out) hb); replace BK725 := Aside0.mk (blk_below (g := gb725) (o := .cells #[.string t720, .string t721, .int .i64 t722] 31 (0, 0)) (by (with_reducible repeat (first | refine blk_drewN ?_ _ | refine blk_drew ?_ | refine blk_alloc ?_ _)); refine blk_put (cs := #[.string t720, .string t721, .int .i64 0]) ?_ 2 _ rfl; (with_reducible repeat (first | refine blk_drewN ?_ _ | refine blk_drew ?_ | refine blk_alloc ?_ _)); refine blk_put (cs := #[.string t720, .string (⟨#[]⟩ : ByteArray), .int .i64 0]) ?_ 1 _ rfl; (with_reducible repeat (first | refine blk_drewN ?_ _ | refine blk_drew ?_ | refine blk_alloc ?_ _)); refine blk_put (cs := #[.string (⟨#[]⟩ : ByteArray), .string (⟨#[]⟩ : ByteArray), .int .i64 0]) ?_ 0 _ rfl; (with_reducible repeat (first | refine blk_drewN ?_ _ | refine blk_drew ?_ | refine blk_alloc ?_ _)); exact BK725.out) hb); replace HB := Aside0.mk (below_step (lb2_ HB.out GE714.out GE725.out) hb); (try clear hb); (try clear hb2); (try clear hk); (try clear hi)) | ((with_reducible refine gate_dst (N := 13) rfl ?_); refine box_event ?hg (N := 13) ?hd (cs := #[.string (⟨#[]⟩ : ByteArray), .string (⟨#[]⟩ : ByteArray), .int .i64 0]) (t := 31) ?hr ?_; (case hd => rfl); (case hg => rfl); (case hr => first | (go_simp; done) | (go_simp; rfl)); intro gb731 hg w23 hbox hb; have BK731 := Aside0.mk (hbox); have GW731 := Aside0.mk ((bz_ hg (lb2_ HB.out GE714.out GE725.out))); have GE731 := Aside0.mk ((bz_ hg (lb2_ HB.out GE714.out GE725.out))); replace HB := Aside0.mk (below_step (lb2_ HB.out GE714.out GE725.out) hb); have NB714_731 := Aside0.mk ((by rw [hg]; exact Nat.ne_of_lt (blk_lt (g := gb714) (o := .cells #[.string t712, .string t713] 27 (0, 0)) (bk_ BK714.out)) : gb714 ≠ gb731)); have NB731_714 := Aside0.mk ((by rw [hg]; exact Nat.ne_of_gt (blk_lt (g := gb714) (o := .cells #[.string t712, .string t713] 27 (0, 0)) (bk_ BK714.out)) : gb731 ≠ gb714)); replace BK714 := Aside0.mk (bb_ (bk_ BK714.out) hb); have NB725_731 := Aside0.mk ((by rw [hg]; exact Nat.ne_of_lt (blk_lt (g := gb725) (o := .cells #[.string t720, .string t721, .int .i64 t722] 31 (0, 0)) (bk_ BK725.out)) : gb725 ≠ gb731)); have NB731_725 := Aside0.mk ((by rw [hg]; exact Nat.ne_of_gt (blk_lt (g := gb725) (o := .cells #[.string t720, .string t721, .int .i64 t722] 31 (0, 0)) (bk_ BK725.out)) : gb731 ≠ gb725)); replace BK725 := Aside0.mk (bb_ (bk_ BK725.out) hb); clear hb hbox hg; have hnb24 := NB731_714.out; have hnc24 := NB714_731.out; have hnb25 := NB731_725.out; have hnc25 := NB725_731.out; obtain ⟨hcz26_0, hcz26_1, hcz26_2⟩ := cz3_ BK731.out; obtain ⟨hfz26_0, hfz26_1, hfz26_2⟩ := fz3_ BK731.out))
  (try simp only [Act.put, List.setIfInBounds_toArray, List.set_cons_zero, List.set_cons_succ])
  go_cut [76] (fun v76 wc => ∃ (kq : Nat) (x76_9 : Bool), v76 = .bool x76_9 ∧ Aside0 (laws_FnLogLines.j0 kq t711 t715 t716 t724 x76_9 t720 t721 t722 = some r) ∧ Aside0 (kq ≤ k) ∧ Aside0 (wc.heap[gb714]? = some (.cells #[.string t712, .string t713] 27 (0, 0))) ∧ Aside0 (wc.heap[gb725]? = some (.cells #[.string t720, .string t721, .int .i64 t722] 31 (0, 0))) ∧ Aside0 (wc.heap[gb731]? = some (.cells #[.string t726, .string t727, .int .i64 t728] 31 (0, 0))) ∧ Aside0 (Below w.heap.size w wc))
  case first =>
   as_aux_lemma =>
    have H := HC10.out
    clear HC10
    by_cases c27 : t715.toList = t717.toList
    ·
     rw [if_pos c27] at H
     have c27b0 : (t715.toList == t717.toList) = true := beq_iff_eq.mpr c27
     have c27b1 : (t715.toList != t717.toList) = false := bne_eq_false_iff_eq.mpr c27
     clear c27
     (first | rw [c27b0] | (simp only [i64_w, i32_w]; rw [c27b0]) | skip)
     by_cases c28 : (t716 != t718) = true
     ·
      rw [if_pos c28] at H
      have c28b0 : (t716 != t718) = true := c28
      (try (have c28b1 : decide (t716 = t718) = false := by simpa using c28))
      (try (have c28b2 : (t716 == t718) = false := by simpa using c28))
      (try (have c28b3 : ¬ (t716 = t718) := by simpa using c28))
      clear c28
      have H' := Aside0.mk H
      clear H
      go_wp2
      go_meet
      case rel => exact ⟨_, (true), (by first | rfl | (simp; done) | (simp [*]; done)), H', ⟨by first | omega | exact Nat.le_refl _⟩, ⟨by (with_reducible repeat (first | refine blk_drewN ?_ _ | refine blk_drew ?_ | refine blk_alloc ?_ _)); refine blk_far ?_ NB714_731.out _; (with_reducible repeat (first | refine blk_drewN ?_ _ | refine blk_drew ?_ | refine blk_alloc ?_ _)); refine blk_far ?_ NB714_731.out _; (with_reducible repeat (first | refine blk_drewN ?_ _ | refine blk_drew ?_ | refine blk_alloc ?_ _)); refine blk_far ?_ NB714_731.out _; (with_reducible repeat (first | refine blk_drewN ?_ _ | refine blk_drew ?_ | refine blk_alloc ?_ _)); exact BK714.out⟩, ⟨by (with_reducible repeat (first | refine blk_drewN ?_ _ | refine blk_drew ?_ | refine blk_alloc ?_ _)); refine blk_far ?_ NB725_731.out _; (with_reducible repeat (first | refine blk_drewN ?_ _ | refine blk_drew ?_ | refine blk_alloc ?_ _)); refine blk_far ?_ NB725_731.out _; (with_reducible repeat (first | refine blk_drewN ?_ _ | refine blk_drew ?_ | refine blk_alloc ?_ _)); refine blk_far ?_ NB725_731.out _; (with_reducible repeat (first | refine blk_drewN ?_ _ | refine blk_drew ?_ | refine blk_alloc ?_ _)); exact BK725.out⟩, ⟨by (with_reducible repeat (first | refine blk_drewN ?_ _ | refine blk_drew ?_ | refine blk_alloc ?_ _)); refine blk_put (cs := #[.string t726, .string t727, .int .i64 0]) ?_ 2 _ rfl; (with_reducible repeat (first | refine blk_drewN ?_ _ | refine blk_drew ?_ | refine blk_alloc ?_ _)); refine blk_put (cs := #[.string t726, .string (⟨#[]⟩ : ByteArray), .int .i64 0]) ?_ 1 _ rfl; (with_reducible repeat (first | refine blk_drewN ?_ _ | refine blk_drew ?_ | refine blk_alloc ?_ _)); refine blk_put (cs := #[.string (⟨#[]⟩ : ByteArray), .string (⟨#[]⟩ : ByteArray), .int .i64 0]) ?_ 0 _ rfl; (with_reducible repeat (first | refine blk_drewN ?_ _ | refine blk_drew ?_ | refine blk_alloc ?_ _)); exact BK731.out⟩, ⟨lb3_ HB.out GE714.out GE725.out GE731.out⟩⟩
     ·
      rw [if_neg c28] at H
      have c28b0 : (t716 != t718) = false := by simpa using c28
      (try (have c28b1 : decide (t716 = t718) = true := by simpa using c28))
      (try (have c28b2 : (t716 == t718) = true := by simpa using c28))
      clear c28
      by_cases c29 : (!(t720.toList == t726.toList) || (!(t721.toList == t727.toList) || (!(t722 == t728)))) = true
      ·
       rw [if_pos c29] at H
       have c29b0 : (!(t720.toList == t726.toList) || (!(t721.toList == t727.toList) || (!(t722 == t728)))) = true := c29
       clear c29
       have H' := Aside0.mk H
       clear H
       have hnb30 := NB725_714.out
       have hnc30 := NB714_725.out
       have hnb31 := NB725_731.out
       have hnc31 := NB731_725.out
       obtain ⟨hcz32_0, hcz32_1, hcz32_2⟩ := cz3_ BK725.out
       obtain ⟨hfz32_0, hfz32_1, hfz32_2⟩ := fz3_ BK725.out
       have hnb33 := NB731_714.out
       have hnc33 := NB714_731.out
       obtain ⟨hcz34_0, hcz34_1, hcz34_2⟩ := cz3_ BK731.out
       obtain ⟨hfz34_0, hfz34_1, hfz34_2⟩ := fz3_ BK731.out
       go_wp2
       go_meet
       case rel => exact ⟨_, (true), (by first | rfl | (simp; done) | (simp [*]; done)), H', ⟨by first | omega | exact Nat.le_refl _⟩, ⟨by (with_reducible repeat (first | refine blk_drewN ?_ _ | refine blk_drew ?_ | refine blk_alloc ?_ _)); refine blk_far ?_ NB714_731.out _; (with_reducible repeat (first | refine blk_drewN ?_ _ | refine blk_drew ?_ | refine blk_alloc ?_ _)); refine blk_far ?_ NB714_731.out _; (with_reducible repeat (first | refine blk_drewN ?_ _ | refine blk_drew ?_ | refine blk_alloc ?_ _)); refine blk_far ?_ NB714_731.out _; (with_reducible repeat (first | refine blk_drewN ?_ _ | refine blk_drew ?_ | refine blk_alloc ?_ _)); exact BK714.out⟩, ⟨by (with_reducible repeat (first | refine blk_drewN ?_ _ | refine blk_drew ?_ | refine blk_alloc ?_ _)); refine blk_far ?_ NB725_731.out _; (with_reducible repeat (first | refine blk_drewN ?_ _ | refine blk_drew ?_ | refine blk_alloc ?_ _)); refine blk_far ?_ NB725_731.out _; (with_reducible repeat (first | refine blk_drewN ?_ _ | refine blk_drew ?_ | refine blk_alloc ?_ _)); refine blk_far ?_ NB725_731.out _; (with_reducible repeat (first | refine blk_drewN ?_ _ | refine blk_drew ?_ | refine blk_alloc ?_ _)); exact BK725.out⟩, ⟨by (with_reducible repeat (first | refine blk_drewN ?_ _ | refine blk_drew ?_ | refine blk_alloc ?_ _)); refine blk_put (cs := #[.string t726, .string t727, .int .i64 0]) ?_ 2 _ rfl; (with_reducible repeat (first | refine blk_drewN ?_ _ | refine blk_drew ?_ | refine blk_alloc ?_ _)); refine blk_put (cs := #[.string t726, .string (⟨#[]⟩ : ByteArray), .int .i64 0]) ?_ 1 _ rfl; (with_reducible repeat (first | refine blk_drewN ?_ _ | refine blk_drew ?_ | refine blk_alloc ?_ _)); refine blk_put (cs := #[.string (⟨#[]⟩ : ByteArray), .string (⟨#[]⟩ : ByteArray), .int .i64 0]) ?_ 0 _ rfl; (with_reducible repeat (first | refine blk_drewN ?_ _ | refine blk_drew ?_ | refine blk_alloc ?_ _)); exact BK731.out⟩, ⟨lb3_ HB.out GE714.out GE725.out GE731.out⟩⟩
      ·
       rw [if_neg c29] at H
       have c29b0 : (!(t720.toList == t726.toList) || (!(t721.toList == t727.toList) || (!(t722 == t728)))) = false := by simpa using c29
       clear c29
       by_cases c35 : t723 = t729
       ·
        rw [if_pos c35] at H
        have c35b0 : (t723 == t729) = true := beq_iff_eq.mpr c35; have c35b1 : (t723 != t729) = false := bne_eq_false_iff_eq.mpr c35; clear c35; have H' := Aside0.mk H; clear H; have hnb36 := NB725_714.out; have hnc36 := NB714_725.out; have hnb37 := NB725_731.out; have hnc37 := NB731_725.out; obtain ⟨hcz38_0, hcz38_1, hcz38_2⟩ := cz3_ BK725.out; obtain ⟨hfz38_0, hfz38_1, hfz38_2⟩ := fz3_ BK725.out; have hnb39 := NB731_714.out; have hnc39 := NB714_731.out; obtain ⟨hcz40_0, hcz40_1, hcz40_2⟩ := cz3_ BK731.out; obtain ⟨hfz40_0, hfz40_1, hfz40_2⟩ := fz3_ BK731.out
        go_wp2
        go_meet
        case rel => exact ⟨_, ((t724 != t730)), (by first | rfl | (simp; done) | (simp [*]; done)), H', ⟨by first | omega | exact Nat.le_refl _⟩, ⟨by (with_reducible repeat (first | refine blk_drewN ?_ _ | refine blk_drew ?_ | refine blk_alloc ?_ _)); refine blk_far ?_ NB714_731.out _; (with_reducible repeat (first | refine blk_drewN ?_ _ | refine blk_drew ?_ | refine blk_alloc ?_ _)); refine blk_far ?_ NB714_731.out _; (with_reducible repeat (first | refine blk_drewN ?_ _ | refine blk_drew ?_ | refine blk_alloc ?_ _)); refine blk_far ?_ NB714_731.out _; (with_reducible repeat (first | refine blk_drewN ?_ _ | refine blk_drew ?_ | refine blk_alloc ?_ _)); exact BK714.out⟩, ⟨by (with_reducible repeat (first | refine blk_drewN ?_ _ | refine blk_drew ?_ | refine blk_alloc ?_ _)); refine blk_far ?_ NB725_731.out _; (with_reducible repeat (first | refine blk_drewN ?_ _ | refine blk_drew ?_ | refine blk_alloc ?_ _)); refine blk_far ?_ NB725_731.out _; (with_reducible repeat (first | refine blk_drewN ?_ _ | refine blk_drew ?_ | refine blk_alloc ?_ _)); refine blk_far ?_ NB725_731.out _; (with_reducible repeat (first | refine blk_drewN ?_ _ | refine blk_drew ?_ | refine blk_alloc ?_ _)); exact BK725.out⟩, ⟨by (with_reducible repeat (first | refine blk_drewN ?_ _ | refine blk_drew ?_ | refine blk_alloc ?_ _)); refine blk_put (cs := #[.string t726, .string t727, .int .i64 0]) ?_ 2 _ rfl; (with_reducible repeat (first | refine blk_drewN ?_ _ | refine blk_drew ?_ | refine blk_alloc ?_ _)); refine blk_put (cs := #[.string t726, .string (⟨#[]⟩ : ByteArray), .int .i64 0]) ?_ 1 _ rfl; (with_reducible repeat (first | refine blk_drewN ?_ _ | refine blk_drew ?_ | refine blk_alloc ?_ _)); refine blk_put (cs := #[.string (⟨#[]⟩ : ByteArray), .string (⟨#[]⟩ : ByteArray), .int .i64 0]) ?_ 0 _ rfl; (with_reducible repeat (first | refine blk_drewN ?_ _ | refine blk_drew ?_ | refine blk_alloc ?_ _)); exact BK731.out⟩, ⟨lb3_ HB.out GE714.out GE725.out GE731.out⟩⟩
       ·
        rw [if_neg c35] at H
        have c35b0 : (t723 == t729) = false := beq_eq_false_iff_ne.mpr c35; have c35b1 : (t723 != t729) = true := bne_iff_ne.mpr c35; have H' := Aside0.mk H; clear H; have hnb41 := NB725_714.out; have hnc41 := NB714_725.out; have hnb42 := NB725_731.out; have hnc42 := NB731_725.out; obtain ⟨hcz43_0, hcz43_1, hcz43_2⟩ := cz3_ BK725.out; obtain ⟨hfz43_0, hfz43_1, hfz43_2⟩ := fz3_ BK725.out; have hnb44 := NB731_714.out; have hnc44 := NB714_731.out; obtain ⟨hcz45_0, hcz45_1, hcz45_2⟩ := cz3_ BK731.out; obtain ⟨hfz45_0, hfz45_1, hfz45_2⟩ := fz3_ BK731.out
        go_wp2
        go_meet
        case rel => exact ⟨_, (true), (by first | rfl | (simp; done) | (simp [*]; done)), H', ⟨by first | omega | exact Nat.le_refl _⟩, ⟨by (with_reducible repeat (first | refine blk_drewN ?_ _ | refine blk_drew ?_ | refine blk_alloc ?_ _)); refine blk_far ?_ NB714_731.out _; (with_reducible repeat (first | refine blk_drewN ?_ _ | refine blk_drew ?_ | refine blk_alloc ?_ _)); refine blk_far ?_ NB714_731.out _; (with_reducible repeat (first | refine blk_drewN ?_ _ | refine blk_drew ?_ | refine blk_alloc ?_ _)); refine blk_far ?_ NB714_731.out _; (with_reducible repeat (first | refine blk_drewN ?_ _ | refine blk_drew ?_ | refine blk_alloc ?_ _)); exact BK714.out⟩, ⟨by (with_reducible repeat (first | refine blk_drewN ?_ _ | refine blk_drew ?_ | refine blk_alloc ?_ _)); refine blk_far ?_ NB725_731.out _; (with_reducible repeat (first | refine blk_drewN ?_ _ | refine blk_drew ?_ | refine blk_alloc ?_ _)); refine blk_far ?_ NB725_731.out _; (with_reducible repeat (first | refine blk_drewN ?_ _ | refine blk_drew ?_ | refine blk_alloc ?_ _)); refine blk_far ?_ NB725_731.out _; (with_reducible repeat (first | refine blk_drewN ?_ _ | refine blk_drew ?_ | refine blk_alloc ?_ _)); exact BK725.out⟩, ⟨by (with_reducible repeat (first | refine blk_drewN ?_ _ | refine blk_drew ?_ | refine blk_alloc ?_ _)); refine blk_put (cs := #[.string t726, .string t727, .int .i64 0]) ?_ 2 _ rfl; (with_reducible repeat (first | refine blk_drewN ?_ _ | refine blk_drew ?_ | refine blk_alloc ?_ _)); refine blk_put (cs := #[.string t726, .string (⟨#[]⟩ : ByteArray), .int .i64 0]) ?_ 1 _ rfl; (with_reducible repeat (first | refine blk_drewN ?_ _ | refine blk_drew ?_ | refine blk_alloc ?_ _)); refine blk_put (cs := #[.string (⟨#[]⟩ : ByteArray), .string (⟨#[]⟩ : ByteArray), .int .i64 0]) ?_ 0 _ rfl; (with_reducible repeat (first | refine blk_drewN ?_ _ | refine blk_drew ?_ | refine blk_alloc ?_ _)); exact BK731.out⟩, ⟨lb3_ HB.out GE714.out GE725.out GE731.out⟩⟩
    ·
     rw [if_neg c27] at H
     have c27b0 : (t715.toList == t717.toList) = false := beq_eq_false_iff_ne.mpr c27
     have c27b1 : (t715.toList != t717.toList) = true := bne_iff_ne.mpr c27
     (first | rw [c27b0] | (simp only [i64_w, i32_w]; rw [c27b0]) | skip)
     have H' := Aside0.mk H
     clear H
     go_wp2
     go_meet
     case rel => exact ⟨_, (true), (by first | rfl | (simp; done) | (simp [*]; done)), H', ⟨by first | omega | exact Nat.le_refl _⟩, ⟨by (with_reducible repeat (first | refine blk_drewN ?_ _ | refine blk_drew ?_ | refine blk_alloc ?_ _)); refine blk_far ?_ NB714_731.out _; (with_reducible repeat (first | refine blk_drewN ?_ _ | refine blk_drew ?_ | refine blk_alloc ?_ _)); refine blk_far ?_ NB714_731.out _; (with_reducible repeat (first | refine blk_drewN ?_ _ | refine blk_drew ?_ | refine blk_alloc ?_ _)); refine blk_far ?_ NB714_731.out _; (with_reducible repeat (first | refine blk_drewN ?_ _ | refine blk_drew ?_ | refine blk_alloc ?_ _)); exact BK714.out⟩, ⟨by (with_reducible repeat (first | refine blk_drewN ?_ _ | refine blk_drew ?_ | refine blk_alloc ?_ _)); refine blk_far ?_ NB725_731.out _; (with_reducible repeat (first | refine blk_drewN ?_ _ | refine blk_drew ?_ | refine blk_alloc ?_ _)); refine blk_far ?_ NB725_731.out _; (with_reducible repeat (first | refine blk_drewN ?_ _ | refine blk_drew ?_ | refine blk_alloc ?_ _)); refine blk_far ?_ NB725_731.out _; (with_reducible repeat (first | refine blk_drewN ?_ _ | refine blk_drew ?_ | refine blk_alloc ?_ _)); exact BK725.out⟩, ⟨by (with_reducible repeat (first | refine blk_drewN ?_ _ | refine blk_drew ?_ | refine blk_alloc ?_ _)); refine blk_put (cs := #[.string t726, .string t727, .int .i64 0]) ?_ 2 _ rfl; (with_reducible repeat (first | refine blk_drewN ?_ _ | refine blk_drew ?_ | refine blk_alloc ?_ _)); refine blk_put (cs := #[.string t726, .string (⟨#[]⟩ : ByteArray), .int .i64 0]) ?_ 1 _ rfl; (with_reducible repeat (first | refine blk_drewN ?_ _ | refine blk_drew ?_ | refine blk_alloc ?_ _)); refine blk_put (cs := #[.string (⟨#[]⟩ : ByteArray), .string (⟨#[]⟩ : ByteArray), .int .i64 0]) ?_ 0 _ rfl; (with_reducible repeat (first | refine blk_drewN ?_ _ | refine blk_drew ?_ | refine blk_alloc ?_ _)); exact BK731.out⟩, ⟨lb3_ HB.out GE714.out GE725.out GE731.out⟩⟩
  case rest =>
   as_aux_lemma =>
    clear HC10
    try clear c1
    try clear c2
    try clear p2
    try clear c3
    try clear c4
    try clear c12
    try clear c14
    try clear c16
    try clear c17
    try clear c18
    try clear c20
    try clear c24
    try clear c25
    try clear c27
    try clear c27b0
    try clear c27b1
    try clear c28
    try clear c28b0
    try clear c28b1
    try clear c28b2
    try clear c29
    try clear c29b0
    try clear c30
    try clear c31
    try clear c33
    try clear c35
    try clear c35b0
    try clear c35b1
    try clear c36
    try clear c37
    try clear c39
    try clear c40
    try clear c41
    try clear c42
    try clear c44
    try clear hcz13_0 hcz13_1
    try clear hcz15_0 hcz15_1
    try clear hcz21_0 hcz21_1 hcz21_2
    try clear hcz26_0 hcz26_1 hcz26_2
    try clear hcz32_0 hcz32_1 hcz32_2
    try clear hcz34_0 hcz34_1 hcz34_2
    try clear hcz38_0 hcz38_1 hcz38_2
    try clear hcz40_0 hcz40_1 hcz40_2
    try clear hcz43_0 hcz43_1 hcz43_2
    try clear hcz45_0 hcz45_1 hcz45_2
    try clear hfz13_0 hfz13_1
    try clear hfz15_0 hfz15_1
    try clear hfz21_0 hfz21_1 hfz21_2
    try clear hfz26_0 hfz26_1 hfz26_2
    try clear hfz32_0 hfz32_1 hfz32_2
    try clear hfz34_0 hfz34_1 hfz34_2
    try clear hfz38_0 hfz38_1 hfz38_2
    try clear hfz40_0 hfz40_1 hfz40_2
    try clear hfz43_0 hfz43_1 hfz43_2
    try clear hfz45_0 hfz45_1 hfz45_2
    obtain ⟨kq, x76_9, rfl, HA, HJ9, BK714, BK725, BK731, HB⟩ := hcut
    cases kq with
    | zero => exact absurd HA.out (by simp [laws_FnLogLines.j0])
    | succ kj9 =>
     have H := HA.out
     clear HA
     simp only [laws_FnLogLines.j0] at H
     by_cases c46 : x76_9 = true
     ·
      subst c46
      have H1 : (none) = some r := by rw [if_pos rfl] at H; exact H
      clear H
      have H := H1
      clear H1
      exact absurd H (by simp)
     ·
      replace c46 := Bool.eq_false_iff.mpr c46
      subst c46
      have H1 : ((impl_RecoverLog.f kj9 t715).bind fun bt732 => (if t716 = true then (if ((decide (bt732.2.2.2.1 > 0)) != (t711 == 0)) = true then (laws_FnLogLines.j1 kj9 t715 t716 t724 true t720 t721 t722) else (if t711 = 0 then (laws_FnLogLines.j1 kj9 t715 t716 t724 (bt732.2.2.1 != 1) t720 t721 t722) else (laws_FnLogLines.j1 kj9 t715 t716 t724 false t720 t721 t722))) else (laws_FnLogLines.j1 kj9 t715 t716 t724 false t720 t721 t722))) = some r := by rw [if_neg (show ¬ (false = true) by decide)] at H; exact H
      clear H
      have H := H1
      clear H1
      replace H := Option.bind_eq_some_iff.mp H
      obtain ⟨⟨t732, t733, t734, t735, t736⟩, A470, H⟩ := H
      replace H : (if t716 = true then (if ((decide (t735 > 0)) != (t711 == 0)) = true then (laws_FnLogLines.j1 kj9 t715 t716 t724 true t720 t721 t722) else (if t711 = 0 then (laws_FnLogLines.j1 kj9 t715 t716 t724 (t734 != 1) t720 t721 t722) else (laws_FnLogLines.j1 kj9 t715 t716 t724 false t720 t721 t722))) else (laws_FnLogLines.j1 kj9 t715 t716 t724 false t720 t721 t722)) = some r := H
      have A47 := Aside0.mk A470
      clear A470
      have HC48 := Aside0.mk H
      clear H
      go_upto_region 12 with (first | ((with_reducible refine gate_callee (f := 18) rfl ?_); refine ga_ (some 79) Tryd.func18 #[.string t715] ?_; (with_reducible refine (impl_RecoverLog.calls kj9 t715 t732 t733 t734 t735 t736 _ A47.out ?sideT).mono ?_); (case sideT => first | exact HT.out | exact Tb.step HT.out HB.out | exact Tb.step HT.out (by repeat (first | (with_reducible first | exact HB.out | apply below_alloc | apply pw_below_drewN | apply below_drew1 | refine below_set ?_ GE714.out | refine below_set ?_ GE725.out | refine below_set ?_ GE731.out | refine below_set ?_ GE737.out | refine below_set ?_ GE742.out) | exact HB.out | exact Below.refl _ _))); rintro e w49 ⟨rfl, hb⟩; refine ⟨_, rfl, ?_⟩; replace BK714 := Aside0.mk (bb_ (bk_ BK714.out) hb); replace BK725 := Aside0.mk (bb_ (bk_ BK725.out) hb); replace BK731 := Aside0.mk (bb_ (bk_ BK731.out) hb); replace HB := Aside0.mk (below_step (lb3_ HB.out GE714.out GE725.out GE731.out) hb); (try clear hb); (try clear hb2); (try clear hk); (try clear hi)) | ((with_reducible refine gate_dst (N := 16) rfl ?_); refine box_event ?hg (N := 16) ?hd (cs := #[.string (⟨#[]⟩ : ByteArray), .string (⟨#[]⟩ : ByteArray), .int .i64 0]) (t := 31) ?hr ?_; (case hd => rfl); (case hg => rfl); (case hr => first | (go_simp; done) | (go_simp; rfl)); intro gb737 hg w50 hbox hb; have BK737 := Aside0.mk (hbox); have GW737 := Aside0.mk ((by rw [hg]; exact (below_size (lb3_ HB.out GE714.out GE725.out GE731.out)) : w.heap.size ≤ gb737)); have GE737 := Aside0.mk ((by rw [hg]; exact (below_size (lb3_ HB.out GE714.out GE725.out GE731.out)) : w.heap.size ≤ gb737)); replace HB := Aside0.mk (below_step (lb3_ HB.out GE714.out GE725.out GE731.out) hb); have NB714_737 := Aside0.mk ((by rw [hg]; exact Nat.ne_of_lt (blk_lt (g := gb714) (o := .cells #[.string t712, .string t713] 27 (0, 0)) (bk_ BK714.out)) : gb714 ≠ gb737)); have NB737_714 := Aside0.mk ((by rw [hg]; exact Nat.ne_of_gt (blk_lt (g := gb714) (o := .cells #[.string t712, .string t713] 27 (0, 0)) (bk_ BK714.out)) : gb737 ≠ gb714)); replace BK714 := Aside0.mk (bb_ (bk_ BK714.out) hb); have NB725_737 := Aside0.mk ((by rw [hg]; exact Nat.ne_of_lt (blk_lt (g := gb725) (o := .cells #[.string t720, .string t721, .int .i64 t722] 31 (0, 0)) (bk_ BK725.out)) : gb725 ≠ gb737)); have NB737_725 := Aside0.mk ((by rw [hg]; exact Nat.ne_of_gt (blk_lt (g := gb725) (o := .cells #[.string t720, .string t721, .int .i64 t722] 31 (0, 0)) (bk_ BK725.out)) : gb737 ≠ gb725)); replace BK725 := Aside0.mk (bb_ (bk_ BK725.out) hb); have NB731_737 := Aside0.mk ((by rw [hg]; exact Nat.ne_of_lt (blk_lt (g := gb731) (o := .cells #[.string t726, .string t727, .int .i64 t728] 31 (0, 0)) (bk_ BK731.out)) : gb731 ≠ gb737)); have NB737_731 := Aside0.mk ((by rw [hg]; exact Nat.ne_of_gt (blk_lt (g := gb731) (o := .cells #[.string t726, .string t727, .int .i64 t728] 31 (0, 0)) (bk_ BK731.out)) : gb737 ≠ gb731)); replace BK731 := Aside0.mk (bb_ (bk_ BK731.out) hb); clear hb hbox hg; have hnb51 := NB737_714.out; have hnc51 := NB714_737.out; have hnb52 := NB737_725.out; have hnc52 := NB725_737.out; have hnb53 := NB737_731.out; have hnc53 := NB731_737.out; obtain ⟨hcz54_0, hcz54_1, hcz54_2⟩ := cz3_ BK737.out; obtain ⟨hfz54_0, hfz54_1, hfz54_2⟩ := fz3_ BK737.out))
      (try simp only [Act.put, List.setIfInBounds_toArray, List.set_cons_zero, List.set_cons_succ])
      go_cut [102] (fun v102 wc => ∃ (kq : Nat) (x102_47 : Bool), v102 = .bool x102_47 ∧ Aside0 (laws_FnLogLines.j1 kq t715 t716 t724 x102_47 t720 t721 t722 = some r) ∧ Aside0 (kq ≤ kj9) ∧ Aside0 (wc.heap[gb714]? = some (.cells #[.string t712, .string t713] 27 (0, 0))) ∧ Aside0 (wc.heap[gb725]? = some (.cells #[.string t720, .string t721, .int .i64 t722] 31 (0, 0))) ∧ Aside0 (wc.heap[gb731]? = some (.cells #[.string t726, .string t727, .int .i64 t728] 31 (0, 0))) ∧ Aside0 (wc.heap[gb737]? = some (.cells #[.string t732, .string t733, .int .i64 t734] 31 (0, 0))) ∧ Aside0 (Below w.heap.size w wc))
      case first =>
       as_aux_lemma =>
        have H := HC48.out; clear HC48
        by_cases c55 : t716 = true
        ·
         subst c55
         have H1 : (if ((decide (t735 > 0)) != (t711 == 0)) = true then (laws_FnLogLines.j1 kj9 t715 true t724 true t720 t721 t722) else (if t711 = 0 then (laws_FnLogLines.j1 kj9 t715 true t724 (t734 != 1) t720 t721 t722) else (laws_FnLogLines.j1 kj9 t715 true t724 false t720 t721 t722))) = some r := by rw [if_pos rfl] at H; exact H
         clear H; have H := H1; clear H1
         by_cases c56 : ((decide (t735 > 0)) != (t711 == 0)) = true
         ·
          rw [if_pos c56] at H
          have c56b0 : ((decide (t735 > 0)) != (t711 == 0)) = true := c56; (try (have c56b1 : decide ((decide (t735 > 0)) = (t711 == 0)) = false := by simpa using c56)); (try (have c56b2 : ((decide (t735 > 0)) == (t711 == 0)) = false := by simpa using c56)); (try (have c56b3 : ¬ ((decide (t735 > 0)) = (t711 == 0)) := by simpa using c56)); clear c56
          (first | rw [c56b0] | (simp only [i64_w, i32_w]; rw [c56b0]) | skip)
          have H' := Aside0.mk H; clear H
          go_wp2
          go_meet
          case rel => exact ⟨_, (true), (by first | rfl | (simp; done) | (simp [*]; done)), H', ⟨by have := HJ9.out; first | omega | exact Nat.le_refl _⟩, ⟨by (with_reducible repeat (first | refine blk_drewN ?_ _ | refine blk_drew ?_ | refine blk_alloc ?_ _)); refine blk_far ?_ NB714_737.out _; (with_reducible repeat (first | refine blk_drewN ?_ _ | refine blk_drew ?_ | refine blk_alloc ?_ _)); refine blk_far ?_ NB714_737.out _; (with_reducible repeat (first | refine blk_drewN ?_ _ | refine blk_drew ?_ | refine blk_alloc ?_ _)); refine blk_far ?_ NB714_737.out _; (with_reducible repeat (first | refine blk_drewN ?_ _ | refine blk_drew ?_ | refine blk_alloc ?_ _)); exact BK714.out⟩, ⟨by (with_reducible repeat (first | refine blk_drewN ?_ _ | refine blk_drew ?_ | refine blk_alloc ?_ _)); refine blk_far ?_ NB725_737.out _; (with_reducible repeat (first | refine blk_drewN ?_ _ | refine blk_drew ?_ | refine blk_alloc ?_ _)); refine blk_far ?_ NB725_737.out _; (with_reducible repeat (first | refine blk_drewN ?_ _ | refine blk_drew ?_ | refine blk_alloc ?_ _)); refine blk_far ?_ NB725_737.out _; (with_reducible repeat (first | refine blk_drewN ?_ _ | refine blk_drew ?_ | refine blk_alloc ?_ _)); exact BK725.out⟩, ⟨by (with_reducible repeat (first | refine blk_drewN ?_ _ | refine blk_drew ?_ | refine blk_alloc ?_ _)); refine blk_far ?_ NB731_737.out _; (with_reducible repeat (first | refine blk_drewN ?_ _ | refine blk_drew ?_ | refine blk_alloc ?_ _)); refine blk_far ?_ NB731_737.out _; (with_reducible repeat (first | refine blk_drewN ?_ _ | refine blk_drew ?_ | refine blk_alloc ?_ _)); refine blk_far ?_ NB731_737.out _; (with_reducible repeat (first | refine blk_drewN ?_ _ | refine blk_drew ?_ | refine blk_alloc ?_ _)); exact BK731.out⟩, ⟨by (with_reducible repeat (first | refine blk_drewN ?_ _ | refine blk_drew ?_ | refine blk_alloc ?_ _)); refine blk_put (cs := #[.string t732, .string t733, .int .i64 0]) ?_ 2 _ rfl; (with_reducible repeat (first | refine blk_drewN ?_ _ | refine blk_drew ?_ | refine blk_alloc ?_ _)); refine blk_put (cs := #[.string t732, .string (⟨#[]⟩ : ByteArray), .int .i64 0]) ?_ 1 _ rfl; (with_reducible repeat (first | refine blk_drewN ?_ _ | refine blk_drew ?_ | refine blk_alloc ?_ _)); refine blk_put (cs := #[.string (⟨#[]⟩ : ByteArray), .string (⟨#[]⟩ : ByteArray), .int .i64 0]) ?_ 0 _ rfl; (with_reducible repeat (first | refine blk_drewN ?_ _ | refine blk_drew ?_ | refine blk_alloc ?_ _)); exact BK737.out⟩, ⟨by repeat (first | (with_reducible first | exact HB.out | apply below_alloc | apply pw_below_drewN | apply below_drew1 | refine below_set ?_ GE714.out | refine below_set ?_ GE725.out | refine below_set ?_ GE731.out | refine below_set ?_ GE737.out) | exact HB.out)⟩⟩
         ·
          rw [if_neg c56] at H
          have c56b0 : ((decide (t735 > 0)) != (t711 == 0)) = false := by simpa using c56
          (try (have c56b1 : decide ((decide (t735 > 0)) = (t711 == 0)) = true := by simpa using c56)); (try (have c56b2 : ((decide (t735 > 0)) == (t711 == 0)) = true := by simpa using c56)); clear c56
          (first | rw [c56b0] | (simp only [i64_w, i32_w]; rw [c56b0]) | skip)
          by_cases c57 : t711 = 0
          ·
           rw [if_pos c57] at H
           have c57b0 : (t711 == 0) = true := beq_iff_eq.mpr c57; have c57b1 : (t711 != 0) = false := bne_eq_false_iff_eq.mpr c57
           have hq_ : 0 < t735 := (by have h_ := c56b0; rw [c57b0] at h_; simpa using h_)
           have hq1_ : decide (0 < t735) = true := decide_eq_true hq_; have hq2_ : decide (t735 ≤ 0) = false := decide_eq_false (by omega)
           have hq3_ : ¬ t735 ≤ 0 := by omega
           clear c57; have H' := Aside0.mk H; clear H; have hnb58 := NB737_714.out; have hnc58 := NB714_737.out; have hnb59 := NB737_725.out; have hnc59 := NB725_737.out; have hnb60 := NB737_731.out; have hnc60 := NB731_737.out; obtain ⟨hcz61_0, hcz61_1, hcz61_2⟩ := cz3_ BK737.out; obtain ⟨hfz61_0, hfz61_1, hfz61_2⟩ := fz3_ BK737.out
           go_wp2
           go_meet
           case rel => exact ⟨_, ((t734 != 1)), (by first | rfl | (simp; done) | (simp [*]; done)), H', ⟨by have := HJ9.out; first | omega | exact Nat.le_refl _⟩, ⟨by (with_reducible repeat (first | refine blk_drewN ?_ _ | refine blk_drew ?_ | refine blk_alloc ?_ _)); refine blk_far ?_ NB714_737.out _; (with_reducible repeat (first | refine blk_drewN ?_ _ | refine blk_drew ?_ | refine blk_alloc ?_ _)); refine blk_far ?_ NB714_737.out _; (with_reducible repeat (first | refine blk_drewN ?_ _ | refine blk_drew ?_ | refine blk_alloc ?_ _)); refine blk_far ?_ NB714_737.out _; (with_reducible repeat (first | refine blk_drewN ?_ _ | refine blk_drew ?_ | refine blk_alloc ?_ _)); exact BK714.out⟩, ⟨by (with_reducible repeat (first | refine blk_drewN ?_ _ | refine blk_drew ?_ | refine blk_alloc ?_ _)); refine blk_far ?_ NB725_737.out _; (with_reducible repeat (first | refine blk_drewN ?_ _ | refine blk_drew ?_ | refine blk_alloc ?_ _)); refine blk_far ?_ NB725_737.out _; (with_reducible repeat (first | refine blk_drewN ?_ _ | refine blk_drew ?_ | refine blk_alloc ?_ _)); refine blk_far ?_ NB725_737.out _; (with_reducible repeat (first | refine blk_drewN ?_ _ | refine blk_drew ?_ | refine blk_alloc ?_ _)); exact BK725.out⟩, ⟨by (with_reducible repeat (first | refine blk_drewN ?_ _ | refine blk_drew ?_ | refine blk_alloc ?_ _)); refine blk_far ?_ NB731_737.out _; (with_reducible repeat (first | refine blk_drewN ?_ _ | refine blk_drew ?_ | refine blk_alloc ?_ _)); refine blk_far ?_ NB731_737.out _; (with_reducible repeat (first | refine blk_drewN ?_ _ | refine blk_drew ?_ | refine blk_alloc ?_ _)); refine blk_far ?_ NB731_737.out _; (with_reducible repeat (first | refine blk_drewN ?_ _ | refine blk_drew ?_ | refine blk_alloc ?_ _)); exact BK731.out⟩, ⟨by (with_reducible repeat (first | refine blk_drewN ?_ _ | refine blk_drew ?_ | refine blk_alloc ?_ _)); refine blk_put (cs := #[.string t732, .string t733, .int .i64 0]) ?_ 2 _ rfl; (with_reducible repeat (first | refine blk_drewN ?_ _ | refine blk_drew ?_ | refine blk_alloc ?_ _)); refine blk_put (cs := #[.string t732, .string (⟨#[]⟩ : ByteArray), .int .i64 0]) ?_ 1 _ rfl; (with_reducible repeat (first | refine blk_drewN ?_ _ | refine blk_drew ?_ | refine blk_alloc ?_ _)); refine blk_put (cs := #[.string (⟨#[]⟩ : ByteArray), .string (⟨#[]⟩ : ByteArray), .int .i64 0]) ?_ 0 _ rfl; (with_reducible repeat (first | refine blk_drewN ?_ _ | refine blk_drew ?_ | refine blk_alloc ?_ _)); exact BK737.out⟩, ⟨by repeat (first | (with_reducible first | exact HB.out | apply below_alloc | apply pw_below_drewN | apply below_drew1 | refine below_set ?_ GE714.out | refine below_set ?_ GE725.out | refine below_set ?_ GE731.out | refine below_set ?_ GE737.out) | exact HB.out)⟩⟩
          ·
           rw [if_neg c57] at H
           have c57b0 : (t711 == 0) = false := beq_eq_false_iff_ne.mpr c57; have c57b1 : (t711 != 0) = true := bne_iff_ne.mpr c57
           have hq_ : t735 ≤ 0 := (by have h_ := c56b0; rw [c57b0] at h_; simpa using h_)
           have hq1_ : decide (0 < t735) = false := decide_eq_false (by omega); have hq2_ : decide (t735 ≤ 0) = true := decide_eq_true hq_
           have hq3_ : ¬ 0 < t735 := by omega
           have H' := Aside0.mk H; clear H
           go_wp2
           go_meet
           case rel => exact ⟨_, (false), (by first | rfl | (simp; done) | (simp [*]; done)), H', ⟨by have := HJ9.out; first | omega | exact Nat.le_refl _⟩, ⟨by (with_reducible repeat (first | refine blk_drewN ?_ _ | refine blk_drew ?_ | refine blk_alloc ?_ _)); refine blk_far ?_ NB714_737.out _; (with_reducible repeat (first | refine blk_drewN ?_ _ | refine blk_drew ?_ | refine blk_alloc ?_ _)); refine blk_far ?_ NB714_737.out _; (with_reducible repeat (first | refine blk_drewN ?_ _ | refine blk_drew ?_ | refine blk_alloc ?_ _)); refine blk_far ?_ NB714_737.out _; (with_reducible repeat (first | refine blk_drewN ?_ _ | refine blk_drew ?_ | refine blk_alloc ?_ _)); exact BK714.out⟩, ⟨by (with_reducible repeat (first | refine blk_drewN ?_ _ | refine blk_drew ?_ | refine blk_alloc ?_ _)); refine blk_far ?_ NB725_737.out _; (with_reducible repeat (first | refine blk_drewN ?_ _ | refine blk_drew ?_ | refine blk_alloc ?_ _)); refine blk_far ?_ NB725_737.out _; (with_reducible repeat (first | refine blk_drewN ?_ _ | refine blk_drew ?_ | refine blk_alloc ?_ _)); refine blk_far ?_ NB725_737.out _; (with_reducible repeat (first | refine blk_drewN ?_ _ | refine blk_drew ?_ | refine blk_alloc ?_ _)); exact BK725.out⟩, ⟨by (with_reducible repeat (first | refine blk_drewN ?_ _ | refine blk_drew ?_ | refine blk_alloc ?_ _)); refine blk_far ?_ NB731_737.out _; (with_reducible repeat (first | refine blk_drewN ?_ _ | refine blk_drew ?_ | refine blk_alloc ?_ _)); refine blk_far ?_ NB731_737.out _; (with_reducible repeat (first | refine blk_drewN ?_ _ | refine blk_drew ?_ | refine blk_alloc ?_ _)); refine blk_far ?_ NB731_737.out _; (with_reducible repeat (first | refine blk_drewN ?_ _ | refine blk_drew ?_ | refine blk_alloc ?_ _)); exact BK731.out⟩, ⟨by (with_reducible repeat (first | refine blk_drewN ?_ _ | refine blk_drew ?_ | refine blk_alloc ?_ _)); refine blk_put (cs := #[.string t732, .string t733, .int .i64 0]) ?_ 2 _ rfl; (with_reducible repeat (first | refine blk_drewN ?_ _ | refine blk_drew ?_ | refine blk_alloc ?_ _)); refine blk_put (cs := #[.string t732, .string (⟨#[]⟩ : ByteArray), .int .i64 0]) ?_ 1 _ rfl; (with_reducible repeat (first | refine blk_drewN ?_ _ | refine blk_drew ?_ | refine blk_alloc ?_ _)); refine blk_put (cs := #[.string (⟨#[]⟩ : ByteArray), .string (⟨#[]⟩ : ByteArray), .int .i64 0]) ?_ 0 _ rfl; (with_reducible repeat (first | refine blk_drewN ?_ _ | refine blk_drew ?_ | refine blk_alloc ?_ _)); exact BK737.out⟩, ⟨by repeat (first | (with_reducible first | exact HB.out | apply below_alloc | apply pw_below_drewN | apply below_drew1 | refine below_set ?_ GE714.out | refine below_set ?_ GE725.out | refine below_set ?_ GE731.out | refine below_set ?_ GE737.out) | exact HB.out)⟩⟩
        ·
         replace c55 := Bool.eq_false_iff.mpr c55; subst c55
         have H1 : (laws_FnLogLines.j1 kj9 t715 false t724 false t720 t721 t722) = some r := by rw [if_neg (show ¬ (false = true) by decide)] at H; exact H
         clear H; have H := H1; clear H1; have H' := Aside0.mk H; clear H
         go_wp2
         go_meet
         case rel => exact ⟨_, (false), (by first | rfl | (simp; done) | (simp [*]; done)), H', ⟨by have := HJ9.out; first | omega | exact Nat.le_refl _⟩, ⟨by (with_reducible repeat (first | refine blk_drewN ?_ _ | refine blk_drew ?_ | refine blk_alloc ?_ _)); refine blk_far ?_ NB714_737.out _; (with_reducible repeat (first | refine blk_drewN ?_ _ | refine blk_drew ?_ | refine blk_alloc ?_ _)); refine blk_far ?_ NB714_737.out _; (with_reducible repeat (first | refine blk_drewN ?_ _ | refine blk_drew ?_ | refine blk_alloc ?_ _)); refine blk_far ?_ NB714_737.out _; (with_reducible repeat (first | refine blk_drewN ?_ _ | refine blk_drew ?_ | refine blk_alloc ?_ _)); exact BK714.out⟩, ⟨by (with_reducible repeat (first | refine blk_drewN ?_ _ | refine blk_drew ?_ | refine blk_alloc ?_ _)); refine blk_far ?_ NB725_737.out _; (with_reducible repeat (first | refine blk_drewN ?_ _ | refine blk_drew ?_ | refine blk_alloc ?_ _)); refine blk_far ?_ NB725_737.out _; (with_reducible repeat (first | refine blk_drewN ?_ _ | refine blk_drew ?_ | refine blk_alloc ?_ _)); refine blk_far ?_ NB725_737.out _; (with_reducible repeat (first | refine blk_drewN ?_ _ | refine blk_drew ?_ | refine blk_alloc ?_ _)); exact BK725.out⟩, ⟨by (with_reducible repeat (first | refine blk_drewN ?_ _ | refine blk_drew ?_ | refine blk_alloc ?_ _)); refine blk_far ?_ NB731_737.out _; (with_reducible repeat (first | refine blk_drewN ?_ _ | refine blk_drew ?_ | refine blk_alloc ?_ _)); refine blk_far ?_ NB731_737.out _; (with_reducible repeat (first | refine blk_drewN ?_ _ | refine blk_drew ?_ | refine blk_alloc ?_ _)); refine blk_far ?_ NB731_737.out _; (with_reducible repeat (first | refine blk_drewN ?_ _ | refine blk_drew ?_ | refine blk_alloc ?_ _)); exact BK731.out⟩, ⟨by (with_reducible repeat (first | refine blk_drewN ?_ _ | refine blk_drew ?_ | refine blk_alloc ?_ _)); refine blk_put (cs := #[.string t732, .string t733, .int .i64 0]) ?_ 2 _ rfl; (with_reducible repeat (first | refine blk_drewN ?_ _ | refine blk_drew ?_ | refine blk_alloc ?_ _)); refine blk_put (cs := #[.string t732, .string (⟨#[]⟩ : ByteArray), .int .i64 0]) ?_ 1 _ rfl; (with_reducible repeat (first | refine blk_drewN ?_ _ | refine blk_drew ?_ | refine blk_alloc ?_ _)); refine blk_put (cs := #[.string (⟨#[]⟩ : ByteArray), .string (⟨#[]⟩ : ByteArray), .int .i64 0]) ?_ 0 _ rfl; (with_reducible repeat (first | refine blk_drewN ?_ _ | refine blk_drew ?_ | refine blk_alloc ?_ _)); exact BK737.out⟩, ⟨by repeat (first | (with_reducible first | exact HB.out | apply below_alloc | apply pw_below_drewN | apply below_drew1 | refine below_set ?_ GE714.out | refine below_set ?_ GE725.out | refine below_set ?_ GE731.out | refine below_set ?_ GE737.out) | exact HB.out)⟩⟩
      case rest =>
       as_aux_lemma =>
        clear HC48
        try clear c1
        try clear c2
        try clear p2
        try clear c3
        try clear c4
        try clear c5
        try clear c6
        try clear c12
        try clear c14
        try clear c16
        try clear c17
        try clear c18
        try clear c20
        try clear c24
        try clear c25
        try clear c27
        try clear c27b0
        try clear c27b1
        try clear c28
        try clear c28b0
        try clear c28b1
        try clear c28b2
        try clear c29
        try clear c29b0
        try clear c30
        try clear c31
        try clear c33
        try clear c35
        try clear c35b0
        try clear c35b1
        try clear c36
        try clear c37
        try clear c39
        try clear c40
        try clear c41
        try clear c42
        try clear c44
        try clear c46
        try clear c51
        try clear c52
        try clear c53
        try clear c55
        try clear c56
        try clear c56b0
        try clear c56b1
        try clear c56b2
        try clear c57
        try clear c57b0
        try clear c57b1
        try clear c58
        try clear c59
        try clear c60
        try clear hcz13_0 hcz13_1
        try clear hcz15_0 hcz15_1
        try clear hcz21_0 hcz21_1 hcz21_2
        try clear hcz26_0 hcz26_1 hcz26_2
        try clear hcz32_0 hcz32_1 hcz32_2
        try clear hcz34_0 hcz34_1 hcz34_2
        try clear hcz38_0 hcz38_1 hcz38_2
        try clear hcz40_0 hcz40_1 hcz40_2
        try clear hcz43_0 hcz43_1 hcz43_2
        try clear hcz45_0 hcz45_1 hcz45_2
        try clear hcz54_0 hcz54_1 hcz54_2
        try clear hcz61_0 hcz61_1 hcz61_2
        try clear hfz13_0 hfz13_1
        try clear hfz15_0 hfz15_1
        try clear hfz21_0 hfz21_1 hfz21_2
        try clear hfz26_0 hfz26_1 hfz26_2
        try clear hfz32_0 hfz32_1 hfz32_2
        try clear hfz34_0 hfz34_1 hfz34_2
        try clear hfz38_0 hfz38_1 hfz38_2
        try clear hfz40_0 hfz40_1 hfz40_2
        try clear hfz43_0 hfz43_1 hfz43_2
        try clear hfz45_0 hfz45_1 hfz45_2
        try clear hfz54_0 hfz54_1 hfz54_2
        try clear hfz61_0 hfz61_1 hfz61_2
        try clear p2
        obtain ⟨kq, x102_47, rfl, HA, HJ47, BK714, BK725, BK731, BK737, HB⟩ := hcut
        cases kq with
        | zero => exact absurd HA.out (by simp [laws_FnLogLines.j1])
        | succ kj47 =>
         have H := HA.out; clear HA; simp only [laws_FnLogLines.j1] at H
         by_cases c62 : x102_47 = true
         ·
          subst c62
          have H1 : (none) = some r := by rw [if_pos rfl] at H; exact H
          clear H; have H := H1; clear H1; exact absurd H (by simp)
         ·
          replace c62 := Bool.eq_false_iff.mpr c62; subst c62
          have H1 : ((impl_SyncLog.f kj47 t720 t721 t722).bind fun bt738 => (if t724 = true then (if bt738.2.2.2 = true then (if (bt738.1.toList == t720.toList && (bt738.2.1.toList == t721.toList && (bt738.2.2.1 == t722))) = true then ((impl_IsValidLog.f kj47 t720 t721 t722).bind fun t743 => (if t743 = true then (if t716 = true then (some true) else (some (t715.toList == ([] : List UInt8)))) else (none))) else (none)) else (none)) else (some true))) = some r := by rw [if_neg (show ¬ (false = true) by decide)] at H; exact H
          clear H; have H := H1; clear H1; replace H := Option.bind_eq_some_iff.mp H; obtain ⟨⟨t738, t739, t740, t741⟩, A630, H⟩ := H; replace H : (if t724 = true then (if t741 = true then (if (t738.toList == t720.toList && (t739.toList == t721.toList && (t740 == t722))) = true then ((impl_IsValidLog.f kj47 t720 t721 t722).bind fun t743 => (if t743 = true then (if t716 = true then (some true) else (some (t715.toList == ([] : List UInt8)))) else (none))) else (none)) else (none)) else (some true)) = some r := H; have A63 := Aside0.mk A630; clear A630
          by_cases c64 : t724 = true
          ·
           subst c64
           have H1 : (if t741 = true then (if (t738.toList == t720.toList && (t739.toList == t721.toList && (t740 == t722))) = true then ((impl_IsValidLog.f kj47 t720 t721 t722).bind fun t743 => (if t743 = true then (if t716 = true then (some true) else (some (t715.toList == ([] : List UInt8)))) else (none))) else (none)) else (none)) = some r := by rw [if_pos rfl] at H; exact H
           clear H; have H := H1; clear H1
           by_cases c65 : t741 = true
           ·
            subst c65
            have H1 : (if (t738.toList == t720.toList && (t739.toList == t721.toList && (t740 == t722))) = true then ((impl_IsValidLog.f kj47 t720 t721 t722).bind fun t743 => (if t743 = true then (if t716 = true then (some true) else (some (t715.toList == ([] : List UInt8)))) else (none))) else (none)) = some r := by rw [if_pos rfl] at H; exact H
            clear H; have H := H1; clear H1
            by_cases c66 : (t738.toList == t720.toList && (t739.toList == t721.toList && (t740 == t722))) = true
            ·
             rw [if_pos c66] at H
             have c66b0 : (t738.toList == t720.toList && (t739.toList == t721.toList && (t740 == t722))) = true := c66; (try (have c66b1 : decide (t738.toList = t720.toList && (t739.toList == t721.toList && (t740 == t722))) = true := by simpa using c66)); (try (have c66b2 : (t738.toList == t720.toList && (t739.toList == t721.toList && (t740 == t722))) = true := by simpa using c66)); clear c66; replace H := Option.bind_eq_some_iff.mp H; obtain ⟨t743, A670, H⟩ := H; replace H : (if t743 = true then (if t716 = true then (some true) else (some (t715.toList == ([] : List UInt8)))) else (none)) = some r := H; have A67 := Aside0.mk A670; clear A670
             by_cases c68 : t743 = true
             ·
              subst c68
              have H1 : (if t716 = true then (some true) else (some (t715.toList == ([] : List UInt8)))) = some r := by rw [if_pos rfl] at H; exact H
              clear H; have H := H1; clear H1
              by_cases c69 : t716 = true
              ·
               subst c69
               have H1 : (some true) = some r := by rw [if_pos rfl] at H; exact H
               clear H; have H := H1; clear H1; obtain rfl := Option.some.inj H; have hnb70 := NB725_714.out; have hnc70 := NB714_725.out; have hnb71 := NB725_731.out; have hnc71 := NB731_725.out; have hnb72 := NB725_737.out; have hnc72 := NB737_725.out; obtain ⟨hcz73_0, hcz73_1, hcz73_2⟩ := cz3_ BK725.out; obtain ⟨hfz73_0, hfz73_1, hfz73_2⟩ := fz3_ BK725.out
               go_wp2_with (first | ((with_reducible refine gate_callee (f := 27) rfl ?_); refine ga_ (some 105) Tryd.func27 #[.agg #[.string t720, .string t721, .int .i64 t722]] ?_; (with_reducible refine (impl_SyncLog.calls kj47 t720 t721 t722 t738 t739 t740 true _ A63.out ?sideT).mono ?_); (case sideT => first | exact HT.out | exact Tb.step HT.out HB.out | exact Tb.step HT.out (by repeat (first | (with_reducible first | exact HB.out | apply below_alloc | apply pw_below_drewN | apply below_drew1 | refine below_set ?_ GE714.out | refine below_set ?_ GE725.out | refine below_set ?_ GE731.out | refine below_set ?_ GE737.out | refine below_set ?_ GE742.out) | exact HB.out | exact Below.refl _ _))); rintro e w74 ⟨rfl, hb⟩; refine ⟨_, rfl, ?_⟩; replace BK714 := Aside0.mk (bb_ (bk_ BK714.out) hb); replace BK725 := Aside0.mk (bb_ (bk_ BK725.out) hb); replace BK731 := Aside0.mk (bb_ (bk_ BK731.out) hb); replace BK737 := Aside0.mk (bb_ (bk_ BK737.out) hb); replace HB := Aside0.mk (below_step (by repeat (first | (with_reducible first | exact HB.out | apply below_alloc | apply pw_below_drewN | apply below_drew1 | refine below_set ?_ GE714.out | refine below_set ?_ GE725.out | refine below_set ?_ GE731.out | refine below_set ?_ GE737.out) | exact HB.out)) hb); (try clear hb); (try clear hb2); (try clear hk); (try clear hi)) | ((with_reducible refine gate_dst (N := 19) rfl ?_); refine box_event ?hg (N := 19) ?hd (cs := #[.string (⟨#[]⟩ : ByteArray), .string (⟨#[]⟩ : ByteArray), .int .i64 0]) (t := 31) ?hr ?_; (case hd => rfl); (case hg => rfl); (case hr => first | (go_simp; done) | (go_simp; rfl)); intro gb742 hg w75 hbox hb; have BK742 := Aside0.mk (hbox); have GW742 := Aside0.mk ((by rw [hg]; exact (below_size (by repeat (first | (with_reducible first | exact HB.out | apply below_alloc | apply pw_below_drewN | apply below_drew1 | refine below_set ?_ GE714.out | refine below_set ?_ GE725.out | refine below_set ?_ GE731.out | refine below_set ?_ GE737.out) | exact HB.out))) : w.heap.size ≤ gb742)); have GE742 := Aside0.mk ((by rw [hg]; exact (below_size (by repeat (first | (with_reducible first | exact HB.out | apply below_alloc | apply pw_below_drewN | apply below_drew1 | refine below_set ?_ GE714.out | refine below_set ?_ GE725.out | refine below_set ?_ GE731.out | refine below_set ?_ GE737.out) | exact HB.out))) : w.heap.size ≤ gb742)); replace HB := Aside0.mk (below_step (by repeat (first | (with_reducible first | exact HB.out | apply below_alloc | apply pw_below_drewN | apply below_drew1 | refine below_set ?_ GE714.out | refine below_set ?_ GE725.out | refine below_set ?_ GE731.out | refine below_set ?_ GE737.out) | exact HB.out)) hb); have NB714_742 := Aside0.mk ((by rw [hg]; exact Nat.ne_of_lt (blk_lt (g := gb714) (o := .cells #[.string t712, .string t713] 27 (0, 0)) (bk_ BK714.out)) : gb714 ≠ gb742)); have NB742_714 := Aside0.mk ((by rw [hg]; exact Nat.ne_of_gt (blk_lt (g := gb714) (o := .cells #[.string t712, .string t713] 27 (0, 0)) (bk_ BK714.out)) : gb742 ≠ gb714)); replace BK714 := Aside0.mk (bb_ (bk_ BK714.out) hb); have NB725_742 := Aside0.mk ((by rw [hg]; exact Nat.ne_of_lt (blk_lt (g := gb725) (o := .cells #[.string t720, .string t721, .int .i64 t722] 31 (0, 0)) (bk_ BK725.out)) : gb725 ≠ gb742)); have NB742_725 := Aside0.mk ((by rw [hg]; exact Nat.ne_of_gt (blk_lt (g := gb725) (o := .cells #[.string t720, .string t721, .int .i64 t722] 31 (0, 0)) (bk_ BK725.out)) : gb742 ≠ gb725)); replace BK725 := Aside0.mk (bb_ (bk_ BK725.out) hb); have NB731_742 := Aside0.mk ((by rw [hg]; exact Nat.ne_of_lt (blk_lt (g := gb731) (o := .cells #[.string t726, .string t727, .int .i64 t728] 31 (0, 0)) (bk_ BK731.out)) : gb731 ≠ gb742)); have NB742_731 := Aside0.mk ((by rw [hg]; exact Nat.ne_of_gt (blk_lt (g := gb731) (o := .cells #[.string t726, .string t727, .int .i64 t728] 31 (0, 0)) (bk_ BK731.out)) : gb742 ≠ gb731)); replace BK731 := Aside0.mk (bb_ (bk_ BK731.out) hb); have NB737_742 := Aside0.mk ((by rw [hg]; exact Nat.ne_of_lt (blk_lt (g := gb737) (o := .cells #[.string t732, .string t733, .int .i64 t734] 31 (0, 0)) (bk_ BK737.out)) : gb737 ≠ gb742)); have NB742_737 := Aside0.mk ((by rw [hg]; exact Nat.ne_of_gt (blk_lt (g := gb737) (o := .cells #[.string t732, .string t733, .int .i64 t734] 31 (0, 0)) (bk_ BK737.out)) : gb742 ≠ gb737)); replace BK737 := Aside0.mk (bb_ (bk_ BK737.out) hb); clear hb hbox hg; have hnb76 := NB742_714.out; have hnc76 := NB714_742.out; have hnb77 := NB742_725.out; have hnc77 := NB725_742.out; have hnb78 := NB742_731.out; have hnc78 := NB731_742.out; have hnb79 := NB742_737.out; have hnc79 := NB737_742.out; obtain ⟨hcz80_0, hcz80_1, hcz80_2⟩ := cz3_ BK742.out; obtain ⟨hfz80_0, hfz80_1, hfz80_2⟩ := fz3_ BK742.out; obtain ⟨hcz81_0, hcz81_1, hcz81_2⟩ := cz3_ BK725.out; obtain ⟨hfz81_0, hfz81_1, hfz81_2⟩ := fz3_ BK725.out) | (go_at_call 23; (with_reducible refine (impl_IsValidLog.calls kj47 t720 t721 t722 true _ A67.out ?sideT).mono ?_); (case sideT => first | exact HT.out | exact Tb.step HT.out HB.out | exact Tb.step HT.out (by repeat (first | (with_reducible first | exact HB.out | apply below_alloc | apply pw_below_drewN | apply below_drew1 | refine below_set ?_ GE714.out | refine below_set ?_ GE725.out | refine below_set ?_ GE731.out | refine below_set ?_ GE737.out | refine below_set ?_ GE742.out) | exact HB.out | exact Below.refl _ _))); rintro e w82 ⟨rfl, hb⟩; replace BK714 := Aside0.mk (blk_below (g := gb714) (o := .cells #[.string t712, .string t713] 27 (0, 0)) (by (with_reducible repeat (first | refine blk_drewN ?_ _ | refine blk_drew ?_ | refine blk_alloc ?_ _)); refine blk_far ?_ NB714_742.out _; (with_reducible repeat (first | refine blk_drewN ?_ _ | refine blk_drew ?_ | refine blk_alloc ?_ _)); refine blk_far ?_ NB714_742.out _; (with_reducible repeat (first | refine blk_drewN ?_ _ | refine blk_drew ?_ | refine blk_alloc ?_ _)); refine blk_far ?_ NB714_742.out _; (with_reducible repeat (first | refine blk_drewN ?_ _ | refine blk_drew ?_ | refine blk_alloc ?_ _)); exact BK714.out) hb); replace BK725 := Aside0.mk (blk_below (g := gb725) (o := .cells #[.string t720, .string t721, .int .i64 t722] 31 (0, 0)) (by (with_reducible repeat (first | refine blk_drewN ?_ _ | refine blk_drew ?_ | refine blk_alloc ?_ _)); refine blk_far ?_ NB725_742.out _; (with_reducible repeat (first | refine blk_drewN ?_ _ | refine blk_drew ?_ | refine blk_alloc ?_ _)); refine blk_far ?_ NB725_742.out _; (with_reducible repeat (first | refine blk_drewN ?_ _ | refine blk_drew ?_ | refine blk_alloc ?_ _)); refine blk_far ?_ NB725_742.out _; (with_reducible repeat (first | refine blk_drewN ?_ _ | refine blk_drew ?_ | refine blk_alloc ?_ _)); exact BK725.out) hb); replace BK731 := Aside0.mk (blk_below (g := gb731) (o := .cells #[.string t726, .string t727, .int .i64 t728] 31 (0, 0)) (by (with_reducible repeat (first | refine blk_drewN ?_ _ | refine blk_drew ?_ | refine blk_alloc ?_ _)); refine blk_far ?_ NB731_742.out _; (with_reducible repeat (first | refine blk_drewN ?_ _ | refine blk_drew ?_ | refine blk_alloc ?_ _)); refine blk_far ?_ NB731_742.out _; (with_reducible repeat (first | refine blk_drewN ?_ _ | refine blk_drew ?_ | refine blk_alloc ?_ _)); refine blk_far ?_ NB731_742.out _; (with_reducible repeat (first | refine blk_drewN ?_ _ | refine blk_drew ?_ | refine blk_alloc ?_ _)); exact BK731.out) hb); replace BK737 := Aside0.mk (blk_below (g := gb737) (o := .cells #[.string t732, .string t733, .int .i64 t734] 31 (0, 0)) (by (with_reducible repeat (first | refine blk_drewN ?_ _ | refine blk_drew ?_ | refine blk_alloc ?_ _)); refine blk_far ?_ NB737_742.out _; (with_reducible repeat (first | refine blk_drewN ?_ _ | refine blk_drew ?_ | refine blk_alloc ?_ _)); refine blk_far ?_ NB737_742.out _; (with_reducible repeat (first | refine blk_drewN ?_ _ | refine blk_drew ?_ | refine blk_alloc ?_ _)); refine blk_far ?_ NB737_742.out _; (with_reducible repeat (first | refine blk_drewN ?_ _ | refine blk_drew ?_ | refine blk_alloc ?_ _)); exact BK737.out) hb); replace BK742 := Aside0.mk (blk_below (g := gb742) (o := .cells #[.string t738, .string t739, .int .i64 t740] 31 (0, 0)) (by (with_reducible repeat (first | refine blk_drewN ?_ _ | refine blk_drew ?_ | refine blk_alloc ?_ _)); refine blk_put (cs := #[.string t738, .string t739, .int .i64 0]) ?_ 2 _ rfl; (with_reducible repeat (first | refine blk_drewN ?_ _ | refine blk_drew ?_ | refine blk_alloc ?_ _)); refine blk_put (cs := #[.string t738, .string (⟨#[]⟩ : ByteArray), .int .i64 0]) ?_ 1 _ rfl; (with_reducible repeat (first | refine blk_drewN ?_ _ | refine blk_drew ?_ | refine blk_alloc ?_ _)); refine blk_put (cs := #[.string (⟨#[]⟩ : ByteArray), .string (⟨#[]⟩ : ByteArray), .int .i64 0]) ?_ 0 _ rfl; (with_reducible repeat (first | refine blk_drewN ?_ _ | refine blk_drew ?_ | refine blk_alloc ?_ _)); exact BK742.out) hb); replace HB := Aside0.mk (below_step (by repeat (first | (with_reducible first | exact HB.out | apply below_alloc | apply pw_below_drewN | apply below_drew1 | refine below_set ?_ GE714.out | refine below_set ?_ GE725.out | refine below_set ?_ GE731.out | refine below_set ?_ GE737.out | refine below_set ?_ GE742.out) | exact HB.out)) hb); (try clear hb); (try clear hb2); (try clear hk); (try clear hi)))
               go_ret
               exact ⟨rr_, by repeat (first | (with_reducible first | exact HB.out | apply below_alloc | apply pw_below_drewN | apply below_drew1 | refine below_set ?_ GE714.out | refine below_set ?_ GE725.out | refine below_set ?_ GE731.out | refine below_set ?_ GE737.out | refine below_set ?_ GE742.out) | exact HB.out)⟩
              ·
               replace c69 := Bool.eq_false_iff.mpr c69; subst c69
               have H1 : (some (t715.toList == ([] : List UInt8))) = some r := by rw [if_neg (show ¬ (false = true) by decide)] at H; exact H
               clear H; have H := H1; clear H1; obtain rfl := Option.some.inj H; have hnb83 := NB725_714.out; have hnc83 := NB714_725.out; have hnb84 := NB725_731.out; have hnc84 := NB731_725.out; have hnb85 := NB725_737.out; have hnc85 := NB737_725.out; obtain ⟨hcz86_0, hcz86_1, hcz86_2⟩ := cz3_ BK725.out; obtain ⟨hfz86_0, hfz86_1, hfz86_2⟩ := fz3_ BK725.out
               go_wp2_with (first | ((with_reducible refine gate_callee (f := 27) rfl ?_); refine ga_ (some 105) Tryd.func27 #[.agg #[.string t720, .string t721, .int .i64 t722]] ?_; (with_reducible refine (impl_SyncLog.calls kj47 t720 t721 t722 t738 t739 t740 true _ A63.out ?sideT).mono ?_); (case sideT => first | exact HT.out | exact Tb.step HT.out HB.out | exact Tb.step HT.out (by repeat (first | (with_reducible first | exact HB.out | apply below_alloc | apply pw_below_drewN | apply below_drew1 | refine below_set ?_ GE714.out | refine below_set ?_ GE725.out | refine below_set ?_ GE731.out | refine below_set ?_ GE737.out | refine below_set ?_ GE742.out) | exact HB.out | exact Below.refl _ _))); rintro e w87 ⟨rfl, hb⟩; refine ⟨_, rfl, ?_⟩; replace BK714 := Aside0.mk (bb_ (bk_ BK714.out) hb); replace BK725 := Aside0.mk (bb_ (bk_ BK725.out) hb); replace BK731 := Aside0.mk (bb_ (bk_ BK731.out) hb); replace BK737 := Aside0.mk (bb_ (bk_ BK737.out) hb); replace HB := Aside0.mk (below_step (by repeat (first | (with_reducible first | exact HB.out | apply below_alloc | apply pw_below_drewN | apply below_drew1 | refine below_set ?_ GE714.out | refine below_set ?_ GE725.out | refine below_set ?_ GE731.out | refine below_set ?_ GE737.out) | exact HB.out)) hb); (try clear hb); (try clear hb2); (try clear hk); (try clear hi)) | ((with_reducible refine gate_dst (N := 19) rfl ?_); refine box_event ?hg (N := 19) ?hd (cs := #[.string (⟨#[]⟩ : ByteArray), .string (⟨#[]⟩ : ByteArray), .int .i64 0]) (t := 31) ?hr ?_; (case hd => rfl); (case hg => rfl); (case hr => first | (go_simp; done) | (go_simp; rfl)); intro gb742 hg w88 hbox hb; have BK742 := Aside0.mk (hbox); have GW742 := Aside0.mk ((by rw [hg]; exact (below_size (by repeat (first | (with_reducible first | exact HB.out | apply below_alloc | apply pw_below_drewN | apply below_drew1 | refine below_set ?_ GE714.out | refine below_set ?_ GE725.out | refine below_set ?_ GE731.out | refine below_set ?_ GE737.out) | exact HB.out))) : w.heap.size ≤ gb742)); have GE742 := Aside0.mk ((by rw [hg]; exact (below_size (by repeat (first | (with_reducible first | exact HB.out | apply below_alloc | apply pw_below_drewN | apply below_drew1 | refine below_set ?_ GE714.out | refine below_set ?_ GE725.out | refine below_set ?_ GE731.out | refine below_set ?_ GE737.out) | exact HB.out))) : w.heap.size ≤ gb742)); replace HB := Aside0.mk (below_step (by repeat (first | (with_reducible first | exact HB.out | apply below_alloc | apply pw_below_drewN | apply below_drew1 | refine below_set ?_ GE714.out | refine below_set ?_ GE725.out | refine below_set ?_ GE731.out | refine below_set ?_ GE737.out) | exact HB.out)) hb); have NB714_742 := Aside0.mk ((by rw [hg]; exact Nat.ne_of_lt (blk_lt (g := gb714) (o := .cells #[.string t712, .string t713] 27 (0, 0)) (bk_ BK714.out)) : gb714 ≠ gb742)); have NB742_714 := Aside0.mk ((by rw [hg]; exact Nat.ne_of_gt (blk_lt (g := gb714) (o := .cells #[.string t712, .string t713] 27 (0, 0)) (bk_ BK714.out)) : gb742 ≠ gb714)); replace BK714 := Aside0.mk (bb_ (bk_ BK714.out) hb); have NB725_742 := Aside0.mk ((by rw [hg]; exact Nat.ne_of_lt (blk_lt (g := gb725) (o := .cells #[.string t720, .string t721, .int .i64 t722] 31 (0, 0)) (bk_ BK725.out)) : gb725 ≠ gb742)); have NB742_725 := Aside0.mk ((by rw [hg]; exact Nat.ne_of_gt (blk_lt (g := gb725) (o := .cells #[.string t720, .string t721, .int .i64 t722] 31 (0, 0)) (bk_ BK725.out)) : gb742 ≠ gb725)); replace BK725 := Aside0.mk (bb_ (bk_ BK725.out) hb); have NB731_742 := Aside0.mk ((by rw [hg]; exact Nat.ne_of_lt (blk_lt (g := gb731) (o := .cells #[.string t726, .string t727, .int .i64 t728] 31 (0, 0)) (bk_ BK731.out)) : gb731 ≠ gb742)); have NB742_731 := Aside0.mk ((by rw [hg]; exact Nat.ne_of_gt (blk_lt (g := gb731) (o := .cells #[.string t726, .string t727, .int .i64 t728] 31 (0, 0)) (bk_ BK731.out)) : gb742 ≠ gb731)); replace BK731 := Aside0.mk (bb_ (bk_ BK731.out) hb); have NB737_742 := Aside0.mk ((by rw [hg]; exact Nat.ne_of_lt (blk_lt (g := gb737) (o := .cells #[.string t732, .string t733, .int .i64 t734] 31 (0, 0)) (bk_ BK737.out)) : gb737 ≠ gb742)); have NB742_737 := Aside0.mk ((by rw [hg]; exact Nat.ne_of_gt (blk_lt (g := gb737) (o := .cells #[.string t732, .string t733, .int .i64 t734] 31 (0, 0)) (bk_ BK737.out)) : gb742 ≠ gb737)); replace BK737 := Aside0.mk (bb_ (bk_ BK737.out) hb); clear hb hbox hg; have hnb89 := NB742_714.out; have hnc89 := NB714_742.out; have hnb90 := NB742_725.out; have hnc90 := NB725_742.out; have hnb91 := NB742_731.out; have hnc91 := NB731_742.out; have hnb92 := NB742_737.out; have hnc92 := NB737_742.out; obtain ⟨hcz93_0, hcz93_1, hcz93_2⟩ := cz3_ BK742.out; obtain ⟨hfz93_0, hfz93_1, hfz93_2⟩ := fz3_ BK742.out; obtain ⟨hcz94_0, hcz94_1, hcz94_2⟩ := cz3_ BK725.out; obtain ⟨hfz94_0, hfz94_1, hfz94_2⟩ := fz3_ BK725.out) | (go_at_call 23; (with_reducible refine (impl_IsValidLog.calls kj47 t720 t721 t722 true _ A67.out ?sideT).mono ?_); (case sideT => first | exact HT.out | exact Tb.step HT.out HB.out | exact Tb.step HT.out (by repeat (first | (with_reducible first | exact HB.out | apply below_alloc | apply pw_below_drewN | apply below_drew1 | refine below_set ?_ GE714.out | refine below_set ?_ GE725.out | refine below_set ?_ GE731.out | refine below_set ?_ GE737.out | refine below_set ?_ GE742.out) | exact HB.out | exact Below.refl _ _))); rintro e w95 ⟨rfl, hb⟩; replace BK714 := Aside0.mk (blk_below (g := gb714) (o := .cells #[.string t712, .string t713] 27 (0, 0)) (by (with_reducible repeat (first | refine blk_drewN ?_ _ | refine blk_drew ?_ | refine blk_alloc ?_ _)); refine blk_far ?_ NB714_742.out _; (with_reducible repeat (first | refine blk_drewN ?_ _ | refine blk_drew ?_ | refine blk_alloc ?_ _)); refine blk_far ?_ NB714_742.out _; (with_reducible repeat (first | refine blk_drewN ?_ _ | refine blk_drew ?_ | refine blk_alloc ?_ _)); refine blk_far ?_ NB714_742.out _; (with_reducible repeat (first | refine blk_drewN ?_ _ | refine blk_drew ?_ | refine blk_alloc ?_ _)); exact BK714.out) hb); replace BK725 := Aside0.mk (blk_below (g := gb725) (o := .cells #[.string t720, .string t721, .int .i64 t722] 31 (0, 0)) (by (with_reducible repeat (first | refine blk_drewN ?_ _ | refine blk_drew ?_ | refine blk_alloc ?_ _)); refine blk_far ?_ NB725_742.out _; (with_reducible repeat (first | refine blk_drewN ?_ _ | refine blk_drew ?_ | refine blk_alloc ?_ _)); refine blk_far ?_ NB725_742.out _; (with_reducible repeat (first | refine blk_drewN ?_ _ | refine blk_drew ?_ | refine blk_alloc ?_ _)); refine blk_far ?_ NB725_742.out _; (with_reducible repeat (first | refine blk_drewN ?_ _ | refine blk_drew ?_ | refine blk_alloc ?_ _)); exact BK725.out) hb); replace BK731 := Aside0.mk (blk_below (g := gb731) (o := .cells #[.string t726, .string t727, .int .i64 t728] 31 (0, 0)) (by (with_reducible repeat (first | refine blk_drewN ?_ _ | refine blk_drew ?_ | refine blk_alloc ?_ _)); refine blk_far ?_ NB731_742.out _; (with_reducible repeat (first | refine blk_drewN ?_ _ | refine blk_drew ?_ | refine blk_alloc ?_ _)); refine blk_far ?_ NB731_742.out _; (with_reducible repeat (first | refine blk_drewN ?_ _ | refine blk_drew ?_ | refine blk_alloc ?_ _)); refine blk_far ?_ NB731_742.out _; (with_reducible repeat (first | refine blk_drewN ?_ _ | refine blk_drew ?_ | refine blk_alloc ?_ _)); exact BK731.out) hb); replace BK737 := Aside0.mk (blk_below (g := gb737) (o := .cells #[.string t732, .string t733, .int .i64 t734] 31 (0, 0)) (by (with_reducible repeat (first | refine blk_drewN ?_ _ | refine blk_drew ?_ | refine blk_alloc ?_ _)); refine blk_far ?_ NB737_742.out _; (with_reducible repeat (first | refine blk_drewN ?_ _ | refine blk_drew ?_ | refine blk_alloc ?_ _)); refine blk_far ?_ NB737_742.out _; (with_reducible repeat (first | refine blk_drewN ?_ _ | refine blk_drew ?_ | refine blk_alloc ?_ _)); refine blk_far ?_ NB737_742.out _; (with_reducible repeat (first | refine blk_drewN ?_ _ | refine blk_drew ?_ | refine blk_alloc ?_ _)); exact BK737.out) hb); replace BK742 := Aside0.mk (blk_below (g := gb742) (o := .cells #[.string t738, .string t739, .int .i64 t740] 31 (0, 0)) (by (with_reducible repeat (first | refine blk_drewN ?_ _ | refine blk_drew ?_ | refine blk_alloc ?_ _)); refine blk_put (cs := #[.string t738, .string t739, .int .i64 0]) ?_ 2 _ rfl; (with_reducible repeat (first | refine blk_drewN ?_ _ | refine blk_drew ?_ | refine blk_alloc ?_ _)); refine blk_put (cs := #[.string t738, .string (⟨#[]⟩ : ByteArray), .int .i64 0]) ?_ 1 _ rfl; (with_reducible repeat (first | refine blk_drewN ?_ _ | refine blk_drew ?_ | refine blk_alloc ?_ _)); refine blk_put (cs := #[.string (⟨#[]⟩ : ByteArray), .string (⟨#[]⟩ : ByteArray), .int .i64 0]) ?_ 0 _ rfl; (with_reducible repeat (first | refine blk_drewN ?_ _ | refine blk_drew ?_ | refine blk_alloc ?_ _)); exact BK742.out) hb); replace HB := Aside0.mk (below_step (by repeat (first | (with_reducible first | exact HB.out | apply below_alloc | apply pw_below_drewN | apply below_drew1 | refine below_set ?_ GE714.out | refine below_set ?_ GE725.out | refine below_set ?_ GE731.out | refine below_set ?_ GE737.out | refine below_set ?_ GE742.out) | exact HB.out)) hb); (try clear hb); (try clear hb2); (try clear hk); (try clear hi)))
               go_ret
               exact ⟨rr_, by repeat (first | (with_reducible first | exact HB.out | apply below_alloc | apply pw_below_drewN | apply below_drew1 | refine below_set ?_ GE714.out | refine below_set ?_ GE725.out | refine below_set ?_ GE731.out | refine below_set ?_ GE737.out | refine below_set ?_ GE742.out) | exact HB.out)⟩
             ·
              replace c68 := Bool.eq_false_iff.mpr c68; subst c68
              have H1 : (none) = some r := by rw [if_neg (show ¬ (false = true) by decide)] at H; exact H
              clear H; have H := H1; clear H1; exact absurd H (by simp)
            ·
             rw [if_neg c66] at H
             exact absurd H (by simp)
           ·
            replace c65 := Bool.eq_false_iff.mpr c65; subst c65
            have H1 : (none) = some r := by rw [if_neg (show ¬ (false = true) by decide)] at H; exact H
            clear H; have H := H1; clear H1; exact absurd H (by simp)
          ·
           replace c64 := Bool.eq_false_iff.mpr c64; subst c64
           have H1 : (some true) = some r := by rw [if_neg (show ¬ (false = true) by decide)] at H; exact H
           clear H; have H := H1; clear H1; obtain rfl := Option.some.inj H; have hnb96 := NB725_714.out; have hnc96 := NB714_725.out; have hnb97 := NB725_731.out; have hnc97 := NB731_725.out; have hnb98 := NB725_737.out; have hnc98 := NB737_725.out; obtain ⟨hcz99_0, hcz99_1, hcz99_2⟩ := cz3_ BK725.out; obtain ⟨hfz99_0, hfz99_1, hfz99_2⟩ := fz3_ BK725.out
           go_wp2_with (first | ((with_reducible refine gate_callee (f := 27) rfl ?_); refine ga_ (some 105) Tryd.func27 #[.agg #[.string t720, .string t721, .int .i64 t722]] ?_; (with_reducible refine (impl_SyncLog.calls kj47 t720 t721 t722 t738 t739 t740 t741 _ A63.out ?sideT).mono ?_); (case sideT => first | exact HT.out | exact Tb.step HT.out HB.out | exact Tb.step HT.out (by repeat (first | (with_reducible first | exact HB.out | apply below_alloc | apply pw_below_drewN | apply below_drew1 | refine below_set ?_ GE714.out | refine below_set ?_ GE725.out | refine below_set ?_ GE731.out | refine below_set ?_ GE737.out | refine below_set ?_ GE742.out) | exact HB.out | exact Below.refl _ _))); rintro e w100 ⟨rfl, hb⟩; refine ⟨_, rfl, ?_⟩; replace BK714 := Aside0.mk (bb_ (bk_ BK714.out) hb); replace BK725 := Aside0.mk (bb_ (bk_ BK725.out) hb); replace BK731 := Aside0.mk (bb_ (bk_ BK731.out) hb); replace BK737 := Aside0.mk (bb_ (bk_ BK737.out) hb); replace HB := Aside0.mk (below_step (by repeat (first | (with_reducible first | exact HB.out | apply below_alloc | apply pw_below_drewN | apply below_drew1 | refine below_set ?_ GE714.out | refine below_set ?_ GE725.out | refine below_set ?_ GE731.out | refine below_set ?_ GE737.out) | exact HB.out)) hb); (try clear hb); (try clear hb2); (try clear hk); (try clear hi)) | ((with_reducible refine gate_dst (N := 19) rfl ?_); refine box_event ?hg (N := 19) ?hd (cs := #[.string (⟨#[]⟩ : ByteArray), .string (⟨#[]⟩ : ByteArray), .int .i64 0]) (t := 31) ?hr ?_; (case hd => rfl); (case hg => rfl); (case hr => first | (go_simp; done) | (go_simp; rfl)); intro gb742 hg w101 hbox hb; have BK742 := Aside0.mk (hbox); have GW742 := Aside0.mk ((by rw [hg]; exact (below_size (by repeat (first | (with_reducible first | exact HB.out | apply below_alloc | apply pw_below_drewN | apply below_drew1 | refine below_set ?_ GE714.out | refine below_set ?_ GE725.out | refine below_set ?_ GE731.out | refine below_set ?_ GE737.out) | exact HB.out))) : w.heap.size ≤ gb742)); have GE742 := Aside0.mk ((by rw [hg]; exact (below_size (by repeat (first | (with_reducible first | exact HB.out | apply below_alloc | apply pw_below_drewN | apply below_drew1 | refine below_set ?_ GE714.out | refine below_set ?_ GE725.out | refine below_set ?_ GE731.out | refine below_set ?_ GE737.out) | exact HB.out))) : w.heap.size ≤ gb742)); replace HB := Aside0.mk (below_step (by repeat (first | (with_reducible first | exact HB.out | apply below_alloc | apply pw_below_drewN | apply below_drew1 | refine below_set ?_ GE714.out | refine below_set ?_ GE725.out | refine below_set ?_ GE731.out | refine below_set ?_ GE737.out) | exact HB.out)) hb); have NB714_742 := Aside0.mk ((by rw [hg]; exact Nat.ne_of_lt (blk_lt (g := gb714) (o := .cells #[.string t712, .string t713] 27 (0, 0)) (bk_ BK714.out)) : gb714 ≠ gb742)); have NB742_714 := Aside0.mk ((by rw [hg]; exact Nat.ne_of_gt (blk_lt (g := gb714) (o := .cells #[.string t712, .string t713] 27 (0, 0)) (bk_ BK714.out)) : gb742 ≠ gb714)); replace BK714 := Aside0.mk (bb_ (bk_ BK714.out) hb); have NB725_742 := Aside0.mk ((by rw [hg]; exact Nat.ne_of_lt (blk_lt (g := gb725) (o := .cells #[.string t720, .string t721, .int .i64 t722] 31 (0, 0)) (bk_ BK725.out)) : gb725 ≠ gb742)); have NB742_725 := Aside0.mk ((by rw [hg]; exact Nat.ne_of_gt (blk_lt (g := gb725) (o := .cells #[.string t720, .string t721, .int .i64 t722] 31 (0, 0)) (bk_ BK725.out)) : gb742 ≠ gb725)); replace BK725 := Aside0.mk (bb_ (bk_ BK725.out) hb); have NB731_742 := Aside0.mk ((by rw [hg]; exact Nat.ne_of_lt (blk_lt (g := gb731) (o := .cells #[.string t726, .string t727, .int .i64 t728] 31 (0, 0)) (bk_ BK731.out)) : gb731 ≠ gb742)); have NB742_731 := Aside0.mk ((by rw [hg]; exact Nat.ne_of_gt (blk_lt (g := gb731) (o := .cells #[.string t726, .string t727, .int .i64 t728] 31 (0, 0)) (bk_ BK731.out)) : gb742 ≠ gb731)); replace BK731 := Aside0.mk (bb_ (bk_ BK731.out) hb); have NB737_742 := Aside0.mk ((by rw [hg]; exact Nat.ne_of_lt (blk_lt (g := gb737) (o := .cells #[.string t732, .string t733, .int .i64 t734] 31 (0, 0)) (bk_ BK737.out)) : gb737 ≠ gb742)); have NB742_737 := Aside0.mk ((by rw [hg]; exact Nat.ne_of_gt (blk_lt (g := gb737) (o := .cells #[.string t732, .string t733, .int .i64 t734] 31 (0, 0)) (bk_ BK737.out)) : gb742 ≠ gb737)); replace BK737 := Aside0.mk (bb_ (bk_ BK737.out) hb); clear hb hbox hg; have hnb102 := NB742_714.out; have hnc102 := NB714_742.out; have hnb103 := NB742_725.out; have hnc103 := NB725_742.out; have hnb104 := NB742_731.out; have hnc104 := NB731_742.out; have hnb105 := NB742_737.out; have hnc105 := NB737_742.out; obtain ⟨hcz106_0, hcz106_1, hcz106_2⟩ := cz3_ BK742.out; obtain ⟨hfz106_0, hfz106_1, hfz106_2⟩ := fz3_ BK742.out))
           go_ret
           exact ⟨rr_, by repeat (first | (with_reducible first | exact HB.out | apply below_alloc | apply pw_below_drewN | apply below_drew1 | refine below_set ?_ GE714.out | refine below_set ?_ GE725.out | refine below_set ?_ GE731.out | refine below_set ?_ GE737.out | refine below_set ?_ GE742.out) | exact HB.out)⟩
end Go.Proofs.YtdpinnhgkocjhaaDoor.Pr

namespace Go.Proofs.YtdpinnhgkocjhaaDoorW.Opens
open Go.ChangeShapes Go.WideShapes Go.RowKit
open Go.Deep (open_slice choose_lt)
open Go.Proofs.YtdpinnhgkocjhaaDoorW.PrintWords
set_option linter.unusedVariables false
set_option linter.unusedSimpArgs false
def Opn {α : Type} (P : Program) (t : TypeId) (d : Kd α) (wf : α → Prop) : Prop :=
 P.cellsOf t = d.sz ∧ ∀ (H : Type) (enc : TypeId × Value → H) (W : World) (fuel : Nat) (cs : List Value) (x : DataW H × List MemPlace),
  DataW.trod enc P W 0 (fun _ => true) true fuel t cs = some x → (∀ n ∈ x.1.weights P t, n ≤ reachBytes) → ∃ y, d.K W y cs ∧ wf y
theorem Opn.int {P : Program} {t : TypeId} {k : IntKind} (hc : P.cellsOf t = 1) (ht : P.underlying t = some (.int k)) : Opn P t (Kd.int k) (fun n => (Lit.int k n).wf = true) :=
 ⟨hc, fun H enc W fuel cs x h _ => by
  obtain ⟨m, rfl, rfl, hw⟩ := DataW.trod_int ht h
  exact ⟨m, rfl, hw⟩⟩
theorem Opn.bool {P : Program} {t : TypeId} (hc : P.cellsOf t = 1) (ht : P.underlying t = some .bool) : Opn P t Kd.bool (fun _ => True) :=
 ⟨hc, fun H enc W fuel cs x h _ => by
  obtain ⟨m, rfl, rfl⟩ := DataW.trod_bool ht h
  exact ⟨m, rfl, trivial⟩⟩
theorem Opn.string {P : Program} {t : TypeId} (hc : P.cellsOf t = 1) (ht : P.underlying t = some .string) : Opn P t Kd.string (fun s => s.size ≤ 140737488351232) :=
 ⟨hc, fun H enc W fuel cs x h hw => by
  obtain ⟨m, rfl, rfl, hm⟩ := DataW.trod_string ht h
  have := hw m.data.toList.length (by simp [DataW.weights])
  rw [Array.length_toList] at this
  exact ⟨m, rfl, this⟩⟩
theorem weightsAll_mem {H : Type} {P : Program} {e : TypeId} : ∀ {l : List (DataW H)} {d : DataW H}, d ∈ l → ∀ n ∈ d.weights P e, n ∈ DataW.weightsAll P e l
 | _ :: r, d, h, n, hn => by
  simp only [DataW.weightsAll, List.mem_append]
  rcases List.mem_cons.1 h with rfl | h
  ·
   exact .inl hn
  ·
   exact .inr (weightsAll_mem h n hn)
theorem Opn.slice {α : Type} (z : α) {P : Program} {t e : TypeId} {d : Kd α} {wf : α → Prop} {B : Nat} (hc : P.cellsOf t = 1) (ht : P.underlying t = some (.slice e)) (hB : P.bytesOf e = B) (h : Opn P e d wf) :
  Opn P t (Kd.slice e d) (fun xs => xs.length ≤ maxLen ∧ xs.length * B ≤ 140737488351232 ∧ ∀ y ∈ xs, wf y) :=
 ⟨hc, fun H enc W fuel cs x hf hw => by
  haveI : Inhabited α := ⟨z⟩
  rcases open_slice ht hf with ⟨rfl, rfl⟩ | ⟨a, len, cap, m, n, D, Pl, rfl, _, hl, hm, hmm, rfl, each⟩
  ·
   exact ⟨[], ⟨none, 0, rfl, Nat.le_refl _, rfl, by simp, fun h => absurd h (Nat.lt_irrefl 0)⟩, by simp, by simp, by simp⟩
  ·
   rw [if_pos rfl] at hmm
   subst hmm
   have hw0 : ∀ n ∈ DataW.weights P t (DataW.slice (H := H) ((List.range len).map D) ((List.range (m - len)).map fun j => D (len + j))), n ≤ reachBytes := hw
   have hww : ∀ i, i < len → ∀ n ∈ (D i).weights P e, n ≤ reachBytes := by
    intro i hi n hn
    refine hw0 n ?_
    simp only [DataW.weights, ht, List.mem_cons, List.mem_append]
    exact .inr (.inl (weightsAll_mem (List.mem_map.2 ⟨i, List.mem_range.2 hi, rfl⟩) n hn))
   have hB2 : len * B ≤ 140737488351232 := by
    have := hw0 ((len + (m - len)) * B) (by simp [DataW.weights, ht, hB])
    refine Nat.le_trans (Nat.mul_le_mul_right _ (by omega)) this
   have hx : ∀ i, i < len → ∃ y, ∃ c : List Value, c.length = d.sz ∧ d.K W y c ∧ wf y ∧ ∀ j u, c[j]? = some u → W.cell? (a.add (i * d.sz + j)) = some u := by
    intro i hi
    obtain ⟨cs', h1, h2⟩ := each i (by omega)
    obtain ⟨y, hy, hwy⟩ := h.2 H enc W n cs' _ h2 (hww i hi)
    obtain ⟨_, hlen, hcell⟩ := World.cells?_some h1
    rw [h.1] at hlen hcell
    refine ⟨y, cs', hlen, hy, hwy, fun j u hu => ?_⟩
    have hj : j < d.sz := by
     have := (List.getElem?_eq_some_iff.1 hu).1
     omega
    have := hcell j hj
    rw [add_add] at this
    exact this.trans hu
   obtain ⟨f, hf'⟩ := choose_lt hx
   refine ⟨(List.range len).map f, ⟨some a, m, by simp, by simpa using hl, by simp, by simp only [maxLen] at hm; simp; omega, fun _ => ⟨a, rfl, fun j p hj => ?_⟩⟩, ?_, ?_, ?_⟩
   ·
    rw [List.getElem?_map] at hj
    have hj' : j < len := by
     by_cases hjl : j < len
     ·
      exact hjl
     ·
      rw [List.getElem?_eq_none (by simp; omega)] at hj
      cases hj
    rw [List.getElem?_range hj'] at hj
    obtain rfl := Option.some.inj hj
    obtain ⟨c, h1, h2, _, h3⟩ := hf' j hj'
    exact ⟨c, h1, h2, h3⟩
   ·
    simp; omega
   ·
    simpa using hB2
   ·
    intro y hy
    obtain ⟨i, hi, rfl⟩ := List.mem_map.1 hy
    obtain ⟨c, _, _, h2, _⟩ := hf' i (List.mem_range.1 hi)
    exact h2⟩
def FOpn {α : Type} (P : Program) (fs : List Field) (off : Nat) (d : Kd α) (wf : α → Prop) : Prop :=
 ∀ (H : Type) (enc : TypeId × Value → H) (W : World) (fuel : Nat) (cs : List Value) (xs : List (DataW H × List MemPlace)),
  xs.length = fs.length → (∀ (i : Nat) (f : Field), fs[i]? = some f → DataW.trod enc P W 0 (fun _ => true) true fuel f.type ((cs.drop f.offset).take (P.cellsOf f.type)) = xs[i]?) →
  (∀ n ∈ DataW.weightsEach P (fs.map (·.type)) (xs.map (·.1)), n ≤ reachBytes) → ∃ y, d.K W y ((cs.drop off).take d.sz) ∧ wf y
theorem FOpn.one {α : Type} {P : Program} {f : Field} {off : Nat} {d : Kd α} {wf : α → Prop} (ho : f.offset = off) (h : Opn P f.type d wf) : FOpn P [f] off d wf := by
 intro H enc W fuel cs xs hl hx hw
 match xs, hl with
 | [x], _ =>
  have h0 := hx 0 f rfl
  rw [ho, h.1] at h0
  exact h.2 H enc W fuel _ x h0 (fun n hn => hw n (by simp only [List.map, DataW.weightsEach, List.mem_append]; exact .inl hn))
theorem FOpn.cons {α β : Type} {P : Program} {f : Field} {fs : List Field} {off : Nat} {d : Kd α} {d' : Kd β} {wf : α → Prop} {wf' : β → Prop} (ho : f.offset = off) (h : Opn P f.type d wf) (h' : FOpn P fs (off + d.sz) d' wf') :
  FOpn P (f :: fs) off (Kd.pair d d') (fun x => wf x.1 ∧ wf' x.2) := by
 intro H enc W fuel cs xs hl hx hw
 match xs, hl with
 | x :: xs, hl =>
  have h0 := hx 0 f rfl
  rw [ho, h.1] at h0
  have hw' : ∀ n ∈ x.1.weights P f.type ++ DataW.weightsEach P (fs.map (·.type)) (xs.map (·.1)), n ≤ reachBytes := hw
  obtain ⟨y, hy, hwy⟩ := h.2 H enc W fuel _ x h0 (fun n hn => hw' n (List.mem_append_left _ hn))
  obtain ⟨y', hy', hwy'⟩ := h' H enc W fuel cs xs (by simpa using hl) (fun i f' hf' => hx (i + 1) f' (by simpa using hf')) (fun n hn => hw' n (List.mem_append_right _ hn))
  refine ⟨(y, y'), ⟨_, _, ?_, hy, hy'⟩, hwy, hwy'⟩
  show (cs.drop off).take (d.sz + d'.sz) = _
  rw [List.take_add, List.drop_drop]
theorem par_weights {H : Type} {P : Program} {ts : List TypeId} {ds : List (DataW H)} {j : Nat} {t : TypeId} {d : DataW H} (h : (DataW.weightsEach P ts ds).all (· ≤ reachBytes) = true) (ht : ts[j]? = some t) (hd : ds[j]? = some d) :
  ∀ n ∈ d.weights P t, n ≤ reachBytes := fun n hn => of_decide_eq_true (List.all_eq_true.1 h n (DataW.weights_mem_each ht hd n hn))
theorem par_slice {α : Type} {H : Type} {enc : TypeId × Value → H} {P : Program} {W : World} {r : Reach} {b0 : Nat} {t e : TypeId} {d : Kd α} {wf : List α → Prop} {v : Value} {D : DataW H} {ps : List MemPlace}
  (ht : P.underlying t = some (.slice e)) (ho : Opn P t (Kd.slice e d) wf) (hv : Value.okWide P W r b0 t v) (hd : DataW.Trod enc P W 0 (fun _ => true) true t v D ps) (hw : ∀ n ∈ D.weights P t, n ≤ reachBytes) :
  ∃ (A : Option Addr) (l : List α) (c : Nat), v = .slice A l.length c ∧ l.length ≤ c ∧ d.C W A l.length l ∧ wf l := by
 obtain ⟨A, len, cap, rfl⟩ := okWide_slice ht hv
 obtain ⟨fuel, hf⟩ := hd
 obtain ⟨l, ⟨A', c, he, hl, hC⟩, hwl⟩ := ho.2 H enc W fuel _ _ hf hw
 have he' : [Value.slice A len cap] = [.slice A' l.length c] := he
 simp only [List.cons.injEq, Value.slice.injEq, and_true] at he'
 obtain ⟨rfl, rfl, rfl⟩ := he'
 exact ⟨_, l, _, rfl, hl, hC, hwl⟩
end Go.Proofs.YtdpinnhgkocjhaaDoorW.Opens

namespace Go.Proofs.YtdpinnhgkocjhaaDoor.Pr
open Go.RowKit Go.Proofs.YtdpinnhgkocjhaaDoorW.PrintWords Go.Proofs.YtdpinnhgkocjhaaDoorW.PrintLast Go.Proofs.YtdpinnhgkocjhaaDoorW.Opens
set_option linter.unusedVariables false
def wfL5 (l : List Int) : Prop := l.length ≤ maxLen ∧ l.length * 1 ≤ 140737488351232 ∧ ∀ y ∈ l, (Lit.int .u8 y).wf = true
theorem opnL53 : Opn Tryd.prog 53 (Kd.slice 5 (Kd.int .u8)) wfL5 := Opn.slice (0 : Int) (by kernel_rfl) Tryd.underlying53 (by kernel_rfl) (Opn.int (by kernel_rfl) Tryd.underlying5)
def FnLogLines.Pure : Prop := ∀ (x0 : (List Int)), wfL5 x0 → ∃ k, laws_FnLogLines.f k x0 = some true
end Go.Proofs.YtdpinnhgkocjhaaDoor.Pr

namespace Go.Proofs.YtdpinnhgkocjhaaDoor.Pr.Pure
open Go.RowKit Go.Proofs.YtdpinnhgkocjhaaDoorW.PrintWords Go.Proofs.YtdpinnhgkocjhaaDoorW.PrintLast Go.Proofs.YtdpinnhgkocjhaaDoorW.PrintMore  Go.Lib
set_option linter.unusedVariables false
set_option linter.unusedSimpArgs false
theorem w64 {x : Int} (h1 : -9223372036854775808 ≤ x) (h2 : x ≤ 9223372036854775807) : wrap64 x = x := by
 unfold wrap64
 omega
theorem obs {α β : Type} (a : α) (f : α → Option β) : (some a).bind f = f a := id (Option.bind_some a f)
def M (l : List UInt8) : ByteArray := ⟨l.toArray⟩
theorem ex_M (b : ByteArray) : ∃ l, b = M l := ⟨b.data.toList, by unfold M; rw [Array.toArray_toList]⟩
theorem M_size (l : List UInt8) : (M l).size = l.length := by simp [M, ByteArray.size]
theorem M_data (l : List UInt8) : (M l).data.toList = l := by simp [M]
theorem M_inj {a b : List UInt8} : M a = M b ↔ a = b := ⟨fun h => by
 have := congrArg (fun x : ByteArray => x.data.toList) h
 simpa [M] using this, fun h => by rw [h]⟩
theorem M_toList (l : List UInt8) : (M l).toList = l := by rw [ByteArray.toList_eq, M_data]
theorem sc_M (a b : List UInt8) : sc (M a) (M b) = M (a ++ b) := by
 apply ByteArray.ext
 unfold sc M
 rw [ByteArray.data_append]
 simp
theorem sx_M (a : List UInt8) (i j : Nat) : sx (M a) i j = M ((a.drop i).take (j - i)) := by
 apply ByteArray.ext
 unfold sx M
 rw [ByteArray.data_extract]
 simp [List.extract_eq_take_drop]
theorem bt_M (l : List UInt8) (i : Nat) : bt (M l) (i : Int) = ((l.getD i 0).toNat : Int) := by
 have hb := rd_bytesOf (M l) (i : Int)
 rw [← hb]
 unfold rd bytesOf
 rw [M_data, Int.toNat_natCast, List.getD_eq_getElem?_getD, List.getD_eq_getElem?_getD, List.getElem?_map]
 cases l[i]? <;> rfl
theorem drop_at (l : List UInt8) (i : Nat) (h : i < l.length) : l.drop i = l.getD i 0 :: l.drop (i + 1) := by
 rw [List.drop_eq_getElem_cons h, List.getD_eq_getElem?_getD, List.getElem?_eq_getElem h]
 rfl
theorem byte_eq (x : UInt8) (c : Nat) (hc : c < 256) : ((x.toNat : Int) = (c : Int)) ↔ x = UInt8.ofNat c := by
 constructor
 ·
  intro h
  apply UInt8.toNat_inj.1
  rw [UInt8.toNat_ofNat']
  omega
 ·
  rintro rfl
  rw [UInt8.toNat_ofNat']
  omega
theorem byte_rng (x : UInt8) : 0 ≤ (x.toNat : Int) ∧ (x.toNat : Int) ≤ 255 := by
 have := x.toNat_lt
 omega
theorem l1In_eq (a b c : Int) : spec_l1In.f a b c = some (decide (b ≤ a ∧ a ≤ c)) := by
 unfold spec_l1In.f
 by_cases h : b ≤ a
 ·
  rw [if_pos h]; simp [h]
 ·
  rw [if_neg (by omega)]; simp [h]
theorem within_eq (a b c : Int) : impl_within.f a b c = some (decide (b ≤ a ∧ a ≤ c)) := by
 unfold impl_within.f
 by_cases h : b ≤ a
 ·
  rw [if_pos h]; simp [h]
 ·
  rw [if_neg (by omega)]; simp [h]
theorem dec_of {p : Prop} [Decidable p] {b : Bool} (h : b = true ↔ p) : some b = some (decide p) := by
 congr 1
 rw [Bool.eq_iff_iff, h, decide_eq_true_eq]
end Go.Proofs.YtdpinnhgkocjhaaDoor.Pr.Pure

namespace Go.Proofs.YtdpinnhgkocjhaaDoor.Pr.Pure
open Go.RowKit Go.Proofs.YtdpinnhgkocjhaaDoorW.PrintWords Go.Proofs.YtdpinnhgkocjhaaDoorW.PrintLast Go.Proofs.YtdpinnhgkocjhaaDoorW.PrintMore Go.Lib
set_option linter.unusedVariables false
theorem bits255 (x : Int) : 0 ≤ Go.bits .and .u64 x 255 ∧ Go.bits .and .u64 x 255 ≤ 255 := by
 have h : (BitVec.ofInt IntKind.u64.bits x &&& BitVec.ofInt IntKind.u64.bits 255).toNat ≤ 255 := by
  rw [BitVec.toNat_and]
  exact Nat.le_trans Nat.and_le_right (by decide)
 have e : Go.bits .and .u64 x 255 = IntKind.u64.wrap (((BitVec.ofInt IntKind.u64.bits x &&& BitVec.ofInt IntKind.u64.bits 255).toNat : Nat) : Int) := rfl
 rw [e]
 generalize (BitVec.ofInt IntKind.u64.bits x &&& BitVec.ofInt IntKind.u64.bits 255).toNat = n at h
 have e2 : IntKind.u64.wrap (n : Int) = (n : Int) := by
  have : IntKind.u64.wrap (n : Int) = (n : Int) % 18446744073709551616 := rfl
  omega
 rw [e2]
 omega
theorem rdI_mem (l : List Int) {i : Int} (h0 : 0 ≤ i) (h1 : i < l.length) : rd l i ∈ l := by
 unfold rd
 rw [List.getD_eq_getElem?_getD, List.getElem?_eq_getElem (by omega)]
 exact List.getElem_mem _
theorem rdB_mem (l : List ByteArray) {i : Int} (h0 : 0 ≤ i) (h1 : i < l.length) : rdOf ByteArray.empty l i ∈ l := by
 unfold rdOf
 rw [List.getD_eq_getElem?_getD, List.getElem?_eq_getElem (by omega)]
 exact List.getElem_mem _
theorem next_ok {c : List Int} (hc : ∀ x, x ∈ c → 0 ≤ x ∧ x ≤ 255) {p : Int} (h0 : 0 ≤ p) (h1 : p ≤ 1000000000) (s : Int) :
  ∃ r q, spec_l1Cur_next.f c p s = some (r, p + 1, q) ∧ 0 ≤ r ∧ r ≤ 255 := by
 have hw : wrap64 (p + 1) = p + 1 := w64 (by omega) (by omega)
 unfold spec_l1Cur_next.f
 rw [hw]
 by_cases a : p < (c.length : Int)
 ·
  have hb := hc _ (rdI_mem c h0 a)
  have hv : wrap64 (rd c p) = rd c p := w64 (by omega) (by omega)
  rw [if_pos a, if_pos h0]
  by_cases b : p + 1 ≤ (c.length : Int)
  ·
   rw [if_pos b, hv]
   exact ⟨_, _, rfl, hb.1, hb.2⟩
  ·
   rw [if_neg b]
   refine ⟨_, _, rfl, ?_⟩
   rw [w64 (by have := bits255; exact Int.le_trans (by decide) (this _).1) (Int.le_trans (bits255 _).2 (by decide))]
   exact bits255 _
 ·
  rw [if_neg a]
  by_cases b : p + 1 ≤ (c.length : Int)
  ·
   rw [if_pos b]
   exact ⟨_, _, rfl, by decide, by decide⟩
  ·
   rw [if_neg b]
   refine ⟨_, _, rfl, ?_⟩
   rw [w64 (by have := bits255; exact Int.le_trans (by decide) (this _).1) (Int.le_trans (bits255 _).2 (by decide))]
   exact bits255 _
theorem tmod_lt {a n : Int} (h : 0 ≤ a) (hn : 0 < n) : 0 ≤ Int.tmod a n ∧ Int.tmod a n < n :=
 ⟨Int.tmod_nonneg _ h, Int.tmod_lt_of_pos _ hn⟩
theorem pick_ok {c : List Int} (hc : ∀ x, x ∈ c → 0 ≤ x ∧ x ≤ 255) {p : Int} (h0 : 0 ≤ p) (h1 : p ≤ 900000000) (s : Int) {n : Int} (hn : 0 < n) :
  ∃ r p1 q, spec_l1Cur_pick.f c p s n = some (r, p1, q) ∧ (0 ≤ r ∧ r < n) ∧ p ≤ p1 ∧ p1 ≤ p + 2 := by
 unfold spec_l1Cur_pick.f
 by_cases a : n ≤ 1
 ·
  rw [if_pos a]
  exact ⟨0, p, s, rfl, ⟨by decide, hn⟩, by omega, by omega⟩
 ·
  obtain ⟨r, q, e, b1, b2⟩ := next_ok hc h0 (by omega) s
  have n0 : ¬ n = 0 := by omega
  rw [if_neg a, e, obs]
  by_cases d : n > 200
  ·
   obtain ⟨r2, q2, e2, d1, d2⟩ := next_ok hc (p := p + 1) (by omega) (by omega) q
   rw [if_pos d, e2, obs, if_neg n0]
   have hw : wrap64 (wrap64 (r * 256) + r2) = r * 256 + r2 := by
    rw [w64 (x := r * 256) (by omega) (by omega), w64 (by omega) (by omega)]
   refine ⟨_, p + 1 + 1, q2, rfl, ?_, by omega, by omega⟩
   simp only
   rw [hw]
   exact tmod_lt (by omega) hn
  ·
   rw [if_neg d, if_neg n0]
   exact ⟨_, p + 1, q, rfl, tmod_lt b1 hn, by omega, by omega⟩
theorem one_ok {c : List Int} (hc : ∀ x, x ∈ c → 0 ≤ x ∧ x ≤ 255) {p : Int} (h0 : 0 ≤ p) (h1 : p ≤ 900000000) (s : Int) {n : Int} (hn : 0 < n) :
  ∃ b p1 q, spec_l1Cur_one.f c p s n = some (b, p1, q) ∧ p ≤ p1 ∧ p1 ≤ p + 2 := by
 obtain ⟨r, p1, q, e, _, a1, a2⟩ := pick_ok hc h0 h1 s hn
 unfold spec_l1Cur_one.f
 rw [e, obs]
 exact ⟨_, p1, q, rfl, a1, a2⟩
theorem among_ok {c : List Int} (hc : ∀ x, x ∈ c → 0 ≤ x ∧ x ≤ 255) {p : Int} (h0 : 0 ≤ p) (h1 : p ≤ 900000000) (s : Int) {l : List Int} (hl : 0 < l.length) :
  ∃ r p1 q, spec_l1Cur_among.f c p s l = some (r, p1, q) ∧ r ∈ l ∧ p ≤ p1 ∧ p1 ≤ p + 2 := by
 obtain ⟨r, p1, q, e, b, a1, a2⟩ := pick_ok hc h0 h1 s (n := (l.length : Int)) (by omega)
 unfold spec_l1Cur_among.f
 rw [e, obs, if_pos b.1, if_pos b.2]
 exact ⟨_, p1, q, rfl, rdI_mem l b.1 b.2, a1, a2⟩
theorem of_ok {c : List Int} (hc : ∀ x, x ∈ c → 0 ≤ x ∧ x ≤ 255) {p : Int} (h0 : 0 ≤ p) (h1 : p ≤ 900000000) (s : Int) {l : List ByteArray} (hl : 0 < l.length) :
  ∃ r p1 q, spec_l1Cur_of.f c p s l = some (r, p1, q) ∧ r ∈ l ∧ p ≤ p1 ∧ p1 ≤ p + 2 := by
 obtain ⟨r, p1, q, e, b, a1, a2⟩ := pick_ok hc h0 h1 s (n := (l.length : Int)) (by omega)
 unfold spec_l1Cur_of.f
 rw [e, obs, if_pos b.1, if_pos b.2]
 exact ⟨_, p1, q, rfl, rdB_mem l b.1 b.2, a1, a2⟩
end Go.Proofs.YtdpinnhgkocjhaaDoor.Pr.Pure

namespace Go.Proofs.YtdpinnhgkocjhaaDoor.Pr
open Go.RowKit Go.Proofs.YtdpinnhgkocjhaaDoorW.PrintWords Go.Proofs.YtdpinnhgkocjhaaDoorW.PrintLast Go.Proofs.YtdpinnhgkocjhaaDoorW.PrintMore
attribute [local go_sem] max2_int min2_int max_two min_two max_three min_three max_four min_four   -- for this text's walks alone
set_option linter.unusedVariables false
set_option linter.unusedSimpArgs false
def spec_IsValidLog.f (k : Nat) (a0_0 : ByteArray) (a0_1 : ByteArray) (a0_2 : Int) : Option (Bool) := (spec_l27Log.f k a0_0 a0_1 a0_2).bind fun t281 => (some t281)
end Go.Proofs.YtdpinnhgkocjhaaDoor.Pr

namespace Go.Proofs.YtdpinnhgkocjhaaDoor.Pr
open Go.RowKit Go.Proofs.YtdpinnhgkocjhaaDoorW.PrintWords Go.Proofs.YtdpinnhgkocjhaaDoorW.PrintLast Go.Proofs.YtdpinnhgkocjhaaDoorW.PrintMore
attribute [local go_sem] max2_int min2_int max_two min_two max_three min_three max_four min_four sc_in sx_in   -- for this text's walks alone
set_option linter.unusedVariables false
set_option linter.unusedSimpArgs false
def impl_AppendRecord.j0 : Nat → Bool → ByteArray → ByteArray → Int → ByteArray → ByteArray → Option (ByteArray × ByteArray × Int × Int)
 | 0, _, _, _, _, _, _ => none
 | k + 1, x6, x356000, x356001, x356002, x357000, x357001 => if x6 = true then (some (x356000, x356001, x356002, 1)) else (if x356002 = 60 then (some (x356000, x356001, x356002, 2)) else ((impl_encode.f k x356002 x357000 x357001).bind fun t360 => (if x356001.size + t360.size ≤ 9223372036854775807 then (some (x356000, sc x356001 t360, wrap64 (x356002 + 1), 0)) else (none))))
def impl_AppendRecord.f (k : Nat) (a0_0 : ByteArray) (a0_1 : ByteArray) (a0_2 : Int) (a1_0 : ByteArray) (a1_1 : ByteArray) : Option (ByteArray × ByteArray × Int × Int) := (impl_IsValidLog.f k a0_0 a0_1 a0_2).bind fun t358 => (if t358 = true then ((impl_IsValidRecord.f k a1_0 a1_1).bind fun t359 => (impl_AppendRecord.j0 k (!t359) a0_0 a0_1 a0_2 a1_0 a1_1)) else (impl_AppendRecord.j0 k true a0_0 a0_1 a0_2 a1_0 a1_1))
end Go.Proofs.YtdpinnhgkocjhaaDoor.Pr

namespace Go.Proofs.YtdpinnhgkocjhaaDoor.Log
open Go.Lib
set_option linter.unusedVariables false
theorem digit_mem (u : Nat) : ∀ b ∈ decDigits u, 48 ≤ b.toNat ∧ b.toNat ≤ 57 := by
 induction u using Nat.strongRecOn with
 | _ u ih =>
  intro b hb
  by_cases h : u < 10
  ·
   rw [decDigits, dif_pos h] at hb
   obtain rfl := List.mem_singleton.1 hb
   simp
   omega
  ·
   rw [decDigits, dif_neg h] at hb
   rcases List.mem_append.1 hb with hb | hb
   ·
    exact ih _ (by omega) b hb
   ·
    obtain rfl := List.mem_singleton.1 hb
    simp
    omega
theorem digits_len_aux (j : Nat) : ∀ u : Nat, u < 10 ^ (j + 1) → (decDigits u).length ≤ j + 1 := by
 induction j with
 | zero =>
  intro u h
  rw [decDigits, dif_pos (by omega)]
  simp
 | succ j ih =>
  intro u h
  by_cases h1 : u < 10
  ·
   rw [decDigits, dif_pos h1]
   simp
  ·
   rw [decDigits, dif_neg h1]
   have : u / 10 < 10 ^ (j + 1) := by
    rw [Nat.pow_succ] at h
    omega
   have := ih _ this
   simp
   omega
abbrev B := List UInt8
def upto (c : UInt8) : B → B
 | [] => []
 | x :: l => if x = c then [] else x :: upto c l
def after (c : UInt8) : B → B
 | [] => []
 | x :: l => if x = c then l else after c l
theorem upto_app {c : UInt8} : ∀ {l : B} (r : B), c ∉ l → upto c (l ++ c :: r) = l
 | [], r, _ => by simp [upto]
 | x :: l, r, h => by
  have h1 : x ≠ c := fun e => h (by simp [e])
  have h2 : c ∉ l := fun e => h (by simp [e])
  simp [upto, h1, upto_app r h2]
theorem after_app {c : UInt8} : ∀ {l : B} (r : B), c ∉ l → after c (l ++ c :: r) = r
 | [], r, _ => by simp [after]
 | x :: l, r, h => by
  have h1 : x ≠ c := fun e => h (by simp [e])
  have h2 : c ∉ l := fun e => h (by simp [e])
  simp [after, h1, after_app r h2]
theorem upto_none {c : UInt8} : ∀ {l : B}, c ∉ l → upto c l = l
 | [], _ => rfl
 | x :: l, h => by
  have h1 : x ≠ c := fun e => h (by simp [e])
  have h2 : c ∉ l := fun e => h (by simp [e])
  simp [upto, h1, upto_none h2]
theorem after_none {c : UInt8} : ∀ {l : B}, c ∉ l → after c l = []
 | [], _ => rfl
 | x :: l, h => by
  have h1 : x ≠ c := fun e => h (by simp [e])
  have h2 : c ∉ l := fun e => h (by simp [e])
  simp [after, h1, after_none h2]
theorem cut_at {c : UInt8} : ∀ {l : B}, c ∈ l → l = upto c l ++ c :: after c l
 | [], h => by simp at h
 | x :: l, h => by
  by_cases e : x = c
  ·
   simp [upto, after, e]
  ·
   have h2 : c ∈ l := by
    rcases List.mem_cons.1 h with h | h
    ·
     exact absurd h.symm e
    ·
     exact h
   have := cut_at h2
   simp only [upto, after, e, if_false, List.cons_append]
   rw [← this]
theorem upto_len {c : UInt8} : ∀ (l : B), (upto c l).length ≤ l.length
 | [] => by simp [upto]
 | x :: l => by
  by_cases e : x = c
  ·
   simp [upto, e]
  ·
   simp only [upto, e, if_false, List.length_cons]
   have := upto_len (c := c) l
   omega
theorem upto_lt {c : UInt8} {l : B} (h : c ∈ l) : (upto c l).length < l.length := by
 have := congrArg List.length (cut_at h)
 simp at this
 omega
theorem upto_take (c : UInt8) : ∀ (l : B), upto c l = l.take (upto c l).length
 | [] => by simp [upto]
 | x :: l => by
  by_cases e : x = c
  ·
   simp [upto, e]
  ·
   simp only [upto, e, if_false, List.length_cons, List.take_succ_cons]
   rw [← upto_take c l]
theorem after_drop (c : UInt8) {l : B} (h : c ∈ l) : after c l = l.drop ((upto c l).length + 1) := by
 have e := cut_at h
 generalize upto c l = u at e ⊢
 generalize after c l = v at e ⊢
 subst e
 simp
theorem index_some {c : UInt8} : ∀ {l : B}, c ∈ l → indexByte l c = ((upto c l).length : Int)
 | [], h => by simp at h
 | x :: l, h => by
  by_cases e : x = c
  ·
   simp [upto, e, indexByte]
  ·
   have h2 : c ∈ l := by
    rcases List.mem_cons.1 h with h | h
    ·
     exact absurd h.symm e
    ·
     exact h
   have ih := index_some h2
   have hb : (x == c) = false := by simpa using e
   have hn : (indexByte l c == -1) = false := by
    rw [ih, beq_eq_false_iff_ne]
    omega
   simp only [indexByte, hb, hn, upto, e, if_false, List.length_cons, Bool.false_eq_true]
   rw [ih]
   omega
theorem index_none {c : UInt8} : ∀ {l : B}, c ∉ l → indexByte l c = -1
 | [], _ => rfl
 | x :: l, h => by
  have h1 : x ≠ c := fun e => h (by simp [e])
  have h2 : c ∉ l := fun e => h (by simp [e])
  have hb : (x == c) = false := by simpa using h1
  simp [indexByte, hb, index_none h2]
def sum (l : B) : Nat := l.foldl (fun n b => (41 * n + b.toNat + 1) % 999979) 7
theorem sum_fold_lt (l : B) : ∀ n, n < 999979 → l.foldl (fun n b => (41 * n + b.toNat + 1) % 999979) n < 999979 := by
 induction l with
 | nil => intro n h; exact h
 | cons x l ih => intro n h; exact ih _ (Nat.mod_lt _ (by omega))
theorem sum_lt (l : B) : sum l < 999979 := sum_fold_lt l 7 (by omega)
def Plain (l : B) : Prop := ∀ b ∈ l, 32 ≤ b.toNat ∧ b.toNat ≤ 126 ∧ b ≠ 35
instance (l : B) : Decidable (Plain l) := inferInstanceAs (Decidable (∀ b ∈ l, 32 ≤ b.toNat ∧ b.toNat ≤ 126 ∧ b ≠ 35))
def Ok (c r : B) : Prop := 1 ≤ c.length ∧ c.length ≤ 160 ∧ Plain c ∧ (64 : UInt8) ∉ c ∧ r.length ≤ 200 ∧ Plain r
instance (c r : B) : Decidable (Ok c r) := inferInstanceAs (Decidable (_ ∧ _))
def body (k : Nat) (c r : B) : B := decDigits k ++ 32 :: (c ++ 64 :: r)
def line (k : Nat) (c r : B) : B := body k c r ++ 35 :: decDigits (sum (body k c r))
def enc (k : Nat) (c r : B) : B := line k c r ++ [10]
theorem body_no {k : Nat} {c r : B} (h : Ok c r) (x : UInt8) (hx : x = 10 ∨ x = 35) : x ∉ body k c r := by
 intro hm
 rcases List.mem_append.1 hm with hm | hm
 ·
  have := digit_mem k x hm
  rcases hx with rfl | rfl
  ·
   exact absurd this.1 (by decide)
  ·
   exact absurd this.1 (by decide)
 ·
  rcases List.mem_cons.1 hm with hm | hm
  ·
   rcases hx with rfl | rfl <;> exact absurd hm (by decide)
  ·
   rcases List.mem_append.1 hm with hm | hm
   ·
    have := h.2.2.1 x hm
    rcases hx with rfl | rfl
    ·
     exact absurd this.1 (by decide)
    ·
     exact this.2.2 rfl
   ·
    rcases List.mem_cons.1 hm with hm | hm
    ·
     rcases hx with rfl | rfl <;> exact absurd hm (by decide)
    ·
     have := h.2.2.2.2.2 x hm
     rcases hx with rfl | rfl
     ·
      exact absurd this.1 (by decide)
     ·
      exact this.2.2 rfl
theorem line_no {k : Nat} {c r : B} (h : Ok c r) : (10 : UInt8) ∉ line k c r := by
 intro hm
 rcases List.mem_append.1 hm with hm | hm
 ·
  exact body_no h 10 (.inl rfl) hm
 ·
  rcases List.mem_cons.1 hm with hm | hm
  ·
   exact absurd hm (by decide)
  ·
   exact absurd (digit_mem _ _ hm).1 (by decide)
theorem dig_no (k : Nat) (x : UInt8) (h : x.toNat < 48) : x ∉ decDigits k := fun hm => by
 have := (digit_mem _ _ hm).1
 omega
theorem line_text {k : Nat} {c r : B} (h : Ok c r) : upto 35 (line k c r) = body k c r := upto_app _ (body_no h 35 (.inr rfl))
theorem body_rest {k : Nat} {c r : B} : after 32 (body k c r) = c ++ 64 :: r := after_app _ (dig_no k 32 (by decide))
theorem rest_cmd {c r : B} (h : Ok c r) : upto 64 (c ++ 64 :: r) = c := upto_app _ h.2.2.2.1
theorem rest_rep {c r : B} (h : Ok c r) : after 64 (c ++ 64 :: r) = r := after_app _ h.2.2.2.1
theorem body_len (k : Nat) (c r : B) : (body k c r).length = (decDigits k).length + 2 + c.length + r.length := by
 simp [body]
 omega
theorem enc_len {k : Nat} {c r : B} (hk : k < 60) (h : Ok c r) : (enc k c r).length ≤ 372 ∧ 1 ≤ (enc k c r).length := by
 have h1 := digits_len_aux 1 k (by omega)
 have h2 := digits_len_aux 5 (sum (body k c r)) (by have := sum_lt (body k c r); omega)
 have h3 := h.2.1
 have h4 := h.2.2.2.2.1
 have := body_len k c r
 simp only [enc, line, List.length_append, List.length_cons, List.length_nil]
 omega
def dec (k : Nat) (s : B) : Option (B × B × Nat) :=
 if (10 : UInt8) ∈ s ∧ k < 60 ∧ Ok (upto 64 (after 32 (upto 35 (upto 10 s)))) (after 64 (after 32 (upto 35 (upto 10 s)))) ∧
   enc k (upto 64 (after 32 (upto 35 (upto 10 s)))) (after 64 (after 32 (upto 35 (upto 10 s)))) = upto 10 s ++ [10]
 then some (upto 64 (after 32 (upto 35 (upto 10 s))), after 64 (after 32 (upto 35 (upto 10 s))), (upto 10 s).length + 1) else none
theorem dec_some {k : Nat} {s c r : B} {n : Nat} : dec k s = some (c, r, n) ↔ k < 60 ∧ Ok c r ∧ enc k c r <+: s ∧ n = (enc k c r).length := by
 unfold dec
 constructor
 ·
  intro h
  split at h
  ·
   rename_i hc
   obtain ⟨h1, h2, h3, h4⟩ := hc
   simp only [Option.some.injEq, Prod.mk.injEq] at h
   obtain ⟨rfl, rfl, rfl⟩ := h
   refine ⟨h2, h3, ?_, ?_⟩
   ·
    rw [h4]
    refine ⟨after 10 s, ?_⟩
    rw [List.append_assoc, List.singleton_append, ← cut_at h1]
   ·
    rw [h4]
    simp
  ·
   cases h
 ·
  rintro ⟨h1, h2, ⟨t, ht⟩, rfl⟩
  have e : s = line k c r ++ 10 :: t := by rw [← ht]; simp [enc]
  have hu : upto 10 s = line k c r := by rw [e]; exact upto_app _ (line_no h2)
  have hm : (10 : UInt8) ∈ s := by rw [e]; simp
  rw [hu, line_text h2, body_rest, rest_cmd h2, rest_rep h2, if_pos ⟨hm, h1, h2, rfl⟩]
  simp [enc]
theorem dec_le {k : Nat} {s c r : B} {n : Nat} (h : dec k s = some (c, r, n)) : n ≤ s.length ∧ 1 ≤ n ∧ n ≤ 372 := by
 obtain ⟨h1, h2, h3, rfl⟩ := dec_some.1 h
 have := enc_len h1 h2
 exact ⟨h3.length_le, this.2, this.1⟩
theorem dec_app {k : Nat} {s : B} {x : B × B × Nat} (t : B) (h : dec k s = some x) : dec k (s ++ t) = some x := by
 obtain ⟨c, r, n⟩ := x
 obtain ⟨h1, h2, h3, h4⟩ := dec_some.1 h
 exact dec_some.2 ⟨h1, h2, h3.trans (List.prefix_append _ _), h4⟩
theorem dec_cut {k : Nat} {s : B} {x : B × B × Nat} {m : Nat} (h : dec k s = some x) (hm : x.2.2 ≤ m) : dec k (s.take m) = some x := by
 obtain ⟨c, r, n⟩ := x
 obtain ⟨h1, h2, h3, rfl⟩ := dec_some.1 h
 exact dec_some.2 ⟨h1, h2, List.prefix_take_iff.2 ⟨h3, hm⟩, rfl⟩
theorem dec_nil (k : Nat) : dec k [] = none := by simp [dec]
def all : Nat → Nat → B → List (B × B × Nat)
 | 0, _, _ => []
 | m + 1, k, s => match dec k s with
  | none => []
  | some x => x :: all m (k + 1) (s.drop x.2.2)
def tot (l : List (B × B × Nat)) : Nat := (l.map (·.2.2)).sum
theorem all_nil (m k : Nat) : all m k [] = [] := by
 cases m with
 | zero => rfl
 | succ m => simp [all, dec_nil]
theorem all_none {m k : Nat} {s : B} (h : dec k s = none) : all m k s = [] := by
 cases m with
 | zero => rfl
 | succ m => simp [all, h]
theorem all_some {m k : Nat} {s : B} {x : B × B × Nat} (h : dec k s = some x) : all (m + 1) k s = x :: all m (k + 1) (s.drop x.2.2) := by simp [all, h]
theorem tot_cons (x : B × B × Nat) (l : List (B × B × Nat)) : tot (x :: l) = x.2.2 + tot l := by simp [tot]
theorem all_len (m : Nat) : ∀ (k : Nat) (s : B), (all m k s).length ≤ m := by
 induction m with
 | zero => intro k s; simp [all]
 | succ m ih =>
  intro k s
  cases h : dec k s with
  | none => rw [all_none h]; simp
  | some x => rw [all_some h]; simp; exact ih _ _
theorem all_tot (m : Nat) : ∀ (k : Nat) (s : B), tot (all m k s) ≤ s.length := by
 induction m with
 | zero => intro k s; simp [all, tot]
 | succ m ih =>
  intro k s
  cases h : dec k s with
  | none => rw [all_none h]; simp [tot]
  | some x =>
   obtain ⟨c, r, n⟩ := x
   have h1 := (dec_le h).1
   have := ih (k + 1) (s.drop n)
   rw [all_some h, tot_cons]
   rw [List.length_drop] at this
   simp only
   omega
theorem all_tot372 (m : Nat) : ∀ (k : Nat) (s : B), tot (all m k s) ≤ 372 * m := by
 induction m with
 | zero => intro k s; simp [all, tot]
 | succ m ih =>
  intro k s
  cases h : dec k s with
  | none => rw [all_none h]; simp [tot]
  | some x =>
   obtain ⟨c, r, n⟩ := x
   have h1 := (dec_le h).2.2
   have := ih (k + 1) (s.drop n)
   rw [all_some h, tot_cons]
   simp only
   omega
theorem all_one {m k : Nat} {c r : B} (hk : k < 60) (h : Ok c r) : all (m + 1) k (enc k c r) = [(c, r, (enc k c r).length)] := by
 have hd : dec k (enc k c r) = some (c, r, (enc k c r).length) := dec_some.2 ⟨hk, h, List.prefix_refl _, rfl⟩
 rw [all_some hd]
 simp [all_nil]
theorem ends_iff (m : Nat) : ∀ (k : Nat) (D P : B), (∃ j, j ≤ (all m k (D ++ P)).length ∧ tot ((all m k (D ++ P)).take j) = D.length) ↔ tot (all m k D) = D.length := by
 induction m with
 | zero => intro k D P; simp [all, tot]
 | succ m ih =>
  intro k D P
  by_cases h0 : D = []
  ·
   subst h0
   simp only [List.length_nil, all_nil]
   exact ⟨fun _ => rfl, fun _ => ⟨0, Nat.zero_le _, rfl⟩⟩
  have hD : 0 < D.length := List.length_pos_iff.2 h0
  have none_D : dec k D = none → ¬ tot (all (m + 1) k D) = D.length := fun h e => by
   rw [all_none h] at e
   simp [tot] at e
   omega
  cases hs : dec k (D ++ P) with
  | none =>
   have hd : dec k D = none := by
    cases hd : dec k D with
    | none => rfl
    | some x => rw [dec_app P hd] at hs; cases hs
   rw [all_none hs]
   refine ⟨?_, fun e => absurd e (none_D hd)⟩
   rintro ⟨j, hj, e⟩
   simp [tot] at e
   omega
  | some x =>
   obtain ⟨c, r, n⟩ := x
   have hn := dec_le hs
   rw [all_some hs]
   by_cases hc : n ≤ D.length
   ·
    have hd : dec k D = some (c, r, n) := by
     have := dec_cut (m := D.length) hs hc
     rwa [List.take_left] at this
    rw [all_some hd, tot_cons]
    simp only
    have e := ih (k + 1) (D.drop n) P
    rw [← List.drop_append_of_le_length hc] at e
    constructor
    ·
     rintro ⟨j, hj, h⟩
     cases j with
     | zero => simp [tot] at h; omega
     | succ j =>
      rw [List.take_succ_cons, tot_cons] at h
      simp only at h
      have := e.1 ⟨j, by simpa using hj, by rw [List.length_drop]; omega⟩
      rw [List.length_drop] at this
      omega
    ·
     intro h
     obtain ⟨j, hj, h'⟩ := e.2 (by rw [List.length_drop]; omega)
     rw [List.length_drop] at h'
     refine ⟨j + 1, by simpa using hj, ?_⟩
     rw [List.take_succ_cons, tot_cons]
     simp only
     omega
   ·
    have hd : dec k D = none := by
     cases hd : dec k D with
     | none => rfl
     | some x =>
      obtain ⟨c', r', n'⟩ := x
      rw [dec_app P hd] at hs
      have := dec_le hd
      simp only [Option.some.injEq, Prod.mk.injEq] at hs
      omega
    refine ⟨?_, fun e => absurd e (none_D hd)⟩
    rintro ⟨j, hj, h⟩
    cases j with
    | zero => simp [tot] at h; omega
    | succ j =>
     rw [List.take_succ_cons, tot_cons] at h
     simp only at h
     omega
end Go.Proofs.YtdpinnhgkocjhaaDoor.Log

namespace Go.Proofs.YtdpinnhgkocjhaaDoor.Pr.Pure
open Go.RowKit Go.Proofs.YtdpinnhgkocjhaaDoorW.PrintWords Go.Proofs.YtdpinnhgkocjhaaDoorW.PrintLast Go.Proofs.YtdpinnhgkocjhaaDoorW.PrintMore Go.Proofs.YtdpinnhgkocjhaaDoor.Log Go.Lib
set_option linter.unusedVariables false
set_option linter.unusedSimpArgs false
theorem plain_nil : Plain [] := fun b h => by simp at h
theorem plain_cons (x : UInt8) (l : List UInt8) : Plain (x :: l) ↔ (32 ≤ x.toNat ∧ x.toNat ≤ 126 ∧ x ≠ 35) ∧ Plain l := by simp [Plain]
theorem isPlain_l0 (l : List UInt8) (hl : l.length ≤ 4611686018427387904) (d : Nat) : ∀ (k i : Nat), i + d = l.length → d < k → impl_isPlain.l0 k (M l) l.length i = some (decide (Plain (l.drop i))) := by
 induction d with
 | zero =>
  intro k i hd hk
  obtain ⟨k, rfl⟩ : ∃ m, k = m + 1 := ⟨k - 1, by omega⟩
  simp only [impl_isPlain.l0]
  rw [if_neg (by omega), List.drop_of_length_le (by omega)]
  simp [plain_nil]
 | succ d ih =>
  intro k i hd hk
  obtain ⟨k, rfl⟩ : ∃ m, k = m + 1 := ⟨k - 1, by omega⟩
  simp only [impl_isPlain.l0]
  rw [if_pos (by omega), if_pos (by omega), if_pos (by rw [M_size]; omega), bt_M, drop_at l i (by omega)]
  generalize l.getD i 0 = x
  have hx := byte_rng x
  rw [w64 (by omega) (by omega), w64 (by omega) (by omega), within_eq]
  simp only [Option.bind_some, decide_eq_true_eq]
  have ih' := ih k (i + 1) (by omega) (by omega)
  rw [show ((i + 1 : Nat) : Int) = (i : Int) + 1 by omega] at ih'
  by_cases h1 : (32 : Int) ≤ x.toNat ∧ (x.toNat : Int) ≤ 126
  ·
   rw [if_pos h1]
   by_cases h2 : (x.toNat : Int) = 35
   ·
    rw [if_pos h2]
    have : x = 35 := (byte_eq x 35 (by omega)).1 h2
    subst this
    simp [plain_cons]
   ·
    rw [if_neg h2, ih']
    have h3 : x ≠ 35 := fun e => h2 (by rw [e]; rfl)
    have : (Plain (x :: l.drop (i + 1)) ↔ Plain (l.drop (i + 1))) := by
     rw [plain_cons]
     exact ⟨fun h => h.2, fun h => ⟨⟨by omega, by omega, h3⟩, h⟩⟩
    simp [this]
  ·
   rw [if_neg h1]
   have : ¬ Plain (x :: l.drop (i + 1)) := by
    rw [plain_cons]
    rintro ⟨⟨a, b, _⟩, _⟩
    exact h1 ⟨by omega, by omega⟩
   simp [this]
theorem isPlain_eq (l : List UInt8) (hl : l.length ≤ 4611686018427387904) {k : Nat} (hk : l.length < k) : impl_isPlain.f k (M l) = some (decide (Plain l)) := by
 unfold impl_isPlain.f
 rw [M_size]
 simpa using isPlain_l0 l hl l.length k 0 (by omega) hk
theorem plain_l0 (l : List UInt8) (m : Int) (hl : l.length ≤ 4611686018427387904) (d : Nat) : ∀ (k i : Nat), i + d = l.length → d < k → spec_l27Plain.l0 k (M l) m i = some (decide (Plain (l.drop i) ∧ (l.length : Int) ≤ m)) := by
 induction d with
 | zero =>
  intro k i hd hk
  obtain ⟨k, rfl⟩ : ∃ m, k = m + 1 := ⟨k - 1, by omega⟩
  simp only [spec_l27Plain.l0]
  rw [M_size, if_neg (by omega), List.drop_of_length_le (by omega)]
  simp [plain_nil]
 | succ d ih =>
  intro k i hd hk
  obtain ⟨k, rfl⟩ : ∃ m, k = m + 1 := ⟨k - 1, by omega⟩
  simp only [spec_l27Plain.l0]
  rw [M_size, if_pos (by omega), if_pos (by omega), bt_M, drop_at l i (by omega)]
  generalize l.getD i 0 = x
  have hx := byte_rng x
  rw [w64 (by omega) (by omega), w64 (by omega) (by omega), l1In_eq]
  simp only [Option.bind_some, decide_eq_true_eq]
  have ih' := ih k (i + 1) (by omega) (by omega)
  rw [show ((i + 1 : Nat) : Int) = (i : Int) + 1 by omega] at ih'
  by_cases h1 : (32 : Int) ≤ x.toNat ∧ (x.toNat : Int) ≤ 126
  ·
   rw [if_pos h1]
   by_cases h2 : (x.toNat : Int) = 35
   ·
    rw [if_pos h2]
    have : x = 35 := (byte_eq x 35 (by omega)).1 h2
    subst this
    simp [plain_cons]
   ·
    rw [if_neg h2, ih']
    have h3 : x ≠ 35 := fun e => h2 (by rw [e]; rfl)
    have : (Plain (x :: l.drop (i + 1)) ↔ Plain (l.drop (i + 1))) := by
     rw [plain_cons]
     exact ⟨fun h => h.2, fun h => ⟨⟨by omega, by omega, h3⟩, h⟩⟩
    simp [this]
  ·
   rw [if_neg h1]
   have : ¬ Plain (x :: l.drop (i + 1)) := by
    rw [plain_cons]
    rintro ⟨⟨a, b, _⟩, _⟩
    exact h1 ⟨by omega, by omega⟩
   simp [this]
theorem plain_eq (l : List UInt8) (m : Int) (hl : l.length ≤ 4611686018427387904) {k : Nat} (hk : l.length < k) : spec_l27Plain.f k (M l) m = some (decide (Plain l ∧ (l.length : Int) ≤ m)) := by
 unfold spec_l27Plain.f
 simpa using plain_l0 l m hl l.length k 0 (by omega) hk
theorem stands_l0 (l : List UInt8) (c : Nat) (hc : c < 256) (hl : l.length ≤ 4611686018427387904) (d : Nat) : ∀ (k i : Nat), i + d = l.length → d < k → spec_l1Stands.l0 k (M l) c i = some (decide (UInt8.ofNat c ∈ l.drop i)) := by
 induction d with
 | zero =>
  intro k i hd hk
  obtain ⟨k, rfl⟩ : ∃ m, k = m + 1 := ⟨k - 1, by omega⟩
  simp only [spec_l1Stands.l0]
  rw [M_size, if_neg (by omega), List.drop_of_length_le (by omega)]
  simp
 | succ d ih =>
  intro k i hd hk
  obtain ⟨k, rfl⟩ : ∃ m, k = m + 1 := ⟨k - 1, by omega⟩
  simp only [spec_l1Stands.l0]
  rw [M_size, if_pos (by omega), if_pos (by omega), bt_M, drop_at l i (by omega)]
  generalize l.getD i 0 = x
  rw [w64 (by omega) (by omega)]
  have ih' := ih k (i + 1) (by omega) (by omega)
  rw [show ((i + 1 : Nat) : Int) = (i : Int) + 1 by omega] at ih'
  by_cases h1 : (x.toNat : Int) = (c : Int)
  ·
   rw [if_pos h1]
   have : UInt8.ofNat c = x := ((byte_eq x c hc).1 h1).symm
   simp [this]
  ·
   rw [if_neg h1, ih']
   have : ¬ UInt8.ofNat c = x := fun e => h1 ((byte_eq x c hc).2 e.symm)
   simp [this]
theorem stands_eq (l : List UInt8) (c : Nat) (hc : c < 256) (hl : l.length ≤ 4611686018427387904) {k : Nat} (hk : l.length < k) : spec_l1Stands.f k (M l) c = some (decide (UInt8.ofNat c ∈ l)) := by
 unfold spec_l1Stands.f
 simpa using stands_l0 l c hc hl l.length k 0 (by omega) hk
theorem index_eq (l : List UInt8) (c : UInt8) : stringslite_Index.f (M l) (M [c]) = some (indexByte l c) := by
 unfold stringslite_Index.f
 rw [M_size, M_data, M_data]
 rfl
theorem contains_eq (l : List UInt8) (c : UInt8) : strings_Contains.f (M l) (M [c]) = some (decide (c ∈ l)) := by
 unfold strings_Contains.f strings_Index.f
 rw [index_eq]
 simp only [Option.bind_some]
 by_cases h : c ∈ l
 ·
  rw [index_some h]
  simp [h]
 ·
  rw [index_none h]
  simp [h]
theorem isRec_eq (c r : List UInt8) (hc : c.length ≤ 4611686018427387904) (hr : r.length ≤ 4611686018427387904) {k : Nat} (hk : c.length + r.length < k) : impl_IsValidRecord.f k (M c) (M r) = some (decide (Ok c r)) := by
 unfold impl_IsValidRecord.f impl_isCommand.f
 rw [within_eq, isPlain_eq c hc (by omega), isPlain_eq r hr (by omega), M_size, M_size, show (⟨#[64]⟩ : ByteArray) = M [64] from rfl, contains_eq]
 simp only [Option.bind_some, decide_eq_true_eq]
 by_cases h1 : (1 : Int) ≤ c.length ∧ (c.length : Int) ≤ 160
 ·
  rw [if_pos h1]
  have a1 : 1 ≤ c.length := by omega
  have a2 : c.length ≤ 160 := by omega
  by_cases h2 : Plain c
  ·
   rw [if_pos h2]
   simp only [Option.bind_some]
   by_cases h3 : (64 : UInt8) ∈ c
   ·
    rw [if_neg (by simp [h3])]
    exact dec_of ⟨fun h => by simp at h, fun h => absurd h3 h.2.2.2.1⟩
   ·
    rw [if_pos (by simp [h3])]
    by_cases h4 : (r.length : Int) ≤ 200
    ·
     rw [if_pos h4]
     exact dec_of ⟨fun h => ⟨a1, a2, h2, h3, by omega, of_decide_eq_true h⟩, fun h => decide_eq_true h.2.2.2.2.2⟩
    ·
     rw [if_neg h4]
     exact dec_of ⟨fun h => by simp at h, fun h => absurd h.2.2.2.2.1 (by omega)⟩
  ·
   rw [if_neg h2]
   simp only [Option.bind_some]
   rw [if_neg (by simp)]
   exact dec_of ⟨fun h => by simp at h, fun h => absurd h.2.2.1 h2⟩
 ·
  rw [if_neg h1]
  simp only [Option.bind_some]
  rw [if_neg (by simp)]
  exact dec_of ⟨fun h => by simp at h, fun h => absurd (And.intro h.1 h.2.1) (fun h => h1 ⟨by omega, by omega⟩)⟩
theorem good_eq (c r : List UInt8) (hc : c.length ≤ 4611686018427387904) (hr : r.length ≤ 4611686018427387904) {k : Nat} (hk : c.length + r.length < k) : spec_l27Good.f k (M c) (M r) = some (decide (Ok c r)) := by
 unfold spec_l27Good.f
 rw [M_toList, plain_eq c 160 hc (by omega), plain_eq r 200 hr (by omega), show (64 : Int) = ((64 : Nat) : Int) from rfl, stands_eq c 64 (by omega) hc (by omega)]
 simp only [Option.bind_some, decide_eq_true_eq]
 by_cases h1 : c = []
 ·
  rw [if_pos h1]
  exact dec_of ⟨fun h => by simp at h, fun h => absurd h.1 (by simp [h1])⟩
 ·
  rw [if_neg h1]
  have a1 : 1 ≤ c.length := by have := List.length_pos_iff.2 h1; omega
  by_cases h2 : Plain c ∧ (c.length : Int) ≤ 160
  ·
   rw [if_pos h2]
   have a2 : c.length ≤ 160 := by omega
   by_cases h3 : UInt8.ofNat 64 ∈ c
   ·
    rw [if_pos h3]
    exact dec_of ⟨fun h => by simp at h, fun h => absurd h3 h.2.2.2.1⟩
   ·
    rw [if_neg h3]
    refine dec_of ⟨fun h => ?_, fun h => decide_eq_true ⟨h.2.2.2.2.2, by have := h.2.2.2.2.1; omega⟩⟩
    have h := of_decide_eq_true h
    exact ⟨a1, a2, h2.1, h3, by omega, h.1⟩
  ·
   rw [if_neg h2]
   exact dec_of ⟨fun h => by simp at h, fun h => absurd (And.intro h.2.2.1 h.2.1) (fun h => h2 ⟨h.1, by omega⟩)⟩
theorem itoa_nat (n : Nat) : itoa (n : Int) = decDigits n := by
 unfold itoa
 rw [if_neg (by omega), Int.toNat_natCast]
theorem decimal_eq {a : Int} (h0 : -9223372036854775808 ≤ a) (h1 : a ≤ 9223372036854775807) : impl_decimal.f a = some (M (itoa a)) := by
 unfold impl_decimal.f strconv_Itoa_76.f
 rw [if_pos h0, if_pos h1]
 rfl
theorem dig_at (n : Nat) (h : n < 10) : (([48, 49, 50, 51, 52, 53, 54, 55, 56, 57] : List UInt8).drop n).take 1 = [UInt8.ofNat (48 + n)] := by
 match n, h with
 | 0, _ => rfl
 | 1, _ => rfl
 | 2, _ => rfl
 | 3, _ => rfl
 | 4, _ => rfl
 | 5, _ => rfl
 | 6, _ => rfl
 | 7, _ => rfl
 | 8, _ => rfl
 | 9, _ => rfl
theorem num_small (k n : Nat) (h : n < 10) : spec_l1Num.f (k + 1) (n : Int) = some (M (decDigits n)) := by
 rw [spec_l1Num.f, if_neg (by omega), if_pos (by omega), if_pos (by omega), w64 (by omega) (by omega), if_pos (by omega), if_pos (by omega), show (⟨#[48, 49, 50, 51, 52, 53, 54, 55, 56, 57]⟩ : ByteArray) = M [48, 49, 50, 51, 52, 53, 54, 55, 56, 57] from rfl, sx_M, show ((n : Int) + 1).toNat - (n : Int).toNat = 1 by omega, Int.toNat_natCast, dig_at n h, decDigits, dif_pos h]
theorem num_div (n : Nat) (hn : n ≤ 1000000000000000000) : wrap64 (Int.tdiv (n : Int) 10) = ((n / 10 : Nat) : Int) := by
  rw [Int.tdiv_eq_ediv_of_nonneg (by omega)]
  unfold wrap64
  omega
theorem num_mod (n : Nat) : Int.tmod (n : Int) 10 = ((n % 10 : Nat) : Int) := by
  rw [Int.tmod_eq_emod_of_nonneg (by omega)]
  omega
theorem num_app (n : Nat) (h10 : ¬ n < 10) : decDigits n = decDigits (n / 10) ++ [UInt8.ofNat (48 + n % 10)] := by
  conv => lhs; rw [decDigits, dif_neg h10]
theorem num_dig (q : Nat) (hm : q < 10) : sx (⟨#[48, 49, 50, 51, 52, 53, 54, 55, 56, 57]⟩ : ByteArray) ((q : Int).toNat) ((wrap64 ((q : Int) + 1) : Int).toNat) = M [UInt8.ofNat (48 + q)] := by
 rw [w64 (by omega) (by omega), show (⟨#[48, 49, 50, 51, 52, 53, 54, 55, 56, 57]⟩ : ByteArray) = M [48, 49, 50, 51, 52, 53, 54, 55, 56, 57] from rfl, sx_M, show ((q : Int) + 1).toNat - (q : Int).toNat = 1 by omega, Int.toNat_natCast, dig_at q hm]
theorem num_unf (k : Nat) (a0 : Int) (D d : ByteArray) (q : Int) (h : ¬ a0 < 0) (h2 : ¬ a0 < 10) (hq : Int.tmod a0 10 = q) (hb : spec_l1Num.f k (wrap64 (Int.tdiv a0 10)) = some D) (c1 : 0 ≤ q) (c2 : q ≤ wrap64 (q + 1)) (c3 : wrap64 (q + 1) ≤ 10)
  (hd : sx (⟨#[48, 49, 50, 51, 52, 53, 54, 55, 56, 57]⟩ : ByteArray) ((q : Int).toNat) ((wrap64 (q + 1) : Int).toNat) = d) (c4 : D.size + d.size ≤ 9223372036854775807) : spec_l1Num.f (k + 1) a0 = some (sc D d) := by
 subst hd
 subst hq
 rw [spec_l1Num.f, if_neg h, if_neg h2, hb, Option.bind_some, if_pos c1, if_pos c2, if_pos c3, if_pos c4]
theorem num_step (k n : Nat) (h10 : ¬ n < 10) (hn : n ≤ 1000000000000000000) (ih : spec_l1Num.f k ((n / 10 : Nat) : Int) = some (M (decDigits (n / 10)))) (hl : (decDigits (n / 10)).length ≤ 40) : spec_l1Num.f (k + 1) (n : Int) = some (M (decDigits n)) := by
 have hq : n % 10 < 10 := Nat.mod_lt _ (by omega)
 have hw : wrap64 (((n % 10 : Nat) : Int) + 1) = ((n % 10 : Nat) : Int) + 1 := w64 (by omega) (by omega)
 have := num_unf k n (M (decDigits (n / 10))) (M [UInt8.ofNat (48 + n % 10)]) ((n % 10 : Nat) : Int) (by omega) (by omega) (num_mod n) (by rw [num_div n hn]; exact ih) (by omega) (by rw [hw]; omega) (by rw [hw]; omega) (num_dig _ hq) (by rw [M_size, M_size]; simp only [List.length_cons, List.length_nil]; omega)
 rw [this, sc_M, ← num_app n h10]
theorem num_of {n k : Nat} (h : n ≤ 1000000000000000000) (hk : 20 ≤ k) : spec_l1Num.f k (n : Int) = some (M (decDigits n)) := by
 have all : ∀ (j k n : Nat), n ≤ 1000000000000000000 → n < 10 ^ (j + 1) → j ≤ 19 → j < k → spec_l1Num.f k (n : Int) = some (M (decDigits n)) := by
  intro j
  induction j with
  | zero =>
   intro k n h hj h19 hk
   obtain ⟨k, rfl⟩ : ∃ m, k = m + 1 := ⟨k - 1, by omega⟩
   exact num_small k n (by omega)
  | succ j ih =>
   intro k n h hj h19 hk
   obtain ⟨k, rfl⟩ : ∃ m, k = m + 1 := ⟨k - 1, by omega⟩
   by_cases h10 : n < 10
   ·
    exact num_small k n h10
   ·
    have hd : n / 10 < 10 ^ (j + 1) := by
     rw [Nat.pow_succ] at hj
     omega
    exact num_step k n h10 h (ih k (n / 10) (by omega) hd (by omega) (by omega)) (Nat.le_trans (digits_len_aux j (n / 10) hd) (by omega))
 exact all 19 k n h (Nat.lt_of_le_of_lt h (by decide)) (by omega) (by omega)
theorem cut_eq (l : List UInt8) (c : UInt8) (hl : l.length ≤ 4611686018427387904) : strings_Cut.f (M l) (M [c]) = some (M (upto c l), M (after c l), decide (c ∈ l)) := by
 unfold strings_Cut.f stringslite_Cut.f
 rw [index_eq]
 simp only [Option.bind_some]
 by_cases h : c ∈ l
 ·
  have hlt := upto_lt h
  rw [index_some h, M_size, M_size, w64 (by simp; omega) (by simp; omega), if_pos (by omega), if_pos (by omega), if_pos (by omega), if_pos (by first | omega | (simp; done) | (simp; omega)), if_pos (by first | omega | (simp; done) | (simp; omega))]
  simp only [Option.bind_some, sx_M, Option.some.injEq, Prod.mk.injEq, M_inj, h, decide_true, and_true]
  constructor
  ·
   rw [Int.toNat_natCast, List.drop_zero, Nat.sub_zero, ← upto_take]
  ·
   rw [after_drop c h, show (((upto c l).length : Int) + ([c].length : Nat)).toNat = (upto c l).length + 1 by (first | omega | (simp; done) | (simp; omega)), List.take_of_length_le (by first | omega | (simp; done) | (simp; omega))]
 ·
  rw [index_none h, if_neg (by omega)]
  simp only [Option.bind_some, Option.some.injEq, Prod.mk.injEq, h, decide_false, and_true, upto_none h, after_none h, true_and]
  rfl
theorem step_rng (n : Nat) (x : UInt8) (h : n < 999979) : Int.tmod (wrap64 (wrap64 (wrap64 (41 * (n : Int)) + wrap64 (x.toNat : Int)) + 1)) 999979 = (((41 * n + x.toNat + 1) % 999979 : Nat) : Int) := by
 have hx := byte_rng x
 rw [w64 (x := 41 * (n : Int)) (by omega) (by omega), w64 (x := (x.toNat : Int)) (by omega) (by omega), w64 (x := 41 * (n : Int) + x.toNat) (by omega) (by omega), w64 (by omega) (by omega)]
 rw [Int.tmod_eq_emod_of_nonneg (by omega)]
 omega
theorem checksum_l0 (l : List UInt8) (hl : l.length ≤ 4611686018427387904) (d : Nat) : ∀ (k i n : Nat), n < 999979 → i + d = l.length → d < k →
  impl_checksum.l0 k (M l) n l.length i = some (((l.drop i).foldl (fun n b => (41 * n + b.toNat + 1) % 999979) n : Nat) : Int) ∧
  spec_l1Sum.l0 k (M l) n i = some (((l.drop i).foldl (fun n b => (41 * n + b.toNat + 1) % 999979) n : Nat) : Int) := by
 induction d with
 | zero =>
  intro k i n hn hd hk
  obtain ⟨k, rfl⟩ : ∃ m, k = m + 1 := ⟨k - 1, by omega⟩
  simp only [impl_checksum.l0, spec_l1Sum.l0]
  rw [M_size, if_neg (by omega), if_neg (by omega), List.drop_of_length_le (by omega)]
  simp
 | succ d ih =>
  intro k i n hn hd hk
  obtain ⟨k, rfl⟩ : ∃ m, k = m + 1 := ⟨k - 1, by omega⟩
  simp only [impl_checksum.l0, spec_l1Sum.l0]
  rw [M_size, if_pos (by omega), if_pos (by omega), if_pos (by omega), if_pos (by omega), if_pos (by omega), bt_M, drop_at l i (by omega)]
  generalize l.getD i 0 = x
  rw [step_rng n x hn, w64 (x := (i : Int) + 1) (by omega) (by omega)]
  have := ih k (i + 1) ((41 * n + x.toNat + 1) % 999979) (Nat.mod_lt _ (by omega)) (by omega) (by omega)
  rw [show ((i + 1 : Nat) : Int) = (i : Int) + 1 by omega] at this
  exact this
theorem checksum_eq (l : List UInt8) (hl : l.length ≤ 4611686018427387904) {k : Nat} (hk : l.length < k) : impl_checksum.f k (M l) = some ((sum l : Nat) : Int) ∧ spec_l1Sum.f k (M l) = some ((sum l : Nat) : Int) := by
 unfold impl_checksum.f spec_l1Sum.f sum
 rw [M_size]
 simpa using checksum_l0 l hl l.length k 0 7 (by omega) (by omega) hk
theorem encode_eq {a k : Nat} (ha : a ≤ 1000000000000000000) (c r : List UInt8) (hc : c.length ≤ 1152921504606846976) (hr : r.length ≤ 1152921504606846976) (hk : c.length + r.length + 60 < k) : impl_encode.f k a (M c) (M r) = some (M (enc a c r)) := by
 have hd := digits_len_aux 19 a (by omega)
 have hb := body_len a c r
 have hs := sum_lt (body a c r)
 have hd2 := digits_len_aux 5 (sum (body a c r)) (by omega)
 unfold impl_encode.f
 rw [decimal_eq (by omega) (by omega), itoa_nat]
 simp only [Option.bind_some, show (⟨#[32]⟩ : ByteArray) = M [32] from rfl, show (⟨#[64]⟩ : ByteArray) = M [64] from rfl, show (⟨#[35]⟩ : ByteArray) = M [35] from rfl, show (⟨#[10]⟩ : ByteArray) = M [10] from rfl, sc_M, M_size]
 have e : decDigits a ++ [32] ++ c ++ [64] ++ r = body a c r := by simp [body]
 rw [e]
 have hks : (body a c r).length < k := by omega
 rw [(checksum_eq (body a c r) (by omega) hks).1]
 simp only [Option.bind_some]
 rw [decimal_eq (by omega) (by omega), itoa_nat]
 simp only [Option.bind_some, sc_M, M_size]
 rw [if_pos (by omega), if_pos (by simp; omega), if_pos (by simp; omega), if_pos (by simp; omega), if_pos (by omega), if_pos (by simp; omega), if_pos (by simp; omega)]
 simp [enc, line]
theorem line_eq {a k : Nat} (ha : a ≤ 1000000000000000000) (c r : List UInt8) (hc : c.length ≤ 1152921504606846976) (hr : r.length ≤ 1152921504606846976) (hk : c.length + r.length + 60 < k) : spec_l27Line.f k a (M c) (M r) = some (M (enc a c r)) := by
 have hd := digits_len_aux 19 a (by omega)
 have hb := body_len a c r
 have hs := sum_lt (body a c r)
 have hd2 := digits_len_aux 5 (sum (body a c r)) (by omega)
 unfold spec_l27Line.f
 rw [num_of ha (by omega)]
 simp only [Option.bind_some, show (⟨#[32]⟩ : ByteArray) = M [32] from rfl, show (⟨#[64]⟩ : ByteArray) = M [64] from rfl, show (⟨#[10]⟩ : ByteArray) = M [10] from rfl, sc_M, M_size]
 have e : decDigits a ++ [32] ++ c ++ [64] ++ r = body a c r := by simp [body]
 rw [e]
 have hks : (body a c r).length < k := by omega
 have hseal : spec_l1Seal.f k (M (body a c r)) = some (M (line a c r)) := by
  unfold spec_l1Seal.f
  rw [(checksum_eq (body a c r) (by omega) hks).2]
  simp only [Option.bind_some]
  rw [num_of (by omega) (by omega)]
  simp only [Option.bind_some, show (⟨#[35]⟩ : ByteArray) = M [35] from rfl, sc_M, M_size]
  rw [if_pos (by omega), if_pos (by simp; omega)]
  simp [line]
 rw [hseal]
 simp only [Option.bind_some, sc_M, M_size]
 have hll : (line a c r).length = (body a c r).length + 1 + (decDigits (sum (body a c r))).length := by simp [line]; omega
 rw [if_pos (by omega), if_pos (by simp; omega), if_pos (by simp; omega), if_pos (by simp; omega), if_pos (by omega)]
 rfl
def pieces (c : UInt8) : List UInt8 → List (List UInt8)
 | [] => [[]]
 | x :: l => if x = c then [] :: pieces c l else match pieces c l with
  | [] => [[x]]
  | p :: ps => (x :: p) :: ps
theorem pieces_ne (c : UInt8) : ∀ l, ∃ p ps, pieces c l = p :: ps
 | [] => ⟨[], [], rfl⟩
 | x :: l => by
  obtain ⟨p, ps, h⟩ := pieces_ne c l
  by_cases e : x = c
  ·
   exact ⟨_, _, by simp [pieces, e]; exact ⟨rfl, rfl⟩⟩
  ·
   exact ⟨_, _, by simp [pieces, e, h]; exact ⟨rfl, rfl⟩⟩
theorem pieces_len (c : UInt8) : ∀ l, (pieces c l).length ≤ l.length + 1
 | [] => by simp [pieces]
 | x :: l => by
  have := pieces_len c l
  by_cases e : x = c
  ·
   simp [pieces, e]; omega
  ·
   obtain ⟨p, ps, h⟩ := pieces_ne c l
   rw [h] at this
   simp [pieces, e, h] at this ⊢
   omega
theorem pieces_head (c : UInt8) : ∀ l, ∃ ps, pieces c l = upto c l :: ps ∧ (ps ≠ [] ↔ c ∈ l)
 | [] => ⟨[], rfl, by simp⟩
 | x :: l => by
  by_cases e : x = c
  ·
   obtain ⟨p, ps, h⟩ := pieces_ne c l
   refine ⟨pieces c l, by simp [pieces, upto, e], ?_⟩
   rw [h]
   simp [e]
  ·
   obtain ⟨ps, h, h2⟩ := pieces_head c l
   refine ⟨ps, by simp [pieces, upto, e, h], ?_⟩
   rw [h2]
   have : ¬ c = x := fun h => e h.symm
   simp [this]
def glue (p : List UInt8) : List (List UInt8) → List (List UInt8)
 | [] => [p]
 | q :: qs => (p ++ q) :: qs
theorem split_l0 (l : List UInt8) (c : Nat) (hc : c < 256) (hl : l.length ≤ 1099511627776) (d : Nat) : ∀ (k i j : Nat) (acc : List ByteArray), i + d = l.length → j ≤ i → d < k → acc.length + d ≤ 2199023255552 →
  spec_l1Split.l0 k (M l) c acc j i = some (acc ++ (glue ((l.drop j).take (i - j)) (pieces (UInt8.ofNat c) (l.drop i))).map M) := by
 induction d with
 | zero =>
  intro k i j acc hd hj hk ha
  obtain ⟨k, rfl⟩ : ∃ m, k = m + 1 := ⟨k - 1, by omega⟩
  simp only [spec_l1Split.l0]
  rw [M_size, if_neg (by omega), if_pos (by omega), if_pos (by omega), if_pos (by omega), List.drop_of_length_le (i := i) (by omega), sx_M, Int.toNat_natCast]
  simp only [pieces, glue, List.append_nil, List.map_cons, List.map_nil]
  rw [List.take_of_length_le (by simp), List.take_of_length_le (by first | omega | (simp; done) | (simp; omega))]
 | succ d ih =>
  intro k i j acc hd hj hk ha
  obtain ⟨k, rfl⟩ : ∃ m, k = m + 1 := ⟨k - 1, by omega⟩
  simp only [spec_l1Split.l0]
  rw [M_size, if_pos (by omega), if_pos (by omega), bt_M, drop_at l i (by omega)]
  have hx : (l.drop j).take (i + 1 - j) = (l.drop j).take (i - j) ++ [l.getD i 0] := by
   rw [show i + 1 - j = (i - j) + 1 by omega, List.take_add_one, List.getElem?_drop, show j + (i - j) = i by omega, List.getElem?_eq_getElem (by omega), List.getD_eq_getElem?_getD, List.getElem?_eq_getElem (by omega)]
   rfl
  generalize hxx : l.getD i 0 = x at hx ⊢
  rw [w64 (x := (i : Int) + 1) (by omega) (by omega)]
  by_cases h1 : (x.toNat : Int) = (c : Int)
  ·
   have he : x = UInt8.ofNat c := (byte_eq x c hc).1 h1
   rw [if_pos h1, if_pos (by omega), if_pos (by omega), if_pos (by omega), if_pos (by omega), sx_M, Int.toNat_natCast, Int.toNat_natCast]
   have := ih k (i + 1) (i + 1) (acc ++ [M ((l.drop j).take (i - j))]) (by omega) (by omega) (by omega) (by first | omega | (simp; done) | (simp; omega))
   rw [show ((i + 1 : Nat) : Int) = (i : Int) + 1 by omega] at this
   rw [this]
   obtain ⟨p, ps, hp⟩ := pieces_ne (UInt8.ofNat c) (l.drop (i + 1))
   simp [pieces, he, glue, hp]
  ·
   have he : ¬ x = UInt8.ofNat c := fun e => h1 ((byte_eq x c hc).2 e)
   rw [if_neg h1]
   have := ih k (i + 1) j acc (by omega) (by omega) (by omega) (by omega)
   rw [show ((i + 1 : Nat) : Int) = (i : Int) + 1 by omega] at this
   rw [this, hx]
   obtain ⟨p, ps, hp⟩ := pieces_ne (UInt8.ofNat c) (l.drop (i + 1))
   simp [pieces, he, glue, hp]
theorem split_eq (l : List UInt8) (c : Nat) (hc : c < 256) (hl : l.length ≤ 1099511627776) {k : Nat} (hk : l.length < k) : spec_l1Split.f k (M l) c = some ((pieces (UInt8.ofNat c) l).map M) := by
 unfold spec_l1Split.f
 have := split_l0 l c hc hl l.length k 0 0 [] (by omega) (by omega) hk (by first | omega | (simp; done) | (simp; omega))
 obtain ⟨p, ps, hp⟩ := pieces_ne (UInt8.ofNat c) l
 simpa [glue, hp] using this
theorem split_head (l : List UInt8) (c : Nat) (hc : c < 256) (hl : l.length ≤ 1099511627776) {k : Nat} (hk : l.length < k) :
  ∃ ps : List ByteArray, spec_l1Split.f k (M l) c = some (M (upto (UInt8.ofNat c) l) :: ps) ∧ (ps ≠ [] ↔ UInt8.ofNat c ∈ l) ∧ ps.length ≤ l.length := by
 obtain ⟨ps, h1, h2⟩ := pieces_head (UInt8.ofNat c) l
 refine ⟨ps.map M, by rw [split_eq l c hc hl hk, h1]; rfl, by rw [← h2]; simp, ?_⟩
 have := pieces_len (UInt8.ofNat c) l
 rw [h1] at this
 simpa using this
theorem rd_head (a : ByteArray) (ps : List ByteArray) : rdOf ByteArray.empty (a :: ps) 0 = a := rfl
theorem readRecord_eq {k K : Nat} (s : List UInt8) (hs : s.length ≤ 1099511627776) (hk : k ≤ 1000000) (hK : 2 * s.length + 100 < K) :
  impl_readRecord.f K k (M s) = some (match dec k s with | some (c, r, n) => (M c, M r, (n : Int), true) | none => (M [], M [], 0, false)) := by
 have l1 := upto_len (c := 10) s
 have l2 := upto_len (c := 35) (upto 10 s)
 have l3 : ∀ (c : UInt8) (l : List UInt8), (after c l).length ≤ l.length := fun c l => by
  by_cases h : c ∈ l
  ·
   rw [after_drop c h, List.length_drop]; omega
  ·
   rw [after_none h]; simp
 have l4 := l3 32 (upto 35 (upto 10 s))
 have l5 := upto_len (c := 64) (after 32 (upto 35 (upto 10 s)))
 have l6 := l3 64 (after 32 (upto 35 (upto 10 s)))
 unfold impl_readRecord.f
 rw [show (⟨#[10]⟩ : ByteArray) = M [10] from rfl, show (⟨#[35]⟩ : ByteArray) = M [35] from rfl, show (⟨#[32]⟩ : ByteArray) = M [32] from rfl, show (⟨#[64]⟩ : ByteArray) = M [64] from rfl, cut_eq s 10 (by omega)]
 simp only [Option.bind_some]
 rw [cut_eq _ 35 (by omega)]
 simp only [Option.bind_some]
 rw [cut_eq _ 32 (by omega)]
 simp only [Option.bind_some]
 rw [cut_eq _ 64 (by omega)]
 simp only [Option.bind_some]
 unfold dec
 generalize after 32 (upto 35 (upto 10 s)) = rest at l4 l5 l6 ⊢
 by_cases h1 : (10 : UInt8) ∈ s
 ·
  rw [if_pos (by simpa using h1)]
  by_cases h2 : 60 ≤ k
  ·
   rw [if_pos (by omega), if_neg (by omega)]
   rfl
  ·
   rw [if_neg (by omega), isRec_eq _ _ (by omega) (by omega) (by omega)]
   simp only [Option.bind_some, decide_eq_true_eq]
   by_cases h3 : Ok (upto 64 rest) (after 64 rest)
   ·
    rw [if_pos h3, encode_eq (by omega) _ _ (by omega) (by omega) (by omega)]
    simp only [Option.bind_some]
    rw [M_size, if_pos (by omega), sc_M, M_toList, M_toList]
    by_cases h4 : enc k (upto 64 rest) (after 64 rest) = upto 10 s ++ [10]
    ·
     rw [if_pos h4, if_pos ⟨h1, by omega, h3, h4⟩, w64 (by omega) (by omega)]
     simp
    ·
     rw [if_neg h4, if_neg (fun h => h4 h.2.2.2)]
     rfl
   ·
    rw [if_neg h3, if_neg (fun h => h3 h.2.2.1)]
    rfl
 ·
  rw [if_neg (by simpa using h1), if_neg (fun h => h1 h.1)]
  rfl
theorem read_eq {k K : Nat} (s : List UInt8) (hs : s.length ≤ 1099511627776) (hk : k ≤ 1000000) (hK : 4 * s.length + 200 < K) :
  ∃ (c r : List UInt8) (b : Bool), spec_l27Read.f K (M s) k = some (M c, M r, b) ∧ (b = true → Ok c r ∧ enc k c r = s ++ [10]) ∧ (∀ c' r', Ok c' r' → enc k c' r' = s ++ [10] → b = true ∧ c = c' ∧ r = r') := by
 have hd := digits_len_aux 7 k (by omega)
 obtain ⟨ps, hp, _, _⟩ := split_head s 35 (by omega) hs (k := K) (by omega)
 have l1 := upto_len (c := 35) s
 have hline : ∀ c' r', Ok c' r' → enc k c' r' = s ++ [10] → upto 35 s = decDigits k ++ 32 :: (c' ++ 64 :: r') := fun c' r' ho he => by
  have : s = line k c' r' := by
   have := congrArg List.dropLast he
   simpa [enc] using this.symm
  rw [this, line_text ho]
  rfl
 unfold spec_l27Read.f
 rw [num_of (by omega) (by omega)]
 simp only [Option.bind_some]
 rw [M_size, if_pos (by omega), show (35 : Int) = ((35 : Nat) : Int) from rfl, hp]
 simp only [Option.bind_some]
 rw [if_pos (by first | omega | (simp; done) | (simp; omega)), rd_head, show (⟨#[32]⟩ : ByteArray) = M [32] from rfl, sc_M, M_size, M_size, show UInt8.ofNat 35 = 35 from rfl]
 generalize htx : upto 35 s = text at l1 hline ⊢
 have hlen : (decDigits k ++ [32]).length = (decDigits k).length + 1 := by simp
 obtain ⟨K1, rfl⟩ : ∃ m, K = m + 1 := ⟨K - 1, by omega⟩
 have fail : spec_l27Read.j0 (K1 + 1) (M s) k (M (decDigits k ++ [32])) (M text) true = some (M [], M [], false) := by
  simp only [spec_l27Read.j0]
  rfl
 by_cases h1 : text.length < (decDigits k ++ [32]).length
 ·
  rw [if_pos (by omega), fail]
  refine ⟨[], [], false, rfl, by simp, fun c' r' ho he => ?_⟩
  have := hline c' r' ho he
  rw [this] at h1
  simp only [List.length_append, List.length_cons, List.length_nil] at h1
  omega
 ·
  rw [if_neg (by omega), if_pos (by omega), if_pos (by omega), sx_M, M_toList, M_toList, List.drop_zero, Nat.sub_zero]
  by_cases h2 : text.take (decDigits k ++ [32]).length = decDigits k ++ [32]
  ·
   have hb : (List.take (decDigits k ++ [32]).length text != decDigits k ++ [32]) = false := by simpa using h2
   rw [hb]
   simp only [spec_l27Read.j0]
   rw [if_neg (by simp), M_size, M_size, if_pos (by omega), if_pos (by omega), sx_M, List.take_of_length_le (by simp)]
   generalize hrest : text.drop (decDigits k ++ [32]).length = rest
   have hrl : rest.length = text.length - (decDigits k ++ [32]).length := by rw [← hrest, List.length_drop]
   obtain ⟨qs, hq, _, _⟩ := split_head rest 64 (by omega) (by omega) (k := K1) (by omega)
   rw [show (64 : Int) = ((64 : Nat) : Int) from rfl, hq]
   simp only [Option.bind_some]
   rw [if_pos (by first | omega | (simp; done) | (simp; omega)), rd_head, M_size, M_size, show UInt8.ofNat 64 = 64 from rfl]
   have hcr : ∀ c' r', Ok c' r' → enc k c' r' = s ++ [10] → rest = c' ++ 64 :: r' := fun c' r' ho he => by
    rw [← hrest, hline c' r' ho he, show decDigits k ++ 32 :: (c' ++ 64 :: r') = (decDigits k ++ [32]) ++ (c' ++ 64 :: r') by simp]
    exact List.drop_left
   by_cases h3 : (64 : UInt8) ∈ rest
   ·
    have hlt := upto_lt h3
    rw [if_neg (by omega), w64 (by omega) (by omega), if_pos (by omega), if_pos (by omega), sx_M, show (((upto 64 rest).length : Int) + 1).toNat = (upto 64 rest).length + 1 by omega, List.take_of_length_le (by simp), ← after_drop 64 h3]
    have l6 : (after 64 rest).length ≤ rest.length := by rw [after_drop 64 h3, List.length_drop]; omega
    rw [good_eq _ _ (by omega) (by omega) (by omega)]
    simp only [Option.bind_some, decide_eq_true_eq]
    have hun : ∀ c' r', Ok c' r' → enc k c' r' = s ++ [10] → upto 64 rest = c' ∧ after 64 rest = r' := fun c' r' ho he => by
     rw [hcr c' r' ho he, rest_cmd ho, rest_rep ho]
     exact ⟨rfl, rfl⟩
    by_cases h4 : Ok (upto 64 rest) (after 64 rest)
    ·
     rw [if_pos h4, line_eq (by omega) _ _ (by omega) (by omega) (by omega)]
     simp only [Option.bind_some]
     rw [M_size, if_pos (by omega), show (⟨#[10]⟩ : ByteArray) = M [10] from rfl, sc_M, M_toList, M_toList]
     refine ⟨_, _, _, rfl, fun h => ⟨h4, by simpa using h⟩, fun c' r' ho he => ?_⟩
     obtain ⟨e1, e2⟩ := hun c' r' ho he
     refine ⟨?_, e1, e2⟩
     rw [e1, e2, he]
     simp
    ·
     rw [if_neg h4]
     refine ⟨_, _, false, rfl, by simp, fun c' r' ho he => ?_⟩
     obtain ⟨e1, e2⟩ := hun c' r' ho he
     rw [e1, e2] at h4
     exact absurd ho h4
   ·
    rw [upto_none h3, if_pos rfl]
    refine ⟨[], [], false, rfl, by simp, fun c' r' ho he => ?_⟩
    rw [hcr c' r' ho he] at h3
    exact absurd h3 (by simp)
  ·
   have hb : (List.take (decDigits k ++ [32]).length text != decDigits k ++ [32]) = true := by simpa using h2
   rw [hb, fail]
   refine ⟨[], [], false, rfl, by simp, fun c' r' ho he => ?_⟩
   have h5 := hline c' r' ho he
   rw [show decDigits k ++ 32 :: (c' ++ 64 :: r') = (decDigits k ++ [32]) ++ (c' ++ 64 :: r') by simp] at h5
   rw [h5, List.take_left] at h2
   exact absurd rfl h2
theorem dec_iff {k : Nat} {s c r : B} {n : Nat} : dec k s = some (c, r, n) ↔ k < 60 ∧ (10 : UInt8) ∈ s ∧ Ok c r ∧ enc k c r = upto 10 s ++ [10] ∧ n = (upto 10 s).length + 1 := by
 constructor
 ·
  intro h
  unfold dec at h
  split at h
  ·
   rename_i hc
   simp only [Option.some.injEq, Prod.mk.injEq] at h
   obtain ⟨rfl, rfl, rfl⟩ := h
   exact ⟨hc.2.1, hc.1, hc.2.2.1, hc.2.2.2, rfl⟩
  ·
   cases h
 ·
  rintro ⟨h1, h2, h3, h4, rfl⟩
  refine dec_some.2 ⟨h1, h3, ?_, by rw [h4]; simp⟩
  rw [h4]
  refine ⟨after 10 s, ?_⟩
  rw [List.append_assoc, List.singleton_append, ← cut_at h2]
def R27 (x : B × B × Nat) : S27 := ⟨M x.1, M x.2.1⟩
theorem open_l0 (s : List UInt8) (hs : s.length ≤ 1099511627776) (m : Nat) : ∀ (K at_ : Nat) (acc : List S27), acc.length + m = 60 → at_ ≤ s.length → 2 * m + 4 * s.length + 300 < K →
  spec_l27Open.l0 K (M s) acc at_ = some (acc ++ (all m acc.length (s.drop at_)).map R27, ((at_ + tot (all m acc.length (s.drop at_)) : Nat) : Int)) := by
 induction m with
 | zero =>
  intro K at_ acc ha hat hK
  obtain ⟨K, rfl⟩ : ∃ m, K = m + 1 + 1 := ⟨K - 2, by omega⟩
  simp only [spec_l27Open.l0]
  have : decide ((acc.length : Int) < 60) = false := by simp; omega
  rw [this, ite_self]
  simp [spec_l27Open.j1, all, tot]
 | succ m ih =>
  intro K at_ acc ha hat hK
  obtain ⟨K, rfl⟩ : ∃ m, K = m + 1 + 1 := ⟨K - 2, by omega⟩
  simp only [spec_l27Open.l0]
  have hd : decide ((acc.length : Int) < 60) = true := by simp; omega
  rw [M_size, hd]
  by_cases hlt : at_ < s.length
  ·
   rw [if_pos (by omega)]
   have hrl : (s.drop at_).length = s.length - at_ := List.length_drop
   have hsx : sx (M s) (((at_ : Int) : Int).toNat) s.length = M (s.drop at_) := by
    rw [sx_M, Int.toNat_natCast, List.take_of_length_le (by simp)]
   generalize hrest : s.drop at_ = rest at hrl hsx ⊢
   have lu := upto_len (c := 10) rest
   obtain ⟨ps, hp, hpn, _⟩ := split_head rest 10 (by omega) (by omega) (k := K) (by omega)
   obtain ⟨c, r, b, hr, hb, hu⟩ := read_eq (k := acc.length) (K := K) (upto 10 rest) (by omega) (by omega) (by omega)
   simp only [spec_l27Open.j1]
   rw [if_pos trivial, if_pos (by omega), M_size, if_pos (by omega), hsx, show (10 : Int) = ((10 : Nat) : Int) from rfl, hp]
   simp only [Option.bind_some]
   rw [if_pos (by first | omega | (simp; done) | (simp; omega)), rd_head, show UInt8.ofNat 10 = 10 from rfl, hr]
   simp only [Option.bind_some]
   by_cases h2 : ps = []
   ·
    have h10 : (10 : UInt8) ∉ rest := fun h => absurd h2 (hpn.2 h)
    have hn : dec acc.length rest = none := by
     cases h : dec acc.length rest with
     | none => rfl
     | some x => obtain ⟨c', r', n'⟩ := x; exact absurd (dec_iff.1 h).2.1 h10
    rw [if_pos (by rw [h2]; simp), all_none hn]
    simp [tot]
   ·
    have h10 : (10 : UInt8) ∈ rest := hpn.1 h2
    have hpl : 0 < ps.length := List.length_pos_iff.2 h2
    rw [if_neg (by first | omega | (simp; omega))]
    cases hbb : b with
    | true =>
     subst hbb
     obtain ⟨ho, he⟩ := hb rfl
     have hdec : dec acc.length rest = some (c, r, (upto 10 rest).length + 1) := dec_iff.2 ⟨by omega, h10, ho, he, rfl⟩
     have hlt' := upto_lt h10
     rw [if_pos rfl, if_pos (by omega), M_size, w64 (x := (at_ : Int) + ((upto 10 rest).length : Nat)) (by omega) (by omega), w64 (by omega) (by omega)]
     have := ih K (at_ + ((upto 10 rest).length + 1)) (acc ++ [⟨M c, M r⟩]) (by simp; omega) (by omega) (by omega)
     rw [show ((at_ : Int) + ((upto 10 rest).length : Nat) + 1) = ((at_ + ((upto 10 rest).length + 1) : Nat) : Int) by omega, this, all_some hdec, tot_cons, ← List.drop_drop, hrest]
     simp [R27]
     omega
    | false =>
     subst hbb
     have hn : dec acc.length rest = none := by
      cases h : dec acc.length rest with
      | none => rfl
      | some x =>
       obtain ⟨c', r', n'⟩ := x
       obtain ⟨_, _, ho, he, _⟩ := dec_iff.1 h
       exact absurd (hu c' r' ho he).1 (by simp)
     rw [if_neg (by simp), all_none hn]
     simp [tot]
  ·
   rw [if_neg (by omega), List.drop_of_length_le (by omega), all_nil]
   simp [spec_l27Open.j1, tot]
theorem open_eq (s : List UInt8) (hs : s.length ≤ 1099511627776) {K : Nat} (hK : 4 * s.length + 500 < K) : spec_l27Open.f K (M s) = some ((all 60 0 s).map R27, ((tot (all 60 0 s) : Nat) : Int)) := by
 unfold spec_l27Open.f
 have := open_l0 s hs 60 K 0 [] rfl (Nat.zero_le _) (by omega)
 simpa using this
def sums (a : Nat) : List (B × B × Nat) → List Int
 | [] => []
 | x :: xs => ((a + x.2.2 : Nat) : Int) :: sums (a + x.2.2) xs
theorem rd_last (E : List Int) (a : Int) : rd (E ++ [a]) (((E ++ [a]).length : Int) - 1) = a := by
 unfold rd
 rw [List.length_append, show (((E.length + [a].length : Nat) : Int) - 1).toNat = E.length by simp, List.getD_eq_getElem?_getD, List.getElem?_append_right (Nat.le_refl _), Nat.sub_self]
 rfl
theorem reads_l0 (s : List UInt8) (hs : s.length ≤ 1099511627776) (m : Nat) : ∀ (K at_ : Nat) (acc : List S27) (E : List Int), acc.length + m = 60 → E.length ≤ acc.length → at_ ≤ s.length → m + 2 * s.length + 200 < K →
  impl_readRecords.l0 K (M s) acc (E ++ [(at_ : Int)]) = some (acc ++ (all m acc.length (s.drop at_)).map R27, E ++ [(at_ : Int)] ++ sums at_ (all m acc.length (s.drop at_))) := by
 induction m with
 | zero =>
  intro K at_ acc E ha hE hat hK
  obtain ⟨K, rfl⟩ : ∃ m, K = m + 1 := ⟨K - 1, by omega⟩
  have hl : (E ++ [(at_ : Int)]).length = E.length + 1 := by simp
  simp only [impl_readRecords.l0]
  rw [w64 (by omega) (by omega), if_pos (by omega), if_pos (by omega), rd_last, M_size, if_pos (by omega), if_pos (by omega), sx_M, Int.toNat_natCast, List.take_of_length_le (by simp), readRecord_eq _ (by simp; omega) (by omega) (by simp; omega)]
  have hn : dec acc.length (s.drop at_) = none := by
   cases h : dec acc.length (s.drop at_) with
   | none => rfl
   | some x => obtain ⟨c', r', n'⟩ := x; have := (dec_iff.1 h).1; omega
  rw [hn]
  simp [all, sums]
 | succ m ih =>
  intro K at_ acc E ha hE hat hK
  obtain ⟨K, rfl⟩ : ∃ m, K = m + 1 := ⟨K - 1, by omega⟩
  have hl : (E ++ [(at_ : Int)]).length = E.length + 1 := by simp
  have hdl : (s.drop at_).length = s.length - at_ := List.length_drop
  simp only [impl_readRecords.l0]
  rw [w64 (by omega) (by omega), if_pos (by omega), if_pos (by omega), rd_last, M_size, if_pos (by omega), if_pos (by omega), sx_M, Int.toNat_natCast, List.take_of_length_le (by simp), readRecord_eq _ (by omega) (by omega) (by omega)]
  cases h : dec acc.length (s.drop at_) with
  | none =>
   rw [all_none h]
   simp [sums]
  | some x =>
   obtain ⟨c, r, n⟩ := x
   have hn := dec_le h
   simp only [Option.bind_some]
   rw [if_pos trivial, if_pos (by omega), if_pos (by omega), w64 (by omega) (by omega)]
   have := ih K (at_ + n) (acc ++ [⟨M c, M r⟩]) (E ++ [(at_ : Int)]) (by simp; omega) (by simp; omega) (by omega) (by omega)
   rw [show ((at_ : Int) + (n : Int)) = ((at_ + n : Nat) : Int) by omega, this, all_some h, ← List.drop_drop]
   simp [sums, R27]
theorem reads_eq (s : List UInt8) (hs : s.length ≤ 1099511627776) {K : Nat} (hK : 2 * s.length + 300 < K) : impl_readRecords.f K (M s) = some ((all 60 0 s).map R27, 0 :: sums 0 (all 60 0 s)) := by
 unfold impl_readRecords.f
 have := reads_l0 s hs 60 K 0 [] [] rfl (Nat.le_refl _) (Nat.zero_le _) (by omega)
 simpa using this
theorem sums_len (l : List (B × B × Nat)) : ∀ a, (sums a l).length = l.length := by
 induction l with
 | nil => intro a; rfl
 | cons x l ih => intro a; simp [sums, ih]
theorem sums_last (l : List (B × B × Nat)) : ∀ a : Nat, ∃ E, (a : Int) :: sums a l = E ++ [((a + tot l : Nat) : Int)] := by
 induction l with
 | nil => intro a; exact ⟨[], by simp [sums, tot]⟩
 | cons x l ih =>
  intro a
  obtain ⟨E, h⟩ := ih (a + x.2.2)
  refine ⟨(a : Int) :: E, ?_⟩
  rw [sums, h, tot_cons]
  simp
  omega
theorem rd_sums (l : List (B × B × Nat)) : rd (0 :: sums 0 l) ((((0 : Int) :: sums 0 l).length : Int) - 1) = ((tot l : Nat) : Int) := by
 obtain ⟨E, h⟩ := sums_last l 0
 have h' : (0 : Int) :: sums 0 l = E ++ [((tot l : Nat) : Int)] := by simpa using h
 rw [h', rd_last]
theorem sums_mem (l : List (B × B × Nat)) : ∀ (a n : Nat), (n : Int) ∈ ((a : Int) :: sums a l) ↔ ∃ j, j ≤ l.length ∧ a + tot (l.take j) = n := by
 induction l with
 | nil =>
  intro a n
  constructor
  ·
   intro h
   simp [sums] at h
   exact ⟨0, Nat.le_refl _, by simp [tot]; omega⟩
  ·
   rintro ⟨j, _, h⟩
   simp [tot] at h
   simp [sums]
   omega
 | cons x l ih =>
  intro a n
  rw [sums, List.mem_cons, ih (a + x.2.2) n]
  constructor
  ·
   rintro (h | ⟨j, hj, h⟩)
   ·
    exact ⟨0, Nat.zero_le _, by simp [tot]; omega⟩
   ·
    exact ⟨j + 1, by simpa using hj, by rw [List.take_succ_cons, tot_cons]; omega⟩
  ·
   rintro ⟨j, hj, h⟩
   cases j with
   | zero => simp [tot] at h; exact .inl (by omega)
   | succ j => rw [List.take_succ_cons, tot_cons] at h; exact .inr ⟨j, by simpa using hj, by omega⟩
theorem has_l0 (l : List Int) (x : Int) (hl : l.length ≤ 4611686018427387904) (d : Nat) : ∀ (k i : Nat), i + d = l.length → d < k → ∃ r : Int, slices_Index_int_int.l0 k l x l.length i = some r ∧ (0 ≤ r ↔ x ∈ l.drop i) := by
 induction d with
 | zero =>
  intro k i hd hk
  obtain ⟨k, rfl⟩ : ∃ m, k = m + 1 := ⟨k - 1, by omega⟩
  refine ⟨-1, ?_, ?_⟩
  ·
   simp only [slices_Index_int_int.l0]
   rw [if_neg (by omega)]
  ·
   rw [List.drop_of_length_le (by omega)]
   simp
 | succ d ih =>
  intro k i hd hk
  obtain ⟨k, rfl⟩ : ∃ m, k = m + 1 := ⟨k - 1, by omega⟩
  have hx : l.drop i = rd l i :: l.drop (i + 1) := by
   unfold rd
   rw [Int.toNat_natCast, List.drop_eq_getElem_cons (by omega), List.getD_eq_getElem?_getD, List.getElem?_eq_getElem (by omega)]
   rfl
  simp only [slices_Index_int_int.l0]
  rw [if_pos (by omega), if_pos (by omega), if_pos (by omega), hx, w64 (by omega) (by omega)]
  by_cases h : x = rd l i
  ·
   rw [if_pos h]
   exact ⟨i, rfl, by simp [h]⟩
  ·
   rw [if_neg h]
   obtain ⟨r, h1, h2⟩ := ih k (i + 1) (by omega) (by omega)
   rw [show ((i + 1 : Nat) : Int) = (i : Int) + 1 by omega] at h1
   exact ⟨r, h1, by rw [h2]; simp [h]⟩
theorem has_eq (l : List Int) (x : Int) (hl : l.length ≤ 4611686018427387904) {k : Nat} (hk : l.length < k) : impl_has.f k l x = some (decide (x ∈ l)) := by
 unfold impl_has.f slices_Contains_int_int.f slices_Index_int_int.f
 obtain ⟨r, h1, h2⟩ := has_l0 l x hl l.length k 0 (by omega) hk
 rw [show ((0 : Nat) : Int) = 0 from rfl] at h1
 rw [h1]
 simp only [Option.bind_some]
 exact dec_of (by rw [decide_eq_true_eq]; simpa using h2)
def Good (D P : List UInt8) (C : Int) : Prop := tot (all 60 0 (D ++ P)) = (D ++ P).length ∧ tot (all 60 0 D) = D.length ∧ C = ((all 60 0 (D ++ P)).length : Int)
instance (D P : List UInt8) (C : Int) : Decidable (Good D P C) := inferInstanceAs (Decidable (_ ∧ _))
theorem Good.le {D P : List UInt8} {C : Int} (h : Good D P C) : (D ++ P).length ≤ 22320 := by
 have := all_tot372 60 0 (D ++ P)
 have := h.1
 omega
theorem records_eq (D P : List UInt8) (C : Int) (hs : (D ++ P).length ≤ 1099511627776) {K : Nat} (hK : 4 * (D ++ P).length + 600 < K) :
  impl_records.f K (M D) (M P) C = some (if Good D P C then ((all 60 0 (D ++ P)).map R27, true) else ([], false)) := by
 have hl : (D ++ P).length = D.length + P.length := List.length_append
 have h60 := all_len 60 0 (D ++ P)
 have hsl := sums_len (all 60 0 (D ++ P)) 0
 have hsl' : ((0 : Int) :: sums 0 (all 60 0 (D ++ P))).length = (all 60 0 (D ++ P)).length + 1 := by rw [List.length_cons, hsl]
 unfold impl_records.f
 rw [M_size, M_size, if_pos (by omega), sc_M, reads_eq _ hs (by omega)]
 simp only [Option.bind_some]
 rw [w64 (by omega) (by omega), if_pos (by omega), if_pos (by omega), rd_sums, M_size]
 by_cases h1 : tot (all 60 0 (D ++ P)) = (D ++ P).length
 ·
  rw [if_pos (by omega), has_eq _ _ (by omega) (by omega)]
  simp only [Option.bind_some, decide_eq_true_eq]
  have hm : ((D.length : Int) ∈ ((0 : Int) :: sums 0 (all 60 0 (D ++ P)))) ↔ tot (all 60 0 D) = D.length := by
   have := sums_mem (all 60 0 (D ++ P)) 0 D.length
   rw [show (((0 : Nat)) : Int) = 0 from rfl] at this
   rw [this]
   simpa using ends_iff 60 0 D P
  by_cases h2 : tot (all 60 0 D) = D.length
  ·
   rw [if_pos (hm.2 h2)]
   by_cases h3 : C = ((all 60 0 (D ++ P)).length : Int)
   ·
    have hg : Good D P C := ⟨h1, h2, h3⟩
    rw [if_pos (by rw [List.length_map]; exact h3), if_pos hg]
   ·
    rw [if_neg (by rw [List.length_map]; exact h3), if_neg (show ¬ Good D P C from fun h => h3 h.2.2)]
  ·
   rw [if_neg (fun h => h2 (hm.1 h)), if_neg (show ¬ Good D P C from fun h => h2 h.2.1)]
 ·
  rw [if_neg (by omega), if_neg (show ¬ Good D P C from fun h => h1 h.1)]
theorem log_eq (D P : List UInt8) (C : Int) (hD : D.length ≤ 549755813888) (hP : P.length ≤ 549755813888) {K : Nat} (hK : 4 * (D ++ P).length + 600 < K) : spec_l27Log.f K (M D) (M P) C = some (decide (Good D P C)) := by
 have hl : (D ++ P).length = D.length + P.length := List.length_append
 unfold spec_l27Log.f
 rw [M_size, M_size, w64 (by omega) (by omega), sc_M, open_eq _ (by omega) (by omega), open_eq _ (by omega) (by omega)]
 simp only [Option.bind_some]
 by_cases h0 : (30000 : Int) < (D.length : Int) + (P.length : Int)
 ·
  rw [if_pos h0]
  exact dec_of ⟨fun h => by simp at h, fun h => by have := Good.le h; omega⟩
 ·
  rw [if_neg h0, if_pos (by omega)]
  by_cases h1 : tot (all 60 0 (D ++ P)) = (D ++ P).length
  ·
   rw [if_pos (by omega)]
   by_cases h2 : tot (all 60 0 D) = D.length
   ·
    rw [if_pos (by omega)]
    refine dec_of ?_
    rw [beq_iff_eq, List.length_map]
    exact ⟨fun h => ⟨h1, h2, h.symm⟩, fun h => h.2.2.symm⟩
   ·
    rw [if_neg (by omega)]
    exact dec_of ⟨fun h => by simp at h, fun h => absurd h.2.1 h2⟩
  ·
   rw [if_neg (by omega)]
   exact dec_of ⟨fun h => by simp at h, fun h => absurd h.1 h1⟩
theorem valid_eq (D P : List UInt8) (C : Int) (hs : (D ++ P).length ≤ 1099511627776) {K : Nat} (hK : 4 * (D ++ P).length + 600 < K) : impl_IsValidLog.f K (M D) (M P) C = some (decide (Good D P C)) := by
 unfold impl_IsValidLog.f
 rw [records_eq D P C hs hK]
 simp only [Option.bind_some]
 by_cases h : Good D P C <;> simp [h]
theorem encode_val (a : Nat) (ha : a ≤ 59) (c r : List UInt8) (hc : c.length ≤ 1048576) (hr : r.length ≤ 1048576) {k : Nat} (hk : c.length + r.length + 60 < k) :
  spec_EncodeRecord.f k (a : Int) (M c) (M r) = some (if Ok c r then (M (enc a c r), true) else (M [], false)) ∧ impl_EncodeRecord.f k (a : Int) (M c) (M r) = some (if Ok c r then (M (enc a c r), true) else (M [], false)) := by
 unfold spec_EncodeRecord.f impl_EncodeRecord.f
 have h : decide ((0 : Int) ≤ (a : Int) ∧ (a : Int) ≤ 59) = true := decide_eq_true ⟨by omega, by omega⟩
 rw [l1In_eq, within_eq, good_eq c r (by omega) (by omega) (by omega), isRec_eq c r (by omega) (by omega) (by omega)]
 simp only [Option.bind_some]
 rw [h, if_pos rfl, if_pos rfl]
 by_cases g : Ok c r
 ·
  rw [if_pos g, decide_eq_true g, if_pos rfl, if_pos rfl, line_eq (by omega) c r (by omega) (by omega) (by omega), encode_eq (by omega) c r (by omega) (by omega) (by omega)]
  exact ⟨rfl, rfl⟩
 ·
  rw [if_neg g, decide_eq_false g, if_neg Bool.false_ne_true]
  try rw [if_neg Bool.false_ne_true]
  exact ⟨rfl, rfl⟩
def recov (s : List UInt8) : List UInt8 := s.take (tot (all 60 0 s))
theorem recover_both (s : List UInt8) (hs : s.length ≤ 1048576) {k : Nat} (hk : 4 * s.length + 600 < k) :
  spec_RecoverLog.f k (M s) = some (if s.length ≤ 30000 then (M (recov s), M [], ((all 60 0 s).length : Int), ((tot (all 60 0 s) : Nat) : Int), true) else (M [], M [], 0, 0, false)) ∧
  impl_RecoverLog.f k (M s) = some (if s.length ≤ 30000 then (M (recov s), M [], ((all 60 0 s).length : Int), ((tot (all 60 0 s) : Nat) : Int), true) else (M [], M [], 0, 0, false)) := by
 have h60 := all_len 60 0 s
 have htl := all_tot 60 0 s
 have hsl' : ((0 : Int) :: sums 0 (all 60 0 s)).length = (all 60 0 s).length + 1 := by rw [List.length_cons, sums_len]
 unfold spec_RecoverLog.f impl_RecoverLog.f recov
 rw [M_size]
 by_cases h : s.length ≤ 30000
 ·
  rw [if_pos h, if_neg (by omega), if_neg (by omega), open_eq s (by omega) (by omega), reads_eq s (by omega) (by omega)]
  simp only [Option.bind_some]
  rw [w64 (by omega) (by omega), rd_sums]
  repeat rw [if_pos (by omega)]
  rw [sx_M, Int.toNat_natCast, List.drop_zero, Nat.sub_zero, List.length_map]
  exact ⟨rfl, rfl⟩
 ·
  rw [if_neg h, if_pos (by omega), if_pos (by omega)]
  exact ⟨rfl, rfl⟩
theorem isLog_both (D P : List UInt8) (C : Int) (hs : D.length + P.length ≤ 1048576) {k : Nat} (hk : 4 * (D.length + P.length) + 600 < k) :
  spec_IsValidLog.f k (M D) (M P) C = some (decide (Good D P C)) ∧ impl_IsValidLog.f k (M D) (M P) C = some (decide (Good D P C)) := by
 have hl : (D ++ P).length = D.length + P.length := List.length_append
 unfold spec_IsValidLog.f
 rw [log_eq D P C (by omega) (by omega) (by omega), valid_eq D P C (by omega) (by omega)]
 exact ⟨rfl, rfl⟩
theorem sync_both (D P : List UInt8) (C : Int) (hs : D.length + P.length ≤ 1048576) {k : Nat} (hk : 4 * (D.length + P.length) + 600 < k) :
  spec_SyncLog.f k (M D) (M P) C = some (if Good D P C then (M (D ++ P), M [], C, true) else (M [], M [], 0, false)) ∧ impl_SyncLog.f k (M D) (M P) C = some (if Good D P C then (M (D ++ P), M [], C, true) else (M [], M [], 0, false)) := by
 have hl : (D ++ P).length = D.length + P.length := List.length_append
 unfold spec_SyncLog.f impl_SyncLog.f
 rw [log_eq D P C (by omega) (by omega) (by omega), valid_eq D P C (by omega) (by omega)]
 simp only [Option.bind_some]
 by_cases g : Good D P C
 ·
  rw [if_pos g, decide_eq_true g, if_pos rfl]
  try rw [if_pos rfl]
  rw [M_size, M_size]
  repeat rw [if_pos (by omega)]
  rw [sc_M]
  exact ⟨rfl, rfl⟩
 ·
  rw [if_neg g, decide_eq_false g, if_neg Bool.false_ne_true]
  try rw [if_neg Bool.false_ne_true]
  exact ⟨rfl, rfl⟩
theorem Good.count {D P : List UInt8} {C : Int} (h : Good D P C) : 0 ≤ C ∧ C ≤ 60 := by
 have := all_len 60 0 (D ++ P)
 have := h.2.2
 omega
def appended (D P : List UInt8) (C : Int) (c r : List UInt8) : ByteArray × ByteArray × Int × Int :=
 if Good D P C ∧ Ok c r then (if C = 60 then (M D, M P, C, 2) else (M D, M (P ++ enc C.toNat c r), C + 1, 0)) else (M D, M P, C, 1)
theorem append_both (D P : List UInt8) (C : Int) (c r : List UInt8) (hs : D.length + P.length ≤ 1048576) (hc : c.length ≤ 1048576) (hr : r.length ≤ 1048576) {k : Nat} (hk : 4 * (D.length + P.length) + c.length + r.length + 700 < k) :
  spec_AppendRecord.f k (M D) (M P) C (M c) (M r) = some (appended D P C c r) ∧ impl_AppendRecord.f k (M D) (M P) C (M c) (M r) = some (appended D P C c r) := by
 have hl : (D ++ P).length = D.length + P.length := List.length_append
 unfold spec_AppendRecord.f impl_AppendRecord.f appended
 obtain ⟨k, rfl⟩ : ∃ m, k = m + 1 := ⟨k - 1, by omega⟩
 rw [log_eq D P C (by omega) (by omega) (by omega), valid_eq D P C (by omega) (by omega), good_eq c r (by omega) (by omega) (by omega), isRec_eq c r (by omega) (by omega) (by omega)]
 simp only [Option.bind_some, spec_AppendRecord.j0, impl_AppendRecord.j0]
 by_cases g : Good D P C
 ·
  have hct := g.count
  rw [decide_eq_true g, if_pos rfl, if_pos rfl]
  by_cases o : Ok c r
  ·
   have hgo : Good D P C ∧ Ok c r := ⟨g, o⟩
   have hn : ¬ ((!true) = true) := by decide
   rw [if_pos hgo, decide_eq_true o, if_neg hn, if_neg hn]
   by_cases h60 : C = 60
   ·
    rw [if_pos h60, if_pos h60, if_pos h60]
    exact ⟨rfl, rfl⟩
   ·
    obtain ⟨n, rfl⟩ : ∃ n : Nat, C = n := ⟨C.toNat, by omega⟩
    have hel := (enc_len (k := n) (by omega) o).1
    rw [if_neg h60, if_neg h60, if_neg h60, line_eq (by omega) c r (by omega) (by omega) (by omega), encode_eq (by omega) c r (by omega) (by omega) (by omega)]
    simp only [Option.bind_some]
    rw [M_size, M_size, if_pos (by omega)]
    try rw [if_pos (by omega)]
    rw [sc_M, w64 (by omega) (by omega), Int.toNat_natCast]
    exact ⟨rfl, rfl⟩
  ·
   rw [if_neg (show ¬ (Good D P C ∧ Ok c r) from fun h => o h.2), decide_eq_false o, if_pos (show (!false) = true from rfl), if_pos (show (!false) = true from rfl)]
   exact ⟨rfl, rfl⟩
 ·
  rw [if_neg (show ¬ (Good D P C ∧ Ok c r) from fun h => g h.1), decide_eq_false g, if_neg Bool.false_ne_true]
  try rw [if_neg Bool.false_ne_true]
  repeat rw [if_pos rfl]
  exact ⟨rfl, rfl⟩
end Go.Proofs.YtdpinnhgkocjhaaDoor.Pr.Pure

