/-
What is proved: parts of the law FnCrashRecovery: what the functions that it reaches compute, and the plain law.
Conditions: those of each theorem.
-/
import Derived.Test.YtdpinnhgkocjhaaDoorCFnCrashRecovery3
namespace Go.Proofs.YtdpinnhgkocjhaaDoor.Pr.Pure
open Go.RowKit Go.Proofs.YtdpinnhgkocjhaaDoorW.PrintWords Go.Proofs.YtdpinnhgkocjhaaDoorW.PrintLast Go.Proofs.YtdpinnhgkocjhaaDoorW.PrintMore Go.Proofs.YtdpinnhgkocjhaaDoorW.Opens Go.Proofs.YtdpinnhgkocjhaaDoor.Log Go.Lib
set_option linter.unusedVariables false
set_option linter.unusedSimpArgs false
theorem rd_app (A B : List S27) {i : Nat} (h : i < A.length) : rd_T27 (A ++ B) (i : Int) = rd_T27 A (i : Int) := by
 show (A ++ B).getD ((i : Int)).toNat _ = A.getD ((i : Int)).toNat _
 rw [Int.toNat_natCast, List.getD_eq_getElem?_getD, List.getD_eq_getElem?_getD, List.getElem?_append_left h]
theorem crash_l0 (s : ByteArray) (x : Int) (A B : List S27) (u v : ByteArray) (z : Int) (hl : (A ++ B).length ≤ 60) {k : Nat} (fin : laws_FnCrashRecovery.l0 (k + 1) s x A (A ++ B) A.length u v z = some true) (d : Nat) : ∀ (K i : Nat), i + d = A.length → K = k + d + 1 →
  laws_FnCrashRecovery.l0 K s x A (A ++ B) i u v z = some true := by
 rw [List.length_append] at hl
 induction d with
 | zero =>
  intro K i hd hK
  obtain rfl : K = k + 1 := by omega
  obtain rfl : i = A.length := by omega
  exact fin
 | succ d ih =>
  intro K i hd hK
  obtain ⟨K, rfl⟩ : ∃ m, K = m + 1 := ⟨k + d + 1, by omega⟩
  simp only [laws_FnCrashRecovery.l0]
  rw [if_pos (by omega), if_pos (by omega), if_pos (by rw [List.length_append]; omega), rd_app A B (by omega), if_neg (by simp), w64 (x := (i : Int) + 1) (by omega) (by omega)]
  exact ih K (i + 1) (by omega) (by omega)
theorem FnCrashRecovery : FnCrashRecovery.Pure := by
 intro c hw
 have hc : ∀ x, x ∈ c → 0 ≤ x ∧ x ≤ 255 := fun x hx => by
  have h := hw.2.2 x hx
  simp [Lit.wf, IntKind.min, IntKind.max, IntKind.signed, IntKind.bits] at h
  omega
 refine ⟨300000, ?_⟩
 unfold laws_FnCrashRecovery.f laws_vBig.f
 rw [obs]
 by_cases big : decide ((c.length : Int) > 65536) = true
 ·
  rw [if_pos big]
 rw [if_neg big]
 obtain ⟨D, P, C, a, b, e, hl⟩ := drawCrash_ok hc (k := 300000) (by omega)
 obtain ⟨e1, e2⟩ := crash_both D P C a b (by omega) (k := 300000) (by omega)
 rw [e, obs]
 simp only
 rw [e2, obs, e1, obs]
 unfold crashed
 by_cases g : Good D P C ∧ 0 ≤ a ∧ a ≤ P.length
 ·
  rw [if_pos g]
  simp only
  rw [if_pos trivial, bne_self_eq_false]
  obtain ⟨n, rfl⟩ : ∃ n : Nat, a = n := ⟨a.toNat, by omega⟩
  rw [Int.toNat_natCast]
  obtain ⟨g, _, hn⟩ := g
  obtain ⟨r, h1, h2⟩ := crash_all g (n := n) (by omega) b
  have hs : (D ++ crashP P n b).length ≤ 5000 := by
   rw [List.length_append]
   unfold crashP
   split
   ·
    rw [flip_len_, List.length_take]
    omega
   ·
    rw [List.length_take]
    omega
  generalize D ++ crashP P n b = s at *
  have ht := all_tot 60 0 s
  have gr := good_recov s
  have hrl : (recov s).length ≤ 5000 := by
   unfold recov
   rw [List.length_take]
   omega
  have hal : all 60 0 (recov s ++ []) = all 60 0 s := by
   rw [List.append_nil]
   exact all_recov 60 0 s
  have h60 := all_len 60 0 (D ++ P)
  show laws_FnCrashRecovery.j0 (299999 + 1) (M s) true false (M D) (M P) C = some true
  simp only [laws_FnCrashRecovery.j0, Bool.false_eq_true, if_false, if_true]
  rw [(recover_both s (by omega) (k := 299999) (by omega)).2, obs, if_pos (show s.length ≤ 30000 by omega)]
  simp only
  rw [(records_both (recov s) [] _ (by rw [List.length_nil]; omega) (k := 299999) (by rw [List.length_nil]; omega)).2, obs, if_pos gr, (records_both D P C (by omega) (k := 299999) (by omega)).1, obs, if_pos g, hal]
  simp only [if_true]
  have hm : (all 60 0 (D ++ P)).map R27 = (all 60 0 s).map R27 ++ r.map R27 := by rw [h1, List.map_append]
  rw [hm]
  have hml : ((all 60 0 s).map R27 ++ r.map R27).length = (all 60 0 (D ++ P)).length := by rw [← hm, List.length_map]
  have hm2 : ((all 60 0 s).map R27).length ≤ ((all 60 0 s).map R27 ++ r.map R27).length := by rw [List.length_append]; omega
  rw [M_size, M_size, if_neg (show ¬ (((tot (all 60 0 s) : Nat) : Int) > (s.length : Int)) by omega), if_neg (show ¬ (((tot (all 60 0 s) : Nat) : Int) < (D.length : Int)) by omega), decide_eq_false (show ¬ ((((all 60 0 s).map R27).length : Int) > ((((all 60 0 s).map R27 ++ r.map R27).length : Nat) : Int)) by omega)]
  show laws_FnCrashRecovery.j1 (299998 + 1) _ _ _ _ false _ _ _ = some true
  simp only [laws_FnCrashRecovery.j1, Bool.false_eq_true, if_false]
  have hla : ((all 60 0 s).map R27).length ≤ 60 := by omega
  refine crash_l0 _ _ _ _ _ _ _ (by omega) (k := 299997 - ((all 60 0 s).map R27).length) ?_ ((all 60 0 s).map R27).length 299998 0 (by omega) (by omega)
  simp only [laws_FnCrashRecovery.l0]
  rw [if_neg (by omega), (isLog_both (recov s) [] _ (by rw [List.length_nil]; omega) (by rw [List.length_nil]; omega)).2, obs, decide_eq_true gr, if_pos rfl, if_pos (by omega), M_size, if_pos (by omega), sx_M, Int.toNat_natCast, List.drop_zero, Nat.sub_zero]
  show some ((M (recov s)).toList == (M (recov s)).toList) = some true
  rw [beq_self_eq_true]
 ·
  rw [if_neg g]
  simp only
  rw [if_pos trivial, bne_self_eq_false]
  show laws_FnCrashRecovery.j0 (299999 + 1) (M []) false false (M D) (M P) C = some true
  simp only [laws_FnCrashRecovery.j0, Bool.false_eq_true, if_false]
  rw [M_toList]
  rfl
end Go.Proofs.YtdpinnhgkocjhaaDoor.Pr.Pure

