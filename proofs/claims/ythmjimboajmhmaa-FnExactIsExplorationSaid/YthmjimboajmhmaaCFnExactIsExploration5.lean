/-
What is proved: parts of the law FnExactIsExploration: what the functions that it reaches compute, and the plain law.
Conditions: those of each theorem.
-/
import Derived.Test.YthmjimboajmhmaaCFnExactIsExploration4
/-
What is proved: FnExactIsExploration.Pure: the program's IsExploration and the reference's answer the same, over numbers and lists alone.
Conditions: each number is an int, each list no longer than memory allows.
-/
namespace Go.Proofs.Ythmjimboajmhmaa.Pr.Pure
open Go.RowKit Go.Proofs.YthmjimboajmhmaaW.PrintWords Go.Proofs.YthmjimboajmhmaaW.PrintLast Go.Proofs.YthmjimboajmhmaaW.PrintMore Go.Proofs.YthmjimboajmhmaaW.Opens
set_option linter.unusedVariables false
set_option linter.unusedSimpArgs false
theorem FnExactIsExploration : FnExactIsExploration.Pure := by
  intro x h
  obtain ⟨⟨_, hb0, hw0⟩, ⟨_, hb1, hw1⟩, ⟨_, hb2, hw2⟩, i3, i4⟩ := h
  have hm : (x.f0.map cvLeg).length = x.f0.length := List.length_map _
  obtain ⟨K, hK⟩ : ∃ K, K = x.f0.length + x.f1.length + x.f2.length + 410 := ⟨_, rfl⟩
  obtain ⟨b, e1, e2, _⟩ := good_eq (x.f0.map cvLeg) (by omega) x.f1 x.f2 x.f3 x.f4 (k := K) (by omega)
  have t := toExploration_eq (l := x.f0) (v := x.f1) (d := x.f2) (a := x.f3) (b := x.f4) hb0 (by omega) (by omega) (k := K) (by omega) (by omega) (by omega)
  have q := eqExploration_eq (l := x.f0.map cvLeg) (v := x.f1) (d := x.f2) (a := x.f3) (b := x.f4) (by omega) (by omega) (by omega) (k := K) (by omega) (by omega) (by omega)
  refine ⟨K, ?_⟩
  unfold laws_FnExactIsExploration.f laws_szExploration.f laws_szLegS.f laws_szBoolS.f spec_IsExploration.f
  simp only [t, q, e1, e2, Option.bind_some, bne_self_eq_false, Bool.false_eq_true, if_false, if_true]
  by_cases s1 : wrap64 (1048576 - (x.f0.length : Int)) < 0
  · simp [if_pos s1]
  · simp only [if_neg s1, Option.bind_some]
    by_cases s2 : wrap64 (wrap64 (1048576 - (x.f0.length : Int)) - (x.f1.length : Int)) < 0
    · simp [if_pos s2]
    · simp only [if_neg s2, Option.bind_some]
      by_cases s3 : wrap64 (wrap64 (wrap64 (1048576 - (x.f0.length : Int)) - (x.f1.length : Int)) - (x.f2.length : Int)) < 0
      · simp [if_pos s3]
      · simp only [if_neg s3, Option.bind_some]
end Go.Proofs.Ythmjimboajmhmaa.Pr.Pure

