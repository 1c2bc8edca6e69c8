/-
What is proved: parts of the law FnExactCaveLine: what the functions that it reaches compute, and the plain law.
Conditions: those of each theorem.
-/
import Derived.Test.YteepnlofbfccgaaDoorCFnExactCaveLine2
/-
What is proved: FnExactCaveLine.Pure: the program's CaveLine and the reference's answer the same.
Conditions: sizes as the types allow.
-/
namespace Go.Proofs.YteepnlofbfccgaaDoor.Pr.Pure
open Go.RowKit Go.Proofs.YteepnlofbfccgaaDoorW.PrintWords Go.Proofs.YteepnlofbfccgaaDoorW.PrintLast Go.Proofs.YteepnlofbfccgaaDoorW.PrintMore Go.Proofs.YteepnlofbfccgaaDoorW.Opens
set_option linter.unusedVariables false
theorem FnExactCaveLine : FnExactCaveLine.Pure := by
  intro x0 h0
  obtain ⟨c, hc⟩ := ex_M x0.f0
  have hs0 := h0.1
  rw [hc, M_size] at hs0
  refine ⟨c.length + 30, ?_⟩
  unfold laws_FnExactCaveLine.f laws_szCaveRow.f laws_toCaveRow.f
  rw [hc, M_size, w64 (x := 1048576 - (c.length : Int)) (by omega) (by omega)]
  by_cases a : 1048576 - (c.length : Int) < 0
  · rw [if_pos a, obs, if_pos (by decide)]
  · rw [if_neg a, obs, if_neg a, obs]
    have e1 : ∃ z : ByteArray, ∃ b : Bool, spec_CaveLine.f (c.length + 30) (M c) x0.f1 x0.f2 x0.f3 = some (z, b) ∧ impl_CaveLine.f (M c) x0.f1 x0.f2 x0.f3 = some (z, b) := by
      unfold spec_CaveLine.f impl_CaveLine.f
      rw [one_eq c x0.f1 x0.f2 x0.f3 (by omega) (by omega), row_eq c x0.f1 x0.f2 x0.f3 (by omega)]
      cases hr : row c x0.f1 x0.f2 x0.f3 with
      | false => exact ⟨⟨#[]⟩, false, rfl, rfl⟩
      | true =>
        refine ⟨M (cLine c x0.f1 x0.f2 x0.f3), true, ?_, ?_⟩
        · rw [obs, if_pos rfl, line_spec hr (by omega) (by omega), obs]
        · rw [obs, if_pos rfl, line_impl hr (by omega), obs]
    obtain ⟨z, b, e1, e2⟩ := e1
    simp only [obs, e1, e2, bne_self_eq_false, Bool.false_eq_true, if_false, if_true]
end Go.Proofs.YteepnlofbfccgaaDoor.Pr.Pure

