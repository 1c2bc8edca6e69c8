/-
What is proved: parts of the law FnExactDoMeet: what the functions that it reaches compute, and the plain law.
Conditions: those of each theorem.
-/
import Derived.Test.YtjkcfpmonpkhhaaCFnExactDoMeet1
/-
What is proved: FnExactDoMeet.Pure: the program's DoMeet and the reference's answer the same, over numbers alone.
Conditions: each number is an int.
-/
namespace Go.Proofs.Ytjkcfpmonpkhhaa.Pr.Pure
open Go.RowKit Go.Proofs.YtjkcfpmonpkhhaaW.PrintWords Go.Proofs.YtjkcfpmonpkhhaaW.PrintLast Go.Proofs.YtjkcfpmonpkhhaaW.PrintMore Go.Proofs.YtjkcfpmonpkhhaaW.Opens
set_option linter.unusedVariables false
theorem in_tot (a b c : Int) : ∃ r, spec_l1In.f a b c = some r := by
  unfold spec_l1In.f
  split <;> exact ⟨_, rfl⟩
theorem near_tot (a b c d : Int) : ∃ r, spec_l24Near.f a b c d = some r := by
  unfold spec_l24Near.f
  obtain ⟨r1, h1⟩ := in_tot a (-100) 200
  obtain ⟨r2, h2⟩ := in_tot b (-100) 200
  obtain ⟨r3, h3⟩ := in_tot c 0 100
  obtain ⟨r4, h4⟩ := in_tot d 0 100
  rw [h1, h2, h3, h4]
  simp only [Option.bind_some]
  cases r1 <;> cases r2 <;> cases r3 <;> exact ⟨_, rfl⟩
theorem meet_tot (a b c d e f g h : Int) : ∃ r, spec_l24Meet.f a b c d e f g h = some r := by
  unfold spec_l24Meet.f
  repeat' split
  all_goals exact ⟨_, rfl⟩
theorem doMeet_tot (a b c d e f g h : Int) : ∃ r, spec_DoMeet.f a b c d e f g h = some r ∧ impl_DoMeet.f a b c d e f g h = some r := by
  have hs : ∃ r, spec_DoMeet.f a b c d e f g h = some r := by
    unfold spec_DoMeet.f
    obtain ⟨r1, h1⟩ := near_tot a b c d
    obtain ⟨r2, h2⟩ := near_tot e f g h
    obtain ⟨r3, h3⟩ := meet_tot a b c d e f g h
    rw [h1, h2, h3]
    simp only [Option.bind_some]
    cases r1 <;> cases r2 <;> exact ⟨_, rfl⟩
  obtain ⟨r, hr⟩ := hs
  exact ⟨r, hr, hr⟩
theorem FnExactDoMeet : FnExactDoMeet.Pure := by
  intro x y hx hy
  unfold laws_FnExactDoMeet.f laws_toBox.f
  obtain ⟨r, h1, h2⟩ := doMeet_tot x.f0 x.f1 x.f2 x.f3 y.f0 y.f1 y.f2 y.f3
  simp only [Option.bind_some, h1, h2, bne_self_eq_false]
  rfl
end Go.Proofs.Ytjkcfpmonpkhhaa.Pr.Pure

