/-
What is proved: parts of the law FnExactCaveLine: what the functions that it reaches compute, and the plain law.
Conditions: those of each theorem.
-/
import Derived.Test.YteepnlofbfccgaaDoorCFnExactCaveLine2
/-
What is proved: both ways of writing a cave's line give the same line.
Conditions: a valid row, enough rounds.
-/
namespace Go.Proofs.YteepnlofbfccgaaDoor.Pr.Pure
open Go.RowKit Go.Proofs.YteepnlofbfccgaaDoorW.PrintWords Go.Proofs.YteepnlofbfccgaaDoorW.PrintLast Go.Proofs.YteepnlofbfccgaaDoorW.PrintMore Go.Lib Go.Proofs.YteepnlofbfccgaaDoor.Log
set_option linter.unusedVariables false
set_option linter.unusedSimpArgs false
/-- A cave's line; p, q, g: the digits of metres long, metres deep and legs. -/
def lineL (c p q g : List UInt8) (L G : Int) : List UInt8 :=
  if L = 0 then c ++ [58, 32, 110, 111, 116, 32, 115, 117, 114, 118, 101, 121, 101, 100]
  else if G = 1 then c ++ [58, 32] ++ p ++ [32, 109, 32, 108, 111, 110, 103, 44, 32] ++ q ++ [32, 109, 32, 100, 101, 101, 112, 44, 32] ++ g ++ [32, 108, 101, 103]
  else c ++ [58, 32] ++ p ++ [32, 109, 32, 108, 111, 110, 103, 44, 32] ++ q ++ [32, 109, 32, 100, 101, 101, 112, 44, 32] ++ g ++ [32, 108, 101, 103] ++ [115]
def cLine (c : List UInt8) (L D G : Int) : List UInt8 := lineL c (itoa (L / 10)) (itoa (D / 10)) (itoa G) L G
theorem tdiv10 {x : Int} (h0 : 0 ≤ x) (h1 : x ≤ 1000000) : wrap64 (Int.tdiv x 10) = x / 10 := by
  rw [Int.tdiv_eq_ediv_of_nonneg h0]
  exact w64 (by omega) (by omega)
theorem num_int {x : Int} (h0 : 0 ≤ x) (h1 : x ≤ 1000000) {k : Nat} (hk : 20 ≤ k) : spec_l1Num.f k x = some (M (itoa x)) := by
  obtain ⟨n, rfl⟩ : ∃ n : Nat, x = n := ⟨x.toNat, by omega⟩
  rw [itoa_nat]
  exact num_of (by omega) hk
theorem itoa_len {x : Int} (h0 : 0 ≤ x) (h1 : x ≤ 1000000) : (itoa x).length ≤ 40 := by
  obtain ⟨n, rfl⟩ : ∃ n : Nat, x = n := ⟨x.toNat, by omega⟩
  rw [itoa_nat]
  exact Nat.le_trans (digits_len_aux 6 n (by omega)) (by omega)
theorem li0 : (⟨#[58, 32, 110, 111, 116, 32, 115, 117, 114, 118, 101, 121, 101, 100]⟩ : ByteArray) = M [58, 32, 110, 111, 116, 32, 115, 117, 114, 118, 101, 121, 101, 100] := rfl
theorem li1 : (⟨#[58, 32]⟩ : ByteArray) = M [58, 32] := rfl
theorem li2 : (⟨#[32, 109, 32, 108, 111, 110, 103, 44, 32]⟩ : ByteArray) = M [32, 109, 32, 108, 111, 110, 103, 44, 32] := rfl
theorem li3 : (⟨#[32, 109, 32, 100, 101, 101, 112, 44, 32]⟩ : ByteArray) = M [32, 109, 32, 100, 101, 101, 112, 44, 32] := rfl
theorem li4 : (⟨#[32, 108, 101, 103]⟩ : ByteArray) = M [32, 108, 101, 103] := rfl
theorem li5 : (⟨#[115]⟩ : ByteArray) = M [115] := rfl
theorem isW_len {c : List UInt8} (h : isW c = true) : c.length ≤ 10 := by
  unfold isW at h
  simp only [Bool.and_eq_true, decide_eq_true_eq] at h
  exact h.1.2
theorem line_impl {c : List UInt8} {L D G : Int} (h : row c L D G = true) (hl : c.length ≤ 4611686018427387904) : impl_caveLine.f (M c) L D G = some (M (cLine c L D G)) := by
  obtain ⟨hw, hL0, hL1, hD0, hD1, hG0, hG1⟩ := row_facts h
  have hD2 : D ≤ 20000 := by unfold mn at hD1; split at hD1 <;> omega
  have hc := isW_len hw
  clear h hw hD1
  have p1 := itoa_len (x := L / 10) (by omega) (by omega)
  have p2 := itoa_len (x := D / 10) (by omega) (by omega)
  have p3 := itoa_len (x := G) (by omega) (by omega)
  have q1 := decimal_eq (a := L / 10) (by omega) (by omega)
  have q2 := decimal_eq (a := D / 10) (by omega) (by omega)
  have q3 := decimal_eq (a := G) (by omega) (by omega)
  unfold impl_caveLine.f cLine lineL
  rw [tdiv10 hL0 hL1, tdiv10 hD0 (by omega), q1, q2, q3]
  generalize itoa (L / 10) = p at *
  generalize itoa (D / 10) = q at *
  generalize itoa G = g at *
  by_cases e : L = 0
  · rw [if_pos e, if_pos e, M_size, if_pos (by omega), li0, sc_M]
  · rw [if_neg e, if_neg e, M_size, if_pos (by omega), obs, li1, li2, li3, li4, li5]
    simp only [sc_M]
    rw [if_pos (by simp only [M_size, List.length_append, List.length_cons, List.length_nil]; omega), if_pos (by simp only [M_size, List.length_append, List.length_cons, List.length_nil]; omega), obs]
    simp only [sc_M]
    rw [if_pos (by simp only [M_size, List.length_append, List.length_cons, List.length_nil]; omega), if_pos (by simp only [M_size, List.length_append, List.length_cons, List.length_nil]; omega), obs]
    simp only [sc_M]
    rw [if_pos (by simp only [M_size, List.length_append, List.length_cons, List.length_nil]; omega), if_pos (by simp only [M_size, List.length_append, List.length_cons, List.length_nil]; omega)]
    by_cases e1 : G = 1
    · have : ¬ (G ≠ 1) := by omega
      first | rw [if_pos e1, if_pos e1] | rw [if_neg this, if_pos e1]
    · have : G ≠ 1 := e1
      first | rw [if_neg e1, if_neg e1, if_pos (by simp only [M_size, List.length_append, List.length_cons, List.length_nil]; omega)] | rw [if_neg e1, if_pos this, if_pos (by simp only [M_size, List.length_append, List.length_cons, List.length_nil]; omega)]
theorem line_spec {c : List UInt8} {L D G : Int} {k : Nat} (h : row c L D G = true) (hl : c.length ≤ 4611686018427387904) (hk : 20 ≤ k) : spec_l26Line.f k (M c) L D G = some (M (cLine c L D G)) := by
  obtain ⟨hw, hL0, hL1, hD0, hD1, hG0, hG1⟩ := row_facts h
  have hD2 : D ≤ 20000 := by unfold mn at hD1; split at hD1 <;> omega
  have hc := isW_len hw
  clear h hw hD1
  have p1 := itoa_len (x := L / 10) (by omega) (by omega)
  have p2 := itoa_len (x := D / 10) (by omega) (by omega)
  have p3 := itoa_len (x := G) (by omega) (by omega)
  have q1 := num_int (x := L / 10) (by omega) (by omega) hk
  have q2 := num_int (x := D / 10) (by omega) (by omega) hk
  have q3 := num_int (x := G) (by omega) (by omega) hk
  unfold spec_l26Line.f cLine lineL
  rw [tdiv10 hL0 hL1, tdiv10 hD0 (by omega), q1, q2, q3]
  generalize itoa (L / 10) = p at *
  generalize itoa (D / 10) = q at *
  generalize itoa G = g at *
  by_cases e : L = 0
  · rw [if_pos e, if_pos e, M_size, if_pos (by omega), li0, sc_M]
  · rw [if_neg e, if_neg e, M_size, if_pos (by omega), obs, li1, li2, li3, li4, li5]
    simp only [sc_M]
    rw [if_pos (by simp only [M_size, List.length_append, List.length_cons, List.length_nil]; omega), if_pos (by simp only [M_size, List.length_append, List.length_cons, List.length_nil]; omega), obs]
    simp only [sc_M]
    rw [if_pos (by simp only [M_size, List.length_append, List.length_cons, List.length_nil]; omega), if_pos (by simp only [M_size, List.length_append, List.length_cons, List.length_nil]; omega), obs]
    simp only [sc_M]
    rw [if_pos (by simp only [M_size, List.length_append, List.length_cons, List.length_nil]; omega), if_pos (by simp only [M_size, List.length_append, List.length_cons, List.length_nil]; omega)]
    by_cases e1 : G = 1
    · rw [if_pos e1, if_pos e1]
    · rw [if_neg e1, if_neg e1, if_pos (by simp only [M_size, List.length_append, List.length_cons, List.length_nil]; omega)]
end Go.Proofs.YteepnlofbfccgaaDoor.Pr.Pure

/-
What is proved: FnExactCaveLine.Pure: the program's CaveLine and the reference's answer the same.
Conditions: sizes as the types allow.
-/
namespace Go.Proofs.YteepnlofbfccgaaDoor.Pr.Pure
open Go.RowKit Go.Proofs.YteepnlofbfccgaaDoorW.PrintWords Go.Proofs.YteepnlofbfccgaaDoorW.PrintLast Go.Proofs.YteepnlofbfccgaaDoorW.PrintMore Go.Proofs.YteepnlofbfccgaaDoorW.Opens
set_option linter.unusedVariables false
theorem FnExactCaveLine : FnExactCaveLine.Pure := by
  intro x0 h0
  obtain ⟨c, hc⟩ := ex_M x0.f0
  have hs0 := h0.1
  rw [hc, M_size] at hs0
  refine ⟨c.length + 30, ?_⟩
  unfold laws_FnExactCaveLine.f laws_szCaveRow.f laws_toCaveRow.f
  rw [hc, M_size, w64 (x := 1048576 - (c.length : Int)) (by omega) (by omega)]
  by_cases a : 1048576 - (c.length : Int) < 0
  · rw [if_pos a, obs, if_pos (by decide)]
  · rw [if_neg a, obs, if_neg a, obs]
    have e1 : ∃ z : ByteArray, ∃ b : Bool, spec_CaveLine.f (c.length + 30) (M c) x0.f1 x0.f2 x0.f3 = some (z, b) ∧ impl_CaveLine.f (M c) x0.f1 x0.f2 x0.f3 = some (z, b) := by
      unfold spec_CaveLine.f impl_CaveLine.f
      rw [one_eq c x0.f1 x0.f2 x0.f3 (by omega) (by omega), row_eq c x0.f1 x0.f2 x0.f3 (by omega)]
      cases hr : row c x0.f1 x0.f2 x0.f3 with
      | false => exact ⟨⟨#[]⟩, false, rfl, rfl⟩
      | true =>
        refine ⟨M (cLine c x0.f1 x0.f2 x0.f3), true, ?_, ?_⟩
        · rw [obs, if_pos rfl, line_spec hr (by omega) (by omega), obs]
        · rw [obs, if_pos rfl, line_impl hr (by omega), obs]
    obtain ⟨z, b, e1, e2⟩ := e1
    simp only [obs, e1, e2, bne_self_eq_false, Bool.false_eq_true, if_false, if_true]
end Go.Proofs.YteepnlofbfccgaaDoor.Pr.Pure

