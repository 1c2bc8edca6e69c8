/-
What is proved: parts of the law FnExactCavesText: what the functions that it reaches compute, and the plain law.
Conditions: those of each theorem.
-/
import Derived.Test.YteepnlofbfccgaaDoorCFnExactCavesText4
/-
What is proved: FnExactCavesText.Pure: the program's CavesText and the reference's answer the same.
Conditions: sizes as the types allow.
-/
namespace Go.Proofs.YteepnlofbfccgaaDoor.Pr.Pure
open Go.RowKit Go.Proofs.YteepnlofbfccgaaDoorW.PrintWords Go.Proofs.YteepnlofbfccgaaDoorW.PrintLast Go.Proofs.YteepnlofbfccgaaDoorW.PrintMore Go.Proofs.YteepnlofbfccgaaDoorW.Opens
set_option linter.unusedVariables false
theorem allRows (l : List S26) : ∀ (d : Nat) (i : Int), rowsF l d i = true → l.length ≤ 10 ∧ ∀ j, i ≤ j → j < i + d → rowB (rd_T26 l j) = true
  | 0, i, h => by
    have := of_decide_eq_true (p := (l.length : Int) ≤ 10) h
    exact ⟨by omega, fun j h1 h2 => by omega⟩
  | d + 1, i, h => by
    rw [rowsF_succ] at h
    by_cases c : rowB (rd_T26 l i) = true
    · rw [if_pos c] at h
      have h' : rowsF l d (i + 1) = true := by
        split at h
        · split at h
          · exact h
          · cases h
        · exact h
      obtain ⟨h1, h2⟩ := allRows l d (i + 1) h'
      refine ⟨h1, fun j h3 h4 => ?_⟩
      by_cases e : j = i
      · rw [e]
        exact c
      · exact h2 j (by omega) (by omega)
    · rw [if_neg c] at h
      cases h
theorem cLine_len {c : List UInt8} {L D G : Int} (h : row c L D G = true) : (cLine c L D G).length ≤ 400 := by
  obtain ⟨hw, hL0, hL1, hD0, hD1, hG0, hG1⟩ := row_facts h
  have hD2 : D ≤ 20000 := by unfold mn at hD1; split at hD1 <;> omega
  have hc := isW_len hw
  have p1 := itoa_len (x := L / 10) (by omega) (by omega)
  have p2 := itoa_len (x := D / 10) (by omega) (by omega)
  have p3 := itoa_len (x := G) (by omega) (by omega)
  unfold cLine lineL
  generalize Lib.itoa (L / 10) = p at *
  generalize Lib.itoa (D / 10) = q at *
  generalize Lib.itoa G = g at *
  split
  · simp only [List.length_append, List.length_cons, List.length_nil]
    omega
  · split <;> simp only [List.length_append, List.length_cons, List.length_nil] <;> omega
/-- A row's line. -/
def rowL (x : S26) : List UInt8 := cLine x.f0.data.toList x.f1 x.f2 x.f3
/-- The lines of rows, behind a text. -/
def textL : List S26 → List UInt8 → List UInt8
  | [], acc => acc
  | x :: xs, acc => textL xs (acc ++ (rowL x ++ [10]))
theorem rowL_impl {x : S26} (h : rowB x = true) (hs : x.f0.size ≤ 1048576) : impl_caveLine.f x.f0 x.f1 x.f2 x.f3 = some (M (rowL x)) ∧ (rowL x).length ≤ 400 := by
  unfold rowL
  unfold rowB at h
  obtain ⟨l, hl⟩ := ex_M x.f0
  rw [hl] at hs h ⊢
  rw [M_size] at hs
  rw [M_data] at h ⊢
  exact ⟨line_impl h (by omega), cLine_len h⟩
theorem rowL_spec {x : S26} (h : rowB x = true) (hs : x.f0.size ≤ 1048576) {k : Nat} (hk : 20 ≤ k) : spec_l26Line.f k x.f0 x.f1 x.f2 x.f3 = some (M (rowL x)) := by
  unfold rowL
  unfold rowB at h
  obtain ⟨l, hl⟩ := ex_M x.f0
  rw [hl] at hs h ⊢
  rw [M_size] at hs
  rw [M_data] at h ⊢
  exact line_spec h (by omega) hk
theorem li10 : (⟨#[10]⟩ : ByteArray) = M [10] := rfl
theorem text_impl : ∀ (l : List S26) (acc : List UInt8), (∀ x, x ∈ l → rowB x = true ∧ x.f0.size ≤ 1048576) → acc.length + 500 * l.length ≤ 1000000 → linesF_ l acc = some (textL l acc)
  | [], acc, _, _ => rfl
  | x :: xs, acc, h, hb => by
    obtain ⟨h1, h2⟩ := h x (List.mem_cons_self ..)
    obtain ⟨e, hl⟩ := rowL_impl h1 h2
    rw [List.length_cons] at hb
    unfold linesF_ textL
    rw [e, obs, M_size, if_pos (by omega), li10, sc_M, M_data]
    exact text_impl xs _ (fun y hy => h y (List.mem_cons_of_mem _ hy)) (by rw [List.length_append, List.length_append, List.length_singleton]; omega)
theorem text_spec (m : List S26) (hm : ∀ x, x ∈ m → rowB x = true ∧ x.f0.size ≤ 1048576) (hl : m.length ≤ 10) (d : Nat) : ∀ (k i : Nat) (acc : List UInt8), i + d = m.length → d + 20 < k → acc.length + 500 * d ≤ 1000000 →
    spec_CavesText.l0 k m (M acc) i = some (M (textL (m.drop i) acc), true) := by
  induction d with
  | zero =>
    intro k i acc hd hk hb
    obtain ⟨k, rfl⟩ : ∃ m, k = m + 1 := ⟨k - 1, by omega⟩
    simp only [spec_CavesText.l0]
    rw [if_neg (by omega), List.drop_of_length_le (by omega)]
    rfl
  | succ d ih =>
    intro k i acc hd hk hb
    obtain ⟨k, rfl⟩ : ∃ m, k = m + 1 := ⟨k - 1, by omega⟩
    have hlt : i < m.length := by omega
    have ex : rd_T26 m (i : Int) = m[i] := by
      show m.getD ((i : Int)).toNat _ = _
      rw [Int.toNat_natCast, List.getD_eq_getElem?_getD, List.getElem?_eq_getElem hlt]
      rfl
    obtain ⟨h1, h2⟩ := hm _ (List.getElem_mem hlt)
    have hr := (rowL_impl h1 h2).2
    rw [List.drop_eq_getElem_cons hlt]
    simp only [spec_CavesText.l0]
    rw [if_pos (by omega), if_pos (by omega), ex, rowL_spec h1 h2 (by omega), obs, M_size, M_size, if_pos (by omega), li10, sc_M, M_size, if_pos (by rw [List.length_append]; omega), sc_M, w64 (x := (i : Int) + 1) (by omega) (by omega), show ((i : Int) + 1) = ((i + 1 : Nat) : Int) by omega]
    rw [ih k (i + 1) _ (by omega) (by omega) (by rw [List.length_append, List.length_append, List.length_singleton]; omega), List.append_assoc]
    rfl
theorem text_both {m : List S26} (hm : ∀ x, x ∈ m → x.f0.size ≤ 1048576) (hl : m.length ≤ 1048576) :
    ∃ r b, ∀ k, 1048590 + m.length + m.length ≤ k → spec_CavesText.f k m = some (r, b) ∧ impl_CavesText.f k m = some (r, b) := by
  by_cases c : caves m = true
  · obtain ⟨hl10, hall⟩ := allRows m m.length 0 c
    have hm2 : ∀ x, x ∈ m → rowB x = true ∧ x.f0.size ≤ 1048576 := fun x hx => by
      refine ⟨?_, hm x hx⟩
      obtain ⟨j, hj, rfl⟩ := List.mem_iff_getElem.1 hx
      have := hall j (by omega) (by omega)
      rw [show rd_T26 m (j : Int) = m[j] from by
        show m.getD ((j : Int)).toNat _ = _
        rw [Int.toNat_natCast, List.getD_eq_getElem?_getD, List.getElem?_eq_getElem hj]
        rfl] at this
      exact this
    refine ⟨M (textL m []), true, fun k hk => ?_⟩
    unfold spec_CavesText.f impl_CavesText.f
    have e := text_spec m hm2 hl10 m.length k 0 [] (by omega) (by omega) (by rw [List.length_nil]; omega)
    rw [goodC_eq hm hl (by omega), areC_eq hm hl (by omega), obs, obs, if_pos c, if_pos c, text_impl m [] hm2 (by rw [List.length_nil]; omega), obs]
    exact ⟨e, rfl⟩
  · refine ⟨⟨#[]⟩, false, fun k hk => ?_⟩
    unfold spec_CavesText.f impl_CavesText.f
    rw [goodC_eq hm hl (by omega), areC_eq hm hl (by omega), obs, obs, if_neg c, if_neg c]
    exact ⟨rfl, rfl⟩
theorem FnExactCavesText : FnExactCavesText.Pure := by
  intro l hw
  obtain ⟨_, hb, hwf⟩ := hw
  obtain ⟨K0, hK0⟩ : ∃ K0, K0 = 1048590 + l.length + l.length := ⟨_, rfl⟩
  obtain ⟨t, e, ht⟩ := szCaveRowS_eq (l := l) (fun x hx => (hwf x hx).1) (by omega) (k := K0 + 1) (by omega)
  refine ⟨K0 + 1, ?_⟩
  unfold laws_FnExactCavesText.f
  rw [e, obs]
  by_cases c : t < 0
  · rw [if_pos c]
  · rw [if_neg c]
    obtain ⟨hl, hx⟩ := ht (by omega)
    have hlen : (l.map cvCaveRow).length = l.length := List.length_map _
    have hm : ∀ x, x ∈ l.map cvCaveRow → x.f0.size ≤ 1048576 := fun x h => by
      obtain ⟨y, hy, rfl⟩ := List.mem_map.1 h
      exact hx y hy
    obtain ⟨r, b, hk⟩ := text_both hm (by omega)
    obtain ⟨e1, e2⟩ := hk (K0 + 1) (by omega)
    have t0 : ∀ k, K0 ≤ k → laws_toCaveRowS.f k l = some (l.map cvCaveRow) := fun k hk => toCaveRowS_eq hb (by omega)
    have e3 : ∀ k, K0 ≤ k → laws_eqCaveRowS.f k (l.map cvCaveRow) (l.map cvCaveRow) = some true := fun k h => eqCaveRowS_eq (by omega) (by omega)
    have hj0 : laws_FnExactCavesText.j0 (K0 + 1) l (l.map cvCaveRow) false = some true := by
      simp only [laws_FnExactCavesText.j0, Bool.false_eq_true, if_false, t0 _ (Nat.le_refl K0), e3 _ (Nat.le_refl K0), obs, if_true]
    simp only [obs, t0 _ (Nat.le_succ K0), e1, e2, bne_self_eq_false, if_true]
    exact hj0
end Go.Proofs.YteepnlofbfccgaaDoor.Pr.Pure

