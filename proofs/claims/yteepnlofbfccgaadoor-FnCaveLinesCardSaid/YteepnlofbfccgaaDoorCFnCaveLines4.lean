/-
What is proved: parts of the law FnCaveLines: what the functions that it reaches compute, and the plain law.
Conditions: those of each theorem.
-/
import Derived.Test.YteepnlofbfccgaaDoorCFnCaveLines3
namespace Go.Proofs.YteepnlofbfccgaaDoor.Pr.Pure
open Go.RowKit Go.Proofs.YteepnlofbfccgaaDoorW.PrintWords Go.Proofs.YteepnlofbfccgaaDoorW.PrintLast Go.Proofs.YteepnlofbfccgaaDoorW.PrintMore Go.Lib Go.Proofs.YteepnlofbfccgaaDoor.Log
set_option linter.unusedVariables false
set_option linter.unusedSimpArgs false
def lineL (c p q g : List UInt8) (L G : Int) : List UInt8 :=
 if L = 0 then c ++ [58, 32, 110, 111, 116, 32, 115, 117, 114, 118, 101, 121, 101, 100]
 else if G = 1 then c ++ [58, 32] ++ p ++ [32, 109, 32, 108, 111, 110, 103, 44, 32] ++ q ++ [32, 109, 32, 100, 101, 101, 112, 44, 32] ++ g ++ [32, 108, 101, 103]
 else c ++ [58, 32] ++ p ++ [32, 109, 32, 108, 111, 110, 103, 44, 32] ++ q ++ [32, 109, 32, 100, 101, 101, 112, 44, 32] ++ g ++ [32, 108, 101, 103] ++ [115]
def cLine (c : List UInt8) (L D G : Int) : List UInt8 := lineL c (itoa (L / 10)) (itoa (D / 10)) (itoa G) L G
theorem tdiv10 {x : Int} (h0 : 0 ≤ x) (h1 : x ≤ 1000000) : wrap64 (Int.tdiv x 10) = x / 10 := by
 rw [Int.tdiv_eq_ediv_of_nonneg h0]
 exact w64 (by omega) (by omega)
theorem num_int {x : Int} (h0 : 0 ≤ x) (h1 : x ≤ 1000000) {k : Nat} (hk : 20 ≤ k) : spec_l1Num.f k x = some (M (itoa x)) := by
 obtain ⟨n, rfl⟩ : ∃ n : Nat, x = n := ⟨x.toNat, by omega⟩
 rw [itoa_nat]
 exact num_of (by omega) hk
theorem itoa_len {x : Int} (h0 : 0 ≤ x) (h1 : x ≤ 1000000) : (itoa x).length ≤ 40 := by
 obtain ⟨n, rfl⟩ : ∃ n : Nat, x = n := ⟨x.toNat, by omega⟩
 rw [itoa_nat]
 exact Nat.le_trans (digits_len_aux 6 n (by omega)) (by omega)
theorem li0 : (⟨#[58, 32, 110, 111, 116, 32, 115, 117, 114, 118, 101, 121, 101, 100]⟩ : ByteArray) = M [58, 32, 110, 111, 116, 32, 115, 117, 114, 118, 101, 121, 101, 100] := rfl
theorem li1 : (⟨#[58, 32]⟩ : ByteArray) = M [58, 32] := rfl
theorem li2 : (⟨#[32, 109, 32, 108, 111, 110, 103, 44, 32]⟩ : ByteArray) = M [32, 109, 32, 108, 111, 110, 103, 44, 32] := rfl
theorem li3 : (⟨#[32, 109, 32, 100, 101, 101, 112, 44, 32]⟩ : ByteArray) = M [32, 109, 32, 100, 101, 101, 112, 44, 32] := rfl
theorem li4 : (⟨#[32, 108, 101, 103]⟩ : ByteArray) = M [32, 108, 101, 103] := rfl
theorem li5 : (⟨#[115]⟩ : ByteArray) = M [115] := rfl
theorem isW_len {c : List UInt8} (h : isW c = true) : c.length ≤ 10 := by
 unfold isW at h
 simp only [Bool.and_eq_true, decide_eq_true_eq] at h
 exact h.1.2
theorem line_impl {c : List UInt8} {L D G : Int} (h : row c L D G = true) (hl : c.length ≤ 4611686018427387904) : impl_caveLine.f (M c) L D G = some (M (cLine c L D G)) := by
 obtain ⟨hw, hL0, hL1, hD0, hD1, hG0, hG1⟩ := row_facts h
 have hD2 : D ≤ 20000 := by unfold mn at hD1; split at hD1 <;> omega
 have hc := isW_len hw
 clear h hw hD1
 have p1 := itoa_len (x := L / 10) (by omega) (by omega)
 have p2 := itoa_len (x := D / 10) (by omega) (by omega)
 have p3 := itoa_len (x := G) (by omega) (by omega)
 have q1 := decimal_eq (a := L / 10) (by omega) (by omega)
 have q2 := decimal_eq (a := D / 10) (by omega) (by omega)
 have q3 := decimal_eq (a := G) (by omega) (by omega)
 unfold impl_caveLine.f cLine lineL
 rw [tdiv10 hL0 hL1, tdiv10 hD0 (by omega), q1, q2, q3]
 generalize itoa (L / 10) = p at *
 generalize itoa (D / 10) = q at *
 generalize itoa G = g at *
 by_cases e : L = 0
 ·
  rw [if_pos e, if_pos e, M_size, if_pos (by omega), li0, sc_M]
 ·
  rw [if_neg e, if_neg e, M_size, if_pos (by omega), obs, li1, li2, li3, li4, li5]
  simp only [sc_M]
  rw [if_pos (by simp only [M_size, List.length_append, List.length_cons, List.length_nil]; omega), if_pos (by simp only [M_size, List.length_append, List.length_cons, List.length_nil]; omega), obs]
  simp only [sc_M]
  rw [if_pos (by simp only [M_size, List.length_append, List.length_cons, List.length_nil]; omega), if_pos (by simp only [M_size, List.length_append, List.length_cons, List.length_nil]; omega), obs]
  simp only [sc_M]
  rw [if_pos (by simp only [M_size, List.length_append, List.length_cons, List.length_nil]; omega), if_pos (by simp only [M_size, List.length_append, List.length_cons, List.length_nil]; omega)]
  by_cases e1 : G = 1
  ·
   have : ¬ (G ≠ 1) := by omega
   first | rw [if_pos e1, if_pos e1] | rw [if_neg this, if_pos e1]
  ·
   have : G ≠ 1 := e1
   first | rw [if_neg e1, if_neg e1, if_pos (by simp only [M_size, List.length_append, List.length_cons, List.length_nil]; omega)] | rw [if_neg e1, if_pos this, if_pos (by simp only [M_size, List.length_append, List.length_cons, List.length_nil]; omega)]
theorem line_spec {c : List UInt8} {L D G : Int} {k : Nat} (h : row c L D G = true) (hl : c.length ≤ 4611686018427387904) (hk : 20 ≤ k) : spec_l26Line.f k (M c) L D G = some (M (cLine c L D G)) := by
 obtain ⟨hw, hL0, hL1, hD0, hD1, hG0, hG1⟩ := row_facts h
 have hD2 : D ≤ 20000 := by unfold mn at hD1; split at hD1 <;> omega
 have hc := isW_len hw
 clear h hw hD1
 have p1 := itoa_len (x := L / 10) (by omega) (by omega)
 have p2 := itoa_len (x := D / 10) (by omega) (by omega)
 have p3 := itoa_len (x := G) (by omega) (by omega)
 have q1 := num_int (x := L / 10) (by omega) (by omega) hk
 have q2 := num_int (x := D / 10) (by omega) (by omega) hk
 have q3 := num_int (x := G) (by omega) (by omega) hk
 unfold spec_l26Line.f cLine lineL
 rw [tdiv10 hL0 hL1, tdiv10 hD0 (by omega), q1, q2, q3]
 generalize itoa (L / 10) = p at *
 generalize itoa (D / 10) = q at *
 generalize itoa G = g at *
 by_cases e : L = 0
 ·
  rw [if_pos e, if_pos e, M_size, if_pos (by omega), li0, sc_M]
 ·
  rw [if_neg e, if_neg e, M_size, if_pos (by omega), obs, li1, li2, li3, li4, li5]
  simp only [sc_M]
  rw [if_pos (by simp only [M_size, List.length_append, List.length_cons, List.length_nil]; omega), if_pos (by simp only [M_size, List.length_append, List.length_cons, List.length_nil]; omega), obs]
  simp only [sc_M]
  rw [if_pos (by simp only [M_size, List.length_append, List.length_cons, List.length_nil]; omega), if_pos (by simp only [M_size, List.length_append, List.length_cons, List.length_nil]; omega), obs]
  simp only [sc_M]
  rw [if_pos (by simp only [M_size, List.length_append, List.length_cons, List.length_nil]; omega), if_pos (by simp only [M_size, List.length_append, List.length_cons, List.length_nil]; omega)]
  by_cases e1 : G = 1
  ·
   rw [if_pos e1, if_pos e1]
  ·
   rw [if_neg e1, if_neg e1, if_pos (by simp only [M_size, List.length_append, List.length_cons, List.length_nil]; omega)]
end Go.Proofs.YteepnlofbfccgaaDoor.Pr.Pure

namespace Go.Proofs.YteepnlofbfccgaaDoor.Pr.Pure
open Go.RowKit Go.Proofs.YteepnlofbfccgaaDoorW.PrintWords Go.Proofs.YteepnlofbfccgaaDoorW.PrintLast Go.Proofs.YteepnlofbfccgaaDoorW.PrintMore
set_option linter.unusedVariables false
theorem allRows (l : List S26) : ∀ (d : Nat) (i : Int), rowsF l d i = true → l.length ≤ 10 ∧ ∀ j, i ≤ j → j < i + d → rowB (rd_T26 l j) = true
 | 0, i, h => by
  have := of_decide_eq_true (p := (l.length : Int) ≤ 10) h
  exact ⟨by omega, fun j h1 h2 => by omega⟩
 | d + 1, i, h => by
  rw [rowsF_succ] at h
  by_cases c : rowB (rd_T26 l i) = true
  ·
   rw [if_pos c] at h
   have h' : rowsF l d (i + 1) = true := by
    split at h
    ·
     split at h
     ·
      exact h
     ·
      cases h
    ·
     exact h
   obtain ⟨h1, h2⟩ := allRows l d (i + 1) h'
   refine ⟨h1, fun j h3 h4 => ?_⟩
   by_cases e : j = i
   ·
    rw [e]
    exact c
   ·
    exact h2 j (by omega) (by omega)
  ·
   rw [if_neg c] at h
   cases h
theorem cLine_len {c : List UInt8} {L D G : Int} (h : row c L D G = true) : (cLine c L D G).length ≤ 400 := by
 obtain ⟨hw, hL0, hL1, hD0, hD1, hG0, hG1⟩ := row_facts h
 have hD2 : D ≤ 20000 := by unfold mn at hD1; split at hD1 <;> omega
 have hc := isW_len hw
 have p1 := itoa_len (x := L / 10) (by omega) (by omega)
 have p2 := itoa_len (x := D / 10) (by omega) (by omega)
 have p3 := itoa_len (x := G) (by omega) (by omega)
 unfold cLine lineL
 generalize Lib.itoa (L / 10) = p at *
 generalize Lib.itoa (D / 10) = q at *
 generalize Lib.itoa G = g at *
 split
 ·
  simp only [List.length_append, List.length_cons, List.length_nil]
  omega
 ·
  split <;> simp only [List.length_append, List.length_cons, List.length_nil] <;> omega
def rowL (x : S26) : List UInt8 := cLine x.f0.data.toList x.f1 x.f2 x.f3
def textL : List S26 → List UInt8 → List UInt8
 | [], acc => acc
 | x :: xs, acc => textL xs (acc ++ (rowL x ++ [10]))
theorem rowL_impl {x : S26} (h : rowB x = true) (hs : x.f0.size ≤ 1048576) : impl_caveLine.f x.f0 x.f1 x.f2 x.f3 = some (M (rowL x)) ∧ (rowL x).length ≤ 400 := by
 unfold rowL
 unfold rowB at h
 obtain ⟨l, hl⟩ := ex_M x.f0
 rw [hl] at hs h ⊢
 rw [M_size] at hs
 rw [M_data] at h ⊢
 exact ⟨line_impl h (by omega), cLine_len h⟩
theorem rowL_spec {x : S26} (h : rowB x = true) (hs : x.f0.size ≤ 1048576) {k : Nat} (hk : 20 ≤ k) : spec_l26Line.f k x.f0 x.f1 x.f2 x.f3 = some (M (rowL x)) := by
 unfold rowL
 unfold rowB at h
 obtain ⟨l, hl⟩ := ex_M x.f0
 rw [hl] at hs h ⊢
 rw [M_size] at hs
 rw [M_data] at h ⊢
 exact line_spec h (by omega) hk
theorem li10 : (⟨#[10]⟩ : ByteArray) = M [10] := rfl
theorem text_impl : ∀ (l : List S26) (acc : List UInt8), (∀ x, x ∈ l → rowB x = true ∧ x.f0.size ≤ 1048576) → acc.length + 500 * l.length ≤ 1000000 → linesF_ l acc = some (textL l acc)
 | [], acc, _, _ => rfl
 | x :: xs, acc, h, hb => by
  obtain ⟨h1, h2⟩ := h x (List.mem_cons_self ..)
  obtain ⟨e, hl⟩ := rowL_impl h1 h2
  rw [List.length_cons] at hb
  unfold linesF_ textL
  rw [e, obs, M_size, if_pos (by omega), li10, sc_M, M_data]
  exact text_impl xs _ (fun y hy => h y (List.mem_cons_of_mem _ hy)) (by rw [List.length_append, List.length_append, List.length_singleton]; omega)
theorem text_spec (m : List S26) (hm : ∀ x, x ∈ m → rowB x = true ∧ x.f0.size ≤ 1048576) (hl : m.length ≤ 10) (d : Nat) : ∀ (k i : Nat) (acc : List UInt8), i + d = m.length → d + 20 < k → acc.length + 500 * d ≤ 1000000 →
  spec_CavesText.l0 k m (M acc) i = some (M (textL (m.drop i) acc), true) := by
 induction d with
 | zero =>
  intro k i acc hd hk hb
  obtain ⟨k, rfl⟩ : ∃ m, k = m + 1 := ⟨k - 1, by omega⟩
  simp only [spec_CavesText.l0]
  rw [if_neg (by omega), List.drop_of_length_le (by omega)]
  rfl
 | succ d ih =>
  intro k i acc hd hk hb
  obtain ⟨k, rfl⟩ : ∃ m, k = m + 1 := ⟨k - 1, by omega⟩
  have hlt : i < m.length := by omega
  have ex : rd_T26 m (i : Int) = m[i] := by
   show m.getD ((i : Int)).toNat _ = _
   rw [Int.toNat_natCast, List.getD_eq_getElem?_getD, List.getElem?_eq_getElem hlt]
   rfl
  obtain ⟨h1, h2⟩ := hm _ (List.getElem_mem hlt)
  have hr := (rowL_impl h1 h2).2
  rw [List.drop_eq_getElem_cons hlt]
  simp only [spec_CavesText.l0]
  rw [if_pos (by omega), if_pos (by omega), ex, rowL_spec h1 h2 (by omega), obs, M_size, M_size, if_pos (by omega), li10, sc_M, M_size, if_pos (by rw [List.length_append]; omega), sc_M, w64 (x := (i : Int) + 1) (by omega) (by omega), show ((i : Int) + 1) = ((i + 1 : Nat) : Int) by omega]
  rw [ih k (i + 1) _ (by omega) (by omega) (by rw [List.length_append, List.length_append, List.length_singleton]; omega), List.append_assoc]
  rfl
end Go.Proofs.YteepnlofbfccgaaDoor.Pr.Pure

namespace Go.Proofs.YteepnlofbfccgaaDoor.Pr.Pure
open Go.RowKit Go.Proofs.YteepnlofbfccgaaDoorW.PrintWords Go.Proofs.YteepnlofbfccgaaDoorW.PrintLast Go.Proofs.YteepnlofbfccgaaDoorW.PrintMore
set_option linter.unusedVariables false
set_option linter.unusedSimpArgs false
theorem gcd_impl : ∀ (k : Nat) (a b : Int), b.natAbs < k → -9223372036854775807 ≤ a → a ≤ 9223372036854775807 → -9223372036854775807 ≤ b → b ≤ 9223372036854775807 → impl_gcd.l0 k a b = some (Int.gcd a b : Int)
 | 0, _, _, h, _, _, _, _ => by omega
 | k + 1, a, b, h, ha, ha', hb, hb' => by
  simp only [impl_gcd.l0]
  by_cases e : b = 0
  ·
   rw [if_pos e]
   subst e
   simp only [impl_absolute.f, Option.bind_some]
   rw [w64 (by omega) (by omega), Int.gcd_zero_right]
   unfold mx
   split <;> (congr 1; omega)
  ·
   rw [if_neg e]
   have hm : (Int.tmod a b).natAbs = a.natAbs % b.natAbs := Int.natAbs_tmod a b
   have hlt : a.natAbs % b.natAbs < b.natAbs := Nat.mod_lt _ (by omega)
   rw [gcd_impl k b (Int.tmod a b) (by omega) hb hb' (by omega) (by omega)]
   congr 2
   rw [Int.gcd_comm a b]
   show Nat.gcd b.natAbs (Int.tmod a b).natAbs = Nat.gcd b.natAbs a.natAbs
   rw [hm, Nat.gcd_comm, ← Nat.gcd_rec]
theorem gcd_spec : ∀ (k : Nat) (a b : Int), b.toNat < k → 0 ≤ a → 0 ≤ b → spec_l23Common.l0 k a b = some (Int.gcd a b : Int)
 | 0, _, _, h, _, _ => by omega
 | k + 1, a, b, h, ha, hb => by
  simp only [spec_l23Common.l0]
  by_cases e : b > 0
  ·
   rw [if_pos e, if_neg (by omega)]
   have h1 : 0 ≤ Int.tmod a b := Int.tmod_nonneg b ha
   have h2 : Int.tmod a b < b := Int.tmod_lt_of_pos a e
   rw [gcd_spec k b (Int.tmod a b) (by omega) hb h1]
   congr 2
   rw [Int.gcd_comm a b]
   show Nat.gcd b.natAbs (Int.tmod a b).natAbs = Nat.gcd b.natAbs a.natAbs
   rw [Int.natAbs_tmod, Nat.gcd_comm, ← Nat.gcd_rec]
  ·
   rw [if_neg e]
   obtain rfl : b = 0 := by omega
   rw [Int.gcd_zero_right]
   congr 1
   omega
def red (a b : Int) : Int × Int := (Int.tdiv a (Int.gcd a b), Int.tdiv b (Int.gcd a b))
theorem tdiv_bd (a : Int) (g : Int) (hg : 1 ≤ g) {B : Int} (h1 : -B ≤ a) (h2 : a ≤ B) : -B ≤ Int.tdiv a g ∧ Int.tdiv a g ≤ B := by
 have h3 : (Int.tdiv a g).natAbs ≤ a.natAbs := by
  rw [Int.natAbs_tdiv]
  exact Nat.div_le_self _ _
 omega
theorem red_impl {k : Nat} {a b : Int} (hk : b.natAbs < k) (ha : -1000000000000 ≤ a) (ha' : a ≤ 1000000000000) (hb : 1 ≤ b) (hb' : b ≤ 1000000000000) : impl_reduced.f k a b = some (red a b) := by
 have hg : 1 ≤ (Int.gcd a b : Int) := by
  have : 0 < Int.gcd a b := Int.gcd_pos_of_ne_zero_right a (by omega)
  omega
 have h1 := tdiv_bd a _ hg ha ha'
 have h2 := tdiv_bd b _ hg (B := 1000000000000) (by omega) hb'
 unfold impl_reduced.f impl_gcd.f
 rw [gcd_impl k a b hk (by omega) (by omega) (by omega) (by omega)]
 simp only [Option.bind_some]
 rw [if_neg (by omega), w64 (by omega) (by omega), w64 (by omega) (by omega)]
 rfl
theorem red_spec {k : Nat} {a b : Int} (hk : b.natAbs < k) (ha : -1000000000000 ≤ a) (ha' : a ≤ 1000000000000) (hb : 1 ≤ b) (hb' : b ≤ 1000000000000) : spec_l23Reduce.f k a b = some (red a b) := by
 have hg : 1 ≤ (Int.gcd a b : Int) := by
  have : 0 < Int.gcd a b := Int.gcd_pos_of_ne_zero_right a (by omega)
  omega
 have h1 := tdiv_bd a _ hg ha ha'
 have h2 := tdiv_bd b _ hg (B := 1000000000000) (by omega) hb'
 have hm : spec_l1Most.f a (wrap64 (-a)) = some (a.natAbs : Int) := by
  unfold spec_l1Most.f
  rw [w64 (by omega) (by omega)]
  split <;> (congr 1; omega)
 unfold spec_l23Reduce.f spec_l23Common.f
 rw [hm]
 simp only [Option.bind_some]
 rw [gcd_spec k _ b (by omega) (by omega) (by omega)]
 have e : Int.gcd (a.natAbs : Int) b = Int.gcd a b := by
  show Nat.gcd (a.natAbs : Int).natAbs b.natAbs = Nat.gcd a.natAbs b.natAbs
  rw [Int.natAbs_natCast]
 rw [e]
 simp only [Option.bind_some]
 rw [if_neg (by omega), w64 (by omega) (by omega), w64 (by omega) (by omega)]
 rfl
end Go.Proofs.YteepnlofbfccgaaDoor.Pr.Pure

namespace Go.Proofs.YteepnlofbfccgaaDoor.Pr.Pure
open Go.RowKit Go.Proofs.YteepnlofbfccgaaDoorW.PrintWords Go.Proofs.YteepnlofbfccgaaDoorW.PrintLast Go.Proofs.YteepnlofbfccgaaDoorW.PrintMore
set_option linter.unusedVariables false
def sm (l : List S26) : Nat → Int → Int → Int → Int × Int
 | 0, _, a, b => (a, b)
 | d + 1, i, a, b => sm l d (i + 1) (wrap64 (a + (rd_T26 l i).f1)) (wrap64 (b + (rd_T26 l i).f3))
theorem sm_succ (l : List S26) (d : Nat) (i a b : Int) : sm l (d + 1) i a b = sm l d (i + 1) (wrap64 (a + (rd_T26 l i).f1)) (wrap64 (b + (rd_T26 l i).f3)) := rfl
theorem rowsF_allM (l : List S26) : ∀ (d : Nat) (i : Int), rowsF l d i = true → l.length ≤ 10 ∧ ∀ j, i ≤ j → j < i + d → rowB (rd_T26 l j) = true
 | 0, i, h => by
  have := of_decide_eq_true (p := (l.length : Int) ≤ 10) h
  exact ⟨by omega, fun j h1 h2 => by omega⟩
 | d + 1, i, h => by
  rw [rowsF_succ] at h
  by_cases c : rowB (rd_T26 l i) = true
  ·
   rw [if_pos c] at h
   have h' : rowsF l d (i + 1) = true := by
    split at h
    ·
     split at h
     ·
      exact h
     ·
      cases h
    ·
     exact h
   obtain ⟨h1, h2⟩ := rowsF_allM l d (i + 1) h'
   refine ⟨h1, fun j h3 h4 => ?_⟩
   by_cases e : j = i
   ·
    rw [e]
    exact c
   ·
    exact h2 j (by omega) (by omega)
  ·
   rw [if_neg c] at h
   cases h
theorem sm_bd (l : List S26) : ∀ (d : Nat) (i a b : Int), (∀ j, i ≤ j → j < i + d → rowB (rd_T26 l j) = true) → 0 ≤ a → 0 ≤ b → a + 1000000 * d ≤ 1000000000 → b + 9999 * d ≤ 1000000 →
  0 ≤ (sm l d i a b).1 ∧ (sm l d i a b).1 ≤ 1000000000 ∧ 0 ≤ (sm l d i a b).2 ∧ (sm l d i a b).2 ≤ 1000000
 | 0, i, a, b, _, h1, h2, h3, h4 => ⟨h1, by show a ≤ _; omega, h2, by show b ≤ _; omega⟩
 | d + 1, i, a, b, h, h1, h2, h3, h4 => by
  obtain ⟨_, f1, f2, _, _, f5, f6⟩ := row_facts (h i (by omega) (by omega))
  rw [sm_succ, w64 (by omega) (by omega), w64 (by omega) (by omega)]
  exact sm_bd l d (i + 1) _ _ (fun j h5 h6 => h j (by omega) (by omega)) (by omega) (by omega) (by omega) (by omega)
theorem mean_spec (l : List S26) (hs : ∀ x, x ∈ l → x.f0.size ≤ 1048576) (hl : l.length ≤ 1048576) (d : Nat) : ∀ (k : Nat) (i a b : Int), 0 ≤ i → i + d = l.length → 1048578 + l.length + d < k →
  ∃ k', 1048577 + l.length < k' ∧ spec_MeanLeg.l0 k l a b i = (if caves l = true then (if (sm l d i a b).2 = 0 then some (0, 0, false) else (spec_l23Reduce.f k' (sm l d i a b).1 (sm l d i a b).2).bind fun t => some (t.1, t.2, true)) else some (0, 0, false)) := by
 induction d with
 | zero =>
  intro k i a b h0 hd hk
  obtain ⟨k, rfl⟩ : ∃ m, k = m + 1 := ⟨k - 1, by omega⟩
  refine ⟨k, by omega, ?_⟩
  simp only [spec_MeanLeg.l0]
  rw [if_neg (by omega), goodC_eq hs hl (by omega), obs]
  rfl
 | succ d ih =>
  intro k i a b h0 hd hk
  obtain ⟨k, rfl⟩ : ∃ m, k = m + 1 := ⟨k - 1, by omega⟩
  simp only [spec_MeanLeg.l0]
  rw [if_pos (by omega), if_pos h0, w64 (x := i + 1) (by omega) (by omega), sm_succ]
  exact ih k (i + 1) _ _ (by omega) (by omega) (by omega)
theorem mean_impl (l : List S26) (hl : l.length ≤ 1048576) (d : Nat) : ∀ (k : Nat) (i a b : Int), 0 ≤ i → i + d = l.length → 1048578 + d < k →
  ∃ k', 1048577 < k' ∧ impl_MeanLeg.l0 k a b l (l.length : Int) i = (if (sm l d i a b).2 = 0 then some (0, 0, false) else (impl_reduced.f k' (sm l d i a b).1 (sm l d i a b).2).bind fun t => some (t.1, t.2, true)) := by
 induction d with
 | zero =>
  intro k i a b h0 hd hk
  obtain ⟨k, rfl⟩ : ∃ m, k = m + 1 := ⟨k - 1, by omega⟩
  refine ⟨k, by omega, ?_⟩
  simp only [impl_MeanLeg.l0]
  rw [if_neg (by omega)]
  rfl
 | succ d ih =>
  intro k i a b h0 hd hk
  obtain ⟨k, rfl⟩ : ∃ m, k = m + 1 := ⟨k - 1, by omega⟩
  simp only [impl_MeanLeg.l0]
  rw [if_pos (by omega), if_pos h0, if_pos (by omega), w64 (x := i + 1) (by omega) (by omega), sm_succ]
  exact ih k (i + 1) _ _ (by omega) (by omega) (by omega)
def longer (m : List S26) (a : Int) : Nat → Int → List ByteArray
 | 0, _ => []
 | d + 1, i => if (rd_T26 m i).f1 > a then (rd_T26 m i).f0 :: longer m a d (i + 1) else longer m a d (i + 1)
theorem longer_len (m : List S26) (a : Int) : ∀ (d : Nat) (i : Int), (longer m a d i).length ≤ d
 | 0, _ => Nat.le_refl _
 | d + 1, i => by
  unfold longer
  have := longer_len m a d (i + 1)
  split
  ·
   rw [List.length_cons]; omega
  ·
   omega
theorem longer_succ (m : List S26) (a : Int) (d : Nat) (i : Int) : longer m a (d + 1) i = if (rd_T26 m i).f1 > a then (rd_T26 m i).f0 :: longer m a d (i + 1) else longer m a d (i + 1) := rfl
theorem long_spec {m : List S26} (a : Int) (hl : m.length ≤ 1048576) (d : Nat) : ∀ (k : Nat) (i : Int) (out : List ByteArray), i + d = m.length → 0 ≤ i → out.length + d ≤ 1048576 → d < k →
  spec_CavesLongerThan.l0 k m a out i = some (out ++ longer m a d i, true) := by
 induction d with
 | zero =>
  intro k i out hd hi ho hk
  obtain ⟨k, rfl⟩ : ∃ m, k = m + 1 := ⟨k - 1, by omega⟩
  simp only [spec_CavesLongerThan.l0]
  rw [if_neg (by omega)]
  simp [longer]
 | succ d ih =>
  intro k i out hd hi ho hk
  obtain ⟨k, rfl⟩ : ∃ m, k = m + 1 := ⟨k - 1, by omega⟩
  simp only [spec_CavesLongerThan.l0]
  rw [if_pos (by omega), if_pos hi, w64 (by omega) (by omega), longer_succ]
  by_cases c : (rd_T26 m i).f1 > a
  ·
   rw [if_pos c, if_pos (by omega), if_pos c, ih k (i + 1) _ (by omega) (by omega) (by rw [List.length_append, List.length_singleton]; omega) (by omega), List.append_assoc]
   rfl
  ·
   rw [if_neg c, if_neg c]
   exact ih k (i + 1) out (by omega) (by omega) (by omega) (by omega)
theorem long_impl {m : List S26} (a : Int) (hl : m.length ≤ 1048576) (d : Nat) : ∀ (k : Nat) (i : Int) (out : List ByteArray), i + d = m.length → 0 ≤ i → out.length + d ≤ 1048576 → d < k →
  impl_CavesLongerThan.l0 k a out m (m.length : Int) i = some (out ++ longer m a d i, true) := by
 induction d with
 | zero =>
  intro k i out hd hi ho hk
  obtain ⟨k, rfl⟩ : ∃ m, k = m + 1 := ⟨k - 1, by omega⟩
  simp only [impl_CavesLongerThan.l0]
  rw [if_neg (by omega)]
  simp [longer]
 | succ d ih =>
  intro k i out hd hi ho hk
  obtain ⟨k, rfl⟩ : ∃ m, k = m + 1 := ⟨k - 1, by omega⟩
  simp only [impl_CavesLongerThan.l0]
  rw [if_pos (by omega), if_pos hi, if_pos (by omega), w64 (by omega) (by omega), longer_succ]
  by_cases c : (rd_T26 m i).f1 > a
  ·
   rw [if_pos c, if_pos (by omega), if_pos c, ih k (i + 1) _ (by omega) (by omega) (by rw [List.length_append, List.length_singleton]; omega) (by omega), List.append_assoc]
   rfl
  ·
   rw [if_neg c, if_neg c]
   exact ih k (i + 1) out (by omega) (by omega) (by omega) (by omega)
end Go.Proofs.YteepnlofbfccgaaDoor.Pr.Pure

namespace Go.Proofs.YteepnlofbfccgaaDoor.Pr
open Go.RowKit Go.Proofs.YteepnlofbfccgaaDoorW.PrintWords Go.Proofs.YteepnlofbfccgaaDoorW.PrintLast Go.Proofs.YteepnlofbfccgaaDoorW.PrintMore
attribute [local go_sem] max2_int min2_int max_two min_two max_three min_three max_four min_four   -- for this text's walks alone
set_option linter.unusedVariables false
set_option linter.unusedSimpArgs false
theorem eqA26 (d : Nat) (w : World) (x0 y0 : ByteArray) (x1 y1 : Int) (x2 y2 : Int) (x3 y3 : Int) :
  (Op.equalIn (d + 2) 26 (.agg #[.string x0, .int .i64 x1, .int .i64 x2, .int .i64 x3]) (.agg #[.string y0, .int .i64 y1, .int .i64 y2, .int .i64 y3])).run Tryd.prog w = .ok (x0.toList == y0.toList && (x1 == y1 && (x2 == y2 && (x3 == y3)))) w := by
 refine eqA_of Tryd.underlying26 (by kernel_rfl) ?_
 refine eqf_cons (by rfl) (by go_simp; rfl) (by go_simp; rfl) (by go_simp) ?_
 refine eqf_cons (by rfl) (by go_simp; rfl) (by go_simp; rfl) (by go_simp) ?_
 refine eqf_cons (by rfl) (by go_simp; rfl) (by go_simp; rfl) (by go_simp) ?_
 exact eqf_last (by rfl) (by go_simp; rfl) (by go_simp; rfl) (by go_simp)
structure CxR (W : World) (a b : Addr) (x y : S26) (W' : World) : Prop where
 bel : Below W.heap.size W W'
 x0 : W'.cell? a = some (.string x.f0)
 x1 : W'.cell? ⟨a.block, a.off + 1, none⟩ = some (.int .i64 x.f1)
 x2 : W'.cell? ⟨a.block, a.off + 2, none⟩ = some (.int .i64 x.f2)
 x3 : W'.cell? ⟨a.block, a.off + 3, none⟩ = some (.int .i64 x.f3)
 y0 : W'.cell? b = some (.string y.f0)
 y1 : W'.cell? ⟨b.block, b.off + 1, none⟩ = some (.int .i64 y.f1)
 y2 : W'.cell? ⟨b.block, b.off + 2, none⟩ = some (.int .i64 y.f2)
 y3 : W'.cell? ⟨b.block, b.off + 3, none⟩ = some (.int .i64 y.f3)
theorem CxR.step {W : World} {a b : Addr} {x y : S26} {W1 W2 : World} (h : CxR W a b x y W1) (hb : Below W1.heap.size W1 W2) : CxR W a b x y W2 :=
 ⟨below_step h.bel hb, (hb.cell (World.block_lt_of_cell? _ _ h.x0)).trans h.x0, (hb.cell (World.block_lt_of_cell? _ _ h.x1)).trans h.x1, (hb.cell (World.block_lt_of_cell? _ _ h.x2)).trans h.x2, (hb.cell (World.block_lt_of_cell? _ _ h.x3)).trans h.x3, (hb.cell (World.block_lt_of_cell? _ _ h.y0)).trans h.y0, (hb.cell (World.block_lt_of_cell? _ _ h.y1)).trans h.y1, (hb.cell (World.block_lt_of_cell? _ _ h.y2)).trans h.y2, (hb.cell (World.block_lt_of_cell? _ _ h.y3)).trans h.y3⟩
instance inhRow_ : Inhabited S26 := ⟨z26⟩
end Go.Proofs.YteepnlofbfccgaaDoor.Pr

namespace Go.Proofs.YteepnlofbfccgaaDoor.Pr.Pure
open Go.RowKit Go.Proofs.YteepnlofbfccgaaDoorW.PrintWords Go.Proofs.YteepnlofbfccgaaDoorW.PrintLast Go.Proofs.YteepnlofbfccgaaDoorW.PrintMore Go.Lib
set_option linter.unusedVariables false
theorem bits255 (x : Int) : 0 ≤ Go.bits .and .u64 x 255 ∧ Go.bits .and .u64 x 255 ≤ 255 := by
 have h : (BitVec.ofInt IntKind.u64.bits x &&& BitVec.ofInt IntKind.u64.bits 255).toNat ≤ 255 := by
  rw [BitVec.toNat_and]
  exact Nat.le_trans Nat.and_le_right (by decide)
 have e : Go.bits .and .u64 x 255 = IntKind.u64.wrap (((BitVec.ofInt IntKind.u64.bits x &&& BitVec.ofInt IntKind.u64.bits 255).toNat : Nat) : Int) := rfl
 rw [e]
 generalize (BitVec.ofInt IntKind.u64.bits x &&& BitVec.ofInt IntKind.u64.bits 255).toNat = n at h
 have e2 : IntKind.u64.wrap (n : Int) = (n : Int) := by
  have : IntKind.u64.wrap (n : Int) = (n : Int) % 18446744073709551616 := rfl
  omega
 rw [e2]
 omega
theorem rdI_mem (l : List Int) {i : Int} (h0 : 0 ≤ i) (h1 : i < l.length) : rd l i ∈ l := by
 unfold rd
 rw [List.getD_eq_getElem?_getD, List.getElem?_eq_getElem (by omega)]
 exact List.getElem_mem _
theorem rdB_mem (l : List ByteArray) {i : Int} (h0 : 0 ≤ i) (h1 : i < l.length) : rdOf ByteArray.empty l i ∈ l := by
 unfold rdOf
 rw [List.getD_eq_getElem?_getD, List.getElem?_eq_getElem (by omega)]
 exact List.getElem_mem _
theorem next_ok {c : List Int} (hc : ∀ x, x ∈ c → 0 ≤ x ∧ x ≤ 255) {p : Int} (h0 : 0 ≤ p) (h1 : p ≤ 1000000000) (s : Int) :
  ∃ r q, spec_l1Cur_next.f c p s = some (r, p + 1, q) ∧ 0 ≤ r ∧ r ≤ 255 := by
 have hw : wrap64 (p + 1) = p + 1 := w64 (by omega) (by omega)
 unfold spec_l1Cur_next.f
 rw [hw]
 by_cases a : p < (c.length : Int)
 ·
  have hb := hc _ (rdI_mem c h0 a)
  have hv : wrap64 (rd c p) = rd c p := w64 (by omega) (by omega)
  rw [if_pos a, if_pos h0]
  by_cases b : p + 1 ≤ (c.length : Int)
  ·
   rw [if_pos b, hv]
   exact ⟨_, _, rfl, hb.1, hb.2⟩
  ·
   rw [if_neg b]
   refine ⟨_, _, rfl, ?_⟩
   rw [w64 (by have := bits255; exact Int.le_trans (by decide) (this _).1) (Int.le_trans (bits255 _).2 (by decide))]
   exact bits255 _
 ·
  rw [if_neg a]
  by_cases b : p + 1 ≤ (c.length : Int)
  ·
   rw [if_pos b]
   exact ⟨_, _, rfl, by decide, by decide⟩
  ·
   rw [if_neg b]
   refine ⟨_, _, rfl, ?_⟩
   rw [w64 (by have := bits255; exact Int.le_trans (by decide) (this _).1) (Int.le_trans (bits255 _).2 (by decide))]
   exact bits255 _
theorem tmod_lt {a n : Int} (h : 0 ≤ a) (hn : 0 < n) : 0 ≤ Int.tmod a n ∧ Int.tmod a n < n :=
 ⟨Int.tmod_nonneg _ h, Int.tmod_lt_of_pos _ hn⟩
theorem pick_ok {c : List Int} (hc : ∀ x, x ∈ c → 0 ≤ x ∧ x ≤ 255) {p : Int} (h0 : 0 ≤ p) (h1 : p ≤ 900000000) (s : Int) {n : Int} (hn : 0 < n) :
  ∃ r p1 q, spec_l1Cur_pick.f c p s n = some (r, p1, q) ∧ (0 ≤ r ∧ r < n) ∧ p ≤ p1 ∧ p1 ≤ p + 2 := by
 unfold spec_l1Cur_pick.f
 by_cases a : n ≤ 1
 ·
  rw [if_pos a]
  exact ⟨0, p, s, rfl, ⟨by decide, hn⟩, by omega, by omega⟩
 ·
  obtain ⟨r, q, e, b1, b2⟩ := next_ok hc h0 (by omega) s
  have n0 : ¬ n = 0 := by omega
  rw [if_neg a, e, obs]
  by_cases d : n > 200
  ·
   obtain ⟨r2, q2, e2, d1, d2⟩ := next_ok hc (p := p + 1) (by omega) (by omega) q
   rw [if_pos d, e2, obs, if_neg n0]
   have hw : wrap64 (wrap64 (r * 256) + r2) = r * 256 + r2 := by
    rw [w64 (x := r * 256) (by omega) (by omega), w64 (by omega) (by omega)]
   refine ⟨_, p + 1 + 1, q2, rfl, ?_, by omega, by omega⟩
   simp only
   rw [hw]
   exact tmod_lt (by omega) hn
  ·
   rw [if_neg d, if_neg n0]
   exact ⟨_, p + 1, q, rfl, tmod_lt b1 hn, by omega, by omega⟩
theorem one_ok {c : List Int} (hc : ∀ x, x ∈ c → 0 ≤ x ∧ x ≤ 255) {p : Int} (h0 : 0 ≤ p) (h1 : p ≤ 900000000) (s : Int) {n : Int} (hn : 0 < n) :
  ∃ b p1 q, spec_l1Cur_one.f c p s n = some (b, p1, q) ∧ p ≤ p1 ∧ p1 ≤ p + 2 := by
 obtain ⟨r, p1, q, e, _, a1, a2⟩ := pick_ok hc h0 h1 s hn
 unfold spec_l1Cur_one.f
 rw [e, obs]
 exact ⟨_, p1, q, rfl, a1, a2⟩
theorem among_ok {c : List Int} (hc : ∀ x, x ∈ c → 0 ≤ x ∧ x ≤ 255) {p : Int} (h0 : 0 ≤ p) (h1 : p ≤ 900000000) (s : Int) {l : List Int} (hl : 0 < l.length) :
  ∃ r p1 q, spec_l1Cur_among.f c p s l = some (r, p1, q) ∧ r ∈ l ∧ p ≤ p1 ∧ p1 ≤ p + 2 := by
 obtain ⟨r, p1, q, e, b, a1, a2⟩ := pick_ok hc h0 h1 s (n := (l.length : Int)) (by omega)
 unfold spec_l1Cur_among.f
 rw [e, obs, if_pos b.1, if_pos b.2]
 exact ⟨_, p1, q, rfl, rdI_mem l b.1 b.2, a1, a2⟩
theorem of_ok {c : List Int} (hc : ∀ x, x ∈ c → 0 ≤ x ∧ x ≤ 255) {p : Int} (h0 : 0 ≤ p) (h1 : p ≤ 900000000) (s : Int) {l : List ByteArray} (hl : 0 < l.length) :
  ∃ r p1 q, spec_l1Cur_of.f c p s l = some (r, p1, q) ∧ r ∈ l ∧ p ≤ p1 ∧ p1 ≤ p + 2 := by
 obtain ⟨r, p1, q, e, b, a1, a2⟩ := pick_ok hc h0 h1 s (n := (l.length : Int)) (by omega)
 unfold spec_l1Cur_of.f
 rw [e, obs, if_pos b.1, if_pos b.2]
 exact ⟨_, p1, q, rfl, rdB_mem l b.1 b.2, a1, a2⟩
theorem of3_size {r : ByteArray} {l : List ByteArray} (h : r ∈ l) (hl : ∀ x, x ∈ l → x.size ≤ 16) : r.size ≤ 16 := hl r h
theorem caveRow_j0 {c : List Int} (hc : ∀ x, x ∈ c → 0 ≤ x ∧ x ≤ 255) {p : Int} (h0 : 0 ≤ p) (h1 : p ≤ 800000000) (s : Int) {n : ByteArray} (hn : n.size ≤ 16) (a b d : Int) (k : Nat) :
  ∃ m a1 b1 d1 p1 q, spec_l1Cur_caveRow.j0 (k + 1) c p s n a b d = some (m, a1, b1, d1, p1, q) ∧ m.size ≤ 16 ∧ p ≤ p1 ∧ p1 ≤ p + 4 := by
 simp only [spec_l1Cur_caveRow.j0]
 obtain ⟨r, p1, q, e, _, a1, a2⟩ := pick_ok hc h0 (by omega) s (n := 60) (by decide)
 rw [e, obs]
 simp only
 by_cases c0 : r = 0
 ·
  rw [if_pos c0]
  obtain ⟨r2, p2, q2, e2, hm, b1, b2⟩ := of_ok hc (p := p1) (by omega) (by omega) q (l := [(⟨#[]⟩ : ByteArray), (⟨#[65]⟩ : ByteArray), (⟨#[97, 98, 99, 100, 101, 102, 103, 104, 105, 106, 107]⟩ : ByteArray)]) (by decide)
  rw [e2, obs]
  refine ⟨_, _, _, _, p2, _, rfl, of3_size hm ?_, by omega, by omega⟩
  intro x hx
  simp only [List.mem_cons, List.not_mem_nil, or_false] at hx
  rcases hx with rfl | rfl | rfl <;> decide
 ·
  rw [if_neg c0]
  by_cases c1 : r = 1
  ·
   rw [if_pos c1]
   obtain ⟨r2, p2, q2, e2, hm, b1, b2⟩ := among_ok hc (p := p1) (by omega) (by omega) q (l := [(-1), 0, 1000001]) (by decide)
   rw [e2, obs]
   exact ⟨_, _, _, _, p2, _, rfl, hn, by omega, by omega⟩
  ·
   rw [if_neg c1]
   by_cases c2 : r = 2
   ·
    rw [if_pos c2]
    obtain ⟨r2, p2, q2, e2, hm, b1, b2⟩ := among_ok hc (p := p1) (by omega) (by omega) q (l := [(-1), wrap64 (a + 1), 20001]) (by simp)
    rw [e2, obs]
    exact ⟨_, _, _, _, p2, _, rfl, hn, by omega, by omega⟩
   ·
    rw [if_neg c2]
    by_cases c3 : r = 3
    ·
     rw [if_pos c3]
     obtain ⟨r2, p2, q2, e2, hm, b1, b2⟩ := among_ok hc (p := p1) (by omega) (by omega) q (l := [(-1), 0, 10000]) (by decide)
     rw [e2, obs]
     exact ⟨_, _, _, _, p2, _, rfl, hn, by omega, by omega⟩
    ·
     rw [if_neg c3]
     exact ⟨_, _, _, _, p1, _, rfl, hn, by omega, by omega⟩
theorem caveRow_ok {c : List Int} (hc : ∀ x, x ∈ c → 0 ≤ x ∧ x ≤ 255) {p : Int} (h0 : 0 ≤ p) (h1 : p ≤ 700000000) (s : Int) {n : ByteArray} (hn : n.size ≤ 16) (k : Nat) :
  ∃ m a1 b1 d1 p1 q, spec_l1Cur_caveRow.f (k + 1) c p s n = some (m, a1, b1, d1, p1, q) ∧ m.size ≤ 16 ∧ p ≤ p1 ∧ p1 ≤ p + 10 := by
 unfold spec_l1Cur_caveRow.f
 obtain ⟨r, p1, q, e, _, a1, a2⟩ := among_ok hc h0 (by omega) s (l := [0, 1, 105, 12030, 12030, 999900]) (by decide)
 rw [e, obs]
 simp only
 by_cases c0 : r > 0
 ·
  rw [if_pos c0]
  obtain ⟨r2, p2, q2, e2, _, b1, b2⟩ := among_ok hc (p := p1) (by omega) (by omega) q (l := [1, 2, 410, 9999]) (by decide)
  rw [e2, obs]
  simp only
  obtain ⟨r3, p3, q3, e3, _, b3, b4⟩ := among_ok hc (p := p2) (by omega) (by omega) q2 (l := [0, 9, 845, 20000]) (by decide)
  rw [e3, obs]
  simp only
  obtain ⟨t, ht⟩ : ∃ t, spec_l1Least.f r r3 = some t := by
   unfold spec_l1Least.f
   split <;> exact ⟨_, rfl⟩
  rw [ht, obs]
  obtain ⟨m, x1, x2, x3, p4, q4, e4, hm, b5, b6⟩ := caveRow_j0 hc (p := p3) (by omega) (by omega) q3 hn r t r2 k
  exact ⟨m, x1, x2, x3, p4, q4, e4, hm, by omega, by omega⟩
 ·
  rw [if_neg c0]
  obtain ⟨m, x1, x2, x3, p4, q4, e4, hm, b5, b6⟩ := caveRow_j0 hc (p := p1) (by omega) (by omega) q hn r 0 0 k
  exact ⟨m, x1, x2, x3, p4, q4, e4, hm, by omega, by omega⟩
def Drawn (l : List S26) : Prop := l.length ≤ 64 ∧ ∀ x, x ∈ l → x.f0.size ≤ 16
theorem Drawn.nil : Drawn [] := ⟨by decide, fun x h => by cases h⟩
theorem Drawn.snoc {l : List S26} (h : ∀ x, x ∈ l → x.f0.size ≤ 16) {y : S26} (hy : y.f0.size ≤ 16) : ∀ x, x ∈ l ++ [y] → x.f0.size ≤ 16 := by
 intro x hx
 rcases List.mem_append.1 hx with a | a
 ·
  exact h x a
 ·
  rw [List.mem_singleton.1 a]
  exact hy
theorem nums1_size (n : Int) : (strOfNums [n]).size ≤ 16 := by
 have : (strOfNums [n]).size = 1 := rfl
 omega
theorem caves26_l1 {c : List Int} (hc : ∀ x, x ∈ c → 0 ≤ x ∧ x ≤ 255) (d : Nat) : ∀ (l : List S26) (i : Nat) (p s : Int) (k : Nat), i + d = 12 → l.length = i → (∀ x, x ∈ l → x.f0.size ≤ 16) → 0 ≤ p → p + 2 * d ≤ 600000000 →
  d < k → ∃ r p1 q, spec_l1Cur_caves26.l1 k l i c p s = some (r, p1, q) ∧ Drawn r ∧ p ≤ p1 ∧ p1 ≤ p + 2 * d + 2 := by
 induction d with
 | zero =>
  intro l i p s k hd hi hl h0 h1 hk
  obtain ⟨k, rfl⟩ : ∃ m, k = m + 1 := ⟨k - 1, by omega⟩
  simp only [spec_l1Cur_caves26.l1]
  obtain ⟨r, p1, q, e, hr, a1, a2⟩ := pick_ok hc h0 (by omega) s (n := 2) (by decide)
  rw [e, obs]
  simp only
  rw [w64 (x := 10 + r) (by omega) (by omega), if_neg (by omega)]
  exact ⟨_, p1, _, rfl, ⟨by omega, hl⟩, by omega, by omega⟩
 | succ d ih =>
  intro l i p s k hd hi hl h0 h1 hk
  obtain ⟨k, rfl⟩ : ∃ m, k = m + 1 := ⟨k - 1, by omega⟩
  simp only [spec_l1Cur_caves26.l1]
  obtain ⟨r, p1, q, e, hr, a1, a2⟩ := pick_ok hc h0 (by omega) s (n := 2) (by decide)
  rw [e, obs]
  simp only
  rw [w64 (x := 10 + r) (by omega) (by omega)]
  by_cases b : (i : Int) < 10 + r
  ·
   rw [if_pos b, if_pos (by omega), w64 (x := (i : Int) + 1) (by omega) (by omega), show (i : Int) + 1 = ((i + 1 : Nat) : Int) from rfl]
   obtain ⟨r2, p2, q2, e2, hr2, b1, b2⟩ := ih (l ++ [(⟨strOfNums [(wrap64 (97 + (i : Int))) % 256], 0, 0, 0⟩ : S26)]) (i + 1) p1 q k (by omega) (by rw [List.length_append, List.length_singleton]; omega) (Drawn.snoc hl (nums1_size _)) (by omega) (by omega) (by omega)
   exact ⟨r2, p2, q2, e2, hr2, by omega, by omega⟩
  ·
   rw [if_neg b]
   exact ⟨_, p1, _, rfl, ⟨by omega, hl⟩, by omega, by omega⟩
theorem caves26_l0 {c : List Int} (hc : ∀ x, x ∈ c → 0 ≤ x ∧ x ≤ 255) (names : List ByteArray) (hn : ∀ x, x ∈ names → x.size ≤ 16) (hN : names.length ≤ 6) (d : Nat) : ∀ (l : List S26) (i : Nat) (p s : Int) (k : Nat), i + d = names.length → l.length ≤ i → (∀ x, x ∈ l → x.f0.size ≤ 16) → 0 ≤ p → p + 12 * d ≤ 500000000 →
  d + 20 < k → ∃ r p1 q, spec_l1Cur_caves26.l0 k l names i c p s = some (r, p1, q) ∧ Drawn r ∧ p ≤ p1 ∧ p1 ≤ p + 12 * d + 40 := by
 induction d with
 | zero =>
  intro l i p s k hd hi hl h0 h1 hk
  obtain ⟨k, rfl⟩ : ∃ m, k = m + 2 := ⟨k - 2, by omega⟩
  simp only [spec_l1Cur_caves26.l0]
  rw [if_neg (by omega)]
  obtain ⟨r, p1, q, e, hr, a1, a2⟩ := pick_ok hc h0 (by omega) s (n := 30) (by decide)
  rw [e, obs]
  simp only
  by_cases c0 : r = 0
  ·
   rw [if_pos c0]
   obtain ⟨m, x1, x2, x3, p2, q2, e2, hm, b1, b2⟩ := caveRow_ok hc (p := p1) (by omega) (by omega) q (n := ⟨#[98, 108, 117, 102, 102]⟩) (by decide) k
   rw [e2, obs]
   simp only
   rw [if_pos (by omega)]
   exact ⟨_, p2, _, rfl, ⟨by rw [List.length_append, List.length_singleton]; omega, Drawn.snoc hl hm⟩, by omega, by omega⟩
  ·
   rw [if_neg c0]
   by_cases c1 : r = 1
   ·
    rw [if_pos c1]
    obtain ⟨r2, p2, q2, e2, hr2, b1, b2⟩ := caves26_l1 hc 12 [] 0 p1 q (k + 1) (by omega) rfl (fun x h => by cases h) (by omega) (by omega) (by omega)
    exact ⟨r2, p2, q2, e2, hr2, by omega, by omega⟩
   ·
    rw [if_neg c1]
    exact ⟨_, p1, _, rfl, ⟨by omega, hl⟩, by omega, by omega⟩
 | succ d ih =>
  intro l i p s k hd hi hl h0 h1 hk
  obtain ⟨k, rfl⟩ : ∃ m, k = m + 2 := ⟨k - 2, by omega⟩
  simp only [spec_l1Cur_caves26.l0]
  rw [if_pos (by omega)]
  obtain ⟨b, p1, q, e, a1, a2⟩ := one_ok hc h0 (by omega) s (n := 2) (by decide)
  rw [e, obs]
  simp only
  rw [w64 (x := (i : Int) + 1) (by omega) (by omega), show (i : Int) + 1 = ((i + 1 : Nat) : Int) from rfl]
  by_cases c0 : b = true
  ·
   rw [if_pos c0, if_pos (by omega)]
   obtain ⟨m, x1, x2, x3, p2, q2, e2, hm, b1, b2⟩ := caveRow_ok hc (p := p1) (by omega) (by omega) q (n := rdOf ByteArray.empty names (i : Int)) (hn _ (rdB_mem names (by omega) (by omega))) k
   rw [e2, obs]
   simp only
   rw [if_pos (by omega)]
   obtain ⟨r3, p3, q3, e3, hr3, b3, b4⟩ := ih (l ++ [⟨m, x1, x2, x3⟩]) (i + 1) p2 q2 (k + 1) (by omega) (by rw [List.length_append, List.length_singleton]; omega) (Drawn.snoc hl hm) (by omega) (by omega) (by omega)
   exact ⟨r3, p3, q3, e3, hr3, by omega, by omega⟩
  ·
   rw [if_neg c0]
   obtain ⟨r3, p3, q3, e3, hr3, b3, b4⟩ := ih l (i + 1) p1 q (k + 1) (by omega) (by omega) hl (by omega) (by omega) (by omega)
   exact ⟨r3, p3, q3, e3, hr3, by omega, by omega⟩
theorem caves26_ok {c : List Int} (hc : ∀ x, x ∈ c → 0 ≤ x ∧ x ≤ 255) (s : Int) {k : Nat} (hk : 30 < k) :
  ∃ r p1 q, spec_l1Cur_caves26.f k c 0 s = some (r, p1, q) ∧ Drawn r ∧ 0 ≤ p1 ∧ p1 ≤ 200 := by
 unfold spec_l1Cur_caves26.f
 obtain ⟨r, p1, q, e, hr, a1, a2⟩ := caves26_l0 hc [(⟨#[97, 114, 99, 104]⟩ : ByteArray), (⟨#[98, 108, 117, 102, 102]⟩ : ByteArray), (⟨#[99, 108, 101, 102, 116]⟩ : ByteArray), (⟨#[100, 101, 110]⟩ : ByteArray), (⟨#[107, 97, 114, 115, 116]⟩ : ByteArray), (⟨#[109, 97, 122, 101]⟩ : ByteArray)]
  (by
   intro x hx
   simp only [List.mem_cons, List.not_mem_nil, or_false] at hx
   rcases hx with rfl | rfl | rfl | rfl | rfl | rfl <;> decide) (by decide) 6 [] 0 0 s k (by decide) (by decide) (fun x h => by cases h) (by decide) (by decide) (by omega)
 exact ⟨r, p1, q, e, hr, a1, by omega⟩
theorem drawAre_ok {c : List Int} (hc : ∀ x, x ∈ c → 0 ≤ x ∧ x ≤ 255) {k : Nat} (hk : 30 < k) : ∃ r, spec_DrawAreCaves.f k c = some r ∧ Drawn r := by
 unfold spec_DrawAreCaves.f spec_newCur.f
 rw [obs]
 simp only
 obtain ⟨r, p1, q, e, hr, _⟩ := caves26_ok hc 0 hk
 rw [e, obs]
 exact ⟨r, rfl, hr⟩
theorem rTexts_l0 (l : List ByteArray) (hl : l.length ≤ 1048576) (d : Nat) : ∀ (k i : Nat), i + d = l.length → d < k → laws_rTexts.l0 k l l i = some true := by
 induction d with
 | zero =>
  intro k i hd hk
  obtain ⟨k, rfl⟩ : ∃ m, k = m + 1 := ⟨k - 1, by omega⟩
  simp only [laws_rTexts.l0]
  rw [if_neg (by omega)]
 | succ d ih =>
  intro k i hd hk
  obtain ⟨k, rfl⟩ : ∃ m, k = m + 1 := ⟨k - 1, by omega⟩
  simp only [laws_rTexts.l0]
  rw [if_pos (by omega), if_pos (by omega), if_pos (by omega), if_pos trivial, w64 (by omega) (by omega)]
  exact ih k (i + 1) (by omega) (by omega)
theorem rTexts_eq {l : List ByteArray} (hl : l.length ≤ 1048576) {k : Nat} (hk : l.length < k) : laws_rTexts.f k l l = some true := by
 unfold laws_rTexts.f
 rw [if_pos rfl]
 exact rTexts_l0 l hl l.length k 0 (by omega) hk
end Go.Proofs.YteepnlofbfccgaaDoor.Pr.Pure

namespace Go.Proofs.YteepnlofbfccgaaDoor.Pr.Pure
open Go.RowKit Go.Proofs.YteepnlofbfccgaaDoorW.PrintWords Go.Proofs.YteepnlofbfccgaaDoorW.PrintLast Go.Proofs.YteepnlofbfccgaaDoorW.PrintMore Go.Lib Go.Proofs.YteepnlofbfccgaaDoor.Log
set_option linter.unusedVariables false
set_option linter.unusedSimpArgs false
theorem itoa_no10 {x : Int} (h : 0 ≤ x) : (10 : UInt8) ∉ itoa x := by
 obtain ⟨n, rfl⟩ : ∃ n : Nat, x = n := ⟨x.toNat, by omega⟩
 rw [itoa_nat]
 intro hm
 exact absurd (digit_mem _ _ hm).1 (by decide)
theorem isW_no10 {c : List UInt8} (h : isW c = true) : (10 : UInt8) ∉ c := by
 unfold isW at h
 simp only [Bool.and_eq_true, List.all_eq_true] at h
 intro hm
 exact absurd (h.2 _ hm) (by decide)
theorem cLine_no10 {c : List UInt8} {L D G : Int} (h : row c L D G = true) : (10 : UInt8) ∉ cLine c L D G := by
 obtain ⟨h1, h2, h3, h4, h5, h6, h7⟩ := row_facts h
 have n := isW_no10 h1
 have p := itoa_no10 (x := L / 10) (by omega)
 have q := itoa_no10 (x := D / 10) (by omega)
 have g := itoa_no10 (x := G) (by omega)
 unfold cLine lineL
 split
 ·
  simp [n]
 ·
  split <;> simp [n, p, q, g]
theorem rowL_no10 {x : S26} (h : rowB x = true) : (rowL x).count 10 = 0 := List.count_eq_zero.2 (cLine_no10 h)
theorem textL_nl : ∀ (l : List S26) (acc : List UInt8), (∀ x, x ∈ l → rowB x = true) → (textL l acc).count 10 = acc.count 10 + l.length
 | [], acc, _ => rfl
 | x :: xs, acc, h => by
  show (textL xs (acc ++ (rowL x ++ [10]))).count 10 = _
  rw [textL_nl xs _ (fun y hy => h y (List.mem_cons_of_mem _ hy)), List.count_append, List.count_append, rowL_no10 (h x List.mem_cons_self), List.length_cons]
  have : ([10] : List UInt8).count 10 = 1 := rfl
  omega
theorem textL_len : ∀ (l : List S26) (acc : List UInt8), (∀ x, x ∈ l → rowB x = true) → (textL l acc).length ≤ acc.length + 401 * l.length
 | [], acc, _ => Nat.le_refl _
 | x :: xs, acc, h => by
  show (textL xs (acc ++ (rowL x ++ [10]))).length ≤ _
  have a := textL_len xs (acc ++ (rowL x ++ [10])) (fun y hy => h y (List.mem_cons_of_mem _ hy))
  have b : (rowL x).length ≤ 400 := cLine_len (h x List.mem_cons_self)
  rw [List.length_append, List.length_append, List.length_singleton] at a
  rw [List.length_cons]
  omega
theorem text_val {m : List S26} (hm : ∀ x, x ∈ m → x.f0.size ≤ 1048576) (hl : m.length ≤ 1048576) :
  ∃ r b, (b = true → ∃ t : List UInt8, r = M t ∧ t.count 10 = m.length ∧ t.length ≤ 5000 ∧ m.length ≤ 10) ∧ (b = false → r = ⟨#[]⟩) ∧ ∀ k, 1048590 + m.length + m.length ≤ k → spec_CavesText.f k m = some (r, b) ∧ impl_CavesText.f k m = some (r, b) := by
 by_cases c : caves m = true
 ·
  obtain ⟨hl10, hall⟩ := allRows m m.length 0 c
  have hm2 : ∀ x, x ∈ m → rowB x = true ∧ x.f0.size ≤ 1048576 := fun x hx => by
   refine ⟨?_, hm x hx⟩
   obtain ⟨j, hj, rfl⟩ := List.mem_iff_getElem.1 hx
   have := hall j (by omega) (by omega)
   rw [show rd_T26 m (j : Int) = m[j] from by
    show m.getD ((j : Int)).toNat _ = _
    rw [Int.toNat_natCast, List.getD_eq_getElem?_getD, List.getElem?_eq_getElem hj]
    rfl] at this
   exact this
  have e1 := textL_nl m [] (fun x hx => (hm2 x hx).1)
  have e2 := textL_len m [] (fun x hx => (hm2 x hx).1)
  refine ⟨M (textL m []), true, fun _ => ⟨_, rfl, by rw [e1]; exact Nat.zero_add _, by rw [List.length_nil] at e2; omega, hl10⟩, fun h => (by cases h), fun k hk => ?_⟩
  unfold spec_CavesText.f impl_CavesText.f
  have e := text_spec m hm2 hl10 m.length k 0 [] (by omega) (by omega) (by rw [List.length_nil]; omega)
  rw [goodC_eq hm hl (by omega), areC_eq hm hl (by omega), obs, obs, if_pos c, if_pos c, text_impl m [] hm2 (by rw [List.length_nil]; omega), obs]
  exact ⟨e, rfl⟩
 ·
  refine ⟨⟨#[]⟩, false, fun h => (by cases h), fun _ => rfl, fun k hk => ?_⟩
  unfold spec_CavesText.f impl_CavesText.f
  rw [goodC_eq hm hl (by omega), areC_eq hm hl (by omega), obs, obs, if_neg c, if_neg c]
  exact ⟨rfl, rfl⟩
theorem sm_pos (l : List S26) : ∀ (d : Nat) (i a b : Int), (∀ j, i ≤ j → j < i + d → rowB (rd_T26 l j) = true) → 0 ≤ a → 0 ≤ b → (b ≠ 0 → 0 < a) → a + 1000000 * d ≤ 1000000000 → b + 9999 * d ≤ 1000000 →
  ((sm l d i a b).2 ≠ 0 → 0 < (sm l d i a b).1)
 | 0, i, a, b, h, h0, h1, h2, h3, h4 => h2
 | d + 1, i, a, b, h, h0, h1, h2, h3, h4 => by
  have hr := h i (by omega) (by omega)
  obtain ⟨f1, f2, f3, f4, f5, f6, f7⟩ := row_facts hr
  have f8 : ((rd_T26 l i).f3 == 0) = ((rd_T26 l i).f1 == 0) := by
   have := hr
   unfold rowB row at this
   simp only [Bool.and_eq_true, beq_iff_eq] at this
   exact this.2
  have f9 : (rd_T26 l i).f3 ≠ 0 → (rd_T26 l i).f1 ≠ 0 := fun n e => n (by
   rw [e, beq_self_eq_true] at f8
   exact eq_of_beq f8)
  rw [sm_succ, w64 (x := a + _) (by omega) (by omega), w64 (x := b + _) (by omega) (by omega)]
  refine sm_pos l d (i + 1) _ _ (fun j h5 h6 => h j (by omega) (by omega)) (by omega) (by omega) (fun n => ?_) (by omega) (by omega)
  by_cases z : b = 0
  ·
   have := f9 (by omega)
   omega
  ·
   have := h2 z
   omega
theorem tdiv_gcd_pos {a b : Int} (ha : 0 < a) : 0 < (red a b).1 := by
 show 0 < Int.tdiv a (Int.gcd a b)
 have g : 0 < (Int.gcd a b : Int) := by
  have : Int.gcd a b ≠ 0 := fun h => by
   have := (Int.gcd_eq_zero_iff.1 h).1
   omega
  omega
 have d : (Int.gcd a b : Int) ∣ a := Int.gcd_dvd_left ..
 obtain ⟨q, hq⟩ := d
 generalize (Int.gcd a b : Int) = x at *
 subst hq
 rw [Int.mul_tdiv_cancel_left _ (by omega)]
 exact Int.pos_of_mul_pos_right (by simpa using ha) (by omega) |> fun h => h
theorem mean_val {m : List S26} (hm : ∀ x, x ∈ m → x.f0.size ≤ 1048576) (hl : m.length ≤ 1048576) {k : Nat} (hk : 1048580 + m.length + m.length < k) :
  ∃ p q b, (b = true → 0 < p) ∧ spec_MeanLeg.f k m = some (p, q, b) ∧ impl_MeanLeg.f k m = some (p, q, b) := by
 unfold spec_MeanLeg.f impl_MeanLeg.f
 obtain ⟨k1, h1, e1⟩ := mean_spec m hm hl m.length k 0 0 0 (by omega) (by omega) (by omega)
 obtain ⟨k2, h2, e2⟩ := mean_impl m hl m.length k 0 0 0 (by omega) (by omega) (by omega)
 rw [e1, areC_eq hm hl (by omega), obs, e2]
 by_cases c : caves m = true
 ·
  rw [if_pos c, if_pos c]
  obtain ⟨hl10, hall⟩ := rowsF_allM m m.length 0 c
  obtain ⟨b1, b2, b3, b4⟩ := sm_bd m m.length 0 0 0 hall (by omega) (by omega) (by omega) (by omega)
  have b5 := sm_pos m m.length 0 0 0 hall (by omega) (by omega) (fun h => absurd rfl h) (by omega) (by omega)
  generalize sm m m.length 0 0 0 = s at *
  by_cases z : s.2 = 0
  ·
   rw [if_pos z, if_pos z]
   exact ⟨_, _, false, fun h => (by cases h), rfl, rfl⟩
  ·
   rw [if_neg z, if_neg z, red_spec (by omega) (by omega) (by omega) (by omega) (by omega), red_impl (by omega) (by omega) (by omega) (by omega) (by omega), obs]
   exact ⟨_, _, true, fun _ => tdiv_gcd_pos (b5 z), rfl, rfl⟩
 ·
  rw [if_neg c, if_neg c]
  exact ⟨_, _, false, fun h => (by cases h), rfl, rfl⟩
theorem longer_mono (m : List S26) {a b : Int} (h : a ≤ b) : ∀ (d : Nat) (i : Int), (longer m b d i).length ≤ (longer m a d i).length
 | 0, _ => Nat.le_refl _
 | d + 1, i => by
  have ih := longer_mono m h d (i + 1)
  rw [longer_succ, longer_succ]
  split
  ·
   rw [if_pos (by omega), List.length_cons, List.length_cons]
   omega
  ·
   split
   ·
    rw [List.length_cons]
    omega
   ·
    exact ih
theorem long_val {m : List S26} (hm : ∀ x, x ∈ m → x.f0.size ≤ 1048576) (hl : m.length ≤ 1048576) (a : Int) :
  ∀ k, 1048590 + m.length + m.length ≤ k → spec_CavesLongerThan.f k m a = some (if caves m = true ∧ 0 ≤ a ∧ a ≤ 1000000 then (longer m a m.length 0, true) else ([], false)) ∧ impl_CavesLongerThan.f k m a = some (if caves m = true ∧ 0 ≤ a ∧ a ≤ 1000000 then (longer m a m.length 0, true) else ([], false)) := by
 intro k hk
 obtain ⟨k, rfl⟩ : ∃ m, k = m + 1 := ⟨k - 1, by omega⟩
 unfold spec_CavesLongerThan.f impl_CavesLongerThan.f
 by_cases c : caves m = true
 ·
  by_cases c2 : (0 : Int) ≤ a ∧ a ≤ 1000000
  ·
   rw [if_pos ⟨c, c2⟩, obs, goodC_eq hm hl (by omega), areC_eq hm hl (by omega), obs, obs, if_pos c, if_pos c, l1In_eq, within_eq, obs, obs, decide_eq_true c2]
   simp only [spec_CavesLongerThan.j0, impl_CavesLongerThan.j0, Bool.not_true, Bool.false_eq_true, if_false]
   rw [long_spec a hl m.length k 0 [] (by omega) (by omega) (by rw [List.length_nil]; omega) (by omega), long_impl a hl m.length k 0 [] (by omega) (by omega) (by rw [List.length_nil]; omega) (by omega), List.nil_append]
   exact ⟨rfl, rfl⟩
  ·
   rw [if_neg (fun h => c2 h.2), obs, goodC_eq hm hl (by omega), areC_eq hm hl (by omega), obs, obs, if_pos c, if_pos c, l1In_eq, within_eq, obs, obs, decide_eq_false c2]
   exact ⟨rfl, rfl⟩
 ·
  rw [if_neg (fun h => c h.1), obs, goodC_eq hm hl (by omega), areC_eq hm hl (by omega), obs, obs, if_neg c, if_neg c]
  exact ⟨rfl, rfl⟩
theorem line_both (x : S26) (hx : x.f0.size ≤ 1048576) {k : Nat} (hk : 1048600 ≤ k) :
  ∃ z b, spec_CaveLine.f k x.f0 x.f1 x.f2 x.f3 = some (z, b) ∧ impl_CaveLine.f x.f0 x.f1 x.f2 x.f3 = some (z, b) ∧ impl_IsCaveRow.f x.f0 x.f1 x.f2 x.f3 = some b := by
 obtain ⟨c, hc⟩ := ex_M x.f0
 rw [hc] at hx ⊢
 rw [M_size] at hx
 unfold spec_CaveLine.f impl_CaveLine.f
 rw [one_eq c x.f1 x.f2 x.f3 (by omega) (by omega), row_eq c x.f1 x.f2 x.f3 (by omega)]
 cases hr : row c x.f1 x.f2 x.f3 with
 | false => exact ⟨⟨#[]⟩, false, rfl, rfl, rfl⟩
 | true =>
  refine ⟨M (cLine c x.f1 x.f2 x.f3), true, ?_, ?_, rfl⟩
  ·
   rw [obs, if_pos rfl, line_spec hr (by omega) (by omega), obs]
  ·
   rw [obs, if_pos rfl, line_impl hr (by omega), obs]
end Go.Proofs.YteepnlofbfccgaaDoor.Pr.Pure

namespace Go.Proofs.YteepnlofbfccgaaDoor.Pr.Pure
open Go.RowKit Go.Proofs.YteepnlofbfccgaaDoorW.PrintWords Go.Proofs.YteepnlofbfccgaaDoorW.PrintLast Go.Proofs.YteepnlofbfccgaaDoorW.PrintMore Go.Proofs.YteepnlofbfccgaaDoorW.Opens
set_option linter.unusedVariables false
theorem drawn_sizes {l : List S26} (h : Drawn l) : (∀ x, x ∈ l → x.f0.size ≤ 1048576) ∧ l.length ≤ 64 := ⟨fun x hx => Nat.le_trans (h.2 x hx) (by decide), h.1⟩
theorem drawLine_ok {c : List Int} (hc : ∀ x, x ∈ c → 0 ≤ x ∧ x ≤ 255) (k : Nat) : ∃ m a b d, spec_DrawCaveLine.f (k + 1) c = some (m, a, b, d) ∧ m.size ≤ 16 := by
 unfold spec_DrawCaveLine.f spec_DrawIsCaveRow.f spec_newCur.f
 rw [obs]
 simp only
 obtain ⟨m, a1, b1, d1, p1, q, e, hm, _, _⟩ := caveRow_ok hc (p := 0) (by omega) (by omega) 0 (n := ⟨#[98, 108, 117, 102, 102]⟩) (by decide) k
 rw [e, obs, obs]
 exact ⟨_, _, _, _, rfl, hm⟩
theorem drawText_ok {c : List Int} (hc : ∀ x, x ∈ c → 0 ≤ x ∧ x ≤ 255) {k : Nat} (hk : 30 < k) : ∃ r, spec_DrawCavesText.f k c = some r ∧ Drawn r := by
 unfold spec_DrawCavesText.f
 obtain ⟨r, e, hr⟩ := drawAre_ok hc hk
 rw [e, obs]
 exact ⟨r, rfl, hr⟩
theorem drawLong_ok {c : List Int} (hc : ∀ x, x ∈ c → 0 ≤ x ∧ x ≤ 255) {k : Nat} (hk : 30 < k) : ∃ r a, spec_DrawCavesLongerThan.f k c = some (r, a) ∧ Drawn r ∧ -1 ≤ a ∧ a ≤ 1000001 := by
 unfold spec_DrawCavesLongerThan.f spec_newCur.f
 rw [obs]
 simp only
 obtain ⟨r, p1, q, e, hr, a1, a2⟩ := caves26_ok hc 0 hk
 rw [e, obs]
 simp only
 obtain ⟨t, p2, q2, e2, ht, b1, b2⟩ := pick_ok hc a1 (by omega) q (n := 24) (by decide)
 rw [e2, obs, if_pos ht]
 simp only
 obtain ⟨y, p3, q3, e3, hy, _, _⟩ := among_ok hc (p := p2) (by omega) (by omega) q2 (l := drawLong_.take (5 + t / 11).toNat) (by rw [List.length_take]; show 0 < min _ 7; omega)
 rw [e3, obs]
 refine ⟨_, _, rfl, hr, ?_⟩
 have := List.mem_of_mem_take hy
 simp only [drawLong_, List.mem_cons, List.not_mem_nil, or_false] at this
 omega
theorem lines_l0 (c : List Int) (m : List S26) {t : List UInt8} (ht : t.length ≤ 5000) (b : Bool) (k : Nat) (d : Nat) : ∀ (K i n : Nat), i + d = t.length → n ≤ i → K = k + d + 1 →
  laws_FnCaveLines.l0 K c m (M t) b n i = (if b = true then laws_FnCaveLines.j3 k c m (((n + (t.drop i).count 10 : Nat) : Int) != (m.length : Int)) else laws_FnCaveLines.j3 k c m false) := by
 induction d with
 | zero =>
  intro K i n hd hn hK
  obtain rfl : K = k + 1 := by omega
  simp only [laws_FnCaveLines.l0]
  rw [M_size, if_neg (by omega), List.drop_eq_nil_of_le (by omega)]
  rfl
 | succ d ih =>
  intro K i n hd hn hK
  obtain ⟨K, rfl⟩ : ∃ m, K = m + 1 := ⟨k + d + 1, by omega⟩
  simp only [laws_FnCaveLines.l0]
  rw [M_size, if_pos (by omega), if_pos (by omega), bt_M, drop_at t i (by omega), List.count_cons, w64 (x := (i : Int) + 1) (by omega) (by omega), w64 (x := (n : Int) + 1) (by omega) (by omega)]
  by_cases e : t.getD i 0 = 10
  ·
   rw [e, if_pos (show (((10 : UInt8).toNat : Nat) : Int) = 10 from rfl)]
   have := ih K (i + 1) (n + 1) (by omega) (by omega) (by omega)
   rw [show ((10 : UInt8) == 10) = true from rfl, if_pos rfl, show n + ((t.drop (i + 1)).count 10 + 1) = n + 1 + (t.drop (i + 1)).count 10 by omega]
   exact this
  ·
   rw [if_neg (show ¬ (((t.getD i 0).toNat : Nat) : Int) = 10 from fun h => e ((byte_eq _ 10 (by decide)).1 h)), show (t.getD i 0 == 10) = false from beq_eq_false_iff_ne.2 e]
   exact ih K (i + 1) n (by omega) (by omega) (by omega)
theorem law_j4 {c : List Int} (hc : ∀ x, x ∈ c → 0 ≤ x ∧ x ≤ 255) {k : Nat} (hk : 1049000 ≤ k) : laws_FnCaveLines.j4 (k + 1 + 1) c false = some true := by
 obtain ⟨m, a, e, hd, ha, ha2⟩ := drawLong_ok hc (k := k + 1) (by omega)
 obtain ⟨hm, hl⟩ := drawn_sizes hd
 obtain ⟨e1, e2⟩ := long_val hm (by omega) a (k + 1) (by omega)
 obtain ⟨e3, e4⟩ := long_val hm (by omega) (a + 1) k (by omega)
 have key : ∃ r b, (if caves m = true ∧ 0 ≤ a ∧ a ≤ 1000000 then (longer m a m.length 0, true) else ([], false)) = (r, b) ∧ r.length ≤ 64 ∧ (b = true → r = longer m a m.length 0) := by
  split
  ·
   exact ⟨_, _, rfl, Nat.le_trans (longer_len m a _ 0) hl, fun _ => rfl⟩
  ·
   exact ⟨_, _, rfl, Nat.zero_le _, fun h => (by cases h)⟩
 obtain ⟨r, b, hv, hr, hb⟩ := key
 rw [hv] at e1 e2
 simp only [laws_FnCaveLines.j4, Bool.false_eq_true, if_false]
 rw [e, obs]
 simp only
 rw [e2, obs, e1, obs]
 simp only
 rw [if_neg (by simp), rTexts_eq (by omega) (by omega), obs]
 show laws_FnCaveLines.j5 (k + 1) m a r b false = some true
 simp only [laws_FnCaveLines.j5, Bool.false_eq_true, if_false]
 rw [w64 (x := a + 1) (by omega) (by omega), e4, obs]
 cases b with
 | false => rfl
 | true =>
  rw [if_pos rfl]
  split
  ·
   rw [if_pos rfl, hb rfl, if_neg (by have := longer_mono m (a := a) (b := a + 1) (by omega) m.length 0; simp only; omega)]
  ·
   rfl
theorem law_j3 {c : List Int} (hc : ∀ x, x ∈ c → 0 ≤ x ∧ x ≤ 255) {m : List S26} (hm : ∀ x, x ∈ m → x.f0.size ≤ 1048576) (hl : m.length ≤ 64) {k : Nat} (hk : 1049000 ≤ k) : laws_FnCaveLines.j3 (k + 1 + 1 + 1) c m false = some true := by
 obtain ⟨p, q, b, hp, e1, e2⟩ := mean_val hm (by omega) (k := k + 1 + 1) (by omega)
 simp only [laws_FnCaveLines.j3, Bool.false_eq_true, if_false]
 rw [e2, obs, e1, obs]
 simp only
 rw [if_pos trivial, if_pos trivial, if_neg (by simp)]
 cases b with
 | false =>
  rw [if_neg (by decide)]
  exact law_j4 hc hk
 | true =>
  rw [if_pos rfl, decide_eq_false (by have := hp rfl; omega)]
  exact law_j4 hc hk
theorem law_j0 {c : List Int} (hc : ∀ x, x ∈ c → 0 ≤ x ∧ x ≤ 255) {K : Nat} (hK : 1056000 ≤ K) : laws_FnCaveLines.j0 K c false = some true := by
 obtain ⟨k, rfl⟩ : ∃ k, K = k + 1 + 1 := ⟨K - 2, by omega⟩
 obtain ⟨m, e, hd⟩ := drawText_ok hc (k := k + 1) (by omega)
 obtain ⟨hm, hl⟩ := drawn_sizes hd
 obtain ⟨r, b, h1, h2, hk⟩ := text_val hm (by omega)
 obtain ⟨e1, e2⟩ := hk (k + 1) (by omega)
 simp only [laws_FnCaveLines.j0, Bool.false_eq_true, if_false]
 rw [e, obs, e2, obs, e1, obs]
 simp only
 rw [if_pos trivial, bne_self_eq_false]
 simp only [laws_FnCaveLines.j1, Bool.false_eq_true, if_false]
 cases b with
 | false =>
  obtain rfl := h2 rfl
  obtain ⟨q, rfl⟩ : ∃ q, k = q + 1 + 1 + 1 + 1 := ⟨k - 4, by omega⟩
  have := lines_l0 c m (t := []) (by decide) false (q + 1 + 1 + 1) 0 (q + 1 + 1 + 1 + 1) 0 0 (by decide) (by decide) (by omega)
  exact this.trans (law_j3 hc hm hl (by omega))
 | true =>
  obtain ⟨t, rfl, ht, ht2, hl10⟩ := h1 rfl
  obtain ⟨q, rfl⟩ : ∃ q, k = q + 1 + 1 + 1 + t.length + 1 := ⟨k - 4 - t.length, by omega⟩
  have := lines_l0 c m ht2 true (q + 1 + 1 + 1) t.length (q + 1 + 1 + 1 + t.length + 1) 0 0 (by omega) (by decide) (by omega)
  refine this.trans ?_
  rw [if_pos rfl, List.drop_zero, ht, Nat.zero_add, bne_self_eq_false]
  exact law_j3 hc hm hl (by omega)
theorem FnCaveLines : FnCaveLines.Pure := by
 intro c hw
 have hc : ∀ x, x ∈ c → 0 ≤ x ∧ x ≤ 255 := fun x hx => by
  have h := hw.2.2 x hx
  simp [Lit.wf, IntKind.min, IntKind.max, IntKind.signed, IntKind.bits] at h
  omega
 refine ⟨1060000, ?_⟩
 unfold laws_FnCaveLines.f laws_rBig.f
 rw [obs]
 by_cases big : decide ((c.length : Int) > 65536) = true
 ·
  rw [if_pos big]
 rw [if_neg big]
 obtain ⟨m, a, b, d, e, hd⟩ := drawLine_ok hc 1059999
 obtain ⟨z, f, e1, e2, e3⟩ := line_both (⟨m, a, b, d⟩ : S26) (by show m.size ≤ _; omega) (k := 1060000) (by omega)
 rw [e, obs]
 simp only at e1 e2 e3 ⊢
 rw [e2, obs, e1, obs]
 simp only
 rw [if_pos trivial, if_neg (by simp), e3, obs, bne_self_eq_false]
 exact law_j0 hc (by decide)
end Go.Proofs.YteepnlofbfccgaaDoor.Pr.Pure

