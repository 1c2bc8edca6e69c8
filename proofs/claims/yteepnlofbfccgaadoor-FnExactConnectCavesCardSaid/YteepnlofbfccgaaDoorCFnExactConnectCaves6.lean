/-
What is proved: parts of the law FnExactConnectCaves: what the functions that it reaches compute, and the plain law.
Conditions: those of each theorem.
-/
import Derived.Test.YteepnlofbfccgaaDoorCFnExactConnectCaves5
/-
What is proved: strings as lists of bytes; bounds.
Conditions: sizes far below the machine's, enough rounds.
-/
namespace Go.Proofs.YteepnlofbfccgaaDoor.Pr.Pure
open Go.RowKit Go.Proofs.YteepnlofbfccgaaDoorW.PrintWords Go.Proofs.YteepnlofbfccgaaDoorW.PrintLast Go.Proofs.YteepnlofbfccgaaDoorW.PrintMore  Go.Lib
set_option linter.unusedVariables false
set_option linter.unusedSimpArgs false

theorem w64 {x : Int} (h1 : -9223372036854775808 ≤ x) (h2 : x ≤ 9223372036854775807) : wrap64 x = x := by
  unfold wrap64
  omega
theorem i64b {x : Int} (h : (Lit.int .i64 x).wf = true) : -9223372036854775808 ≤ x ∧ x ≤ 9223372036854775807 := by
  simp [Lit.wf, IntKind.min, IntKind.max, IntKind.signed, IntKind.bits] at h
  omega
theorem set_map_step {α β : Type} (f : α → β) (l : List α) (z : β) (i : Nat) (hi : i < l.length) (a : α) (ha : l[i]? = some a) :
    ((l.take i).map f ++ List.replicate (l.length - i) z).set i (f a) = (l.take (i + 1)).map f ++ List.replicate (l.length - (i + 1)) z := by
  have h1 : ((l.take i).map f).length = i := by simp; omega
  rw [List.set_append_right _ _ (by omega), h1, Nat.sub_self]
  obtain ⟨m, hm⟩ : ∃ m, l.length - i = m + 1 := ⟨l.length - i - 1, by omega⟩
  rw [hm, show l.length - (i + 1) = m by omega, List.replicate_succ, List.set_cons_zero, List.take_add_one, ha]
  simp
theorem getD_some {α : Type} (l : List α) (z : α) (i : Nat) (h : i < l.length) : l[i]? = some (l.getD i z) := by
  rw [List.getD_eq_getElem?_getD, List.getElem?_eq_getElem h]
  rfl

/-- As Option.bind_some, but no rewriting by definition (the kernel would unfold too much). -/
theorem obs {α β : Type} (a : α) (f : α → Option β) : (some a).bind f = f a := id (Option.bind_some a f)
/-- A list of bytes as a string. -/
def M (l : List UInt8) : ByteArray := ⟨l.toArray⟩
theorem ex_M (b : ByteArray) : ∃ l, b = M l := ⟨b.data.toList, by unfold M; rw [Array.toArray_toList]⟩
theorem M_size (l : List UInt8) : (M l).size = l.length := by simp [M, ByteArray.size]
theorem M_data (l : List UInt8) : (M l).data.toList = l := by simp [M]
theorem M_inj {a b : List UInt8} : M a = M b ↔ a = b := ⟨fun h => by
  have := congrArg (fun x : ByteArray => x.data.toList) h
  simpa [M] using this, fun h => by rw [h]⟩
theorem M_toList (l : List UInt8) : (M l).toList = l := by rw [ByteArray.toList_eq, M_data]
theorem sc_M (a b : List UInt8) : sc (M a) (M b) = M (a ++ b) := by
  apply ByteArray.ext
  unfold sc M
  rw [ByteArray.data_append]
  simp
theorem sx_M (a : List UInt8) (i j : Nat) : sx (M a) i j = M ((a.drop i).take (j - i)) := by
  apply ByteArray.ext
  unfold sx M
  rw [ByteArray.data_extract]
  simp [List.extract_eq_take_drop]
theorem bt_M (l : List UInt8) (i : Nat) : bt (M l) (i : Int) = ((l.getD i 0).toNat : Int) := by
  have hb := rd_bytesOf (M l) (i : Int)
  rw [← hb]
  unfold rd bytesOf
  rw [M_data, Int.toNat_natCast, List.getD_eq_getElem?_getD, List.getD_eq_getElem?_getD, List.getElem?_map]
  cases l[i]? <;> rfl
theorem lit_M (l : List UInt8) : (⟨l.toArray⟩ : ByteArray) = M l := rfl
theorem drop_at (l : List UInt8) (i : Nat) (h : i < l.length) : l.drop i = l.getD i 0 :: l.drop (i + 1) := by
  rw [List.drop_eq_getElem_cons h, List.getD_eq_getElem?_getD, List.getElem?_eq_getElem h]
  rfl
theorem byte_eq (x : UInt8) (c : Nat) (hc : c < 256) : ((x.toNat : Int) = (c : Int)) ↔ x = UInt8.ofNat c := by
  constructor
  · intro h
    apply UInt8.toNat_inj.1
    rw [UInt8.toNat_ofNat']
    omega
  · rintro rfl
    rw [UInt8.toNat_ofNat']
    omega
theorem byte_rng (x : UInt8) : 0 ≤ (x.toNat : Int) ∧ (x.toNat : Int) ≤ 255 := by
  have := x.toNat_lt
  omega
theorem l1In_eq (a b c : Int) : spec_l1In.f a b c = some (decide (b ≤ a ∧ a ≤ c)) := by
  unfold spec_l1In.f
  by_cases h : b ≤ a
  · rw [if_pos h]; simp [h]
  · rw [if_neg (by omega)]; simp [h]
theorem within_eq (a b c : Int) : impl_within.f a b c = some (decide (b ≤ a ∧ a ≤ c)) := by
  unfold impl_within.f
  by_cases h : b ≤ a
  · rw [if_pos h]; simp [h]
  · rw [if_neg (by omega)]; simp [h]
theorem dec_of {p : Prop} [Decidable p] {b : Bool} (h : b = true ↔ p) : some b = some (decide p) := by
  congr 1
  rw [Bool.eq_iff_iff, h, decide_eq_true_eq]
end Go.Proofs.YteepnlofbfccgaaDoor.Pr.Pure

/-
What is proved: both tests for a word (one to ten small letters) are the same.
Conditions: none but enough rounds.
-/
namespace Go.Proofs.YteepnlofbfccgaaDoor.Pr.Pure
open Go.RowKit Go.Proofs.YteepnlofbfccgaaDoorW.PrintWords Go.Proofs.YteepnlofbfccgaaDoorW.PrintLast Go.Proofs.YteepnlofbfccgaaDoorW.PrintMore Go.Lib
set_option linter.unusedVariables false
set_option linter.unusedSimpArgs false
/-- A small letter. -/
def small (x : UInt8) : Bool := decide (97 ≤ x.toNat) && decide (x.toNat ≤ 122)
/-- A word. -/
def isW (l : List UInt8) : Bool := decide (1 ≤ l.length) && decide (l.length ≤ 10) && l.all small
theorem word_l0 (l : List UInt8) (hl : l.length ≤ 4611686018427387904) (d : Nat) : ∀ (k i : Nat), i + d = l.length → d < k → spec_l2Word.l0 k (M l) i = some (decide (1 ≤ l.length) && decide (l.length ≤ 10) && (l.drop i).all small) := by
  induction d with
  | zero =>
    intro k i hd hk
    obtain ⟨k, rfl⟩ : ∃ m, k = m + 1 := ⟨k - 1, by omega⟩
    simp only [spec_l2Word.l0]
    rw [M_size, if_neg (by omega), List.drop_of_length_le (by omega), l1In_eq, obs]
    simp only [List.all_nil, Bool.and_true]
    congr 1
    rw [Bool.eq_iff_iff]
    simp
    omega
  | succ d ih =>
    intro k i hd hk
    obtain ⟨k, rfl⟩ : ∃ m, k = m + 1 := ⟨k - 1, by omega⟩
    simp only [spec_l2Word.l0]
    rw [M_size, if_pos (by omega), if_pos (by omega), bt_M, drop_at l i (by omega)]
    generalize l.getD i 0 = x
    rw [w64 (by omega) (by omega)]
    have ih' := ih k (i + 1) (by omega) (by omega)
    rw [show ((i + 1 : Nat) : Int) = (i : Int) + 1 by omega] at ih'
    rw [List.all_cons]
    by_cases h1 : (x.toNat : Int) < 97
    · have : small x = false := by
        unfold small
        have : ¬ 97 ≤ x.toNat := by omega
        simp [this]
      rw [if_pos h1, this]
      simp
    · rw [if_neg h1]
      by_cases h2 : (x.toNat : Int) > 122
      · have : small x = false := by
          unfold small
          have : ¬ x.toNat ≤ 122 := by omega
          simp [this]
        rw [if_pos h2, this]
        simp
      · have : small x = true := by
          unfold small
          have a : 97 ≤ x.toNat := by omega
          have b : x.toNat ≤ 122 := by omega
          simp [a, b]
        rw [if_neg h2, ih', this, Bool.true_and]
theorem word_spec (l : List UInt8) (hl : l.length ≤ 4611686018427387904) {k : Nat} (hk : l.length < k) : spec_l2Word.f k (M l) = some (isW l) := by
  unfold spec_l2Word.f isW
  simpa using word_l0 l hl l.length k 0 (by omega) hk
def letters : List UInt8 := [97, 98, 99, 100, 101, 102, 103, 104, 105, 106, 107, 108, 109, 110, 111, 112, 113, 114, 115, 116, 117, 118, 119, 120, 121, 122]
set_option maxRecDepth 100000 in
theorem letters_small (x : UInt8) : letters.contains x = small x := by
  have : ∀ n : Nat, n < 256 → letters.contains (UInt8.ofNat n) = small (UInt8.ofNat n) := by decide
  have h := this x.toNat x.toNat_lt
  rwa [show UInt8.ofNat x.toNat = x from UInt8.ofNat_toNat] at h
theorem drop_all {p : UInt8 → Bool} : ∀ l : List UInt8, l.dropWhile p = [] ↔ l.all p = true
  | [] => by simp
  | x :: l => by
    by_cases h : p x = true
    · rw [List.dropWhile_cons_of_pos h, drop_all l]
      simp [h]
    · rw [List.dropWhile_cons_of_neg h]
      simp [h]
theorem trim_nil (l : List UInt8) : trimS l letters = [] ↔ l.all small = true := by
  have hp : (fun x => letters.contains x) = small := funext letters_small
  unfold trimS trimLeftS trimRightS
  rw [hp, drop_all]
  constructor
  · intro h
    rw [List.all_reverse] at h
    have h2 : (l.reverse.dropWhile small).all small = true := h
    have h3 : l.reverse.all small = true := by
      rw [← drop_all]
      have h4 := (drop_all _).2 h2
      have : ∀ m : List UInt8, (m.dropWhile small).dropWhile small = m.dropWhile small := by
        intro m
        induction m with
        | nil => rfl
        | cons x m ih =>
          by_cases h : small x = true
          · rw [List.dropWhile_cons_of_pos h, ih]
          · rw [List.dropWhile_cons_of_neg h, List.dropWhile_cons_of_neg h]
      rw [this] at h4
      exact h4
    rwa [List.all_reverse] at h3
  · intro h
    have h3 : l.reverse.all small = true := by rwa [List.all_reverse]
    rw [(drop_all _).2 h3]
    rfl
theorem word_impl (l : List UInt8) (hl : l.length ≤ 4611686018427387904) : impl_isWord.f (M l) = some (isW l) := by
  unfold impl_isWord.f isW
  rw [M_size]
  by_cases h1 : (l.length : Int) ≥ 1
  · rw [if_pos h1]
    by_cases h2 : (l.length : Int) ≤ 10
    · have ht : strings_Trim.f (M l) (M letters) = some (M (trimS l letters)) := by
        unfold strings_Trim.f
        rw [M_size, M_size, M_data, M_data, if_pos (by omega), if_pos (by decide), if_pos (by decide)]
        rfl
      rw [if_pos h2, show (⟨#[97, 98, 99, 100, 101, 102, 103, 104, 105, 106, 107, 108, 109, 110, 111, 112, 113, 114, 115, 116, 117, 118, 119, 120, 121, 122]⟩ : ByteArray) = M letters from rfl, ht, obs, M_toList]
      congr 1
      rw [Bool.eq_iff_iff]
      have a : 1 ≤ l.length := by omega
      have b : l.length ≤ 10 := by omega
      simp only [a, b, decide_true, Bool.true_and, beq_iff_eq]
      exact trim_nil l
    · rw [if_neg h2]
      have b : ¬ l.length ≤ 10 := by omega
      simp [b]
  · rw [if_neg h1]
    have b : ¬ 1 ≤ l.length := by omega
    simp only [b, decide_false, Bool.false_and]
end Go.Proofs.YteepnlofbfccgaaDoor.Pr.Pure

/-
What is proved: both tests for a row of a cave are the same.
Conditions: the name far below the machine's sizes, enough rounds.
-/
namespace Go.Proofs.YteepnlofbfccgaaDoor.Pr.Pure
open Go.RowKit Go.Proofs.YteepnlofbfccgaaDoorW.PrintWords Go.Proofs.YteepnlofbfccgaaDoorW.PrintLast Go.Proofs.YteepnlofbfccgaaDoorW.PrintMore Go.Lib
set_option linter.unusedVariables false
set_option linter.unusedSimpArgs false
/-- A row of a cave. -/
def row (l : List UInt8) (L D G : Int) : Bool := isW l && decide (0 ≤ L ∧ L ≤ 1000000) && decide (0 ≤ D ∧ D ≤ mn 20000 L) && decide (0 ≤ G ∧ G ≤ 9999) && ((G == 0) == (L == 0))
theorem row_facts {l : List UInt8} {L D G : Int} (h : row l L D G = true) : isW l = true ∧ 0 ≤ L ∧ L ≤ 1000000 ∧ 0 ≤ D ∧ D ≤ mn 20000 L ∧ 0 ≤ G ∧ G ≤ 9999 := by
  unfold row at h
  simp only [Bool.and_eq_true, decide_eq_true_eq] at h
  obtain ⟨⟨⟨⟨a, b, c⟩, d, e⟩, f, g⟩, _⟩ := h
  exact ⟨a, b, c, d, e, f, g⟩
theorem row_eq (l : List UInt8) (L D G : Int) (hl : l.length ≤ 4611686018427387904) : impl_IsCaveRow.f (M l) L D G = some (row l L D G) := by
  unfold impl_IsCaveRow.f row
  rw [word_impl l hl, obs]
  cases isW l with
  | false => rfl
  | true =>
    rw [if_pos rfl, within_eq, obs]
    cases decide (0 ≤ L ∧ L ≤ 1000000) with
    | false => rfl
    | true =>
      rw [if_pos rfl, within_eq, obs]
      cases decide (0 ≤ D ∧ D ≤ mn 20000 L) with
      | false => rfl
      | true =>
        rw [if_pos rfl, within_eq, obs]
        cases decide (0 ≤ G ∧ G ≤ 9999) with
        | false => rfl
        | true => rfl
theorem least_eq (a b : Int) : spec_l1Least.f a b = some (mn a b) := by
  unfold spec_l1Least.f mn
  split <;> split <;> first | rfl | (congr 1; omega)
theorem one_eq (l : List UInt8) (L D G : Int) (hl : l.length ≤ 4611686018427387904) {k : Nat} (hk : l.length < k) : spec_l26One.f k (M l) L D G = some (row l L D G) := by
  unfold spec_l26One.f row
  rw [word_spec l hl hk, obs]
  cases isW l with
  | false => rfl
  | true =>
    rw [if_pos rfl, l1In_eq, obs]
    cases decide (0 ≤ L ∧ L ≤ 1000000) with
    | false => rfl
    | true =>
      rw [if_pos rfl, least_eq, obs, l1In_eq, obs]
      cases decide (0 ≤ D ∧ D ≤ mn 20000 L) with
      | false => rfl
      | true =>
        rw [if_pos rfl, l1In_eq, obs]
        cases decide (0 ≤ G ∧ G ≤ 9999) with
        | false => rfl
        | true => rfl
end Go.Proofs.YteepnlofbfccgaaDoor.Pr.Pure

/-
What is proved: plain lemmas on lists of caves: the laws' copying and comparing; both tests for caves are the same.
Conditions: those of each lemma.
-/
namespace Go.Proofs.YteepnlofbfccgaaDoor.Pr.Pure
open Go.RowKit Go.Proofs.YteepnlofbfccgaaDoorW.PrintWords Go.Proofs.YteepnlofbfccgaaDoorW.PrintLast Go.Proofs.YteepnlofbfccgaaDoorW.PrintMore Go.Lib
set_option linter.unusedVariables false
set_option linter.unusedSimpArgs false

def cvCaveRow (x : S23) : S26 := ⟨x.f0, x.f1, x.f2, x.f3⟩
theorem toCaveRowS_l0 (l : List S23) (hl : l.length ≤ 4611686018427387904) (d : Nat) : ∀ (k i : Nat), i + d = l.length → d < k →
    laws_toCaveRowS.l0 k l ((l.take i).map cvCaveRow ++ List.replicate (l.length - i) z26) i = some (l.map cvCaveRow) := by
  induction d with
  | zero =>
    intro k i hd hk
    obtain ⟨k, rfl⟩ : ∃ m, k = m + 1 := ⟨k - 1, by omega⟩
    simp only [laws_toCaveRowS.l0]
    rw [if_neg (by omega), List.take_of_length_le (by omega), show l.length - i = 0 by omega]
    simp
  | succ d ih =>
    intro k i hd hk
    obtain ⟨k, rfl⟩ : ∃ m, k = m + 1 := ⟨k - 1, by omega⟩
    simp only [laws_toCaveRowS.l0, laws_toCaveRow.f, Option.bind_some]
    rw [if_pos (by omega), if_pos (by omega), if_pos (by simp; omega), w64 (by omega) (by omega)]
    have ha : l[i]? = some (rd_T23 l i) := getD_some l z23 i (by omega)
    rw [Int.toNat_natCast]
    have := set_map_step cvCaveRow l z26 i (by omega) _ ha
    rw [show (⟨(rd_T23 l i).f0, (rd_T23 l i).f1, (rd_T23 l i).f2, (rd_T23 l i).f3⟩ : S26) = cvCaveRow (rd_T23 l i) from rfl, this]
    exact ih k (i + 1) (by omega) (by omega)
theorem toCaveRowS_eq {l : List S23} (hl : l.length * 40 ≤ 140737488351232) {k : Nat} (hk : l.length < k) : laws_toCaveRowS.f k l = some (l.map cvCaveRow) := by
  unfold laws_toCaveRowS.f
  rw [if_pos (by omega), if_pos (by omega), Int.toNat_natCast]
  have := toCaveRowS_l0 l (by omega) l.length k 0 (by omega) hk
  simpa using this


theorem eqCaveRowS_self (l : List S26) (hl : l.length ≤ 4611686018427387904) (d : Nat) : ∀ (k : Nat) (i : Int), 0 ≤ i → i + d = l.length → d < k → laws_eqCaveRowS.l0 k l l i = some true := by
  induction d with
  | zero =>
    intro k i h0 hd hk
    obtain ⟨k, rfl⟩ : ∃ m, k = m + 1 := ⟨k - 1, by omega⟩
    simp only [laws_eqCaveRowS.l0]
    rw [if_neg (by omega)]
  | succ d ih =>
    intro k i h0 hd hk
    obtain ⟨k, rfl⟩ : ∃ m, k = m + 1 := ⟨k - 1, by omega⟩
    simp only [laws_eqCaveRowS.l0, laws_eqCaveRow.f, if_true, Option.bind_some]
    rw [if_pos (by omega), if_pos (by omega), if_pos (by omega), w64 (by omega) (by omega)]
    exact ih k (i + 1) (by omega) (by omega) (by omega)
theorem eqCaveRowS_eq {l : List S26} (hl : l.length ≤ 4611686018427387904) {k : Nat} (hk : l.length < k) : laws_eqCaveRowS.f k l l = some true := by
  unfold laws_eqCaveRowS.f
  rw [if_pos rfl]
  exact eqCaveRowS_self l hl l.length k 0 (by omega) (by omega) hk


theorem szCaveRowS_l0 (l : List S23) (hs : ∀ x, x ∈ l → x.f0.size ≤ 140737488351232) (hl : l.length ≤ 4611686018427387904) (d : Nat) : ∀ (k i : Nat) (a : Int), i + d = l.length → d < k → 0 ≤ a → a ≤ 1048576 →
    ∃ t, laws_szCaveRowS.l0 k l a i = some t ∧ (0 ≤ t → ∀ j : Nat, i ≤ j → j < l.length → (rd_T23 l j).f0.size ≤ 1048576) := by
  induction d with
  | zero =>
    intro k i a hd hk h0 h1
    obtain ⟨k, rfl⟩ : ∃ m, k = m + 1 := ⟨k - 1, by omega⟩
    simp only [laws_szCaveRowS.l0]
    rw [if_neg (by omega)]
    exact ⟨a, rfl, fun _ j hj hjl => by omega⟩
  | succ d ih =>
    intro k i a hd hk h0 h1
    obtain ⟨k, rfl⟩ : ∃ m, k = m + 1 := ⟨k - 1, by omega⟩
    simp only [laws_szCaveRowS.l0]
    rw [if_pos (by omega), if_pos (by omega)]
    have hm : rd_T23 l i ∈ l := by
      show l.getD (i : Int).toNat _ ∈ l
      rw [Int.toNat_natCast, List.getD_eq_getElem?_getD, List.getElem?_eq_getElem (by omega)]
      exact List.getElem_mem _
    have hz := hs _ hm
    have hz' : ∀ j : Nat, j = i → (rd_T23 l i).f0.size ≤ 1048576 → (rd_T23 l j).f0.size ≤ 1048576 := fun j e h => by rw [e]; exact h
    generalize rd_T23 l i = y at hz hz' ⊢
    unfold laws_szCaveRow.f
    rw [w64 (x := a - (y.f0.size : Int)) (by omega) (by omega)]
    by_cases c : a - (y.f0.size : Int) < 0
    · rw [if_pos c, Option.bind_some, if_pos (by decide)]
      exact ⟨_, rfl, fun h => absurd h (by decide)⟩
    · rw [if_neg c, Option.bind_some, if_neg c, w64 (x := (i : Int) + 1) (by omega) (by omega)]
      obtain ⟨t, e, h⟩ := ih k (i + 1) (a - (y.f0.size : Int)) (by omega) (by omega) (by omega) (by omega)
      refine ⟨t, e, fun ht j hj hjl => ?_⟩
      by_cases hji : j = i
      · exact hz' j hji (by omega)
      · exact h ht j (by omega) hjl
theorem szCaveRowS_eq {l : List S23} (hs : ∀ x, x ∈ l → x.f0.size ≤ 140737488351232) (hl : l.length ≤ 4611686018427387904) {k : Nat} (hk : l.length < k) :
    ∃ t, laws_szCaveRowS.f k l 1048576 = some t ∧ (0 ≤ t → l.length ≤ 1048576 ∧ ∀ x, x ∈ l → x.f0.size ≤ 1048576) := by
  unfold laws_szCaveRowS.f
  rw [w64 (by omega) (by omega)]
  by_cases c : (1048576 : Int) - (l.length : Int) < 0
  · rw [if_pos c]
    exact ⟨_, rfl, fun h => absurd h (by decide)⟩
  · rw [if_neg c]
    obtain ⟨t, e, h⟩ := szCaveRowS_l0 l hs hl l.length k 0 (1048576 - (l.length : Int)) (by omega) hk (by omega) (by omega)
    refine ⟨t, e, fun ht => ⟨by omega, fun x hx => ?_⟩⟩
    obtain ⟨j, hj, rfl⟩ := List.mem_iff_getElem.1 hx
    have := h ht j (by omega) hj
    rw [show rd_T23 l (j : Int) = l.getD (j : Int).toNat _ from rfl, Int.toNat_natCast, List.getD_eq_getElem?_getD, List.getElem?_eq_getElem hj] at this
    exact this

def rowB (x : S26) : Bool := row x.f0.data.toList x.f1 x.f2 x.f3
theorem rowB_spec (x : S26) (hx : x.f0.size ≤ 1048576) {k : Nat} (hk : 1048576 < k) : spec_l26One.f k x.f0 x.f1 x.f2 x.f3 = some (rowB x) := by
  obtain ⟨l, hl⟩ := ex_M x.f0
  unfold rowB
  rw [hl] at hx ⊢
  rw [M_size] at hx
  rw [M_data]
  exact one_eq l _ _ _ (by omega) (by omega)
theorem rowB_impl (x : S26) (hx : x.f0.size ≤ 1048576) : impl_IsCaveRow.f x.f0 x.f1 x.f2 x.f3 = some (rowB x) := by
  obtain ⟨l, hl⟩ := ex_M x.f0
  unfold rowB
  rw [hl] at hx ⊢
  rw [M_size] at hx
  rw [M_data]
  exact row_eq l _ _ _ (by omega)
theorem rdRow_mem (l : List S26) {i : Int} (h0 : 0 ≤ i) (h1 : i < l.length) : rd_T26 l i ∈ l := by
  show l.getD i.toNat _ ∈ l
  rw [List.getD_eq_getElem?_getD, List.getElem?_eq_getElem (by omega)]
  exact List.getElem_mem _
/-- Caves, from an index on. -/
def rowsF (l : List S26) : Nat → Int → Bool
  | 0, _ => decide ((l.length : Int) ≤ 10)
  | d + 1, i => if rowB (rd_T26 l i) = true then (if i > 0 then (if Op.bytesLess ((rd_T26 l (i - 1)).f0).toList ((rd_T26 l i).f0).toList = true then rowsF l d (i + 1) else false) else rowsF l d (i + 1)) else false
theorem rowsF_succ (l : List S26) (d : Nat) (i : Int) : rowsF l (d + 1) i = if rowB (rd_T26 l i) = true then (if i > 0 then (if Op.bytesLess ((rd_T26 l (i - 1)).f0).toList ((rd_T26 l i).f0).toList = true then rowsF l d (i + 1) else false) else rowsF l d (i + 1)) else false := rfl
theorem goodC_l0 (l : List S26) (hs : ∀ x, x ∈ l → x.f0.size ≤ 1048576) (hl : l.length ≤ 1048576) (d : Nat) : ∀ (k : Nat) (i : Int), 0 ≤ i → i + d = l.length → 1048577 + d < k →
    spec_l26Good.l0 k l i = some (rowsF l d i) := by
  induction d with
  | zero =>
    intro k i h0 hd hk
    obtain ⟨k, rfl⟩ : ∃ m, k = m + 1 := ⟨k - 1, by omega⟩
    simp only [spec_l26Good.l0]
    rw [if_neg (by omega)]
    rfl
  | succ d ih =>
    intro k i h0 hd hk
    obtain ⟨k, rfl⟩ : ∃ m, k = m + 1 := ⟨k - 1, by omega⟩
    simp only [spec_l26Good.l0]
    rw [if_pos (by omega), if_pos h0, rowB_spec _ (hs _ (rdRow_mem l h0 (by omega))) (by omega), obs, w64 (x := i + 1) (by omega) (by omega), w64 (x := i - 1) (by omega) (by omega), ih k (i + 1) (by omega) (by omega) (by omega)]
    rw [rowsF_succ]
    cases rowB (rd_T26 l i) with
    | false => rfl
    | true =>
      rw [if_pos rfl, if_pos rfl]
      by_cases c : i > 0
      · rw [if_pos c, if_pos c, if_pos (by omega), if_pos (by omega)]
        cases Op.bytesLess ((rd_T26 l (i - 1)).f0).toList ((rd_T26 l i).f0).toList <;> rfl
      · rw [if_neg c, if_neg c]
theorem areC_l0 (l : List S26) (hs : ∀ x, x ∈ l → x.f0.size ≤ 1048576) (hl : l.length ≤ 1048576) (d : Nat) : ∀ (k : Nat) (i : Int), 0 ≤ i → i + d = l.length → d < k →
    impl_AreCaves.l0 k l l (l.length : Int) i = some (rowsF l d i) := by
  induction d with
  | zero =>
    intro k i h0 hd hk
    obtain ⟨k, rfl⟩ : ∃ m, k = m + 1 := ⟨k - 1, by omega⟩
    simp only [impl_AreCaves.l0]
    rw [if_neg (by omega)]
    rfl
  | succ d ih =>
    intro k i h0 hd hk
    obtain ⟨k, rfl⟩ : ∃ m, k = m + 1 := ⟨k - 1, by omega⟩
    simp only [impl_AreCaves.l0]
    rw [if_pos (by omega), if_pos h0, if_pos (by omega), rowB_impl _ (hs _ (rdRow_mem l h0 (by omega))), obs, w64 (x := i + 1) (by omega) (by omega), w64 (x := i - 1) (by omega) (by omega), ih k (i + 1) (by omega) (by omega) (by omega)]
    rw [rowsF_succ]
    cases rowB (rd_T26 l i) with
    | false => rfl
    | true =>
      rw [if_pos rfl, if_pos rfl]
      by_cases c : i > 0
      · rw [if_pos c, if_pos c, if_pos (by omega), if_pos (by omega)]
        cases Op.bytesLess ((rd_T26 l (i - 1)).f0).toList ((rd_T26 l i).f0).toList <;> rfl
      · rw [if_neg c, if_neg c]
/-- Caves. -/
def caves (l : List S26) : Bool := rowsF l l.length 0
theorem goodC_eq {l : List S26} (hs : ∀ x, x ∈ l → x.f0.size ≤ 1048576) (hl : l.length ≤ 1048576) {k : Nat} (hk : 1048577 + l.length < k) : spec_l26Good.f k l = some (caves l) := by
  unfold spec_l26Good.f caves
  exact goodC_l0 l hs hl l.length k 0 (by omega) (by omega) hk
theorem areC_eq {l : List S26} (hs : ∀ x, x ∈ l → x.f0.size ≤ 1048576) (hl : l.length ≤ 1048576) {k : Nat} (hk : l.length < k) : impl_AreCaves.f k l = some (caves l) := by
  unfold impl_AreCaves.f caves
  exact areC_l0 l hs hl l.length k 0 (by omega) (by omega) hk
end Go.Proofs.YteepnlofbfccgaaDoor.Pr.Pure

namespace Go.Proofs.YteepnlofbfccgaaDoor.Pr
open Go.RowKit Go.Proofs.YteepnlofbfccgaaDoorW.PrintWords Go.Proofs.YteepnlofbfccgaaDoorW.PrintLast Go.Proofs.YteepnlofbfccgaaDoorW.PrintMore
attribute [local go_sem] max2_int min2_int max_two min_two max_three min_three max_four min_four   -- for this text's walks alone
set_option linter.unusedVariables false
set_option linter.unusedSimpArgs false

/-! ### laws_eqStringS: function 28 -/
def laws_eqStringS.l0 : Nat → List ByteArray → List ByteArray → Int → Option (Bool)
  | 0, _, _, _ => none
  | k + 1, x0, x1, x5 => if x5 < (x0.length : Int) then (if 0 ≤ x5 then (if x5 < (x1.length : Int) then (if (rdOf ByteArray.empty x0 x5).toList = (rdOf ByteArray.empty x1 x5).toList then (laws_eqStringS.l0 k x0 x1 (wrap64 (x5 + 1))) else (some false)) else (none)) else (none)) else (some true)
def laws_eqStringS.f (k : Nat) (l0 : List ByteArray) (l1 : List ByteArray) : Option (Bool) := if (l0.length : Int) = (l1.length : Int) then (laws_eqStringS.l0 k l0 l1 0) else (some false)
theorem laws_eqStringS.mono_l : ∀ k, (∀ y0 y1 y2, LeO (laws_eqStringS.l0 k y0 y1 y2) (laws_eqStringS.l0 (k + 1) y0 y1 y2))
  | 0 => fun _ _ _ r h => by simp [laws_eqStringS.l0] at h
  | k + 1 => by
    have ih0 := laws_eqStringS.mono_l k
    · intro y0 y1 y2
      unfold laws_eqStringS.l0
      repeat' first
      | (with_reducible exact ih0 _ _ _)
      | (with_reducible exact LeO.refl _)
      | (with_reducible exact LeO.none _)
      | (with_reducible refine LeO.ite ?_ ?_)
      | (with_reducible refine LeO.bind ?_ (fun _ => ?_))
      | exact ih0 _ _ _
      | exact LeO.none _
      | refine LeO.ite ?_ ?_
      | refine LeO.bind ?_ (fun _ => ?_)
theorem laws_eqStringS.mono : ∀ a0 a1 k, LeO (laws_eqStringS.f k a0 a1) (laws_eqStringS.f (k + 1) a0 a1) := by
  intro a0 a1 k
  have ih0 := laws_eqStringS.mono_l k
  unfold laws_eqStringS.f
  repeat' first
      | (with_reducible exact ih0 _ _ _)
      | (with_reducible exact LeO.refl _)
      | (with_reducible exact LeO.none _)
      | (with_reducible refine LeO.ite ?_ ?_)
      | (with_reducible refine LeO.bind ?_ (fun _ => ?_))
      | exact ih0 _ _ _
      | exact LeO.none _
      | refine LeO.ite ?_ ?_
      | refine LeO.bind ?_ (fun _ => ?_)
set_option maxHeartbeats 8000000 in
set_option maxRecDepth 100000 in
theorem laws_eqStringS.calls (k : Nat) (A0 : Option Addr) (c0 : Nat) (l0 : List ByteArray) (A1 : Option Addr) (c1 : Nat) (l1 : List ByteArray) (r : Bool) (w : World) (hr0 : Kd.C Kd.string w A0 l0.length l0) (hc0 : l0.length ≤ c0) (hr1 : Kd.C Kd.string w A1 l1.length l1) (hc1 : l1.length ≤ c1) (h : laws_eqStringS.f k l0 l1 = some r) :
    Calls Tryd.prog 28 #[.slice A0 l0.length c0, .slice A1 l1.length c1] w fun e w' => e = .returned (.bool r) ∧ Drawn0 w w' := by
  have HR0 := Aside0.mk hr0
  have HC0 := Aside0.mk hc0
  clear hr0 hc0
  have HR1 := Aside0.mk hr1
  have HC1 := Aside0.mk hc1
  clear hr1 hc1
  have H : (if (l0.length : Int) = (l1.length : Int) then (laws_eqStringS.l0 k l0 l1 0) else (some false)) = some r := h
  clear h
  by_cases c3 : (l0.length : Int) = (l1.length : Int)
  · rw [if_pos c3] at H
    have c3b0 : ((l0.length : Int) == (l1.length : Int)) = true := beq_iff_eq.mpr c3
    have c3b1 : ((l0.length : Int) != (l1.length : Int)) = false := bne_eq_false_iff_eq.mpr c3
    have c3b2 : (l0.length == l1.length) = true := by first | simpa using c3 | (simp at c3 ⊢; omega)
    clear c3
    have H' := Aside0.mk H
    clear H
    go_enter Tryd.func28, Tryd.ntmps28
    go_wp2
    repeat (go_quiet (fail); try go_wp2)
    go_loopg [5] k (fun kq v5 w' => ∃ (x5_1 : Int), v5 = .int .i64 x5_1 ∧ Aside0 (laws_eqStringS.l0 kq l0 l1 x5_1 = some r) ∧ Aside0 (kq ≤ k) ∧ Drawn0 w w')
    case atStart => exact ⟨(0), (by first | rfl | (simp; done) | (simp [*]; done)), H', ⟨Nat.le_refl _⟩, by repeat (first | exact Drawn0.refl _ | apply Drawn0.step)⟩
    case round =>
      clear H'
      try clear c1
      try clear c2
      try clear p2
      try clear c3
      try clear c3b0
      try clear c3b1
      try clear c3b2
      obtain ⟨x5_1, rfl, HA, HK1, ⟨m1, rfl⟩⟩ := hrel
      cases gk with
      | zero => exact absurd HA.out (by simp [laws_eqStringS.l0])
      | succ k1 =>
        have H := HA.out
        clear HA
        simp only [laws_eqStringS.l0] at H
        by_cases c4 : x5_1 < (l0.length : Int)
        · rw [if_pos c4] at H
          have c4b0 : decide (x5_1 < (l0.length : Int)) = true := decide_eq_true c4
          clear c4
          by_cases c5 : 0 ≤ x5_1
          · rw [if_pos c5] at H
            have c5b0 : decide (0 ≤ x5_1) = true := decide_eq_true c5
            clear c5
            by_cases c6 : x5_1 < (l1.length : Int)
            · rw [if_pos c6] at H
              have c6b0 : decide (x5_1 < (l1.length : Int)) = true := decide_eq_true c6
              clear c6
              by_cases c7 : (rdOf ByteArray.empty l0 x5_1).toList = (rdOf ByteArray.empty l1 x5_1).toList
              · rw [if_pos c7] at H
                have c7b0 : ((rdOf ByteArray.empty l0 x5_1).toList == (rdOf ByteArray.empty l1 x5_1).toList) = true := beq_iff_eq.mpr c7
                have c7b1 : ((rdOf ByteArray.empty l0 x5_1).toList != (rdOf ByteArray.empty l1 x5_1).toList) = false := bne_eq_false_iff_eq.mpr c7
                clear c7
                have H' := Aside0.mk H
                clear H
                have p219 : 0 ≤ (x5_1 : Int) := of_decide_eq_true (by first | (with_reducible assumption) | assumption)
                have q219 : x5_1 < (l0.length : Int) := of_decide_eq_true (by first | (with_reducible assumption) | assumption)
                obtain ⟨ad219, e219, hx219_0⟩ := Kd.at_string HR0.out x5_1 p219 q219
                cases e219
                replace p219 := eq_true p219
                replace q219 := eq_true q219
                have p220 : 0 ≤ (x5_1 : Int) := of_decide_eq_true (by first | (with_reducible assumption) | assumption)
                have q220 : x5_1 < (l1.length : Int) := of_decide_eq_true (by first | (with_reducible assumption) | assumption)
                obtain ⟨ad220, e220, hx220_0⟩ := Kd.at_string HR1.out x5_1 p220 q220
                cases e220
                replace p220 := eq_true p220
                replace q220 := eq_true q220
                go_wp2
                repeat (go_quiet (fail); try go_wp2)
                go_roundg k1
                case measure => have := HK1.out; omega
                case rel => exact ⟨(wrap64 (x5_1 + 1)), (by first | rfl | (simp; done) | (simp [*]; done)), H', ⟨by have := HK1.out; omega⟩, by repeat (first | exact Drawn0.refl _ | apply Drawn0.step)⟩
              · rw [if_neg c7] at H
                have c7b0 : ((rdOf ByteArray.empty l0 x5_1).toList == (rdOf ByteArray.empty l1 x5_1).toList) = false := beq_eq_false_iff_ne.mpr c7
                have c7b1 : ((rdOf ByteArray.empty l0 x5_1).toList != (rdOf ByteArray.empty l1 x5_1).toList) = true := bne_iff_ne.mpr c7
                obtain rfl := Option.some.inj H
                have p219 : 0 ≤ (x5_1 : Int) := of_decide_eq_true (by first | (with_reducible assumption) | assumption)
                have q219 : x5_1 < (l0.length : Int) := of_decide_eq_true (by first | (with_reducible assumption) | assumption)
                obtain ⟨ad219, e219, hx219_0⟩ := Kd.at_string HR0.out x5_1 p219 q219
                cases e219
                replace p219 := eq_true p219
                replace q219 := eq_true q219
                have p220 : 0 ≤ (x5_1 : Int) := of_decide_eq_true (by first | (with_reducible assumption) | assumption)
                have q220 : x5_1 < (l1.length : Int) := of_decide_eq_true (by first | (with_reducible assumption) | assumption)
                obtain ⟨ad220, e220, hx220_0⟩ := Kd.at_string HR1.out x5_1 p220 q220
                cases e220
                replace p220 := eq_true p220
                replace q220 := eq_true q220
                go_wp2
                repeat (go_quiet (fail); try go_wp2)
                go_ret
                exact ⟨by first | rfl | (simp; done) | (simp [*]; done), by repeat (first | exact Drawn0.refl _ | apply Drawn0.step)⟩
            · rw [if_neg c6] at H
              exact absurd H (by simp)
          · rw [if_neg c5] at H
            exact absurd H (by simp)
        · rw [if_neg c4] at H
          have c4b0 : decide (x5_1 < (l0.length : Int)) = false := decide_eq_false c4
          clear c4
          obtain rfl := Option.some.inj H
          go_wp2
          repeat (go_quiet (fail); try go_wp2)
          go_ret
          exact ⟨by first | rfl | (simp; done) | (simp [*]; done), by repeat (first | exact Drawn0.refl _ | apply Drawn0.step)⟩
  · rw [if_neg c3] at H
    have c3b0 : ((l0.length : Int) == (l1.length : Int)) = false := beq_eq_false_iff_ne.mpr c3
    have c3b1 : ((l0.length : Int) != (l1.length : Int)) = true := bne_iff_ne.mpr c3
    have c3b2 : (l0.length == l1.length) = false := by first | simpa using c3 | (simp at c3 ⊢; omega)
    obtain rfl := Option.some.inj H
    go_enter Tryd.func28, Tryd.ntmps28
    go_wp2
    repeat (go_quiet (fail); try go_wp2)
    go_ret
    exact ⟨by first | rfl | (simp; done) | (simp [*]; done), by repeat (first | exact Drawn0.refl _ | apply Drawn0.step)⟩

end Go.Proofs.YteepnlofbfccgaaDoor.Pr

namespace Go.Proofs.YteepnlofbfccgaaDoor.Pr
open Go.RowKit Go.Proofs.YteepnlofbfccgaaDoorW.PrintWords Go.Proofs.YteepnlofbfccgaaDoorW.PrintLast Go.Proofs.YteepnlofbfccgaaDoorW.PrintMore
attribute [local go_sem] max2_int min2_int max_two min_two max_three min_three max_four min_four   -- for this text's walks alone
set_option linter.unusedVariables false
set_option linter.unusedSimpArgs false

/-! ### laws_markStringS: function 30 -/
def laws_markStringS.l0 : Nat → List ByteArray → Int → Int → Option (Int × List ByteArray)
  | 0, _, _, _ => none
  | k + 1, x0, x1, x5 => if x5 < (x0.length : Int) then ((laws_markText.f k x1).bind fun t229 => (if 0 ≤ x5 then (laws_markStringS.l0 k (x0.set (x5 : Int).toNat t229) (wrap64 (x1 + 1)) (wrap64 (x5 + 1))) else (none))) else (some (x1, x0))
def laws_markStringS.f (k : Nat) (l0 : List ByteArray) (a1 : Int) : Option (Int × List ByteArray) := laws_markStringS.l0 k l0 a1 0
theorem laws_markStringS.mono_l : ∀ k, (∀ y0 y1 y2, LeO (laws_markStringS.l0 k y0 y1 y2) (laws_markStringS.l0 (k + 1) y0 y1 y2))
  | 0 => fun _ _ _ r h => by simp [laws_markStringS.l0] at h
  | k + 1 => by
    have ih0 := laws_markStringS.mono_l k
    · intro y0 y1 y2
      unfold laws_markStringS.l0
      repeat' first
      | (with_reducible exact ih0 _ _ _)
      | (with_reducible exact laws_markText.mono _ _)
      | (with_reducible exact LeO.refl _)
      | (with_reducible exact LeO.none _)
      | (with_reducible refine LeO.ite ?_ ?_)
      | (with_reducible refine LeO.bind ?_ (fun _ => ?_))
      | exact ih0 _ _ _
      | exact laws_markText.mono _ _
      | exact LeO.none _
      | refine LeO.ite ?_ ?_
      | refine LeO.bind ?_ (fun _ => ?_)
theorem laws_markStringS.mono : ∀ a0 a1 k, LeO (laws_markStringS.f k a0 a1) (laws_markStringS.f (k + 1) a0 a1) := by
  intro a0 a1 k
  have ih0 := laws_markStringS.mono_l k
  unfold laws_markStringS.f
  repeat' first
      | (with_reducible exact ih0 _ _ _)
      | (with_reducible exact laws_markText.mono _ _)
      | (with_reducible exact LeO.refl _)
      | (with_reducible exact LeO.none _)
      | (with_reducible refine LeO.ite ?_ ?_)
      | (with_reducible refine LeO.bind ?_ (fun _ => ?_))
      | exact ih0 _ _ _
      | exact laws_markText.mono _ _
      | exact LeO.none _
      | refine LeO.ite ?_ ?_
      | refine LeO.bind ?_ (fun _ => ?_)
set_option maxHeartbeats 8000000 in
set_option maxRecDepth 100000 in
theorem laws_markStringS.calls (k : Nat) (P0_ : Nat → Prop) (u9000_ : Value) (l0 : List ByteArray) (a1 : Int) (r1 : Int) (r2 : List ByteArray) (w0 w : World) (hB : Below w0.heap.size w0 w) (ho0 : Kd.R Kd.string 9 w w0.heap.size P0_ u9000_ l0) (h : laws_markStringS.f k l0 a1 = some (r1, r2)) :
    Calls Tryd.prog 30 #[u9000_, .int .i64 a1] w fun e w' => e = .returned (.int .i64 r1) ∧ Kd.R Kd.string 9 w' w0.heap.size (fun k_ => (P0_ k_ ∨ w.heap.size ≤ k_)) u9000_ r2 ∧ Below w0.heap.size w0 w' ∧ Kept w w' (fun k_ => P0_ k_) := by
  have HO0 := Aside0.mk (show Kd.R Kd.string 9 w w0.heap.size (fun k_ => (P0_ k_ ∨ w.heap.size ≤ k_)) u9000_ l0 from Kd.R_mono ho0 (fun k_ hk => (.inl hk)))
  have HK := Aside0.mk (Kept.refl w (fun k_ => P0_ k_))
  have HW0 := Aside0.mk hB.size
  have HB := Aside0.mk hB
  clear hB
  have H : (laws_markStringS.l0 k l0 a1 0) = some (r1, r2) := h
  clear h
  have H' := Aside0.mk H
  clear H
  go_enter Tryd.func30, Tryd.ntmps30
  go_wp2
  go_loopg [1, 5] k (fun kq v1 v5 w' => ∃ (x0_1 : List ByteArray) (x1_1 : Int) (x5_1 : Int), v1 = .int .i64 x1_1 ∧ v5 = .int .i64 x5_1 ∧ Aside0 (laws_markStringS.l0 kq x0_1 x1_1 x5_1 = some (r1, r2)) ∧ Aside0 (kq ≤ k) ∧ Aside0 (Kd.R Kd.string 9 w' w0.heap.size (fun k_ => (P0_ k_ ∨ w.heap.size ≤ k_)) u9000_ x0_1) ∧ Aside0 (Kept w w' (fun k_ => P0_ k_)) ∧ Aside0 (Below w0.heap.size w0 w'))
  case atStart => exact ⟨(l0), (a1), (0), (by first | rfl | (simp; done) | (simp [*]; done)), (by first | rfl | (simp; done) | (simp [*]; done)), H', ⟨Nat.le_refl _⟩, ⟨by (with_reducible repeat (first | apply Kd.R_alloc | apply Kd.R_drewN | apply Kd.R_drew)); exact HO0.out⟩, ⟨by repeat (first | (with_reducible first | exact HK.out | apply Kept.alloc | apply Kept.drewN | apply Kept.drew) | exact HK.out)⟩, ⟨by repeat (first | (with_reducible first | exact HB.out | apply below_alloc | apply pw_below_drewN | apply below_drew1) | exact HB.out)⟩⟩
  case round =>
    clear H'
    try clear p2
    obtain ⟨x0_1, x1_1, x5_1, rfl, rfl, HA, HK1, HO_0, HK, HB⟩ := hrel
    cases gk with
    | zero => exact absurd HA.out (by simp [laws_markStringS.l0])
    | succ k1 =>
      have H := HA.out
      clear HA
      simp only [laws_markStringS.l0] at H
      by_cases c3 : x5_1 < (x0_1.length : Int)
      · rw [if_pos c3] at H
        have c3b0 : decide (x5_1 < (x0_1.length : Int)) = true := decide_eq_true c3
        clear c3
        replace H := Option.bind_eq_some_iff.mp H
        obtain ⟨t229, A40, H⟩ := H
        replace H : (if 0 ≤ x5_1 then (laws_markStringS.l0 k1 (x0_1.set (x5_1 : Int).toNat t229) (wrap64 (x1_1 + 1)) (wrap64 (x5_1 + 1))) else (none)) = some (r1, r2) := H
        have A4 := Aside0.mk A40
        clear A40
        by_cases c5 : 0 ≤ x5_1
        · rw [if_pos c5] at H
          have c5b0 : decide (0 ≤ x5_1) = true := decide_eq_true c5
          clear c5
          obtain ⟨y230, hy230⟩ : ∃ y_ : List ByteArray, y_ = (x0_1.set (x5_1 : Int).toNat t229) := ⟨_, rfl⟩
          replace H : (laws_markStringS.l0 k1 y230 (wrap64 (x1_1 + 1)) (wrap64 (x5_1 + 1))) = some (r1, r2) := by first | (rw [hy230]; with_reducible exact H) | (have H2_ := (Option.bind_some _ _).symm.trans H; rw [hy230]; with_reducible exact H2_) | (have H2_ := (Option.bind_some _ _).symm.trans H; with_reducible exact H2_) | with_reducible exact H | (rw [hy230]; exact H) | exact H
          have Ny230 := Aside0.mk hy230
          clear hy230
          have H' := Aside0.mk H
          clear H
          obtain ⟨Ao7, co7, eo7⟩ := Kd.R_slice HO_0.out
          subst eo7
          go_wp2_with (first | ((with_reducible refine gate_callee (f := 63) rfl ?_); refine goesL_ (some 15) rfl rfl Tryd.func63 (by kernel_rfl) rfl #[.int .i64 x1_1] rfl (by (try simp only [List.map_toArray, List.map_cons, List.map_nil]); first | done | rfl | (simp only [List.length_drop, List.length_take]; rfl)) ?_; (with_reducible refine (laws_markText.calls k1 x1_1 t229 _ A4.out).mono ?_); rintro e w8 ⟨rfl, hb⟩; refine ⟨_, rfl, ?_⟩; have n0_ := Aside0.mk (Kd.R_below (by (with_reducible repeat (first | apply Kd.R_alloc | apply Kd.R_drewN | apply Kd.R_drew)); exact HO_0.out) hb); have n1_ := Aside0.mk (Kept.below (S := (fun k_ => P0_ k_)) (by repeat (first | (with_reducible first | exact HK.out | apply Kept.alloc | apply Kept.drewN | apply Kept.drew) | exact HK.out)) hb); have n2_ := Aside0.mk (below_step (by repeat (first | (with_reducible first | exact HB.out | apply below_alloc | apply pw_below_drewN | apply below_drew1) | exact HB.out)) hb); clear HO_0; clear HK; clear HB; have HO_0 := n0_; have HK := n1_; have HB := n2_; clear n0_ n1_ n2_; (try clear hb); (try clear hb2); (try clear hk); (try clear hi); have p6 : 0 ≤ (x5_1 : Int) := of_decide_eq_true (by first | (with_reducible assumption) | assumption); have q6 : (x5_1 : Int) < ((x0_1.length : Int) : Int) := of_decide_eq_true (by first | (with_reducible assumption) | assumption); obtain ⟨go6, co6, eo6, gb6, gl6, cl6, HG6⟩ := Kd.R_form HO_0.out (by omega); (first | cases eo6 | (injection eo6 with ea_ en_ ec_; (first | subst ea_ | (injection ea_ with ea_; subst ea_)); subst ec_; clear en_)); have GB6 := Aside0.mk gb6; have GG6 := Aside0.mk HG6; clear gb6 gl6 HG6; have HMgo6 := Aside0.mk (show (P0_ go6 ∨ w.heap.size ≤ go6) from (HO_0.out.1 _ rfl)); obtain ⟨hx6_0, hf6_0⟩ := Kd.R_celln (⟨#[]⟩ : ByteArray) HO_0.out (x5_1 : Int) p6 q6; replace p6 := eq_true p6; replace q6 := eq_true q6; obtain ⟨hy9_, hz9_⟩ := Kd.R_celln (⟨#[]⟩ : ByteArray) HO_0.out (x5_1 : Int) (of_decide_eq_true (by first | (with_reducible assumption) | assumption)) (of_decide_eq_true (by first | (with_reducible assumption) | assumption)); have HP9 := Kd.R_putg HO_0.out (x5_1 : Int) t229) | ((with_reducible refine gate_store (t := 9) (p := 16) rfl ?_); refine store_event (t := 9) (p := 16) (v := ?vo_w10) (w1 := (w8.setCell ⟨go6, (x5_1 : Int).toNat, none⟩ (.string t229))) ?hg ?ho ?hn ?hr ?_; (case ho => rfl); (case hg => rfl); (case hn => rfl); (case hr => first | (go_simp; done) | (go_simp; rfl)); intro w10 hw; have hg : w8.grownBy w10 (some go6) := (by rw [hw]; exact HP9.2); have hp_ : Kd.R Kd.string 9 w10 w0.heap.size (fun k_ => (P0_ k_ ∨ w.heap.size ≤ k_)) (.slice (some ⟨go6, 0, none⟩) x0_1.length co7) y230 := (by rw [hw, Ny230.out]; exact HP9.1); clear HP9; have n0_ := Aside0.mk (hp_); have n1_ := Aside0.mk ((by rw [hw]; exact below_set (HB.out) GB6.out : Below w0.heap.size w0 w10)); have n2_ := Aside0.mk (Kept.of_grown (S := (fun k_ => P0_ k_)) hg (by repeat (first | (with_reducible first | exact HK.out | apply Kept.alloc | apply Kept.drewN | apply Kept.drew) | exact HK.out)) (fun k_ e_ => (HO_0.out.1 k_ e_))); clear HO_0; clear HB; clear HK; have HO_0 := n0_; have HB := n1_; have HK := n2_; clear n0_ n1_ n2_; clear hg hw hp_))
          go_roundg k1
          case measure => have := HK1.out; omega
          case rel => exact ⟨(y230), (wrap64 (x1_1 + 1)), (wrap64 (x5_1 + 1)), (by first | rfl | (simp; done) | (simp [*]; done)), (by first | rfl | (simp; done) | (simp [*]; done)), H', ⟨by have := HK1.out; omega⟩, ⟨by (with_reducible repeat (first | apply Kd.R_alloc | apply Kd.R_drewN | apply Kd.R_drew)); first | exact HO_0.out | (rw [Ny230.out]; exact (Kd.R_putg (Kd.R_drewN HO_0.out _) _ _).1) | (rw [Ny230.out]; exact (Kd.R_putg HO_0.out _ _).1)⟩, ⟨by repeat (first | (with_reducible first | exact HK.out | apply Kept.alloc | apply Kept.drewN | apply Kept.drew) | exact HK.out)⟩, ⟨by repeat (first | (with_reducible first | exact HB.out | apply below_alloc | apply pw_below_drewN | apply below_drew1) | exact HB.out | (first | exact below_set (pw_below_drewN HB.out _) GB6.out | exact below_set HB.out GB6.out))⟩⟩
        · rw [if_neg c5] at H
          exact absurd H (by simp)
      · rw [if_neg c3] at H
        have c3b0 : decide (x5_1 < (x0_1.length : Int)) = false := decide_eq_false c3
        clear c3
        simp only [Option.some.injEq, Prod.mk.injEq] at H
        obtain ⟨rfl, rfl⟩ := H
        obtain ⟨Ao11, co11, eo11⟩ := Kd.R_slice HO_0.out
        subst eo11
        go_wp2
        go_ret
        exact ⟨by first | rfl | (simp [errW_none, errW_some] <;> rfl) | (simp [*, errW_none, errW_some] <;> rfl), by (with_reducible repeat (first | apply Kd.R_alloc | apply Kd.R_drewN | apply Kd.R_drew)); exact HO_0.out, by repeat (first | (with_reducible first | exact HB.out | apply below_alloc | apply pw_below_drewN | apply below_drew1) | exact HB.out), by repeat (first | (with_reducible first | exact HK.out | apply Kept.alloc | apply Kept.drewN | apply Kept.drew) | exact HK.out)⟩

end Go.Proofs.YteepnlofbfccgaaDoor.Pr

namespace Go.Proofs.YteepnlofbfccgaaDoor.Pr
open Go.RowKit Go.Proofs.YteepnlofbfccgaaDoorW.PrintWords Go.Proofs.YteepnlofbfccgaaDoorW.PrintLast Go.Proofs.YteepnlofbfccgaaDoorW.PrintMore
attribute [local go_sem] max2_int min2_int max_two min_two max_three min_three max_four min_four   -- for this text's walks alone
set_option linter.unusedVariables false
set_option linter.unusedSimpArgs false

/-! ### laws_heldStringS: function 31 -/
def laws_heldStringS.l0 : Nat → List ByteArray → Int → Int → Option (Int)
  | 0, _, _, _ => none
  | k + 1, x0, x1, x5 => if x5 < (x0.length : Int) then (if 0 ≤ x5 then ((laws_markText.f k x1).bind fun t232 => (if (rdOf ByteArray.empty x0 x5).toList = t232.toList then (laws_heldStringS.l0 k x0 (wrap64 (x1 + 1)) (wrap64 (x5 + 1))) else (some (-1)))) else (none)) else (some x1)
def laws_heldStringS.f (k : Nat) (l0 : List ByteArray) (a1 : Int) : Option (Int) := laws_heldStringS.l0 k l0 a1 0
theorem laws_heldStringS.mono_l : ∀ k, (∀ y0 y1 y2, LeO (laws_heldStringS.l0 k y0 y1 y2) (laws_heldStringS.l0 (k + 1) y0 y1 y2))
  | 0 => fun _ _ _ r h => by simp [laws_heldStringS.l0] at h
  | k + 1 => by
    have ih0 := laws_heldStringS.mono_l k
    · intro y0 y1 y2
      unfold laws_heldStringS.l0
      repeat' first
      | (with_reducible exact ih0 _ _ _)
      | (with_reducible exact laws_markText.mono _ _)
      | (with_reducible exact LeO.refl _)
      | (with_reducible exact LeO.none _)
      | (with_reducible refine LeO.ite ?_ ?_)
      | (with_reducible refine LeO.bind ?_ (fun _ => ?_))
      | exact ih0 _ _ _
      | exact laws_markText.mono _ _
      | exact LeO.none _
      | refine LeO.ite ?_ ?_
      | refine LeO.bind ?_ (fun _ => ?_)
theorem laws_heldStringS.mono : ∀ a0 a1 k, LeO (laws_heldStringS.f k a0 a1) (laws_heldStringS.f (k + 1) a0 a1) := by
  intro a0 a1 k
  have ih0 := laws_heldStringS.mono_l k
  unfold laws_heldStringS.f
  repeat' first
      | (with_reducible exact ih0 _ _ _)
      | (with_reducible exact laws_markText.mono _ _)
      | (with_reducible exact LeO.refl _)
      | (with_reducible exact LeO.none _)
      | (with_reducible refine LeO.ite ?_ ?_)
      | (with_reducible refine LeO.bind ?_ (fun _ => ?_))
      | exact ih0 _ _ _
      | exact laws_markText.mono _ _
      | exact LeO.none _
      | refine LeO.ite ?_ ?_
      | refine LeO.bind ?_ (fun _ => ?_)
set_option maxHeartbeats 8000000 in
set_option maxRecDepth 100000 in
theorem laws_heldStringS.calls (k : Nat) (A0 : Option Addr) (c0 : Nat) (l0 : List ByteArray) (a1 : Int) (r : Int) (w : World) (hr0 : Kd.C Kd.string w A0 l0.length l0) (hc0 : l0.length ≤ c0) (h : laws_heldStringS.f k l0 a1 = some r) :
    Calls Tryd.prog 31 #[.slice A0 l0.length c0, .int .i64 a1] w fun e w' => e = .returned (.int .i64 r) ∧ Below w.heap.size w w' := by
  have HR0 := Aside0.mk hr0
  have HC0 := Aside0.mk hc0
  clear hr0 hc0
  have HB := Aside0.mk (Below.refl w.heap.size w)
  have H : (laws_heldStringS.l0 k l0 a1 0) = some r := h
  clear h
  have H' := Aside0.mk H
  clear H
  go_enter Tryd.func31, Tryd.ntmps31
  go_wp2
  go_loopg [1, 5] k (fun kq v1 v5 w' => ∃ (x1_1 : Int) (x5_1 : Int), v1 = .int .i64 x1_1 ∧ v5 = .int .i64 x5_1 ∧ Aside0 (laws_heldStringS.l0 kq l0 x1_1 x5_1 = some r) ∧ Aside0 (kq ≤ k) ∧ Aside0 (Below w.heap.size w w'))
  case atStart => exact ⟨(a1), (0), (by first | rfl | (simp; done) | (simp [*]; done)), (by first | rfl | (simp; done) | (simp [*]; done)), H', ⟨Nat.le_refl _⟩, ⟨by repeat (first | (with_reducible first | exact HB.out | apply below_alloc | apply pw_below_drewN | apply below_drew1) | exact HB.out)⟩⟩
  case round =>
    clear H'
    try clear p2
    obtain ⟨x1_1, x5_1, rfl, rfl, HA, HK1, HB⟩ := hrel
    cases gk with
    | zero => exact absurd HA.out (by simp [laws_heldStringS.l0])
    | succ k1 =>
      have H := HA.out
      clear HA
      simp only [laws_heldStringS.l0] at H
      by_cases c3 : x5_1 < (l0.length : Int)
      · rw [if_pos c3] at H
        have c3b0 : decide (x5_1 < (l0.length : Int)) = true := decide_eq_true c3
        clear c3
        by_cases c4 : 0 ≤ x5_1
        · rw [if_pos c4] at H
          have c4b0 : decide (0 ≤ x5_1) = true := decide_eq_true c4
          clear c4
          replace H := Option.bind_eq_some_iff.mp H
          obtain ⟨t232, A50, H⟩ := H
          replace H : (if (rdOf ByteArray.empty l0 x5_1).toList = t232.toList then (laws_heldStringS.l0 k1 l0 (wrap64 (x1_1 + 1)) (wrap64 (x5_1 + 1))) else (some (-1))) = some r := H
          have A5 := Aside0.mk A50
          clear A50
          by_cases c6 : (rdOf ByteArray.empty l0 x5_1).toList = t232.toList
          · rw [if_pos c6] at H
            have c6b0 : ((rdOf ByteArray.empty l0 x5_1).toList == t232.toList) = true := beq_iff_eq.mpr c6
            have c6b1 : ((rdOf ByteArray.empty l0 x5_1).toList != t232.toList) = false := bne_eq_false_iff_eq.mpr c6
            clear c6
            have H' := Aside0.mk H
            clear H
            try go_wp2
            have n0_ := Aside0.mk (below_drew1 HB.out)
            clear HB
            have HB := n0_
            clear n0_
            have p231 : 0 ≤ (x5_1 : Int) := of_decide_eq_true (by first | (with_reducible assumption) | assumption)
            have q231 : x5_1 < (l0.length : Int) := of_decide_eq_true (by first | (with_reducible assumption) | assumption)
            obtain ⟨ad231, e231, hx231_0⟩ := Kd.at_string HR0.out x5_1 p231 q231
            have hw231_0 := hx231_0
            cases e231
            replace hx231_0 := (HB.out.cell (World.block_lt_of_cell? w _ hx231_0)).trans hx231_0
            replace p231 := eq_true p231
            replace q231 := eq_true q231
            refine start_ (n := 7) (S := fun w' => w'.cell? (ad231.add (x5_1).toNat) = some (.string (rdOf ByteArray.empty l0 x5_1))) (ds := []) #[false, false, false, false, false, false, false] (by kernel_rfl) rfl rfl (((HB.out.cell (World.block_lt_of_cell? w _ hw231_0)).trans hw231_0)) (fun hHeld => ?_)
            generalize wr.drew = w7 at HB hx231_0 hHeld ⊢
            refine pure_ (i := 0) (N := some 12) (v := ?_) (a' := ?_) #[true, false, false, false, false, false, false] rfl rfl (by kernel_rfl) (fun _ _ _ h => h) (Or.inl ⟨by rfl, ?_⟩) ?_ ?_
            rotate_left
            · intro w'
              go_simp
              first | with_reducible rfl | (rw [if_neg (by simp only [ByteArray.size_append, ByteArray.size_extract, show ∀ (a : UInt8) (l : List UInt8), (⟨⟨a :: l⟩⟩ : ByteArray).size = l.length + 1 from fun _ _ => rfl, List.length_cons, List.length_nil] at *; omega)]; done) | (rw [if_neg (by simp only [ByteArray.size_append, ByteArray.size_extract, show ∀ (a : UInt8) (l : List UInt8), (⟨⟨a :: l⟩⟩ : ByteArray).size = l.length + 1 from fun _ _ => rfl, List.length_cons, List.length_nil] at *; omega)]; with_reducible rfl)
            rotate_left
            · simp only [Act.put, List.setIfInBounds_toArray, List.set_cons_zero, List.set_cons_succ, i64_w, i32_w]
              rfl
            refine pure_ (i := 1) (N := some 13) (v := ?_) (a' := ?_) #[true, true, false, false, false, false, false] rfl rfl (by kernel_rfl) (fun _ _ _ h => h) (Or.inl ⟨by rfl, ?_⟩) ?_ ?_
            rotate_left
            · intro w'
              go_simp
              first | with_reducible rfl | (rw [if_neg (by simp only [ByteArray.size_append, ByteArray.size_extract, show ∀ (a : UInt8) (l : List UInt8), (⟨⟨a :: l⟩⟩ : ByteArray).size = l.length + 1 from fun _ _ => rfl, List.length_cons, List.length_nil] at *; omega)]; done) | (rw [if_neg (by simp only [ByteArray.size_append, ByteArray.size_extract, show ∀ (a : UInt8) (l : List UInt8), (⟨⟨a :: l⟩⟩ : ByteArray).size = l.length + 1 from fun _ _ => rfl, List.length_cons, List.length_nil] at *; omega)]; with_reducible rfl)
            rotate_left
            · simp only [Act.put, List.setIfInBounds_toArray, List.set_cons_zero, List.set_cons_succ, i64_w, i32_w]
              rfl
            refine pure_ (i := 2) (N := some 14) (v := ?_) (a' := ?_) #[true, true, true, false, false, false, false] rfl rfl (by kernel_rfl) (fun _ _ _ h => h) (Or.inl ⟨by rfl, ?_⟩) ?_ ?_
            rotate_left
            · intro w'
              go_simp
              first | with_reducible rfl | (rw [if_neg (by simp only [ByteArray.size_append, ByteArray.size_extract, show ∀ (a : UInt8) (l : List UInt8), (⟨⟨a :: l⟩⟩ : ByteArray).size = l.length + 1 from fun _ _ => rfl, List.length_cons, List.length_nil] at *; omega)]; done) | (rw [if_neg (by simp only [ByteArray.size_append, ByteArray.size_extract, show ∀ (a : UInt8) (l : List UInt8), (⟨⟨a :: l⟩⟩ : ByteArray).size = l.length + 1 from fun _ _ => rfl, List.length_cons, List.length_nil] at *; omega)]; with_reducible rfl)
            rotate_left
            · simp only [Act.put, List.setIfInBounds_toArray, List.set_cons_zero, List.set_cons_succ, i64_w, i32_w]
              rfl
            refine pure_ (i := 4) (N := some 16) (v := ?_) (a' := ?_) #[true, true, true, false, true, false, false] rfl rfl (by kernel_rfl) (fun _ _ _ h => h) (Or.inl ⟨by rfl, ?_⟩) ?_ ?_
            rotate_left
            · intro w'
              go_simp
              first | with_reducible rfl | (rw [if_neg (by simp only [ByteArray.size_append, ByteArray.size_extract, show ∀ (a : UInt8) (l : List UInt8), (⟨⟨a :: l⟩⟩ : ByteArray).size = l.length + 1 from fun _ _ => rfl, List.length_cons, List.length_nil] at *; omega)]; done) | (rw [if_neg (by simp only [ByteArray.size_append, ByteArray.size_extract, show ∀ (a : UInt8) (l : List UInt8), (⟨⟨a :: l⟩⟩ : ByteArray).size = l.length + 1 from fun _ _ => rfl, List.length_cons, List.length_nil] at *; omega)]; with_reducible rfl)
            rotate_left
            · simp only [Act.put, List.setIfInBounds_toArray, List.set_cons_zero, List.set_cons_succ, i64_w, i32_w]
              rfl
            refine take_ (i := 3) (N := some 15) (v := ?_) (a' := ?_) #[true, true, true, true, true, false, false] rfl rfl (by kernel_rfl) (fun _ _ _ h => h) (Or.inl ⟨by rfl, ?_⟩) hHeld ?_ ?_
            rotate_left
            · intro w' s0
              go_simp
              first | with_reducible rfl | (rw [if_neg (by simp only [ByteArray.size_append, ByteArray.size_extract, show ∀ (a : UInt8) (l : List UInt8), (⟨⟨a :: l⟩⟩ : ByteArray).size = l.length + 1 from fun _ _ => rfl, List.length_cons, List.length_nil] at *; omega)]; done) | (rw [if_neg (by simp only [ByteArray.size_append, ByteArray.size_extract, show ∀ (a : UInt8) (l : List UInt8), (⟨⟨a :: l⟩⟩ : ByteArray).size = l.length + 1 from fun _ _ => rfl, List.length_cons, List.length_nil] at *; omega)]; with_reducible rfl)
            rotate_left
            · simp only [Act.put, List.setIfInBounds_toArray, List.set_cons_zero, List.set_cons_succ, i64_w, i32_w]
              rfl
            refine one_ (i := 5) (N := some 17) #[true, true, true, true, true, true, false] rfl rfl (by kernel_rfl) (by decide) (fun K hK => ?_)
            refine goes_ Tryd.func63 (by kernel_rfl) rfl #[.int .i64 x1_1] (by rfl) rfl rfl (by (try simp only [List.map_toArray, List.map_cons, List.map_nil]); first | done | rfl | (simp only [List.length_drop, List.length_take]; rfl)) ?_
            with_reducible refine (laws_markText.calls k1 x1_1 t232 _ A5.out).mono ?_
            rintro e w8 ⟨rfl, hb⟩
            refine ⟨_, rfl, ?_⟩
            have n0_ := Aside0.mk (below_step (by repeat (first | (with_reducible first | exact HB.out | apply below_alloc | apply pw_below_drewN | apply below_drew1) | exact HB.out)) hb)
            clear HB
            have HB := n0_
            clear n0_
            (try clear hb)
            (try clear hb2)
            (try clear hk)
            (try clear hi)
            refine hK.out _ _ (((HB.out.cell (World.block_lt_of_cell? w _ hw231_0)).trans hw231_0)) (fun hHeld => ?_)
            clear hK K
            refine norm_ (a' := ?_) ?_ ?_
            rotate_left
            · show Act.put _ (some 17) _ = _
              simp only [Act.put, List.setIfInBounds_toArray, List.set_cons_zero, List.set_cons_succ, i64_w, i32_w]
              rfl
            refine pure_ (i := 6) (N := some 18) (v := ?_) (a' := ?_) #[true, true, true, true, true, true, true] rfl rfl (by kernel_rfl) (fun _ _ _ h => h) (Or.inl ⟨by rfl, ?_⟩) ?_ ?_
            rotate_left
            · intro w'
              go_simp
              first | with_reducible rfl | (rw [if_neg (by simp only [ByteArray.size_append, ByteArray.size_extract, show ∀ (a : UInt8) (l : List UInt8), (⟨⟨a :: l⟩⟩ : ByteArray).size = l.length + 1 from fun _ _ => rfl, List.length_cons, List.length_nil] at *; omega)]; done) | (rw [if_neg (by simp only [ByteArray.size_append, ByteArray.size_extract, show ∀ (a : UInt8) (l : List UInt8), (⟨⟨a :: l⟩⟩ : ByteArray).size = l.length + 1 from fun _ _ => rfl, List.length_cons, List.length_nil] at *; omega)]; with_reducible rfl)
            rotate_left
            · simp only [Act.put, List.setIfInBounds_toArray, List.set_cons_zero, List.set_cons_succ, i64_w, i32_w]
              rfl
            refine done_ (by kernel_rfl) ?_
            try go_wp2
            go_roundg k1
            case measure => have := HK1.out; omega
            case rel => exact ⟨(wrap64 (x1_1 + 1)), (wrap64 (x5_1 + 1)), (by first | rfl | (simp; done) | (simp [*]; done)), (by first | rfl | (simp; done) | (simp [*]; done)), H', ⟨by have := HK1.out; omega⟩, ⟨by repeat (first | (with_reducible first | exact HB.out | apply below_alloc | apply pw_below_drewN | apply below_drew1) | exact HB.out)⟩⟩
          · rw [if_neg c6] at H
            have c6b0 : ((rdOf ByteArray.empty l0 x5_1).toList == t232.toList) = false := beq_eq_false_iff_ne.mpr c6
            have c6b1 : ((rdOf ByteArray.empty l0 x5_1).toList != t232.toList) = true := bne_iff_ne.mpr c6
            obtain rfl := Option.some.inj H
            try go_wp2
            have n0_ := Aside0.mk (below_drew1 HB.out)
            clear HB
            have HB := n0_
            clear n0_
            have p231 : 0 ≤ (x5_1 : Int) := of_decide_eq_true (by first | (with_reducible assumption) | assumption)
            have q231 : x5_1 < (l0.length : Int) := of_decide_eq_true (by first | (with_reducible assumption) | assumption)
            obtain ⟨ad231, e231, hx231_0⟩ := Kd.at_string HR0.out x5_1 p231 q231
            have hw231_0 := hx231_0
            cases e231
            replace hx231_0 := (HB.out.cell (World.block_lt_of_cell? w _ hx231_0)).trans hx231_0
            replace p231 := eq_true p231
            replace q231 := eq_true q231
            refine start_ (n := 7) (S := fun w' => w'.cell? (ad231.add (x5_1).toNat) = some (.string (rdOf ByteArray.empty l0 x5_1))) (ds := []) #[false, false, false, false, false, false, false] (by kernel_rfl) rfl rfl (((HB.out.cell (World.block_lt_of_cell? w _ hw231_0)).trans hw231_0)) (fun hHeld => ?_)
            generalize wr.drew = w9 at HB hx231_0 hHeld ⊢
            refine pure_ (i := 0) (N := some 12) (v := ?_) (a' := ?_) #[true, false, false, false, false, false, false] rfl rfl (by kernel_rfl) (fun _ _ _ h => h) (Or.inl ⟨by rfl, ?_⟩) ?_ ?_
            rotate_left
            · intro w'
              go_simp
              first | with_reducible rfl | (rw [if_neg (by simp only [ByteArray.size_append, ByteArray.size_extract, show ∀ (a : UInt8) (l : List UInt8), (⟨⟨a :: l⟩⟩ : ByteArray).size = l.length + 1 from fun _ _ => rfl, List.length_cons, List.length_nil] at *; omega)]; done) | (rw [if_neg (by simp only [ByteArray.size_append, ByteArray.size_extract, show ∀ (a : UInt8) (l : List UInt8), (⟨⟨a :: l⟩⟩ : ByteArray).size = l.length + 1 from fun _ _ => rfl, List.length_cons, List.length_nil] at *; omega)]; with_reducible rfl)
            rotate_left
            · simp only [Act.put, List.setIfInBounds_toArray, List.set_cons_zero, List.set_cons_succ, i64_w, i32_w]
              rfl
            refine pure_ (i := 1) (N := some 13) (v := ?_) (a' := ?_) #[true, true, false, false, false, false, false] rfl rfl (by kernel_rfl) (fun _ _ _ h => h) (Or.inl ⟨by rfl, ?_⟩) ?_ ?_
            rotate_left
            · intro w'
              go_simp
              first | with_reducible rfl | (rw [if_neg (by simp only [ByteArray.size_append, ByteArray.size_extract, show ∀ (a : UInt8) (l : List UInt8), (⟨⟨a :: l⟩⟩ : ByteArray).size = l.length + 1 from fun _ _ => rfl, List.length_cons, List.length_nil] at *; omega)]; done) | (rw [if_neg (by simp only [ByteArray.size_append, ByteArray.size_extract, show ∀ (a : UInt8) (l : List UInt8), (⟨⟨a :: l⟩⟩ : ByteArray).size = l.length + 1 from fun _ _ => rfl, List.length_cons, List.length_nil] at *; omega)]; with_reducible rfl)
            rotate_left
            · simp only [Act.put, List.setIfInBounds_toArray, List.set_cons_zero, List.set_cons_succ, i64_w, i32_w]
              rfl
            refine pure_ (i := 2) (N := some 14) (v := ?_) (a' := ?_) #[true, true, true, false, false, false, false] rfl rfl (by kernel_rfl) (fun _ _ _ h => h) (Or.inl ⟨by rfl, ?_⟩) ?_ ?_
            rotate_left
            · intro w'
              go_simp
              first | with_reducible rfl | (rw [if_neg (by simp only [ByteArray.size_append, ByteArray.size_extract, show ∀ (a : UInt8) (l : List UInt8), (⟨⟨a :: l⟩⟩ : ByteArray).size = l.length + 1 from fun _ _ => rfl, List.length_cons, List.length_nil] at *; omega)]; done) | (rw [if_neg (by simp only [ByteArray.size_append, ByteArray.size_extract, show ∀ (a : UInt8) (l : List UInt8), (⟨⟨a :: l⟩⟩ : ByteArray).size = l.length + 1 from fun _ _ => rfl, List.length_cons, List.length_nil] at *; omega)]; with_reducible rfl)
            rotate_left
            · simp only [Act.put, List.setIfInBounds_toArray, List.set_cons_zero, List.set_cons_succ, i64_w, i32_w]
              rfl
            refine pure_ (i := 4) (N := some 16) (v := ?_) (a' := ?_) #[true, true, true, false, true, false, false] rfl rfl (by kernel_rfl) (fun _ _ _ h => h) (Or.inl ⟨by rfl, ?_⟩) ?_ ?_
            rotate_left
            · intro w'
              go_simp
              first | with_reducible rfl | (rw [if_neg (by simp only [ByteArray.size_append, ByteArray.size_extract, show ∀ (a : UInt8) (l : List UInt8), (⟨⟨a :: l⟩⟩ : ByteArray).size = l.length + 1 from fun _ _ => rfl, List.length_cons, List.length_nil] at *; omega)]; done) | (rw [if_neg (by simp only [ByteArray.size_append, ByteArray.size_extract, show ∀ (a : UInt8) (l : List UInt8), (⟨⟨a :: l⟩⟩ : ByteArray).size = l.length + 1 from fun _ _ => rfl, List.length_cons, List.length_nil] at *; omega)]; with_reducible rfl)
            rotate_left
            · simp only [Act.put, List.setIfInBounds_toArray, List.set_cons_zero, List.set_cons_succ, i64_w, i32_w]
              rfl
            refine take_ (i := 3) (N := some 15) (v := ?_) (a' := ?_) #[true, true, true, true, true, false, false] rfl rfl (by kernel_rfl) (fun _ _ _ h => h) (Or.inl ⟨by rfl, ?_⟩) hHeld ?_ ?_
            rotate_left
            · intro w' s0
              go_simp
              first | with_reducible rfl | (rw [if_neg (by simp only [ByteArray.size_append, ByteArray.size_extract, show ∀ (a : UInt8) (l : List UInt8), (⟨⟨a :: l⟩⟩ : ByteArray).size = l.length + 1 from fun _ _ => rfl, List.length_cons, List.length_nil] at *; omega)]; done) | (rw [if_neg (by simp only [ByteArray.size_append, ByteArray.size_extract, show ∀ (a : UInt8) (l : List UInt8), (⟨⟨a :: l⟩⟩ : ByteArray).size = l.length + 1 from fun _ _ => rfl, List.length_cons, List.length_nil] at *; omega)]; with_reducible rfl)
            rotate_left
            · simp only [Act.put, List.setIfInBounds_toArray, List.set_cons_zero, List.set_cons_succ, i64_w, i32_w]
              rfl
            refine one_ (i := 5) (N := some 17) #[true, true, true, true, true, true, false] rfl rfl (by kernel_rfl) (by decide) (fun K hK => ?_)
            refine goes_ Tryd.func63 (by kernel_rfl) rfl #[.int .i64 x1_1] (by rfl) rfl rfl (by (try simp only [List.map_toArray, List.map_cons, List.map_nil]); first | done | rfl | (simp only [List.length_drop, List.length_take]; rfl)) ?_
            with_reducible refine (laws_markText.calls k1 x1_1 t232 _ A5.out).mono ?_
            rintro e w10 ⟨rfl, hb⟩
            refine ⟨_, rfl, ?_⟩
            have n0_ := Aside0.mk (below_step (by repeat (first | (with_reducible first | exact HB.out | apply below_alloc | apply pw_below_drewN | apply below_drew1) | exact HB.out)) hb)
            clear HB
            have HB := n0_
            clear n0_
            (try clear hb)
            (try clear hb2)
            (try clear hk)
            (try clear hi)
            refine hK.out _ _ (((HB.out.cell (World.block_lt_of_cell? w _ hw231_0)).trans hw231_0)) (fun hHeld => ?_)
            clear hK K
            refine norm_ (a' := ?_) ?_ ?_
            rotate_left
            · show Act.put _ (some 17) _ = _
              simp only [Act.put, List.setIfInBounds_toArray, List.set_cons_zero, List.set_cons_succ, i64_w, i32_w]
              rfl
            refine pure_ (i := 6) (N := some 18) (v := ?_) (a' := ?_) #[true, true, true, true, true, true, true] rfl rfl (by kernel_rfl) (fun _ _ _ h => h) (Or.inl ⟨by rfl, ?_⟩) ?_ ?_
            rotate_left
            · intro w'
              go_simp
              first | with_reducible rfl | (rw [if_neg (by simp only [ByteArray.size_append, ByteArray.size_extract, show ∀ (a : UInt8) (l : List UInt8), (⟨⟨a :: l⟩⟩ : ByteArray).size = l.length + 1 from fun _ _ => rfl, List.length_cons, List.length_nil] at *; omega)]; done) | (rw [if_neg (by simp only [ByteArray.size_append, ByteArray.size_extract, show ∀ (a : UInt8) (l : List UInt8), (⟨⟨a :: l⟩⟩ : ByteArray).size = l.length + 1 from fun _ _ => rfl, List.length_cons, List.length_nil] at *; omega)]; with_reducible rfl)
            rotate_left
            · simp only [Act.put, List.setIfInBounds_toArray, List.set_cons_zero, List.set_cons_succ, i64_w, i32_w]
              rfl
            refine done_ (by kernel_rfl) ?_
            try go_wp2
            go_ret
            exact ⟨by first | rfl | (simp [errW_none, errW_some] <;> rfl) | (simp [*, errW_none, errW_some] <;> rfl), by repeat (first | (with_reducible first | exact HB.out | apply below_alloc | apply pw_below_drewN | apply below_drew1) | exact HB.out)⟩
        · rw [if_neg c4] at H
          exact absurd H (by simp)
      · rw [if_neg c3] at H
        have c3b0 : decide (x5_1 < (l0.length : Int)) = false := decide_eq_false c3
        clear c3
        obtain rfl := Option.some.inj H
        go_wp2
        go_ret
        exact ⟨by first | rfl | (simp [errW_none, errW_some] <;> rfl) | (simp [*, errW_none, errW_some] <;> rfl), by repeat (first | (with_reducible first | exact HB.out | apply below_alloc | apply pw_below_drewN | apply below_drew1) | exact HB.out)⟩

end Go.Proofs.YteepnlofbfccgaaDoor.Pr

/-
What is proved: the texts by which the laws mark strings.
Conditions: numbers of a moderate size, enough rounds.
-/
namespace Go.Proofs.YteepnlofbfccgaaDoor.Pr.Pure
open Go.RowKit Go.Proofs.YteepnlofbfccgaaDoorW.PrintWords Go.Proofs.YteepnlofbfccgaaDoorW.PrintLast Go.Proofs.YteepnlofbfccgaaDoorW.PrintMore
set_option linter.unusedVariables false
set_option linter.unusedSimpArgs false
theorem strOf_one (x : Int) : (strOfNums [x]).size = 1 := by simp [strOfNums, ByteArray.size]
theorem markText_l0 : ∀ (j k : Nat) (x : Int) (s : ByteArray), 0 ≤ x → x < 10 ^ j → x ≤ 1125899906842624 → j < k → s.size + j ≤ 1000 → ∃ r, laws_markText.l0 k x s = some r := by
  intro j
  induction j with
  | zero =>
    intro k x s h0 h1 h2 hk hs
    obtain ⟨k, rfl⟩ : ∃ m, k = m + 1 := ⟨k - 1, by omega⟩
    simp only [laws_markText.l0]
    rw [if_neg (by omega), if_pos (by omega)]
    exact ⟨_, rfl⟩
  | succ j ih =>
    intro k x s h0 h1 h2 hk hs
    obtain ⟨k, rfl⟩ : ∃ m, k = m + 1 := ⟨k - 1, by omega⟩
    simp only [laws_markText.l0]
    by_cases h : x > 0
    · have hd : Int.tdiv x 10 = x / 10 := Int.tdiv_eq_ediv_of_nonneg h0
      have h3 : x / 10 < 10 ^ j := by
        rw [Int.pow_succ] at h1
        omega
      rw [if_pos h, obs, strOf_one, if_pos (by omega), hd, w64 (by omega) (by omega)]
      refine ih k (x / 10) _ (by omega) h3 (by omega) (by omega) ?_
      unfold sc
      rw [ByteArray.size_append, strOf_one]
      omega
    · rw [if_neg h, if_pos (by omega)]
      exact ⟨_, rfl⟩
theorem markText_ex {x : Int} (h0 : 0 ≤ x) (h1 : x ≤ 1125899906842624) : ∃ r, laws_markText.f 40 x = some r := by
  unfold laws_markText.f
  by_cases h : x ≤ 0
  · rw [if_pos h]
    exact ⟨_, rfl⟩
  · rw [if_neg h]
    exact markText_l0 16 40 x _ h0 (Int.lt_of_le_of_lt h1 (by decide)) h1 (by omega) (by decide)
/-- The text of a number. -/
def txt (x : Int) : ByteArray := (laws_markText.f 40 x).getD ⟨#[]⟩
theorem markText_eq {k : Nat} (hk : 40 ≤ k) {x : Int} (h0 : 0 ≤ x) (h1 : x ≤ 1125899906842624) : laws_markText.f k x = some (txt x) := by
  obtain ⟨r, hr⟩ := markText_ex h0 h1
  have : laws_markText.f k x = some r := at_rounds (fun k => laws_markText.mono x k) hk hr
  rw [this]
  unfold txt
  rw [hr]
  rfl
end Go.Proofs.YteepnlofbfccgaaDoor.Pr.Pure

/-
What is proved: the laws' marking, reading and comparing of lists of strings.
Conditions: those of each lemma.
-/
namespace Go.Proofs.YteepnlofbfccgaaDoor.Pr.Pure
open Go.RowKit Go.Proofs.YteepnlofbfccgaaDoorW.PrintWords Go.Proofs.YteepnlofbfccgaaDoorW.PrintLast Go.Proofs.YteepnlofbfccgaaDoorW.PrintMore
set_option linter.unusedVariables false
set_option linter.unusedSimpArgs false
def upTxt (a : Int) : Nat → List ByteArray
  | 0 => []
  | n + 1 => txt a :: upTxt (a + 1) n
theorem upTxt_len (n : Nat) : ∀ a, (upTxt a n).length = n := by
  induction n with
  | zero => intro a; rfl
  | succ n ih => intro a; simp [upTxt, ih]
theorem upTxt_get (n : Nat) : ∀ (a : Int) (j : Nat), j < n → (upTxt a n)[j]? = some (txt (a + j)) := by
  induction n with
  | zero => intro a j h; omega
  | succ n ih =>
    intro a j h
    cases j with
    | zero => simp [upTxt]
    | succ j =>
      simp only [upTxt, List.getElem?_cons_succ]
      rw [ih (a + 1) j (by omega), show a + 1 + (j : Int) = a + ((j + 1 : Nat) : Int) by omega]
theorem markStringS_l0 (d : Nat) : ∀ (k i : Nat) (pre suf : List ByteArray) (a : Int), pre.length = i → suf.length = d → d + 40 < k → i + d ≤ 4611686018427387904 → 0 ≤ a → a + d ≤ 1125899906842624 →
    laws_markStringS.l0 k (pre ++ suf) a i = some (a + d, pre ++ upTxt a d) := by
  induction d with
  | zero =>
    intro k i pre suf a hp hs hk hb h0 h1
    obtain ⟨k, rfl⟩ : ∃ m, k = m + 1 := ⟨k - 1, by omega⟩
    obtain rfl : suf = [] := List.length_eq_zero_iff.1 hs
    simp only [laws_markStringS.l0]
    rw [if_neg (by simp; omega)]
    simp [upTxt]
  | succ d ih =>
    intro k i pre suf a hp hs hk hb h0 h1
    obtain ⟨k, rfl⟩ : ∃ m, k = m + 1 := ⟨k - 1, by omega⟩
    obtain ⟨y, ys, rfl⟩ : ∃ y ys, suf = y :: ys := List.exists_cons_of_length_pos (by omega)
    simp only [laws_markStringS.l0]
    rw [if_pos (by simp; omega), markText_eq (by omega) h0 (by omega), obs, if_pos (by omega), w64 (x := a + 1) (by omega) (by omega), w64 (x := (i : Int) + 1) (by omega) (by omega), Int.toNat_natCast]
    have e : (pre ++ y :: ys).set i (txt a) = (pre ++ [txt a]) ++ ys := by
      rw [List.set_append_right _ _ (by omega), hp, Nat.sub_self, List.set_cons_zero]
      simp
    rw [e]
    have := ih k (i + 1) (pre ++ [txt a]) ys (a + 1) (by simp; omega) (by simpa using hs) (by omega) (by omega) (by omega) (by omega)
    rw [show ((i : Int) + 1) = ((i + 1 : Nat) : Int) by omega, this]
    simp only [upTxt, List.append_assoc, List.singleton_append]
    congr 2
    omega
theorem markStringS_eq {l : List ByteArray} (hl : l.length ≤ 1048576) {k : Nat} (hk : l.length + 40 < k) : laws_markStringS.f k l 1 = some (1 + (l.length : Int), upTxt 1 l.length) := by
  unfold laws_markStringS.f
  have := markStringS_l0 l.length k 0 [] l 1 rfl rfl hk (by omega) (by omega) (by omega)
  simpa using this
theorem heldStringS_l0 (n : Nat) (b : Int) (d : Nat) : ∀ (k i : Nat), i + d = n → d + 40 < k → n ≤ 1048576 → 0 ≤ b → b + n ≤ 1125899906842624 →
    laws_heldStringS.l0 k (upTxt b n) (b + i) i = some (b + n) := by
  induction d with
  | zero =>
    intro k i hd hk hn h0 h1
    obtain ⟨k, rfl⟩ : ∃ m, k = m + 1 := ⟨k - 1, by omega⟩
    simp only [laws_heldStringS.l0]
    rw [if_neg (by rw [upTxt_len]; omega)]
    congr 2
    omega
  | succ d ih =>
    intro k i hd hk hn h0 h1
    obtain ⟨k, rfl⟩ : ∃ m, k = m + 1 := ⟨k - 1, by omega⟩
    have e : rdOf ByteArray.empty (upTxt b n) (i : Int) = txt (b + i) := by
      simp only [rdOf, Int.toNat_natCast, List.getD_eq_getElem?_getD]
      rw [upTxt_get n b i (by omega)]
      rfl
    simp only [laws_heldStringS.l0]
    rw [if_pos (by rw [upTxt_len]; omega), if_pos (by omega), markText_eq (by omega) (by omega) (by omega), obs, e, if_pos rfl, w64 (x := b + i + 1) (by omega) (by omega), w64 (x := (i : Int) + 1) (by omega) (by omega)]
    have := ih k (i + 1) (by omega) (by omega) hn h0 h1
    rw [show b + (i : Int) + 1 = b + ((i + 1 : Nat) : Int) by omega, show ((i : Int) + 1) = ((i + 1 : Nat) : Int) by omega]
    exact this
theorem heldStringS_eq {n : Nat} (hn : n ≤ 1048576) {k : Nat} (hk : n + 40 < k) : laws_heldStringS.f k (upTxt 1 n) 1 = some (1 + (n : Int)) := by
  unfold laws_heldStringS.f
  have := heldStringS_l0 n 1 n k 0 (by omega) hk (by omega) (by omega) (by omega)
  simpa using this
theorem eqStringS_self (l : List ByteArray) (hl : l.length ≤ 4611686018427387904) (d : Nat) : ∀ (k : Nat) (i : Int), 0 ≤ i → i + d = l.length → d < k → laws_eqStringS.l0 k l l i = some true := by
  induction d with
  | zero =>
    intro k i h0 hd hk
    obtain ⟨k, rfl⟩ : ∃ m, k = m + 1 := ⟨k - 1, by omega⟩
    simp only [laws_eqStringS.l0]
    rw [if_neg (by omega)]
  | succ d ih =>
    intro k i h0 hd hk
    obtain ⟨k, rfl⟩ : ∃ m, k = m + 1 := ⟨k - 1, by omega⟩
    simp only [laws_eqStringS.l0, if_true]
    rw [if_pos (by omega), if_pos (by omega), if_pos (by omega), w64 (by omega) (by omega)]
    exact ih k (i + 1) (by omega) (by omega) (by omega)
theorem eqStringS_eq {l : List ByteArray} (hl : l.length ≤ 4611686018427387904) {k : Nat} (hk : l.length < k) : laws_eqStringS.f k l l = some true := by
  unfold laws_eqStringS.f
  rw [if_pos rfl]
  exact eqStringS_self l hl l.length k 0 (by omega) (by omega) hk
end Go.Proofs.YteepnlofbfccgaaDoor.Pr.Pure

/-
What is proved: plain lemmas on lists of caves: where a name stands, a list with a row changed, the laws' marks of rows.
Conditions: those of each lemma.
-/
namespace Go.Proofs.YteepnlofbfccgaaDoor.Pr.Pure
open Go.RowKit Go.Proofs.YteepnlofbfccgaaDoorW.PrintWords Go.Proofs.YteepnlofbfccgaaDoorW.PrintLast Go.Proofs.YteepnlofbfccgaaDoorW.PrintMore Go.Lib
set_option linter.unusedVariables false
set_option linter.unusedSimpArgs false

theorem set_app {α : Type} (pre ys : List α) (y z : α) (i : Nat) (h : pre.length = i) : (pre ++ y :: ys).set ((i : Int)).toNat z = pre ++ z :: ys := by
  rw [Int.toNat_natCast, List.set_append_right _ _ (by omega), h, Nat.sub_self, List.set_cons_zero]
theorem getD_app {α : Type} (pre ys : List α) (y d : α) (i : Nat) (h : pre.length = i) : (pre ++ y :: ys).getD ((i : Int)).toNat d = y := by
  rw [Int.toNat_natCast, List.getD_eq_getElem?_getD, List.getElem?_append_right (by omega), h, Nat.sub_self]
  rfl
theorem len_app {α : Type} (pre ys : List α) (y : α) : ((pre ++ y :: ys).length : Int) = (pre.length : Int) + (ys.length : Int) + 1 := by
  simp
  omega


def upCaveRow (a : Int) : Nat → List S26
  | 0 => []
  | n + 1 => ⟨txt a, a + 1, a + 1 + 1, a + 1 + 1 + 1⟩ :: upCaveRow (a + 1 + 1 + 1 + 1) n
theorem upCaveRow_len (n : Nat) : ∀ a, (upCaveRow a n).length = n := by
  induction n with
  | zero => intro a; rfl
  | succ n ih => intro a; simp [upCaveRow, ih]
theorem upCaveRow_get (n : Nat) : ∀ (a A : Int) (j : Nat), j < n → A = a + 4 * j → (upCaveRow a n)[j]? = some ⟨txt A, A + 1, A + 1 + 1, A + 1 + 1 + 1⟩ := by
  induction n with
  | zero => intro a A j h; omega
  | succ n ih =>
    intro a A j h hA
    cases j with
    | zero =>
      obtain rfl : A = a := by omega
      simp [upCaveRow]
    | succ j =>
      simp only [upCaveRow, List.getElem?_cons_succ]
      exact ih (a + 1 + 1 + 1 + 1) A j (by omega) (by omega)
theorem markCaveRowS_up0 (d : Nat) : ∀ (k i : Nat) (pre suf : List S26) (a : Int), pre.length = i → suf.length = d → d + 40 < k → i + d ≤ 1152921504606846976 → 0 ≤ a → a + 4 * d ≤ 1125899906842624 →
    laws_markCaveRowS.l0 k (pre ++ suf) a i = some (a + 4 * d, pre ++ upCaveRow a d) := by
  induction d with
  | zero =>
    intro k i pre suf a hp hs hk hb h0 h1
    obtain ⟨k, rfl⟩ : ∃ m, k = m + 1 := ⟨k - 1, by omega⟩
    obtain rfl : suf = [] := List.length_eq_zero_iff.1 hs
    simp only [laws_markCaveRowS.l0]
    rw [if_neg (by simp; omega)]
    simp [upCaveRow]
  | succ d ih =>
    intro k i pre suf a hp hs hk hb h0 h1
    obtain ⟨k, rfl⟩ : ∃ m, k = m + 1 := ⟨k - 1, by omega⟩
    obtain ⟨y, ys, rfl⟩ : ∃ y ys, suf = y :: ys := List.exists_cons_of_length_pos (by omega)
    have hys : ys.length = d := by simpa using hs
    have er : ∀ z, rd_T26 (pre ++ z :: ys) (i : Int) = z := fun z => getD_app pre ys z z26 i hp
    have es : ∀ y z, (pre ++ y :: ys).set ((i : Int)).toNat z = pre ++ z :: ys := fun y z => set_app pre ys y z i hp
    have c1 : (i : Int) < ((pre ++ y :: ys).length : Int) := by rw [len_app]; omega
    have c2 : (0 : Int) ≤ (i : Int) := by omega
    simp only [laws_markCaveRowS.l0]
    rw [if_pos c1, markText_eq (by omega) h0 (by omega), obs, if_pos c2, obs, obs, obs]
    simp only [er, es]
    rw [w64 (x := a + 1) (by omega) (by omega), w64 (x := a + 1 + 1) (by omega) (by omega), w64 (x := a + 1 + 1 + 1) (by omega) (by omega), w64 (x := a + 1 + 1 + 1 + 1) (by omega) (by omega), w64 (x := (i : Int) + 1) (by omega) (by omega)]
    have := ih k (i + 1) (pre ++ [⟨txt a, a + 1, a + 1 + 1, a + 1 + 1 + 1⟩]) ys (a + 1 + 1 + 1 + 1) (by simp; omega) hys (by omega) (by omega) (by omega) (by omega)
    rw [List.append_assoc, List.append_assoc, List.singleton_append, List.singleton_append] at this
    rw [show ((i : Int) + 1) = ((i + 1 : Nat) : Int) by omega, this]
    simp only [upCaveRow, Option.some.injEq, Prod.mk.injEq, and_true]
    omega
theorem markCaveRowS_up {l : List S26} (hl : l.length ≤ 1048576) {k : Nat} (hk : l.length + 40 < k) {a : Int} (h0 : 0 ≤ a) (h1 : a ≤ 1048576) : laws_markCaveRowS.f k l a = some (a + 4 * l.length, upCaveRow a l.length) := by
  unfold laws_markCaveRowS.f
  have := markCaveRowS_up0 l.length k 0 [] l a rfl rfl hk (by omega) h0 (by omega)
  simpa using this
theorem heldCaveRowS_up0 (n : Nat) (b : Int) (d : Nat) : ∀ (k i : Nat) (A : Int), A = b + 4 * i → i + d = n → d + 40 < k → n ≤ 1152921504606846976 → 0 ≤ b → b + 4 * n ≤ 1125899906842624 →
    laws_heldCaveRowS.l0 k (upCaveRow b n) A i = some (b + 4 * n) := by
  induction d with
  | zero =>
    intro k i A hA hd hk hn h0 h1
    obtain ⟨k, rfl⟩ : ∃ m, k = m + 1 := ⟨k - 1, by omega⟩
    simp only [laws_heldCaveRowS.l0]
    rw [if_neg (by rw [upCaveRow_len]; omega)]
    congr 1
    omega
  | succ d ih =>
    intro k i A hA hd hk hn h0 h1
    obtain ⟨k, rfl⟩ : ∃ m, k = m + 1 := ⟨k - 1, by omega⟩
    have e : rd_T26 (upCaveRow b n) (i : Int) = ⟨txt A, A + 1, A + 1 + 1, A + 1 + 1 + 1⟩ := by
      show (upCaveRow b n).getD ((i : Int)).toNat _ = _
      rw [Int.toNat_natCast, List.getD_eq_getElem?_getD, upCaveRow_get n b A i (by omega) hA]
      rfl
    have c1 : (i : Int) < ((upCaveRow b n).length : Int) := by rw [upCaveRow_len]; omega
    have c2 : (0 : Int) ≤ (i : Int) := by omega
    have hA0 : 0 ≤ A := by omega
    have hA1 : A + 4 ≤ 1125899906842624 := by omega
    have := ih k (i + 1) (A + 1 + 1 + 1 + 1) (by omega) (by omega) (by omega) hn h0 h1
    simp only [laws_heldCaveRowS.l0, e]
    rw [if_pos c1, if_pos c2, markText_eq (by omega) hA0 (by omega), obs, if_pos rfl, w64 (x := A + 1) (by omega) (by omega), w64 (x := A + 1 + 1) (by omega) (by omega), w64 (x := A + 1 + 1 + 1) (by omega) (by omega), w64 (x := A + 1 + 1 + 1 + 1) (by omega) (by omega), w64 (x := (i : Int) + 1) (by omega) (by omega)]
    simp only [if_true]
    rw [show ((i : Int) + 1) = ((i + 1 : Nat) : Int) by omega]
    exact this
theorem heldCaveRowS_up {n : Nat} (hn : n ≤ 1048576) {k : Nat} (hk : n + 40 < k) {a : Int} (h0 : 0 ≤ a) (h1 : a ≤ 1048576) : laws_heldCaveRowS.f k (upCaveRow a n) a = some (a + 4 * n) := by
  unfold laws_heldCaveRowS.f
  have := heldCaveRowS_up0 n a n k 0 a (by omega) (by omega) hk (by omega) h0 (by omega)
  simpa using this

theorem ba_eq {a b : ByteArray} (h : a.toList = b.toList) : a = b := by
  have ea : a.toList = a.data.toList := ByteArray.toList_eq a
  have eb : b.toList = b.data.toList := ByteArray.toList_eq b
  rw [ea, eb] at h
  cases a
  cases b
  simp at h
  simpa using h
theorem atP_iff {n : ByteArray} {x : S26} : atP_ n x = true ↔ x.f0.toList = n.toList := by
  unfold atP_
  exact beq_iff_eq
theorem find_l0 (l : List S26) (n : ByteArray) (hl : l.length ≤ 1048576) (d : Nat) : ∀ (k i : Nat), i + d = l.length → d < k → (∀ j, j < i → atP_ n (l.getD j z26) = false) →
    spec_l26Find.l0 k l n i = some (idxP (atP_ n) l) := by
  induction d with
  | zero =>
    intro k i hd hk hb
    obtain ⟨k, rfl⟩ : ∃ m, k = m + 1 := ⟨k - 1, by omega⟩
    simp only [spec_l26Find.l0]
    rw [if_neg (by omega), idxP_miss (atP_ n) z26 l (fun j hj => hb j (by omega))]
  | succ d ih =>
    intro k i hd hk hb
    obtain ⟨k, rfl⟩ : ∃ m, k = m + 1 := ⟨k - 1, by omega⟩
    simp only [spec_l26Find.l0]
    have e : rd_T26 l (i : Int) = l.getD i z26 := by
      show l.getD ((i : Int)).toNat _ = _
      rw [Int.toNat_natCast]
    rw [if_pos (by omega), if_pos (by omega), e]
    by_cases c : ((l.getD i z26).f0).toList = n.toList
    · rw [if_pos c, idxP_hit (atP_ n) z26 l i (by omega) (atP_iff.2 c) hb]
    · rw [if_neg c, w64 (x := (i : Int) + 1) (by omega) (by omega), show ((i : Int) + 1) = ((i + 1 : Nat) : Int) by omega]
      refine ih k (i + 1) (by omega) (by omega) (fun j hj => ?_)
      by_cases e2 : j = i
      · subst e2
        exact Bool.eq_false_iff.mpr (fun h => c (atP_iff.1 h))
      · exact hb j (by omega)
theorem find_eq {l : List S26} (n : ByteArray) (hl : l.length ≤ 1048576) {k : Nat} (hk : l.length < k) : spec_l26Find.f k l n = some (idxP (atP_ n) l) := by
  unfold spec_l26Find.f
  have := find_l0 l n hl l.length k 0 (by omega) hk (fun j hj => absurd hj (Nat.not_lt_zero _))
  simpa using this
/-- What a place that was found tells. -/
theorem idxP_some {α : Type} {p : α → Bool} {l : List α} (z : α) (h : 0 ≤ idxP p l) : ∃ i : Nat, i < l.length ∧ idxP p l = i ∧ p (l.getD i z) = true := by
  unfold idxP at h ⊢
  by_cases c : l.any p = true
  · have hlt : l.findIdx p < l.length := by
      rw [List.any_eq_true] at c
      exact List.findIdx_lt_length_of_exists c
    refine ⟨l.findIdx p, hlt, by rw [if_pos c], ?_⟩
    rw [List.getD_eq_getElem?_getD, List.getElem?_eq_getElem hlt]
    exact List.findIdx_getElem
  · rw [if_neg c] at h
    omega
theorem set_sizes {l : List S26} (hs : ∀ x, x ∈ l → x.f0.size ≤ 1048576) (i : Nat) (y : S26) (hy : y.f0.size ≤ 1048576) : ∀ x, x ∈ l.set i y → x.f0.size ≤ 1048576 := by
  intro x hx
  rcases List.mem_or_eq_of_mem_set hx with h | h
  · exact hs x h
  · rw [h]
    exact hy
theorem getD_set {α : Type} (l : List α) (z y : α) (i : Nat) (h : i < l.length) : (l.set i y).getD i z = y := by
  rw [List.getD_eq_getElem?_getD, List.getElem?_set_self h]
  rfl
end Go.Proofs.YteepnlofbfccgaaDoor.Pr.Pure

/-
What is proved: FnExactConnectCaves.Pure: the program's ConnectCaves and the reference's answer the same.
Conditions: sizes as the types allow.
-/
namespace Go.Proofs.YteepnlofbfccgaaDoor.Pr.Pure
open Go.RowKit Go.Proofs.YteepnlofbfccgaaDoorW.PrintWords Go.Proofs.YteepnlofbfccgaaDoorW.PrintLast Go.Proofs.YteepnlofbfccgaaDoorW.PrintMore Go.Proofs.YteepnlofbfccgaaDoorW.Opens
set_option linter.unusedVariables false
theorem caveAt_eq {l : List S26} (hs : ∀ x, x ∈ l → x.f0.size ≤ 1048576) (hl : l.length ≤ 1048576) (n : ByteArray) {k : Nat} (hk : l.length < k) : impl_caveAt.f k l n = some (idxP (atP_ n) l, if 0 ≤ idxP (atP_ n) l then caves l else false) := by
  unfold impl_caveAt.f
  by_cases c : 0 ≤ idxP (atP_ n) l
  · rw [if_pos c, if_pos c, areC_eq hs hl hk, obs]
  · rw [if_neg c, if_neg c]
theorem most_eq (a b : Int) : spec_l1Most.f a b = some (mx a b) := by
  unfold spec_l1Most.f mx
  split <;> split <;> first | rfl | (congr 1; omega)
theorem rowsF_le (l : List S26) : ∀ (d : Nat) (i : Int), rowsF l d i = true → l.length ≤ 10
  | 0, i, h => by
    have := of_decide_eq_true (p := (l.length : Int) ≤ 10) h
    omega
  | d + 1, i, h => by
    rw [rowsF_succ] at h
    split at h
    · split at h
      · split at h
        · exact rowsF_le l d (i + 1) h
        · cases h
      · exact rowsF_le l d (i + 1) h
    · cases h
theorem caves_le {l : List S26} (h : caves l = true) : l.length ≤ 10 := rowsF_le l l.length 0 h
/-- The two rows made one. -/
def oneR (m : List S26) (P Q : Nat) (leg : Int) : S26 := ⟨(rd_T26 m (P : Int)).f0, wrap64 (wrap64 ((rd_T26 m (P : Int)).f1 + (rd_T26 m (Q : Int)).f1) + leg), mx (rd_T26 m (P : Int)).f2 (rd_T26 m (Q : Int)).f2, wrap64 (wrap64 ((rd_T26 m (P : Int)).f3 + (rd_T26 m (Q : Int)).f3) + 1)⟩
def connL (m : List S26) (P Q : Nat) (leg : Int) : List S26 := (m.take Q ++ m.drop (Q + 1)).set P (oneR m P Q leg)
theorem connR_eq {m : List S26} {P Q : Nat} (hPQ : P < Q) (hQ : Q < m.length) (leg : Int) : connR_ m (P : Int) (Q : Int) leg = connL m P Q leg := by
  unfold connR_ connL
  rw [Int.toNat_natCast, Int.toNat_natCast]
  show (m.set P (oneR m P Q leg)).take Q ++ (m.set P (oneR m P Q leg)).drop (Q + 1) = _
  rw [List.set_append_left _ _ (by rw [List.length_take]; omega), List.take_set, List.drop_set_of_lt (by omega)]
theorem connL_len {m : List S26} {P Q : Nat} (hQ : Q < m.length) (leg : Int) : (connL m P Q leg).length + 1 = m.length := by
  unfold connL
  rw [List.length_set, List.length_append, List.length_take, List.length_drop]
  omega
theorem connL_le {m : List S26} {P Q : Nat} (hQ : Q < m.length) (leg : Int) : (connL m P Q leg).length ≤ m.length := Nat.le_of_succ_le (Nat.le_of_eq (connL_len hQ leg))
theorem connL_sizes {m : List S26} (hm : ∀ x, x ∈ m → x.f0.size ≤ 1048576) {P Q : Nat} (hP : P < m.length) (leg : Int) : ∀ x, x ∈ connL m P Q leg → x.f0.size ≤ 1048576 := by
  refine set_sizes (fun x hx => ?_) P _ (show (rd_T26 m (P : Int)).f0.size ≤ 1048576 from hm _ (rdRow_mem m (by omega) (by omega)))
  rcases List.mem_append.1 hx with h | h
  · exact hm x (List.mem_of_mem_take h)
  · exact hm x (List.mem_of_mem_drop h)
theorem conn_spec_good {m : List S26} (hm : ∀ x, x ∈ m → x.f0.size ≤ 1048576) (hl : m.length ≤ 1048576) (i j : Int) (P Q : Nat) (hP : mn i j = (P : Int)) (hQ : mx i j = (Q : Int)) (hPQ : P < Q) (hQl : Q < m.length) (leg : Int) {k : Nat} (hk : 1048577 + m.length < k) :
    spec_ConnectCaves.j0 (k + 1) m leg i j false = if caves (connL m P Q leg) = true then some (connL m P Q leg, true) else some ([], false) := by
  have f1 : (0 : Int) ≤ (P : Int) := by omega
  have f2 : (P : Int) < (m.length : Int) := by omega
  have f3 : (0 : Int) ≤ (Q : Int) := by omega
  have f4 : (Q : Int) < (m.length : Int) := by omega
  have f5 : (Q : Int) ≤ (m.length : Int) := by omega
  have f6 : 0 + Q < 3518437208883 := by omega
  have f7 : (0 : Int) ≤ ((Q + 1 : Nat) : Int) := by omega
  have f8 : ((Q + 1 : Nat) : Int) ≤ (m.length : Int) := by omega
  have f9 : Q + (m.length - (Q + 1)) < 3518437208883 := by omega
  have f10 : (P : Int) < ((Q + (m.length - (Q + 1)) : Nat) : Int) := by omega
  have f11 : (connL m P Q leg).length ≤ 1048576 := Nat.le_trans (connL_le hQl leg) hl
  have f12 : 1048577 + (connL m P Q leg).length < k := Nat.lt_of_le_of_lt (Nat.add_le_add_left (connL_le hQl leg) _) hk
  have hS := connL_sizes hm (P := P) (Q := Q) (Nat.lt_trans hPQ hQl) leg
  have h1 : (m.take Q).length = Q := by rw [List.length_take, Nat.min_eq_left (Nat.le_of_lt hQl)]
  have h2 : (m.drop (Q + 1)).length = m.length - (Q + 1) := List.length_drop
  have hw : wrap64 ((Q : Int) + 1) = ((Q + 1 : Nat) : Int) := w64 (x := (Q : Int) + 1) (by clear hS h1 h2 f11 f12; omega) (by clear hS h1 h2 f11 f12; omega)
  simp only [spec_ConnectCaves.j0, Bool.false_eq_true, if_false]
  rw [least_eq, obs, most_eq, obs, hP, hQ, if_pos f1, if_pos f2, if_pos f3, if_pos f4, obs, if_pos f5, obs, Int.toNat_natCast, List.length_nil, h1, if_pos f6, obs, List.nil_append, hw, if_pos f7, if_pos f8, obs, Int.toNat_natCast, h1, h2, if_pos f9, obs, most_eq, obs, List.length_append, h1, h2, if_pos f10, obs, Int.toNat_natCast]
  show ((spec_l26Good.f k (connL m P Q leg)).bind fun t378 => _) = _
  rw [goodC_eq hS f11 f12, obs]
  rfl
theorem conn_both {m : List S26} (hm : ∀ x, x ∈ m → x.f0.size ≤ 1048576) (hl : m.length ≤ 1048576) (a b : ByteArray) (leg : Int) :
    ∃ r f, r.length ≤ m.length ∧ ∀ k, 1048590 + m.length + m.length ≤ k → spec_ConnectCaves.f k m a b leg = some (r, f) ∧ impl_ConnectCaves.f k m a b leg = some (r, f) := by
  have sb : ∀ k i j, spec_ConnectCaves.j0 (k + 1) m leg i j true = some ([], false) := fun k i j => by
    simp only [spec_ConnectCaves.j0, if_true]
  by_cases good : caves m = true ∧ 0 ≤ idxP (atP_ a) m ∧ 0 ≤ idxP (atP_ b) m ∧ idxP (atP_ a) m ≠ idxP (atP_ b) m ∧ (1 ≤ leg ∧ leg ≤ 500)
  · obtain ⟨c, p1, p2, hij, q⟩ := good
    obtain ⟨i, hi, ei, _⟩ := idxP_some z26 p1
    obtain ⟨j, hj, ej, _⟩ := idxP_some z26 p2
    obtain ⟨P, hP⟩ : ∃ P : Nat, mn (i : Int) (j : Int) = (P : Int) := by
      unfold mn
      split
      · exact ⟨j, rfl⟩
      · exact ⟨i, rfl⟩
    obtain ⟨Q, hQ⟩ : ∃ Q : Nat, mx (i : Int) (j : Int) = (Q : Int) := by
      unfold mx
      split
      · exact ⟨j, rfl⟩
      · exact ⟨i, rfl⟩
    have hne : (i : Int) ≠ (j : Int) := by rw [← ei, ← ej]; exact hij
    have hPQ : P < Q ∧ Q < m.length := by
      unfold mn at hP
      unfold mx at hQ
      split at hP <;> split at hQ <;> omega
    have g1 : P < m.length := by omega
    have g2 : (0 : Int) ≤ (i : Int) := by omega
    have g3 : (0 : Int) ≤ (j : Int) := by omega
    have g4 : (0 : Int) ≤ (P : Int) := by omega
    have g5 : (P : Int) < (Q : Int) := by omega
    have g6 : (Q : Int) < (m.length : Int) := by omega
    have g7 : ¬ (i : Int) < 0 := by omega
    have g8 : ¬ (j : Int) < 0 := by omega
    have hL := connL_le (P := P) hPQ.2 leg
    have hS := connL_sizes hm (P := P) (Q := Q) g1 leg
    have g9 : (connL m P Q leg).length ≤ 1048576 := Nat.le_trans hL hl
    have g10 : ∀ k, 1048590 + m.length + m.length ≤ k → m.length < k ∧ 1048577 + m.length < k ∧ 1048577 + m.length + 1 < k := fun k hk => by clear hL hS g9; omega
    have hM10 : m.length ≤ 1000000 := by have := caves_le c; omega
    have ei2 : ∀ k, 1048590 + m.length + m.length ≤ k → impl_ConnectCaves.f k m a b leg = if caves (connL m P Q leg) = true then some (connL m P Q leg, true) else some ([], false) := by
      intro k hk
      unfold impl_ConnectCaves.f
      obtain ⟨g11, g12, g13⟩ := g10 k hk
      rw [caveAt_eq hm hl a g11, obs, caveAt_eq hm hl b g11, obs, ei, ej]
      simp only
      rw [if_pos ⟨by rw [if_pos g2]; exact c, by rw [if_pos g3]; exact c, hne, q⟩, hP, hQ, if_pos ⟨g4, g5, g6, hM10⟩, connR_eq hPQ.1 hPQ.2, areC_eq hS g9 (Nat.lt_of_le_of_lt hL g11), obs]
    have es2 : ∀ k, 1048590 + m.length + m.length ≤ k → spec_ConnectCaves.f k m a b leg = if caves (connL m P Q leg) = true then some (connL m P Q leg, true) else some ([], false) := by
      intro k hk
      obtain ⟨g11, g12, g13⟩ := g10 k hk
      obtain ⟨k, rfl⟩ : ∃ m, k = m + 1 := ⟨k - 1, by clear hL hS g9; omega⟩
      unfold spec_ConnectCaves.f
      rw [find_eq a hl g11, obs, find_eq b hl g11, obs, goodC_eq hm hl g12, obs, if_pos c, ei, ej, if_neg g7, if_neg g8, if_neg hne, l1In_eq, obs, decide_eq_true q, show (!true) = false from rfl, conn_spec_good hm hl i j P Q hP hQ hPQ.1 hPQ.2 leg (Nat.lt_of_succ_lt_succ g13)]
    by_cases g : caves (connL m P Q leg) = true
    · exact ⟨connL m P Q leg, true, hL, fun k hk => ⟨by rw [es2 k hk, if_pos g], by rw [ei2 k hk, if_pos g]⟩⟩
    · exact ⟨[], false, Nat.zero_le _, fun k hk => ⟨by rw [es2 k hk, if_neg g], by rw [ei2 k hk, if_neg g]⟩⟩
  · refine ⟨[], false, Nat.zero_le _, fun k hk => ?_⟩
    obtain ⟨k, rfl⟩ : ∃ m, k = m + 1 := ⟨k - 1, by omega⟩
    constructor
    · unfold spec_ConnectCaves.f
      rw [find_eq a hl (by omega), obs, find_eq b hl (by omega), obs, goodC_eq hm hl (by omega), obs]
      by_cases c : caves m = true
      · rw [if_pos c]
        by_cases p1 : 0 ≤ idxP (atP_ a) m
        · rw [if_neg (by omega)]
          by_cases p2 : 0 ≤ idxP (atP_ b) m
          · rw [if_neg (by omega)]
            by_cases hij : idxP (atP_ a) m = idxP (atP_ b) m
            · rw [if_pos hij]
              exact sb k _ _
            · rw [if_neg hij, l1In_eq, obs, decide_eq_false (fun q => good ⟨c, p1, p2, hij, q⟩)]
              exact sb k _ _
          · rw [if_pos (by omega)]
            exact sb k _ _
        · rw [if_pos (by omega)]
          exact sb k _ _
      · rw [if_neg c]
        exact sb k _ _
    · unfold impl_ConnectCaves.f
      rw [caveAt_eq hm hl a (by omega), obs, caveAt_eq hm hl b (by omega), obs]
      simp only
      rw [if_neg]
      rintro ⟨h1, h2, h3, h4⟩
      by_cases p1 : 0 ≤ idxP (atP_ a) m
      · rw [if_pos p1] at h1
        by_cases p2 : 0 ≤ idxP (atP_ b) m
        · exact good ⟨h1, p1, p2, h3, h4⟩
        · rw [if_neg p2] at h2
          cases h2
      · rw [if_neg p1] at h1
        cases h1
theorem FnExactConnectCaves : FnExactConnectCaves.Pure := by
  intro l a1 a2 a3 hw h1 h2 h3
  obtain ⟨_, hb, hwf⟩ := hw
  obtain ⟨K0, hK0⟩ : ∃ K0, K0 = 1048640 + l.length + l.length := ⟨_, rfl⟩
  obtain ⟨t, e, ht⟩ := szCaveRowS_eq (l := l) (fun x hx => (hwf x hx).1) (by omega) (k := K0 + 3) (by omega)
  refine ⟨K0 + 3, ?_⟩
  unfold laws_FnExactConnectCaves.f
  by_cases z : (a1.size : Int) > 1048576
  · rw [if_pos z]
  rw [if_neg z]
  by_cases z2 : (a2.size : Int) > 1048576
  · rw [if_pos z2]
  rw [if_neg z2, e, obs]
  by_cases c : t < 0
  · rw [if_pos c]
  · rw [if_neg c]
    obtain ⟨hl, hx⟩ := ht (by omega)
    have hlen : (l.map cvCaveRow).length = l.length := List.length_map _
    have hm : ∀ x, x ∈ l.map cvCaveRow → x.f0.size ≤ 1048576 := fun x h => by
      obtain ⟨y, hy, rfl⟩ := List.mem_map.1 h
      exact hx y hy
    obtain ⟨r, b, hr, hk⟩ := conn_both hm (by omega) a1 a2 a3
    have t0 : ∀ k, K0 ≤ k → laws_toCaveRowS.f k l = some (l.map cvCaveRow) := fun k hk => toCaveRowS_eq hb (by omega)
    have e1 : ∀ k, K0 ≤ k → spec_ConnectCaves.f k (l.map cvCaveRow) a1 a2 a3 = some (r, b) := fun k h => (hk k (by omega)).1
    have e2 : ∀ k, K0 ≤ k → impl_ConnectCaves.f k (l.map cvCaveRow) a1 a2 a3 = some (r, b) := fun k h => (hk k (by omega)).2
    have e3 : ∀ k, K0 ≤ k → laws_eqCaveRowS.f k (l.map cvCaveRow) (l.map cvCaveRow) = some true := fun k h => eqCaveRowS_eq (by omega) (by omega)
    have q : ∀ k, K0 ≤ k → laws_eqCaveRowS.f k r r = some true := fun k h => eqCaveRowS_eq (by omega) (by omega)
    have m1 : laws_markCaveRowS.f (K0 + 2) (l.map cvCaveRow) 1 = some (1 + 4 * ((l.map cvCaveRow).length : Int), upCaveRow 1 (l.map cvCaveRow).length) := markCaveRowS_up (by omega) (by omega) (by omega) (by omega)
    have mi : ∀ k, K0 ≤ k → laws_markCaveRowS.f k r 1 = some (1 + 4 * (r.length : Int), upCaveRow 1 r.length) := fun k h => markCaveRowS_up (by omega) (by omega) (by omega) (by omega)
    have hi : ∀ k, K0 ≤ k → laws_heldCaveRowS.f k (upCaveRow 1 r.length) 1 = some (1 + 4 * (r.length : Int)) := fun k hk => heldCaveRowS_up (by omega) (by omega) (by omega) (by omega)
    have hj2 : laws_FnExactConnectCaves.j2 (K0 + 1) (upCaveRow 1 r.length) (1 + 4 * (r.length : Int)) false = some true := by
      simp only [laws_FnExactConnectCaves.j2, Bool.false_eq_true, if_false, hi _ (Nat.le_refl K0), obs, if_true]
      rw [if_neg (by omega)]
    have hj1 : laws_FnExactConnectCaves.j1 (K0 + 2) l a1 a2 a3 r b r false = some true := by
      simp only [laws_FnExactConnectCaves.j1, Bool.false_eq_true, if_false, mi _ (Nat.le_succ K0), hi _ (Nat.le_succ K0), t0 _ (Nat.le_succ K0), e2 _ (Nat.le_succ K0), q _ (Nat.le_succ K0), obs, if_true, bne_self_eq_false]
      rw [if_neg (by omega)]
      exact hj2
    have hj0 : laws_FnExactConnectCaves.j0 (K0 + 3) l a1 a2 a3 r b (l.map cvCaveRow) r b false = some true := by
      have h2 : K0 ≤ K0 + 2 := by omega
      simp only [laws_FnExactConnectCaves.j0, Bool.false_eq_true, if_false, t0 _ h2, e3 _ h2, m1, q _ h2, obs, if_true, bne_self_eq_false]
      rw [if_neg (by omega)]
      exact hj1
    have h3 : K0 ≤ K0 + 3 := by omega
    simp only [obs, t0 _ h3, e1 _ h3, e2 _ h3, q _ h3, bne_self_eq_false, if_true]
    exact hj0
end Go.Proofs.YteepnlofbfccgaaDoor.Pr.Pure

