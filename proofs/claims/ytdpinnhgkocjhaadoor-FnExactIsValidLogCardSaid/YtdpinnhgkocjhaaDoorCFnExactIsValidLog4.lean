/-
What is proved: parts of the law FnExactIsValidLog: what the functions that it reaches compute, and the plain law.
Conditions: those of each theorem.
-/
import Derived.Test.YtdpinnhgkocjhaaDoorCFnExactIsValidLog3
/-
What is proved: what the printed functions on logs compute, over lists of bytes.
Conditions: sizes far below the machine's, enough rounds.
-/
namespace Go.Proofs.YtdpinnhgkocjhaaDoor.Pr.Pure
open Go.RowKit Go.Proofs.YtdpinnhgkocjhaaDoorW.PrintWords Go.Proofs.YtdpinnhgkocjhaaDoorW.PrintLast Go.Proofs.YtdpinnhgkocjhaaDoorW.PrintMore Go.Proofs.YtdpinnhgkocjhaaDoor.Log Go.Lib
set_option linter.unusedVariables false
set_option linter.unusedSimpArgs false
theorem dec_iff {k : Nat} {s c r : B} {n : Nat} : dec k s = some (c, r, n) ↔ k < 60 ∧ (10 : UInt8) ∈ s ∧ Ok c r ∧ enc k c r = upto 10 s ++ [10] ∧ n = (upto 10 s).length + 1 := by
  constructor
  · intro h
    unfold dec at h
    split at h
    · rename_i hc
      simp only [Option.some.injEq, Prod.mk.injEq] at h
      obtain ⟨rfl, rfl, rfl⟩ := h
      exact ⟨hc.2.1, hc.1, hc.2.2.1, hc.2.2.2, rfl⟩
    · cases h
  · rintro ⟨h1, h2, h3, h4, rfl⟩
    refine dec_some.2 ⟨h1, h3, ?_, by rw [h4]; simp⟩
    rw [h4]
    refine ⟨after 10 s, ?_⟩
    rw [List.append_assoc, List.singleton_append, ← cut_at h2]
/-- A record as the program holds it. -/
def R27 (x : B × B × Nat) : S27 := ⟨M x.1, M x.2.1⟩
theorem open_l0 (s : List UInt8) (hs : s.length ≤ 1099511627776) (m : Nat) : ∀ (K at_ : Nat) (acc : List S27), acc.length + m = 60 → at_ ≤ s.length → 2 * m + 4 * s.length + 300 < K →
    spec_l27Open.l0 K (M s) acc at_ = some (acc ++ (all m acc.length (s.drop at_)).map R27, ((at_ + tot (all m acc.length (s.drop at_)) : Nat) : Int)) := by
  induction m with
  | zero =>
    intro K at_ acc ha hat hK
    obtain ⟨K, rfl⟩ : ∃ m, K = m + 1 + 1 := ⟨K - 2, by omega⟩
    simp only [spec_l27Open.l0]
    have : decide ((acc.length : Int) < 60) = false := by simp; omega
    rw [this, ite_self]
    simp [spec_l27Open.j1, all, tot]
  | succ m ih =>
    intro K at_ acc ha hat hK
    obtain ⟨K, rfl⟩ : ∃ m, K = m + 1 + 1 := ⟨K - 2, by omega⟩
    simp only [spec_l27Open.l0]
    have hd : decide ((acc.length : Int) < 60) = true := by simp; omega
    rw [M_size, hd]
    by_cases hlt : at_ < s.length
    · rw [if_pos (by omega)]
      have hrl : (s.drop at_).length = s.length - at_ := List.length_drop
      have hsx : sx (M s) (((at_ : Int) : Int).toNat) s.length = M (s.drop at_) := by
        rw [sx_M, Int.toNat_natCast, List.take_of_length_le (by simp)]
      generalize hrest : s.drop at_ = rest at hrl hsx ⊢
      have lu := upto_len (c := 10) rest
      obtain ⟨ps, hp, hpn, _⟩ := split_head rest 10 (by omega) (by omega) (k := K) (by omega)
      obtain ⟨c, r, b, hr, hb, hu⟩ := read_eq (k := acc.length) (K := K) (upto 10 rest) (by omega) (by omega) (by omega)
      simp only [spec_l27Open.j1]
      rw [if_pos trivial, if_pos (by omega), M_size, if_pos (by omega), hsx, show (10 : Int) = ((10 : Nat) : Int) from rfl, hp]
      simp only [Option.bind_some]
      rw [if_pos (by first | omega | (simp; done) | (simp; omega)), rd_head, show UInt8.ofNat 10 = 10 from rfl, hr]
      simp only [Option.bind_some]
      by_cases h2 : ps = []
      · have h10 : (10 : UInt8) ∉ rest := fun h => absurd h2 (hpn.2 h)
        have hn : dec acc.length rest = none := by
          cases h : dec acc.length rest with
          | none => rfl
          | some x => obtain ⟨c', r', n'⟩ := x; exact absurd (dec_iff.1 h).2.1 h10
        rw [if_pos (by rw [h2]; simp), all_none hn]
        simp [tot]
      · have h10 : (10 : UInt8) ∈ rest := hpn.1 h2
        have hpl : 0 < ps.length := List.length_pos_iff.2 h2
        rw [if_neg (by first | omega | (simp; omega))]
        cases hbb : b with
        | true =>
          subst hbb
          obtain ⟨ho, he⟩ := hb rfl
          have hdec : dec acc.length rest = some (c, r, (upto 10 rest).length + 1) := dec_iff.2 ⟨by omega, h10, ho, he, rfl⟩
          have hlt' := upto_lt h10
          rw [if_pos rfl, if_pos (by omega), M_size, w64 (x := (at_ : Int) + ((upto 10 rest).length : Nat)) (by omega) (by omega), w64 (by omega) (by omega)]
          have := ih K (at_ + ((upto 10 rest).length + 1)) (acc ++ [⟨M c, M r⟩]) (by simp; omega) (by omega) (by omega)
          rw [show ((at_ : Int) + ((upto 10 rest).length : Nat) + 1) = ((at_ + ((upto 10 rest).length + 1) : Nat) : Int) by omega, this, all_some hdec, tot_cons, ← List.drop_drop, hrest]
          simp [R27]
          omega
        | false =>
          subst hbb
          have hn : dec acc.length rest = none := by
            cases h : dec acc.length rest with
            | none => rfl
            | some x =>
              obtain ⟨c', r', n'⟩ := x
              obtain ⟨_, _, ho, he, _⟩ := dec_iff.1 h
              exact absurd (hu c' r' ho he).1 (by simp)
          rw [if_neg (by simp), all_none hn]
          simp [tot]
    · rw [if_neg (by omega), List.drop_of_length_le (by omega), all_nil]
      simp [spec_l27Open.j1, tot]
theorem open_eq (s : List UInt8) (hs : s.length ≤ 1099511627776) {K : Nat} (hK : 4 * s.length + 500 < K) : spec_l27Open.f K (M s) = some ((all 60 0 s).map R27, ((tot (all 60 0 s) : Nat) : Int)) := by
  unfold spec_l27Open.f
  have := open_l0 s hs 60 K 0 [] rfl (Nat.zero_le _) (by omega)
  simpa using this
/-- The places of the records' ends, from a place on. -/
def sums (a : Nat) : List (B × B × Nat) → List Int
  | [] => []
  | x :: xs => ((a + x.2.2 : Nat) : Int) :: sums (a + x.2.2) xs
theorem rd_last (E : List Int) (a : Int) : rd (E ++ [a]) (((E ++ [a]).length : Int) - 1) = a := by
  unfold rd
  rw [List.length_append, show (((E.length + [a].length : Nat) : Int) - 1).toNat = E.length by simp, List.getD_eq_getElem?_getD, List.getElem?_append_right (Nat.le_refl _), Nat.sub_self]
  rfl
theorem reads_l0 (s : List UInt8) (hs : s.length ≤ 1099511627776) (m : Nat) : ∀ (K at_ : Nat) (acc : List S27) (E : List Int), acc.length + m = 60 → E.length ≤ acc.length → at_ ≤ s.length → m + 2 * s.length + 200 < K →
    impl_readRecords.l0 K (M s) acc (E ++ [(at_ : Int)]) = some (acc ++ (all m acc.length (s.drop at_)).map R27, E ++ [(at_ : Int)] ++ sums at_ (all m acc.length (s.drop at_))) := by
  induction m with
  | zero =>
    intro K at_ acc E ha hE hat hK
    obtain ⟨K, rfl⟩ : ∃ m, K = m + 1 := ⟨K - 1, by omega⟩
    have hl : (E ++ [(at_ : Int)]).length = E.length + 1 := by simp
    simp only [impl_readRecords.l0]
    rw [w64 (by omega) (by omega), if_pos (by omega), if_pos (by omega), rd_last, M_size, if_pos (by omega), if_pos (by omega), sx_M, Int.toNat_natCast, List.take_of_length_le (by simp), readRecord_eq _ (by simp; omega) (by omega) (by simp; omega)]
    have hn : dec acc.length (s.drop at_) = none := by
      cases h : dec acc.length (s.drop at_) with
      | none => rfl
      | some x => obtain ⟨c', r', n'⟩ := x; have := (dec_iff.1 h).1; omega
    rw [hn]
    simp [all, sums]
  | succ m ih =>
    intro K at_ acc E ha hE hat hK
    obtain ⟨K, rfl⟩ : ∃ m, K = m + 1 := ⟨K - 1, by omega⟩
    have hl : (E ++ [(at_ : Int)]).length = E.length + 1 := by simp
    have hdl : (s.drop at_).length = s.length - at_ := List.length_drop
    simp only [impl_readRecords.l0]
    rw [w64 (by omega) (by omega), if_pos (by omega), if_pos (by omega), rd_last, M_size, if_pos (by omega), if_pos (by omega), sx_M, Int.toNat_natCast, List.take_of_length_le (by simp), readRecord_eq _ (by omega) (by omega) (by omega)]
    cases h : dec acc.length (s.drop at_) with
    | none =>
      rw [all_none h]
      simp [sums]
    | some x =>
      obtain ⟨c, r, n⟩ := x
      have hn := dec_le h
      simp only [Option.bind_some]
      rw [if_pos trivial, if_pos (by omega), if_pos (by omega), w64 (by omega) (by omega)]
      have := ih K (at_ + n) (acc ++ [⟨M c, M r⟩]) (E ++ [(at_ : Int)]) (by simp; omega) (by simp; omega) (by omega) (by omega)
      rw [show ((at_ : Int) + (n : Int)) = ((at_ + n : Nat) : Int) by omega, this, all_some h, ← List.drop_drop]
      simp [sums, R27]
theorem reads_eq (s : List UInt8) (hs : s.length ≤ 1099511627776) {K : Nat} (hK : 2 * s.length + 300 < K) : impl_readRecords.f K (M s) = some ((all 60 0 s).map R27, 0 :: sums 0 (all 60 0 s)) := by
  unfold impl_readRecords.f
  have := reads_l0 s hs 60 K 0 [] [] rfl (Nat.le_refl _) (Nat.zero_le _) (by omega)
  simpa using this
theorem sums_len (l : List (B × B × Nat)) : ∀ a, (sums a l).length = l.length := by
  induction l with
  | nil => intro a; rfl
  | cons x l ih => intro a; simp [sums, ih]
theorem sums_last (l : List (B × B × Nat)) : ∀ a : Nat, ∃ E, (a : Int) :: sums a l = E ++ [((a + tot l : Nat) : Int)] := by
  induction l with
  | nil => intro a; exact ⟨[], by simp [sums, tot]⟩
  | cons x l ih =>
    intro a
    obtain ⟨E, h⟩ := ih (a + x.2.2)
    refine ⟨(a : Int) :: E, ?_⟩
    rw [sums, h, tot_cons]
    simp
    omega
theorem rd_sums (l : List (B × B × Nat)) : rd (0 :: sums 0 l) ((((0 : Int) :: sums 0 l).length : Int) - 1) = ((tot l : Nat) : Int) := by
  obtain ⟨E, h⟩ := sums_last l 0
  have h' : (0 : Int) :: sums 0 l = E ++ [((tot l : Nat) : Int)] := by simpa using h
  rw [h', rd_last]
theorem sums_mem (l : List (B × B × Nat)) : ∀ (a n : Nat), (n : Int) ∈ ((a : Int) :: sums a l) ↔ ∃ j, j ≤ l.length ∧ a + tot (l.take j) = n := by
  induction l with
  | nil =>
    intro a n
    constructor
    · intro h
      simp [sums] at h
      exact ⟨0, Nat.le_refl _, by simp [tot]; omega⟩
    · rintro ⟨j, _, h⟩
      simp [tot] at h
      simp [sums]
      omega
  | cons x l ih =>
    intro a n
    rw [sums, List.mem_cons, ih (a + x.2.2) n]
    constructor
    · rintro (h | ⟨j, hj, h⟩)
      · exact ⟨0, Nat.zero_le _, by simp [tot]; omega⟩
      · exact ⟨j + 1, by simpa using hj, by rw [List.take_succ_cons, tot_cons]; omega⟩
    · rintro ⟨j, hj, h⟩
      cases j with
      | zero => simp [tot] at h; exact .inl (by omega)
      | succ j => rw [List.take_succ_cons, tot_cons] at h; exact .inr ⟨j, by simpa using hj, by omega⟩
theorem has_l0 (l : List Int) (x : Int) (hl : l.length ≤ 4611686018427387904) (d : Nat) : ∀ (k i : Nat), i + d = l.length → d < k → ∃ r : Int, slices_Index_int_int.l0 k l x l.length i = some r ∧ (0 ≤ r ↔ x ∈ l.drop i) := by
  induction d with
  | zero =>
    intro k i hd hk
    obtain ⟨k, rfl⟩ : ∃ m, k = m + 1 := ⟨k - 1, by omega⟩
    refine ⟨-1, ?_, ?_⟩
    · simp only [slices_Index_int_int.l0]
      rw [if_neg (by omega)]
    · rw [List.drop_of_length_le (by omega)]
      simp
  | succ d ih =>
    intro k i hd hk
    obtain ⟨k, rfl⟩ : ∃ m, k = m + 1 := ⟨k - 1, by omega⟩
    have hx : l.drop i = rd l i :: l.drop (i + 1) := by
      unfold rd
      rw [Int.toNat_natCast, List.drop_eq_getElem_cons (by omega), List.getD_eq_getElem?_getD, List.getElem?_eq_getElem (by omega)]
      rfl
    simp only [slices_Index_int_int.l0]
    rw [if_pos (by omega), if_pos (by omega), if_pos (by omega), hx, w64 (by omega) (by omega)]
    by_cases h : x = rd l i
    · rw [if_pos h]
      exact ⟨i, rfl, by simp [h]⟩
    · rw [if_neg h]
      obtain ⟨r, h1, h2⟩ := ih k (i + 1) (by omega) (by omega)
      rw [show ((i + 1 : Nat) : Int) = (i : Int) + 1 by omega] at h1
      exact ⟨r, h1, by rw [h2]; simp [h]⟩
theorem has_eq (l : List Int) (x : Int) (hl : l.length ≤ 4611686018427387904) {k : Nat} (hk : l.length < k) : impl_has.f k l x = some (decide (x ∈ l)) := by
  unfold impl_has.f slices_Contains_int_int.f slices_Index_int_int.f
  obtain ⟨r, h1, h2⟩ := has_l0 l x hl l.length k 0 (by omega) hk
  rw [show ((0 : Nat) : Int) = 0 from rfl] at h1
  rw [h1]
  simp only [Option.bind_some]
  exact dec_of (by rw [decide_eq_true_eq]; simpa using h2)
/-- A valid log: durable and pending bytes, and how many records there are. -/
def Good (D P : List UInt8) (C : Int) : Prop := tot (all 60 0 (D ++ P)) = (D ++ P).length ∧ tot (all 60 0 D) = D.length ∧ C = ((all 60 0 (D ++ P)).length : Int)
instance (D P : List UInt8) (C : Int) : Decidable (Good D P C) := inferInstanceAs (Decidable (_ ∧ _))
theorem Good.le {D P : List UInt8} {C : Int} (h : Good D P C) : (D ++ P).length ≤ 22320 := by
  have := all_tot372 60 0 (D ++ P)
  have := h.1
  omega
theorem records_eq (D P : List UInt8) (C : Int) (hs : (D ++ P).length ≤ 1099511627776) {K : Nat} (hK : 4 * (D ++ P).length + 600 < K) :
    impl_records.f K (M D) (M P) C = some (if Good D P C then ((all 60 0 (D ++ P)).map R27, true) else ([], false)) := by
  have hl : (D ++ P).length = D.length + P.length := List.length_append
  have h60 := all_len 60 0 (D ++ P)
  have hsl := sums_len (all 60 0 (D ++ P)) 0
  have hsl' : ((0 : Int) :: sums 0 (all 60 0 (D ++ P))).length = (all 60 0 (D ++ P)).length + 1 := by rw [List.length_cons, hsl]
  unfold impl_records.f
  rw [M_size, M_size, if_pos (by omega), sc_M, reads_eq _ hs (by omega)]
  simp only [Option.bind_some]
  rw [w64 (by omega) (by omega), if_pos (by omega), if_pos (by omega), rd_sums, M_size]
  by_cases h1 : tot (all 60 0 (D ++ P)) = (D ++ P).length
  · rw [if_pos (by omega), has_eq _ _ (by omega) (by omega)]
    simp only [Option.bind_some, decide_eq_true_eq]
    have hm : ((D.length : Int) ∈ ((0 : Int) :: sums 0 (all 60 0 (D ++ P)))) ↔ tot (all 60 0 D) = D.length := by
      have := sums_mem (all 60 0 (D ++ P)) 0 D.length
      rw [show (((0 : Nat)) : Int) = 0 from rfl] at this
      rw [this]
      simpa using ends_iff 60 0 D P
    by_cases h2 : tot (all 60 0 D) = D.length
    · rw [if_pos (hm.2 h2)]
      by_cases h3 : C = ((all 60 0 (D ++ P)).length : Int)
      · have hg : Good D P C := ⟨h1, h2, h3⟩
        rw [if_pos (by rw [List.length_map]; exact h3), if_pos hg]
      · rw [if_neg (by rw [List.length_map]; exact h3), if_neg (show ¬ Good D P C from fun h => h3 h.2.2)]
    · rw [if_neg (fun h => h2 (hm.1 h)), if_neg (show ¬ Good D P C from fun h => h2 h.2.1)]
  · rw [if_neg (by omega), if_neg (show ¬ Good D P C from fun h => h1 h.1)]
theorem log_eq (D P : List UInt8) (C : Int) (hD : D.length ≤ 549755813888) (hP : P.length ≤ 549755813888) {K : Nat} (hK : 4 * (D ++ P).length + 600 < K) : spec_l27Log.f K (M D) (M P) C = some (decide (Good D P C)) := by
  have hl : (D ++ P).length = D.length + P.length := List.length_append
  unfold spec_l27Log.f
  rw [M_size, M_size, w64 (by omega) (by omega), sc_M, open_eq _ (by omega) (by omega), open_eq _ (by omega) (by omega)]
  simp only [Option.bind_some]
  by_cases h0 : (30000 : Int) < (D.length : Int) + (P.length : Int)
  · rw [if_pos h0]
    exact dec_of ⟨fun h => by simp at h, fun h => by have := Good.le h; omega⟩
  · rw [if_neg h0, if_pos (by omega)]
    by_cases h1 : tot (all 60 0 (D ++ P)) = (D ++ P).length
    · rw [if_pos (by omega)]
      by_cases h2 : tot (all 60 0 D) = D.length
      · rw [if_pos (by omega)]
        refine dec_of ?_
        rw [beq_iff_eq, List.length_map]
        exact ⟨fun h => ⟨h1, h2, h.symm⟩, fun h => h.2.2.symm⟩
      · rw [if_neg (by omega)]
        exact dec_of ⟨fun h => by simp at h, fun h => absurd h.2.1 h2⟩
    · rw [if_neg (by omega)]
      exact dec_of ⟨fun h => by simp at h, fun h => absurd h.1 h1⟩
theorem valid_eq (D P : List UInt8) (C : Int) (hs : (D ++ P).length ≤ 1099511627776) {K : Nat} (hK : 4 * (D ++ P).length + 600 < K) : impl_IsValidLog.f K (M D) (M P) C = some (decide (Good D P C)) := by
  unfold impl_IsValidLog.f
  rw [records_eq D P C hs hK]
  simp only [Option.bind_some]
  by_cases h : Good D P C <;> simp [h]
end Go.Proofs.YtdpinnhgkocjhaaDoor.Pr.Pure

/-
What is proved: the program's functions on logs and the reference's answer the same.
Conditions: sizes far below the machine's, enough rounds.
-/
namespace Go.Proofs.YtdpinnhgkocjhaaDoor.Pr.Pure
open Go.RowKit Go.Proofs.YtdpinnhgkocjhaaDoorW.PrintWords Go.Proofs.YtdpinnhgkocjhaaDoorW.PrintLast Go.Proofs.YtdpinnhgkocjhaaDoorW.PrintMore Go.Proofs.YtdpinnhgkocjhaaDoor.Log Go.Lib
set_option linter.unusedVariables false
set_option linter.unusedSimpArgs false
theorem szRecord (c r : List UInt8) (n : Int) (h0 : 0 ≤ n) (h1 : n ≤ 1048576) (hc : c.length ≤ 140737488351232) (hr : r.length ≤ 140737488351232) :
    ∃ t, laws_szLogRecord.f (M c) (M r) n = some t ∧ (¬ t < 0 → c.length + r.length ≤ 1048576 ∧ t ≤ 1048576) := by
  unfold laws_szLogRecord.f
  rw [M_size, M_size, w64 (x := n - (c.length : Int)) (by omega) (by omega), w64 (x := n - (c.length : Int) - (r.length : Int)) (by omega) (by omega)]
  by_cases a : n - (c.length : Int) < 0
  · rw [if_pos a]; exact ⟨_, rfl, fun h => absurd (by omega) h⟩
  · rw [if_neg a]
    by_cases b : n - (c.length : Int) - (r.length : Int) < 0
    · rw [if_pos b]; exact ⟨_, rfl, fun h => absurd (by omega) h⟩
    · rw [if_neg b]; exact ⟨_, rfl, fun _ => by omega⟩
theorem szLog_eq (D P : List UInt8) (C : Int) (hc : D.length ≤ 140737488351232) (hr : P.length ≤ 140737488351232) :
    ∃ t, laws_szLog.f (M D) (M P) C 1048576 = some t ∧ (¬ t < 0 → D.length + P.length ≤ 1048576 ∧ t ≤ 1048576) := by
  unfold laws_szLog.f
  rw [M_size, M_size, w64 (x := 1048576 - (D.length : Int)) (by omega) (by omega), w64 (x := 1048576 - (D.length : Int) - (P.length : Int)) (by omega) (by omega)]
  by_cases a : 1048576 - (D.length : Int) < 0
  · rw [if_pos a]; exact ⟨_, rfl, fun h => absurd (by omega) h⟩
  · rw [if_neg a]
    by_cases b : 1048576 - (D.length : Int) - (P.length : Int) < 0
    · rw [if_pos b]; exact ⟨_, rfl, fun h => absurd (by omega) h⟩
    · rw [if_neg b]; exact ⟨_, rfl, fun _ => by omega⟩
/-- Both write a record the same way. -/
theorem encode_val (a : Nat) (ha : a ≤ 59) (c r : List UInt8) (hc : c.length ≤ 1048576) (hr : r.length ≤ 1048576) {k : Nat} (hk : c.length + r.length + 60 < k) :
    spec_EncodeRecord.f k (a : Int) (M c) (M r) = some (if Ok c r then (M (enc a c r), true) else (M [], false)) ∧ impl_EncodeRecord.f k (a : Int) (M c) (M r) = some (if Ok c r then (M (enc a c r), true) else (M [], false)) := by
  unfold spec_EncodeRecord.f impl_EncodeRecord.f
  have h : decide ((0 : Int) ≤ (a : Int) ∧ (a : Int) ≤ 59) = true := decide_eq_true ⟨by omega, by omega⟩
  rw [l1In_eq, within_eq, good_eq c r (by omega) (by omega) (by omega), isRec_eq c r (by omega) (by omega) (by omega)]
  simp only [Option.bind_some]
  rw [h, if_pos rfl, if_pos rfl]
  by_cases g : Ok c r
  · rw [if_pos g, decide_eq_true g, if_pos rfl, if_pos rfl, line_eq (by omega) c r (by omega) (by omega) (by omega), encode_eq (by omega) c r (by omega) (by omega) (by omega)]
    exact ⟨rfl, rfl⟩
  · rw [if_neg g, decide_eq_false g, if_neg Bool.false_ne_true]
    try rw [if_neg Bool.false_ne_true]
    exact ⟨rfl, rfl⟩
theorem encode_both (a : Int) (ha : -9223372036854775808 ≤ a ∧ a ≤ 9223372036854775807) (c r : List UInt8) (hc : c.length ≤ 1048576) (hr : r.length ≤ 1048576) {k : Nat} (hk : c.length + r.length + 60 < k) :
    ∃ e b, spec_EncodeRecord.f k a (M c) (M r) = some (e, b) ∧ impl_EncodeRecord.f k a (M c) (M r) = some (e, b) := by
  by_cases h : 0 ≤ a ∧ a ≤ 59
  · obtain ⟨n, rfl⟩ : ∃ n : Nat, a = n := ⟨a.toNat, by omega⟩
    obtain ⟨h1, h2⟩ := encode_val n (by omega) c r hc hr hk
    exact ⟨_, _, h1, h2⟩
  · unfold spec_EncodeRecord.f impl_EncodeRecord.f
    rw [l1In_eq, within_eq, decide_eq_false h]
    exact ⟨_, _, rfl, rfl⟩
/-- What is recovered from a text. -/
def recov (s : List UInt8) : List UInt8 := s.take (tot (all 60 0 s))
theorem recover_both (s : List UInt8) (hs : s.length ≤ 1048576) {k : Nat} (hk : 4 * s.length + 600 < k) :
    spec_RecoverLog.f k (M s) = some (if s.length ≤ 30000 then (M (recov s), M [], ((all 60 0 s).length : Int), ((tot (all 60 0 s) : Nat) : Int), true) else (M [], M [], 0, 0, false)) ∧
    impl_RecoverLog.f k (M s) = some (if s.length ≤ 30000 then (M (recov s), M [], ((all 60 0 s).length : Int), ((tot (all 60 0 s) : Nat) : Int), true) else (M [], M [], 0, 0, false)) := by
  have h60 := all_len 60 0 s
  have htl := all_tot 60 0 s
  have hsl' : ((0 : Int) :: sums 0 (all 60 0 s)).length = (all 60 0 s).length + 1 := by rw [List.length_cons, sums_len]
  unfold spec_RecoverLog.f impl_RecoverLog.f recov
  rw [M_size]
  by_cases h : s.length ≤ 30000
  · rw [if_pos h, if_neg (by omega), if_neg (by omega), open_eq s (by omega) (by omega), reads_eq s (by omega) (by omega)]
    simp only [Option.bind_some]
    rw [w64 (by omega) (by omega), rd_sums]
    repeat rw [if_pos (by omega)]
    rw [sx_M, Int.toNat_natCast, List.drop_zero, Nat.sub_zero, List.length_map]
    exact ⟨rfl, rfl⟩
  · rw [if_neg h, if_pos (by omega), if_pos (by omega)]
    exact ⟨rfl, rfl⟩
theorem isLog_both (D P : List UInt8) (C : Int) (hs : D.length + P.length ≤ 1048576) {k : Nat} (hk : 4 * (D.length + P.length) + 600 < k) :
    spec_IsValidLog.f k (M D) (M P) C = some (decide (Good D P C)) ∧ impl_IsValidLog.f k (M D) (M P) C = some (decide (Good D P C)) := by
  have hl : (D ++ P).length = D.length + P.length := List.length_append
  unfold spec_IsValidLog.f
  rw [log_eq D P C (by omega) (by omega) (by omega), valid_eq D P C (by omega) (by omega)]
  exact ⟨rfl, rfl⟩
theorem sync_both (D P : List UInt8) (C : Int) (hs : D.length + P.length ≤ 1048576) {k : Nat} (hk : 4 * (D.length + P.length) + 600 < k) :
    spec_SyncLog.f k (M D) (M P) C = some (if Good D P C then (M (D ++ P), M [], C, true) else (M [], M [], 0, false)) ∧ impl_SyncLog.f k (M D) (M P) C = some (if Good D P C then (M (D ++ P), M [], C, true) else (M [], M [], 0, false)) := by
  have hl : (D ++ P).length = D.length + P.length := List.length_append
  unfold spec_SyncLog.f impl_SyncLog.f
  rw [log_eq D P C (by omega) (by omega) (by omega), valid_eq D P C (by omega) (by omega)]
  simp only [Option.bind_some]
  by_cases g : Good D P C
  · rw [if_pos g, decide_eq_true g, if_pos rfl]
    try rw [if_pos rfl]
    rw [M_size, M_size]
    repeat rw [if_pos (by omega)]
    rw [sc_M]
    exact ⟨rfl, rfl⟩
  · rw [if_neg g, decide_eq_false g, if_neg Bool.false_ne_true]
    try rw [if_neg Bool.false_ne_true]
    exact ⟨rfl, rfl⟩
theorem Good.count {D P : List UInt8} {C : Int} (h : Good D P C) : 0 ≤ C ∧ C ≤ 60 := by
  have := all_len 60 0 (D ++ P)
  have := h.2.2
  omega
/-- A log with a record more. -/
def appended (D P : List UInt8) (C : Int) (c r : List UInt8) : ByteArray × ByteArray × Int × Int :=
  if Good D P C ∧ Ok c r then (if C = 60 then (M D, M P, C, 2) else (M D, M (P ++ enc C.toNat c r), C + 1, 0)) else (M D, M P, C, 1)
theorem append_both (D P : List UInt8) (C : Int) (c r : List UInt8) (hs : D.length + P.length ≤ 1048576) (hc : c.length ≤ 1048576) (hr : r.length ≤ 1048576) {k : Nat} (hk : 4 * (D.length + P.length) + c.length + r.length + 700 < k) :
    spec_AppendRecord.f k (M D) (M P) C (M c) (M r) = some (appended D P C c r) ∧ impl_AppendRecord.f k (M D) (M P) C (M c) (M r) = some (appended D P C c r) := by
  have hl : (D ++ P).length = D.length + P.length := List.length_append
  unfold spec_AppendRecord.f impl_AppendRecord.f appended
  obtain ⟨k, rfl⟩ : ∃ m, k = m + 1 := ⟨k - 1, by omega⟩
  rw [log_eq D P C (by omega) (by omega) (by omega), valid_eq D P C (by omega) (by omega), good_eq c r (by omega) (by omega) (by omega), isRec_eq c r (by omega) (by omega) (by omega)]
  simp only [Option.bind_some, spec_AppendRecord.j0, impl_AppendRecord.j0]
  by_cases g : Good D P C
  · have hct := g.count
    rw [decide_eq_true g, if_pos rfl, if_pos rfl]
    by_cases o : Ok c r
    · have hgo : Good D P C ∧ Ok c r := ⟨g, o⟩
      have hn : ¬ ((!true) = true) := by decide
      rw [if_pos hgo, decide_eq_true o, if_neg hn, if_neg hn]
      by_cases h60 : C = 60
      · rw [if_pos h60, if_pos h60, if_pos h60]
        exact ⟨rfl, rfl⟩
      · obtain ⟨n, rfl⟩ : ∃ n : Nat, C = n := ⟨C.toNat, by omega⟩
        have hel := (enc_len (k := n) (by omega) o).1
        rw [if_neg h60, if_neg h60, if_neg h60, line_eq (by omega) c r (by omega) (by omega) (by omega), encode_eq (by omega) c r (by omega) (by omega) (by omega)]
        simp only [Option.bind_some]
        rw [M_size, M_size, if_pos (by omega)]
        try rw [if_pos (by omega)]
        rw [sc_M, w64 (by omega) (by omega), Int.toNat_natCast]
        exact ⟨rfl, rfl⟩
    · rw [if_neg (show ¬ (Good D P C ∧ Ok c r) from fun h => o h.2), decide_eq_false o, if_pos (show (!false) = true from rfl), if_pos (show (!false) = true from rfl)]
      exact ⟨rfl, rfl⟩
  · rw [if_neg (show ¬ (Good D P C ∧ Ok c r) from fun h => g h.1), decide_eq_false g, if_neg Bool.false_ne_true]
    try rw [if_neg Bool.false_ne_true]
    repeat rw [if_pos rfl]
    exact ⟨rfl, rfl⟩
theorem records_both (D P : List UInt8) (C : Int) (hs : D.length + P.length ≤ 1048576) {k : Nat} (hk : 4 * (D.length + P.length) + 600 < k) :
    spec_LogRecords.f k (M D) (M P) C = some (if Good D P C then ((all 60 0 (D ++ P)).map R27, true) else ([], false)) ∧ impl_LogRecords.f k (M D) (M P) C = some (if Good D P C then ((all 60 0 (D ++ P)).map R27, true) else ([], false)) := by
  have hl : (D ++ P).length = D.length + P.length := List.length_append
  unfold spec_LogRecords.f impl_LogRecords.f
  rw [log_eq D P C (by omega) (by omega) (by omega), records_eq D P C (by omega) (by omega)]
  simp only [Option.bind_some]
  by_cases g : Good D P C
  · rw [if_pos g, decide_eq_true g, if_pos rfl, M_size, M_size, if_pos (by omega), sc_M, open_eq _ (by omega) (by omega)]
    simp
  · rw [if_neg g, decide_eq_false g, if_neg Bool.false_ne_true]
    simp
theorem fuel_log {a k : Nat} (hk : k = 4 * a + 700) : 4 * a + 600 < k := by omega
theorem fuel_app {a b c k : Nat} (hk : k = 4 * a + b + c + 800) : 4 * a + b + c + 700 < k := by omega
theorem fuel_le {a b n : Nat} (h : a + b ≤ n) : a ≤ n ∧ b ≤ n := by omega
theorem eqLog_self (a b : ByteArray) (c : Int) : laws_eqLog.f a b c a b c = some true := by
  unfold laws_eqLog.f
  rw [if_pos rfl, if_pos rfl, if_pos rfl]
/-- A log and a record that came in. -/
theorem ex_log (a b : ByteArray) : ∃ D P, a = M D ∧ b = M P := by
  obtain ⟨D, h1⟩ := ex_M a
  obtain ⟨P, h2⟩ := ex_M b
  exact ⟨D, P, h1, h2⟩
end Go.Proofs.YtdpinnhgkocjhaaDoor.Pr.Pure

/-
What is proved: FnExactIsValidLog.Pure: the program's function and the reference's answer the same.
Conditions: sizes as the types allow.
-/
namespace Go.Proofs.YtdpinnhgkocjhaaDoor.Pr.Pure
open Go.RowKit Go.Proofs.YtdpinnhgkocjhaaDoorW.PrintWords Go.Proofs.YtdpinnhgkocjhaaDoorW.PrintLast Go.Proofs.YtdpinnhgkocjhaaDoorW.PrintMore Go.Proofs.YtdpinnhgkocjhaaDoorW.Opens Go.Proofs.YtdpinnhgkocjhaaDoor.Log
set_option linter.unusedVariables false
theorem FnExactIsValidLog : FnExactIsValidLog.Pure := by
  intro x0 h0
  obtain ⟨D, P, hD, hP⟩ := ex_log x0.f0 x0.f1
  obtain ⟨hs0, hs1, hs2⟩ := h0
  rw [hD, M_size] at hs0
  rw [hP, M_size] at hs1
  obtain ⟨t, ht, hb⟩ := szLog_eq D P x0.f2 hs0 hs1
  obtain ⟨k, hk⟩ : ∃ k, k = 4 * (D.length + P.length) + 700 := ⟨_, rfl⟩
  refine ⟨k, ?_⟩
  unfold laws_FnExactIsValidLog.f laws_toLog.f
  rw [hD, hP, ht]
  simp only [obs]
  by_cases hn : t < 0
  · rw [if_pos hn]
  · rw [if_neg hn]
    have hle := hb hn
    obtain ⟨r_, e1, e2⟩ : ∃ r_, spec_IsValidLog.f k (M D) (M P) x0.f2 = some r_ ∧ impl_IsValidLog.f k (M D) (M P) x0.f2 = some r_ := ⟨_, isLog_both D P x0.f2 hle.1 (k := k) (fuel_log hk)⟩
    simp only [e1, e2, obs, eqLog_self, if_true, bne_self_eq_false, Bool.false_eq_true, if_false]
end Go.Proofs.YtdpinnhgkocjhaaDoor.Pr.Pure

