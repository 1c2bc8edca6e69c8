/-
What is proved: parts of the law FnLogLines: what the functions that it reaches compute, and the plain law.
Conditions: those of each theorem.
-/
import Derived.Test.YtdpinnhgkocjhaaDoorCFnLogLines3
namespace Go.Proofs.YtdpinnhgkocjhaaDoor.Pr.Pure
open Go.RowKit Go.Proofs.YtdpinnhgkocjhaaDoorW.PrintWords Go.Proofs.YtdpinnhgkocjhaaDoorW.PrintLast Go.Proofs.YtdpinnhgkocjhaaDoorW.PrintMore Go.Proofs.YtdpinnhgkocjhaaDoor.Log Go.Lib
set_option linter.unusedVariables false
set_option linter.unusedSimpArgs false
theorem rec_ok {c : List Int} (hc : ∀ x, x ∈ c → 0 ≤ x ∧ x ≤ 255) {p : Int} (h0 : 0 ≤ p) (h1 : p ≤ 700000000) (s : Int) :
  ∃ m r p1 q, spec_l1Cur_logRecord.f c p s = some (m, r, p1, q) ∧ m.size ≤ 16 ∧ r.size ≤ 16 ∧ p ≤ p1 ∧ p1 ≤ p + 8 := by
 unfold spec_l1Cur_logRecord.f
 obtain ⟨r1, p1, q1, e1, m1, a1, b1⟩ := of_ok hc h0 (by omega) s (l := [(⟨#[99, 111, 117, 110, 116]⟩ : ByteArray), (⟨#[115, 111, 114, 116, 32, 109, 101, 114, 103, 101]⟩ : ByteArray), (⟨#[120]⟩ : ByteArray), (⟨#[115, 101, 108, 101, 99, 116, 32, 50]⟩ : ByteArray), (⟨#[48, 32, 49]⟩ : ByteArray)]) (by decide)
 rw [e1, obs]
 simp only
 obtain ⟨r2, p2, q2, e2, m2, a2, b2⟩ := of_ok hc (p := p1) (by omega) (by omega) q1 (l := [(⟨#[]⟩ : ByteArray), (⟨#[51]⟩ : ByteArray), (⟨#[63]⟩ : ByteArray), (⟨#[97, 64, 98]⟩ : ByteArray), (⟨#[51, 32, 49, 32, 50]⟩ : ByteArray)]) (by decide)
 rw [e2, obs]
 simp only
 obtain ⟨r3, p3, q3, e3, m3, a3, b3⟩ := pick_ok hc (p := p2) (by omega) (by omega) q2 (n := 24) (by decide)
 rw [e3, obs]
 simp only
 have s1 : r1.size ≤ 16 := by
  simp only [List.mem_cons, List.not_mem_nil, or_false] at m1
  rcases m1 with rfl | rfl | rfl | rfl | rfl <;> decide
 have s2 : r2.size ≤ 16 := by
  simp only [List.mem_cons, List.not_mem_nil, or_false] at m2
  rcases m2 with rfl | rfl | rfl | rfl | rfl <;> decide
 by_cases c0 : r3 = 0
 ·
  rw [if_pos c0, if_pos (by decide)]
  obtain ⟨r4, p4, q4, e4, m4, a4, b4⟩ := of_ok hc (p := p3) (by omega) (by omega) q3 (l := [(⟨#[]⟩ : ByteArray), (⟨#[97, 64, 98]⟩ : ByteArray), (⟨#[97, 35]⟩ : ByteArray), (⟨#[10]⟩ : ByteArray), strOfNums (List.replicate 3 0)]) (by decide)
  rw [e4, obs]
  refine ⟨_, _, p4, _, rfl, ?_, s2, by omega, by omega⟩
  simp only [List.mem_cons, List.not_mem_nil, or_false] at m4
  have z : (strOfNums (List.replicate 3 0)).size = 3 := rfl
  show r4.size ≤ 16
  rcases m4 with rfl | rfl | rfl | rfl | rfl
  ·
   decide
  ·
   decide
  ·
   decide
  ·
   decide
  ·
   omega
 ·
  rw [if_neg c0]
  by_cases c1 : r3 = 1
  ·
   rw [if_pos c1]
   obtain ⟨r4, p4, q4, e4, m4, a4, b4⟩ := of_ok hc (p := p3) (by omega) (by omega) q3 (l := [(⟨#[35]⟩ : ByteArray), (⟨#[10]⟩ : ByteArray), (⟨#[127]⟩ : ByteArray)]) (by decide)
   rw [e4, obs]
   refine ⟨_, _, p4, _, rfl, s1, ?_, by omega, by omega⟩
   simp only [List.mem_cons, List.not_mem_nil, or_false] at m4
   show r4.size ≤ 16
   rcases m4 with rfl | rfl | rfl <;> decide
  ·
   rw [if_neg c1]
   exact ⟨_, _, p3, _, rfl, s1, s2, by omega, by omega⟩
theorem rec_okM {c : List Int} (hc : ∀ x, x ∈ c → 0 ≤ x ∧ x ≤ 255) {p : Int} (h0 : 0 ≤ p) (h1 : p ≤ 700000000) (s : Int) :
  ∃ m r p1 q, spec_l1Cur_logRecord.f c p s = some (M m, M r, p1, q) ∧ m.length ≤ 16 ∧ r.length ≤ 16 ∧ p ≤ p1 ∧ p1 ≤ p + 8 := by
 obtain ⟨m, r, p1, q, e, h2, h3, h4, h5⟩ := rec_ok hc h0 h1 s
 obtain ⟨m, rfl⟩ := ex_M m
 obtain ⟨r, rfl⟩ := ex_M r
 rw [M_size] at h2 h3
 exact ⟨m, r, p1, q, e, h2, h3, h4, h5⟩
theorem appended_ex (D P : List UInt8) (C : Int) (c r : List UInt8) : ∃ D' P' C' x, appended D P C c r = (M D', M P', C', x) ∧ D'.length + P'.length ≤ D.length + P.length + 372 := by
 unfold appended
 split
 ·
  rename_i h
  split
  ·
   exact ⟨_, _, _, _, rfl, by omega⟩
  ·
   rename_i h2
   have hct := h.1.count
   have := (enc_len (k := C.toNat) (by omega) h.2).1
   refine ⟨_, _, _, _, rfl, ?_⟩
   rw [List.length_append]
   omega
 ·
  exact ⟨_, _, _, _, rfl, by omega⟩
theorem log_l0 {c : List Int} (hc : ∀ x, x ∈ c → 0 ≤ x ∧ x ≤ 255) (d : Nat) : ∀ (D P : List UInt8) (C p s : Int) (k : Nat), D.length + P.length + 372 * d ≤ 30000 → 0 ≤ p → p + 20 * d ≤ 600000000 → 200000 + d < k →
  ∃ D' P' C' p1 q, spec_l1Cur_log.l0 k d c p s (M D) (M P) C = some (M D', M P', C', p1, q) ∧ D'.length + P'.length ≤ D.length + P.length + 372 * d ∧ p ≤ p1 ∧ p1 ≤ p + 20 * d := by
 induction d with
 | zero =>
  intro D P C p s k hl h0 h1 hk
  obtain ⟨k, rfl⟩ : ∃ m, k = m + 1 := ⟨k - 1, by omega⟩
  simp only [spec_l1Cur_log.l0]
  rw [if_neg (by omega)]
  exact ⟨_, _, _, _, _, rfl, by omega, by omega, by omega⟩
 | succ d ih =>
  intro D P C p s k hl h0 h1 hk
  obtain ⟨k, rfl⟩ : ∃ m, k = m + 1 := ⟨k - 1, by omega⟩
  simp only [spec_l1Cur_log.l0]
  rw [if_pos (by omega)]
  obtain ⟨m, r, p1, q1, e1, hm, hr, a1, b1⟩ := rec_okM hc h0 (by omega) s
  rw [e1, obs]
  simp only
  obtain ⟨D1, P1, C1, x1, e2, hl1⟩ := appended_ex D P C m r
  rw [(append_both D P C m r (by omega) (by omega) (by omega) (by omega)).1, e2, obs]
  simp only
  obtain ⟨b, p2, q2, e3, a2, b2⟩ := one_ok hc (p := p1) (by omega) (by omega) q1 (n := 4) (by decide)
  rw [e3, obs]
  simp only
  rw [w64 (x := ((d + 1 : Nat) : Int) - 1) (by omega) (by omega), show ((d + 1 : Nat) : Int) - 1 = (d : Int) by omega]
  cases b with
  | false =>
   rw [if_neg (by decide)]
   obtain ⟨D2, P2, C2, p3, q3, e4, h5, h6, h7⟩ := ih D1 P1 C1 p2 q2 k (by omega) (by omega) (by omega) (by omega)
   exact ⟨D2, P2, C2, p3, q3, e4, by omega, by omega, by omega⟩
  | true =>
   rw [if_pos rfl, (sync_both D1 P1 C1 (by omega) (by omega)).1, obs]
   by_cases g : Good D1 P1 C1
   ·
    rw [if_pos g]
    simp only
    have hx : (D1 ++ P1).length = D1.length + P1.length := List.length_append
    obtain ⟨D2, P2, C2, p3, q3, e4, h5, h6, h7⟩ := ih (D1 ++ P1) [] C1 p2 q2 k (by rw [List.length_nil]; omega) (by omega) (by omega) (by omega)
    rw [List.length_nil] at h5
    exact ⟨D2, P2, C2, p3, q3, e4, by omega, by omega, by omega⟩
   ·
    rw [if_neg g]
    simp only
    obtain ⟨D2, P2, C2, p3, q3, e4, h5, h6, h7⟩ := ih [] [] 0 p2 q2 k (by rw [List.length_nil]; omega) (by omega) (by omega) (by omega)
    rw [List.length_nil] at h5
    exact ⟨D2, P2, C2, p3, q3, e4, by omega, by omega, by omega⟩
theorem log_ok {c : List Int} (hc : ∀ x, x ∈ c → 0 ≤ x ∧ x ≤ 255) {p : Int} (h0 : 0 ≤ p) (h1 : p ≤ 500000000) (s : Int) {k : Nat} (hk : 200010 < k) :
  ∃ D P C p1 q, spec_l1Cur_log.f k c p s = some (M D, M P, C, p1, q) ∧ D.length + P.length ≤ 2300 ∧ p ≤ p1 ∧ p1 ≤ p + 130 := by
 unfold spec_l1Cur_log.f
 obtain ⟨r, p1, q1, e1, hr, a1, b1⟩ := pick_ok hc h0 (by omega) s (n := 7) (by decide)
 rw [e1, obs]
 simp only
 obtain ⟨n, rfl⟩ : ∃ n : Nat, r = n := ⟨r.toNat, by omega⟩
 obtain ⟨D, P, C, p2, q2, e2, h2, h3, h4⟩ := log_l0 hc n [] [] 0 p1 q1 k (by rw [List.length_nil]; omega) (by omega) (by omega) (by omega)
 rw [List.length_nil] at h2
 exact ⟨D, P, C, p2, q2, e2, by omega, by omega, by omega⟩
theorem spoilt_ok {c : List Int} (hc : ∀ x, x ∈ c → 0 ≤ x ∧ x ≤ 255) {p : Int} (h0 : 0 ≤ p) (h1 : p ≤ 500000000) (s : Int) (l w : List UInt8) (hl : l.length ≤ 100000) (hw : w.length = 5) :
  ∃ r p1 q, spec_l1Cur_spoilt.f c p s (M l) (M w) = some (M r, p1, q) ∧ r.length ≤ l.length + 1 ∧ p ≤ p1 ∧ p1 ≤ p + 6 := by
 unfold spec_l1Cur_spoilt.f
 rw [M_toList, M_size, M_size]
 by_cases z : l = []
 ·
  rw [if_pos z, if_pos (by decide), if_pos (by omega), sx_M]
  refine ⟨_, p, s, rfl, ?_, by omega, by omega⟩
  rw [List.length_take]
  omega
 ·
  rw [if_neg z]
  have hp : 0 < l.length := List.length_pos_iff.2 z
  obtain ⟨i, p1, q1, e1, hi, a1, b1⟩ := pick_ok hc h0 (by omega) s (n := (l.length : Int)) (by omega)
  rw [e1, obs]
  simp only
  obtain ⟨j, p2, q2, e2, hj, a2, b2⟩ := pick_ok hc (p := p1) (by omega) (by omega) q1 (n := (w.length : Int)) (by omega)
  rw [e2, obs]
  simp only
  obtain ⟨i, rfl⟩ : ∃ n : Nat, i = n := ⟨i.toNat, by omega⟩
  obtain ⟨j, rfl⟩ : ∃ n : Nat, j = n := ⟨j.toNat, by omega⟩
  obtain ⟨t, p3, q3, e3, ht, a3, b3⟩ := pick_ok hc (p := p2) (by omega) (by omega) q2 (n := 3) (by decide)
  simp only [Int.toNat_natCast, sx_M]
  rw [w64 (x := (i : Int) + 1) (by omega) (by omega), show ((i : Int) + 1).toNat = i + 1 by omega]
  have l1 : ((w.drop j).take (w.length - j)).length = w.length - j := by rw [List.length_take, List.length_drop]; omega
  have l2 : ((((w.drop j).take (w.length - j)).drop 0).take (1 - 0)).length = 1 := by rw [List.length_take, List.length_drop]; omega
  have l3 : ((l.drop 0).take (i - 0)).length = i := by rw [List.length_take, List.length_drop]; omega
  have l4 : ((l.drop i).take (l.length - i)).length = l.length - i := by rw [List.length_take, List.length_drop]; omega
  have l5 : ((l.drop (i + 1)).take (l.length - (i + 1))).length = l.length - (i + 1) := by rw [List.length_take, List.length_drop]; omega
  generalize (w.drop j).take (w.length - j) = A at *
  generalize (A.drop 0).take (1 - 0) = B at *
  generalize (l.drop 0).take (i - 0) = E at *
  generalize (l.drop i).take (l.length - i) = F at *
  generalize (l.drop (i + 1)).take (l.length - (i + 1)) = G at *
  rw [M_size, if_pos (by omega), if_pos (by omega), if_pos (by decide), if_pos (by omega), e3, obs]
  simp only [sc_M, M_size]
  have l6 : (E ++ B).length = E.length + B.length := List.length_append
  have l7 : (E ++ B ++ F).length = E.length + B.length + F.length := by rw [List.length_append, List.length_append]
  have l8 : (E ++ B ++ G).length = E.length + B.length + G.length := by rw [List.length_append, List.length_append]
  have l9 : (E ++ G).length = E.length + G.length := List.length_append
  by_cases t0 : t = 0
  ·
   rw [if_pos t0, if_pos (by omega), if_pos (by omega), if_pos (by omega), if_pos (by omega)]
   exact ⟨_, p3, _, rfl, by omega, by omega, by omega⟩
  ·
   rw [if_neg t0]
   by_cases t1 : t = 1
   ·
    rw [if_pos t1, if_pos (by omega), if_pos (by omega), if_pos (by omega), if_pos (by omega), if_pos (by omega), if_pos (by omega)]
    exact ⟨_, p3, _, rfl, by omega, by omega, by omega⟩
   ·
    rw [if_neg t1, if_pos (by omega), if_pos (by omega), if_pos (by omega), if_pos (by omega), if_pos (by omega)]
    exact ⟨_, p3, _, rfl, by omega, by omega, by omega⟩
theorem M_with : (⟨#[35, 64, 10, 48, 49]⟩ : ByteArray) = M [35, 64, 10, 48, 49] := rfl
theorem drawEnc_ok {c : List Int} (hc : ∀ x, x ∈ c → 0 ≤ x ∧ x ≤ 255) : ∃ a m r, spec_DrawEncodeRecord.f c = some (a, M m, M r) ∧ -1 ≤ a ∧ a ≤ 60 ∧ m.length ≤ 16 ∧ r.length ≤ 16 := by
 unfold spec_DrawEncodeRecord.f spec_newCur.f
 rw [obs]
 simp only
 obtain ⟨a, p1, q1, e1, m1, a1, b1⟩ := among_ok hc (p := 0) (by omega) (by omega) 0 (l := [0, 1, 12, 59, 60, (-1)]) (by decide)
 rw [e1, obs]
 simp only
 obtain ⟨m, r, p2, q2, e2, hm, hr, a2, b2⟩ := rec_okM hc (p := p1) (by omega) (by omega) q1
 rw [e2, obs]
 simp only [List.mem_cons, List.not_mem_nil, or_false] at m1
 exact ⟨a, m, r, rfl, by omega, by omega, hm, hr⟩
theorem nums_M (l : List Int) : ∃ t, strOfNums l = M t ∧ t.length = l.length := by
 obtain ⟨t, ht⟩ := ex_M (strOfNums l)
 refine ⟨t, ht, ?_⟩
 rw [← M_size t, ← ht]
 exact strOfNums_size l
theorem drawRec_j0 {c : List Int} (hc : ∀ x, x ∈ c → 0 ≤ x ∧ x ≤ 255) {p : Int} (h0 : 0 ≤ p) (h1 : p ≤ 400000000) (s : Int) (l : List UInt8) (hl : l.length ≤ 40000) (k : Nat) :
  ∃ t, spec_DrawRecoverLog.j0 (k + 1) (M l) c p s = some (M t) ∧ t.length ≤ 40000 := by
 simp only [spec_DrawRecoverLog.j0]
 obtain ⟨b, p1, q1, e1, a1, b1⟩ := one_ok hc h0 (by omega) s (n := 40) (by decide)
 rw [e1, obs]
 simp only
 cases b with
 | false =>
  rw [if_neg (by decide)]
  exact ⟨l, rfl, hl⟩
 | true =>
  rw [if_pos rfl]
  obtain ⟨r, p2, q2, e2, hr, a2, b2⟩ := pick_ok hc (p := p1) (by omega) (by omega) q1 (n := 2) (by decide)
  rw [e2, obs]
  simp only
  rw [w64 (x := 30000 + r) (by omega) (by omega), if_pos (by omega), if_pos (by omega)]
  obtain ⟨t, ht, hs⟩ := nums_M (List.replicate (30000 + r).toNat 0)
  rw [ht]
  refine ⟨t, rfl, ?_⟩
  rw [hs, List.length_replicate]
  omega
theorem enc_len2 {a : Nat} (ha : a < 100) (c r : List UInt8) : (enc a c r).length ≤ 20 + c.length + r.length := by
 have h1 := digits_len_aux 1 a (by omega)
 have h2 := digits_len_aux 5 (sum (body a c r)) (by have := sum_lt (body a c r); omega)
 have := body_len a c r
 simp only [enc, line, List.length_append, List.length_cons, List.length_nil]
 omega
theorem drawRec_ok {c : List Int} (hc : ∀ x, x ∈ c → 0 ≤ x ∧ x ≤ 255) {k : Nat} (hk : 200010 < k) : ∃ t, spec_DrawRecoverLog.f k c = some (M t) ∧ t.length ≤ 40000 := by
 unfold spec_DrawRecoverLog.f spec_newCur.f
 rw [obs]
 simp only
 obtain ⟨D, P, C, p1, q1, e1, hl, a1, b1⟩ := log_ok hc (p := 0) (by omega) (by omega) 0 hk
 have hx : (D ++ P).length = D.length + P.length := List.length_append
 rw [e1, obs]
 simp only
 rw [M_size, M_size, if_pos (by omega)]
 obtain ⟨r, p2, q2, e2, hr, a2, b2⟩ := pick_ok hc (p := p1) (by omega) (by omega) q1 (n := 4) (by decide)
 rw [e2, obs]
 simp only [sc_M, M_size]
 obtain ⟨k, rfl⟩ : ∃ m, k = m + 1 := ⟨k - 1, by omega⟩
 by_cases c0 : r = 0
 ·
  rw [if_pos c0, M_with]
  obtain ⟨r2, p3, q3, e3, h3, a3, b3⟩ := spoilt_ok hc (p := p2) (by omega) (by omega) q2 (D ++ P) [35, 64, 10, 48, 49] (by omega) rfl
  rw [e3, obs]
  exact drawRec_j0 hc (p := p3) (by omega) (by omega) q3 r2 (by omega) k
 ·
  rw [if_neg c0]
  by_cases c1 : r = 1
  ·
   rw [if_pos c1, w64 (x := ((D ++ P).length : Int) + 1) (by omega) (by omega)]
   obtain ⟨i, p3, q3, e3, hi, a3, b3⟩ := pick_ok hc (p := p2) (by omega) (by omega) q2 (n := ((D ++ P).length : Int) + 1) (by omega)
   rw [e3, obs]
   simp only
   rw [if_pos hi.1, if_pos (by omega), sx_M]
   exact drawRec_j0 hc (p := p3) (by omega) (by omega) q3 _ (by rw [List.length_take, List.length_drop]; omega) k
  ·
   rw [if_neg c1]
   by_cases c2 : r = 2
   ·
    rw [if_pos c2]
    obtain ⟨i, p3, q3, e3, hi, a3, b3⟩ := pick_ok hc (p := p2) (by omega) (by omega) q2 (n := 4) (by decide)
    rw [e3, obs]
    simp only
    obtain ⟨m, r2, p4, q4, e4, hm, hr2, a4, b4⟩ := rec_okM hc (p := p3) (by omega) (by omega) q3
    rw [e4, obs]
    simp only
    obtain ⟨i, rfl⟩ : ∃ n : Nat, i = n := ⟨i.toNat, by omega⟩
    have hel := enc_len2 (a := i) (by omega) m r2
    rw [line_eq (by omega) m r2 (by omega) (by omega) (by omega), obs]
    rw [M_size, if_pos (by omega), sc_M]
    exact drawRec_j0 hc (p := p4) (by omega) (by omega) q4 _ (by rw [List.length_append]; omega) k
   ·
    rw [if_neg c2]
    exact drawRec_j0 hc (p := p2) (by omega) (by omega) q2 _ (by omega) k
theorem all_recov (m : Nat) : ∀ (k : Nat) (s : List UInt8), all m k (s.take (tot (all m k s))) = all m k s := by
 induction m with
 | zero => intro k s; rfl
 | succ m ih =>
  intro k s
  cases e : dec k s with
  | none => rw [all_none e]; exact all_nil _ _
  | some x =>
   rw [all_some e, tot_cons]
   have e2 : dec k (s.take (x.2.2 + tot (all m (k + 1) (s.drop x.2.2)))) = some x := dec_cut e (Nat.le_add_right _ _)
   rw [all_some e2, List.drop_take, Nat.add_sub_cancel_left, ih]
theorem good_recov (s : List UInt8) : Good (recov s) [] ((all 60 0 s).length : Int) := by
 have h := all_recov 60 0 s
 have ht := all_tot 60 0 s
 unfold Good recov
 rw [List.append_nil, h, List.length_take]
 omega
end Go.Proofs.YtdpinnhgkocjhaaDoor.Pr.Pure

namespace Go.Proofs.YtdpinnhgkocjhaaDoor.Pr.Pure
open Go.RowKit Go.Proofs.YtdpinnhgkocjhaaDoorW.PrintWords Go.Proofs.YtdpinnhgkocjhaaDoorW.PrintLast Go.Proofs.YtdpinnhgkocjhaaDoorW.PrintMore Go.Proofs.YtdpinnhgkocjhaaDoorW.Opens Go.Proofs.YtdpinnhgkocjhaaDoor.Log Go.Lib
set_option linter.unusedVariables false
set_option linter.unusedSimpArgs false
theorem digit_head {n : Nat} (h1 : 1 ≤ n) (h2 : n < 60) : ∃ b t, decDigits n = b :: t ∧ b ≠ 48 := by
 have hb : ∀ j, 1 ≤ j → j < 10 → UInt8.ofNat (48 + j) ≠ 48 := fun j a b e => by
  have := congrArg UInt8.toNat e
  rw [UInt8.toNat_ofNat'] at this
  have h48 : (48 : UInt8).toNat = 48 := rfl
  omega
 by_cases c : n < 10
 ·
  rw [decDigits, dif_pos c]
  exact ⟨_, _, rfl, hb n h1 c⟩
 ·
  rw [decDigits, dif_neg c, decDigits, dif_pos (by omega)]
  exact ⟨_, _, rfl, hb (n / 10) (by omega) (by omega)⟩
theorem zero_digits : decDigits 0 = [48] := by
 rw [decDigits, dif_pos (by omega)]
 rfl
theorem dec_other {n : Nat} (h1 : 1 ≤ n) (h2 : n < 60) (c r : List UInt8) : dec 0 (enc n c r) = none := by
 cases e : dec 0 (enc n c r) with
 | none => rfl
 | some x =>
  obtain ⟨a, b, m⟩ := x
  obtain ⟨_, _, ⟨u, hu⟩, _⟩ := dec_some.1 e
  obtain ⟨y, t, hd, hy⟩ := digit_head h1 h2
  simp only [enc, line, body, hd, zero_digits, List.cons_append, List.nil_append] at hu
  injection hu with h3 _
  exact absurd h3.symm hy
theorem encode_full (a : Int) (ha : -1 ≤ a) (ha2 : a ≤ 60) (c r : List UInt8) (hc : c.length ≤ 16) (hr : r.length ≤ 16) {k : Nat} (hk : 100 < k) :
  ∃ s f, spec_EncodeRecord.f k a (M c) (M r) = some (M s, f) ∧ impl_EncodeRecord.f k a (M c) (M r) = some (M s, f) ∧ (f = true → ∃ n : Nat, a = n ∧ n ≤ 59 ∧ Ok c r ∧ s = enc n c r) ∧ (f = false → s = []) := by
 by_cases h : 0 ≤ a ∧ a ≤ 59
 ·
  obtain ⟨n, rfl⟩ : ∃ n : Nat, a = n := ⟨a.toNat, by omega⟩
  obtain ⟨h1, h2⟩ := encode_val n (by omega) c r (by omega) (by omega) (k := k) (by omega)
  by_cases g : Ok c r
  ·
   rw [if_pos g] at h1 h2
   exact ⟨_, _, h1, h2, fun _ => ⟨n, rfl, by omega, g, rfl⟩, fun e => (by cases e)⟩
  ·
   rw [if_neg g] at h1 h2
   exact ⟨_, _, h1, h2, fun e => (by cases e), fun _ => rfl⟩
 ·
  refine ⟨[], false, ?_, ?_, fun e => (by cases e), fun _ => rfl⟩
  ·
   unfold spec_EncodeRecord.f
   rw [l1In_eq, decide_eq_false h]
   rfl
  ·
   unfold impl_EncodeRecord.f
   rw [within_eq, decide_eq_false h]
   rfl
theorem lines_j1 (t s : List UInt8) (f : Bool) (hs : f = false → s = []) (ht : t.length ≤ 40000) {k : Nat} (hk : 290000 ≤ k) :
  laws_FnLogLines.j1 (k + 1) (M s) f (if t.length ≤ 30000 then true else false) false (if t.length ≤ 30000 then M (recov t) else M []) (M []) (if t.length ≤ 30000 then ((all 60 0 t).length : Int) else 0) = some true := by
 simp only [laws_FnLogLines.j1, Bool.false_eq_true, if_false]
 by_cases c : t.length ≤ 30000
 ·
  have hl : (recov t).length ≤ 30000 := by
   unfold recov
   rw [List.length_take]
   omega
  have g := good_recov t
  simp only [if_pos c]
  rw [(sync_both (recov t) [] _ (by rw [List.length_nil]; omega) (by rw [List.length_nil]; omega)).2, obs, if_pos g]
  simp only
  rw [if_pos trivial, if_pos trivial, List.append_nil]
  simp only [beq_self_eq_true, Bool.and_self, if_true]
  rw [(isLog_both (recov t) [] _ (by rw [List.length_nil]; omega) (by rw [List.length_nil]; omega)).2, obs, decide_eq_true g, if_pos rfl]
  cases f with
  | true => rfl
  | false =>
   rw [hs rfl, M_toList]
   rfl
 ·
  simp only [if_neg c]
  rw [(sync_both [] [] _ (by decide) (by rw [List.length_nil]; omega)).2, obs, if_neg (by decide)]
theorem FnLogLines : FnLogLines.Pure := by
 intro c hw
 have hc : ∀ x, x ∈ c → 0 ≤ x ∧ x ≤ 255 := fun x hx => by
  have h := hw.2.2 x hx
  simp [Lit.wf, IntKind.min, IntKind.max, IntKind.signed, IntKind.bits] at h
  omega
 refine ⟨300000, ?_⟩
 unfold laws_FnLogLines.f laws_vBig.f
 rw [obs]
 by_cases big : decide ((c.length : Int) > 65536) = true
 ·
  rw [if_pos big]
 rw [if_neg big]
 obtain ⟨a, m, r, e, ha0, ha1, hm, hr⟩ := drawEnc_ok hc
 obtain ⟨s, f, e1, e2, hf, hs⟩ := encode_full a ha0 ha1 m r hm hr (k := 300000) (by omega)
 obtain ⟨t, e3, ht⟩ := drawRec_ok hc (k := 300000) (by omega)
 obtain ⟨r1, r2⟩ := recover_both t (by omega) (k := 300000) (by omega)
 have hv : (if t.length ≤ 30000 then (M (recov t), M [], ((all 60 0 t).length : Int), ((tot (all 60 0 t) : Nat) : Int), true) else (M [], M [], 0, 0, false)) = ((if t.length ≤ 30000 then M (recov t) else M []), M [], (if t.length ≤ 30000 then ((all 60 0 t).length : Int) else 0), (if t.length ≤ 30000 then ((tot (all 60 0 t) : Nat) : Int) else 0), (if t.length ≤ 30000 then true else false)) := by
  by_cases h : t.length ≤ 30000
  ·
   simp only [if_pos h]
  ·
   simp only [if_neg h]
 rw [hv] at r1 r2
 rw [e, obs]
 simp only
 rw [e2, obs, e1, obs, e3, obs, r2, obs, r1, obs]
 simp only
 rw [if_pos trivial, if_neg (by simp), if_neg (by simp), if_pos trivial, bne_self_eq_false]
 show laws_FnLogLines.j0 (299999 + 1) a (M s) f _ false _ _ _ = some true
 simp only [laws_FnLogLines.j0, Bool.false_eq_true, if_false]
 cases f with
 | false =>
  obtain rfl := hs rfl
  rw [(recover_both [] (by decide) (k := 299999) (by decide)).2, obs]
  simp only [Bool.false_eq_true, if_false]
  exact lines_j1 t [] false (fun _ => rfl) ht (k := 299998) (by omega)
 | true =>
  obtain ⟨n, rfl, hn, ok, rfl⟩ := hf rfl
  have hel := (enc_len (k := n) (by omega) ok).1
  have hep := (enc_len (k := n) (by omega) ok).2
  rw [(recover_both (enc n m r) (by omega) (k := 299999) (by omega)).2, obs, if_pos (show (enc n m r).length ≤ 30000 by omega)]
  simp only [if_true]
  by_cases z : n = 0
  ·
   subst z
   rw [all_one (by decide) ok]
   have ht1 : tot [(m, r, (enc 0 m r).length)] = (enc 0 m r).length := by simp [tot]
   rw [ht1, decide_eq_true (show (((enc 0 m r).length : Nat) : Int) > 0 by omega), show (((0 : Nat) : Int) == 0) = true from rfl, if_neg (by decide), if_pos (show ((0 : Nat) : Int) = 0 from rfl), show ((([(m, r, (enc 0 m r).length)] : List (B × B × Nat)).length : Int) != 1) = false from rfl]
   exact lines_j1 t _ true (fun h => (by cases h)) ht (k := 299998) (by omega)
  ·
   rw [all_none (dec_other (by omega) (by omega) m r), decide_eq_false (show ¬ (((tot ([] : List (B × B × Nat)) : Nat) : Int) > 0) by decide), show (((n : Nat) : Int) == 0) = false from beq_eq_false_iff_ne.2 (by omega), if_neg (by decide), if_neg (by omega)]
   exact lines_j1 t _ true (fun h => (by cases h)) ht (k := 299998) (by omega)
end Go.Proofs.YtdpinnhgkocjhaaDoor.Pr.Pure

