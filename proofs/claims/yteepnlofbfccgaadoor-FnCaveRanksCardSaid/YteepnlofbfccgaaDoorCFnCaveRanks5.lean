/-
What is proved: parts of the law FnCaveRanks: what the functions that it reaches compute, and the plain law.
Conditions: those of each theorem.
-/
import Derived.Test.YteepnlofbfccgaaDoorCFnCaveRanks4
namespace Go.Proofs.YteepnlofbfccgaaDoor.Pr.Pure
open Go.RowKit Go.Proofs.YteepnlofbfccgaaDoorW.PrintWords Go.Proofs.YteepnlofbfccgaaDoorW.PrintLast Go.Proofs.YteepnlofbfccgaaDoorW.PrintMore Go.Lib
set_option linter.unusedVariables false
theorem bits255 (x : Int) : 0 ≤ Go.bits .and .u64 x 255 ∧ Go.bits .and .u64 x 255 ≤ 255 := by
 have h : (BitVec.ofInt IntKind.u64.bits x &&& BitVec.ofInt IntKind.u64.bits 255).toNat ≤ 255 := by
  rw [BitVec.toNat_and]
  exact Nat.le_trans Nat.and_le_right (by decide)
 have e : Go.bits .and .u64 x 255 = IntKind.u64.wrap (((BitVec.ofInt IntKind.u64.bits x &&& BitVec.ofInt IntKind.u64.bits 255).toNat : Nat) : Int) := rfl
 rw [e]
 generalize (BitVec.ofInt IntKind.u64.bits x &&& BitVec.ofInt IntKind.u64.bits 255).toNat = n at h
 have e2 : IntKind.u64.wrap (n : Int) = (n : Int) := by
  have : IntKind.u64.wrap (n : Int) = (n : Int) % 18446744073709551616 := rfl
  omega
 rw [e2]
 omega
theorem rdI_mem (l : List Int) {i : Int} (h0 : 0 ≤ i) (h1 : i < l.length) : rd l i ∈ l := by
 unfold rd
 rw [List.getD_eq_getElem?_getD, List.getElem?_eq_getElem (by omega)]
 exact List.getElem_mem _
theorem rdB_mem (l : List ByteArray) {i : Int} (h0 : 0 ≤ i) (h1 : i < l.length) : rdOf ByteArray.empty l i ∈ l := by
 unfold rdOf
 rw [List.getD_eq_getElem?_getD, List.getElem?_eq_getElem (by omega)]
 exact List.getElem_mem _
theorem next_ok {c : List Int} (hc : ∀ x, x ∈ c → 0 ≤ x ∧ x ≤ 255) {p : Int} (h0 : 0 ≤ p) (h1 : p ≤ 1000000000) (s : Int) :
  ∃ r q, spec_l1Cur_next.f c p s = some (r, p + 1, q) ∧ 0 ≤ r ∧ r ≤ 255 := by
 have hw : wrap64 (p + 1) = p + 1 := w64 (by omega) (by omega)
 unfold spec_l1Cur_next.f
 rw [hw]
 by_cases a : p < (c.length : Int)
 ·
  have hb := hc _ (rdI_mem c h0 a)
  have hv : wrap64 (rd c p) = rd c p := w64 (by omega) (by omega)
  rw [if_pos a, if_pos h0]
  by_cases b : p + 1 ≤ (c.length : Int)
  ·
   rw [if_pos b, hv]
   exact ⟨_, _, rfl, hb.1, hb.2⟩
  ·
   rw [if_neg b]
   refine ⟨_, _, rfl, ?_⟩
   rw [w64 (by have := bits255; exact Int.le_trans (by decide) (this _).1) (Int.le_trans (bits255 _).2 (by decide))]
   exact bits255 _
 ·
  rw [if_neg a]
  by_cases b : p + 1 ≤ (c.length : Int)
  ·
   rw [if_pos b]
   exact ⟨_, _, rfl, by decide, by decide⟩
  ·
   rw [if_neg b]
   refine ⟨_, _, rfl, ?_⟩
   rw [w64 (by have := bits255; exact Int.le_trans (by decide) (this _).1) (Int.le_trans (bits255 _).2 (by decide))]
   exact bits255 _
theorem tmod_lt {a n : Int} (h : 0 ≤ a) (hn : 0 < n) : 0 ≤ Int.tmod a n ∧ Int.tmod a n < n :=
 ⟨Int.tmod_nonneg _ h, Int.tmod_lt_of_pos _ hn⟩
theorem pick_ok {c : List Int} (hc : ∀ x, x ∈ c → 0 ≤ x ∧ x ≤ 255) {p : Int} (h0 : 0 ≤ p) (h1 : p ≤ 900000000) (s : Int) {n : Int} (hn : 0 < n) :
  ∃ r p1 q, spec_l1Cur_pick.f c p s n = some (r, p1, q) ∧ (0 ≤ r ∧ r < n) ∧ p ≤ p1 ∧ p1 ≤ p + 2 := by
 unfold spec_l1Cur_pick.f
 by_cases a : n ≤ 1
 ·
  rw [if_pos a]
  exact ⟨0, p, s, rfl, ⟨by decide, hn⟩, by omega, by omega⟩
 ·
  obtain ⟨r, q, e, b1, b2⟩ := next_ok hc h0 (by omega) s
  have n0 : ¬ n = 0 := by omega
  rw [if_neg a, e, obs]
  by_cases d : n > 200
  ·
   obtain ⟨r2, q2, e2, d1, d2⟩ := next_ok hc (p := p + 1) (by omega) (by omega) q
   rw [if_pos d, e2, obs, if_neg n0]
   have hw : wrap64 (wrap64 (r * 256) + r2) = r * 256 + r2 := by
    rw [w64 (x := r * 256) (by omega) (by omega), w64 (by omega) (by omega)]
   refine ⟨_, p + 1 + 1, q2, rfl, ?_, by omega, by omega⟩
   simp only
   rw [hw]
   exact tmod_lt (by omega) hn
  ·
   rw [if_neg d, if_neg n0]
   exact ⟨_, p + 1, q, rfl, tmod_lt b1 hn, by omega, by omega⟩
theorem one_ok {c : List Int} (hc : ∀ x, x ∈ c → 0 ≤ x ∧ x ≤ 255) {p : Int} (h0 : 0 ≤ p) (h1 : p ≤ 900000000) (s : Int) {n : Int} (hn : 0 < n) :
  ∃ b p1 q, spec_l1Cur_one.f c p s n = some (b, p1, q) ∧ p ≤ p1 ∧ p1 ≤ p + 2 := by
 obtain ⟨r, p1, q, e, _, a1, a2⟩ := pick_ok hc h0 h1 s hn
 unfold spec_l1Cur_one.f
 rw [e, obs]
 exact ⟨_, p1, q, rfl, a1, a2⟩
theorem among_ok {c : List Int} (hc : ∀ x, x ∈ c → 0 ≤ x ∧ x ≤ 255) {p : Int} (h0 : 0 ≤ p) (h1 : p ≤ 900000000) (s : Int) {l : List Int} (hl : 0 < l.length) :
  ∃ r p1 q, spec_l1Cur_among.f c p s l = some (r, p1, q) ∧ r ∈ l ∧ p ≤ p1 ∧ p1 ≤ p + 2 := by
 obtain ⟨r, p1, q, e, b, a1, a2⟩ := pick_ok hc h0 h1 s (n := (l.length : Int)) (by omega)
 unfold spec_l1Cur_among.f
 rw [e, obs, if_pos b.1, if_pos b.2]
 exact ⟨_, p1, q, rfl, rdI_mem l b.1 b.2, a1, a2⟩
theorem of_ok {c : List Int} (hc : ∀ x, x ∈ c → 0 ≤ x ∧ x ≤ 255) {p : Int} (h0 : 0 ≤ p) (h1 : p ≤ 900000000) (s : Int) {l : List ByteArray} (hl : 0 < l.length) :
  ∃ r p1 q, spec_l1Cur_of.f c p s l = some (r, p1, q) ∧ r ∈ l ∧ p ≤ p1 ∧ p1 ≤ p + 2 := by
 obtain ⟨r, p1, q, e, b, a1, a2⟩ := pick_ok hc h0 h1 s (n := (l.length : Int)) (by omega)
 unfold spec_l1Cur_of.f
 rw [e, obs, if_pos b.1, if_pos b.2]
 exact ⟨_, p1, q, rfl, rdB_mem l b.1 b.2, a1, a2⟩
theorem of3_size {r : ByteArray} {l : List ByteArray} (h : r ∈ l) (hl : ∀ x, x ∈ l → x.size ≤ 16) : r.size ≤ 16 := hl r h
theorem caveRow_j0 {c : List Int} (hc : ∀ x, x ∈ c → 0 ≤ x ∧ x ≤ 255) {p : Int} (h0 : 0 ≤ p) (h1 : p ≤ 800000000) (s : Int) {n : ByteArray} (hn : n.size ≤ 16) (a b d : Int) (k : Nat) :
  ∃ m a1 b1 d1 p1 q, spec_l1Cur_caveRow.j0 (k + 1) c p s n a b d = some (m, a1, b1, d1, p1, q) ∧ m.size ≤ 16 ∧ p ≤ p1 ∧ p1 ≤ p + 4 := by
 simp only [spec_l1Cur_caveRow.j0]
 obtain ⟨r, p1, q, e, _, a1, a2⟩ := pick_ok hc h0 (by omega) s (n := 60) (by decide)
 rw [e, obs]
 simp only
 by_cases c0 : r = 0
 ·
  rw [if_pos c0]
  obtain ⟨r2, p2, q2, e2, hm, b1, b2⟩ := of_ok hc (p := p1) (by omega) (by omega) q (l := [(⟨#[]⟩ : ByteArray), (⟨#[65]⟩ : ByteArray), (⟨#[97, 98, 99, 100, 101, 102, 103, 104, 105, 106, 107]⟩ : ByteArray)]) (by decide)
  rw [e2, obs]
  refine ⟨_, _, _, _, p2, _, rfl, of3_size hm ?_, by omega, by omega⟩
  intro x hx
  simp only [List.mem_cons, List.not_mem_nil, or_false] at hx
  rcases hx with rfl | rfl | rfl <;> decide
 ·
  rw [if_neg c0]
  by_cases c1 : r = 1
  ·
   rw [if_pos c1]
   obtain ⟨r2, p2, q2, e2, hm, b1, b2⟩ := among_ok hc (p := p1) (by omega) (by omega) q (l := [(-1), 0, 1000001]) (by decide)
   rw [e2, obs]
   exact ⟨_, _, _, _, p2, _, rfl, hn, by omega, by omega⟩
  ·
   rw [if_neg c1]
   by_cases c2 : r = 2
   ·
    rw [if_pos c2]
    obtain ⟨r2, p2, q2, e2, hm, b1, b2⟩ := among_ok hc (p := p1) (by omega) (by omega) q (l := [(-1), wrap64 (a + 1), 20001]) (by simp)
    rw [e2, obs]
    exact ⟨_, _, _, _, p2, _, rfl, hn, by omega, by omega⟩
   ·
    rw [if_neg c2]
    by_cases c3 : r = 3
    ·
     rw [if_pos c3]
     obtain ⟨r2, p2, q2, e2, hm, b1, b2⟩ := among_ok hc (p := p1) (by omega) (by omega) q (l := [(-1), 0, 10000]) (by decide)
     rw [e2, obs]
     exact ⟨_, _, _, _, p2, _, rfl, hn, by omega, by omega⟩
    ·
     rw [if_neg c3]
     exact ⟨_, _, _, _, p1, _, rfl, hn, by omega, by omega⟩
theorem caveRow_ok {c : List Int} (hc : ∀ x, x ∈ c → 0 ≤ x ∧ x ≤ 255) {p : Int} (h0 : 0 ≤ p) (h1 : p ≤ 700000000) (s : Int) {n : ByteArray} (hn : n.size ≤ 16) (k : Nat) :
  ∃ m a1 b1 d1 p1 q, spec_l1Cur_caveRow.f (k + 1) c p s n = some (m, a1, b1, d1, p1, q) ∧ m.size ≤ 16 ∧ p ≤ p1 ∧ p1 ≤ p + 10 := by
 unfold spec_l1Cur_caveRow.f
 obtain ⟨r, p1, q, e, _, a1, a2⟩ := among_ok hc h0 (by omega) s (l := [0, 1, 105, 12030, 12030, 999900]) (by decide)
 rw [e, obs]
 simp only
 by_cases c0 : r > 0
 ·
  rw [if_pos c0]
  obtain ⟨r2, p2, q2, e2, _, b1, b2⟩ := among_ok hc (p := p1) (by omega) (by omega) q (l := [1, 2, 410, 9999]) (by decide)
  rw [e2, obs]
  simp only
  obtain ⟨r3, p3, q3, e3, _, b3, b4⟩ := among_ok hc (p := p2) (by omega) (by omega) q2 (l := [0, 9, 845, 20000]) (by decide)
  rw [e3, obs]
  simp only
  obtain ⟨t, ht⟩ : ∃ t, spec_l1Least.f r r3 = some t := by
   unfold spec_l1Least.f
   split <;> exact ⟨_, rfl⟩
  rw [ht, obs]
  obtain ⟨m, x1, x2, x3, p4, q4, e4, hm, b5, b6⟩ := caveRow_j0 hc (p := p3) (by omega) (by omega) q3 hn r t r2 k
  exact ⟨m, x1, x2, x3, p4, q4, e4, hm, by omega, by omega⟩
 ·
  rw [if_neg c0]
  obtain ⟨m, x1, x2, x3, p4, q4, e4, hm, b5, b6⟩ := caveRow_j0 hc (p := p1) (by omega) (by omega) q hn r 0 0 k
  exact ⟨m, x1, x2, x3, p4, q4, e4, hm, by omega, by omega⟩
def Drawn (l : List S26) : Prop := l.length ≤ 64 ∧ ∀ x, x ∈ l → x.f0.size ≤ 16
theorem Drawn.nil : Drawn [] := ⟨by decide, fun x h => by cases h⟩
theorem Drawn.snoc {l : List S26} (h : ∀ x, x ∈ l → x.f0.size ≤ 16) {y : S26} (hy : y.f0.size ≤ 16) : ∀ x, x ∈ l ++ [y] → x.f0.size ≤ 16 := by
 intro x hx
 rcases List.mem_append.1 hx with a | a
 ·
  exact h x a
 ·
  rw [List.mem_singleton.1 a]
  exact hy
theorem nums1_size (n : Int) : (strOfNums [n]).size ≤ 16 := by
 have : (strOfNums [n]).size = 1 := rfl
 omega
theorem caves26_l1 {c : List Int} (hc : ∀ x, x ∈ c → 0 ≤ x ∧ x ≤ 255) (d : Nat) : ∀ (l : List S26) (i : Nat) (p s : Int) (k : Nat), i + d = 12 → l.length = i → (∀ x, x ∈ l → x.f0.size ≤ 16) → 0 ≤ p → p + 2 * d ≤ 600000000 →
  d < k → ∃ r p1 q, spec_l1Cur_caves26.l1 k l i c p s = some (r, p1, q) ∧ Drawn r ∧ p ≤ p1 ∧ p1 ≤ p + 2 * d + 2 := by
 induction d with
 | zero =>
  intro l i p s k hd hi hl h0 h1 hk
  obtain ⟨k, rfl⟩ : ∃ m, k = m + 1 := ⟨k - 1, by omega⟩
  simp only [spec_l1Cur_caves26.l1]
  obtain ⟨r, p1, q, e, hr, a1, a2⟩ := pick_ok hc h0 (by omega) s (n := 2) (by decide)
  rw [e, obs]
  simp only
  rw [w64 (x := 10 + r) (by omega) (by omega), if_neg (by omega)]
  exact ⟨_, p1, _, rfl, ⟨by omega, hl⟩, by omega, by omega⟩
 | succ d ih =>
  intro l i p s k hd hi hl h0 h1 hk
  obtain ⟨k, rfl⟩ : ∃ m, k = m + 1 := ⟨k - 1, by omega⟩
  simp only [spec_l1Cur_caves26.l1]
  obtain ⟨r, p1, q, e, hr, a1, a2⟩ := pick_ok hc h0 (by omega) s (n := 2) (by decide)
  rw [e, obs]
  simp only
  rw [w64 (x := 10 + r) (by omega) (by omega)]
  by_cases b : (i : Int) < 10 + r
  ·
   rw [if_pos b, if_pos (by omega), w64 (x := (i : Int) + 1) (by omega) (by omega), show (i : Int) + 1 = ((i + 1 : Nat) : Int) from rfl]
   obtain ⟨r2, p2, q2, e2, hr2, b1, b2⟩ := ih (l ++ [(⟨strOfNums [(wrap64 (97 + (i : Int))) % 256], 0, 0, 0⟩ : S26)]) (i + 1) p1 q k (by omega) (by rw [List.length_append, List.length_singleton]; omega) (Drawn.snoc hl (nums1_size _)) (by omega) (by omega) (by omega)
   exact ⟨r2, p2, q2, e2, hr2, by omega, by omega⟩
  ·
   rw [if_neg b]
   exact ⟨_, p1, _, rfl, ⟨by omega, hl⟩, by omega, by omega⟩
theorem caves26_l0 {c : List Int} (hc : ∀ x, x ∈ c → 0 ≤ x ∧ x ≤ 255) (names : List ByteArray) (hn : ∀ x, x ∈ names → x.size ≤ 16) (hN : names.length ≤ 6) (d : Nat) : ∀ (l : List S26) (i : Nat) (p s : Int) (k : Nat), i + d = names.length → l.length ≤ i → (∀ x, x ∈ l → x.f0.size ≤ 16) → 0 ≤ p → p + 12 * d ≤ 500000000 →
  d + 20 < k → ∃ r p1 q, spec_l1Cur_caves26.l0 k l names i c p s = some (r, p1, q) ∧ Drawn r ∧ p ≤ p1 ∧ p1 ≤ p + 12 * d + 40 := by
 induction d with
 | zero =>
  intro l i p s k hd hi hl h0 h1 hk
  obtain ⟨k, rfl⟩ : ∃ m, k = m + 2 := ⟨k - 2, by omega⟩
  simp only [spec_l1Cur_caves26.l0]
  rw [if_neg (by omega)]
  obtain ⟨r, p1, q, e, hr, a1, a2⟩ := pick_ok hc h0 (by omega) s (n := 30) (by decide)
  rw [e, obs]
  simp only
  by_cases c0 : r = 0
  ·
   rw [if_pos c0]
   obtain ⟨m, x1, x2, x3, p2, q2, e2, hm, b1, b2⟩ := caveRow_ok hc (p := p1) (by omega) (by omega) q (n := ⟨#[98, 108, 117, 102, 102]⟩) (by decide) k
   rw [e2, obs]
   simp only
   rw [if_pos (by omega)]
   exact ⟨_, p2, _, rfl, ⟨by rw [List.length_append, List.length_singleton]; omega, Drawn.snoc hl hm⟩, by omega, by omega⟩
  ·
   rw [if_neg c0]
   by_cases c1 : r = 1
   ·
    rw [if_pos c1]
    obtain ⟨r2, p2, q2, e2, hr2, b1, b2⟩ := caves26_l1 hc 12 [] 0 p1 q (k + 1) (by omega) rfl (fun x h => by cases h) (by omega) (by omega) (by omega)
    exact ⟨r2, p2, q2, e2, hr2, by omega, by omega⟩
   ·
    rw [if_neg c1]
    exact ⟨_, p1, _, rfl, ⟨by omega, hl⟩, by omega, by omega⟩
 | succ d ih =>
  intro l i p s k hd hi hl h0 h1 hk
  obtain ⟨k, rfl⟩ : ∃ m, k = m + 2 := ⟨k - 2, by omega⟩
  simp only [spec_l1Cur_caves26.l0]
  rw [if_pos (by omega)]
  obtain ⟨b, p1, q, e, a1, a2⟩ := one_ok hc h0 (by omega) s (n := 2) (by decide)
  rw [e, obs]
  simp only
  rw [w64 (x := (i : Int) + 1) (by omega) (by omega), show (i : Int) + 1 = ((i + 1 : Nat) : Int) from rfl]
  by_cases c0 : b = true
  ·
   rw [if_pos c0, if_pos (by omega)]
   obtain ⟨m, x1, x2, x3, p2, q2, e2, hm, b1, b2⟩ := caveRow_ok hc (p := p1) (by omega) (by omega) q (n := rdOf ByteArray.empty names (i : Int)) (hn _ (rdB_mem names (by omega) (by omega))) k
   rw [e2, obs]
   simp only
   rw [if_pos (by omega)]
   obtain ⟨r3, p3, q3, e3, hr3, b3, b4⟩ := ih (l ++ [⟨m, x1, x2, x3⟩]) (i + 1) p2 q2 (k + 1) (by omega) (by rw [List.length_append, List.length_singleton]; omega) (Drawn.snoc hl hm) (by omega) (by omega) (by omega)
   exact ⟨r3, p3, q3, e3, hr3, by omega, by omega⟩
  ·
   rw [if_neg c0]
   obtain ⟨r3, p3, q3, e3, hr3, b3, b4⟩ := ih l (i + 1) p1 q (k + 1) (by omega) (by omega) hl (by omega) (by omega) (by omega)
   exact ⟨r3, p3, q3, e3, hr3, by omega, by omega⟩
theorem caves26_ok {c : List Int} (hc : ∀ x, x ∈ c → 0 ≤ x ∧ x ≤ 255) (s : Int) {k : Nat} (hk : 30 < k) :
  ∃ r p1 q, spec_l1Cur_caves26.f k c 0 s = some (r, p1, q) ∧ Drawn r ∧ 0 ≤ p1 ∧ p1 ≤ 200 := by
 unfold spec_l1Cur_caves26.f
 obtain ⟨r, p1, q, e, hr, a1, a2⟩ := caves26_l0 hc [(⟨#[97, 114, 99, 104]⟩ : ByteArray), (⟨#[98, 108, 117, 102, 102]⟩ : ByteArray), (⟨#[99, 108, 101, 102, 116]⟩ : ByteArray), (⟨#[100, 101, 110]⟩ : ByteArray), (⟨#[107, 97, 114, 115, 116]⟩ : ByteArray), (⟨#[109, 97, 122, 101]⟩ : ByteArray)]
  (by
   intro x hx
   simp only [List.mem_cons, List.not_mem_nil, or_false] at hx
   rcases hx with rfl | rfl | rfl | rfl | rfl | rfl <;> decide) (by decide) 6 [] 0 0 s k (by decide) (by decide) (fun x h => by cases h) (by decide) (by decide) (by omega)
 exact ⟨r, p1, q, e, hr, a1, by omega⟩
theorem name26_ok {c : List Int} (hc : ∀ x, x ∈ c → 0 ≤ x ∧ x ≤ 255) {p : Int} (h0 : 0 ≤ p) (h1 : p ≤ 700000000) (s : Int) :
  ∃ r p1 q, spec_l1Cur_name26.f c p s = some (r, p1, q) ∧ r.size ≤ 16 ∧ p ≤ p1 ∧ p1 ≤ p + 2 := by
 unfold spec_l1Cur_name26.f
 obtain ⟨r, p1, q, e, hm, a1, a2⟩ := of_ok hc h0 (by omega) s (l := [(⟨#[97, 114, 99, 104]⟩ : ByteArray), (⟨#[98, 108, 117, 102, 102]⟩ : ByteArray), (⟨#[99, 108, 101, 102, 116]⟩ : ByteArray), (⟨#[100, 101, 110]⟩ : ByteArray), (⟨#[107, 97, 114, 115, 116]⟩ : ByteArray), (⟨#[109, 97, 122, 101]⟩ : ByteArray), (⟨#[110, 111, 110, 101]⟩ : ByteArray)]) (by decide)
 rw [e, obs]
 refine ⟨_, p1, _, rfl, of3_size hm ?_, by omega, by omega⟩
 intro x hx
 simp only [List.mem_cons, List.not_mem_nil, or_false] at hx
 rcases hx with rfl | rfl | rfl | rfl | rfl | rfl | rfl <;> decide
theorem drawAre_ok {c : List Int} (hc : ∀ x, x ∈ c → 0 ≤ x ∧ x ≤ 255) {k : Nat} (hk : 30 < k) : ∃ r, spec_DrawAreCaves.f k c = some r ∧ Drawn r := by
 unfold spec_DrawAreCaves.f spec_newCur.f
 rw [obs]
 simp only
 obtain ⟨r, p1, q, e, hr, _⟩ := caves26_ok hc 0 hk
 rw [e, obs]
 exact ⟨r, rfl, hr⟩
theorem drawConnect_j0t {c : List Int} (hc : ∀ x, x ∈ c → 0 ≤ x ∧ x ≤ 255) {l : List S26} (hl : Drawn l) (h1 : 0 < l.length) {p : Int} (h0 : 0 ≤ p) (hp : p ≤ 10000) (s : Int) (k : Nat) :
  ∃ a b d, spec_DrawConnectCaves.j0 (k + 1) l true c p s = some (l, a, b, d) := by
 simp only [spec_DrawConnectCaves.j0, if_true]
 obtain ⟨r, p1, q, e, hr, a1, a2⟩ := pick_ok hc h0 (by omega) s (n := (l.length : Int)) (by omega)
 rw [e, obs, if_pos hr.1, if_pos hr.2]
 simp only
 obtain ⟨r2, p2, q2, e2, hr2, b1, b2⟩ := pick_ok hc (p := p1) (by omega) (by omega) q (n := (l.length : Int)) (by omega)
 rw [e2, obs, if_pos hr2.1, if_pos hr2.2]
 simp only
 obtain ⟨r3, p3, q3, e3, hr3, b3, b4⟩ := among_ok hc (p := p2) (by omega) (by omega) q2 (l := [1, 40, 500]) (by decide)
 rw [e3, obs]
 exact ⟨_, _, _, rfl⟩
theorem drawConnect_j0f {c : List Int} (hc : ∀ x, x ∈ c → 0 ≤ x ∧ x ≤ 255) (l : List S26) {p : Int} (h0 : 0 ≤ p) (hp : p ≤ 10000) (s : Int) (k : Nat) :
  ∃ a b d, spec_DrawConnectCaves.j0 (k + 1) l false c p s = some (l, a, b, d) := by
 simp only [spec_DrawConnectCaves.j0, Bool.false_eq_true, if_false]
 obtain ⟨r, p1, q, e, hr, a1, a2⟩ := name26_ok hc h0 (by omega) s
 rw [e, obs]
 simp only
 obtain ⟨r2, p2, q2, e2, hr2, b1, b2⟩ := name26_ok hc (p := p1) (by omega) (by omega) q
 rw [e2, obs]
 simp only
 obtain ⟨r3, p3, q3, e3, hr3, b3, b4⟩ := among_ok hc (p := p2) (by omega) (by omega) q2 (l := [1, 40, 500, 0, 501]) (by decide)
 rw [e3, obs]
 exact ⟨_, _, _, rfl⟩
theorem drawConnect_ok {c : List Int} (hc : ∀ x, x ∈ c → 0 ≤ x ∧ x ≤ 255) {k : Nat} (hk : 40 < k) : ∃ l a b d, spec_DrawConnectCaves.f k c = some (l, a, b, d) ∧ Drawn l := by
 obtain ⟨k, rfl⟩ : ∃ m, k = m + 1 := ⟨k - 1, by omega⟩
 unfold spec_DrawConnectCaves.f spec_newCur.f
 rw [obs]
 simp only
 obtain ⟨l, p1, q, e, hr, a1, a2⟩ := caves26_ok hc 0 (k := k + 1) (by omega)
 rw [e, obs]
 simp only
 by_cases c0 : (l.length : Int) > 1
 ·
  rw [if_pos c0]
  obtain ⟨b, p2, q2, e2, b1, b2⟩ := one_ok hc a1 (by omega) q (n := 4) (by decide)
  rw [e2, obs]
  simp only
  cases b
  ·
   obtain ⟨x, y, z, h⟩ := drawConnect_j0t hc hr (by omega) (p := p2) (by omega) (by omega) q2 k
   exact ⟨l, x, y, z, h, hr⟩
  ·
   obtain ⟨x, y, z, h⟩ := drawConnect_j0f hc l (p := p2) (by omega) (by omega) q2 k
   exact ⟨l, x, y, z, h, hr⟩
 ·
  rw [if_neg c0]
  obtain ⟨x, y, z, h⟩ := drawConnect_j0f hc l a1 (by omega) q k
  exact ⟨l, x, y, z, h, hr⟩
theorem drawAdd_j0 {c : List Int} (hc : ∀ x, x ∈ c → 0 ≤ x ∧ x ≤ 255) {l : List S26} (n : ByteArray) (b : Bool) (h1 : b = true → 0 < l.length) {p : Int} (h0 : 0 ≤ p) (hp : p ≤ 10000) (s : Int) (k : Nat) :
  ∃ m a2 a3 a4, spec_DrawAddSurvey.j0 (k + 1) l n b c p s = some (l, m, a2, a3, a4) := by
 cases b
 ·
  simp only [spec_DrawAddSurvey.j0, Bool.false_eq_true, if_false]
  obtain ⟨r1, p1, q1, e1, _, b1, b2⟩ := among_ok hc h0 (by omega) s (l := [1, 100, 900000, 0]) (by decide)
  rw [e1, obs]
  simp only
  obtain ⟨r2, p2, q2, e2, _, b3, b4⟩ := among_ok hc (p := p1) (by omega) (by omega) q1 (l := [1, 5, 9999, 0]) (by decide)
  rw [e2, obs]
  simp only
  obtain ⟨r3, p3, q3, e3, _, b5, b6⟩ := among_ok hc (p := p2) (by omega) (by omega) q2 (l := [0, 50, 20000, (-1), 20001]) (by decide)
  rw [e3, obs]
  exact ⟨_, _, _, _, rfl⟩
 ·
  have h1 := h1 rfl
  simp only [spec_DrawAddSurvey.j0, if_true]
  obtain ⟨r0, p0, q0, e0, hr0, b7, b8⟩ := pick_ok hc h0 (by omega) s (n := (l.length : Int)) (by omega)
  rw [e0, obs, if_pos hr0.1, if_pos hr0.2]
  simp only
  obtain ⟨r1, p1, q1, e1, _, b1, b2⟩ := among_ok hc (p := p0) (by omega) (by omega) q0 (l := [1, 100, 900000, 0]) (by decide)
  rw [e1, obs]
  simp only
  obtain ⟨r2, p2, q2, e2, _, b3, b4⟩ := among_ok hc (p := p1) (by omega) (by omega) q1 (l := [1, 5, 9999, 0]) (by decide)
  rw [e2, obs]
  simp only
  obtain ⟨r3, p3, q3, e3, _, b5, b6⟩ := among_ok hc (p := p2) (by omega) (by omega) q2 (l := [0, 50, 20000, (-1), 20001]) (by decide)
  rw [e3, obs]
  exact ⟨_, _, _, _, rfl⟩
theorem drawAdd_ok {c : List Int} (hc : ∀ x, x ∈ c → 0 ≤ x ∧ x ≤ 255) {k : Nat} (hk : 40 < k) : ∃ l n a2 a3 a4, spec_DrawAddSurvey.f k c = some (l, n, a2, a3, a4) ∧ Drawn l := by
 obtain ⟨k, rfl⟩ : ∃ m, k = m + 1 := ⟨k - 1, by omega⟩
 unfold spec_DrawAddSurvey.f spec_newCur.f
 rw [obs]
 simp only
 obtain ⟨l, p1, q, e, hr, a1, a2⟩ := caves26_ok hc 0 (k := k + 1) (by omega)
 rw [e, obs]
 simp only
 obtain ⟨n, p3, q3, e3, _, b3, b4⟩ := name26_ok hc a1 (by omega) q
 rw [e3, obs]
 simp only
 by_cases c0 : (l.length : Int) > 0
 ·
  rw [if_pos c0]
  obtain ⟨b, p2, q2, e2, b1, b2⟩ := one_ok hc (p := p3) (by omega) (by omega) q3 (n := 4) (by decide)
  rw [e2, obs]
  simp only
  obtain ⟨x, y, z, u, h⟩ := drawAdd_j0 hc (l := l) n (!b) (fun _ => by omega) (p := p2) (by omega) (by omega) q2 k
  exact ⟨l, x, y, z, u, h, hr⟩
 ·
  rw [if_neg c0]
  obtain ⟨x, y, z, u, h⟩ := drawAdd_j0 hc (l := l) n false (fun h => Bool.noConfusion h) (p := p3) (by omega) (by omega) q3 k
  exact ⟨l, x, y, z, u, h, hr⟩
theorem rCaves_l0 (l : List S26) (hl : l.length ≤ 1048576) (d : Nat) : ∀ (k i : Nat), i + d = l.length → d < k → laws_rCaves.l0 k l l i = some true := by
 induction d with
 | zero =>
  intro k i hd hk
  obtain ⟨k, rfl⟩ : ∃ m, k = m + 1 := ⟨k - 1, by omega⟩
  simp only [laws_rCaves.l0]
  rw [if_neg (by omega)]
 | succ d ih =>
  intro k i hd hk
  obtain ⟨k, rfl⟩ : ∃ m, k = m + 1 := ⟨k - 1, by omega⟩
  simp only [laws_rCaves.l0]
  rw [if_pos (by omega), if_pos (by omega), if_pos (by omega), if_neg (by simp), w64 (by omega) (by omega)]
  exact ih k (i + 1) (by omega) (by omega)
theorem rCaves_eq {l : List S26} (hl : l.length ≤ 1048576) {k : Nat} (hk : l.length < k) : laws_rCaves.f k l l = some true := by
 unfold laws_rCaves.f
 rw [if_pos rfl]
 exact rCaves_l0 l hl l.length k 0 (by omega) hk
theorem rTexts_l0 (l : List ByteArray) (hl : l.length ≤ 1048576) (d : Nat) : ∀ (k i : Nat), i + d = l.length → d < k → laws_rTexts.l0 k l l i = some true := by
 induction d with
 | zero =>
  intro k i hd hk
  obtain ⟨k, rfl⟩ : ∃ m, k = m + 1 := ⟨k - 1, by omega⟩
  simp only [laws_rTexts.l0]
  rw [if_neg (by omega)]
 | succ d ih =>
  intro k i hd hk
  obtain ⟨k, rfl⟩ : ∃ m, k = m + 1 := ⟨k - 1, by omega⟩
  simp only [laws_rTexts.l0]
  rw [if_pos (by omega), if_pos (by omega), if_pos (by omega), if_pos trivial, w64 (by omega) (by omega)]
  exact ih k (i + 1) (by omega) (by omega)
theorem rTexts_eq {l : List ByteArray} (hl : l.length ≤ 1048576) {k : Nat} (hk : l.length < k) : laws_rTexts.f k l l = some true := by
 unfold laws_rTexts.f
 rw [if_pos rfl]
 exact rTexts_l0 l hl l.length k 0 (by omega) hk
theorem rHas_l0 (l : List ByteArray) (hl : l.length ≤ 1048576) (n : ByteArray) (d : Nat) : ∀ (k i : Nat), i + d = l.length → d < k → (∃ j, i ≤ j ∧ j < l.length ∧ l.getD j ByteArray.empty = n) → laws_rHasText.l0 k l n i = some true := by
 induction d with
 | zero =>
  rintro k i hd hk ⟨j, h1, h2, _⟩
  omega
 | succ d ih =>
  rintro k i hd hk ⟨j, h1, h2, h3⟩
  obtain ⟨k, rfl⟩ : ∃ m, k = m + 1 := ⟨k - 1, by omega⟩
  simp only [laws_rHasText.l0]
  rw [if_pos (by omega), if_pos (by omega)]
  have e : rdOf ByteArray.empty l (i : Int) = l.getD i ByteArray.empty := by
   show l.getD ((i : Int)).toNat _ = _
   rw [Int.toNat_natCast]
  rw [e]
  by_cases c : (l.getD i ByteArray.empty).toList = n.toList
  ·
   rw [if_pos c]
  ·
   rw [if_neg c, w64 (by omega) (by omega)]
   refine ih k (i + 1) (by omega) (by omega) ⟨j, ?_, h2, h3⟩
   have : j ≠ i := fun h => c (by rw [← h, h3])
   omega
theorem rHas_eq {l : List ByteArray} (hl : l.length ≤ 1048576) {n : ByteArray} (h : n ∈ l) {k : Nat} (hk : l.length < k) : laws_rHasText.f k l n = some true := by
 unfold laws_rHasText.f
 obtain ⟨j, h1, h2⟩ := List.mem_iff_getElem.1 h
 refine rHas_l0 l hl n l.length k 0 (by omega) hk ⟨j, by omega, h1, ?_⟩
 rw [List.getD_eq_getElem?_getD, List.getElem?_eq_getElem h1]
 exact h2
theorem rowsF_all (l : List S26) : ∀ (d : Nat) (i : Int), 0 ≤ i → rowsF l d i = true → ∀ j, i ≤ j → j < i + d → rowB (rd_T26 l j) = true
 | 0, i, h0, h, j, h1, h2 => by omega
 | d + 1, i, h0, h, j, h1, h2 => by
  rw [rowsF_succ] at h
  by_cases c : rowB (rd_T26 l i) = true
  ·
   rw [if_pos c] at h
   have h' : rowsF l d (i + 1) = true := by
    split at h
    ·
     split at h
     ·
      exact h
     ·
      cases h
    ·
     exact h
   by_cases e : j = i
   ·
    rw [e]
    exact c
   ·
    exact rowsF_all l d (i + 1) (by omega) h' j (by omega) (by omega)
  ·
   rw [if_neg c] at h
   cases h
theorem caves_bound {l : List S26} (h : caves l = true) : l.length ≤ 10 ∧ ∀ x, x ∈ l → 0 ≤ x.f1 ∧ x.f1 ≤ 1000000 := by
 refine ⟨caves_le h, fun x hx => ?_⟩
 obtain ⟨j, h1, h2⟩ := List.mem_iff_getElem.1 hx
 have e : rd_T26 l (j : Int) = x := by
  show l.getD ((j : Int)).toNat _ = x
  rw [Int.toNat_natCast, List.getD_eq_getElem?_getD, List.getElem?_eq_getElem h1]
  exact h2
 have a := rowsF_all l l.length 0 (by omega) h (j : Int) (by omega) (by omega)
 rw [e] at a
 have b := row_facts a
 exact ⟨b.2.1, b.2.2.1⟩
def allF : List S26 → Int
 | [] => 0
 | x :: l => x.f1 + allF l
theorem allF_set : ∀ (l : List S26) (i : Nat) (y : S26), i < l.length → allF (l.set i y) = allF l - (l.getD i z26).f1 + y.f1
 | [], i, y, h => by
  have : i < 0 := h
  omega
 | x :: l, 0, y, h => by
  show y.f1 + allF l = (x.f1 + allF l) - x.f1 + y.f1
  omega
 | x :: l, i + 1, y, h => by
  have e := allF_set l i y (Nat.lt_of_succ_lt_succ h)
  show x.f1 + allF (l.set i y) = (x.f1 + allF l) - (l.getD i z26).f1 + y.f1
  omega
theorem allF_del : ∀ (l : List S26) (i : Nat), i < l.length → allF (l.take i ++ l.drop (i + 1)) = allF l - (l.getD i z26).f1
 | [], i, h => by
  have : i < 0 := h
  omega
 | x :: l, 0, h => by
  show allF l = (x.f1 + allF l) - x.f1
  omega
 | x :: l, i + 1, h => by
  have e := allF_del l i (Nat.lt_of_succ_lt_succ h)
  show x.f1 + allF (l.take i ++ l.drop (i + 1)) = (x.f1 + allF l) - (l.getD i z26).f1
  omega
theorem allF_le : ∀ (l : List S26), (∀ x, x ∈ l → 0 ≤ x.f1 ∧ x.f1 ≤ 1000000) → 0 ≤ allF l ∧ allF l ≤ 1000000 * l.length
 | [], _ => ⟨Int.le_refl _, Int.le_refl _⟩
 | x :: l, h => by
  have a := allF_le l (fun y hy => h y (List.mem_cons_of_mem _ hy))
  have b := h x (List.mem_cons_self ..)
  have c : (x :: l).length = l.length + 1 := rfl
  rw [c]
  show 0 ≤ x.f1 + allF l ∧ x.f1 + allF l ≤ _
  omega
theorem allF_drop (l : List S26) (i : Nat) (h : i < l.length) : allF (l.drop i) = (rd_T26 l (i : Int)).f1 + allF (l.drop (i + 1)) := by
 have e : rd_T26 l (i : Int) = l[i] := by
  show l.getD ((i : Int)).toNat _ = _
  rw [Int.toNat_natCast, List.getD_eq_getElem?_getD, List.getElem?_eq_getElem h]
  rfl
 rw [e, List.drop_eq_getElem_cons h]
 rfl
theorem conn_sum {m : List S26} (hm : ∀ x, x ∈ m → 0 ≤ x.f1 ∧ x.f1 ≤ 1000000) {P Q : Nat} (hPQ : P < Q) (hQ : Q < m.length) {leg : Int} (h1 : 1 ≤ leg) (h2 : leg ≤ 500) : allF (connL m P Q leg) = allF m + leg := by
 unfold connL
 have hP : P < m.length := by omega
 have hl : (m.take Q ++ m.drop (Q + 1)).length = m.length - 1 := by
  rw [List.length_append, List.length_take, List.length_drop]
  omega
 have g : (m.take Q ++ m.drop (Q + 1)).getD P z26 = m.getD P z26 := by
  rw [List.getD_eq_getElem?_getD, List.getD_eq_getElem?_getD, List.getElem?_append_left (by rw [List.length_take]; omega), List.getElem?_take_of_lt hPQ]
 have eP : rd_T26 m (P : Int) = m.getD P z26 := by
  show m.getD ((P : Int)).toNat _ = _
  rw [Int.toNat_natCast]
 have eQ : rd_T26 m (Q : Int) = m.getD Q z26 := by
  show m.getD ((Q : Int)).toNat _ = _
  rw [Int.toNat_natCast]
 have bP := hm _ (rdRow_mem m (i := (P : Int)) (by omega) (by omega))
 have bQ := hm _ (rdRow_mem m (i := (Q : Int)) (by omega) (by omega))
 have eo : (oneR m P Q leg).f1 = (rd_T26 m (P : Int)).f1 + (rd_T26 m (Q : Int)).f1 + leg := by
  show wrap64 (wrap64 ((rd_T26 m (P : Int)).f1 + (rd_T26 m (Q : Int)).f1) + leg) = _
  rw [w64 (x := (rd_T26 m (P : Int)).f1 + (rd_T26 m (Q : Int)).f1) (by omega) (by omega), w64 (by omega) (by omega)]
 rw [allF_set _ _ _ (by rw [hl]; omega), allF_del m Q hQ, g, eo, eP, eQ]
 generalize (m.getD P z26).f1 = u
 generalize (m.getD Q z26).f1 = v
 omega
end Go.Proofs.YteepnlofbfccgaaDoor.Pr.Pure

namespace Go.Proofs.YteepnlofbfccgaaDoor.Pr.Pure
open Go.RowKit Go.Proofs.YteepnlofbfccgaaDoorW.PrintWords Go.Proofs.YteepnlofbfccgaaDoorW.PrintLast Go.Proofs.YteepnlofbfccgaaDoorW.PrintMore Go.Proofs.YteepnlofbfccgaaDoorW.Opens
set_option linter.unusedVariables false
theorem law_l0 (c : List Int) {m : List S26} (hb : ∀ x, x ∈ m → 0 ≤ x.f1 ∧ x.f1 ≤ 1000000) (hl : m.length ≤ 10) (leg : Int) (r : List S26) (d : Nat) : ∀ (k K i : Nat) (a : Int), i + d = m.length → K = k + d + 1 → 0 ≤ a → a ≤ 1000000 * i →
  laws_FnCaveRanks.l0 K c m leg r a 0 i = laws_FnCaveRanks.l1 k c m leg r (a + allF (m.drop i)) 0 0 := by
 induction d with
 | zero =>
  intro k K i a hd hK h0 h1
  obtain rfl : K = k + 1 := by omega
  simp only [laws_FnCaveRanks.l0]
  rw [if_neg (by omega), List.drop_eq_nil_of_le (by omega)]
  show _ = laws_FnCaveRanks.l1 k c m leg r (a + 0) 0 0
  rw [Int.add_zero]
 | succ d ih =>
  intro k K i a hd hK h0 h1
  obtain ⟨K, rfl⟩ : ∃ K', K = K' + 1 := ⟨k + d + 1, by omega⟩
  have b := hb _ (rdRow_mem m (i := (i : Int)) (by omega) (by omega))
  simp only [laws_FnCaveRanks.l0]
  rw [if_pos (by omega), if_pos (by omega), w64 (x := a + (rd_T26 m (i : Int)).f1) (by omega) (by omega), w64 (x := (i : Int) + 1) (by omega) (by omega)]
  have e := ih k K (i + 1) (a + (rd_T26 m (i : Int)).f1) (by omega) (by omega) (by omega) (by omega)
  rw [allF_drop m i (by omega), ← Int.add_assoc]
  exact e
theorem law_l1 (c : List Int) (m : List S26) (leg X : Int) {r : List S26} (hb : ∀ x, x ∈ r → 0 ≤ x.f1 ∧ x.f1 ≤ 1000000) (hl : r.length ≤ 10) (hE : allF r = wrap64 (X + leg)) (hN : (r.length : Int) = wrap64 ((m.length : Int) - 1)) {k : Nat} (hA : impl_AreCaves.f k r = some true) (d : Nat) :
  ∀ (K i : Nat) (a : Int), i + d = r.length → K = k + d + 1 → 0 ≤ a → a ≤ 1000000 * i → a + allF (r.drop i) = allF r → laws_FnCaveRanks.l1 K c m leg r X a i = laws_FnCaveRanks.j3 k c := by
 induction d with
 | zero =>
  intro K i a hd hK h0 h1 h2
  obtain rfl : K = k + 1 := by omega
  rw [List.drop_eq_nil_of_le (by omega)] at h2
  have h3 : a = allF r := by
   have : a + 0 = allF r := h2
   omega
  simp only [laws_FnCaveRanks.l1]
  rw [if_neg (by omega), if_pos (h3.trans hE), if_pos hN, hA, obs, if_pos rfl]
 | succ d ih =>
  intro K i a hd hK h0 h1 h2
  obtain ⟨K, rfl⟩ : ∃ K', K = K' + 1 := ⟨k + d + 1, by omega⟩
  have b := hb _ (rdRow_mem r (i := (i : Int)) (by omega) (by omega))
  simp only [laws_FnCaveRanks.l1]
  rw [if_pos (by omega), if_pos (by omega), w64 (x := a + (rd_T26 r (i : Int)).f1) (by omega) (by omega), w64 (x := (i : Int) + 1) (by omega) (by omega)]
  refine ih K (i + 1) (a + (rd_T26 r (i : Int)).f1) (by omega) (by omega) (by omega) (by omega) ?_
  rw [allF_drop r i (by omega), ← Int.add_assoc] at h2
  exact h2
theorem drawn_sizes {l : List S26} (h : Drawn l) : (∀ x, x ∈ l → x.f0.size ≤ 1048576) ∧ l.length ≤ 64 := ⟨fun x hx => Nat.le_trans (h.2 x hx) (by decide), h.1⟩
theorem law_j7f {c : List Int} (hc : ∀ x, x ∈ c → 0 ≤ x ∧ x ≤ 255) (l : List S26) (d t : List ByteArray) (b : Bool) (i : Int) {k : Nat} (hk : 1049000 ≤ k) : laws_FnCaveRanks.j7 (k + 1) c l d t b i false = some true := by
 obtain ⟨m, n, a2, a3, a4, e, hd⟩ := drawAdd_ok hc (k := k) (by omega)
 obtain ⟨hm, hl⟩ := drawn_sizes hd
 obtain ⟨r, f, hr, hf, hb⟩ := add_both hm (by omega) n a2 a3 a4
 obtain ⟨e1, e2⟩ := hb k (by omega)
 simp only [laws_FnCaveRanks.j7, Bool.false_eq_true, if_false]
 rw [e, obs]
 simp only
 rw [e2, obs, e1, obs]
 simp only
 rw [if_pos (beq_self_eq_true f), rCaves_eq (by omega) (by omega), obs, if_pos rfl]
 cases f
 ·
  rfl
 ·
  obtain ⟨g1, g2⟩ := hf rfl
  rw [if_pos rfl, areC_eq g2 (by omega) (by omega), obs, g1]
theorem law_l2 {c : List Int} (hc : ∀ x, x ∈ c → 0 ≤ x ∧ x ≤ 255) {l : List S26} (hl : l.length ≤ 64) {d t : List ByteArray} (hd : d.length ≤ 64) (ht : t.length ≤ 64) (h1 : ∀ x, x ∈ l → x.f0 ∈ d) (h2 : ∀ x, x ∈ l → x.f0 ∈ t) {k : Nat} (hk : 1049000 ≤ k) (n : Nat) :
  ∀ (K i : Nat), i + n = l.length → K = k + 2 * n + 2 → laws_FnCaveRanks.l2 K c l d t true i = some true := by
 induction n with
 | zero =>
  intro K i hi hK
  obtain rfl : K = k + 1 + 1 := by omega
  simp only [laws_FnCaveRanks.l2]
  rw [if_neg (by omega)]
  exact law_j7f hc l d t true _ hk
 | succ n ih =>
  intro K i hi hK
  obtain ⟨K, rfl⟩ : ∃ K', K = K' + 1 + 1 := ⟨k + 2 * n + 2, by omega⟩
  have hx := rdRow_mem l (i := (i : Int)) (by omega) (by omega)
  simp only [laws_FnCaveRanks.l2]
  rw [if_pos (by omega)]
  simp only [laws_FnCaveRanks.j7, if_true]
  rw [if_pos (by omega), if_pos (by omega), rHas_eq (by omega) (h2 _ hx) (by omega), obs, if_pos rfl, rHas_eq (by omega) (h1 _ hx) (by omega), obs, if_pos rfl, w64 (x := (i : Int) + 1) (by omega) (by omega)]
  exact ih K (i + 1) (by omega) (by omega)
theorem law_l2f {c : List Int} (hc : ∀ x, x ∈ c → 0 ≤ x ∧ x ≤ 255) (l : List S26) (d t : List ByteArray) (i : Int) {k : Nat} (hk : 1049000 ≤ k) : laws_FnCaveRanks.l2 (k + 1 + 1) c l d t false i = some true := by
 simp only [laws_FnCaveRanks.l2]
 split <;> exact law_j7f hc l d t false _ hk
theorem law_j3 {c : List Int} (hc : ∀ x, x ∈ c → 0 ≤ x ∧ x ≤ 255) {K : Nat} (hK : 1050000 ≤ K) : laws_FnCaveRanks.j3 K c = some true := by
 obtain ⟨k, rfl⟩ : ∃ k, K = k + 1 + 1 + 1 := ⟨K - 3, by omega⟩
 obtain ⟨l, e, hd⟩ := drawAre_ok hc (k := k + 1 + 1) (by omega)
 have e0 : spec_DrawRankByDepth.f (k + 1 + 1) c = some l := by
  unfold spec_DrawRankByDepth.f
  rw [e, obs]
 obtain ⟨hm, hl⟩ := drawn_sizes hd
 obtain ⟨rD, bD, hrD, hfD, hbD, hkD⟩ := rankD_both hm (by omega)
 obtain ⟨rL, bL, hrL, hfL, hbL, hkL⟩ := rankL_both hm (by omega)
 obtain ⟨d1, d2⟩ := hkD (k + 1 + 1) (by omega)
 obtain ⟨l1, l2⟩ := hkL (k + 1) (by omega)
 have hlen : bD = true → ((rD.length : Int) != (l.length : Int)) = false := fun h => by
  rw [hfD h, List.length_map, ranked_len]
  exact bne_self_eq_false _
 have j5 : laws_FnCaveRanks.j5 (k + 1) c l rD rL bL false = some true := by
  obtain ⟨q, rfl⟩ : ∃ q, k = q + 2 * l.length + 2 := ⟨k - 2 * l.length - 2, by omega⟩
  simp only [laws_FnCaveRanks.j5, Bool.false_eq_true, if_false]
  cases bL with
  | false => exact law_l2f hc l rD rL 0 (k := q + 2 * l.length) (by omega)
  | true =>
   have t1 : bD = true := hbD.trans hbL.symm
   refine law_l2 hc hl (by omega) (by omega) (fun x hx => ?_) (fun x hx => ?_) (k := q) (by omega) l.length _ 0 (by omega) rfl
   ·
    rw [hfD t1]
    exact List.mem_map.2 ⟨x, ranked_mem.2 hx, rfl⟩
   ·
    rw [hfL rfl]
    exact List.mem_map.2 ⟨x, ranked_mem.2 hx, rfl⟩
 have j4 : laws_FnCaveRanks.j4 (k + 1 + 1) c l rD false = some true := by
  simp only [laws_FnCaveRanks.j4, Bool.false_eq_true, if_false]
  rw [l2, obs, l1, obs]
  simp only
  rw [if_neg (by simp), rTexts_eq (by omega) (by omega), obs]
  exact j5
 simp only [laws_FnCaveRanks.j3]
 rw [e0, obs, d2, obs, d1, obs]
 simp only
 rw [if_neg (by simp), rTexts_eq (by omega) (by omega), obs, if_pos rfl]
 cases bD with
 | false => exact j4
 | true =>
  rw [if_pos rfl, hlen rfl]
  exact j4
theorem FnCaveRanks : FnCaveRanks.Pure := by
 intro c hw
 have hc : ∀ x, x ∈ c → 0 ≤ x ∧ x ≤ 255 := fun x hx => by
  have h := hw.2.2 x hx
  simp [Lit.wf, IntKind.min, IntKind.max, IntKind.signed, IntKind.bits] at h
  omega
 refine ⟨1060000, ?_⟩
 unfold laws_FnCaveRanks.f laws_rBig.f
 rw [obs]
 by_cases big : decide ((c.length : Int) > 65536) = true
 ·
  rw [if_pos big]
 rw [if_neg big]
 obtain ⟨m, a, b, leg, e, hd⟩ := drawConnect_ok hc (k := 1060000) (by omega)
 obtain ⟨hm, hl⟩ := drawn_sizes hd
 obtain ⟨r, f, hr, hf, hk⟩ := conn_both hm (by omega) a b leg
 obtain ⟨e1, e2⟩ := hk 1060000 (by omega)
 rw [e, obs]
 simp only
 rw [e2, obs, e1, obs]
 simp only
 rw [if_neg (by simp), rCaves_eq (by omega) (by omega), obs]
 show laws_FnCaveRanks.j0 (1059999 + 1) c m leg r f false = some true
 simp only [laws_FnCaveRanks.j0, Bool.false_eq_true, if_false]
 cases f with
 | false =>
  rw [if_neg (by decide)]
  exact law_j3 hc (by decide)
 | true =>
  rw [if_pos rfl]
  obtain ⟨P, Q, hPQ, hQ, er, cm, cr, g1, g2⟩ := hf rfl
  obtain ⟨q1, q2⟩ := caves_bound cm
  obtain ⟨q3, q4⟩ := caves_bound cr
  have s1 := allF_le m q2
  have s2 : allF r = allF m + leg := by rw [er]; exact conn_sum q2 hPQ hQ g1 g2
  have s3 : r.length + 1 = m.length := by rw [er]; exact connL_len hQ leg
  have hs : ∀ x, x ∈ r → x.f0.size ≤ 1048576 := by rw [er]; exact connL_sizes hm (by omega) leg
  obtain ⟨K1, hK1⟩ : ∃ K1, 1059999 = K1 + m.length + 1 := ⟨1059999 - m.length - 1, by omega⟩
  obtain ⟨K2, hK2⟩ : ∃ K2, K1 = K2 + r.length + 1 := ⟨K1 - r.length - 1, by omega⟩
  have a1 := law_l0 c q2 q1 leg r m.length K1 1059999 0 0 (by omega) hK1 (by decide) (by decide)
  have a2 : laws_FnCaveRanks.l1 K1 c m leg r (0 + allF (m.drop 0)) 0 0 = laws_FnCaveRanks.j3 K2 c := by
   have z : (0 : Int) + allF (m.drop 0) = allF m := Int.zero_add _
   rw [z]
   exact law_l1 c m leg (allF m) q4 q3 (by rw [w64 (by omega) (by omega)]; exact s2) (by rw [w64 (by omega) (by omega)]; omega) (k := K2) (by rw [areC_eq hs (by omega) (by omega), cr]) r.length K1 0 0 (by omega) hK2 (by decide) (by decide) (Int.zero_add _)
  exact (a1.trans a2).trans (law_j3 hc (by omega))
end Go.Proofs.YteepnlofbfccgaaDoor.Pr.Pure

