/-
What is proved: parts of the law FnLabels: what the functions that it reaches compute, and the plain law.
Conditions: those of each theorem.
-/
import Derived.KernelRfl
import Derived.Test.YtjkcfpmonpkhhaaDoorCFnLabels3
namespace Go.Proofs.YtjkcfpmonpkhhaaDoor.Pr.Pure
open Go.RowKit Go.Proofs.YtjkcfpmonpkhhaaDoorW.PrintWords Go.Proofs.YtjkcfpmonpkhhaaDoorW.PrintLast Go.Proofs.YtjkcfpmonpkhhaaDoorW.PrintMore Go.Lib
set_option linter.unusedVariables false
abbrev BxT := Int × Int × Int × Int
def bxT (l : List S29) (i : Nat) (w : Int) : BxT := boxT (rd_T29 l (i : Int)) w
def bST (b : BxT) : S26 := ⟨b.1, b.2.1, b.2.2.1, b.2.2.2⟩
def mtT (b c : BxT) : Bool := meetB b.1 b.2.1 b.2.2.1 b.2.2.2 c.1 c.2.1 c.2.2.1 c.2.2.2
def fitT (l : List S29) (b : BxT) : Bool := fitB l b.1 b.2.1 b.2.2.1 b.2.2.2
def anyT_ (bs : List S26) (b : BxT) : Bool := bs.any fun x => meetB b.1 b.2.1 b.2.2.1 b.2.2.2 x.f0 x.f1 x.f2 x.f3
def okT (l : List S29) (i : Nat) (w : Int) (bs : List S26) : Bool := fitT l (bxT l i w) && !(anyT_ bs (bxT l i w))
def anyH (l : List S29) (ws : List Int) (b : BxT) : Nat → Nat → Bool
 | 0, _ => false
 | d + 1, j => (decide (0 ≤ rd ws (j : Int)) && mtT b (bxT l j (rd ws (j : Int)))) || anyH l ws b d (j + 1)
theorem anyH_last (l : List S29) (ws : List Int) (b : BxT) (d : Nat) : ∀ j : Nat, anyH l ws b (d + 1) j = (anyH l ws b d j || (decide (0 ≤ rd ws ((j + d : Nat) : Int)) && mtT b (bxT l (j + d) (rd ws ((j + d : Nat) : Int))))) := by
 induction d with
 | zero =>
  intro j
  show (_ || false) = (false || _)
  rw [Bool.or_false, Bool.false_or, Nat.add_zero]
 | succ d ih =>
  intro j
  show (_ || anyH l ws b (d + 1) (j + 1)) = ((_ || anyH l ws b d (j + 1)) || _)
  rw [ih (j + 1), Bool.or_assoc, show j + 1 + d = j + (d + 1) by omega]
theorem rd_left (ws : List Int) (w : Int) (j : Nat) (h : j < ws.length) : rd (ws ++ [w]) (j : Int) = rd ws (j : Int) := by
 show (ws ++ [w]).getD (j : Int).toNat 0 = ws.getD (j : Int).toNat 0
 rw [Int.toNat_natCast, List.getD_eq_getElem?_getD, List.getD_eq_getElem?_getD, List.getElem?_append_left h]
theorem rd_end (ws : List Int) (w : Int) : rd (ws ++ [w]) (ws.length : Int) = w := by
 show (ws ++ [w]).getD (ws.length : Int).toNat 0 = w
 rw [Int.toNat_natCast, List.getD_eq_getElem?_getD, List.getElem?_append_right (Nat.le_refl _), Nat.sub_self]
 rfl
theorem anyH_ext (l : List S29) (ws : List Int) (w : Int) (b : BxT) (d : Nat) : ∀ j : Nat, j + d ≤ ws.length → anyH l (ws ++ [w]) b d j = anyH l ws b d j := by
 induction d with
 | zero => intro j _; rfl
 | succ d ih =>
  intro j h
  show (_ || anyH l (ws ++ [w]) b d (j + 1)) = (_ || anyH l ws b d (j + 1))
  rw [ih (j + 1) (by omega), rd_left ws w j (by omega)]
theorem anyH_snoc (l : List S29) (ws : List Int) (w : Int) (b : BxT) : anyH l (ws ++ [w]) b (ws.length + 1) 0 = (anyH l ws b ws.length 0 || (decide (0 ≤ w) && mtT b (bxT l ws.length w))) := by
 rw [anyH_last, anyH_ext l ws w b ws.length 0 (by omega), Nat.zero_add, rd_end]
theorem mayT_l0 (l : List S29) (ws : List Int) (hl : l.length ≤ 1048576) (b : BxT) (n : Nat) (hn : n ≤ l.length) (hw : n ≤ ws.length) (d : Nat) : ∀ (k j : Nat), j + d = n → d < k →
  spec_l24May.l0 k l ws n j b.1 b.2.1 b.2.2.1 b.2.2.2 = some (!(anyH l ws b d j)) := by
 induction d with
 | zero =>
  intro k j hd hk
  obtain ⟨k, rfl⟩ : ∃ m, k = m + 1 := ⟨k - 1, by omega⟩
  simp only [spec_l24May.l0]
  rw [if_neg (by omega)]
  rfl
 | succ d ih =>
  intro k j hd hk
  obtain ⟨k, rfl⟩ : ∃ m, k = m + 1 := ⟨k - 1, by omega⟩
  have e := ih k (j + 1) (by omega) (by omega)
  simp only [spec_l24May.l0]
  rw [if_pos (by omega), if_pos (by omega), if_pos (by omega), w64 (by omega) (by omega)]
  show _ = some (!((decide (0 ≤ rd ws (j : Int)) && mtT b (bxT l j (rd ws (j : Int)))) || anyH l ws b d (j + 1)))
  by_cases h3 : rd ws (j : Int) ≥ 0
  ·
   rw [if_pos h3, if_pos (by omega), box_spec, obs, meet_eq', obs, decide_eq_true (show 0 ≤ rd ws (j : Int) from h3), Bool.true_and]
   show (if mtT b (bxT l j (rd ws j)) = true then _ else _) = _
   cases mtT b (bxT l j (rd ws j)) with
   | true => rfl
   | false =>
    rw [if_neg Bool.false_ne_true, Bool.false_or]
    exact e
  ·
   rw [if_neg h3, decide_eq_false (show ¬ 0 ≤ rd ws (j : Int) from h3), Bool.false_and, Bool.false_or]
   exact e
theorem mayT (l : List S29) (ws : List Int) (w : Int) (hl : l.length ≤ 1048576) (hi : ws.length < l.length) {k : Nat} (hk : l.length < k) {bs : List S26} (hI : ∀ b, anyH l ws b ws.length 0 = anyT_ bs b) :
  spec_l24May.f k l (ws ++ [w]) (ws.length : Int) = some (okT l ws.length w bs) := by
 unfold spec_l24May.f
 rw [if_pos (by omega), if_pos (by omega), if_pos (by rw [List.length_append, List.length_singleton]; omega), rd_end, box_spec, obs, free_spec l hl _ _ _ _ hk, obs]
 unfold okT
 show (if fitT l (bxT l ws.length w) = true then _ else _) = _
 cases fitT l (bxT l ws.length w) with
 | false => rfl
 | true =>
  rw [if_pos rfl, Bool.true_and]
  have := mayT_l0 l (ws ++ [w]) hl (bxT l ws.length w) ws.length (by omega) (by rw [List.length_append]; omega) ws.length k 0 (by omega) (by omega)
  rw [anyH_ext l ws w _ ws.length 0 (by omega), hI] at this
  exact this
def en (l : List S29) (sel : Nat → Bool) : Nat → List Int → List S26 → List (List Int)
 | 0, ws, _ => [ws]
 | m + 1, ws, bs => if sel ws.length = true then ([0, 1, 2, 3] : List Int).flatMap (fun w => if okT l ws.length w bs = true then en l sel m (ws ++ [w]) (bs ++ [bST (bxT l ws.length w)]) else []) else en l sel m (ws ++ [-1]) bs
theorem en_len (l : List S29) (sel : Nat → Bool) (m : Nat) : ∀ ws bs, (en l sel m ws bs).length ≤ 4 ^ m := by
 induction m with
 | zero => intro ws bs; exact Nat.le_refl _
 | succ m ih =>
  intro ws bs
  unfold en
  have hp : 4 ^ (m + 1) = 4 ^ m + 4 ^ m + 4 ^ m + 4 ^ m := by rw [Nat.pow_succ]; omega
  by_cases h : sel ws.length = true
  ·
   rw [if_pos h]
   have hw : ∀ w : Int, (if okT l ws.length w bs = true then en l sel m (ws ++ [w]) (bs ++ [bST (bxT l ws.length w)]) else []).length ≤ 4 ^ m := by
    intro w
    split
    ·
     exact ih _ _
    ·
     exact Nat.zero_le _
   have h0 := hw 0
   have h1 := hw 1
   have h2 := hw 2
   have h3 := hw 3
   simp only [List.flatMap_cons, List.flatMap_nil, List.length_append, List.length_nil]
   omega
  ·
   rw [if_neg h]
   have := ih (ws ++ [-1]) bs
   omega
def selO (set : Int) (i : Nat) : Bool := decide (¬ Go.bits .and .i64 (shr .i64 set (i : Int)) 1 = 0)
theorem u64n (n : Nat) (h : n ≤ 1048576) : IntKind.u64.wrap (n : Int) = (n : Int) := by
 have e : IntKind.u64.wrap (n : Int) = (n : Int) % 18446744073709551616 := rfl
 omega
theorem own_eq (ws : List Int) (h : ws.length ≤ 1048576) : spec_l1Own.f ws = some ws := by
 unfold spec_l1Own.f
 rw [obs, if_pos (by simp; omega)]
 rfl
theorem count_eq (l : List S29) (hl : l.length ≤ 6) (set : Int) (m : Nat) : ∀ (k : Nat) (ws : List Int) (bs : List S26), ws.length + m = l.length → (∀ b, anyH l ws b ws.length 0 = anyT_ bs b) → 8 * m + 30 < k →
  spec_l24Count.f k l set ws = some ((en l (selO set) m ws bs).headD [], ((en l (selO set) m ws bs).length : Int)) := by
 induction m with
 | zero =>
  intro k ws bs hm hI hk
  obtain ⟨k, rfl⟩ : ∃ n, k = n + 1 := ⟨k - 1, by omega⟩
  simp only [spec_l24Count.f]
  rw [if_pos (by omega)]
  rfl
 | succ m ih =>
  intro k ws bs hm hI hk
  obtain ⟨k, rfl⟩ : ∃ n, k = n + 1 := ⟨k - 1, by omega⟩
  simp only [spec_l24Count.f]
  rw [if_neg (by omega), u64n ws.length (by omega), if_pos (by omega)]
  unfold en
  by_cases hs : Go.bits .and .i64 (shr .i64 set (ws.length : Int)) 1 = 0
  ·
   rw [if_pos hs, own_eq ws (by omega), obs, if_pos (by omega), show selO set ws.length = false from decide_eq_false (fun h => h hs), if_neg (by decide)]
   have e := ih k (ws ++ [-1]) bs (by rw [List.length_append, List.length_singleton]; omega) (fun b => by
    rw [List.length_append, List.length_singleton, anyH_snoc, decide_eq_false (by decide), Bool.false_and, Bool.or_false]
    exact hI b) (by omega)
   rw [e, obs]
  ·
   rw [if_neg hs, show selO set ws.length = true from decide_eq_true hs, if_pos rfl]
   -- the four ways
   have key : ∀ (d K : Nat) (A : List (List Int)) (w : Int), 0 ≤ w → w + d = 4 → 8 * m + 31 + d < K → A.length + d * 4 ^ m ≤ 100000 →
     spec_l24Count.l0 K l set ws (ws.length : Int) (A.headD []) (A.length : Int) w = some ((A ++ (([0, 1, 2, 3] : List Int).drop w.toNat).flatMap (fun w => if okT l ws.length w bs = true then en l (selO set) m (ws ++ [w]) (bs ++ [bST (bxT l ws.length w)]) else [])).headD [], ((A ++ (([0, 1, 2, 3] : List Int).drop w.toNat).flatMap (fun w => if okT l ws.length w bs = true then en l (selO set) m (ws ++ [w]) (bs ++ [bST (bxT l ws.length w)]) else [])).length : Int)) := by
    intro d
    induction d with
    | zero =>
     intro K A w h0 hd hK hA
     obtain ⟨K, rfl⟩ : ∃ n, K = n + 1 := ⟨K - 1, by omega⟩
     simp only [spec_l24Count.l0]
     rw [if_neg (by omega)]
     obtain rfl : w = 4 := by omega
     simp
    | succ d ihd =>
     intro K A w h0 hd hK hA
     obtain ⟨K, rfl⟩ : ∃ n, K = n + 1 := ⟨K - 1, by omega⟩
     have hmul : (d + 1) * 4 ^ m = d * 4 ^ m + 4 ^ m := Nat.succ_mul ..
     have hA2 : A.length + d * 4 ^ m ≤ 100000 := Nat.le_trans (Nat.add_le_add_left (by rw [hmul]; exact Nat.le_add_right _ _) _) hA
     have ed : ([0, 1, 2, 3] : List Int).drop w.toNat = w :: ([0, 1, 2, 3] : List Int).drop (w + 1).toNat := by
      have h4 : w = 0 ∨ w = 1 ∨ w = 2 ∨ w = 3 := by omega
      rcases h4 with rfl | rfl | rfl | rfl <;> rfl
     simp only [spec_l24Count.l0]
     rw [if_pos (by omega), own_eq ws (by omega), obs, if_pos (by omega), obs, mayT l ws w (by omega) (by omega) (by omega) hI, obs, w64 (x := w + 1) (by omega) (by omega), ed, List.flatMap_cons]
     by_cases ho : okT l ws.length w bs = true
     ·
      rw [ho, if_pos rfl, if_pos rfl]
      have e := ih K (ws ++ [w]) (bs ++ [bST (bxT l ws.length w)]) (by rw [List.length_append, List.length_singleton]; omega) (fun b => by
       rw [List.length_append, List.length_singleton, anyH_snoc, decide_eq_true h0, Bool.true_and, hI b]
       show _ = (bs ++ [_]).any _
       rw [List.any_append]
       congr 1
       show _ = (_ || false)
       rw [Bool.or_false]
       rfl) (by omega)
      have hlen := en_len l (selO set) m (ws ++ [w]) (bs ++ [bST (bxT l ws.length w)])
      generalize en l (selO set) m (ws ++ [w]) (bs ++ [bST (bxT l ws.length w)]) = E at e hlen
      rw [e, obs]
      simp only
      rw [w64 (by omega) (by omega)]
      have hd2 := ihd K (A ++ E) (w + 1) (by omega) (by omega) (by omega) (by rw [List.length_append]; omega)
      rw [List.length_append] at hd2
      rw [← List.append_assoc]
      cases A with
      | nil =>
       rw [if_pos (show (([] : List (List Int)).length : Int) = 0 from rfl)]
       cases E with
       | nil =>
        rw [if_neg (by decide)]
        exact hd2
       | cons p t =>
        rw [if_pos (by rw [List.length_cons]; omega)]
        have e2 : ((([] : List (List Int)).length : Int) + ((p :: t).length : Int)) = ((([] : List (List Int)).length + (p :: t).length : Nat) : Int) := by omega
        rw [e2]
        exact hd2
      | cons p t =>
       rw [if_neg (by rw [List.length_cons]; omega)]
       have e2 : (((p :: t).length : Int) + (E.length : Int)) = (((p :: t).length + E.length : Nat) : Int) := by omega
       rw [e2]
       exact hd2
     ·
      rw [Bool.eq_false_iff.mpr ho, if_neg (by decide), if_neg (by decide), List.nil_append]
      exact ihd K A (w + 1) (by omega) (by omega) (by omega) hA2
   have hpow : 4 ^ m ≤ 4 ^ 6 := Nat.pow_le_pow_right (by decide) (by omega)
   have h6 : (4 : Nat) ^ 6 = 4096 := by decide
   have := key 4 k [] 0 (by omega) (by omega) (by omega) (by rw [List.length_nil]; omega)
   simpa using this
def filt (ws : List Int) : List Int := ws.filter fun x => decide (0 ≤ x)
def sels (sel : Nat → Bool) : Nat → Nat → List Int
 | _, 0 => []
 | i, m + 1 => if sel i = true then (i : Int) :: sels sel (i + 1) m else sels sel (i + 1) m
theorem filt_neg (ws : List Int) : filt (ws ++ [-1]) = filt ws := by
 unfold filt
 rw [List.filter_append]
 simp
theorem filt_pos (ws : List Int) (w : Int) (h : 0 ≤ w) : filt (ws ++ [w]) = filt ws ++ [w] := by
 unfold filt
 rw [List.filter_append]
 simp [h]
theorem hitB_eq (bs : List S26) (b : BxT) : hitB_ bs b.1 b.2.1 b.2.2.1 b.2.2.2 = some (anyT_ bs b) := by
 unfold hitB_
 rw [if_pos (List.all_eq_true.2 fun x _ => by rw [meet_eq]; rfl)]
 rfl
theorem catM_eq (f : Int → Option (List (List Int))) (g : Int → List (List Int)) : ∀ xs, (∀ x ∈ xs, f x = some (g x)) → catM_ f xs = some (xs.flatMap g)
 | [], _ => rfl
 | x :: xs, h => by
  unfold catM_
  rw [h x List.mem_cons_self, obs, catM_eq f g xs (fun y hy => h y (List.mem_cons_of_mem _ hy)), obs, List.flatMap_cons]
theorem plc_eq (l : List S29) (hl : l.length ≤ 1048576) (sel : Nat → Bool) (idx : List Int) (m : Nat) : ∀ (ws pre : List Int) (bs : List S26), ws.length + m = l.length → idx = pre ++ sels sel ws.length m → pre.length = (filt ws).length →
  plc_ l idx (sels sel ws.length m).length (filt ws) bs = some ((en l sel m ws bs).map filt) := by
 induction m with
 | zero =>
  intro ws pre bs hm hi hp
  rfl
 | succ m ih =>
  intro ws pre bs hm hi hp
  unfold sels en
  unfold sels at hi
  by_cases hs : sel ws.length = true
  ·
   rw [if_pos hs] at hi ⊢
   rw [if_pos hs, List.length_cons]
   have hr : rd idx ((filt ws).length : Int) = (ws.length : Int) := by
    rw [hi, ← hp]
    show (pre ++ _ :: _).getD (pre.length : Int).toNat 0 = _
    rw [Int.toNat_natCast, List.getD_eq_getElem?_getD, List.getElem?_append_right (Nat.le_refl _), Nat.sub_self]
    rfl
   simp only [plc_]
   rw [hr, if_pos (by omega), List.map_flatMap]
   refine catM_eq _ _ _ (fun w hw => ?_)
   have hw0 : 0 ≤ w := by
    simp only [List.mem_cons, List.not_mem_nil, or_false] at hw
    omega
   rw [box_impl, obs]
   show ((impl_free.f l (bxT l ws.length w).1 (bxT l ws.length w).2.1 (bxT l ws.length w).2.2.1 (bxT l ws.length w).2.2.2).bind _) = _
   rw [free_impl, obs]
   show (if fitT l (bxT l ws.length w) = true then ((hitB_ bs (bxT l ws.length w).1 (bxT l ws.length w).2.1 (bxT l ws.length w).2.2.1 (bxT l ws.length w).2.2.2).bind _) else _) = _
   unfold okT
   cases fitT l (bxT l ws.length w) with
   | false => rfl
   | true =>
    rw [if_pos rfl, hitB_eq, obs, Bool.true_and]
    cases anyT_ bs (bxT l ws.length w) with
    | true => rfl
    | false =>
     rw [if_neg (by decide), Bool.not_false, if_pos rfl]
     have e := ih (ws ++ [w]) (pre ++ [(ws.length : Int)]) (bs ++ [bST (bxT l ws.length w)]) (by rw [List.length_append, List.length_singleton]; omega) (by rw [hi, List.length_append, List.length_singleton, List.append_assoc]; rfl) (by rw [List.length_append, List.length_singleton, filt_pos ws w hw0, List.length_append, List.length_singleton, hp])
     rw [List.length_append, List.length_singleton, filt_pos ws w hw0] at e
     exact e
  ·
   rw [if_neg hs] at hi ⊢
   rw [if_neg hs]
   have e := ih (ws ++ [-1]) pre bs (by rw [List.length_append, List.length_singleton]; omega) (by rw [hi, List.length_append, List.length_singleton]) (by rw [filt_neg, hp])
   rw [List.length_append, List.length_singleton, filt_neg] at e
   exact e
theorem en_all (l : List S29) (sel : Nat → Bool) (m : Nat) : ∀ (ws : List Int) (bs : List S26), (∀ i, i < ws.length + m → sel i = true) → (∀ x ∈ ws, 0 ≤ x) → ∀ p ∈ en l sel m ws bs, filt p = p := by
 induction m with
 | zero =>
  intro ws bs _ hw p hp
  obtain rfl := List.mem_singleton.1 hp
  exact List.filter_eq_self.2 (fun x hx => decide_eq_true (hw x hx))
 | succ m ih =>
  intro ws bs hs hw p hp
  unfold en at hp
  rw [if_pos (hs ws.length (by omega))] at hp
  obtain ⟨w, hwm, hp⟩ := List.mem_flatMap.1 hp
  have hw0 : 0 ≤ w := by
   simp only [List.mem_cons, List.not_mem_nil, or_false] at hwm
   omega
  split at hp
  ·
   exact ih _ _ (fun i hi => hs i (by rw [List.length_append, List.length_singleton] at hi; omega)) (fun x hx => by
    rcases List.mem_append.1 hx with hx | hx
    ·
     exact hw x hx
    ·
     rw [List.mem_singleton.1 hx]; exact hw0) p hp
  ·
   cases hp
def fullS (n : Nat) : Int := wrap64 ((shl .i64 1 (IntKind.u64.wrap (n : Int))) - 1)
theorem full_all : ((List.range 7).all fun n => (List.range n).all fun i => selO (fullS n) i) = true := by kernel_rfl
theorem full_sel {n i : Nat} (hn : n ≤ 6) (hi : i < n) : selO (fullS n) i = true :=
 List.all_eq_true.1 (List.all_eq_true.1 full_all n (List.mem_range.2 (by omega))) i (List.mem_range.2 hi)
theorem sels_full (sel : Nat → Bool) (m : Nat) : ∀ i, (∀ j, i ≤ j → j < i + m → sel j = true) → sels sel i m = (List.range' i m).map (fun (j : Nat) => (j : Int)) := by
 induction m with
 | zero => intro i _; rfl
 | succ m ih =>
  intro i h
  unfold sels
  rw [if_pos (h i (Nat.le_refl _) (by omega)), ih (i + 1) (fun j h1 h2 => h j (by omega) (by omega)), List.range'_succ]
  rfl
theorem all_l0 (n : Nat) (hn : n ≤ 1048576) (d : Nat) : ∀ (k i : Nat) (acc : List Int), i + d = n → acc.length = i → d < k → impl_allIndices.l0 k acc (n : Int) (i : Int) = some (acc ++ (List.range' i d).map (fun (j : Nat) => (j : Int))) := by
 induction d with
 | zero =>
  intro k i acc hd ha hk
  obtain ⟨k, rfl⟩ : ∃ m, k = m + 1 := ⟨k - 1, by omega⟩
  simp only [impl_allIndices.l0]
  rw [if_neg (by omega)]
  simp
 | succ d ih =>
  intro k i acc hd ha hk
  obtain ⟨k, rfl⟩ : ∃ m, k = m + 1 := ⟨k - 1, by omega⟩
  simp only [impl_allIndices.l0]
  rw [if_pos (by omega), if_pos (by omega), w64 (by omega) (by omega)]
  have e := ih k (i + 1) (acc ++ [(i : Int)]) (by omega) (by rw [List.length_append, List.length_singleton, ha]) (by omega)
  rw [List.range'_succ, List.map_cons]
  rw [List.append_assoc] at e
  exact e
def plcs (l : List S29) : List (List Int) := en l (selO (fullS l.length)) l.length [] []
theorem count_full {l : List S29} (hl : l.length ≤ 6) {k : Nat} (hk : 100 < k) : spec_l24Count.f k l (wrap64 ((shl .i64 1 (IntKind.u64.wrap ((l.length : Int)))) - 1)) ([] : List Int) = some ((plcs l).headD [], ((plcs l).length : Int)) :=
 count_eq l hl (fullS l.length) l.length k [] [] (by simp) (fun b => rfl) (by omega)
theorem plc_full {l : List S29} (hl : l.length ≤ 6) {k : Nat} (hk : 100 < k) : ∃ idx, impl_allIndices.f k (l.length : Int) = some idx ∧ idx.length = l.length ∧ plc_ l idx idx.length [] [] = some (plcs l) := by
 have e1 := all_l0 l.length (by omega) l.length k 0 [] (by omega) rfl (by omega)
 have hs : ∀ j, 0 ≤ j → j < 0 + l.length → selO (fullS l.length) j = true := fun j _ h => full_sel hl (by omega)
 have e2 := sels_full (selO (fullS l.length)) l.length 0 hs
 refine ⟨sels (selO (fullS l.length)) 0 l.length, ?_, by rw [e2, List.length_map, List.length_range'], ?_⟩
 ·
  unfold impl_allIndices.f
  rw [e2]
  simpa using e1
 ·
  have e3 := plc_eq l (by omega) (selO (fullS l.length)) (sels (selO (fullS l.length)) 0 l.length) l.length [] [] [] (by simp) (by simp) rfl
  have e4 : (en l (selO (fullS l.length)) l.length [] []).map filt = plcs l := by
   unfold plcs
   conv => rhs; rw [← List.map_id (en l (selO (fullS l.length)) l.length [] [])]
   exact List.map_congr_left (fun p hp => en_all l _ l.length [] [] (fun i hi => hs i (Nat.zero_le _) (by simpa using hi)) (fun x hx => by cases hx) p hp)
  rw [e4] at e3
  exact e3
theorem plcs_len (l : List S29) (hl : l.length ≤ 6) : (plcs l).length ≤ 4096 := by
 have h1 := en_len l (selO (fullS l.length)) l.length [] []
 have hpow : 4 ^ l.length ≤ 4 ^ 6 := Nat.pow_le_pow_right (by decide) hl
 have h6 : (4 : Nat) ^ 6 = 4096 := by decide
 unfold plcs
 omega
theorem labs_len {m : List S29} (c : labs m = true) : m.length ≤ 6 := by
 unfold labs at c
 rw [Bool.and_eq_true] at c
 exact of_decide_eq_true c.2
theorem en_size (l : List S29) (sel : Nat → Bool) (m : Nat) : ∀ (ws : List Int) (bs : List S26), ∀ p ∈ en l sel m ws bs, p.length = ws.length + m := by
 induction m with
 | zero =>
  intro ws bs p hp
  rw [List.mem_singleton.1 hp]
  rfl
 | succ m ih =>
  intro ws bs p hp
  unfold en at hp
  split at hp
  ·
   obtain ⟨w, hwm, hp⟩ := List.mem_flatMap.1 hp
   split at hp
   ·
    have := ih _ _ p hp
    rw [List.length_append, List.length_singleton] at this
    omega
   ·
    cases hp
  ·
   have := ih _ _ p hp
   rw [List.length_append, List.length_singleton] at this
   omega
theorem head_len (m : List S29) : ((plcs m).headD []).length ≤ m.length := by
 cases h : plcs m with
 | nil => exact Nat.zero_le _
 | cons p t =>
  have := en_size m (selO (fullS m.length)) m.length [] [] p (by unfold plcs at h; rw [h]; exact List.mem_cons_self)
  show p.length ≤ _
  simp at this
  omega
theorem first_both {m : List S29} (hm : ∀ x, x ∈ m → x.f0.size ≤ 1048576) (hl : m.length ≤ 1048576) : ∃ r b, r.length ≤ 6 ∧ (∀ k, 1048790 + m.length ≤ k → spec_FirstPlacing.f k m = some (r, b) ∧ impl_FirstPlacing.f k m = some (r, b)) ∧ (labs m = true → r = (plcs m).headD [] ∧ b = decide (0 < (plcs m).length)) ∧ (labs m = false → b = false) := by
 by_cases c : labs m = true
 ·
  have h6 := labs_len c
  refine ⟨(plcs m).headD [], decide (0 < (plcs m).length), Nat.le_trans (head_len m) h6, fun k hk => ?_, fun _ => ⟨rfl, rfl⟩, fun h => by rw [c] at h; cases h⟩
  obtain ⟨idx, i1, i2, i3⟩ := plc_full h6 (k := k) (by omega)
  have hp := plcs_len m h6
  unfold spec_FirstPlacing.f impl_FirstPlacing.f impl_firstPlacing.f
  have hu : 0 ≤ IntKind.u64.wrap (m.length : Int) := by rw [u64n m.length (by omega)]; omega
  rw [good_eq hm hl (by omega), are_eq hm, obs, obs, if_pos c, if_pos c, if_pos hu, count_full h6 (by omega), obs, i1, obs, if_pos (show idx.length < 1000000 by omega), i3, obs, obs]
  refine ⟨?_, ?_⟩
  ·
   congr 2
   rw [decide_eq_decide]
   omega
  ·
   congr 2
   cases plcs m <;> simp
 ·
  refine ⟨[], false, by decide, fun k hk => ?_, fun h => absurd h c, fun _ => rfl⟩
  unfold spec_FirstPlacing.f impl_FirstPlacing.f
  rw [good_eq hm hl (by omega), are_eq hm, obs, obs, if_neg c, if_neg c]
  exact ⟨rfl, rfl⟩
end Go.Proofs.YtjkcfpmonpkhhaaDoor.Pr.Pure

namespace Go.Proofs.YtjkcfpmonpkhhaaDoor.Pr.Pure
open Go.RowKit Go.Proofs.YtjkcfpmonpkhhaaDoorW.PrintWords Go.Proofs.YtjkcfpmonpkhhaaDoorW.PrintLast Go.Proofs.YtjkcfpmonpkhhaaDoorW.PrintMore Go.Lib
set_option linter.unusedVariables false
set_option linter.unusedSimpArgs false
def wayB (w : Int) : Bool := decide (0 ≤ w ∧ w ≤ 3)
theorem way_spec (w : Int) : spec_l24Way.f w = some (wayB w) := by
 unfold spec_l24Way.f wayB
 rw [l1In_eq]
 first | rfl | rw [obs]
theorem way_impl (w : Int) : impl_isPlace.f w = some (wayB w) := by
 unfold impl_isPlace.f wayB
 rw [within_eq]
 first | rfl | rw [obs]
abbrev Bx := Int × Int × Int × Int
def bx (l : List S29) (ws : List Int) (i : Int) : Bx := boxT (rd_T29 l i) (rd ws i)
def bS (b : Bx) : S26 := ⟨b.1, b.2.1, b.2.2.1, b.2.2.2⟩
def mt (b c : Bx) : Bool := meetB b.1 b.2.1 b.2.2.1 b.2.2.2 c.1 c.2.1 c.2.2.1 c.2.2.2
def fitX (l : List S29) (b : Bx) : Bool := fitB l b.1 b.2.1 b.2.2.1 b.2.2.2
def anyM (l : List S29) (ws : List Int) (b : Bx) : Nat → Nat → Bool
 | 0, _ => false
 | d + 1, j => mt b (bx l ws j) || anyM l ws b d (j + 1)
theorem anyM_succ (l : List S29) (ws : List Int) (b : Bx) (d j : Nat) : anyM l ws b (d + 1) j = (mt b (bx l ws j) || anyM l ws b d (j + 1)) := rfl
theorem anyM_snoc (l : List S29) (ws : List Int) (b : Bx) (d : Nat) : ∀ j : Nat, anyM l ws b (d + 1) j = (anyM l ws b d j || mt b (bx l ws ((j + d : Nat) : Int))) := by
 induction d with
 | zero =>
  intro j
  rw [anyM_succ]
  simp [anyM]
 | succ d ih =>
  intro j
  rw [anyM_succ, ih (j + 1), anyM_succ, Bool.or_assoc, show j + 1 + d = j + (d + 1) by omega]
def bxs (l : List S29) (ws : List Int) (i : Nat) : List S26 := (List.range i).map fun j => bS (bx l ws (j : Nat))
theorem bxs_len (l : List S29) (ws : List Int) (i : Nat) : (bxs l ws i).length = i := by
 unfold bxs
 rw [List.length_map, List.length_range]
theorem bxs_succ (l : List S29) (ws : List Int) (i : Nat) : bxs l ws (i + 1) = bxs l ws i ++ [bS (bx l ws (i : Nat))] := by
 unfold bxs
 rw [List.range_succ, List.map_append]
 rfl
theorem bxs_any (l : List S29) (ws : List Int) (b : Bx) (i : Nat) : ((bxs l ws i).any fun x => meetB b.1 b.2.1 b.2.2.1 b.2.2.2 x.f0 x.f1 x.f2 x.f3) = anyM l ws b i 0 := by
 induction i with
 | zero => rfl
 | succ i ih =>
  rw [bxs_succ, List.any_append, ih, anyM_snoc, Nat.zero_add]
  congr 1
  show (meetB _ _ _ _ _ _ _ _ || false) = _
  rw [Bool.or_false]
  rfl
theorem clash_impl (B : List S26) (b : Bx) : impl_IsPlacing_2.f B b.1 b.2.1 b.2.2.1 b.2.2.2 = some (B.any fun x => meetB b.1 b.2.1 b.2.2.1 b.2.2.2 x.f0 x.f1 x.f2 x.f3) := by
 unfold impl_IsPlacing_2.f
 rw [if_pos (List.all_eq_true.2 fun x _ => by rw [meet_eq]; rfl)]
 rfl
theorem may_l0 (l : List S29) (ws : List Int) (hl : l.length ≤ 1048576) (hw : ws.length = l.length) (hws : ∀ j : Int, 0 ≤ j → j < ws.length → wayB (rd ws j) = true) (b : Bx) (n : Nat) (hn : n ≤ l.length) (d : Nat) : ∀ (k j : Nat), j + d = n → d < k →
  spec_l24May.l0 k l ws n j b.1 b.2.1 b.2.2.1 b.2.2.2 = some (!(anyM l ws b d j)) := by
 induction d with
 | zero =>
  intro k j hd hk
  obtain ⟨k, rfl⟩ : ∃ m, k = m + 1 := ⟨k - 1, by omega⟩
  simp only [spec_l24May.l0]
  rw [if_neg (by omega)]
  rfl
 | succ d ih =>
  intro k j hd hk
  obtain ⟨k, rfl⟩ : ∃ m, k = m + 1 := ⟨k - 1, by omega⟩
  simp only [spec_l24May.l0]
  have h3 := of_decide_eq_true (hws j (by omega) (by omega))
  rw [if_pos (by omega), if_pos (by omega), if_pos (by omega), if_pos h3.1, if_pos (by omega), box_spec, obs, meet_eq', obs, anyM_succ, w64 (by omega) (by omega)]
  show (if mt b (bx l ws j) = true then _ else _) = _
  cases mt b (bx l ws j) with
  | true => rfl
  | false =>
   rw [if_neg Bool.false_ne_true, Bool.false_or]
   exact ih k (j + 1) (by omega) (by omega)
theorem may_eq (l : List S29) (ws : List Int) (hl : l.length ≤ 1048576) (hw : ws.length = l.length) (hws : ∀ j : Int, 0 ≤ j → j < ws.length → wayB (rd ws j) = true) (i : Nat) (hi : i < l.length) {k : Nat} (hk : l.length < k) :
  spec_l24May.f k l ws i = some (fitX l (bx l ws i) && !(anyM l ws (bx l ws i) i 0)) := by
 unfold spec_l24May.f
 rw [if_pos (by omega), if_pos (by omega), if_pos (by omega), box_spec, obs, free_spec l hl _ _ _ _ hk, obs]
 show (if fitX l (bx l ws i) = true then _ else _) = _
 cases fitX l (bx l ws i) with
 | false => rfl
 | true =>
  rw [if_pos rfl, Bool.true_and]
  exact may_l0 l ws hl hw hws (bx l ws i) i (by omega) i k 0 (by omega) (by omega)
def plF (l : List S29) (ws : List Int) : Nat → Nat → Bool
 | 0, _ => true
 | d + 1, i => (fitX l (bx l ws i) && !(anyM l ws (bx l ws i) i 0)) && plF l ws d (i + 1)
theorem plF_succ (l : List S29) (ws : List Int) (d i : Nat) : plF l ws (d + 1) i = ((fitX l (bx l ws i) && !(anyM l ws (bx l ws i) i 0)) && plF l ws d (i + 1)) := rfl
theorem pl_spec (l : List S29) (ws : List Int) (hl : l.length ≤ 1048576) (hw : ws.length = l.length) (hws : ∀ j : Int, 0 ≤ j → j < ws.length → wayB (rd ws j) = true) (d : Nat) : ∀ (k i : Nat), i + d = l.length → l.length + d < k →
  spec_IsPlacing.l1 k l ws i = some (plF l ws d i, true) := by
 induction d with
 | zero =>
  intro k i hd hk
  obtain ⟨k, rfl⟩ : ∃ m, k = m + 1 := ⟨k - 1, by omega⟩
  simp only [spec_IsPlacing.l1]
  rw [if_neg (by omega)]
  rfl
 | succ d ih =>
  intro k i hd hk
  obtain ⟨k, rfl⟩ : ∃ m, k = m + 1 := ⟨k - 1, by omega⟩
  simp only [spec_IsPlacing.l1]
  rw [if_pos (by omega), may_eq l ws hl hw hws i (by omega) (by omega), obs, plF_succ, w64 (by omega) (by omega)]
  cases (fitX l (bx l ws i) && !(anyM l ws (bx l ws i) i 0)) with
  | false => rfl
  | true =>
   rw [if_pos rfl, Bool.true_and]
   exact ih k (i + 1) (by omega) (by omega)
theorem pl_impl (l : List S29) (ws : List Int) (hl : l.length ≤ 1048576) (hw : ws.length = l.length) (d : Nat) : ∀ (k i : Nat), i + d = l.length → d < k →
  impl_IsPlacing.l0 k l ws (bxs l ws i) l (l.length : Int) i = some (plF l ws d i, true) := by
 induction d with
 | zero =>
  intro k i hd hk
  obtain ⟨k, rfl⟩ : ∃ m, k = m + 1 := ⟨k - 1, by omega⟩
  simp only [impl_IsPlacing.l0]
  rw [if_neg (by omega)]
  rfl
 | succ d ih =>
  intro k i hd hk
  obtain ⟨k, rfl⟩ : ∃ m, k = m + 1 := ⟨k - 1, by omega⟩
  simp only [impl_IsPlacing.l0]
  have e := clash_impl (bxs l ws i) (bx l ws i)
  rw [bxs_any] at e
  have e' : impl_IsPlacing_2.f (bxs l ws i) (boxT (rd_T29 l i) (rd ws i)).1 (boxT (rd_T29 l i) (rd ws i)).2.1 (boxT (rd_T29 l i) (rd ws i)).2.2.1 (boxT (rd_T29 l i) (rd ws i)).2.2.2 = some (anyM l ws (bx l ws i) i 0) := e
  rw [if_pos (by omega), if_pos (by omega), if_pos (by omega), if_pos (by omega), box_impl, obs, free_impl, obs, e', obs, plF_succ, w64 (by omega) (by omega), if_pos (show (bxs l ws i).length < 4398046511104 by rw [bxs_len]; omega)]
  show (if fitX l (bx l ws i) = true then _ else _) = _
  cases fitX l (bx l ws i) with
  | false => rfl
  | true =>
   rw [if_pos rfl]
   cases anyM l ws (bx l ws i) i 0 with
   | true => rfl
   | false =>
    rw [if_neg Bool.false_ne_true]
    have := ih k (i + 1) (by omega) (by omega)
    rw [bxs_succ] at this
    exact this
theorem rdI_drop (l : List Int) (i : Nat) (h : i < l.length) : l.drop i = rd l (i : Int) :: l.drop (i + 1) := by
 rw [List.drop_eq_getElem_cons h, show rd l (i : Int) = l.getD (i : Int).toNat 0 from rfl, Int.toNat_natCast, List.getD_eq_getElem?_getD, List.getElem?_eq_getElem h]
 rfl
def bad (w : Int) : Bool := !(wayB w)
theorem scan_spec (l : List S29) (ws : List Int) (hw : ws.length ≤ 1048576) (d : Nat) : ∀ (k i K : Nat), i + d = ws.length → K + d < k →
  ∃ k', K ≤ k' ∧ spec_IsPlacing.l0 k l ws i = if (ws.drop i).any bad = true then some (false, false) else spec_IsPlacing.l1 k' l ws 0 := by
 induction d with
 | zero =>
  intro k i K hd hk
  obtain ⟨k, rfl⟩ : ∃ m, k = m + 1 := ⟨k - 1, by omega⟩
  refine ⟨k, by omega, ?_⟩
  simp only [spec_IsPlacing.l0]
  rw [if_neg (by omega), List.drop_of_length_le (by omega)]
  rfl
 | succ d ih =>
  intro k i K hd hk
  obtain ⟨k, rfl⟩ : ∃ m, k = m + 1 := ⟨k - 1, by omega⟩
  simp only [spec_IsPlacing.l0]
  rw [if_pos (by omega), if_pos (by omega), way_spec, obs, rdI_drop ws i (by omega), List.any_cons, w64 (by omega) (by omega), show bad (rd ws i) = !(wayB (rd ws i)) from rfl]
  cases wayB (rd ws i) with
  | false => exact ⟨K, Nat.le_refl _, rfl⟩
  | true =>
   rw [if_pos rfl, Bool.not_true, Bool.false_or]
   exact ih k (i + 1) K (by omega) (by omega)
theorem scan_impl (ws : List Int) : impl_IsPlacing_1.f ws = some (ws.any bad) := by
 unfold impl_IsPlacing_1.f
 congr 2
 funext x
 rw [way_impl]
 rfl
def PlaceOk (m : List S29) (ws : List Int) : Prop := labs m = true ∧ ws.length = m.length ∧ (∀ j : Int, 0 ≤ j → j < ws.length → wayB (rd ws j) = true) ∧ plF m ws m.length 0 = true
theorem placing_both {m : List S29} (hm : ∀ x, x ∈ m → x.f0.size ≤ 1048576) (hl : m.length ≤ 1048576) (ws : List Int) (hw : ws.length ≤ 1048576) {k : Nat} (hk : 1048590 + m.length + m.length + ws.length < k) :
  ∃ p q, spec_IsPlacing.f k m ws = some (p, q) ∧ impl_IsPlacing.f k m ws = some (p, q) ∧ (p = true → PlaceOk m ws) ∧ (PlaceOk m ws → p = true ∧ q = true) := by
 unfold spec_IsPlacing.f impl_IsPlacing.f
 obtain ⟨k, rfl⟩ : ∃ n, k = n + 1 := ⟨k - 1, by omega⟩
 rw [good_eq hm hl (by omega), are_eq hm, obs, obs]
 by_cases c : labs m = true
 ·
  rw [if_pos c, if_pos c]
  by_cases e : (ws.length : Int) = (m.length : Int)
  ·
   rw [if_pos e, scan_impl, obs, show ((ws.length : Int) != (m.length : Int)) = false from bne_eq_false_iff_eq.mpr e]
   simp only [spec_IsPlacing.j0, impl_IsPlacing.j0, Bool.false_eq_true, if_false]
   obtain ⟨k', h1, h2⟩ := scan_spec m ws hw ws.length k 0 (m.length + m.length + 1) (by omega) (by omega)
   rw [show ((0 : Nat) : Int) = 0 from rfl, List.drop_zero] at h2
   rw [h2]
   by_cases z : ws.any bad = true
   ·
    rw [if_pos z, if_pos z]
    refine ⟨_, _, rfl, rfl, fun h => (by cases h), fun h => ?_⟩
    obtain ⟨x, hx, hb⟩ := List.any_eq_true.1 z
    obtain ⟨i, hi, rfl⟩ := List.mem_iff_getElem.1 hx
    have h3 := h.2.2.1 i (by omega) (by omega)
    have hr : rd ws (i : Int) = ws[i] := by
     show ws.getD (i : Int).toNat 0 = _
     rw [Int.toNat_natCast, List.getD_eq_getElem?_getD, List.getElem?_eq_getElem hi]
     rfl
    rw [hr] at h3
    unfold bad at hb
    rw [h3] at hb
    cases hb
   ·
    rw [if_neg z, if_neg z]
    have hws : ∀ j : Int, 0 ≤ j → j < ws.length → wayB (rd ws j) = true := fun j h3 h4 => by
     have hmem : rd ws j ∈ ws := by
      show ws.getD j.toNat 0 ∈ ws
      rw [List.getD_eq_getElem?_getD, List.getElem?_eq_getElem (by omega)]
      exact List.getElem_mem _
     have := List.any_eq_false.1 (Bool.eq_false_iff.mpr z) _ hmem
     unfold bad at this
     simpa using this
    have e1 := pl_spec m ws hl (by omega) hws m.length k' 0 (by omega) (by omega)
    have e2 := pl_impl m ws hl (by omega) m.length k 0 (by omega) (by omega)
    rw [show ((0 : Nat) : Int) = 0 from rfl] at e1 e2
    rw [e1]
    exact ⟨_, _, rfl, e2, fun h => ⟨c, by omega, hws, h⟩, fun h => ⟨h.2.2.2, rfl⟩⟩
  ·
   rw [if_neg e, show ((ws.length : Int) != (m.length : Int)) = true from bne_iff_ne.mpr e]
   exact ⟨_, _, rfl, rfl, fun h => (by cases h), fun h => absurd (show (ws.length : Int) = (m.length : Int) by have := h.2.1; omega) e⟩
 ·
  rw [if_neg c, if_neg c]
  exact ⟨_, _, rfl, rfl, fun h => (by cases h), fun h => absurd h.1 c⟩
theorem bxs_same (l : List S29) (ws vs : List Int) (i : Nat) (h : ∀ j : Nat, j < i → rd ws (j : Int) = rd vs (j : Int)) : bxs l ws i = bxs l vs i := by
 unfold bxs
 refine List.map_congr_left (fun j hj => ?_)
 unfold bx
 rw [h j (List.mem_range.1 hj)]
theorem take_rd (ws : List Int) (i : Nat) (h : i < ws.length) : ws.take (i + 1) = ws.take i ++ [rd ws (i : Int)] := by
 rw [List.take_add_one, show rd ws (i : Int) = ws.getD (i : Int).toNat 0 from rfl, Int.toNat_natCast, List.getD_eq_getElem?_getD, List.getElem?_eq_getElem h]
 rfl
theorem en_has (l : List S29) (sel : Nat → Bool) (hs : ∀ i, i < l.length → sel i = true) (ws : List Int) (hw : ws.length = l.length) (hws : ∀ j : Int, 0 ≤ j → j < ws.length → wayB (rd ws j) = true) (d : Nat) : ∀ i : Nat, i + d = l.length → plF l ws d i = true → ws ∈ en l sel d (ws.take i) (bxs l ws i) := by
 induction d with
 | zero =>
  intro i hi _
  unfold en
  rw [List.take_of_length_le (by omega)]
  exact List.mem_singleton.2 rfl
 | succ d ih =>
  intro i hi hp
  rw [plF_succ, Bool.and_eq_true] at hp
  have hlen : (ws.take i).length = i := by rw [List.length_take]; omega
  unfold en
  rw [hlen, if_pos (hs i (by omega))]
  have h3 := of_decide_eq_true (hws (i : Int) (by omega) (by omega))
  have hmem : rd ws (i : Int) ∈ ([0, 1, 2, 3] : List Int) := by
   have : rd ws (i : Int) = 0 ∨ rd ws (i : Int) = 1 ∨ rd ws (i : Int) = 2 ∨ rd ws (i : Int) = 3 := by omega
   simpa using this
  refine List.mem_flatMap.2 ⟨rd ws (i : Int), hmem, ?_⟩
  have hok : okT l i (rd ws (i : Int)) (bxs l ws i) = true := by
   have h := hp.1
   rw [← bxs_any] at h
   exact h
  rw [if_pos hok, ← take_rd ws i (by omega)]
  have := ih (i + 1) (by omega) hp.2
  rw [bxs_succ] at this
  exact this
theorem en_is (l : List S29) (sel : Nat → Bool) (hs : ∀ i, i < l.length → sel i = true) (p : List Int) (d : Nat) : ∀ pre : List Int, pre.length + d = l.length → (∀ j : Int, 0 ≤ j → j < pre.length → wayB (rd pre j) = true) → p ∈ en l sel d pre (bxs l pre pre.length) → p.length = l.length ∧ (∀ j : Int, 0 ≤ j → j < p.length → wayB (rd p j) = true) ∧ (∀ j : Nat, j < pre.length → rd p (j : Int) = rd pre (j : Int)) ∧ plF l p d pre.length = true := by
 induction d with
 | zero =>
  intro pre hp hw hm
  unfold en at hm
  obtain rfl := List.mem_singleton.1 hm
  exact ⟨by omega, hw, fun _ _ => rfl, rfl⟩
 | succ d ih =>
  intro pre hp hw hm
  unfold en at hm
  rw [if_pos (hs pre.length (by omega))] at hm
  obtain ⟨w, hwm, hm⟩ := List.mem_flatMap.1 hm
  by_cases ho : okT l pre.length w (bxs l pre pre.length) = true
  ·
   rw [if_pos ho] at hm
   have hwb : wayB w = true := decide_eq_true (by
    simp only [List.mem_cons, List.not_mem_nil, or_false] at hwm
    omega)
   have hb : bxs l pre pre.length ++ [bST (bxT l pre.length w)] = bxs l (pre ++ [w]) (pre ++ [w]).length := by
    rw [List.length_append, List.length_singleton, bxs_succ, bxs_same l pre (pre ++ [w]) pre.length (fun j hj => (rd_left pre w j hj).symm)]
    unfold bx
    rw [rd_end]
    rfl
   rw [hb] at hm
   obtain ⟨h1, h2, h3, h4⟩ := ih (pre ++ [w]) (by rw [List.length_append, List.length_singleton]; omega) (fun j j0 j1 => by
    rw [List.length_append, List.length_singleton] at j1
    by_cases e : j = (pre.length : Int)
    ·
     rw [e, rd_end]; exact hwb
    ·
     obtain ⟨n, rfl⟩ : ∃ n : Nat, j = n := ⟨j.toNat, by omega⟩
     rw [rd_left pre w n (by omega)]
     exact hw n j0 (by omega)) hm
   rw [List.length_append, List.length_singleton] at h3 h4
   have h5 : ∀ j : Nat, j < pre.length → rd p (j : Int) = rd pre (j : Int) := fun j hj => (h3 j (by omega)).trans (rd_left pre w j hj)
   refine ⟨h1, h2, h5, ?_⟩
   rw [plF_succ, Bool.and_eq_true]
   refine ⟨?_, h4⟩
   have hr : rd p (pre.length : Int) = w := (h3 pre.length (by omega)).trans (rd_end pre w)
   rw [← bxs_any, bxs_same l p pre pre.length h5]
   unfold bx
   rw [hr]
   exact ho
  ·
   rw [if_neg ho] at hm
   cases hm
theorem plcs_has {m : List S29} {ws : List Int} (h : PlaceOk m ws) : ws ∈ plcs m := by
 obtain ⟨h1, h2, h3, h4⟩ := h
 have h6 := labs_len h1
 exact en_has m (selO (fullS m.length)) (fun i hi => full_sel h6 hi) ws h2 h3 m.length 0 (by omega) h4
theorem plcs_is {m : List S29} (h : labs m = true) {p : List Int} (hp : p ∈ plcs m) : PlaceOk m p := by
 have h6 := labs_len h
 obtain ⟨a, b, _, c⟩ := en_is m (selO (fullS m.length)) (fun i hi => full_sel h6 hi) p m.length [] (by simp) (fun j j0 j1 => by simp at j1; omega) hp
 exact ⟨h, a, b, c⟩
theorem plF_at (l : List S29) (ws : List Int) (d : Nat) : ∀ i j : Nat, plF l ws d i = true → i ≤ j → j < i + d → fitX l (bx l ws (j : Int)) = true := by
 induction d with
 | zero => intro i j _ h1 h2; omega
 | succ d ih =>
  intro i j h h1 h2
  rw [plF_succ, Bool.and_eq_true, Bool.and_eq_true] at h
  by_cases e : j = i
  ·
   rw [e]; exact h.1.1
  ·
   exact ih (i + 1) j h.2 (by omega) (by omega)
theorem wF_mem (l : List S29) (y : S29) (w : Int) (h : fitW l y w = true) (d : Nat) : ∀ i : Int, i ≤ w → w < i + d → w ∈ wF l y d i := by
 induction d with
 | zero => intro i h1 h2; omega
 | succ d ih =>
  intro i h1 h2
  unfold wF
  by_cases e : w = i
  ·
   rw [← e, if_pos h]
   exact List.mem_cons_self
  ·
   have := ih (i + 1) (by omega) (by omega)
   split
   ·
    exact List.mem_cons_of_mem _ this
   ·
    exact this
theorem place_ways {m : List S29} {ws : List Int} (h : PlaceOk m ws) {i : Int} (h0 : 0 ≤ i) (h1 : i < m.length) : rd ws i ∈ waysL m i := by
 obtain ⟨c1, c2, c3, c4⟩ := h
 obtain ⟨n, rfl⟩ : ∃ n : Nat, i = n := ⟨i.toNat, by omega⟩
 have hf := plF_at m ws m.length 0 n c4 (Nat.zero_le _) (by omega)
 have h3 := of_decide_eq_true (c3 (n : Int) (by omega) (by omega))
 exact wF_mem m _ _ hf 4 0 h3.1 (by omega)
end Go.Proofs.YtjkcfpmonpkhhaaDoor.Pr.Pure

namespace Go.Proofs.YtjkcfpmonpkhhaaDoor.Pr.Pure
open Go.RowKit Go.Proofs.YtjkcfpmonpkhhaaDoorW.PrintWords Go.Proofs.YtjkcfpmonpkhhaaDoorW.PrintLast Go.Proofs.YtjkcfpmonpkhhaaDoorW.PrintMore Go.Lib
set_option linter.unusedVariables false
theorem bits255 (x : Int) : 0 ≤ Go.bits .and .u64 x 255 ∧ Go.bits .and .u64 x 255 ≤ 255 := by
 have h : (BitVec.ofInt IntKind.u64.bits x &&& BitVec.ofInt IntKind.u64.bits 255).toNat ≤ 255 := by
  rw [BitVec.toNat_and]
  exact Nat.le_trans Nat.and_le_right (by decide)
 have e : Go.bits .and .u64 x 255 = IntKind.u64.wrap (((BitVec.ofInt IntKind.u64.bits x &&& BitVec.ofInt IntKind.u64.bits 255).toNat : Nat) : Int) := rfl
 rw [e]
 generalize (BitVec.ofInt IntKind.u64.bits x &&& BitVec.ofInt IntKind.u64.bits 255).toNat = n at h
 have e2 : IntKind.u64.wrap (n : Int) = (n : Int) := by
  have : IntKind.u64.wrap (n : Int) = (n : Int) % 18446744073709551616 := rfl
  omega
 rw [e2]
 omega
theorem rdI_mem (l : List Int) {i : Int} (h0 : 0 ≤ i) (h1 : i < l.length) : rd l i ∈ l := by
 unfold rd
 rw [List.getD_eq_getElem?_getD, List.getElem?_eq_getElem (by omega)]
 exact List.getElem_mem _
theorem rdB_mem (l : List ByteArray) {i : Int} (h0 : 0 ≤ i) (h1 : i < l.length) : rdOf ByteArray.empty l i ∈ l := by
 unfold rdOf
 rw [List.getD_eq_getElem?_getD, List.getElem?_eq_getElem (by omega)]
 exact List.getElem_mem _
theorem next_ok {c : List Int} (hc : ∀ x, x ∈ c → 0 ≤ x ∧ x ≤ 255) {p : Int} (h0 : 0 ≤ p) (h1 : p ≤ 1000000000) (s : Int) :
  ∃ r q, spec_l1Cur_next.f c p s = some (r, p + 1, q) ∧ 0 ≤ r ∧ r ≤ 255 := by
 have hw : wrap64 (p + 1) = p + 1 := w64 (by omega) (by omega)
 unfold spec_l1Cur_next.f
 rw [hw]
 by_cases a : p < (c.length : Int)
 ·
  have hb := hc _ (rdI_mem c h0 a)
  have hv : wrap64 (rd c p) = rd c p := w64 (by omega) (by omega)
  rw [if_pos a, if_pos h0]
  by_cases b : p + 1 ≤ (c.length : Int)
  ·
   rw [if_pos b, hv]
   exact ⟨_, _, rfl, hb.1, hb.2⟩
  ·
   rw [if_neg b]
   refine ⟨_, _, rfl, ?_⟩
   rw [w64 (by have := bits255; exact Int.le_trans (by decide) (this _).1) (Int.le_trans (bits255 _).2 (by decide))]
   exact bits255 _
 ·
  rw [if_neg a]
  by_cases b : p + 1 ≤ (c.length : Int)
  ·
   rw [if_pos b]
   exact ⟨_, _, rfl, by decide, by decide⟩
  ·
   rw [if_neg b]
   refine ⟨_, _, rfl, ?_⟩
   rw [w64 (by have := bits255; exact Int.le_trans (by decide) (this _).1) (Int.le_trans (bits255 _).2 (by decide))]
   exact bits255 _
theorem tmod_lt {a n : Int} (h : 0 ≤ a) (hn : 0 < n) : 0 ≤ Int.tmod a n ∧ Int.tmod a n < n :=
 ⟨Int.tmod_nonneg _ h, Int.tmod_lt_of_pos _ hn⟩
theorem pick_ok {c : List Int} (hc : ∀ x, x ∈ c → 0 ≤ x ∧ x ≤ 255) {p : Int} (h0 : 0 ≤ p) (h1 : p ≤ 900000000) (s : Int) {n : Int} (hn : 0 < n) :
  ∃ r p1 q, spec_l1Cur_pick.f c p s n = some (r, p1, q) ∧ (0 ≤ r ∧ r < n) ∧ p ≤ p1 ∧ p1 ≤ p + 2 := by
 unfold spec_l1Cur_pick.f
 by_cases a : n ≤ 1
 ·
  rw [if_pos a]
  exact ⟨0, p, s, rfl, ⟨by decide, hn⟩, by omega, by omega⟩
 ·
  obtain ⟨r, q, e, b1, b2⟩ := next_ok hc h0 (by omega) s
  have n0 : ¬ n = 0 := by omega
  rw [if_neg a, e, obs]
  by_cases d : n > 200
  ·
   obtain ⟨r2, q2, e2, d1, d2⟩ := next_ok hc (p := p + 1) (by omega) (by omega) q
   rw [if_pos d, e2, obs, if_neg n0]
   have hw : wrap64 (wrap64 (r * 256) + r2) = r * 256 + r2 := by
    rw [w64 (x := r * 256) (by omega) (by omega), w64 (by omega) (by omega)]
   refine ⟨_, p + 1 + 1, q2, rfl, ?_, by omega, by omega⟩
   simp only
   rw [hw]
   exact tmod_lt (by omega) hn
  ·
   rw [if_neg d, if_neg n0]
   exact ⟨_, p + 1, q, rfl, tmod_lt b1 hn, by omega, by omega⟩
theorem one_ok {c : List Int} (hc : ∀ x, x ∈ c → 0 ≤ x ∧ x ≤ 255) {p : Int} (h0 : 0 ≤ p) (h1 : p ≤ 900000000) (s : Int) {n : Int} (hn : 0 < n) :
  ∃ b p1 q, spec_l1Cur_one.f c p s n = some (b, p1, q) ∧ p ≤ p1 ∧ p1 ≤ p + 2 := by
 obtain ⟨r, p1, q, e, _, a1, a2⟩ := pick_ok hc h0 h1 s hn
 unfold spec_l1Cur_one.f
 rw [e, obs]
 exact ⟨_, p1, q, rfl, a1, a2⟩
theorem among_ok {c : List Int} (hc : ∀ x, x ∈ c → 0 ≤ x ∧ x ≤ 255) {p : Int} (h0 : 0 ≤ p) (h1 : p ≤ 900000000) (s : Int) {l : List Int} (hl : 0 < l.length) :
  ∃ r p1 q, spec_l1Cur_among.f c p s l = some (r, p1, q) ∧ r ∈ l ∧ p ≤ p1 ∧ p1 ≤ p + 2 := by
 obtain ⟨r, p1, q, e, b, a1, a2⟩ := pick_ok hc h0 h1 s (n := (l.length : Int)) (by omega)
 unfold spec_l1Cur_among.f
 rw [e, obs, if_pos b.1, if_pos b.2]
 exact ⟨_, p1, q, rfl, rdI_mem l b.1 b.2, a1, a2⟩
theorem of_ok {c : List Int} (hc : ∀ x, x ∈ c → 0 ≤ x ∧ x ≤ 255) {p : Int} (h0 : 0 ≤ p) (h1 : p ≤ 900000000) (s : Int) {l : List ByteArray} (hl : 0 < l.length) :
  ∃ r p1 q, spec_l1Cur_of.f c p s l = some (r, p1, q) ∧ r ∈ l ∧ p ≤ p1 ∧ p1 ≤ p + 2 := by
 obtain ⟨r, p1, q, e, b, a1, a2⟩ := pick_ok hc h0 h1 s (n := (l.length : Int)) (by omega)
 unfold spec_l1Cur_of.f
 rw [e, obs, if_pos b.1, if_pos b.2]
 exact ⟨_, p1, q, rfl, rdB_mem l b.1 b.2, a1, a2⟩
theorem small_all {L : List ByteArray} (h : L.all (fun x => decide (x.size ≤ 100)) = true) {x : ByteArray} (hx : x ∈ L) : x.size ≤ 100 :=
 of_decide_eq_true (List.all_eq_true.1 h x hx)
theorem label_ok {c : List Int} (hc : ∀ x, x ∈ c → 0 ≤ x ∧ x ≤ 255) {p : Int} (h0 : 0 ≤ p) (h1 : p ≤ 600000000) (s : Int) :
  ∃ n x y p1 q, spec_l1Cur_label.f c p s = some (n, x, y, p1, q) ∧ n.size ≤ 100 ∧ p ≤ p1 ∧ p1 ≤ p + 20 := by
 unfold spec_l1Cur_label.f
 obtain ⟨n, p1, q1, e1, hn, a1, a2⟩ := of_ok hc h0 (by omega) s (l := [(⟨#[97]⟩ : ByteArray), (⟨#[115, 117, 109, 112]⟩ : ByteArray), (⟨#[98, 105, 103]⟩ : ByteArray), (⟨#[104, 97, 108, 108]⟩ : ByteArray), (⟨#[108, 111, 110, 103, 110, 97, 109, 101]⟩ : ByteArray), (⟨#[97, 98, 99, 100, 101, 102, 103, 104, 105, 106]⟩ : ByteArray)]) (by decide)
 have hn' := small_all (by decide) hn
 rw [e1, obs]
 obtain ⟨x, p2, q2, e2, _, b1, b2⟩ := among_ok hc (p := p1) (by omega) (by omega) q1 (l := [0, 5, 9, 12, 13, 99]) (by decide)
 rw [e2, obs]
 obtain ⟨y, p3, q3, e3, _, c1, c2⟩ := among_ok hc (p := p2) (by omega) (by omega) q2 (l := [0, 1, 8, 10, 11, 99]) (by decide)
 rw [e3, obs]
 obtain ⟨r, p4, q4, e4, _, d1, d2⟩ := pick_ok hc (p := p3) (by omega) (by omega) q3 (n := 60) (by decide)
 rw [e4, obs]
 simp only
 by_cases r0 : r = 0
 ·
  rw [if_pos r0]
  obtain ⟨n2, p5, q5, e5, hn2, f1, f2⟩ := of_ok hc (p := p4) (by omega) (by omega) q4 (l := [(⟨#[]⟩ : ByteArray), (⟨#[65]⟩ : ByteArray), (⟨#[97, 98, 99, 100, 101, 102, 103, 104, 105, 106, 107]⟩ : ByteArray)]) (by decide)
  have hn2' := small_all (by decide) hn2
  rw [e5, obs]
  exact ⟨n2, x, y, p5, q5, rfl, hn2', by omega, by omega⟩
 ·
  rw [if_neg r0]
  by_cases r1 : r = 1
  ·
   rw [if_pos r1]
   obtain ⟨n2, p5, q5, e5, _, f1, f2⟩ := among_ok hc (p := p4) (by omega) (by omega) q4 (l := [(-1), 100]) (by decide)
   rw [e5, obs]
   exact ⟨n, n2, y, p5, q5, rfl, hn', by omega, by omega⟩
  ·
   rw [if_neg r1]
   by_cases r2 : r = 2
   ·
    rw [if_pos r2]
    obtain ⟨n2, p5, q5, e5, _, f1, f2⟩ := among_ok hc (p := p4) (by omega) (by omega) q4 (l := [(-1), 100]) (by decide)
    rw [e5, obs]
    exact ⟨n, x, n2, p5, q5, rfl, hn', by omega, by omega⟩
   ·
    rw [if_neg r2]
    exact ⟨n, x, y, p4, q4, rfl, hn', by omega, by omega⟩
def Names (l : List S29) : Prop := ∀ x, x ∈ l → x.f0.size ≤ 1048576
theorem names_add {l : List S29} (h : Names l) {n : ByteArray} (hn : n.size ≤ 100) (x y : Int) : Names (l ++ [⟨n, x, y⟩]) := fun z hz => by
 rcases List.mem_append.1 hz with hz | hz
 ·
  exact h z hz
 ·
  rw [List.mem_singleton.1 hz]
  exact Nat.le_trans hn (by decide)
theorem labels_l1 {c : List Int} (hc : ∀ x, x ∈ c → 0 ≤ x ∧ x ≤ 255) (d : Nat) : ∀ (k : Nat) (l : List S29) (p s : Int), l.length + d = 7 → Names l → d < k → 0 ≤ p → p + 4 * d ≤ 500000000 →
  ∃ r p1 q, spec_l1Cur_labels24.l1 k l c p s = some (r, p1, q) ∧ r.length ≤ 7 ∧ Names r ∧ p ≤ p1 ∧ p1 ≤ p + 4 * d + 4 := by
 induction d with
 | zero =>
  intro k l p s hl hn hk h0 hp
  obtain ⟨k, rfl⟩ : ∃ m, k = m + 1 := ⟨k - 1, by omega⟩
  obtain ⟨r, p1, q, e, hr, a1, a2⟩ := pick_ok hc h0 (by omega) s (n := 2) (by decide)
  simp only [spec_l1Cur_labels24.l1]
  rw [e, obs]
  simp only
  rw [w64 (x := 6 + r) (by omega) (by omega), if_neg (by omega)]
  exact ⟨l, p1, q, rfl, by omega, hn, by omega, by omega⟩
 | succ d ih =>
  intro k l p s hl hn hk h0 hp
  obtain ⟨k, rfl⟩ : ∃ m, k = m + 1 := ⟨k - 1, by omega⟩
  obtain ⟨r, p1, q, e, hr, a1, a2⟩ := pick_ok hc h0 (by omega) s (n := 2) (by decide)
  simp only [spec_l1Cur_labels24.l1]
  rw [e, obs]
  simp only
  rw [w64 (x := 6 + r) (by omega) (by omega)]
  by_cases cc : (l.length : Int) < 6 + r
  ·
   rw [if_pos cc, if_pos (by omega)]
   obtain ⟨r2, p2, q2, e2, b1, b2, b3, b4⟩ := ih k (l ++ [(⟨(⟨#[98]⟩ : ByteArray), wrap64 (10 * (l.length : Int)), 50⟩ : S29)]) p1 q (by rw [List.length_append, List.length_singleton]; omega) (names_add hn (by decide) _ _) (by omega) (by omega) (by omega)
   exact ⟨r2, p2, q2, e2, b1, b2, by omega, by omega⟩
  ·
   rw [if_neg cc]
   exact ⟨l, p1, q, rfl, by omega, hn, by omega, by omega⟩
theorem labels_l0 {c : List Int} (hc : ∀ x, x ∈ c → 0 ≤ x ∧ x ≤ 255) (d : Nat) : ∀ (k : Nat) (l : List S29) (i p s : Int), i = d → l.length + d ≤ 6 → Names l → d + 20 < k → 0 ≤ p → p + 30 * d ≤ 400000000 →
  ∃ r p1 q, spec_l1Cur_labels24.l0 k l i c p s = some (r, p1, q) ∧ r.length ≤ 7 ∧ Names r ∧ p ≤ p1 ∧ p1 ≤ p + 30 * d + 60 := by
 induction d with
 | zero =>
  intro k l i p s hi hl hn hk h0 hp
  obtain ⟨k, rfl⟩ : ∃ m, k = m + 1 := ⟨k - 1, by omega⟩
  simp only [spec_l1Cur_labels24.l0]
  rw [if_neg (by omega)]
  obtain ⟨b, p1, q, e, a1, a2⟩ := one_ok hc h0 (by omega) s (n := 24) (by decide)
  rw [e, obs]
  simp only
  cases b with
  | true =>
   rw [if_pos rfl]
   obtain ⟨r2, p2, q2, e2, b1, b2, b3, b4⟩ := labels_l1 hc (7 - l.length) k l p1 q (by omega) hn (by omega) (by omega) (by omega)
   exact ⟨r2, p2, q2, e2, b1, b2, by omega, by omega⟩
  | false =>
   rw [if_neg (by decide)]
   exact ⟨l, p1, q, rfl, by omega, hn, by omega, by omega⟩
 | succ d ih =>
  intro k l i p s hi hl hn hk h0 hp
  obtain ⟨k, rfl⟩ : ∃ m, k = m + 1 := ⟨k - 1, by omega⟩
  simp only [spec_l1Cur_labels24.l0]
  rw [if_pos (by omega)]
  obtain ⟨n, x, y, p1, q, e, hn1, a1, a2⟩ := label_ok hc h0 (by omega) s
  rw [e, obs]
  simp only
  rw [if_pos (by omega), w64 (x := i - 1) (by omega) (by omega)]
  obtain ⟨r2, p2, q2, e2, b1, b2, b3, b4⟩ := ih k (l ++ [(⟨n, x, y⟩ : S29)]) (i - 1) p1 q (by omega) (by rw [List.length_append, List.length_singleton]; omega) (names_add hn hn1 x y) (by omega) (by omega) (by omega)
  exact ⟨r2, p2, q2, e2, b1, b2, by omega, by omega⟩
theorem labels_ok {c : List Int} (hc : ∀ x, x ∈ c → 0 ≤ x ∧ x ≤ 255) {p : Int} (h0 : 0 ≤ p) (h1 : p ≤ 200000000) (s : Int) {k : Nat} (hk : 40 < k) :
  ∃ r p1 q, spec_l1Cur_labels24.f k c p s = some (r, p1, q) ∧ r.length ≤ 7 ∧ Names r ∧ p ≤ p1 ∧ p1 ≤ p + 300 := by
 unfold spec_l1Cur_labels24.f
 obtain ⟨r, p1, q, e, hr, a1, a2⟩ := pick_ok hc h0 (by omega) s (n := 5) (by decide)
 rw [e, obs]
 simp only
 obtain ⟨r2, p2, q2, e2, b1, b2, b3, b4⟩ := labels_l0 hc r.toNat k [] r p1 q (by omega) (by simp; omega) (fun x hx => by cases hx) (by omega) (by omega) (by omega)
 exact ⟨r2, p2, q2, e2, b1, b2, by omega, by omega⟩
theorem drawPlc_j2 {c : List Int} (hc : ∀ x, x ∈ c → 0 ≤ x ∧ x ≤ 255) {p : Int} (h0 : 0 ≤ p) (h1 : p ≤ 300000000) (s : Int) (l : List S29) (ws : List Int) (hw : ws.length ≤ 7) {k : Nat} (hk : 0 < k) : ∃ r, spec_DrawIsPlacing.j2 k l ws c p s = some (l, r) ∧ r.length ≤ 8 := by
 obtain ⟨k, rfl⟩ : ∃ m, k = m + 1 := ⟨k - 1, by omega⟩
 simp only [spec_DrawIsPlacing.j2]
 obtain ⟨r, p1, q, e, hr, a1, a2⟩ := pick_ok hc h0 (by omega) s (n := 24) (by decide)
 rw [e, obs]
 simp only
 by_cases r0 : r = 0
 ·
  rw [if_pos r0, if_pos (by omega)]
  exact ⟨_, rfl, by rw [List.length_append, List.length_singleton]; omega⟩
 ·
  rw [if_neg r0]
  by_cases r1 : r = 1
  ·
   rw [if_pos r1]
   by_cases z : (ws.length : Int) > 0
   ·
    rw [if_pos z]
    obtain ⟨n2, p5, q5, e5, _, f1, f2⟩ := among_ok hc (p := p1) (by omega) (by omega) q (l := [(-1), 4]) (by decide)
    rw [e5, obs, if_pos z]
    exact ⟨_, rfl, by rw [List.length_set]; omega⟩
   ·
    rw [if_neg z]
    exact ⟨_, rfl, by omega⟩
  ·
   rw [if_neg r1]
   exact ⟨_, rfl, by omega⟩
theorem drawPlc_j1 {c : List Int} (hc : ∀ x, x ∈ c → 0 ≤ x ∧ x ≤ 255) {p : Int} (h0 : 0 ≤ p) (h1 : p ≤ 300000000) (s : Int) (l : List S29) (ws vs : List Int) (hw : ws.length ≤ 7) (hv : vs.length ≤ 7) (b : Bool) {k : Nat} (hk : 1 < k) : ∃ r, spec_DrawIsPlacing.j1 k l ws vs b c p s = some (l, r) ∧ r.length ≤ 8 := by
 obtain ⟨k, rfl⟩ : ∃ m, k = m + 1 := ⟨k - 1, by omega⟩
 simp only [spec_DrawIsPlacing.j1]
 cases b with
 | true => exact drawPlc_j2 hc h0 h1 s l vs hv (by omega)
 | false => exact drawPlc_j2 hc h0 h1 s l ws hw (by omega)
theorem drawPlc_l0 {c : List Int} (hc : ∀ x, x ∈ c → 0 ≤ x ∧ x ≤ 255) {l : List S29} (hl : l.length ≤ 7) (hn : Names l) (d : Nat) : ∀ (k : Nat) (ws : List Int) (i p s : Int), i + d = l.length → 0 ≤ i → (ws.length : Int) = i → 1048800 + l.length + d < k → 0 ≤ p → p + 4 * d ≤ 200000000 →
  ∃ r, spec_DrawIsPlacing.l0 k l ws i c p s = some (l, r) ∧ r.length ≤ 8 := by
 induction d with
 | zero =>
  intro k ws i p s hi hi0 hw hk h0 hp
  obtain ⟨k, rfl⟩ : ∃ m, k = m + 1 := ⟨k - 1, by omega⟩
  simp only [spec_DrawIsPlacing.l0]
  rw [if_neg (by omega)]
  obtain ⟨v, b, hv, hk2, _⟩ := first_both hn (by omega)
  rw [(hk2 k (by omega)).1, obs]
  simp only
  cases b with
  | true =>
   rw [if_pos rfl]
   obtain ⟨o, p1, q, e, a1, a2⟩ := one_ok hc h0 (by omega) s (n := 3) (by decide)
   rw [e, obs]
   exact drawPlc_j1 hc (p := p1) (by omega) (by omega) q l ws v (by omega) (by omega) o (by omega)
  | false =>
   rw [if_neg (by decide)]
   exact drawPlc_j1 hc (by omega) (by omega) s l ws v (by omega) (by omega) false (by omega)
 | succ d ih =>
  intro k ws i p s hi hi0 hw hk h0 hp
  obtain ⟨k, rfl⟩ : ∃ m, k = m + 1 := ⟨k - 1, by omega⟩
  simp only [spec_DrawIsPlacing.l0]
  rw [if_pos (by omega), w64 (x := i + 1) (by omega) (by omega)]
  obtain ⟨r, p1, q, e, hr, a1, a2⟩ := pick_ok hc h0 (by omega) s (n := 4) (by decide)
  rw [e, obs]
  simp only
  rw [if_pos (by omega)]
  exact ih k (ws ++ [r]) (i + 1) p1 q (by omega) (by omega) (by rw [List.length_append, List.length_singleton]; omega) (by omega) (by omega) (by omega)
theorem drawPlc_ok {c : List Int} (hc : ∀ x, x ∈ c → 0 ≤ x ∧ x ≤ 255) {k : Nat} (hk : 1048900 < k) : ∃ l ws, spec_DrawIsPlacing.f k c = some (l, ws) ∧ l.length ≤ 7 ∧ ws.length ≤ 8 ∧ Names l := by
 unfold spec_DrawIsPlacing.f
 rw [show spec_newCur.f c = some (c, 0, 0) from rfl, obs]
 obtain ⟨l, p1, q, e, a1, a2, a3, a4⟩ := labels_ok hc (p := 0) (by decide) (by decide) 0 (k := k) (by omega)
 rw [e, obs]
 obtain ⟨ws, e2, b⟩ := drawPlc_l0 hc a1 a2 l.length k [] 0 p1 q (by omega) (by decide) rfl (by omega) (by omega) (by omega)
 exact ⟨l, ws, e2, a1, b, a2⟩
end Go.Proofs.YtjkcfpmonpkhhaaDoor.Pr.Pure

namespace Go.Proofs.YtjkcfpmonpkhhaaDoor.Pr.Pure
open Go.RowKit Go.Proofs.YtjkcfpmonpkhhaaDoorW.PrintWords Go.Proofs.YtjkcfpmonpkhhaaDoorW.PrintLast Go.Proofs.YtjkcfpmonpkhhaaDoorW.PrintMore Go.Proofs.YtjkcfpmonpkhhaaDoorW.Opens
set_option linter.unusedVariables false
theorem rInts_l0 (l : List Int) (hl : l.length ≤ 100000) (d : Nat) : ∀ (k i : Nat), i + d = l.length → d < k → laws_rInts.l0 k l l i = some true := by
 induction d with
 | zero =>
  intro k i hd hk
  obtain ⟨k, rfl⟩ : ∃ m, k = m + 1 := ⟨k - 1, by omega⟩
  simp only [laws_rInts.l0]
  rw [if_neg (by omega)]
 | succ d ih =>
  intro k i hd hk
  obtain ⟨k, rfl⟩ : ∃ m, k = m + 1 := ⟨k - 1, by omega⟩
  simp only [laws_rInts.l0]
  rw [if_pos (by omega), if_pos (by omega), if_pos (by omega), if_pos trivial, w64 (by omega) (by omega)]
  exact ih k (i + 1) (by omega) (by omega)
theorem rInts_eq {l : List Int} (hl : l.length ≤ 100000) {k : Nat} (hk : l.length < k) : laws_rInts.f k l l = some true := by
 unfold laws_rInts.f
 rw [if_pos rfl]
 exact rInts_l0 l hl l.length k 0 (by omega) hk
theorem rHas_l0 (l : List Int) (v : Int) (hl : l.length ≤ 100000) (d : Nat) : ∀ (k i : Nat), i + d = l.length → d < k → v ∈ l.drop i → laws_rHas.l0 k l v i = some true := by
 induction d with
 | zero =>
  intro k i hd hk hv
  rw [List.drop_of_length_le (by omega)] at hv
  cases hv
 | succ d ih =>
  intro k i hd hk hv
  obtain ⟨k, rfl⟩ : ∃ m, k = m + 1 := ⟨k - 1, by omega⟩
  have hr : rd l (i : Int) = l[i]'(by omega) := by
   show l.getD (i : Int).toNat 0 = _
   rw [Int.toNat_natCast, List.getD_eq_getElem?_getD, List.getElem?_eq_getElem (by omega)]
   rfl
  simp only [laws_rHas.l0]
  rw [if_pos (by omega), if_pos (by omega)]
  by_cases c : rd l (i : Int) = v
  ·
   rw [if_pos c]
  ·
   rw [if_neg c, w64 (by omega) (by omega)]
   refine ih k (i + 1) (by omega) (by omega) ?_
   rw [List.drop_eq_getElem_cons (by omega)] at hv
   rcases List.mem_cons.1 hv with h | h
   ·
    exact absurd (hr.trans h.symm) c
   ·
    exact h
theorem rHas_eq {l : List Int} {v : Int} (hl : l.length ≤ 100000) (h : v ∈ l) {k : Nat} (hk : l.length < k) : laws_rHas.f k l v = some true := rHas_l0 l v hl l.length k 0 (by omega) hk (by rw [List.drop_zero]; exact h)
def stuck (m : List S29) : Nat → Int → List ByteArray
 | 0, _ => []
 | d + 1, i => if ((waysL m i).length : Int) = 0 then (rd_T29 m i).f0 :: stuck m d (i + 1) else stuck m d (i + 1)
theorem stuck_len (m : List S29) : ∀ (d : Nat) (i : Int), (stuck m d i).length ≤ d
 | 0, _ => Nat.le_refl _
 | d + 1, i => by
  unfold stuck
  have := stuck_len m d (i + 1)
  split
  ·
   rw [List.length_cons]; omega
  ·
   omega
theorem stuck_spec {m : List S29} (hl : m.length ≤ 1048576) (d : Nat) : ∀ (k : Nat) (i : Int) (out : List ByteArray), i + d = m.length → 0 ≤ i → out.length + d ≤ 1048576 → m.length + d + 8 < k →
  spec_StuckLabels.l0 k m out i = some (out ++ stuck m d i, true) := by
 induction d with
 | zero =>
  intro k i out hd hi ho hk
  obtain ⟨k, rfl⟩ : ∃ m, k = m + 1 := ⟨k - 1, by omega⟩
  simp only [spec_StuckLabels.l0]
  rw [if_neg (by omega)]
  simp [stuck]
 | succ d ih =>
  intro k i out hd hi ho hk
  obtain ⟨k, rfl⟩ : ∃ m, k = m + 1 := ⟨k - 1, by omega⟩
  simp only [spec_StuckLabels.l0]
  rw [if_pos (by omega), waysOf_spec hl hi (by omega) (by omega), obs, w64 (by omega) (by omega)]
  unfold stuck
  by_cases c : ((waysL m i).length : Int) = 0
  ·
   rw [if_pos c, if_pos hi, if_pos (by omega), if_pos c, ih k (i + 1) _ (by omega) (by omega) (by rw [List.length_append, List.length_singleton]; omega) (by omega), List.append_assoc]
   rfl
  ·
   rw [if_neg c, if_neg c]
   exact ih k (i + 1) out (by omega) (by omega) (by omega) (by omega)
theorem stuck_impl {m : List S29} (hl : m.length ≤ 1048576) (d : Nat) : ∀ (k : Nat) (i : Int) (out : List ByteArray), i + d = m.length → 0 ≤ i → out.length + d ≤ 1048576 → d + 8 < k →
  impl_StuckLabels.l0 k m out m (m.length : Int) i = some (out ++ stuck m d i, true) := by
 induction d with
 | zero =>
  intro k i out hd hi ho hk
  obtain ⟨k, rfl⟩ : ∃ m, k = m + 1 := ⟨k - 1, by omega⟩
  simp only [impl_StuckLabels.l0]
  rw [if_neg (by omega)]
  simp [stuck]
 | succ d ih =>
  intro k i out hd hi ho hk
  obtain ⟨k, rfl⟩ : ∃ m, k = m + 1 := ⟨k - 1, by omega⟩
  simp only [impl_StuckLabels.l0]
  rw [if_pos (by omega), if_pos hi, if_pos (by omega), waysOf_impl hl hi (by omega) (by omega), obs, w64 (by omega) (by omega)]
  unfold stuck
  by_cases c : ((waysL m i).length : Int) = 0
  ·
   rw [if_pos c, if_pos (by omega), if_pos c, ih k (i + 1) _ (by omega) (by omega) (by rw [List.length_append, List.length_singleton]; omega) (by omega), List.append_assoc]
   rfl
  ·
   rw [if_neg c, if_neg c]
   exact ih k (i + 1) out (by omega) (by omega) (by omega) (by omega)
theorem stuck_is {m : List S29} (hm : Names m) (hl : m.length ≤ 1048576) {k : Nat} (hk : 1048590 + m.length + m.length ≤ k) :
  ∃ r b, spec_StuckLabels.f k m = some (r, b) ∧ impl_StuckLabels.f k m = some (r, b) ∧ r.length ≤ m.length ∧ b = labs m ∧ r = if labs m = true then stuck m m.length 0 else [] := by
 by_cases c : labs m = true
 ·
  refine ⟨stuck m m.length 0, true, ?_, ?_, stuck_len m _ 0, c.symm, by rw [if_pos c]⟩
  ·
   unfold spec_StuckLabels.f
   rw [obs, good_eq hm hl (by omega), obs, if_pos c, stuck_spec hl m.length k 0 [] (by omega) (by omega) (by rw [List.length_nil]; omega) (by omega), List.nil_append]
  ·
   unfold impl_StuckLabels.f
   rw [are_eq hm, obs, if_pos c, stuck_impl hl m.length k 0 [] (by omega) (by omega) (by rw [List.length_nil]; omega) (by omega), List.nil_append]
 ·
  refine ⟨[], false, ?_, ?_, Nat.zero_le _, (Bool.eq_false_iff.mpr c).symm, by rw [if_neg c]⟩
  ·
   unfold spec_StuckLabels.f
   rw [obs, good_eq hm hl (by omega), obs, if_neg c]
  ·
   unfold impl_StuckLabels.f
   rw [are_eq hm, obs, if_neg c]
theorem cnt_is {m : List S29} (hm : Names m) (hl : m.length ≤ 1048576) {k : Nat} (hk : 1048790 + m.length ≤ k) : ∃ r, spec_CountPlacings.f k m = some (r, labs m) ∧ impl_CountPlacings.f k m = some (r, labs m) ∧ (labs m = true → r = ((plcs m).length : Int)) := by
 by_cases c : labs m = true
 ·
  have h6 := labs_len c
  obtain ⟨idx, i1, i2, i3⟩ := plc_full h6 (k := k) (by omega)
  have hp := plcs_len m h6
  refine ⟨((plcs m).length : Int), ?_, ?_, fun _ => rfl⟩
  ·
   have hu : 0 ≤ IntKind.u64.wrap (m.length : Int) := by rw [u64n m.length (by omega)]; omega
   unfold spec_CountPlacings.f
   rw [good_eq hm hl (by omega), obs, if_pos c, if_pos hu, count_full h6 (by omega), obs, c]
  ·
   unfold impl_CountPlacings.f
   rw [are_eq hm, obs, if_pos c, i1, obs, if_pos (show idx.length < 1000000 by omega), i3, obs, w64 (x := ((plcs m).length : Int)) (by omega) (by omega), c]
 ·
  refine ⟨0, ?_, ?_, fun h => absurd h c⟩
  ·
   unfold spec_CountPlacings.f
   rw [good_eq hm hl (by omega), obs, if_neg c, Bool.eq_false_iff.mpr c]
  ·
   unfold impl_CountPlacings.f
   rw [are_eq hm, obs, if_neg c, Bool.eq_false_iff.mpr c]
theorem rTexts_l0 (l : List ByteArray) (hl : l.length ≤ 100000) (d : Nat) : ∀ (k i : Nat), i + d = l.length → d < k → laws_rTexts.l0 k l l i = some true := by
 induction d with
 | zero =>
  intro k i hd hk
  obtain ⟨k, rfl⟩ : ∃ m, k = m + 1 := ⟨k - 1, by omega⟩
  simp only [laws_rTexts.l0]
  rw [if_neg (by omega)]
 | succ d ih =>
  intro k i hd hk
  obtain ⟨k, rfl⟩ : ∃ m, k = m + 1 := ⟨k - 1, by omega⟩
  simp only [laws_rTexts.l0]
  rw [if_pos (by omega), if_pos (by omega), if_pos (by omega), if_pos trivial, w64 (by omega) (by omega)]
  exact ih k (i + 1) (by omega) (by omega)
theorem rTexts_eq {l : List ByteArray} (hl : l.length ≤ 100000) {k : Nat} (hk : l.length < k) : laws_rTexts.f k l l = some true := by
 unfold laws_rTexts.f
 rw [if_pos rfl]
 exact rTexts_l0 l hl l.length k 0 (by omega) hk
theorem waysOf_in {m : List S29} (hm : Names m) (hl : m.length ≤ 1048576) (c : labs m = true) {i : Int} (h0 : 0 ≤ i) (h1 : i < m.length) {k : Nat} (hk : 6 < k) : impl_WaysOf.f k m i = some (waysL m i, true) := by
 unfold impl_WaysOf.f
 rw [are_eq hm, obs, if_pos c, within_eq, obs, w64 (by omega) (by omega), decide_eq_true (show 0 ≤ i ∧ i ≤ (m.length : Int) - 1 from ⟨h0, by omega⟩), if_pos rfl, waysOf_impl hl h0 h1 hk, obs]
theorem lawB_l0 {m : List S29} (hm : Names m) (hl : m.length ≤ 7) {first : List Int} {b : Bool} (hb : b = true → PlaceOk m first) {st : List ByteArray} (hst : st = if labs m = true then stuck m m.length 0 else []) (d : Nat) : ∀ (K : Nat) (n i : Int), 0 ≤ i → i + d = m.length → 0 ≤ n → (labs m = true → n + ((stuck m d i).length : Int) = (st.length : Int)) → (labs m = false → n = 0) → 2 * d + 60 < K →
  laws_FnLabels.l0 K m first b st (labs m) n i = some true := by
 have hs7 : st.length ≤ 7 := by
  rw [hst]
  split
  ·
   exact Nat.le_trans (stuck_len m m.length 0) hl
  ·
   exact Nat.zero_le _
 induction d with
 | zero =>
  intro K n i h0 hd hn hc hf hK
  obtain ⟨K, rfl⟩ : ∃ m, K = m + 2 := ⟨K - 2, by omega⟩
  simp only [laws_FnLabels.l0]
  rw [if_neg (by omega)]
  simp only [laws_FnLabels.j7, Bool.false_eq_true, if_false]
  congr 1
  rw [beq_iff_eq]
  cases c : labs m with
  | true =>
   have := hc c
   unfold stuck at this
   simpa using this
  | false =>
   rw [hf c, hst, c, if_neg (by decide)]
   rfl
 | succ d ih =>
  intro K n i h0 hd hn hc hf hK
  obtain ⟨K, rfl⟩ : ∃ m, K = m + 2 := ⟨K - 2, by omega⟩
  have hi : i < (m.length : Int) := by omega
  simp only [laws_FnLabels.l0]
  rw [if_pos hi]
  cases c : labs m with
  | false =>
   simp only [laws_FnLabels.j7, Bool.false_eq_true, if_false]
   congr 1
   rw [beq_iff_eq, hf c, hst, c, if_neg (by decide)]
   rfl
  | true =>
   have hcc := hc c
   have hw4 := waysL_len m i
   unfold stuck at hcc
   simp only [laws_FnLabels.j7, if_true]
   rw [waysOf_in hm (by omega) c h0 hi (by omega), obs]
   simp only [if_true]
   have hd2 : ∀ N : Int, 0 ≤ N → N + ((stuck m d (i + 1)).length : Int) = (st.length : Int) → laws_FnLabels.l0 K m first b st true N (wrap64 (i + 1)) = some true := fun N hN0 hN => by
    rw [w64 (by omega) (by omega)]
    have := ih K N (i + 1) (by omega) (by omega) hN0 (fun _ => hN) (fun h => by rw [c] at h; cases h) (by omega)
    rw [c] at this
    exact this
   have hin : b = true → 0 ≤ i ∧ i < (first.length : Int) ∧ laws_rHas.f K (waysL m i) (rd first i) = some true := fun hb' => by
    have hp := hb hb'
    have hlen := hp.2.1
    exact ⟨h0, by omega, rHas_eq (by omega) (place_ways hp h0 hi) (by omega)⟩
   by_cases z : ((waysL m i).length : Int) = 0
   ·
    rw [if_pos z] at hcc
    rw [List.length_cons] at hcc
    have hnext := hd2 (n + 1) (by omega) (by omega)
    rw [if_pos z, w64 (x := n + 1) (by omega) (by omega)]
    cases b with
    | true =>
     obtain ⟨g1, g2, g3⟩ := hin rfl
     rw [if_pos rfl, if_pos g1, if_pos g2, g3, obs, if_pos rfl]
     exact hnext
    | false =>
     rw [if_neg (by decide)]
     exact hnext
   ·
    rw [if_neg z] at hcc
    have hnext := hd2 n hn hcc
    rw [if_neg z]
    cases b with
    | true =>
     obtain ⟨g1, g2, g3⟩ := hin rfl
     rw [if_pos rfl, if_pos g1, if_pos g2, g3, obs, if_pos rfl]
     exact hnext
    | false =>
     rw [if_neg (by decide)]
     exact hnext
theorem stuck_none {m : List S29} (h : ∀ i : Int, 0 ≤ i → i < m.length → ((waysL m i).length : Int) ≠ 0) (d : Nat) : ∀ i : Int, 0 ≤ i → i + d = m.length → stuck m d i = [] := by
 induction d with
 | zero => intro i _ _; rfl
 | succ d ih =>
  intro i h0 hd
  unfold stuck
  rw [if_neg (h i h0 (by omega))]
  exact ih (i + 1) (by omega) (by omega)
theorem lawB_j4 {m : List S29} (hm : Names m) (hl : m.length ≤ 7) {first : List Int} {b : Bool} (hb : b = true → PlaceOk m first) {K : Nat} (hK : 1050000 < K) : laws_FnLabels.j4 K m first b false = some true := by
 obtain ⟨K, rfl⟩ : ∃ m, K = m + 2 := ⟨K - 2, by omega⟩
 obtain ⟨r, t, e1, e2, e3, e4, e5⟩ := stuck_is hm (by omega) (k := K + 1) (by omega)
 subst e4
 have fin : laws_FnLabels.j5 (K + 1) m first b r (labs m) false = some true := by
  simp only [laws_FnLabels.j5, Bool.false_eq_true, if_false]
  refine lawB_l0 hm hl hb e5 m.length K 0 0 (Int.le_refl 0) (by omega) (Int.le_refl 0) (fun c => ?_) (fun _ => rfl) (by omega)
  rw [e5, if_pos c]
  omega
 simp only [laws_FnLabels.j4, Bool.false_eq_true, if_false]
 rw [e2, obs, e1, obs]
 simp only [bne_self_eq_false, Bool.false_eq_true, if_false]
 rw [rTexts_eq (by omega) (by omega), obs]
 simp only [if_true]
 cases b with
 | false =>
  rw [if_neg (by decide)]
  exact fin
 | true =>
  have hp := hb rfl
  have : r = [] := by
   rw [e5, if_pos hp.1]
   exact stuck_none (fun i h0 h1 hz => by
    have := List.length_pos_of_mem (place_ways hp h0 h1)
    omega) m.length 0 (Int.le_refl 0) (by omega)
  rw [if_pos rfl, decide_eq_false (show ¬ (r.length : Int) > 0 by rw [this]; decide)]
  exact fin
theorem FnLabels : FnLabels.Pure := by
 intro l0 hw
 have hc' : ∀ x, x ∈ l0 → 0 ≤ x ∧ x ≤ 255 := fun x hx => by
  have h := hw.2.2 x hx
  simp [Lit.wf, IntKind.min, IntKind.max, IntKind.signed, IntKind.bits] at h
  omega
 obtain ⟨K0, hK0⟩ : ∃ K0 : Nat, K0 = 1060000 := ⟨_, rfl⟩
 refine ⟨K0 + 5, ?_⟩
 unfold laws_FnLabels.f laws_rBig.f
 rw [obs]
 by_cases big : decide ((l0.length : Int) > 65536) = true
 ·
  rw [if_pos big]
 ·
  rw [if_neg big]
  obtain ⟨m, ws, e, hl, hws, hm⟩ := drawPlc_ok hc' (k := K0 + 5) (by omega)
  obtain ⟨p, q, e1, e2, e3, _⟩ := placing_both hm (by omega) ws (by omega) (k := K0 + 5) (by omega)
  obtain ⟨r, b, hr, hk, hb1, hb2⟩ := first_both hm (by omega)
  obtain ⟨n, c1, c2, c3⟩ := cnt_is hm (by omega) (k := K0 + 3) (by omega)
  have hplace : b = true → PlaceOk m r := fun hb => by
   cases c : labs m with
   | false => rw [hb2 c] at hb; cases hb
   | true =>
    obtain ⟨hr', hb'⟩ := hb1 c
    rw [hb'] at hb
    have hpos := of_decide_eq_true hb
    refine plcs_is c ?_
    rw [hr']
    cases hp : plcs m with
    | nil => rw [hp] at hpos; exact absurd hpos (by decide)
    | cons x t => exact List.mem_cons_self
  have hgive : p = true → b = true := fun hp => by
   have h := e3 hp
   have hmem := plcs_has h
   rw [(hb1 h.1).2]
   exact decide_eq_true (List.length_pos_of_mem hmem)
  rw [e, obs]
  simp only
  rw [e2, obs, e1, obs]
  simp only [bne_self_eq_false, Bool.false_eq_true, if_false]
  show laws_FnLabels.j0 (K0 + 4 + 1) m p false = some true
  simp only [laws_FnLabels.j0, Bool.false_eq_true, if_false]
  rw [(hk (K0 + 4) (by omega)).2, obs, (hk (K0 + 4) (by omega)).1, obs]
  simp only [bne_self_eq_false, Bool.false_eq_true, if_false]
  rw [rInts_eq (by omega) (by omega), obs]
  show laws_FnLabels.j1 (K0 + 3 + 1) m p r b (!true) = some true
  simp only [Bool.not_true, laws_FnLabels.j1, Bool.false_eq_true, if_false]
  rw [c2, obs, c1, obs]
  simp only [if_true, bne_self_eq_false, Bool.false_eq_true, if_false]
  rw [are_eq hm, obs]
  simp only [bne_self_eq_false, Bool.false_eq_true, if_false]
  have hj4 : laws_FnLabels.j4 (K0 + 1) m r b false = some true := lawB_j4 hm hl hplace (by omega)
  have hj3 : laws_FnLabels.j3 (K0 + 2) m p r b = some true := by
   simp only [laws_FnLabels.j3]
   cases p with
   | true =>
    rw [hgive rfl] at hj4 ⊢
    rw [if_pos rfl]
    exact hj4
   | false =>
    rw [if_neg (by decide)]
    exact hj4
  have hj2 : laws_FnLabels.j2 (K0 + 3) m p r b false = some true := by
   simp only [laws_FnLabels.j2, Bool.false_eq_true, if_false]
   cases hbb : b with
   | true =>
    rw [hbb] at hj3
    obtain ⟨p2, q2, f1, f2, _, f4⟩ := placing_both hm (by omega) r (by omega) (k := K0 + 2) (by omega)
    obtain ⟨rfl, rfl⟩ := f4 (hplace hbb)
    rw [if_pos rfl, f2, obs]
    simp only [if_true]
    exact hj3
   | false =>
    rw [hbb] at hj3
    rw [if_neg (by decide)]
    exact hj3
  cases c : labs m with
  | false =>
   rw [if_neg (by decide)]
   exact hj2
  | true =>
   rw [if_pos rfl, c3 c, (hb1 c).2]
   rw [(hb1 c).2] at hj2
   have : (decide (0 < (plcs m).length) != decide (((plcs m).length : Int) > 0)) = false := by
    rw [bne_eq_false_iff_eq, decide_eq_decide]
    omega
   rw [this]
   exact hj2
end Go.Proofs.YtjkcfpmonpkhhaaDoor.Pr.Pure

