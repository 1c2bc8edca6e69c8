/-
What is proved: parts of the law FnExactOpenLeads: what the functions that it reaches compute, and the plain law.
Conditions: those of each theorem.
-/
import Derived.Test.YthmjimboajmhmaaCFnExactOpenLeads3
namespace Go.Proofs.Ythmjimboajmhmaa.Pr.Pure
open Go.RowKit Go.Proofs.YthmjimboajmhmaaW.PrintWords Go.Proofs.YthmjimboajmhmaaW.PrintLast Go.Proofs.YthmjimboajmhmaaW.PrintMore
set_option linter.unusedVariables false
set_option linter.unusedSimpArgs false
theorem w64 {x : Int} (h1 : -9223372036854775808 ≤ x) (h2 : x ≤ 9223372036854775807) : wrap64 x = x := by
 unfold wrap64
 omega
theorem set_map_step {α β : Type} (f : α → β) (l : List α) (z : β) (i : Nat) (hi : i < l.length) (a : α) (ha : l[i]? = some a) :
  ((l.take i).map f ++ List.replicate (l.length - i) z).set i (f a) = (l.take (i + 1)).map f ++ List.replicate (l.length - (i + 1)) z := by
 have h1 : ((l.take i).map f).length = i := by simp; omega
 rw [List.set_append_right _ _ (by omega), h1, Nat.sub_self]
 obtain ⟨m, hm⟩ : ∃ m, l.length - i = m + 1 := ⟨l.length - i - 1, by omega⟩
 rw [hm, show l.length - (i + 1) = m by omega, List.replicate_succ, List.set_cons_zero, List.take_add_one, ha]
 simp
theorem getD_some {α : Type} (l : List α) (z : α) (i : Nat) (h : i < l.length) : l[i]? = some (l.getD i z) := by
 rw [List.getD_eq_getElem?_getD, List.getElem?_eq_getElem h]
 rfl
def cvLeg (x : S65) : S37 := ⟨x.f0, x.f1, x.f2, x.f3, x.f4⟩
theorem toLegS_l0 (l : List S65) (hl : l.length ≤ 4611686018427387904) (d : Nat) : ∀ (k i : Nat), i + d = l.length → d < k →
  laws_toLegS.l0 k l ((l.take i).map cvLeg ++ List.replicate (l.length - i) z37) i = some (l.map cvLeg) := by
 induction d with
 | zero =>
  intro k i hd hk
  obtain ⟨k, rfl⟩ : ∃ m, k = m + 1 := ⟨k - 1, by omega⟩
  simp only [laws_toLegS.l0]
  rw [if_neg (by omega), List.take_of_length_le (by omega), show l.length - i = 0 by omega]
  simp
 | succ d ih =>
  intro k i hd hk
  obtain ⟨k, rfl⟩ : ∃ m, k = m + 1 := ⟨k - 1, by omega⟩
  simp only [laws_toLegS.l0, laws_toLeg.f, Option.bind_some]
  rw [if_pos (by omega), if_pos (by omega), if_pos (by simp; omega), w64 (by omega) (by omega)]
  have ha : l[i]? = some (rd_T65 l i) := getD_some l z65 i (by omega)
  rw [Int.toNat_natCast]
  have := set_map_step cvLeg l z37 i (by omega) _ ha
  rw [show (⟨(rd_T65 l i).f0, (rd_T65 l i).f1, (rd_T65 l i).f2, (rd_T65 l i).f3, (rd_T65 l i).f4⟩ : S37) = cvLeg (rd_T65 l i) from rfl, this]
  exact ih k (i + 1) (by omega) (by omega)
theorem toLegS_eq {l : List S65} (hl : l.length * 40 ≤ 140737488351232) {k : Nat} (hk : l.length < k) : laws_toLegS.f k l = some (l.map cvLeg) := by
 unfold laws_toLegS.f
 rw [if_pos (by omega), if_pos (by omega), Int.toNat_natCast]
 have := toLegS_l0 l (by omega) l.length k 0 (by omega) hk
 simpa using this
theorem eqLegS_self (l : List S37) (hl : l.length ≤ 4611686018427387904) (d : Nat) : ∀ (k : Nat) (i : Int), 0 ≤ i → i + d = l.length → d < k → laws_eqLegS.l0 k l l i = some true := by
 induction d with
 | zero =>
  intro k i h0 hd hk
  obtain ⟨k, rfl⟩ : ∃ m, k = m + 1 := ⟨k - 1, by omega⟩
  simp only [laws_eqLegS.l0]
  rw [if_neg (by omega)]
 | succ d ih =>
  intro k i h0 hd hk
  obtain ⟨k, rfl⟩ : ∃ m, k = m + 1 := ⟨k - 1, by omega⟩
  simp only [laws_eqLegS.l0, laws_eqLeg.f, if_true, Option.bind_some]
  rw [if_pos (by omega), if_pos (by omega), if_pos (by omega), w64 (by omega) (by omega)]
  exact ih k (i + 1) (by omega) (by omega) (by omega)
theorem eqLegS_eq {l : List S37} (hl : l.length ≤ 4611686018427387904) {k : Nat} (hk : l.length < k) : laws_eqLegS.f k l l = some true := by
 unfold laws_eqLegS.f
 rw [if_pos rfl]
 exact eqLegS_self l hl l.length k 0 (by omega) (by omega) hk
theorem toBoolS_l0 (l : List Bool) (hl : l.length ≤ 4611686018427387904) (d : Nat) : ∀ (k i : Nat), i + d = l.length → d < k →
  laws_toBoolS.l0 k l (l.take i ++ List.replicate (l.length - i) false) i = some l := by
 induction d with
 | zero =>
  intro k i hd hk
  obtain ⟨k, rfl⟩ : ∃ m, k = m + 1 := ⟨k - 1, by omega⟩
  simp only [laws_toBoolS.l0]
  rw [if_neg (by omega), List.take_of_length_le (by omega), show l.length - i = 0 by omega]
  simp
 | succ d ih =>
  intro k i hd hk
  obtain ⟨k, rfl⟩ : ∃ m, k = m + 1 := ⟨k - 1, by omega⟩
  simp only [laws_toBoolS.l0]
  rw [if_pos (by omega), if_pos (by omega), if_pos (by simp; omega), w64 (by omega) (by omega)]
  have ha : l[i]? = some (rdOf false l i) := getD_some l false i (by omega)
  rw [Int.toNat_natCast]
  have := set_map_step (fun x : Bool => x) l false i (by omega) _ ha
  rw [List.map_id'', List.map_id''] at this
  ·
   rw [this]
   exact ih k (i + 1) (by omega) (by omega)
  ·
   exact fun _ => rfl
  ·
   exact fun _ => rfl
theorem toBoolS_eq {l : List Bool} (hl : l.length ≤ 140737488351232) {k : Nat} (hk : l.length < k) : laws_toBoolS.f k l = some l := by
 unfold laws_toBoolS.f
 rw [if_pos (by omega), if_pos (by omega), Int.toNat_natCast]
 have := toBoolS_l0 l (by omega) l.length k 0 (by omega) hk
 simpa using this
theorem eqBoolS_self (l : List Bool) (hl : l.length ≤ 4611686018427387904) (d : Nat) : ∀ (k : Nat) (i : Int), 0 ≤ i → i + d = l.length → d < k → laws_eqBoolS.l0 k l l i = some true := by
 induction d with
 | zero =>
  intro k i h0 hd hk
  obtain ⟨k, rfl⟩ : ∃ m, k = m + 1 := ⟨k - 1, by omega⟩
  simp only [laws_eqBoolS.l0]
  rw [if_neg (by omega)]
 | succ d ih =>
  intro k i h0 hd hk
  obtain ⟨k, rfl⟩ : ∃ m, k = m + 1 := ⟨k - 1, by omega⟩
  simp only [laws_eqBoolS.l0, bne_self_eq_false, Bool.false_eq_true, if_false]
  rw [if_pos (by omega), if_pos (by omega), if_pos (by omega), w64 (by omega) (by omega)]
  exact ih k (i + 1) (by omega) (by omega) (by omega)
theorem eqBoolS_eq {l : List Bool} (hl : l.length ≤ 4611686018427387904) {k : Nat} (hk : l.length < k) : laws_eqBoolS.f k l l = some true := by
 unfold laws_eqBoolS.f
 rw [if_pos rfl]
 exact eqBoolS_self l hl l.length k 0 (by omega) (by omega) hk
theorem toExploration_eq {l : List S65} {v d : List Bool} {a b : Int} (hl : l.length * 40 ≤ 140737488351232) (hv : v.length ≤ 140737488351232) (hd : d.length ≤ 140737488351232) {k : Nat} (hk : l.length < k) (hk1 : v.length < k) (hk2 : d.length < k) :
  laws_toExploration.f k l v d a b = some (l.map cvLeg, v, d, a, b) := by
 unfold laws_toExploration.f
 rw [toLegS_eq hl hk, toBoolS_eq hv hk1, toBoolS_eq hd hk2]
 rfl
theorem eqExploration_eq {l : List S37} {v d : List Bool} {a b : Int} (hl : l.length ≤ 4611686018427387904) (hv : v.length ≤ 4611686018427387904) (hd : d.length ≤ 4611686018427387904) {k : Nat} (hk : l.length < k) (hk1 : v.length < k) (hk2 : d.length < k) :
  laws_eqExploration.f k l v d a b l v d a b = some true := by
 unfold laws_eqExploration.f
 rw [eqLegS_eq hl hk, eqBoolS_eq hv hk1, eqBoolS_eq hd hk2]
 simp
theorem l1In_eq (a b c : Int) : spec_l1In.f a b c = some (decide (b ≤ a ∧ a ≤ c)) := by
 unfold spec_l1In.f
 by_cases h : a ≥ b
 ·
  rw [if_pos h]; simp [show b ≤ a from h]
 ·
  rw [if_neg h]; simp [show ¬ b ≤ a from h]
theorem within_eq (a b c : Int) : impl_within.f a b c = some (decide (b ≤ a ∧ a ≤ c)) := by
 unfold impl_within.f
 by_cases h : a ≥ b
 ·
  rw [if_pos h]; simp [show b ≤ a from h]
 ·
  rw [if_neg h]; simp [show ¬ b ≤ a from h]
theorem station_eq (a : Int) : spec_l4Station.f a = some (decide (0 ≤ a ∧ a ≤ 7)) := by
 unfold spec_l4Station.f; rw [l1In_eq]; rfl
theorem isStation_eq (a : Int) : impl_isStation.f a = some (decide (0 ≤ a ∧ a ≤ 7)) := by
 unfold impl_isStation.f; rw [within_eq]; rfl
def LegOk (x : S37) : Prop := (0 ≤ x.f0 ∧ x.f0 ≤ 7) ∧ (0 ≤ x.f1 ∧ x.f1 ≤ 7) ∧ x.f0 ≠ x.f1 ∧ (1 ≤ x.f2 ∧ x.f2 ≤ 500) ∧ (0 ≤ x.f3 ∧ x.f3 ≤ 359) ∧ (-90 ≤ x.f4 ∧ x.f4 ≤ 90)
theorem leg_spec (x : S37) : ∃ b, spec_l4Leg.f x.f0 x.f1 x.f2 x.f3 x.f4 = some b ∧ (b = true ↔ LegOk x) := by
 unfold spec_l4Leg.f spec_l2Bearing.f LegOk
 simp only [station_eq, l1In_eq, Option.bind_some, decide_eq_true_eq]
 by_cases h1 : 0 ≤ x.f0 ∧ x.f0 ≤ 7
 ·
  rw [if_pos h1]
  by_cases h2 : 0 ≤ x.f1 ∧ x.f1 ≤ 7
  ·
   rw [if_pos h2]
   by_cases h3 : x.f0 = x.f1
   ·
    rw [if_pos h3]
    exact ⟨_, rfl, fun h => (by cases h), fun h => absurd h3 h.2.2.1⟩
   ·
    rw [if_neg h3]
    by_cases h4 : 1 ≤ x.f2 ∧ x.f2 ≤ 500
    ·
     rw [if_pos h4]
     by_cases h5 : 0 ≤ x.f3 ∧ x.f3 ≤ 359
     ·
      rw [if_pos h5]
      refine ⟨_, rfl, ?_⟩
      rw [decide_eq_true_eq]
      exact ⟨fun h => ⟨h1, h2, h3, h4, h5, h⟩, fun h => h.2.2.2.2.2⟩
     ·
      rw [if_neg h5]
      exact ⟨_, rfl, fun h => (by cases h), fun h => absurd h.2.2.2.2.1 h5⟩
    ·
     rw [if_neg h4]
     exact ⟨_, rfl, fun h => (by cases h), fun h => absurd h.2.2.2.1 h4⟩
  ·
   rw [if_neg h2]
   exact ⟨_, rfl, fun h => (by cases h), fun h => absurd h.2.1 h2⟩
 ·
  rw [if_neg h1]
  exact ⟨_, rfl, fun h => (by cases h), fun h => absurd h.1 h1⟩
theorem leg_impl (a b c d e : Int) : impl_IsLeg.f a b c d e = spec_l4Leg.f a b c d e := by
 unfold impl_IsLeg.f spec_l4Leg.f impl_isBearing.f spec_l2Bearing.f
 simp only [station_eq, isStation_eq, within_eq, l1In_eq]
theorem legs_spec (l : List S37) (hl : l.length ≤ 4611686018427387904) (d : Nat) : ∀ (k : Nat) (i : Int), 0 ≤ i → i + d = l.length → d < k →
  ∃ b, spec_l4Legs.l0 k l i = some b ∧ (b = true ↔ (∀ j : Int, i ≤ j → j < l.length → LegOk (rd_T37 l j)) ∧ l.length ≤ 12) := by
 induction d with
 | zero =>
  intro k i h0 hd hk
  obtain ⟨k, rfl⟩ : ∃ m, k = m + 1 := ⟨k - 1, by omega⟩
  refine ⟨_, by simp only [spec_l4Legs.l0]; rw [if_neg (by omega)], ?_⟩
  rw [decide_eq_true_eq]
  constructor
  ·
   intro h
   exact ⟨fun j h1 h2 => by omega, by omega⟩
  ·
   intro h
   omega
 | succ d ih =>
  intro k i h0 hd hk
  obtain ⟨k, rfl⟩ : ∃ m, k = m + 1 := ⟨k - 1, by omega⟩
  obtain ⟨b, hb, hiff⟩ := ih k (i + 1) (by omega) (by omega) (by omega)
  obtain ⟨x, hx, hxi⟩ := leg_spec (rd_T37 l i)
  simp only [spec_l4Legs.l0]
  rw [if_pos (show i < (l.length : Int) by omega), if_pos h0, hx, w64 (by omega) (by omega)]
  simp only [Option.bind_some]
  cases x with
  | false =>
   rw [if_neg (by decide)]
   exact ⟨_, rfl, fun h => (by cases h), fun h => (by have := hxi.2 (h.1 i (by omega) (by omega)); cases this)⟩
  | true =>
   rw [if_pos rfl]
   refine ⟨b, hb, ?_⟩
   rw [hiff]
   refine ⟨fun h => ⟨fun j h1 h2 => ?_, h.2⟩, fun h => ⟨fun j h1 h2 => h.1 j (by omega) h2, h.2⟩⟩
   by_cases e : j = i
   ·
    rw [e]; exact hxi.1 rfl
   ·
    exact h.1 j (by omega) h2
theorem legs_impl (l : List S37) : ∀ (k : Nat) (i : Int), impl_areLegs.l0 k l l (l.length : Int) i = spec_l4Legs.l0 k l i
 | 0, i => by simp only [impl_areLegs.l0, spec_l4Legs.l0]
 | k + 1, i => by
  simp only [impl_areLegs.l0, spec_l4Legs.l0, leg_impl, legs_impl l k]
  by_cases h1 : i < (l.length : Int)
  ·
   simp only [if_pos h1]
  ·
   simp only [if_neg h1]
def usable (v : List Bool) (g : S37) : Bool := rdOf false v g.f0 && rdOf false v g.f1
def arcsOf (v : List Bool) : List S37 → List Arc
 | [] => []
 | g :: l => if usable v g = true then ⟨g.f0, g.f1, g.f2⟩ :: ⟨g.f1, g.f0, g.f2⟩ :: arcsOf v l else arcsOf v l
def LegsOk (l : List S37) : Prop := ∀ x, x ∈ l → LegOk x
theorem legsOk_of {l : List S37} (h : ∀ j : Int, 0 ≤ j → j < l.length → LegOk (rd_T37 l j)) : LegsOk l := by
 intro x hx
 obtain ⟨i, hi, rfl⟩ := List.mem_iff_getElem.1 hx
 have := h (i : Int) (by omega) (by omega)
 have e : rd_T37 l (i : Int) = l[i] := by
  show l.getD (i : Int).toNat _ = _
  rw [Int.toNat_natCast, List.getD_eq_getElem?_getD, List.getElem?_eq_getElem hi]
  rfl
 rwa [e] at this
theorem rdLeg_mem {l : List S37} {i : Int} (h0 : 0 ≤ i) (h1 : i < l.length) : rd_T37 l i ∈ l := by
 show l.getD i.toNat _ ∈ l
 rw [List.getD_eq_getElem?_getD, List.getElem?_eq_getElem (by omega)]
 exact List.getElem_mem _
theorem drop_rdLeg (l : List S37) (i : Nat) (h : i < l.length) : l.drop i = rd_T37 l (i : Int) :: l.drop (i + 1) := by
 rw [List.drop_eq_getElem_cons h]
 congr 1
 show _ = l.getD (i : Int).toNat _
 rw [Int.toNat_natCast, List.getD_eq_getElem?_getD, List.getElem?_eq_getElem h]
 rfl
theorem arcs_ok (v : List Bool) (l : List S37) (h : LegsOk l) : OkA (arcsOf v l) := by
 induction l with
 | nil => intro e he; cases he
 | cons g l ih =>
  have hg := h g List.mem_cons_self
  have ih := ih (fun x hx => h x (List.mem_cons_of_mem _ hx))
  intro e he
  unfold arcsOf at he
  split at he
  ·
   rcases List.mem_cons.1 he with rfl | he
   ·
    exact ⟨⟨hg.1.1, by have := hg.1.2; show g.f0 < 8; omega⟩, ⟨hg.2.1.1, by have := hg.2.1.2; show g.f1 < 8; omega⟩, hg.2.2.2.1⟩
   ·
    rcases List.mem_cons.1 he with rfl | he
    ·
     exact ⟨⟨hg.2.1.1, by have := hg.2.1.2; show g.f1 < 8; omega⟩, ⟨hg.1.1, by have := hg.1.2; show g.f0 < 8; omega⟩, hg.2.2.2.1⟩
    ·
     exact ih e he
  ·
   exact ih e he
def far8 (D : List Int) : Prop := D.length = 8 ∧ (∀ i, In8 i → 0 ≤ rd D i) ∧ (∀ i, In8 i → rd D i ≤ FAR)
theorem far8_step {D : List Int} (h : far8 D) {a b t : Int} (ha : In8 a) (hb : In8 b) (ht : 0 ≤ t) : far8 (step1 D a b t) := by
 refine ⟨by rw [len_step1, h.1], fun i hi => ?_, fun i hi => Int.le_trans (step1_le h.1 hb hi t) (h.2.2 i hi)⟩
 rw [rd_step1 h.1 hb hi]
 have := h.2.1 a ha
 split
 ·
  omega
 ·
  exact h.2.1 i hi
theorem set_same8 {D : List Int} (h : D.length = 8) {b : Int} (hb : In8 b) : D.set b.toNat (rd D b) = D := by
 apply ext8 (by rw [List.length_set, h]) h
 intro i hi
 rw [rd_set h hb hi]
 split
 ·
  rename_i e
  rw [e]
 ·
  rfl
theorem mn_step {D : List Int} (h : far8 D) {a b t : Int} (ha : In8 a) (hb : In8 b) (ht : 0 ≤ t) (ht' : t ≤ 500) : D.set b.toNat (mn (rd D b) (wrap64 (rd D a + t))) = step1 D a b t := by
 have a0 := h.2.1 a ha
 have a1 := h.2.2 a ha
 unfold FAR at a1
 rw [w64 (by omega) (by omega)]
 unfold mn step1
 by_cases hc : rd D a + t < rd D b
 ·
  rw [if_pos hc, if_pos hc]
 ·
  rw [if_neg hc, if_neg hc, set_same8 h.1 hb]
theorem in8 {a : Int} (h0 : 0 ≤ a) (h1 : a ≤ 7) : In8 a := ⟨h0, by omega⟩
theorem wayOut_l1 (l : List S37) (hl : LegsOk l) (hn : l.length ≤ 12) (v d : List Bool) (hv : v.length = 8) (a b r : Int) (n : Nat) : ∀ (k i : Nat) (D : List Int), i + n = l.length → n < k → far8 D →
  ∃ k', k ≤ k' + n + 1 ∧ k' < k ∧ impl_Exploration_wayOut.l1 k D r l (l.length : Int) i l v d a b = impl_Exploration_wayOut.l0 k' (rnd (arcsOf v (l.drop i)) D) (wrap64 (r + 1)) l v d a b := by
 induction n with
 | zero =>
  intro k i D hi hk hD
  obtain ⟨k, rfl⟩ : ∃ m, k = m + 1 := ⟨k - 1, by omega⟩
  refine ⟨k, by omega, by omega, ?_⟩
  simp only [impl_Exploration_wayOut.l1]
  rw [if_neg (by omega), List.drop_eq_nil_of_le (by omega)]
  rfl
 | succ n ih =>
  intro k i D hi hk hD
  obtain ⟨k, rfl⟩ : ∃ m, k = m + 1 := ⟨k - 1, by omega⟩
  rw [drop_rdLeg l i (by omega)]
  have hg := hl _ (rdLeg_mem (l := l) (i := (i : Int)) (by omega) (by omega))
  generalize hge : rd_T37 l (i : Int) = g at hg
  have i0 := in8 hg.1.1 hg.1.2
  have i1 := in8 hg.2.1.1 hg.2.1.2
  obtain ⟨g00, g01⟩ := hg.1
  obtain ⟨g10, g11⟩ := hg.2.1
  obtain ⟨ht, ht'⟩ := hg.2.2.2.1
  simp only [impl_Exploration_wayOut.l1, hge]
  rw [if_pos (by omega), if_pos (by omega), if_pos (by omega), if_pos (by omega), if_pos (by omega), w64 (x := (i : Int) + 1) (by omega) (by omega)]
  unfold arcsOf usable
  cases h0 : rdOf false v g.f0 with
  | false =>
   rw [if_neg (by decide)]
   obtain ⟨k', h1, h2, h3⟩ := ih k (i + 1) D (by omega) (by omega) hD
   exact ⟨k', by omega, by omega, h3⟩
  | true =>
   rw [if_pos rfl, if_pos (by omega), if_pos (by omega)]
   cases h1 : rdOf false v g.f1 with
   | false =>
    rw [if_neg (by decide)]
    obtain ⟨k', h1, h2, h3⟩ := ih k (i + 1) D (by omega) (by omega) hD
    exact ⟨k', by omega, by omega, h3⟩
   | true =>
    have hl8 := hD.1
    rw [if_pos rfl, if_pos (by omega), if_pos (by omega), mn_step hD i1 i0 (by omega) ht']
    simp only [Option.bind_some]
    rw [mn_step (far8_step hD i1 i0 (by omega)) i0 i1 (by omega) ht', relax_comm hl8 i0 i1 ht]
    obtain ⟨k', h1, h2, h3⟩ := ih k (i + 1) (step1 (step1 D g.f0 g.f1 g.f2) g.f1 g.f0 g.f2) (by omega) (by omega) (far8_step (far8_step hD i0 i1 (by omega)) i1 i0 (by omega))
    exact ⟨k', by omega, by omega, h3⟩
theorem wayOut_l0 (l : List S37) (hl : LegsOk l) (hn : l.length ≤ 12) (v d : List Bool) (hv : v.length = 8) (a b : Int) (ha : In8 a) (n : Nat) : ∀ (k r : Nat), r + n = 8 → n * 16 < k →
  impl_Exploration_wayOut.l0 k (it (arcsOf v l) r D0) r l v d a b = some (rd (it (arcsOf v l) 8 D0) a, decide (rd (it (arcsOf v l) 8 D0) a < FAR)) := by
 induction n with
 | zero =>
  intro k r hr hk
  obtain ⟨k, rfl⟩ : ∃ m, k = m + 1 := ⟨k - 1, by omega⟩
  obtain rfl : r = 8 := by omega
  have := (it_inv (arcs_ok v l hl) (D0_inv _) 8).len
  simp only [impl_Exploration_wayOut.l0]
  rw [if_neg (by decide), if_pos ha.1, if_pos (by have := ha.2; omega)]
  rfl
 | succ n ih =>
  intro k r hr hk
  obtain ⟨k, rfl⟩ : ∃ m, k = m + 1 := ⟨k - 1, by omega⟩
  simp only [impl_Exploration_wayOut.l0]
  rw [if_pos (by omega)]
  have I := it_inv (arcs_ok v l hl) (D0_inv _) r
  obtain ⟨k', h1, h2, h3⟩ := wayOut_l1 l hl hn v d hv a b r l.length k 0 (it (arcsOf v l) r D0) (by omega) (by omega) ⟨I.len, I.lo, I.hi⟩
  rw [show ((0 : Nat) : Int) = 0 from rfl] at h3
  rw [h3, w64 (by omega) (by omega), List.drop_zero]
  exact ih k' (r + 1) (by omega) (by omega)
theorem wayOut_eq {l : List S37} (hl : LegsOk l) (hn : l.length ≤ 12) {v : List Bool} (d : List Bool) (hv : v.length = 8) {a : Int} (b : Int) (ha : In8 a) {k : Nat} (hk : 200 ≤ k) :
  impl_Exploration_wayOut.f k l v d a b = some (rd (it (arcsOf v l) 7 D0) a, decide (rd (it (arcsOf v l) 7 D0) a < FAR)) := by
 have h := wayOut_l0 l hl hn v d hv a b ha 8 k 0 (by omega) (by omega)
 have e : it (arcsOf v l) 8 D0 = it (arcsOf v l) 7 D0 := fix7 (arcs_ok v l hl)
 rw [e] at h
 exact h
def stF (F : List Int) (a b t : Int) : List Int := if rd F a ≥ 0 ∧ (rd F b < 0 ∨ wrap64 (rd F a + t) < rd F b) then F.set b.toNat (wrap64 (rd F a + t)) else F
def cF (F : List Int) (a b t : Int) : Bool := decide (rd F a ≥ 0 ∧ (rd F b < 0 ∨ wrap64 (rd F a + t) < rd F b))
theorem out_l2 (l : List S37) (v : List Bool) (p : Int) (F : List Int) (ag : Bool) (i : Int) (h0 : 0 ≤ i) (hi : i < l.length) (hl : l.length ≤ 12) (hF : F.length = 8) (hv : v.length = 8) (i0 : In8 (rd_T37 l i).f0) (i1 : In8 (rd_T37 l i).f1) (k : Nat) :
  ∃ k', k ≤ k' ∧ k' ≤ k + 1 ∧ spec_l25Out.l2 (k + 3) l v p F ag i = (if usable v (rd_T37 l i) = true then spec_l25Out.l2 k' l v p (stF (stF F (rd_T37 l i).f0 (rd_T37 l i).f1 (rd_T37 l i).f2) (rd_T37 l i).f1 (rd_T37 l i).f0 (rd_T37 l i).f2) (ag || cF F (rd_T37 l i).f0 (rd_T37 l i).f1 (rd_T37 l i).f2 || cF (stF F (rd_T37 l i).f0 (rd_T37 l i).f1 (rd_T37 l i).f2) (rd_T37 l i).f1 (rd_T37 l i).f0 (rd_T37 l i).f2) (i + 1) else spec_l25Out.l2 k' l v p F ag (i + 1)) := by
 simp only [spec_l25Out.l2, w64 (x := i + 1) (by omega) (by omega)]
 generalize hge : rd_T37 l i = g at i0 i1
 obtain ⟨i00, i01⟩ := i0
 obtain ⟨i10, i11⟩ := i1
 rw [if_pos hi, if_pos h0, if_pos i00, if_pos (by omega)]
 unfold usable
 cases h0' : rdOf false v g.f0 with
 | false =>
  refine ⟨k + 1, by omega, by omega, ?_⟩
  rw [if_neg (by decide), if_neg (by simp)]
  simp only [spec_l25Out.j3, if_true, w64 (x := i + 1) (by omega) (by omega)]
 | true =>
  rw [if_pos rfl, if_pos i10, if_pos (by omega)]
  cases h1' : rdOf false v g.f1 with
  | false =>
   refine ⟨k + 1, by omega, by omega, ?_⟩
   rw [if_neg (by decide)]
   simp only [spec_l25Out.j3, Bool.not_false, if_true, w64 (x := i + 1) (by omega) (by omega)]
  | true =>
   refine ⟨k, by omega, by omega, ?_⟩
   rw [if_pos (by decide)]
   have tail : ∀ (Y : List Int) (ag' : Bool) (m : Int), m = 8 → (if rd Y g.f1 ≥ 0 then (if 0 ≤ g.f0 then (if g.f0 < m then (if rd Y g.f0 < 0 then spec_l25Out.l2 k l v p (Y.set g.f0.toNat (wrap64 (rd Y g.f1 + g.f2))) true (i + 1) else (if wrap64 (rd Y g.f1 + g.f2) < rd Y g.f0 then spec_l25Out.l2 k l v p (Y.set g.f0.toNat (wrap64 (rd Y g.f1 + g.f2))) true (i + 1) else spec_l25Out.l2 k l v p Y ag' (i + 1))) else none) else none) else spec_l25Out.l2 k l v p Y ag' (i + 1)) = spec_l25Out.l2 k l v p (stF Y g.f1 g.f0 g.f2) (ag' || cF Y g.f1 g.f0 g.f2) (i + 1) := by
    intro Y ag' m hY
    unfold stF cF
    by_cases c1 : rd Y g.f1 ≥ 0
    ·
     rw [if_pos c1, if_pos i00, if_pos (by omega)]
     by_cases c2 : rd Y g.f0 < 0
     ·
      rw [if_pos c2, if_pos ⟨c1, .inl c2⟩, decide_eq_true ⟨c1, .inl c2⟩, Bool.or_true]
     ·
      rw [if_neg c2]
      by_cases c3 : wrap64 (rd Y g.f1 + g.f2) < rd Y g.f0
      ·
       rw [if_pos c3, if_pos ⟨c1, .inr c3⟩, decide_eq_true ⟨c1, .inr c3⟩, Bool.or_true]
      ·
       have hn : ¬ (rd Y g.f1 ≥ 0 ∧ (rd Y g.f0 < 0 ∨ wrap64 (rd Y g.f1 + g.f2) < rd Y g.f0)) := fun h => by rcases h.2 with z | z <;> contradiction
       rw [if_neg c3, if_neg hn, decide_eq_false hn, Bool.or_false]
    ·
     have hn : ¬ (rd Y g.f1 ≥ 0 ∧ (rd Y g.f0 < 0 ∨ wrap64 (rd Y g.f1 + g.f2) < rd Y g.f0)) := fun h => c1 h.1
     rw [if_neg c1, if_neg hn, decide_eq_false hn, Bool.or_false]
   have main : ∀ (c : Bool), (c = true → (rd F g.f0 ≥ 0 ∧ (rd F g.f1 < 0 ∨ wrap64 (rd F g.f0 + g.f2) < rd F g.f1))) → (c = false → ¬ (rd F g.f0 ≥ 0 ∧ (rd F g.f1 < 0 ∨ wrap64 (rd F g.f0 + g.f2) < rd F g.f1))) → spec_l25Out.j4 (k + 1) l v p F ag i g.f0 g.f1 (wrap64 (rd F g.f0 + g.f2)) c = spec_l25Out.l2 k l v p (stF (stF F g.f0 g.f1 g.f2) g.f1 g.f0 g.f2) (ag || cF F g.f0 g.f1 g.f2 || cF (stF F g.f0 g.f1 g.f2) g.f1 g.f0 g.f2) (i + 1) := by
    intro c hc1 hc2
    simp only [spec_l25Out.j4, hge, w64 (x := i + 1) (by omega) (by omega)]
    cases c with
    | true =>
     have hc := hc1 rfl
     rw [if_pos rfl, if_pos i10, if_pos (by omega)]
     simp only [Option.bind_some]
     rw [if_pos h0, if_pos hi, tail (F.set g.f1.toNat (wrap64 (rd F g.f0 + g.f2))) true (F.length : Int) (by omega)]
     have e : stF F g.f0 g.f1 g.f2 = F.set g.f1.toNat (wrap64 (rd F g.f0 + g.f2)) := by
      unfold stF
      rw [if_pos hc]
     have e2 : cF F g.f0 g.f1 g.f2 = true := decide_eq_true hc
     rw [e, e2, Bool.or_true]
    | false =>
     have hc := hc2 rfl
     rw [if_neg (by decide), if_pos i10, if_pos (by omega), if_pos h0, if_pos hi, tail F ag (F.length : Int) (by omega)]
     have e : stF F g.f0 g.f1 g.f2 = F := by
      unfold stF
      rw [if_neg hc]
     have e2 : cF F g.f0 g.f1 g.f2 = false := decide_eq_false hc
     rw [e, e2, Bool.or_false]
   simp only [spec_l25Out.j3, hge, Bool.not_true, Bool.false_eq_true, if_false]
   rw [if_pos i00, if_pos (by omega), if_pos h0, if_pos hi]
   by_cases c1 : rd F g.f0 ≥ 0
   ·
    rw [if_pos c1, if_pos i10, if_pos (by omega)]
    by_cases c2 : rd F g.f1 < 0
    ·
     rw [if_pos c2, main true (fun _ => ⟨c1, .inl c2⟩) (fun h => by cases h)]
    ·
     rw [if_neg c2]
     by_cases c3 : wrap64 (rd F g.f0 + g.f2) < rd F g.f1
     ·
      rw [decide_eq_true c3, main true (fun _ => ⟨c1, .inr c3⟩) (fun h => by cases h)]
     ·
      rw [decide_eq_false c3, main false (fun h => by cases h) (fun _ h => by rcases h.2 with z | z <;> contradiction)]
   ·
    rw [if_neg c1, main false (fun h => by cases h) (fun _ h => c1 h.1)]
theorem stF_dec {c : Int} {D : List Int} (h : far8 D) (hb : Bd c D) (hc : c + 500 < FAR) {a b t : Int} (ha : In8 a) (hb8 : In8 b) (ht : 1 ≤ t) (ht' : t ≤ 500) :
  stF (D.map dec) a b t = (step1 D a b t).map dec ∧ (cF (D.map dec) a b t = true ↔ rd D a + t < rd D b) := by
 obtain ⟨h1, h2, h3⟩ := cond_dec h.1 h.2.1 h.2.2 hb hc ha hb8 ht ht'
 have a0 := h.2.1 a ha
 unfold stF cF step1
 rw [decide_eq_true_eq]
 by_cases hf : rd D a < FAR
 ·
  obtain ⟨e, e2, e3⟩ := h2 hf
  have hw : wrap64 (rd (D.map dec) a + t) = rd D a + t := by
   rw [e, w64 (by omega) (by unfold FAR at e3; omega)]
  have hcnd : (rd (D.map dec) a ≥ 0 ∧ (rd (D.map dec) b < 0 ∨ rd D a + t < rd (D.map dec) b)) ↔ rd D a + t < rd D b := ⟨fun z => e2.1 z.2, fun z => ⟨h1.2 hf, e2.2 z⟩⟩
  rw [hw]
  by_cases hlt : rd D a + t < rd D b
  ·
   rw [if_pos (hcnd.2 hlt), if_pos hlt, map_set_dec _ _ _ (by omega)]
   exact ⟨rfl, hcnd⟩
  ·
   rw [if_neg (fun z => hlt (hcnd.1 z)), if_neg hlt]
   exact ⟨rfl, hcnd⟩
 ·
  have hn := h3 hf
  rw [if_neg (fun z => hf (h1.1 z.1)), if_neg hn]
  exact ⟨rfl, fun z => absurd (h1.1 z.1) hf, fun z => absurd z hn⟩
theorem out_round (l : List S37) (hl : LegsOk l) (hn : l.length ≤ 12) (v : List Bool) (hv : v.length = 8) (p : Int) (n : Nat) : ∀ (k i : Nat) (D : List Int) (ag : Bool) (c : Int), i + n = l.length → 3 * n < k → far8 D → Bd c D → c + 1000 * n < FAR →
  ∃ k' ag', k ≤ k' + 3 * n + 1 ∧ k' < k ∧ spec_l25Out.l2 k l v p (D.map dec) ag i = spec_l25Out.l1 k' l v p ((rnd (arcsOf v (l.drop i)) D).map dec) ag' ∧ Bd (c + 1000 * n) (rnd (arcsOf v (l.drop i)) D) ∧ (ag' = true → ag = true ∨ sum8 (rnd (arcsOf v (l.drop i)) D) < sum8 D) ∧ (ag' = false → ag = false ∧ rnd (arcsOf v (l.drop i)) D = D) := by
 induction n with
 | zero =>
  intro k i D ag c hi hk hD hb hc
  obtain ⟨k, rfl⟩ : ∃ m, k = m + 1 := ⟨k - 1, by omega⟩
  refine ⟨k, ag, by omega, by omega, ?_, ?_, fun h => .inl h, fun h => ⟨h, ?_⟩⟩
  ·
   simp only [spec_l25Out.l2]
   rw [if_neg (by omega), List.drop_eq_nil_of_le (by omega)]
   rfl
  ·
   rw [List.drop_eq_nil_of_le (by omega)]
   exact hb.mono (by omega)
  ·
   rw [List.drop_eq_nil_of_le (by omega)]
   rfl
 | succ n ih =>
  intro k i D ag c hi hk hD hb hc
  obtain ⟨k, rfl⟩ : ∃ m, k = m + 3 := ⟨k - 3, by omega⟩
  have hg := hl _ (rdLeg_mem (l := l) (i := (i : Int)) (by omega) (by omega))
  have i0 := in8 hg.1.1 hg.1.2
  have i1 := in8 hg.2.1.1 hg.2.1.2
  obtain ⟨ht, ht'⟩ := hg.2.2.2.1
  obtain ⟨k1, hk1, hk2, e⟩ := out_l2 l v p (D.map dec) ag i (by omega) (by omega) hn (by rw [List.length_map, hD.1]) hv i0 i1 k
  rw [drop_rdLeg l i (by omega)]
  generalize hge : rd_T37 l (i : Int) = g at hg i0 i1 ht ht' e
  rw [e]
  cases hu : usable v g with
  | false =>
   rw [if_neg (by decide)]
   obtain ⟨k', ag', h1, h2, h3, h4, h5, h6⟩ := ih k1 (i + 1) D ag c (by omega) (by omega) hD hb (by omega)
   have ea : arcsOf v (g :: l.drop (i + 1)) = arcsOf v (l.drop (i + 1)) := by
    show (if usable v g = true then _ else _) = _
    rw [hu, if_neg (by decide)]
   rw [ea]
   exact ⟨k', ag', by omega, by omega, h3, h4.mono (by omega), h5, h6⟩
  | true =>
   rw [if_pos rfl]
   have ea : ∀ E, rnd (arcsOf v (g :: l.drop (i + 1))) E = rnd (arcsOf v (l.drop (i + 1))) (step1 (step1 E g.f0 g.f1 g.f2) g.f1 g.f0 g.f2) := by
    intro E
    show rnd (if usable v g = true then _ else _) _ = _
    rw [hu, if_pos rfl]
    rfl
   rw [ea D]
   obtain ⟨s1, s2⟩ := stF_dec hD hb (by omega) i0 i1 ht ht'
   have hD1 := far8_step hD i0 i1 (t := g.f2) (by omega)
   have hb1 := step_bd hD.1 hb i0 i1 ht' hD.2.2 (by omega)
   obtain ⟨s3, s4⟩ := stF_dec hD1 hb1 (by omega) i1 i0 ht ht'
   have hD2 := far8_step hD1 i1 i0 (t := g.f2) (by omega)
   have hb2 := step_bd hD1.1 hb1 i1 i0 ht' hD1.2.2 (by omega)
   rw [s1, s3]
   have hrest : ∀ i, In8 i → rd (step1 (step1 D g.f0 g.f1 g.f2) g.f1 g.f0 g.f2) i ≤ rd D i := fun j hj => Int.le_trans (step1_le hD1.1 i0 hj _) (step1_le hD.1 i1 hj _)
   have hrnd : ∀ j, In8 j → rd (rnd (arcsOf v (l.drop (i + 1))) (step1 (step1 D g.f0 g.f1 g.f2) g.f1 g.f0 g.f2)) j ≤ rd D j := fun j hj => Int.le_trans (rnd_le _ (arcs_ok v _ (fun x hx => hl x (List.mem_of_mem_drop hx))) _ hD2.1 j hj) (hrest j hj)
   have hrl : (rnd (arcsOf v (l.drop (i + 1))) (step1 (step1 D g.f0 g.f1 g.f2) g.f1 g.f0 g.f2)).length = 8 := by rw [len_rnd, hD2.1]
   have hdec1 : rd D g.f0 + g.f2 < rd D g.f1 → sum8 (rnd (arcsOf v (l.drop (i + 1))) (step1 (step1 D g.f0 g.f1 g.f2) g.f1 g.f0 g.f2)) < sum8 D := by
    intro h
    rcases le_or hD.1 hrl hrnd with z | z
    ·
     exfalso
     have h7 := rd_step1 (a := g.f0) (t := g.f2) hD.1 i1 i1
     rw [if_pos ⟨rfl, h⟩] at h7
     have h8 := step1_le (a := g.f1) (t := g.f2) hD1.1 i0 i1
     have h9 := rnd_le (arcsOf v (l.drop (i + 1))) (arcs_ok v _ (fun x hx => hl x (List.mem_of_mem_drop hx))) _ hD2.1 g.f1 i1
     rw [z] at h9
     omega
    ·
     exact z
   have hdec2 : rd (step1 D g.f0 g.f1 g.f2) g.f1 + g.f2 < rd (step1 D g.f0 g.f1 g.f2) g.f0 → sum8 (rnd (arcsOf v (l.drop (i + 1))) (step1 (step1 D g.f0 g.f1 g.f2) g.f1 g.f0 g.f2)) < sum8 D := by
    intro h
    rcases le_or hD.1 hrl hrnd with z | z
    ·
     exfalso
     have h7 := rd_step1 (a := g.f1) (t := g.f2) hD1.1 i0 i0
     rw [if_pos ⟨rfl, h⟩] at h7
     have h8 := step1_le (a := g.f0) (t := g.f2) hD.1 i1 i0
     have h9 := rnd_le (arcsOf v (l.drop (i + 1))) (arcs_ok v _ (fun x hx => hl x (List.mem_of_mem_drop hx))) _ hD2.1 g.f0 i0
     rw [z] at h9
     omega
    ·
     exact z
   obtain ⟨k', ag', h1, h2, h3, h4, h5, h6⟩ := ih k1 (i + 1) (step1 (step1 D g.f0 g.f1 g.f2) g.f1 g.f0 g.f2) (ag || cF (D.map dec) g.f0 g.f1 g.f2 || cF ((step1 D g.f0 g.f1 g.f2).map dec) g.f1 g.f0 g.f2) (c + 500 + 500) (by omega) (by omega) hD2 hb2 (by omega)
   refine ⟨k', ag', by omega, by omega, h3, h4.mono (by omega), fun h => ?_, fun h => ?_⟩
   ·
    rcases h5 h with z | z
    ·
     rw [Bool.or_eq_true, Bool.or_eq_true] at z
     rcases z with (z | z) | z
     ·
      exact .inl z
     ·
      exact .inr (hdec1 (s2.1 z))
     ·
      exact .inr (hdec2 (s4.1 z))
    ·
     have q : sum8 (step1 (step1 D g.f0 g.f1 g.f2) g.f1 g.f0 g.f2) ≤ sum8 D := by
      rcases le_or hD.1 hD2.1 hrest with q | q
      ·
       rw [q]; exact Int.le_refl _
      ·
       omega
     exact .inr (by omega)
   ·
    obtain ⟨z1, z2⟩ := h6 h
    rw [Bool.or_eq_false_iff, Bool.or_eq_false_iff] at z1
    obtain ⟨⟨za, zb⟩, zc⟩ := z1
    refine ⟨za, z2.trans ?_⟩
    have n1 : ¬ (rd D g.f0 + g.f2 < rd D g.f1) := fun q => by rw [s2.2 q] at zb; cases zb
    have e1 : step1 D g.f0 g.f1 g.f2 = D := by
     unfold step1
     rw [if_neg n1]
    have n2 : ¬ (rd (step1 D g.f0 g.f1 g.f2) g.f1 + g.f2 < rd (step1 D g.f0 g.f1 g.f2) g.f0) := fun q => by rw [s4.2 q] at zc; cases zc
    have e2 : step1 (step1 D g.f0 g.f1 g.f2) g.f1 g.f0 g.f2 = step1 D g.f0 g.f1 g.f2 := by
     rw [show step1 (step1 D g.f0 g.f1 g.f2) g.f1 g.f0 g.f2 = if rd (step1 D g.f0 g.f1 g.f2) g.f1 + g.f2 < rd (step1 D g.f0 g.f1 g.f2) g.f0 then _ else _ from rfl, if_neg n2]
    rw [e2, e1]
theorem D0_bd (A : List Arc) : Bd 0 D0 := fun i hi => by
 by_cases h : i = 0
 ·
  rw [h]; right; decide
 ·
  exact .inl (D0_far hi h)
theorem out_l1 (l : List S37) (hl : LegsOk l) (hn : l.length ≤ 12) (v : List Bool) (hv : v.length = 8) (p : Int) (hp : In8 p) (n : Nat) : ∀ (k r : Nat), r + n = 7 → 40 * n + 40 < k → Bd (12000 * r) (it (arcsOf v l) r D0) →
  spec_l25Out.l1 k l v p ((it (arcsOf v l) r D0).map dec) true = some (dec (rd (it (arcsOf v l) 7 D0) p)) := by
 have hok := arcs_ok v l hl
 have fin : ∀ (k : Nat) (r : Nat), r ≤ 7 → it (arcsOf v l) (r + 1) D0 = it (arcsOf v l) r D0 → spec_l25Out.l1 (k + 1) l v p ((it (arcsOf v l) (r + 1) D0).map dec) false = some (dec (rd (it (arcsOf v l) 7 D0) p)) := by
  intro k r hr he
  have hlen := (it_inv hok (D0_inv _) r).len
  have e7 : it (arcsOf v l) 7 D0 = it (arcsOf v l) r D0 := by
   have := it_add (arcsOf v l) D0 r (7 - r)
   rw [show r + (7 - r) = 7 by omega, it_fix he] at this
   exact this
  simp only [spec_l25Out.l1, Bool.false_eq_true, if_false]
  have h1 := hp.1
  have h2 := hp.2
  rw [he, if_pos h1, if_pos (by rw [List.length_map, hlen]; exact h2), rd_map hlen hp, e7]
 induction n with
 | zero =>
  intro k r hr hk hb
  obtain ⟨k, rfl⟩ : ∃ m, k = m + 1 := ⟨k - 1, by omega⟩
  have e8 : rnd (arcsOf v l) (it (arcsOf v l) r D0) = it (arcsOf v l) r D0 := by
   rw [show r = 7 by omega]
   exact fix7 hok
  simp only [spec_l25Out.l1, if_true]
  have I := it_inv hok (D0_inv _) r
  obtain ⟨k', ag', h1, h2, h3, h4, h5, h6⟩ := out_round l hl hn v hv p l.length k 0 (it (arcsOf v l) r D0) false (12000 * r) (by omega) (by omega) ⟨I.len, I.lo, I.hi⟩ hb (by unfold FAR; omega)
  rw [show ((0 : Nat) : Int) = 0 from rfl, List.drop_zero] at h3
  rw [List.drop_zero] at h5 h6
  rw [h3]
  cases ag' with
  | true =>
   exfalso
   rcases h5 rfl with z | z
   ·
    cases z
   ·
    rw [e8] at z
    omega
  | false =>
   have a1 : r ≤ 7 := by clear h3 h4 h5 h6 hb; omega
   have a2 : k' = k' - 1 + 1 := by clear h3 h4 h5 h6 hb; omega
   rw [a2]
   exact fin (k' - 1) r a1 e8
 | succ n ih =>
  intro k r hr hk hb
  obtain ⟨k, rfl⟩ : ∃ m, k = m + 1 := ⟨k - 1, by omega⟩
  simp only [spec_l25Out.l1, if_true]
  have I := it_inv hok (D0_inv _) r
  obtain ⟨k', ag', h1, h2, h3, h4, h5, h6⟩ := out_round l hl hn v hv p l.length k 0 (it (arcsOf v l) r D0) false (12000 * r) (by omega) (by omega) ⟨I.len, I.lo, I.hi⟩ hb (by unfold FAR; omega)
  rw [show ((0 : Nat) : Int) = 0 from rfl, List.drop_zero] at h3
  rw [List.drop_zero] at h4 h5 h6
  rw [h3]
  cases ag' with
  | true =>
   have hb' : Bd (12000 * ((r + 1 : Nat) : Int)) (it (arcsOf v l) (r + 1) D0) := Bd.mono (c := 12000 * r + 1000 * l.length) h4 (by omega)
   have a1 : r + 1 + n = 7 := by clear h3 h4 h5 h6 hb' hb; omega
   have a2 : 40 * n + 40 < k' := by clear h3 h4 h5 h6 hb' hb; omega
   have hq := ih k' (r + 1) a1 a2 hb'
   exact hq
  | false =>
   have a1 : r ≤ 7 := by clear h3 h4 h5 h6 hb; omega
   have a2 : k' = k' - 1 + 1 := by clear h3 h4 h5 h6 hb; omega
   rw [a2]
   exact fin (k' - 1) r a1 (h6 rfl).2
theorem out_l0 (l : List S37) (v : List Bool) (p : Int) (n : Nat) : ∀ (k j : Nat), j + n = 8 → n < k →
  ∃ k', k = k' + n + 1 ∧ spec_l25Out.l0 k l v p (List.replicate j (-1)) j = spec_l25Out.l1 k' l v p (D0.map dec) true := by
 induction n with
 | zero =>
  intro k j hj hk
  obtain ⟨k, rfl⟩ : ∃ m, k = m + 1 := ⟨k - 1, by omega⟩
  obtain rfl : j = 8 := by omega
  refine ⟨k, by omega, ?_⟩
  simp only [spec_l25Out.l0]
  rw [if_neg (by decide), if_pos (by decide)]
  rfl
 | succ n ih =>
  intro k j hj hk
  obtain ⟨k, rfl⟩ : ∃ m, k = m + 1 := ⟨k - 1, by omega⟩
  simp only [spec_l25Out.l0]
  rw [if_pos (by omega), if_pos (by rw [List.length_replicate]; omega), w64 (by omega) (by omega)]
  obtain ⟨k', h1, h2⟩ := ih k (j + 1) (by omega) (by omega)
  refine ⟨k', by omega, ?_⟩
  rw [List.replicate_succ'] at h2
  exact h2
theorem out_eq {l : List S37} (hl : LegsOk l) (hn : l.length ≤ 12) {v : List Bool} (hv : v.length = 8) {p : Int} (hp : In8 p) {k : Nat} (hk : 400 ≤ k) :
  spec_l25Out.f k l v p = some (dec (rd (it (arcsOf v l) 7 D0) p)) := by
 obtain ⟨k', h1, h2⟩ := out_l0 l v p 8 k 0 (by omega) (by omega)
 unfold spec_l25Out.f
 rw [show ([] : List Int) = List.replicate 0 (-1) from rfl, show (0 : Int) = ((0 : Nat) : Int) from rfl, h2]
 exact out_l1 l hl hn v hv p hp 7 k' 0 (by omega) (by omega) (D0_bd (arcsOf v l))
def way (l : List S37) (v : List Bool) (p : Int) : Int := rd (it (arcsOf v l) 7 D0) p
theorem way_bd {l : List S37} (hl : LegsOk l) (v : List Bool) {p : Int} (hp : In8 p) : 0 ≤ way l v p ∧ way l v p ≤ FAR := by
 have I := it_inv (arcs_ok v l hl) (D0_inv _) 7
 exact ⟨I.lo p hp, I.hi p hp⟩
structure ExplOk (l : List S37) (v d : List Bool) (p t : Int) : Prop where
 legs : LegsOk l
 len : l.length ≤ 12
 hv : v.length = 8
 hd : d.length = 8
 hp : In8 p
 ht : 0 ≤ t ∧ t ≤ 100000
 hway : way l v p < FAR
 hlight : way l v p ≤ t
 v0 : rdOf false v 0 = true
 vp : rdOf false v p = true
theorem good_eq (l : List S37) (hl : l.length ≤ 4611686018427387904) (v d : List Bool) (p t : Int) {k : Nat} (hk : l.length + 410 ≤ k) :
  ∃ b, spec_l25Good.f k l v d p t = some b ∧ impl_IsExploration.f k l v d p t = some b ∧ (b = true ↔ ExplOk l v d p t) := by
 obtain ⟨x, hx, hxi⟩ := legs_spec l hl l.length k 0 (by omega) (by omega) (by omega)
 obtain ⟨k, rfl⟩ : ∃ m, k = m + 1 := ⟨k - 1, by omega⟩
 have hno : ¬ ExplOk l v d p t → ∃ b, some false = some b ∧ some false = some b ∧ (b = true ↔ ExplOk l v d p t) := fun h => ⟨false, rfl, rfl, fun z => (by cases z), fun z => absurd z h⟩
 unfold spec_l25Good.f impl_IsExploration.f spec_l4Legs.f impl_areLegs.f
 rw [legs_impl, hx]
 simp only [Option.bind_some, station_eq, isStation_eq, l1In_eq, within_eq]
 cases x with
 | false =>
  simp only [spec_l25Good.j0, impl_IsExploration.j0, Bool.false_eq_true, if_false, if_true]
  refine hno fun h => ?_
  have := hxi.2 ⟨fun j h1 h2 => h.legs _ (rdLeg_mem h1 h2), h.len⟩
  cases this
 | true =>
  obtain ⟨hlo, hlen⟩ := hxi.1 rfl
  have hlegs := legsOk_of hlo
  simp only [if_true, spec_l25Good.j0, impl_IsExploration.j0]
  by_cases h1 : (v.length : Int) = 8
  ·
   rw [if_pos h1, if_pos h1]
   by_cases h2 : (d.length : Int) = 8
   ·
    rw [if_pos h2, if_pos h2]
    by_cases h3 : 0 ≤ p ∧ p ≤ 7
    ·
     rw [decide_eq_true h3, if_pos rfl, if_pos rfl]
     by_cases h4 : 0 ≤ t ∧ t ≤ 100000
     ·
      have hv8 : v.length = 8 := by omega
      have hp8 := in8 h3.1 h3.2
      rw [decide_eq_true h4]
      simp only [Bool.not_true, Bool.false_eq_true, if_false]
      have hvp : (0 : Int) < (v.length : Int) := by omega
      simp only [if_pos hvp]
      cases h5 : rdOf false v 0 with
      | false =>
       simp only [Bool.false_eq_true, if_false]
       exact hno fun h => by have := h.v0; rw [h5] at this; cases this
      | true =>
       have hpv : p < (v.length : Int) := by omega
       simp only [if_true, if_pos h3.1, if_pos hpv]
       cases h6 : rdOf false v p with
       | false =>
        simp only [Bool.false_eq_true, if_false]
        exact hno fun h => by have := h.vp; rw [h6] at this; cases this
       | true =>
        simp only [if_true]
        rw [out_eq hlegs hlen hv8 hp8 (by omega), wayOut_eq hlegs hlen d hv8 t hp8 (by omega)]
        simp only [Option.bind_some]; obtain ⟨w0, w1⟩ := way_bd hlegs v hp8
        have hex : way l v p < FAR → way l v p ≤ t → ExplOk l v d p t := fun a b => ⟨hlegs, hlen, hv8, by omega, hp8, h4, a, b, h5, h6⟩
        rw [show rd (it (arcsOf v l) 7 D0) p = way l v p from rfl]
        by_cases h7 : way l v p < FAR
        ·
         have e : dec (way l v p) = way l v p := by
          unfold dec
          rw [if_neg (by omega)]
         rw [e, if_pos w0, decide_eq_true h7, if_pos rfl]
         refine ⟨_, rfl, rfl, ?_⟩
         rw [decide_eq_true_eq]
         exact ⟨fun h => hex h7 h, fun h => h.hlight⟩
        ·
         have e : dec (way l v p) = -1 := by
          unfold dec
          rw [if_pos (by omega)]
         rw [e, if_neg (by decide), decide_eq_false h7, if_neg (by decide)]
         exact hno fun h => h7 h.hway
     ·
      rw [decide_eq_false h4]
      simp only [Bool.not_false, if_true]
      exact hno fun h => h4 h.ht
    ·
     rw [decide_eq_false h3]
     simp only [Bool.false_eq_true, if_false, if_true]
     exact hno fun h => h3 ⟨h.hp.1, by have := h.hp.2; omega⟩
   ·
    rw [if_neg h2, if_neg h2]
    exact hno fun h => h2 (by have := h.hd; omega)
  ·
   rw [if_neg h1, if_neg h1]
   exact hno fun h => h1 (by have := h.hv; omega)
theorem set_app {α : Type} (pre ys : List α) (y z : α) (i : Nat) (h : pre.length = i) : (pre ++ y :: ys).set ((i : Int)).toNat z = pre ++ z :: ys := by
 rw [Int.toNat_natCast, List.set_append_right _ _ (by omega), h, Nat.sub_self, List.set_cons_zero]
theorem getD_app {α : Type} (pre ys : List α) (y d : α) (i : Nat) (h : pre.length = i) : (pre ++ y :: ys).getD ((i : Int)).toNat d = y := by
 rw [Int.toNat_natCast, List.getD_eq_getElem?_getD, List.getElem?_append_right (by omega), h, Nat.sub_self]
 rfl
theorem len_app {α : Type} (pre ys : List α) (y : α) : ((pre ++ y :: ys).length : Int) = (pre.length : Int) + (ys.length : Int) + 1 := by
 simp
 omega
def upLeg (a : Int) : Nat → List S37
 | 0 => []
 | n + 1 => ⟨a, a + 1, a + 1 + 1, a + 1 + 1 + 1, a + 1 + 1 + 1 + 1⟩ :: upLeg (a + 1 + 1 + 1 + 1 + 1) n
theorem markLegS_up0 (d : Nat) : ∀ (k i : Nat) (pre suf : List S37) (a : Int), pre.length = i → suf.length = d → d < k → i + d ≤ 1152921504606846976 → 0 ≤ a → a + 5 * d ≤ 4611686018427387904 →
  laws_markLegS.l0 k (pre ++ suf) a i = some (a + 5 * d, pre ++ upLeg a d) := by
 induction d with
 | zero =>
  intro k i pre suf a hp hs hk hb h0 h1
  obtain ⟨k, rfl⟩ : ∃ m, k = m + 1 := ⟨k - 1, by omega⟩
  obtain rfl : suf = [] := List.length_eq_zero_iff.1 hs
  simp only [laws_markLegS.l0]
  rw [if_neg (by simp; omega)]
  simp [upLeg]
 | succ d ih =>
  intro k i pre suf a hp hs hk hb h0 h1
  obtain ⟨k, rfl⟩ : ∃ m, k = m + 1 := ⟨k - 1, by omega⟩
  obtain ⟨y, ys, rfl⟩ : ∃ y ys, suf = y :: ys := List.exists_cons_of_length_pos (by omega)
  have hys : ys.length = d := by simpa using hs
  have er : ∀ z, rd_T37 (pre ++ z :: ys) (i : Int) = z := fun z => getD_app pre ys z z37 i hp
  have es : ∀ y z, (pre ++ y :: ys).set ((i : Int)).toNat z = pre ++ z :: ys := fun y z => set_app pre ys y z i hp
  have c1 : (i : Int) < ((pre ++ y :: ys).length : Int) := by rw [len_app]; omega
  have c2 : (0 : Int) ≤ (i : Int) := by omega
  simp only [laws_markLegS.l0, Option.bind_some, er, es]
  rw [if_pos c1, if_pos c2]
  rw [w64 (x := a + 1) (by omega) (by omega), w64 (x := a + 1 + 1) (by omega) (by omega), w64 (x := a + 1 + 1 + 1) (by omega) (by omega), w64 (x := a + 1 + 1 + 1 + 1) (by omega) (by omega), w64 (x := a + 1 + 1 + 1 + 1 + 1) (by omega) (by omega), w64 (x := (i : Int) + 1) (by omega) (by omega)]
  have := ih k (i + 1) (pre ++ [⟨a, a + 1, a + 1 + 1, a + 1 + 1 + 1, a + 1 + 1 + 1 + 1⟩]) ys (a + 1 + 1 + 1 + 1 + 1) (by simp; omega) hys (by omega) (by omega) (by omega) (by omega)
  rw [List.append_assoc, List.append_assoc, List.singleton_append, List.singleton_append] at this
  rw [show ((i : Int) + 1) = ((i + 1 : Nat) : Int) by omega, this]
  simp only [upLeg, Option.some.injEq, Prod.mk.injEq, and_true]
  omega
theorem markLegS_up {l : List S37} (hl : l.length ≤ 70368744177664) {k : Nat} (hk : l.length < k) {a : Int} (h0 : 0 ≤ a) (h1 : a ≤ 1125899906842624) : laws_markLegS.f k l a = some (a + 5 * l.length, upLeg a l.length) := by
 unfold laws_markLegS.f
 have := markLegS_up0 l.length k 0 [] l a rfl rfl hk (by omega) h0 (by omega)
 simpa using this
def upBool (a : Int) : Nat → List Bool
 | 0 => []
 | n + 1 => (Int.tmod a 3 == 0) :: upBool (a + 1) n
theorem markBoolS_up0 (d : Nat) : ∀ (k i : Nat) (pre suf : List Bool) (a : Int), pre.length = i → suf.length = d → d < k → i + d ≤ 1152921504606846976 → 0 ≤ a → a + d ≤ 4611686018427387904 →
  laws_markBoolS.l0 k (pre ++ suf) a i = some (a + d, pre ++ upBool a d) := by
 induction d with
 | zero =>
  intro k i pre suf a hp hs hk hb h0 h1
  obtain ⟨k, rfl⟩ : ∃ m, k = m + 1 := ⟨k - 1, by omega⟩
  obtain rfl : suf = [] := List.length_eq_zero_iff.1 hs
  simp only [laws_markBoolS.l0]
  rw [if_neg (by simp; omega)]
  simp [upBool]
 | succ d ih =>
  intro k i pre suf a hp hs hk hb h0 h1
  obtain ⟨k, rfl⟩ : ∃ m, k = m + 1 := ⟨k - 1, by omega⟩
  obtain ⟨y, ys, rfl⟩ : ∃ y ys, suf = y :: ys := List.exists_cons_of_length_pos (by omega)
  have hys : ys.length = d := by simpa using hs
  have es : ∀ y z, (pre ++ y :: ys).set ((i : Int)).toNat z = pre ++ z :: ys := fun y z => set_app pre ys y z i hp
  have c1 : (i : Int) < ((pre ++ y :: ys).length : Int) := by rw [len_app]; omega
  have c2 : (0 : Int) ≤ (i : Int) := by omega
  simp only [laws_markBoolS.l0, es]
  rw [if_pos c1, if_pos c2]
  rw [w64 (x := a + 1) (by omega) (by omega), w64 (x := (i : Int) + 1) (by omega) (by omega)]
  have := ih k (i + 1) (pre ++ [Int.tmod a 3 == 0]) ys (a + 1) (by simp; omega) hys (by omega) (by omega) (by omega) (by omega)
  rw [List.append_assoc, List.append_assoc, List.singleton_append, List.singleton_append] at this
  rw [show ((i : Int) + 1) = ((i + 1 : Nat) : Int) by omega, this]
  simp only [upBool, Option.some.injEq, Prod.mk.injEq, and_true]
  omega
theorem markBoolS_up {l : List Bool} (hl : l.length ≤ 140737488355328) {k : Nat} (hk : l.length < k) {a : Int} (h0 : 0 ≤ a) (h1 : a ≤ 1125899906842624) : laws_markBoolS.f k l a = some (a + l.length, upBool a l.length) := by
 unfold laws_markBoolS.f
 have := markBoolS_up0 l.length k 0 [] l a rfl rfl hk (by omega) h0 (by omega)
 simpa using this
theorem markExploration_eq {l : List S37} {v d : List Bool} (p t : Int) (hl : l.length ≤ 70368744177) (hv : v.length ≤ 70368744177) (hd : d.length ≤ 70368744177) {k : Nat} (hk : l.length < k) (hk1 : v.length < k) (hk2 : d.length < k) :
  laws_markExploration.f k l v d p t 1 = some ((1 : Int) + 5 * (l.length : Int) + (v.length : Int) + (d.length : Int), upLeg 1 l.length, upBool ((1 : Int) + 5 * (l.length : Int)) v.length, upBool ((1 : Int) + 5 * (l.length : Int) + (v.length : Int)) d.length) := by
 unfold laws_markExploration.f
 rw [markLegS_up (by omega) hk (by omega) (by omega)]
 simp only [Option.bind_some]
 rw [markBoolS_up (by omega) hk1 (by omega) (by omega)]
 simp only [Option.bind_some]
 rw [markBoolS_up (by omega) hk2 (by omega) (by omega)]
 rfl
end Go.Proofs.Ythmjimboajmhmaa.Pr.Pure

namespace Go.Proofs.Ythmjimboajmhmaa.Pr.Pure
open Go.RowKit Go.Proofs.YthmjimboajmhmaaW.PrintWords Go.Proofs.YthmjimboajmhmaaW.PrintLast Go.Proofs.YthmjimboajmhmaaW.PrintMore Go.Proofs.YthmjimboajmhmaaW.Opens
set_option linter.unusedVariables false
set_option linter.unusedSimpArgs false
def upFrom (a : Int) : Nat → List Int
 | 0 => []
 | n + 1 => a :: upFrom (a + 1) n
theorem upFrom_len (n : Nat) : ∀ a, (upFrom a n).length = n := by
 induction n with
 | zero => intro a; rfl
 | succ n ih => intro a; simp [upFrom, ih]
theorem upFrom_get (n : Nat) : ∀ (a : Int) (j : Nat), j < n → (upFrom a n)[j]? = some (a + j) := by
 induction n with
 | zero => intro a j h; omega
 | succ n ih =>
  intro a j h
  cases j with
  | zero => simp [upFrom]
  | succ j =>
   simp only [upFrom, List.getElem?_cons_succ]
   rw [ih (a + 1) j (by omega)]
   congr 1
   omega
theorem markIntS_l0 (d : Nat) : ∀ (k i : Nat) (pre suf : List Int) (a : Int), pre.length = i → suf.length = d → d < k → i + d ≤ 4611686018427387904 → 0 ≤ a → a + d ≤ 4611686018427387904 →
  laws_markIntS.l0 k (pre ++ suf) a i = some (a + d, pre ++ upFrom a d) := by
 induction d with
 | zero =>
  intro k i pre suf a hp hs hk hb h0 h1
  obtain ⟨k, rfl⟩ : ∃ m, k = m + 1 := ⟨k - 1, by omega⟩
  obtain rfl : suf = [] := List.length_eq_zero_iff.1 hs
  simp only [laws_markIntS.l0]
  rw [if_neg (by simp; omega)]
  simp [upFrom]
 | succ d ih =>
  intro k i pre suf a hp hs hk hb h0 h1
  obtain ⟨k, rfl⟩ : ∃ m, k = m + 1 := ⟨k - 1, by omega⟩
  obtain ⟨y, ys, rfl⟩ : ∃ y ys, suf = y :: ys := List.exists_cons_of_length_pos (by omega)
  simp only [laws_markIntS.l0]
  rw [if_pos (by simp; omega), if_pos (by omega), w64 (x := a + 1) (by omega) (by omega), w64 (x := (i : Int) + 1) (by omega) (by omega), Int.toNat_natCast]
  have e : (pre ++ y :: ys).set i a = (pre ++ [a]) ++ ys := by
   rw [List.set_append_right _ _ (by omega), hp, Nat.sub_self, List.set_cons_zero]
   simp
  rw [e]
  have := ih k (i + 1) (pre ++ [a]) ys (a + 1) (by simp; omega) (by simpa using hs) (by omega) (by omega) (by omega) (by omega)
  rw [show ((i : Int) + 1) = ((i + 1 : Nat) : Int) by omega, this]
  simp only [upFrom, List.append_assoc, List.singleton_append]
  congr 2
  omega
theorem markIntS_eq {l : List Int} (hl : l.length ≤ 70368744177664) {k : Nat} (hk : l.length < k) {a : Int} (h0 : 0 ≤ a) (h1 : a ≤ 1125899906842624) : laws_markIntS.f k l a = some (a + l.length, upFrom a l.length) := by
 unfold laws_markIntS.f
 have := markIntS_l0 l.length k 0 [] l a rfl rfl hk (by omega) h0 (by omega)
 simpa using this
theorem heldIntS_l0 (n : Nat) (b : Int) (d : Nat) : ∀ (k i : Nat), i + d = n → d < k → n ≤ 4611686018427387904 → 0 ≤ b → b + n ≤ 4611686018427387904 →
  laws_heldIntS.l0 k (upFrom b n) (b + i) i = some (b + n) := by
 induction d with
 | zero =>
  intro k i hd hk hn h0 h1
  obtain ⟨k, rfl⟩ : ∃ m, k = m + 1 := ⟨k - 1, by omega⟩
  simp only [laws_heldIntS.l0]
  rw [if_neg (by rw [upFrom_len]; omega)]
  congr 2
  omega
 | succ d ih =>
  intro k i hd hk hn h0 h1
  obtain ⟨k, rfl⟩ : ∃ m, k = m + 1 := ⟨k - 1, by omega⟩
  have e : rd (upFrom b n) (i : Int) = b + i := by
   simp only [rd, Int.toNat_natCast, List.getD_eq_getElem?_getD]
   rw [upFrom_get n b i (by omega)]
   rfl
  simp only [laws_heldIntS.l0]
  rw [if_pos (by rw [upFrom_len]; omega), if_pos (by omega), if_pos e, w64 (x := b + i + 1) (by omega) (by omega), w64 (x := (i : Int) + 1) (by omega) (by omega)]
  have := ih k (i + 1) (by omega) (by omega) hn h0 h1
  rw [show b + (i : Int) + 1 = b + ((i + 1 : Nat) : Int) by omega, show ((i : Int) + 1) = ((i + 1 : Nat) : Int) by omega]
  exact this
theorem heldIntS_eq {n : Nat} (hn : n ≤ 70368744177664) {k : Nat} (hk : n < k) {a : Int} (h0 : 0 ≤ a) (h1 : a ≤ 1125899906842624) : laws_heldIntS.f k (upFrom a n) a = some (a + n) := by
 unfold laws_heldIntS.f
 have := heldIntS_l0 n a n k 0 (by omega) hk (by omega) h0 (by omega)
 simpa using this
theorem eqIntS_self (l : List Int) (hl : l.length ≤ 4611686018427387904) (d : Nat) : ∀ (k : Nat) (i : Int), 0 ≤ i → i + d = l.length → d < k → laws_eqIntS.l0 k l l i = some true := by
 induction d with
 | zero =>
  intro k i h0 hd hk
  obtain ⟨k, rfl⟩ : ∃ m, k = m + 1 := ⟨k - 1, by omega⟩
  simp only [laws_eqIntS.l0]
  rw [if_neg (by omega)]
 | succ d ih =>
  intro k i h0 hd hk
  obtain ⟨k, rfl⟩ : ∃ m, k = m + 1 := ⟨k - 1, by omega⟩
  simp only [laws_eqIntS.l0, if_true]
  rw [if_pos (by omega), if_pos (by omega), if_pos (by omega), w64 (by omega) (by omega)]
  exact ih k (i + 1) (by omega) (by omega) (by omega)
theorem eqIntS_eq {l : List Int} (hl : l.length ≤ 4611686018427387904) {k : Nat} (hk : l.length < k) : laws_eqIntS.f k l l = some true := by
 unfold laws_eqIntS.f
 rw [if_pos rfl]
 exact eqIntS_self l hl l.length k 0 (by omega) (by omega) hk
theorem lead_val {v : List Bool} (hv : v.length = 8) {y : S37} (h : LegOk y) (s : Int) : lead1_ v s y = some ((decide (y.f0 = s) && !rdOf false v y.f1) || (decide (y.f1 = s) && !rdOf false v y.f0)) := by
 obtain ⟨⟨a0, a1⟩, ⟨b0, b1⟩, hne, _⟩ := h
 unfold lead1_
 by_cases q0 : y.f0 = s
 ·
  have q1 : ¬ y.f1 = s := fun z => hne (q0.trans z.symm)
  have e : wrap64 (wrap64 (y.f0 + y.f1) - s) = y.f1 := by unfold wrap64; omega
  rw [if_pos (.inl q0), e, if_pos ⟨b0, by omega⟩, decide_eq_true q0, decide_eq_false q1]
  simp
 ·
  by_cases q1 : y.f1 = s
  ·
   have e : wrap64 (wrap64 (y.f0 + y.f1) - s) = y.f0 := by unfold wrap64; omega
   rw [if_pos (.inr q1), e, if_pos ⟨a0, by omega⟩, decide_eq_true q1, decide_eq_false q0]
   simp
  ·
   rw [if_neg (fun z => z.elim q0 q1), decide_eq_false q0, decide_eq_false q1]
   rfl
theorem inner_loop {l : List S37} {v d : List Bool} {p t : Int} (g : ExplOk l v d p t) (acc : List Int) (s : Int) (n : Nat) : ∀ (k i : Nat) (o : Bool), i + n = l.length →
  spec_OpenLeads.l1 (k + n) acc s o (i : Int) l v d p t = spec_OpenLeads.l1 k acc s (o && !(l.drop i).any (fun y => (lead1_ v s y).getD false)) (l.length : Int) l v d p t := by
 have hv := g.hv
 have hlen := g.len
 induction n with
 | zero =>
  intro k i o hi
  rw [List.drop_of_length_le (by omega)]
  simp only [List.any_nil, Bool.not_false, Bool.and_true, Nat.add_zero]
  rw [show i = l.length by omega]
 | succ n ih =>
  intro k i o hi
  have hy : LegOk (rd_T37 l (i : Int)) := g.legs _ (rdLeg_mem (by omega) (by omega))
  have hlt : (i : Int) < (l.length : Int) := by omega
  have h0 : (0 : Int) ≤ (i : Int) := by omega
  have hw : wrap64 ((i : Int) + 1) = ((i + 1 : Nat) : Int) := by unfold wrap64; omega
  have hlv := lead_val hv hy s
  rw [drop_rdLeg l i (by omega), List.any_cons, hlv, ← Nat.add_assoc]
  simp only [spec_OpenLeads.l1, if_pos hlt, if_pos h0, hw, Option.getD_some]
  generalize rd_T37 l (i : Int) = y at *
  obtain ⟨⟨a0, a1⟩, ⟨b0, b1⟩, hne, _⟩ := hy
  have a2 : y.f0 < (v.length : Int) := by omega
  have b2 : y.f1 < (v.length : Int) := by omega
  by_cases q0 : y.f0 = s
  ·
   have q1 : ¬ y.f1 = s := fun z => hne (q0.trans z.symm)
   rw [if_pos q0, if_pos b0, if_pos b2, if_neg q1, decide_eq_true q0, decide_eq_false q1, ih k (i + 1) o (by omega), ih k (i + 1) false (by omega)]
   cases rdOf false v y.f1 <;> simp
  ·
   by_cases q1 : y.f1 = s
   ·
    rw [if_neg q0, if_pos q1, if_pos a0, if_pos a2, decide_eq_false q0, decide_eq_true q1, ih k (i + 1) o (by omega), ih k (i + 1) false (by omega)]
    cases rdOf false v y.f0 <;> simp
   ·
    rw [if_neg q0, if_neg q1, decide_eq_false q0, decide_eq_false q1, ih k (i + 1) o (by omega)]
    simp
theorem open_loop {l : List S37} {v d : List Bool} {p t : Int} (g : ExplOk l v d p t) (n : Nat) : ∀ (k i : Nat) (acc : List Int), i + n = d.length → 20 * n + 5 < k → acc.length ≤ i →
  ∃ r, spec_OpenLeads.l0 k acc (i : Int) l v d p t = some (r, true) ∧ leadsF_ l v (d.drop i) (i : Int) acc = some r ∧ r.length ≤ d.length := by
 have hlen := g.len
 have hd := g.hd
 have hv := g.hv
 induction n with
 | zero =>
  intro k i acc hi hk ha
  obtain ⟨k, rfl⟩ : ∃ m, k = m + 1 := ⟨k - 1, by omega⟩
  rw [List.drop_of_length_le (by omega)]
  simp only [spec_OpenLeads.l0, leadsF_]
  rw [if_neg (by omega)]
  exact ⟨_, rfl, rfl, by omega⟩
 | succ n ih =>
  intro k i acc hi hk ha
  obtain ⟨k, rfl⟩ : ∃ m, k = (m + 1 + l.length) + 1 := ⟨k - l.length - 2, by omega⟩
  have hlt : (i : Int) < (d.length : Int) := by omega
  have h0 : (0 : Int) ≤ (i : Int) := by omega
  have hac : acc.length < 17592186044416 := by omega
  have hw : wrap64 ((i : Int) + 1) = ((i + 1 : Nat) : Int) := by unfold wrap64; omega
  have ed : d.drop i = rdOf false d (i : Int) :: d.drop (i + 1) := by
   rw [List.drop_eq_getElem_cons (by omega)]
   unfold rdOf
   rw [Int.toNat_natCast, List.getD_eq_getElem?_getD, List.getElem?_eq_getElem (by omega)]
   rfl
  have hall : l.all (fun y => (lead1_ v (i : Int) y).isSome) = true := by
   rw [List.all_eq_true]
   intro y hy
   rw [lead_val hv (g.legs y hy)]
   rfl
  have hin := inner_loop g acc (i : Int) l.length (k + 1) 0 (rdOf false d (i : Int)) (by omega)
  rw [ed]
  simp only [spec_OpenLeads.l0, leadsF_]
  rw [if_pos hlt, if_pos h0, if_pos ⟨hall, by omega⟩, hw, show (0 : Int) = ((0 : Nat) : Int) from rfl, hin, List.drop_zero]
  simp only [spec_OpenLeads.l1]
  rw [if_neg (by omega), hw]
  by_cases q : (rdOf false d (i : Int) && !l.any (fun y => (lead1_ v (i : Int) y).getD false)) = true
  ·
   rw [if_pos q, if_pos q, if_pos hac]
   exact ih k (i + 1) (acc ++ [(i : Int)]) (by omega) (by omega) (by rw [List.length_append]; simp only [List.length_cons, List.length_nil]; omega)
  ·
   rw [if_neg q, if_neg q]
   exact ih k (i + 1) acc (by omega) (by omega) (by omega)
theorem next_both (l : List S37) (hl : l.length ≤ 4611686018427387904) (v d : List Bool) (p t : Int) {k : Nat} (hk : l.length + 480 ≤ k) :
  ∃ r b, spec_OpenLeads.f k l v d p t = some (r, b) ∧ impl_OpenLeads.f k l v d p t = some (r, b) ∧ r.length ≤ 12 := by
 obtain ⟨b, e1, e2, hb⟩ := good_eq l hl v d p t (k := k) (by omega)
 unfold spec_OpenLeads.f impl_OpenLeads.f
 simp only [Option.bind_some]
 rw [e1, e2]
 simp only [Option.bind_some]
 cases b with
 | false =>
  simp only [Bool.false_eq_true, if_false]
  exact ⟨_, _, rfl, rfl, by simp⟩
 | true =>
  simp only [if_true]
  have ok := hb.1 rfl
  have hd := ok.hd
  obtain ⟨r, h1, h2, h3⟩ := open_loop ok d.length k 0 [] (by omega) (by omega) (by simp)
  rw [List.drop_zero] at h2
  refine ⟨r, true, h1, ?_, by omega⟩
  rw [show (0 : Int) = ((0 : Nat) : Int) from rfl, h2]
  rfl
theorem FnExactOpenLeads : FnExactOpenLeads.Pure := by
 intro x h
 obtain ⟨⟨_, hb0, hw0⟩, ⟨_, hb1, hw1⟩, ⟨_, hb2, hw2⟩, i3, i4⟩ := h
 have hm : (x.f0.map cvLeg).length = x.f0.length := List.length_map _
 obtain ⟨J, hJ⟩ : ∃ K, K = x.f0.length + x.f1.length + x.f2.length + 600 := ⟨_, rfl⟩
 obtain ⟨r, b, e1', e2', hr⟩ := next_both (x.f0.map cvLeg) (by omega) x.f1 x.f2 x.f3 x.f4 (k := J) (by omega)
 have E1 : ∀ k, J ≤ k → spec_OpenLeads.f k (x.f0.map cvLeg) x.f1 x.f2 x.f3 x.f4 = some (r, b) := fun k hk => at_rounds (fun k => spec_OpenLeads.mono _ _ _ _ _ k) hk e1'
 have E2 : ∀ k, J ≤ k → impl_OpenLeads.f k (x.f0.map cvLeg) x.f1 x.f2 x.f3 x.f4 = some (r, b) := fun k hk => at_rounds (fun k => impl_OpenLeads.mono _ _ _ _ _ k) hk e2'
 have t : ∀ k, J ≤ k → laws_toExploration.f k x.f0 x.f1 x.f2 x.f3 x.f4 = some (x.f0.map cvLeg, x.f1, x.f2, x.f3, x.f4) := fun k hk => toExploration_eq (l := x.f0) (v := x.f1) (d := x.f2) (a := x.f3) (b := x.f4) hb0 (by omega) (by omega) (k := k) (by omega) (by omega) (by omega)
 have q : ∀ k, J ≤ k → laws_eqExploration.f k (x.f0.map cvLeg) x.f1 x.f2 x.f3 x.f4 (x.f0.map cvLeg) x.f1 x.f2 x.f3 x.f4 = some true := fun k hk => eqExploration_eq (l := x.f0.map cvLeg) (v := x.f1) (d := x.f2) (a := x.f3) (b := x.f4) (by omega) (by omega) (by omega) (k := k) (by omega) (by omega) (by omega)
 have qi : ∀ k, J ≤ k → laws_eqIntS.f k r r = some true := fun k hk => eqIntS_eq (by omega) (by omega)
 have mi : ∀ k, J ≤ k → laws_markIntS.f k r 1 = some (1 + (r.length : Int), upFrom 1 r.length) := fun k hk => markIntS_eq (l := r) (by omega) (by omega) (a := 1) (by omega) (by omega)
 have hi : ∀ k, J ≤ k → laws_heldIntS.f k (upFrom 1 r.length) 1 = some (1 + (r.length : Int)) := fun k hk => heldIntS_eq (by omega) (by omega) (by omega) (by omega)
 refine ⟨J + 3, ?_⟩
 unfold laws_FnExactOpenLeads.f laws_szExploration.f laws_szLegS.f laws_szBoolS.f
 by_cases s1 : wrap64 (1048576 - (x.f0.length : Int)) < 0
 ·
  rw [if_pos s1]
  simp
 ·
  rw [if_neg s1]
  simp only [Option.bind_some]
  rw [if_neg s1]
  by_cases s2 : wrap64 (wrap64 (1048576 - (x.f0.length : Int)) - (x.f1.length : Int)) < 0
  ·
   rw [if_pos s2]
   simp
  ·
   rw [if_neg s2]
   simp only [Option.bind_some]
   rw [if_neg s2]
   by_cases s3 : wrap64 (wrap64 (wrap64 (1048576 - (x.f0.length : Int)) - (x.f1.length : Int)) - (x.f2.length : Int)) < 0
   ·
    rw [if_pos s3]
    simp
   ·
    rw [if_neg s3]
    simp only [Option.bind_some]
    rw [if_neg s3]
    have hl0 : x.f0.length ≤ 1048576 := by
     unfold wrap64 at s1
     omega
    have hl1 : x.f1.length ≤ 1048576 := by
     unfold wrap64 at s1 s2
     omega
    have hl2 : x.f2.length ≤ 1048576 := by
     unfold wrap64 at s1 s2 s3
     omega
    have mx : ∀ k, J ≤ k → laws_markExploration.f k (x.f0.map cvLeg) x.f1 x.f2 x.f3 x.f4 1 = some ((1 : Int) + 5 * ((x.f0.map cvLeg).length : Int) + (x.f1.length : Int) + (x.f2.length : Int), upLeg 1 (x.f0.map cvLeg).length, upBool ((1 : Int) + 5 * ((x.f0.map cvLeg).length : Int)) x.f1.length, upBool ((1 : Int) + 5 * ((x.f0.map cvLeg).length : Int) + (x.f1.length : Int)) x.f2.length) := fun k hk => markExploration_eq x.f3 x.f4 (by omega) (by omega) (by omega) (by omega) (by omega) (by omega)
    have hj2 : laws_FnExactOpenLeads.j2 (J + 1) (upFrom 1 r.length) (1 + (r.length : Int)) false = some true := by
     simp only [laws_FnExactOpenLeads.j2, Bool.false_eq_true, if_false, hi J (Nat.le_refl _), Option.bind_some]
     rw [if_neg (by omega)]
     simp
    have hj1 : laws_FnExactOpenLeads.j1 (J + 2) r b r false x.f0 x.f1 x.f2 x.f3 x.f4 = some true := by
     rw [show J + 2 = (J + 1) + 1 from rfl]
     simp only [laws_FnExactOpenLeads.j1, Bool.false_eq_true, if_false, mi (J + 1) (by omega), hi (J + 1) (by omega), t (J + 1) (by omega), E2 (J + 1) (by omega), qi (J + 1) (by omega), Option.bind_some, if_true, bne_self_eq_false]
     rw [if_neg (by omega)]
     exact hj2
    have hj0 : laws_FnExactOpenLeads.j0 (J + 3) r b r b false x.f0 x.f1 x.f2 x.f3 x.f4 (x.f0.map cvLeg) x.f1 x.f2 x.f3 x.f4 = some true := by
     rw [show J + 3 = (J + 2) + 1 from rfl]
     simp only [laws_FnExactOpenLeads.j0, Bool.false_eq_true, if_false, t (J + 2) (by omega), q (J + 2) (by omega), mx (J + 2) (by omega), qi (J + 2) (by omega), Option.bind_some, if_true, bne_self_eq_false]
     rw [if_neg (by omega)]
     exact hj1
    simp only [if_neg s3, t (J + 3) (by omega), E1 (J + 3) (by omega), E2 (J + 3) (by omega), qi (J + 3) (by omega), Option.bind_some, if_true, bne_self_eq_false]
    exact hj0
end Go.Proofs.Ythmjimboajmhmaa.Pr.Pure

