/-
What is proved: parts of the law FnExplorers: what the functions that it reaches compute, and the plain law.
Conditions: those of each theorem.
-/
import Derived.ChangeArms
import Derived.ChangeSlices
import Derived.Deep.RegionLaw
import Derived.Deep.Slices
import Derived.Laws.CopyOwn
import Derived.Laws.Cover1
import Derived.Laws.IdiomStrings
import Derived.RowKit
import Derived.Shelf.Abstract
import Derived.SizedLaws
import Derived.StillTailTactics
import Derived.WideShapes
import Derived.Test.YthmjimboajmhmaaCFnExplorers4
namespace Go.Proofs.Ythmjimboajmhmaa.Pr.Pure
open Go.RowKit Go.Proofs.YthmjimboajmhmaaW.PrintWords Go.Proofs.YthmjimboajmhmaaW.PrintLast Go.Proofs.YthmjimboajmhmaaW.PrintMore
set_option linter.unusedVariables false
set_option linter.unusedSimpArgs false
theorem w64 {x:Int} (h1:-9223372036854775808 <= x) (h2:x <= 9223372036854775807):wrap64 x = x:=by
 unfold wrap64
 omega
theorem getD_some {α:Type} (l:List α) (z:α) (i:Nat) (h:i < l.length):l[i]? = some (l.getD i z):=by
 rw [List.getD_eq_getElem?_getD,List.getElem?_eq_getElem h]
 rfl
theorem l1In_eq (a b c:Int):spec_l1In.f a b c = some (decide (b <= a /\ a <= c)):=by
 unfold spec_l1In.f
 by_cases h:a >= b
 .
  rw [if_pos h];simp [show b <= a from h]
 .
  rw [if_neg h];simp [show ¬ b <= a from h]
theorem within_eq (a b c:Int):impl_within.f a b c = some (decide (b <= a /\ a <= c)):=by
 unfold impl_within.f
 by_cases h:a >= b
 .
  rw [if_pos h];simp [show b <= a from h]
 .
  rw [if_neg h];simp [show ¬ b <= a from h]
theorem station_eq (a:Int):spec_l4Station.f a = some (decide (0 <= a /\ a <= 7)):=by
 unfold spec_l4Station.f;rw [l1In_eq];rfl
theorem isStation_eq (a:Int):impl_isStation.f a = some (decide (0 <= a /\ a <= 7)):=by
 unfold impl_isStation.f;rw [within_eq];rfl
def LegOk (x:S37):Prop:=(0 <= x.f0 /\ x.f0 <= 7) /\ (0 <= x.f1 /\ x.f1 <= 7) /\ x.f0 ≠ x.f1 /\ (1 <= x.f2 /\ x.f2 <= 500) /\ (0 <= x.f3 /\ x.f3 <= 359) /\ (-90 <= x.f4 /\ x.f4 <= 90)
theorem leg_spec (x:S37):∃ b,spec_l4Leg.f x.f0 x.f1 x.f2 x.f3 x.f4 = some b /\ (b = true ↔ LegOk x):=by
 unfold spec_l4Leg.f spec_l2Bearing.f LegOk
 simp only [station_eq,l1In_eq,Option.bind_some,decide_eq_true_eq]
 by_cases h1:0 <= x.f0 /\ x.f0 <= 7
 .
  rw [if_pos h1]
  by_cases h2:0 <= x.f1 /\ x.f1 <= 7
  .
   rw [if_pos h2]
   by_cases h3:x.f0 = x.f1
   .
    rw [if_pos h3]
    exact ⟨_,rfl,fun h=>(by cases h),fun h=>absurd h3 h.2.2.1⟩
   .
    rw [if_neg h3]
    by_cases h4:1 <= x.f2 /\ x.f2 <= 500
    .
     rw [if_pos h4]
     by_cases h5:0 <= x.f3 /\ x.f3 <= 359
     .
      rw [if_pos h5]
      refine ⟨_,rfl,?_⟩
      rw [decide_eq_true_eq]
      exact ⟨fun h=>⟨h1,h2,h3,h4,h5,h⟩,fun h=>h.2.2.2.2.2⟩
     .
      rw [if_neg h5]
      exact ⟨_,rfl,fun h=>(by cases h),fun h=>absurd h.2.2.2.2.1 h5⟩
    .
     rw [if_neg h4]
     exact ⟨_,rfl,fun h=>(by cases h),fun h=>absurd h.2.2.2.1 h4⟩
  .
   rw [if_neg h2]
   exact ⟨_,rfl,fun h=>(by cases h),fun h=>absurd h.2.1 h2⟩
 .
  rw [if_neg h1]
  exact ⟨_,rfl,fun h=>(by cases h),fun h=>absurd h.1 h1⟩
theorem leg_impl (a b c d e:Int):impl_IsLeg.f a b c d e = spec_l4Leg.f a b c d e:=by
 unfold impl_IsLeg.f spec_l4Leg.f impl_isBearing.f spec_l2Bearing.f
 simp only [station_eq,isStation_eq,within_eq,l1In_eq]
theorem legs_spec (l:List S37) (hl:l.length <= 4611686018427387904) (d:Nat):∀ (k:Nat) (i:Int),0 <= i -> i + d = l.length -> d < k ->
  ∃ b,spec_l4Legs.l0 k l i = some b /\ (b = true ↔ (∀ j:Int,i <= j -> j < l.length -> LegOk (rd_T37 l j)) /\ l.length <= 12):=by
 induction d with
 | zero=>
  intro k i h0 hd hk
  obtain ⟨k,rfl⟩:∃ m,k = m + 1:=⟨k - 1,by omega⟩
  refine ⟨_,by simp only [spec_l4Legs.l0];rw [if_neg (by omega)],?_⟩
  rw [decide_eq_true_eq]
  constructor
  .
   intro h
   exact ⟨fun j h1 h2=>by omega,by omega⟩
  .
   intro h
   omega
 | succ d ih=>
  intro k i h0 hd hk
  obtain ⟨k,rfl⟩:∃ m,k = m + 1:=⟨k - 1,by omega⟩
  obtain ⟨b,hb,hiff⟩:=ih k (i + 1) (by omega) (by omega) (by omega)
  obtain ⟨x,hx,hxi⟩:=leg_spec (rd_T37 l i)
  simp only [spec_l4Legs.l0]
  rw [if_pos (show i < (l.length:Int) by omega),if_pos h0,hx,w64 (by omega) (by omega)]
  simp only [Option.bind_some]
  cases x with
  | false=>
   rw [if_neg (by decide)]
   exact ⟨_,rfl,fun h=>(by cases h),fun h=>(by have:=hxi.2 (h.1 i (by omega) (by omega));cases this)⟩
  | true=>
   rw [if_pos rfl]
   refine ⟨b,hb,?_⟩
   rw [hiff]
   refine ⟨fun h=>⟨fun j h1 h2=>?_,h.2⟩,fun h=>⟨fun j h1 h2=>h.1 j (by omega) h2,h.2⟩⟩
   by_cases e:j = i
   .
    rw [e];exact hxi.1 rfl
   .
    exact h.1 j (by omega) h2
theorem legs_impl (l:List S37):∀ (k:Nat) (i:Int),impl_areLegs.l0 k l l (l.length:Int) i = spec_l4Legs.l0 k l i
 | 0,i=>by simp only [impl_areLegs.l0,spec_l4Legs.l0]
 | k + 1,i=>by
  simp only [impl_areLegs.l0,spec_l4Legs.l0,leg_impl,legs_impl l k]
  by_cases h1:i < (l.length:Int)
  .
   simp only [if_pos h1]
  .
   simp only [if_neg h1]
def usable (v:List Bool) (g:S37):Bool:=rdOf false v g.f0 && rdOf false v g.f1
def arcsOf (v:List Bool):List S37 -> List Arc
 | []=>[]
 | g :: l=>if usable v g = true then ⟨g.f0,g.f1,g.f2⟩ :: ⟨g.f1,g.f0,g.f2⟩ :: arcsOf v l else arcsOf v l
def LegsOk (l:List S37):Prop:=∀ x,x ∈ l -> LegOk x
theorem legsOk_of {l:List S37} (h:∀ j:Int,0 <= j -> j < l.length -> LegOk (rd_T37 l j)):LegsOk l:=by
 intro x hx
 obtain ⟨i,hi,rfl⟩:=List.mem_iff_getElem.1 hx
 have:=h (i:Int) (by omega) (by omega)
 have e:rd_T37 l (i:Int) = l[i]:=by
  show l.getD (i:Int).toNat _ = _
  rw [Int.toNat_natCast,List.getD_eq_getElem?_getD,List.getElem?_eq_getElem hi]
  rfl
 rwa [e] at this
theorem rdLeg_mem {l:List S37} {i:Int} (h0:0 <= i) (h1:i < l.length):rd_T37 l i ∈ l:=by
 show l.getD i.toNat _ ∈ l
 rw [List.getD_eq_getElem?_getD,List.getElem?_eq_getElem (by omega)]
 exact List.getElem_mem _
theorem drop_rdLeg (l:List S37) (i:Nat) (h:i < l.length):l.drop i = rd_T37 l (i:Int) :: l.drop (i + 1):=by
 rw [List.drop_eq_getElem_cons h]
 congr 1
 show _ = l.getD (i:Int).toNat _
 rw [Int.toNat_natCast,List.getD_eq_getElem?_getD,List.getElem?_eq_getElem h]
 rfl
theorem arcs_ok (v:List Bool) (l:List S37) (h:LegsOk l):OkA (arcsOf v l):=by
 induction l with
 | nil=>intro e he;cases he
 | cons g l ih=>
  have hg:=h g List.mem_cons_self
  have ih:=ih (fun x hx=>h x (List.mem_cons_of_mem _ hx))
  intro e he
  unfold arcsOf at he
  split at he
  .
   rcases List.mem_cons.1 he with rfl|he
   .
    exact ⟨⟨hg.1.1,by have:=hg.1.2;show g.f0 < 8;omega⟩,⟨hg.2.1.1,by have:=hg.2.1.2;show g.f1 < 8;omega⟩,hg.2.2.2.1⟩
   .
    rcases List.mem_cons.1 he with rfl|he
    .
     exact ⟨⟨hg.2.1.1,by have:=hg.2.1.2;show g.f1 < 8;omega⟩,⟨hg.1.1,by have:=hg.1.2;show g.f0 < 8;omega⟩,hg.2.2.2.1⟩
    .
     exact ih e he
  .
   exact ih e he
def far8 (D:List Int):Prop:=D.length = 8 /\ (∀ i,In8 i -> 0 <= rd D i) /\ (∀ i,In8 i -> rd D i <= FAR)
theorem far8_step {D:List Int} (h:far8 D) {a b t:Int} (ha:In8 a) (hb:In8 b) (ht:0 <= t):far8 (step1 D a b t):=by
 refine ⟨by rw [len_step1,h.1],fun i hi=>?_,fun i hi=>Int.le_trans (step1_le h.1 hb hi t) (h.2.2 i hi)⟩
 rw [rd_step1 h.1 hb hi]
 have:=h.2.1 a ha
 split
 .
  omega
 .
  exact h.2.1 i hi
theorem set_same8 {D:List Int} (h:D.length = 8) {b:Int} (hb:In8 b):D.set b.toNat (rd D b) = D:=by
 apply ext8 (by rw [List.length_set,h]) h
 intro i hi
 rw [rd_set h hb hi]
 split
 .
  rename_i e
  rw [e]
 .
  rfl
theorem mn_step {D:List Int} (h:far8 D) {a b t:Int} (ha:In8 a) (hb:In8 b) (ht:0 <= t) (ht':t <= 500):D.set b.toNat (mn (rd D b) (wrap64 (rd D a + t))) = step1 D a b t:=by
 have a0:=h.2.1 a ha
 have a1:=h.2.2 a ha
 unfold FAR at a1
 rw [w64 (by omega) (by omega)]
 unfold mn step1
 by_cases hc:rd D a + t < rd D b
 .
  rw [if_pos hc,if_pos hc]
 .
  rw [if_neg hc,if_neg hc,set_same8 h.1 hb]
theorem in8 {a:Int} (h0:0 <= a) (h1:a <= 7):In8 a:=⟨h0,by omega⟩
theorem wayOut_l1 (l:List S37) (hl:LegsOk l) (hn:l.length <= 12) (v d:List Bool) (hv:v.length = 8) (a b r:Int) (n:Nat):∀ (k i:Nat) (D:List Int),i + n = l.length -> n < k -> far8 D ->
  ∃ k',k <= k' + n + 1 /\ k' < k /\ impl_Exploration_wayOut.l1 k D r l (l.length:Int) i l v d a b = impl_Exploration_wayOut.l0 k' (rnd (arcsOf v (l.drop i)) D) (wrap64 (r + 1)) l v d a b:=by
 induction n with
 | zero=>
  intro k i D hi hk hD
  obtain ⟨k,rfl⟩:∃ m,k = m + 1:=⟨k - 1,by omega⟩
  refine ⟨k,by omega,by omega,?_⟩
  simp only [impl_Exploration_wayOut.l1]
  rw [if_neg (by omega),List.drop_eq_nil_of_le (by omega)]
  rfl
 | succ n ih=>
  intro k i D hi hk hD
  obtain ⟨k,rfl⟩:∃ m,k = m + 1:=⟨k - 1,by omega⟩
  rw [drop_rdLeg l i (by omega)]
  have hg:=hl _ (rdLeg_mem (l:=l) (i:=(i:Int)) (by omega) (by omega))
  generalize hge:rd_T37 l (i:Int) = g at hg
  have i0:=in8 hg.1.1 hg.1.2
  have i1:=in8 hg.2.1.1 hg.2.1.2
  obtain ⟨g00,g01⟩:=hg.1
  obtain ⟨g10,g11⟩:=hg.2.1
  obtain ⟨ht,ht'⟩:=hg.2.2.2.1
  simp only [impl_Exploration_wayOut.l1,hge]
  rw [if_pos (by omega),if_pos (by omega),if_pos (by omega),if_pos (by omega),if_pos (by omega),w64 (x:=(i:Int) + 1) (by omega) (by omega)]
  unfold arcsOf usable
  cases h0:rdOf false v g.f0 with
  | false=>
   rw [if_neg (by decide)]
   obtain ⟨k',h1,h2,h3⟩:=ih k (i + 1) D (by omega) (by omega) hD
   exact ⟨k',by omega,by omega,h3⟩
  | true=>
   rw [if_pos rfl,if_pos (by omega),if_pos (by omega)]
   cases h1:rdOf false v g.f1 with
   | false=>
    rw [if_neg (by decide)]
    obtain ⟨k',h1,h2,h3⟩:=ih k (i + 1) D (by omega) (by omega) hD
    exact ⟨k',by omega,by omega,h3⟩
   | true=>
    have hl8:=hD.1
    rw [if_pos rfl,if_pos (by omega),if_pos (by omega),mn_step hD i1 i0 (by omega) ht']
    simp only [Option.bind_some]
    rw [mn_step (far8_step hD i1 i0 (by omega)) i0 i1 (by omega) ht',relax_comm hl8 i0 i1 ht]
    obtain ⟨k',h1,h2,h3⟩:=ih k (i + 1) (step1 (step1 D g.f0 g.f1 g.f2) g.f1 g.f0 g.f2) (by omega) (by omega) (far8_step (far8_step hD i0 i1 (by omega)) i1 i0 (by omega))
    exact ⟨k',by omega,by omega,h3⟩
theorem wayOut_l0 (l:List S37) (hl:LegsOk l) (hn:l.length <= 12) (v d:List Bool) (hv:v.length = 8) (a b:Int) (ha:In8 a) (n:Nat):∀ (k r:Nat),r + n = 8 -> n * 16 < k ->
  impl_Exploration_wayOut.l0 k (it (arcsOf v l) r D0) r l v d a b = some (rd (it (arcsOf v l) 8 D0) a,decide (rd (it (arcsOf v l) 8 D0) a < FAR)):=by
 induction n with
 | zero=>
  intro k r hr hk
  obtain ⟨k,rfl⟩:∃ m,k = m + 1:=⟨k - 1,by omega⟩
  obtain rfl:r = 8:=by omega
  have:=(it_inv (arcs_ok v l hl) (D0_inv _) 8).len
  simp only [impl_Exploration_wayOut.l0]
  rw [if_neg (by decide),if_pos ha.1,if_pos (by have:=ha.2;omega)]
  rfl
 | succ n ih=>
  intro k r hr hk
  obtain ⟨k,rfl⟩:∃ m,k = m + 1:=⟨k - 1,by omega⟩
  simp only [impl_Exploration_wayOut.l0]
  rw [if_pos (by omega)]
  have I:=it_inv (arcs_ok v l hl) (D0_inv _) r
  obtain ⟨k',h1,h2,h3⟩:=wayOut_l1 l hl hn v d hv a b r l.length k 0 (it (arcsOf v l) r D0) (by omega) (by omega) ⟨I.len,I.lo,I.hi⟩
  rw [show ((0:Nat):Int) = 0 from rfl] at h3
  rw [h3,w64 (by omega) (by omega),List.drop_zero]
  exact ih k' (r + 1) (by omega) (by omega)
theorem wayOut_eq {l:List S37} (hl:LegsOk l) (hn:l.length <= 12) {v:List Bool} (d:List Bool) (hv:v.length = 8) {a:Int} (b:Int) (ha:In8 a) {k:Nat} (hk:200 <= k) :
  impl_Exploration_wayOut.f k l v d a b = some (rd (it (arcsOf v l) 7 D0) a,decide (rd (it (arcsOf v l) 7 D0) a < FAR)):=by
 have h:=wayOut_l0 l hl hn v d hv a b ha 8 k 0 (by omega) (by omega)
 have e:it (arcsOf v l) 8 D0 = it (arcsOf v l) 7 D0:=fix7 (arcs_ok v l hl)
 rw [e] at h
 exact h
def stF (F:List Int) (a b t:Int):List Int:=if rd F a >= 0 /\ (rd F b < 0 \/ wrap64 (rd F a + t) < rd F b) then F.set b.toNat (wrap64 (rd F a + t)) else F
def cF (F:List Int) (a b t:Int):Bool:=decide (rd F a >= 0 /\ (rd F b < 0 \/ wrap64 (rd F a + t) < rd F b))
theorem out_l2 (l:List S37) (v:List Bool) (p:Int) (F:List Int) (ag:Bool) (i:Int) (h0:0 <= i) (hi:i < l.length) (hl:l.length <= 12) (hF:F.length = 8) (hv:v.length = 8) (i0:In8 (rd_T37 l i).f0) (i1:In8 (rd_T37 l i).f1) (k:Nat) :
  ∃ k',k <= k' /\ k' <= k + 1 /\ spec_l25Out.l2 (k + 3) l v p F ag i = (if usable v (rd_T37 l i) = true then spec_l25Out.l2 k' l v p (stF (stF F (rd_T37 l i).f0 (rd_T37 l i).f1 (rd_T37 l i).f2) (rd_T37 l i).f1 (rd_T37 l i).f0 (rd_T37 l i).f2) (ag || cF F (rd_T37 l i).f0 (rd_T37 l i).f1 (rd_T37 l i).f2 || cF (stF F (rd_T37 l i).f0 (rd_T37 l i).f1 (rd_T37 l i).f2) (rd_T37 l i).f1 (rd_T37 l i).f0 (rd_T37 l i).f2) (i + 1) else spec_l25Out.l2 k' l v p F ag (i + 1)):=by
 simp only [spec_l25Out.l2,w64 (x:=i + 1) (by omega) (by omega)]
 generalize hge:rd_T37 l i = g at i0 i1
 obtain ⟨i00,i01⟩:=i0
 obtain ⟨i10,i11⟩:=i1
 rw [if_pos hi,if_pos h0,if_pos i00,if_pos (by omega)]
 unfold usable
 cases h0':rdOf false v g.f0 with
 | false=>
  refine ⟨k + 1,by omega,by omega,?_⟩
  rw [if_neg (by decide),if_neg (by simp)]
  simp only [spec_l25Out.j3,if_true,w64 (x:=i + 1) (by omega) (by omega)]
 | true=>
  rw [if_pos rfl,if_pos i10,if_pos (by omega)]
  cases h1':rdOf false v g.f1 with
  | false=>
   refine ⟨k + 1,by omega,by omega,?_⟩
   rw [if_neg (by decide)]
   simp only [spec_l25Out.j3,Bool.not_false,if_true,w64 (x:=i + 1) (by omega) (by omega)]
  | true=>
   refine ⟨k,by omega,by omega,?_⟩
   rw [if_pos (by decide)]
   have tail:∀ (Y:List Int) (ag':Bool) (m:Int),m = 8 -> (if rd Y g.f1 >= 0 then (if 0 <= g.f0 then (if g.f0 < m then (if rd Y g.f0 < 0 then spec_l25Out.l2 k l v p (Y.set g.f0.toNat (wrap64 (rd Y g.f1 + g.f2))) true (i + 1) else (if wrap64 (rd Y g.f1 + g.f2) < rd Y g.f0 then spec_l25Out.l2 k l v p (Y.set g.f0.toNat (wrap64 (rd Y g.f1 + g.f2))) true (i + 1) else spec_l25Out.l2 k l v p Y ag' (i + 1))) else none) else none) else spec_l25Out.l2 k l v p Y ag' (i + 1)) = spec_l25Out.l2 k l v p (stF Y g.f1 g.f0 g.f2) (ag' || cF Y g.f1 g.f0 g.f2) (i + 1):=by
    intro Y ag' m hY
    unfold stF cF
    by_cases c1:rd Y g.f1 >= 0
    .
     rw [if_pos c1,if_pos i00,if_pos (by omega)]
     by_cases c2:rd Y g.f0 < 0
     .
      rw [if_pos c2,if_pos ⟨c1,.inl c2⟩,decide_eq_true ⟨c1,.inl c2⟩,Bool.or_true]
     .
      rw [if_neg c2]
      by_cases c3:wrap64 (rd Y g.f1 + g.f2) < rd Y g.f0
      .
       rw [if_pos c3,if_pos ⟨c1,.inr c3⟩,decide_eq_true ⟨c1,.inr c3⟩,Bool.or_true]
      .
       have hn:¬ (rd Y g.f1 >= 0 /\ (rd Y g.f0 < 0 \/ wrap64 (rd Y g.f1 + g.f2) < rd Y g.f0)):=fun h=>by rcases h.2 with z|z <;> contradiction
       rw [if_neg c3,if_neg hn,decide_eq_false hn,Bool.or_false]
    .
     have hn:¬ (rd Y g.f1 >= 0 /\ (rd Y g.f0 < 0 \/ wrap64 (rd Y g.f1 + g.f2) < rd Y g.f0)):=fun h=>c1 h.1
     rw [if_neg c1,if_neg hn,decide_eq_false hn,Bool.or_false]
   have main:∀ (c:Bool),(c = true -> (rd F g.f0 >= 0 /\ (rd F g.f1 < 0 \/ wrap64 (rd F g.f0 + g.f2) < rd F g.f1))) -> (c = false -> ¬ (rd F g.f0 >= 0 /\ (rd F g.f1 < 0 \/ wrap64 (rd F g.f0 + g.f2) < rd F g.f1))) -> spec_l25Out.j4 (k + 1) l v p F ag i g.f0 g.f1 (wrap64 (rd F g.f0 + g.f2)) c = spec_l25Out.l2 k l v p (stF (stF F g.f0 g.f1 g.f2) g.f1 g.f0 g.f2) (ag || cF F g.f0 g.f1 g.f2 || cF (stF F g.f0 g.f1 g.f2) g.f1 g.f0 g.f2) (i + 1):=by
    intro c hc1 hc2
    simp only [spec_l25Out.j4,hge,w64 (x:=i + 1) (by omega) (by omega)]
    cases c with
    | true=>
     have hc:=hc1 rfl
     rw [if_pos rfl,if_pos i10,if_pos (by omega)]
     simp only [Option.bind_some]
     rw [if_pos h0,if_pos hi,tail (F.set g.f1.toNat (wrap64 (rd F g.f0 + g.f2))) true (F.length:Int) (by omega)]
     have e:stF F g.f0 g.f1 g.f2 = F.set g.f1.toNat (wrap64 (rd F g.f0 + g.f2)):=by
      unfold stF
      rw [if_pos hc]
     have e2:cF F g.f0 g.f1 g.f2 = true:=decide_eq_true hc
     rw [e,e2,Bool.or_true]
    | false=>
     have hc:=hc2 rfl
     rw [if_neg (by decide),if_pos i10,if_pos (by omega),if_pos h0,if_pos hi,tail F ag (F.length:Int) (by omega)]
     have e:stF F g.f0 g.f1 g.f2 = F:=by
      unfold stF
      rw [if_neg hc]
     have e2:cF F g.f0 g.f1 g.f2 = false:=decide_eq_false hc
     rw [e,e2,Bool.or_false]
   simp only [spec_l25Out.j3,hge,Bool.not_true,Bool.false_eq_true,if_false]
   rw [if_pos i00,if_pos (by omega),if_pos h0,if_pos hi]
   by_cases c1:rd F g.f0 >= 0
   .
    rw [if_pos c1,if_pos i10,if_pos (by omega)]
    by_cases c2:rd F g.f1 < 0
    .
     rw [if_pos c2,main true (fun _=>⟨c1,.inl c2⟩) (fun h=>by cases h)]
    .
     rw [if_neg c2]
     by_cases c3:wrap64 (rd F g.f0 + g.f2) < rd F g.f1
     .
      rw [decide_eq_true c3,main true (fun _=>⟨c1,.inr c3⟩) (fun h=>by cases h)]
     .
      rw [decide_eq_false c3,main false (fun h=>by cases h) (fun _ h=>by rcases h.2 with z|z <;> contradiction)]
   .
    rw [if_neg c1,main false (fun h=>by cases h) (fun _ h=>c1 h.1)]
theorem stF_dec {c:Int} {D:List Int} (h:far8 D) (hb:Bd c D) (hc:c + 500 < FAR) {a b t:Int} (ha:In8 a) (hb8:In8 b) (ht:1 <= t) (ht':t <= 500) :
  stF (D.map dec) a b t = (step1 D a b t).map dec /\ (cF (D.map dec) a b t = true ↔ rd D a + t < rd D b):=by
 obtain ⟨h1,h2,h3⟩:=cond_dec h.1 h.2.1 h.2.2 hb hc ha hb8 ht ht'
 have a0:=h.2.1 a ha
 unfold stF cF step1
 rw [decide_eq_true_eq]
 by_cases hf:rd D a < FAR
 .
  obtain ⟨e,e2,e3⟩:=h2 hf
  have hw:wrap64 (rd (D.map dec) a + t) = rd D a + t:=by
   rw [e,w64 (by omega) (by unfold FAR at e3;omega)]
  have hcnd:(rd (D.map dec) a >= 0 /\ (rd (D.map dec) b < 0 \/ rd D a + t < rd (D.map dec) b)) ↔ rd D a + t < rd D b:=⟨fun z=>e2.1 z.2,fun z=>⟨h1.2 hf,e2.2 z⟩⟩
  rw [hw]
  by_cases hlt:rd D a + t < rd D b
  .
   rw [if_pos (hcnd.2 hlt),if_pos hlt,map_set_dec _ _ _ (by omega)]
   exact ⟨rfl,hcnd⟩
  .
   rw [if_neg (fun z=>hlt (hcnd.1 z)),if_neg hlt]
   exact ⟨rfl,hcnd⟩
 .
  have hn:=h3 hf
  rw [if_neg (fun z=>hf (h1.1 z.1)),if_neg hn]
  exact ⟨rfl,fun z=>absurd (h1.1 z.1) hf,fun z=>absurd z hn⟩
theorem out_round (l:List S37) (hl:LegsOk l) (hn:l.length <= 12) (v:List Bool) (hv:v.length = 8) (p:Int) (n:Nat):∀ (k i:Nat) (D:List Int) (ag:Bool) (c:Int),i + n = l.length -> 3 * n < k -> far8 D -> Bd c D -> c + 1000 * n < FAR ->
  ∃ k' ag',k <= k' + 3 * n + 1 /\ k' < k /\ spec_l25Out.l2 k l v p (D.map dec) ag i = spec_l25Out.l1 k' l v p ((rnd (arcsOf v (l.drop i)) D).map dec) ag' /\ Bd (c + 1000 * n) (rnd (arcsOf v (l.drop i)) D) /\ (ag' = true -> ag = true \/ sum8 (rnd (arcsOf v (l.drop i)) D) < sum8 D) /\ (ag' = false -> ag = false /\ rnd (arcsOf v (l.drop i)) D = D):=by
 induction n with
 | zero=>
  intro k i D ag c hi hk hD hb hc
  obtain ⟨k,rfl⟩:∃ m,k = m + 1:=⟨k - 1,by omega⟩
  refine ⟨k,ag,by omega,by omega,?_,?_,fun h=>.inl h,fun h=>⟨h,?_⟩⟩
  .
   simp only [spec_l25Out.l2]
   rw [if_neg (by omega),List.drop_eq_nil_of_le (by omega)]
   rfl
  .
   rw [List.drop_eq_nil_of_le (by omega)]
   exact hb.mono (by omega)
  .
   rw [List.drop_eq_nil_of_le (by omega)]
   rfl
 | succ n ih=>
  intro k i D ag c hi hk hD hb hc
  obtain ⟨k,rfl⟩:∃ m,k = m + 3:=⟨k - 3,by omega⟩
  have hg:=hl _ (rdLeg_mem (l:=l) (i:=(i:Int)) (by omega) (by omega))
  have i0:=in8 hg.1.1 hg.1.2
  have i1:=in8 hg.2.1.1 hg.2.1.2
  obtain ⟨ht,ht'⟩:=hg.2.2.2.1
  obtain ⟨k1,hk1,hk2,e⟩:=out_l2 l v p (D.map dec) ag i (by omega) (by omega) hn (by rw [List.length_map,hD.1]) hv i0 i1 k
  rw [drop_rdLeg l i (by omega)]
  generalize hge:rd_T37 l (i:Int) = g at hg i0 i1 ht ht' e
  rw [e]
  cases hu:usable v g with
  | false=>
   rw [if_neg (by decide)]
   obtain ⟨k',ag',h1,h2,h3,h4,h5,h6⟩:=ih k1 (i + 1) D ag c (by omega) (by omega) hD hb (by omega)
   have ea:arcsOf v (g :: l.drop (i + 1)) = arcsOf v (l.drop (i + 1)):=by
    show (if usable v g = true then _ else _) = _
    rw [hu,if_neg (by decide)]
   rw [ea]
   exact ⟨k',ag',by omega,by omega,h3,h4.mono (by omega),h5,h6⟩
  | true=>
   rw [if_pos rfl]
   have ea:∀ E,rnd (arcsOf v (g :: l.drop (i + 1))) E = rnd (arcsOf v (l.drop (i + 1))) (step1 (step1 E g.f0 g.f1 g.f2) g.f1 g.f0 g.f2):=by
    intro E
    show rnd (if usable v g = true then _ else _) _ = _
    rw [hu,if_pos rfl]
    rfl
   rw [ea D]
   obtain ⟨s1,s2⟩:=stF_dec hD hb (by omega) i0 i1 ht ht'
   have hD1:=far8_step hD i0 i1 (t:=g.f2) (by omega)
   have hb1:=step_bd hD.1 hb i0 i1 ht' hD.2.2 (by omega)
   obtain ⟨s3,s4⟩:=stF_dec hD1 hb1 (by omega) i1 i0 ht ht'
   have hD2:=far8_step hD1 i1 i0 (t:=g.f2) (by omega)
   have hb2:=step_bd hD1.1 hb1 i1 i0 ht' hD1.2.2 (by omega)
   rw [s1,s3]
   have hrest:∀ i,In8 i -> rd (step1 (step1 D g.f0 g.f1 g.f2) g.f1 g.f0 g.f2) i <= rd D i:=fun j hj=>Int.le_trans (step1_le hD1.1 i0 hj _) (step1_le hD.1 i1 hj _)
   have hrnd:∀ j,In8 j -> rd (rnd (arcsOf v (l.drop (i + 1))) (step1 (step1 D g.f0 g.f1 g.f2) g.f1 g.f0 g.f2)) j <= rd D j:=fun j hj=>Int.le_trans (rnd_le _ (arcs_ok v _ (fun x hx=>hl x (List.mem_of_mem_drop hx))) _ hD2.1 j hj) (hrest j hj)
   have hrl:(rnd (arcsOf v (l.drop (i + 1))) (step1 (step1 D g.f0 g.f1 g.f2) g.f1 g.f0 g.f2)).length = 8:=by rw [len_rnd,hD2.1]
   have hdec1:rd D g.f0 + g.f2 < rd D g.f1 -> sum8 (rnd (arcsOf v (l.drop (i + 1))) (step1 (step1 D g.f0 g.f1 g.f2) g.f1 g.f0 g.f2)) < sum8 D:=by
    intro h
    rcases le_or hD.1 hrl hrnd with z|z
    .
     exfalso
     have h7:=rd_step1 (a:=g.f0) (t:=g.f2) hD.1 i1 i1
     rw [if_pos ⟨rfl,h⟩] at h7
     have h8:=step1_le (a:=g.f1) (t:=g.f2) hD1.1 i0 i1
     have h9:=rnd_le (arcsOf v (l.drop (i + 1))) (arcs_ok v _ (fun x hx=>hl x (List.mem_of_mem_drop hx))) _ hD2.1 g.f1 i1
     rw [z] at h9
     omega
    .
     exact z
   have hdec2:rd (step1 D g.f0 g.f1 g.f2) g.f1 + g.f2 < rd (step1 D g.f0 g.f1 g.f2) g.f0 -> sum8 (rnd (arcsOf v (l.drop (i + 1))) (step1 (step1 D g.f0 g.f1 g.f2) g.f1 g.f0 g.f2)) < sum8 D:=by
    intro h
    rcases le_or hD.1 hrl hrnd with z|z
    .
     exfalso
     have h7:=rd_step1 (a:=g.f1) (t:=g.f2) hD1.1 i0 i0
     rw [if_pos ⟨rfl,h⟩] at h7
     have h8:=step1_le (a:=g.f0) (t:=g.f2) hD.1 i1 i0
     have h9:=rnd_le (arcsOf v (l.drop (i + 1))) (arcs_ok v _ (fun x hx=>hl x (List.mem_of_mem_drop hx))) _ hD2.1 g.f0 i0
     rw [z] at h9
     omega
    .
     exact z
   obtain ⟨k',ag',h1,h2,h3,h4,h5,h6⟩:=ih k1 (i + 1) (step1 (step1 D g.f0 g.f1 g.f2) g.f1 g.f0 g.f2) (ag || cF (D.map dec) g.f0 g.f1 g.f2 || cF ((step1 D g.f0 g.f1 g.f2).map dec) g.f1 g.f0 g.f2) (c + 500 + 500) (by omega) (by omega) hD2 hb2 (by omega)
   refine ⟨k',ag',by omega,by omega,h3,h4.mono (by omega),fun h=>?_,fun h=>?_⟩
   .
    rcases h5 h with z|z
    .
     rw [Bool.or_eq_true,Bool.or_eq_true] at z
     rcases z with (z|z)|z
     .
      exact .inl z
     .
      exact .inr (hdec1 (s2.1 z))
     .
      exact .inr (hdec2 (s4.1 z))
    .
     have q:sum8 (step1 (step1 D g.f0 g.f1 g.f2) g.f1 g.f0 g.f2) <= sum8 D:=by
      rcases le_or hD.1 hD2.1 hrest with q|q
      .
       rw [q];exact Int.le_refl _
      .
       omega
     exact .inr (by omega)
   .
    obtain ⟨z1,z2⟩:=h6 h
    rw [Bool.or_eq_false_iff,Bool.or_eq_false_iff] at z1
    obtain ⟨⟨za,zb⟩,zc⟩:=z1
    refine ⟨za,z2.trans ?_⟩
    have n1:¬ (rd D g.f0 + g.f2 < rd D g.f1):=fun q=>by rw [s2.2 q] at zb;cases zb
    have e1:step1 D g.f0 g.f1 g.f2 = D:=by
     unfold step1
     rw [if_neg n1]
    have n2:¬ (rd (step1 D g.f0 g.f1 g.f2) g.f1 + g.f2 < rd (step1 D g.f0 g.f1 g.f2) g.f0):=fun q=>by rw [s4.2 q] at zc;cases zc
    have e2:step1 (step1 D g.f0 g.f1 g.f2) g.f1 g.f0 g.f2 = step1 D g.f0 g.f1 g.f2:=by
     rw [show step1 (step1 D g.f0 g.f1 g.f2) g.f1 g.f0 g.f2 = if rd (step1 D g.f0 g.f1 g.f2) g.f1 + g.f2 < rd (step1 D g.f0 g.f1 g.f2) g.f0 then _ else _ from rfl,if_neg n2]
    rw [e2,e1]
theorem D0_bd (A:List Arc):Bd 0 D0:=fun i hi=>by
 by_cases h:i = 0
 .
  rw [h];right;decide
 .
  exact .inl (D0_far hi h)
theorem out_l1 (l:List S37) (hl:LegsOk l) (hn:l.length <= 12) (v:List Bool) (hv:v.length = 8) (p:Int) (hp:In8 p) (n:Nat):∀ (k r:Nat),r + n = 7 -> 40 * n + 40 < k -> Bd (12000 * r) (it (arcsOf v l) r D0) ->
  spec_l25Out.l1 k l v p ((it (arcsOf v l) r D0).map dec) true = some (dec (rd (it (arcsOf v l) 7 D0) p)):=by
 have hok:=arcs_ok v l hl
 have fin:∀ (k:Nat) (r:Nat),r <= 7 -> it (arcsOf v l) (r + 1) D0 = it (arcsOf v l) r D0 -> spec_l25Out.l1 (k + 1) l v p ((it (arcsOf v l) (r + 1) D0).map dec) false = some (dec (rd (it (arcsOf v l) 7 D0) p)):=by
  intro k r hr he
  have hlen:=(it_inv hok (D0_inv _) r).len
  have e7:it (arcsOf v l) 7 D0 = it (arcsOf v l) r D0:=by
   have:=it_add (arcsOf v l) D0 r (7 - r)
   rw [show r + (7 - r) = 7 by omega,it_fix he] at this
   exact this
  simp only [spec_l25Out.l1,Bool.false_eq_true,if_false]
  have h1:=hp.1
  have h2:=hp.2
  rw [he,if_pos h1,if_pos (by rw [List.length_map,hlen];exact h2),rd_map hlen hp,e7]
 induction n with
 | zero=>
  intro k r hr hk hb
  obtain ⟨k,rfl⟩:∃ m,k = m + 1:=⟨k - 1,by omega⟩
  have e8:rnd (arcsOf v l) (it (arcsOf v l) r D0) = it (arcsOf v l) r D0:=by
   rw [show r = 7 by omega]
   exact fix7 hok
  simp only [spec_l25Out.l1,if_true]
  have I:=it_inv hok (D0_inv _) r
  obtain ⟨k',ag',h1,h2,h3,h4,h5,h6⟩:=out_round l hl hn v hv p l.length k 0 (it (arcsOf v l) r D0) false (12000 * r) (by omega) (by omega) ⟨I.len,I.lo,I.hi⟩ hb (by unfold FAR;omega)
  rw [show ((0:Nat):Int) = 0 from rfl,List.drop_zero] at h3
  rw [List.drop_zero] at h5 h6
  rw [h3]
  cases ag' with
  | true=>
   exfalso
   rcases h5 rfl with z|z
   .
    cases z
   .
    rw [e8] at z
    omega
  | false=>
   have a1:r <= 7:=by clear h3 h4 h5 h6 hb;omega
   have a2:k' = k' - 1 + 1:=by clear h3 h4 h5 h6 hb;omega
   rw [a2]
   exact fin (k' - 1) r a1 e8
 | succ n ih=>
  intro k r hr hk hb
  obtain ⟨k,rfl⟩:∃ m,k = m + 1:=⟨k - 1,by omega⟩
  simp only [spec_l25Out.l1,if_true]
  have I:=it_inv hok (D0_inv _) r
  obtain ⟨k',ag',h1,h2,h3,h4,h5,h6⟩:=out_round l hl hn v hv p l.length k 0 (it (arcsOf v l) r D0) false (12000 * r) (by omega) (by omega) ⟨I.len,I.lo,I.hi⟩ hb (by unfold FAR;omega)
  rw [show ((0:Nat):Int) = 0 from rfl,List.drop_zero] at h3
  rw [List.drop_zero] at h4 h5 h6
  rw [h3]
  cases ag' with
  | true=>
   have hb':Bd (12000 * ((r + 1:Nat):Int)) (it (arcsOf v l) (r + 1) D0):=Bd.mono (c:=12000 * r + 1000 * l.length) h4 (by omega)
   have a1:r + 1 + n = 7:=by clear h3 h4 h5 h6 hb' hb;omega
   have a2:40 * n + 40 < k':=by clear h3 h4 h5 h6 hb' hb;omega
   have hq:=ih k' (r + 1) a1 a2 hb'
   exact hq
  | false=>
   have a1:r <= 7:=by clear h3 h4 h5 h6 hb;omega
   have a2:k' = k' - 1 + 1:=by clear h3 h4 h5 h6 hb;omega
   rw [a2]
   exact fin (k' - 1) r a1 (h6 rfl).2
theorem out_l0 (l:List S37) (v:List Bool) (p:Int) (n:Nat):∀ (k j:Nat),j + n = 8 -> n < k ->
  ∃ k',k = k' + n + 1 /\ spec_l25Out.l0 k l v p (List.replicate j (-1)) j = spec_l25Out.l1 k' l v p (D0.map dec) true:=by
 induction n with
 | zero=>
  intro k j hj hk
  obtain ⟨k,rfl⟩:∃ m,k = m + 1:=⟨k - 1,by omega⟩
  obtain rfl:j = 8:=by omega
  refine ⟨k,by omega,?_⟩
  simp only [spec_l25Out.l0]
  rw [if_neg (by decide),if_pos (by decide)]
  rfl
 | succ n ih=>
  intro k j hj hk
  obtain ⟨k,rfl⟩:∃ m,k = m + 1:=⟨k - 1,by omega⟩
  simp only [spec_l25Out.l0]
  rw [if_pos (by omega),if_pos (by rw [List.length_replicate];omega),w64 (by omega) (by omega)]
  obtain ⟨k',h1,h2⟩:=ih k (j + 1) (by omega) (by omega)
  refine ⟨k',by omega,?_⟩
  rw [List.replicate_succ'] at h2
  exact h2
theorem out_eq {l:List S37} (hl:LegsOk l) (hn:l.length <= 12) {v:List Bool} (hv:v.length = 8) {p:Int} (hp:In8 p) {k:Nat} (hk:400 <= k) :
  spec_l25Out.f k l v p = some (dec (rd (it (arcsOf v l) 7 D0) p)):=by
 obtain ⟨k',h1,h2⟩:=out_l0 l v p 8 k 0 (by omega) (by omega)
 unfold spec_l25Out.f
 rw [show ([]:List Int) = List.replicate 0 (-1) from rfl,show (0:Int) = ((0:Nat):Int) from rfl,h2]
 exact out_l1 l hl hn v hv p hp 7 k' 0 (by omega) (by omega) (D0_bd (arcsOf v l))
def way (l:List S37) (v:List Bool) (p:Int):Int:=rd (it (arcsOf v l) 7 D0) p
theorem way_bd {l:List S37} (hl:LegsOk l) (v:List Bool) {p:Int} (hp:In8 p):0 <= way l v p /\ way l v p <= FAR:=by
 have I:=it_inv (arcs_ok v l hl) (D0_inv _) 7
 exact ⟨I.lo p hp,I.hi p hp⟩
structure ExplOk (l:List S37) (v d:List Bool) (p t:Int):Prop where
 legs:LegsOk l
 len:l.length <= 12
 hv:v.length = 8
 hd:d.length = 8
 hp:In8 p
 ht:0 <= t /\ t <= 100000
 hway:way l v p < FAR
 hlight:way l v p <= t
 v0:rdOf false v 0 = true
 vp:rdOf false v p = true
theorem good_eq (l:List S37) (hl:l.length <= 4611686018427387904) (v d:List Bool) (p t:Int) {k:Nat} (hk:l.length + 410 <= k) :
  ∃ b,spec_l25Good.f k l v d p t = some b /\ impl_IsExploration.f k l v d p t = some b /\ (b = true ↔ ExplOk l v d p t):=by
 obtain ⟨x,hx,hxi⟩:=legs_spec l hl l.length k 0 (by omega) (by omega) (by omega)
 obtain ⟨k,rfl⟩:∃ m,k = m + 1:=⟨k - 1,by omega⟩
 have hno:¬ ExplOk l v d p t -> ∃ b,some false = some b /\ some false = some b /\ (b = true ↔ ExplOk l v d p t):=fun h=>⟨false,rfl,rfl,fun z=>(by cases z),fun z=>absurd z h⟩
 unfold spec_l25Good.f impl_IsExploration.f spec_l4Legs.f impl_areLegs.f
 rw [legs_impl,hx]
 simp only [Option.bind_some,station_eq,isStation_eq,l1In_eq,within_eq]
 cases x with
 | false=>
  simp only [spec_l25Good.j0,impl_IsExploration.j0,Bool.false_eq_true,if_false,if_true]
  refine hno fun h=>?_
  have:=hxi.2 ⟨fun j h1 h2=>h.legs _ (rdLeg_mem h1 h2),h.len⟩
  cases this
 | true=>
  obtain ⟨hlo,hlen⟩:=hxi.1 rfl
  have hlegs:=legsOk_of hlo
  simp only [if_true,spec_l25Good.j0,impl_IsExploration.j0]
  by_cases h1:(v.length:Int) = 8
  .
   rw [if_pos h1,if_pos h1]
   by_cases h2:(d.length:Int) = 8
   .
    rw [if_pos h2,if_pos h2]
    by_cases h3:0 <= p /\ p <= 7
    .
     rw [decide_eq_true h3,if_pos rfl,if_pos rfl]
     by_cases h4:0 <= t /\ t <= 100000
     .
      have hv8:v.length = 8:=by omega
      have hp8:=in8 h3.1 h3.2
      rw [decide_eq_true h4]
      simp only [Bool.not_true,Bool.false_eq_true,if_false]
      have hvp:(0:Int) < (v.length:Int):=by omega
      simp only [if_pos hvp]
      cases h5:rdOf false v 0 with
      | false=>
       simp only [Bool.false_eq_true,if_false]
       exact hno fun h=>by have:=h.v0;rw [h5] at this;cases this
      | true=>
       have hpv:p < (v.length:Int):=by omega
       simp only [if_true,if_pos h3.1,if_pos hpv]
       cases h6:rdOf false v p with
       | false=>
        simp only [Bool.false_eq_true,if_false]
        exact hno fun h=>by have:=h.vp;rw [h6] at this;cases this
       | true=>
        simp only [if_true]
        rw [out_eq hlegs hlen hv8 hp8 (by omega),wayOut_eq hlegs hlen d hv8 t hp8 (by omega)]
        simp only [Option.bind_some];obtain ⟨w0,w1⟩:=way_bd hlegs v hp8
        have hex:way l v p < FAR -> way l v p <= t -> ExplOk l v d p t:=fun a b=>⟨hlegs,hlen,hv8,by omega,hp8,h4,a,b,h5,h6⟩
        rw [show rd (it (arcsOf v l) 7 D0) p = way l v p from rfl]
        by_cases h7:way l v p < FAR
        .
         have e:dec (way l v p) = way l v p:=by
          unfold dec
          rw [if_neg (by omega)]
         rw [e,if_pos w0,decide_eq_true h7,if_pos rfl]
         refine ⟨_,rfl,rfl,?_⟩
         rw [decide_eq_true_eq]
         exact ⟨fun h=>hex h7 h,fun h=>h.hlight⟩
        .
         have e:dec (way l v p) = -1:=by
          unfold dec
          rw [if_pos (by omega)]
         rw [e,if_neg (by decide),decide_eq_false h7,if_neg (by decide)]
         exact hno fun h=>h7 h.hway
     .
      rw [decide_eq_false h4]
      simp only [Bool.not_false,if_true]
      exact hno fun h=>h4 h.ht
    .
     rw [decide_eq_false h3]
     simp only [Bool.false_eq_true,if_false,if_true]
     exact hno fun h=>h3 ⟨h.hp.1,by have:=h.hp.2;omega⟩
   .
    rw [if_neg h2,if_neg h2]
    exact hno fun h=>h2 (by have:=h.hd;omega)
  .
   rw [if_neg h1,if_neg h1]
   exact hno fun h=>h1 (by have:=h.hv;omega)
end Go.Proofs.Ythmjimboajmhmaa.Pr.Pure

namespace Go.Proofs.Ythmjimboajmhmaa.Pr.Pure
theorem obs {α β:Type} (a:α) (f:α -> Option β):(some a).bind f = f a:=id rfl
end Go.Proofs.Ythmjimboajmhmaa.Pr.Pure

namespace Go.Proofs.Ythmjimboajmhmaa.Pr.Pure
open Go.RowKit Go.Proofs.YthmjimboajmhmaaW.PrintWords Go.Proofs.YthmjimboajmhmaaW.PrintLast Go.Proofs.YthmjimboajmhmaaW.PrintMore Go.Lib
set_option linter.unusedVariables false
theorem bits255 (x:Int):0 <= Go.bits .and .u64 x 255 /\ Go.bits .and .u64 x 255 <= 255:=by
 have h:(BitVec.ofInt IntKind.u64.bits x &&& BitVec.ofInt IntKind.u64.bits 255).toNat <= 255:=by
  rw [BitVec.toNat_and]
  exact Nat.le_trans Nat.and_le_right (by decide)
 have e:Go.bits .and .u64 x 255 = IntKind.u64.wrap (((BitVec.ofInt IntKind.u64.bits x &&& BitVec.ofInt IntKind.u64.bits 255).toNat:Nat):Int):=rfl
 rw [e]
 generalize (BitVec.ofInt IntKind.u64.bits x &&& BitVec.ofInt IntKind.u64.bits 255).toNat = n at h
 have e2:IntKind.u64.wrap (n:Int) = (n:Int):=by
  have:IntKind.u64.wrap (n:Int) = (n:Int) % 18446744073709551616:=rfl
  omega
 rw [e2]
 omega
theorem rdI_mem (l:List Int) {i:Int} (h0:0 <= i) (h1:i < l.length):rd l i ∈ l:=by
 unfold rd
 rw [List.getD_eq_getElem?_getD,List.getElem?_eq_getElem (by omega)]
 exact List.getElem_mem _
theorem next_ok {c:List Int} (hc:∀ x,x ∈ c -> 0 <= x /\ x <= 255) {p:Int} (h0:0 <= p) (h1:p <= 1000000000) (s:Int) :
  ∃ r q,spec_l1Cur_next.f c p s = some (r,p + 1,q) /\ 0 <= r /\ r <= 255:=by
 have hw:wrap64 (p + 1) = p + 1:=w64 (by omega) (by omega)
 unfold spec_l1Cur_next.f
 rw [hw]
 by_cases a:p < (c.length:Int)
 .
  have hb:=hc _ (rdI_mem c h0 a)
  have hv:wrap64 (rd c p) = rd c p:=w64 (by omega) (by omega)
  rw [if_pos a,if_pos h0]
  by_cases b:p + 1 <= (c.length:Int)
  .
   rw [if_pos b,hv]
   exact ⟨_,_,rfl,hb.1,hb.2⟩
  .
   rw [if_neg b]
   refine ⟨_,_,rfl,?_⟩
   rw [w64 (by have:=bits255;exact Int.le_trans (by decide) (this _).1) (Int.le_trans (bits255 _).2 (by decide))]
   exact bits255 _
 .
  rw [if_neg a]
  by_cases b:p + 1 <= (c.length:Int)
  .
   rw [if_pos b]
   exact ⟨_,_,rfl,by decide,by decide⟩
  .
   rw [if_neg b]
   refine ⟨_,_,rfl,?_⟩
   rw [w64 (by have:=bits255;exact Int.le_trans (by decide) (this _).1) (Int.le_trans (bits255 _).2 (by decide))]
   exact bits255 _
theorem tmod_lt {a n:Int} (h:0 <= a) (hn:0 < n):0 <= Int.tmod a n /\ Int.tmod a n < n:=
 ⟨Int.tmod_nonneg _ h,Int.tmod_lt_of_pos _ hn⟩
theorem pick_ok {c:List Int} (hc:∀ x,x ∈ c -> 0 <= x /\ x <= 255) {p:Int} (h0:0 <= p) (h1:p <= 900000000) (s:Int) {n:Int} (hn:0 < n) :
  ∃ r p1 q,spec_l1Cur_pick.f c p s n = some (r,p1,q) /\ (0 <= r /\ r < n) /\ p <= p1 /\ p1 <= p + 2:=by
 unfold spec_l1Cur_pick.f
 by_cases a:n <= 1
 .
  rw [if_pos a]
  exact ⟨0,p,s,rfl,⟨by decide,hn⟩,by omega,by omega⟩
 .
  obtain ⟨r,q,e,b1,b2⟩:=next_ok hc h0 (by omega) s
  have n0:¬ n = 0:=by omega
  rw [if_neg a,e,obs]
  by_cases d:n > 200
  .
   obtain ⟨r2,q2,e2,d1,d2⟩:=next_ok hc (p:=p + 1) (by omega) (by omega) q
   rw [if_pos d,e2,obs,if_neg n0]
   have hw:wrap64 (wrap64 (r * 256) + r2) = r * 256 + r2:=by
    rw [w64 (x:=r * 256) (by omega) (by omega),w64 (by omega) (by omega)]
   refine ⟨_,p + 1 + 1,q2,rfl,?_,by omega,by omega⟩
   simp only
   rw [hw]
   exact tmod_lt (by omega) hn
  .
   rw [if_neg d,if_neg n0]
   exact ⟨_,p + 1,q,rfl,tmod_lt b1 hn,by omega,by omega⟩
theorem one_ok {c:List Int} (hc:∀ x,x ∈ c -> 0 <= x /\ x <= 255) {p:Int} (h0:0 <= p) (h1:p <= 900000000) (s:Int) {n:Int} (hn:0 < n) :
  ∃ b p1 q,spec_l1Cur_one.f c p s n = some (b,p1,q) /\ p <= p1 /\ p1 <= p + 2:=by
 obtain ⟨r,p1,q,e,_,a1,a2⟩:=pick_ok hc h0 h1 s hn
 unfold spec_l1Cur_one.f
 rw [e,obs]
 exact ⟨_,p1,q,rfl,a1,a2⟩
theorem among_ok {c:List Int} (hc:∀ x,x ∈ c -> 0 <= x /\ x <= 255) {p:Int} (h0:0 <= p) (h1:p <= 900000000) (s:Int) {l:List Int} (hl:0 < l.length) :
  ∃ r p1 q,spec_l1Cur_among.f c p s l = some (r,p1,q) /\ r ∈ l /\ p <= p1 /\ p1 <= p + 2:=by
 obtain ⟨r,p1,q,e,b,a1,a2⟩:=pick_ok hc h0 h1 s (n:=(l.length:Int)) (by omega)
 unfold spec_l1Cur_among.f
 rw [e,obs,if_pos b.1,if_pos b.2]
 exact ⟨_,p1,q,rfl,rdI_mem l b.1 b.2,a1,a2⟩
end Go.Proofs.Ythmjimboajmhmaa.Pr.Pure

namespace Go.Proofs.Ythmjimboajmhmaa.Pr.Pure
open Go.RowKit Go.Proofs.Ythmjimboajmhmaa.Pr Go.Proofs.YthmjimboajmhmaaW.PrintWords Go.Proofs.YthmjimboajmhmaaW.PrintLast Go.Proofs.YthmjimboajmhmaaW.PrintMore
set_option linter.unusedVariables false
set_option linter.unusedSimpArgs false
def CurE (w0 W:World) (g:Nat) (x:List Int) (b:Int):Prop:=∃ p s,IsS96 w0 W g x p s /\ 0 <= p /\ p <= b
def BytesE (x:List Int):Prop:=∀ v,v ∈ x -> 0 <= v /\ v <= 255
section
variable {w0 W W':World} {g:Nat} {x:List Int} {b c:Int}
theorem CurE.mono (h:CurE w0 W g x b) (hbc:b <= c):CurE w0 W g x c:=by
 obtain ⟨p,s,hI,h0,h1⟩:=h
 exact ⟨p,s,hI,h0,by omega⟩
theorem CurE.below (h:CurE w0 W g x b) (hb:Below W.heap.size W W'):CurE w0 W' g x b:=by
 obtain ⟨p,s,hI,h0,h1⟩:=h
 exact ⟨p,s,IsS96.below hI hb,h0,h1⟩
theorem CurE.blk (h:CurE w0 W g x b) (hk:KeepBut W W' g none) {q t:Nat} {cs:Array Value} (hb:W.heap[q]? = some (.cells cs t (0,0))) (ht:96 ≠ t):W'.heap[q]? = some (.cells cs t (0,0)):=by
 obtain ⟨p,s,hI,_⟩:=h
 exact KeepBut.blk hk hb (Ne.symm (IsS96.ne_blk hI hb (Ne.symm ht))) (by simp)
theorem CurE.ne (h:CurE w0 W g x b) {q t:Nat} {cs:Array Value} (hb:W.heap[q]? = some (.cells cs t (0,0))) (ht:96 ≠ t):g ≠ q:=by
 obtain ⟨p,s,hI,_⟩:=h
 exact IsS96.ne_blk hI hb (Ne.symm ht)
theorem CurE.far (h:CurE w0 W g x b) {q j:Nat} (hne:g ≠ q) (v:Value):CurE w0 (W.setCell ⟨q,j,none⟩ v) g x b:=by
 obtain ⟨p,s,hI,h0,h1⟩:=h
 exact ⟨p,s,IsS96.far (p:=⟨q,j,none⟩) hI hne _,h0,h1⟩
theorem CurE.row {α:Type} {d:Kd α} {e B:Nat} {ok:Nat -> Prop} {v:Value} {l:List α} (h:CurE w0 W g x b) (hk:KeepBut W W' g none) (hr:d.R e W B ok v l) (ht:∀ q,q ∈ e :: d.E -> q ≠ 96):d.R e W' B ok v l:=by
 obtain ⟨p,s,hI,_⟩:=h
 exact Kd.R_mono (Kd.R_keep (IsS96.apart hI hr ht) hk (fun _ h_=>h_.2)) (fun _ h_=>h_.1)
theorem pickE (hx:BytesE x) (hC:CurE w0 W g x b) (hB:Below w0.heap.size w0 W) (hb:b <= 900000000) (n:Int) (hn:0 < n) :
  Calls Try.prog 81 #[.pointer (some ⟨g,0,none⟩),.int .i64 n] W fun e W'=>∃ t,e = .returned (.int .i64 t) /\ 0 <= t /\ t < n /\ CurE w0 W' g x (b + 2) /\ Below w0.heap.size w0 W' /\ KeepBut W W' g none:=by
 obtain ⟨p,s,hI,h0,h1⟩:=hC
 obtain ⟨r,p1,q,e,⟨r0,r1⟩,p2,p3⟩:=pick_ok hx h0 (by omega) s hn
 refine (spec_l1Cur_pick.calls g x p s n r p1 q w0 W hI hB e).mono ?_
 rintro e W' ⟨rfl,hi,hb,hk⟩
 exact ⟨r,rfl,r0,r1,⟨p1,q,hi,by omega,by omega⟩,hb,hk⟩
theorem oneE (hx:BytesE x) (hC:CurE w0 W g x b) (hB:Below w0.heap.size w0 W) (hb:b <= 900000000) (n:Int) (hn:0 < n) :
  Calls Try.prog 82 #[.pointer (some ⟨g,0,none⟩),.int .i64 n] W fun e W'=>∃ t,e = .returned (.bool t) /\ CurE w0 W' g x (b + 2) /\ Below w0.heap.size w0 W' /\ KeepBut W W' g none:=by
 obtain ⟨p,s,hI,h0,h1⟩:=hC
 obtain ⟨r,p1,q,e,p2,p3⟩:=one_ok hx h0 (by omega) s hn
 refine (spec_l1Cur_one.calls g x p s n r p1 q w0 W hI hB e).mono ?_
 rintro e W' ⟨rfl,hi,hb,hk⟩
 exact ⟨r,rfl,⟨p1,q,hi,by omega,by omega⟩,hb,hk⟩
theorem amongE (hx:BytesE x) (hC:CurE w0 W g x b) (hB:Below w0.heap.size w0 W) (hb:b <= 900000000) {A:Option Addr} {cp B:Nat} {ok:Nat -> Prop} {l:List Int} (hl:0 < l.length) (hr:(Kd.int .i64).R 3 W B ok (.slice A l.length cp) l) :
  Calls Try.prog 86 #[.pointer (some ⟨g,0,none⟩),.slice A l.length cp] W fun e W'=>∃ t,e = .returned (.int .i64 t) /\ t ∈ l /\ CurE w0 W' g x (b + 2) /\ Below w0.heap.size w0 W' /\ KeepBut W W' g none:=by
 obtain ⟨p,s,hI,h0,h1⟩:=hC
 obtain ⟨r,p1,q,e,hm,p2,p3⟩:=among_ok hx h0 (by omega) s hl
 refine (spec_l1Cur_among.calls g x p s _ _ l r p1 q w0 W hI hB (Kd.R_reads' hr).2.2 (Kd.R_reads' hr).2.1 (fun ad e1 e2=>far_slice (IsS96.own_ne hI hr (by decide)) ad e1 e2) e).mono ?_
 rintro e W' ⟨rfl,hi,hb,hk⟩
 exact ⟨r,rfl,hm,⟨p1,q,hi,by omega,by omega⟩,hb,hk⟩
end
theorem reps_ints (W:World) (B:Nat) (ok:Nat -> Prop):∀ xs:List Int,Reps ((Kd.int .i64).M W B ok) (Kd.int .i64).sz xs (xs.map fun z=>(.int .i64 z:Value))
 | []=>Reps.none _ _
 | z :: xs=>Reps.one (show (Kd.int .i64).M W B ok z [.int .i64 z] from rfl) (reps_ints W B ok xs)
structure DrE (w0 w W:World) (g:Nat) (x:List Int) (b:Int):Prop where
 cur:CurE w0 W g x b
 hB:Below w0.heap.size w0 W
 hK:KeepBut w W g none
 hw:w0.heap.size <= w.heap.size
section
variable {w0 w W W':World} {g:Nat} {x:List Int} {b c:Int}
theorem DrE.call (h:DrE w0 w W g x b) (hc:CurE w0 W' g x c) (hb:Below w0.heap.size w0 W') (hk:KeepBut W W' g none):DrE w0 w W' g x c:=⟨hc,hb,KeepBut.trans h.hK hk (.inl rfl),h.hw⟩
theorem DrE.below (h:DrE w0 w W g x b) (hb:Below W.heap.size W W'):DrE w0 w W' g x b:=⟨h.cur.below hb,below_step h.hB hb,KeepBut.trans h.hK (KeepBut.of_below hb g none) (.inl rfl),h.hw⟩
theorem DrE.far (h:DrE w0 w W g x b) {q t:Nat} {cs:Array Value} (hb:W.heap[q]? = some (.cells cs t (0,0))) (ht:96 ≠ t) (hq:w.heap.size <= q) (j:Nat) (v:Value):DrE w0 w (W.setCell ⟨q,j,none⟩ v) g x b:=
 ⟨h.cur.far (h.cur.ne hb ht) v,below_set h.hB (Nat.le_trans h.hw hq),keep_far h.hK hq v,h.hw⟩
theorem DrE.mono (h:DrE w0 w W g x b) (hbc:b <= c):DrE w0 w W g x c:=⟨h.cur.mono hbc,h.hB,h.hK,h.hw⟩
theorem DrE.size (h:DrE w0 w W g x b):w.heap.size <= W.heap.size:=h.hK.1
end
theorem put5_ {W:World} {q t:Nat} {b0 b1 b2 b3 b4:Value} (h:W.heap[q]? = some (.cells #[b0,b1,b2,b3,b4] t (0,0))) (a0 a1 a2 a3 a4:Value):(((((W.setCell ⟨q,0,none⟩ (a0)).setCell ⟨q,1,none⟩ (a1)).setCell ⟨q,2,none⟩ (a2)).setCell ⟨q,3,none⟩ (a3)).setCell ⟨q,4,none⟩ (a4)).heap[q]? = some (.cells #[a0,a1,a2,a3,a4] t (0,0)):=(blk_put (cs:=#[a0,a1,a2,a3,b4]) (blk_put (cs:=#[a0,a1,a2,b3,b4]) (blk_put (cs:=#[a0,a1,b2,b3,b4]) (blk_put (cs:=#[a0,b1,b2,b3,b4]) (blk_put (cs:=#[b0,b1,b2,b3,b4]) h 0 _ rfl) 1 _ rfl) 2 _ rfl) 3 _ rfl) 4 _ rfl)
theorem farN5_ {W:World} {q p t:Nat} {cs:Array Value} (h:W.heap[p]? = some (.cells cs t (0,0))) (hne:p ≠ q) (a0 a1 a2 a3 a4:Value):(((((W.setCell ⟨q,0,none⟩ (a0)).setCell ⟨q,1,none⟩ (a1)).setCell ⟨q,2,none⟩ (a2)).setCell ⟨q,3,none⟩ (a3)).setCell ⟨q,4,none⟩ (a4)).heap[p]? = some (.cells cs t (0,0)):=(blk_far (p:=⟨q,4,none⟩) (blk_far (p:=⟨q,3,none⟩) (blk_far (p:=⟨q,2,none⟩) (blk_far (p:=⟨q,1,none⟩) (blk_far (p:=⟨q,0,none⟩) h hne _) hne _) hne _) hne _) hne _)
theorem rowN5_ {α:Type} {d:Kd α} {e lo B0:Nat} {W:World} {v:Value} {l:List α} {q:Nat} (h:d.R e W lo (fun k=>k < B0) v l) (hq:B0 <= q) (a0 a1 a2 a3 a4:Value):d.R e (((((W.setCell ⟨q,0,none⟩ (a0)).setCell ⟨q,1,none⟩ (a1)).setCell ⟨q,2,none⟩ (a2)).setCell ⟨q,3,none⟩ (a3)).setCell ⟨q,4,none⟩ (a4)) lo (fun k=>k < B0) v l:=(Kd.R_far (p:=⟨q,4,none⟩) (Kd.R_far (p:=⟨q,3,none⟩) (Kd.R_far (p:=⟨q,2,none⟩) (Kd.R_far (p:=⟨q,1,none⟩) (Kd.R_far (p:=⟨q,0,none⟩) h (fun k_ hk_ e_=>by have h1_:k_ < B0:=hk_;have h2_:k_ = q:=e_;omega) _) (fun k_ hk_ e_=>by have h1_:k_ < B0:=hk_;have h2_:k_ = q:=e_;omega) _) (fun k_ hk_ e_=>by have h1_:k_ < B0:=hk_;have h2_:k_ = q:=e_;omega) _) (fun k_ hk_ e_=>by have h1_:k_ < B0:=hk_;have h2_:k_ = q:=e_;omega) _) (fun k_ hk_ e_=>by have h1_:k_ < B0:=hk_;have h2_:k_ = q:=e_;omega) _)
theorem DrE.far5 {w0 w W:World} {g:Nat} {x:List Int} {b:Int} (h:DrE w0 w W g x b) {q t:Nat} {b0 b1 b2 b3 b4:Value} (hb:W.heap[q]? = some (.cells #[b0,b1,b2,b3,b4] t (0,0))) (ht:96 ≠ t) (hq:w.heap.size <= q) (a0 a1 a2 a3 a4:Value):DrE w0 w (((((W.setCell ⟨q,0,none⟩ (a0)).setCell ⟨q,1,none⟩ (a1)).setCell ⟨q,2,none⟩ (a2)).setCell ⟨q,3,none⟩ (a3)).setCell ⟨q,4,none⟩ (a4)) g x b:=by
 have ne:=h.cur.ne hb ht
 refine ⟨(((((h.cur.far ne _).far ne _).far ne _).far ne _).far ne _),(below_set (below_set (below_set (below_set (below_set h.hB (Nat.le_trans h.hw hq)) (Nat.le_trans h.hw hq)) (Nat.le_trans h.hw hq)) (Nat.le_trans h.hw hq)) (Nat.le_trans h.hw hq)),(keep_far (p:=⟨q,_,none⟩) (keep_far (p:=⟨q,_,none⟩) (keep_far (p:=⟨q,_,none⟩) (keep_far (p:=⟨q,_,none⟩) (keep_far (p:=⟨q,_,none⟩) h.hK hq _) hq _) hq _) hq _) hq _),h.hw⟩
theorem put7_ {W:World} {q t:Nat} {b0 b1 b2 b3 b4 b5 b6:Value} (h:W.heap[q]? = some (.cells #[b0,b1,b2,b3,b4,b5,b6] t (0,0))) (a0 a1 a2 a3 a4 a5 a6:Value):(((((((W.setCell ⟨q,0,none⟩ (a0)).setCell ⟨q,1,none⟩ (a1)).setCell ⟨q,2,none⟩ (a2)).setCell ⟨q,3,none⟩ (a3)).setCell ⟨q,4,none⟩ (a4)).setCell ⟨q,5,none⟩ (a5)).setCell ⟨q,6,none⟩ (a6)).heap[q]? = some (.cells #[a0,a1,a2,a3,a4,a5,a6] t (0,0)):=(blk_put (cs:=#[a0,a1,a2,a3,a4,a5,b6]) (blk_put (cs:=#[a0,a1,a2,a3,a4,b5,b6]) (blk_put (cs:=#[a0,a1,a2,a3,b4,b5,b6]) (blk_put (cs:=#[a0,a1,a2,b3,b4,b5,b6]) (blk_put (cs:=#[a0,a1,b2,b3,b4,b5,b6]) (blk_put (cs:=#[a0,b1,b2,b3,b4,b5,b6]) (blk_put (cs:=#[b0,b1,b2,b3,b4,b5,b6]) h 0 _ rfl) 1 _ rfl) 2 _ rfl) 3 _ rfl) 4 _ rfl) 5 _ rfl) 6 _ rfl)
theorem farN7_ {W:World} {q p t:Nat} {cs:Array Value} (h:W.heap[p]? = some (.cells cs t (0,0))) (hne:p ≠ q) (a0 a1 a2 a3 a4 a5 a6:Value):(((((((W.setCell ⟨q,0,none⟩ (a0)).setCell ⟨q,1,none⟩ (a1)).setCell ⟨q,2,none⟩ (a2)).setCell ⟨q,3,none⟩ (a3)).setCell ⟨q,4,none⟩ (a4)).setCell ⟨q,5,none⟩ (a5)).setCell ⟨q,6,none⟩ (a6)).heap[p]? = some (.cells cs t (0,0)):=(blk_far (p:=⟨q,6,none⟩) (blk_far (p:=⟨q,5,none⟩) (blk_far (p:=⟨q,4,none⟩) (blk_far (p:=⟨q,3,none⟩) (blk_far (p:=⟨q,2,none⟩) (blk_far (p:=⟨q,1,none⟩) (blk_far (p:=⟨q,0,none⟩) h hne _) hne _) hne _) hne _) hne _) hne _) hne _)
theorem rowN7_ {α:Type} {d:Kd α} {e lo B0:Nat} {W:World} {v:Value} {l:List α} {q:Nat} (h:d.R e W lo (fun k=>k < B0) v l) (hq:B0 <= q) (a0 a1 a2 a3 a4 a5 a6:Value):d.R e (((((((W.setCell ⟨q,0,none⟩ (a0)).setCell ⟨q,1,none⟩ (a1)).setCell ⟨q,2,none⟩ (a2)).setCell ⟨q,3,none⟩ (a3)).setCell ⟨q,4,none⟩ (a4)).setCell ⟨q,5,none⟩ (a5)).setCell ⟨q,6,none⟩ (a6)) lo (fun k=>k < B0) v l:=(Kd.R_far (p:=⟨q,6,none⟩) (Kd.R_far (p:=⟨q,5,none⟩) (Kd.R_far (p:=⟨q,4,none⟩) (Kd.R_far (p:=⟨q,3,none⟩) (Kd.R_far (p:=⟨q,2,none⟩) (Kd.R_far (p:=⟨q,1,none⟩) (Kd.R_far (p:=⟨q,0,none⟩) h (fun k_ hk_ e_=>by have h1_:k_ < B0:=hk_;have h2_:k_ = q:=e_;omega) _) (fun k_ hk_ e_=>by have h1_:k_ < B0:=hk_;have h2_:k_ = q:=e_;omega) _) (fun k_ hk_ e_=>by have h1_:k_ < B0:=hk_;have h2_:k_ = q:=e_;omega) _) (fun k_ hk_ e_=>by have h1_:k_ < B0:=hk_;have h2_:k_ = q:=e_;omega) _) (fun k_ hk_ e_=>by have h1_:k_ < B0:=hk_;have h2_:k_ = q:=e_;omega) _) (fun k_ hk_ e_=>by have h1_:k_ < B0:=hk_;have h2_:k_ = q:=e_;omega) _) (fun k_ hk_ e_=>by have h1_:k_ < B0:=hk_;have h2_:k_ = q:=e_;omega) _)
theorem DrE.far7 {w0 w W:World} {g:Nat} {x:List Int} {b:Int} (h:DrE w0 w W g x b) {q t:Nat} {b0 b1 b2 b3 b4 b5 b6:Value} (hb:W.heap[q]? = some (.cells #[b0,b1,b2,b3,b4,b5,b6] t (0,0))) (ht:96 ≠ t) (hq:w.heap.size <= q) (a0 a1 a2 a3 a4 a5 a6:Value):DrE w0 w (((((((W.setCell ⟨q,0,none⟩ (a0)).setCell ⟨q,1,none⟩ (a1)).setCell ⟨q,2,none⟩ (a2)).setCell ⟨q,3,none⟩ (a3)).setCell ⟨q,4,none⟩ (a4)).setCell ⟨q,5,none⟩ (a5)).setCell ⟨q,6,none⟩ (a6)) g x b:=by
 have ne:=h.cur.ne hb ht
 refine ⟨(((((((h.cur.far ne _).far ne _).far ne _).far ne _).far ne _).far ne _).far ne _),(below_set (below_set (below_set (below_set (below_set (below_set (below_set h.hB (Nat.le_trans h.hw hq)) (Nat.le_trans h.hw hq)) (Nat.le_trans h.hw hq)) (Nat.le_trans h.hw hq)) (Nat.le_trans h.hw hq)) (Nat.le_trans h.hw hq)) (Nat.le_trans h.hw hq)),(keep_far (p:=⟨q,_,none⟩) (keep_far (p:=⟨q,_,none⟩) (keep_far (p:=⟨q,_,none⟩) (keep_far (p:=⟨q,_,none⟩) (keep_far (p:=⟨q,_,none⟩) (keep_far (p:=⟨q,_,none⟩) (keep_far (p:=⟨q,_,none⟩) h.hK hq _) hq _) hq _) hq _) hq _) hq _) hq _),h.hw⟩
set_option maxHeartbeats 64000000 in
set_option maxRecDepth 100000 in
theorem legE {w0 w:World} {g:Nat} {x:List Int} {b:Int} (hx:BytesE x) (hC:CurE w0 w g x b) (hB:Below w0.heap.size w0 w) (hb:b <= 800000000) :
  Calls Try.prog 104 #[.pointer (some ⟨g,0,none⟩)] w fun e w'=>∃ a0 a1 a2 a3 a4:Int,e = .returned (.agg #[.int .i64 a0,.int .i64 a1,.int .i64 a2,.int .i64 a3,.int .i64 a4]) /\ DrE w0 w w' g x (b + 14):=by
 have hu37:=Try.underlying37
 have HD:=ak (show DrE w0 w w g x b from ⟨hC,hB,KeepBut.refl _ _ _,below_size hB⟩)
 clear hC hB
 go_enter Try.func104,Try.ntmps104
 go_upto_if 22 with (first|((with_reducible refine gate_dst (N:=2) rfl ?_);refine box_event ?hg (N:=2) ?hd (cs:=#[.int .i64 0,.int .i64 0,.int .i64 0,.int .i64 0,.int .i64 0]) (t:=37) ?hr ?_;(case hd=>rfl);(case hg=>rfl);(case hr=>first|(go_simp;done)|(go_simp;rfl));intro q2 hg wa hbox hb;have Gq2:=ak (show w.heap.size <= q2 from by rw [hg];exact HD.out.size);have Bq2:=ak hbox;replace HD:=ak (HD.out.below hb);clear hb hbox hg)|((with_reducible refine gate_callee (f:=81) rfl ?_);refine ga_ (some 5) Try.func81 #[.pointer (some ⟨g,0,none⟩),.int .i64 6] ?_;refine (pickE hx HD.out.cur HD.out.hB (by omega) 6 (by decide)).mono ?_;rintro e wb ⟨t0,rfl,h0_,h1_,hc,hb2,hk⟩;refine ⟨_,rfl,?_⟩;have Ht0:=ak (And.intro h0_ h1_);clear h0_ h1_;replace Bq2:=ak (HD.out.cur.blk hk Bq2.out (by decide));replace HD:=ak (HD.out.call hc hb2 hk);clear hc hb2 hk)|((with_reducible refine gate_callee (f:=81) rfl ?_);refine ga_ (some 7) Try.func81 #[.pointer (some ⟨g,0,none⟩),.int .i64 6] ?_;refine (pickE hx HD.out.cur HD.out.hB (by omega) 6 (by decide)).mono ?_;rintro e wc ⟨t1,rfl,h0_,h1_,hc,hb2,hk⟩;refine ⟨_,rfl,?_⟩;have Ht1:=ak (And.intro h0_ h1_);clear h0_ h1_;replace Bq2:=ak (HD.out.cur.blk hk Bq2.out (by decide));replace HD:=ak (HD.out.call hc hb2 hk);clear hc hb2 hk)|((with_reducible refine gate_dst (N:=9) rfl ?_);refine Kd.R_lit (Kd.int .i64) _ 3 ?hg (N:=9) ?hd (xs:=[1,10,50,100,120,250,500]) (inner:=[.int .i64 1,.int .i64 10,.int .i64 50,.int .i64 100,.int .i64 120,.int .i64 250,.int .i64 500]) (ok:=fun _=>True) (okp:=fun _=>True) ?hr ?hp (fun _ hk=>hk) trivial (Below.refl _ _) (Nat.le_refl _) (show 7 <= 9223372036854775807 from by decide) ?_;(case hd=>rfl);(case hg=>rfl);(case hr=>first|(go_simp;done)|(go_simp;rfl));(case hp=>exact reps_ints _ _ _ [1,10,50,100,120,250,500]);intro v_ wd ho hb hg_ hn_;obtain ⟨lp,hl_⟩:∃ z:List Int,z = [1,10,50,100,120,250,500]:=⟨_,rfl⟩;rw [<- hl_] at ho;have Pp:=ak (show 0 < lp.length from by rw [hl_];exact Nat.zero_lt_succ _);obtain ⟨Ap,cp,ee_⟩:=Kd.R_slice ho;subst ee_;have Lp:=ak ho;replace Bq2:=ak (bb_ Bq2.out hb);replace HD:=ak (HD.out.below hb);clear ho hb hg_ hn_ hl_)|((with_reducible refine gate_callee (f:=86) rfl ?_);refine ga_ (some 10) Try.func86 #[.pointer (some ⟨g,0,none⟩),.slice Ap lp.length cp] ?_;refine (amongE hx HD.out.cur HD.out.hB (by omega) Pp.out Lp.out).mono ?_;rintro e we ⟨t2,rfl,hm_,hc,hb2,hk⟩;refine ⟨_,rfl,?_⟩;clear hm_ Lp Pp;replace Bq2:=ak (HD.out.cur.blk hk Bq2.out (by decide));replace HD:=ak (HD.out.call hc hb2 hk);clear hc hb2 hk)|((with_reducible refine gate_dst (N:=12) rfl ?_);refine Kd.R_lit (Kd.int .i64) _ 3 ?hg (N:=12) ?hd (xs:=[0,45,90,135,180,270,359,17,222]) (inner:=[.int .i64 0,.int .i64 45,.int .i64 90,.int .i64 135,.int .i64 180,.int .i64 270,.int .i64 359,.int .i64 17,.int .i64 222]) (ok:=fun _=>True) (okp:=fun _=>True) ?hr ?hp (fun _ hk=>hk) trivial (Below.refl _ _) (Nat.le_refl _) (show 9 <= 9223372036854775807 from by decide) ?_;(case hd=>rfl);(case hg=>rfl);(case hr=>first|(go_simp;done)|(go_simp;rfl));(case hp=>exact reps_ints _ _ _ [0,45,90,135,180,270,359,17,222]);intro v_ wf ho hb hg_ hn_;obtain ⟨lr,hl_⟩:∃ z:List Int,z = [0,45,90,135,180,270,359,17,222]:=⟨_,rfl⟩;rw [<- hl_] at ho;have Pr:=ak (show 0 < lr.length from by rw [hl_];exact Nat.zero_lt_succ _);obtain ⟨Ar,cr,ee_⟩:=Kd.R_slice ho;subst ee_;have Lr:=ak ho;replace Bq2:=ak (bb_ Bq2.out hb);replace HD:=ak (HD.out.below hb);clear ho hb hg_ hn_ hl_)|((with_reducible refine gate_callee (f:=86) rfl ?_);refine ga_ (some 13) Try.func86 #[.pointer (some ⟨g,0,none⟩),.slice Ar lr.length cr] ?_;refine (amongE hx HD.out.cur HD.out.hB (by omega) Pr.out Lr.out).mono ?_;rintro e wh ⟨t3,rfl,hm_,hc,hb2,hk⟩;refine ⟨_,rfl,?_⟩;clear hm_ Lr Pr;replace Bq2:=ak (HD.out.cur.blk hk Bq2.out (by decide));replace HD:=ak (HD.out.call hc hb2 hk);clear hc hb2 hk)|((with_reducible refine gate_dst (N:=15) rfl ?_);refine Kd.R_lit (Kd.int .i64) _ 3 ?hg (N:=15) ?hd (xs:=[0,0,0,5,(-5),30,(-45),90,(-90)]) (inner:=[.int .i64 0,.int .i64 0,.int .i64 0,.int .i64 5,.int .i64 (-5),.int .i64 30,.int .i64 (-45),.int .i64 90,.int .i64 (-90)]) (ok:=fun _=>True) (okp:=fun _=>True) ?hr ?hp (fun _ hk=>hk) trivial (Below.refl _ _) (Nat.le_refl _) (show 9 <= 9223372036854775807 from by decide) ?_;(case hd=>rfl);(case hg=>rfl);(case hr=>first|(go_simp;done)|(go_simp;rfl));(case hp=>exact reps_ints _ _ _ [0,0,0,5,(-5),30,(-45),90,(-90)]);intro v_ wi ho hb hg_ hn_;obtain ⟨ls,hl_⟩:∃ z:List Int,z = [0,0,0,5,(-5),30,(-45),90,(-90)]:=⟨_,rfl⟩;rw [<- hl_] at ho;have Ps:=ak (show 0 < ls.length from by rw [hl_];exact Nat.zero_lt_succ _);obtain ⟨As,cs,ee_⟩:=Kd.R_slice ho;subst ee_;have Ls:=ak ho;replace Bq2:=ak (bb_ Bq2.out hb);replace HD:=ak (HD.out.below hb);clear ho hb hg_ hn_ hl_)|((with_reducible refine gate_callee (f:=86) rfl ?_);refine ga_ (some 16) Try.func86 #[.pointer (some ⟨g,0,none⟩),.slice As ls.length cs] ?_;refine (amongE hx HD.out.cur HD.out.hB (by omega) Ps.out Ls.out).mono ?_;rintro e wj ⟨t4,rfl,hm_,hc,hb2,hk⟩;refine ⟨_,rfl,?_⟩;clear hm_ Ls Ps;replace Bq2:=ak (HD.out.cur.blk hk Bq2.out (by decide));replace HD:=ak (HD.out.call hc hb2 hk);clear hc hb2 hk)|((with_reducible refine gate_dst (N:=3) rfl ?_);refine box_event ?hg (N:=3) ?hd (cs:=#[.int .i64 0,.int .i64 0,.int .i64 0,.int .i64 0,.int .i64 0]) (t:=37) ?hr ?_;(case hd=>rfl);(case hg=>rfl);(case hr=>first|(go_simp;done)|(go_simp;rfl));intro q3 hg wk hbox hb;have Gq3:=ak (show w.heap.size <= q3 from by rw [hg];exact HD.out.size);have Nq2_q3:=ak (nl_ hg Bq2.out);have Bq3:=ak hbox;replace Bq2:=ak (bb_ Bq2.out hb);replace HD:=ak (HD.out.below hb);clear hb hbox hg;obtain ⟨hcz0,hcz1,hcz2,hcz3,hcz4⟩:=cz5_ Bq3.out;obtain ⟨hfz0,hfz1,hfz2,hfz3,hfz4⟩:=fz5_ Bq3.out)|((with_reducible refine gate_store (t:=37) (p:=3) rfl ?_);refine store_event (t:=37) (p:=3) (v:=?vo1_) (w1:=(((((wk.setCell ⟨q3,0,none⟩ (.int .i64 t0)).setCell ⟨q3,1,none⟩ (.int .i64 t1)).setCell ⟨q3,2,none⟩ (.int .i64 t2)).setCell ⟨q3,3,none⟩ (.int .i64 t3)).setCell ⟨q3,4,none⟩ (.int .i64 t4))) ?hg ?ho ?hn ?hr ?_;(case ho=>rfl);(case hg=>rfl);(case hn=>rfl);(case hr=>first|(go_simp;done)|(go_simp;rfl));intro wl hw;clear hcz0 hfz0 hcz1 hfz1 hcz2 hfz2 hcz3 hfz3 hcz4 hfz4;have n0_:=put5_ Bq3.out (.int .i64 t0) (.int .i64 t1) (.int .i64 t2) (.int .i64 t3) (.int .i64 t4);rw [<- hw] at n0_;have n1_:=HD.out.far5 Bq3.out (by decide) Gq3.out (.int .i64 t0) (.int .i64 t1) (.int .i64 t2) (.int .i64 t3) (.int .i64 t4);rw [<- hw] at n1_;have m_:=farN5_ Bq2.out Nq2_q3.out (.int .i64 t0) (.int .i64 t1) (.int .i64 t2) (.int .i64 t3) (.int .i64 t4);rw [<- hw] at m_;replace Bq2:=ak m_;clear m_;clear hw Bq3 HD;have Bq3:=ak n0_;have HD:=ak n1_;clear n0_ n1_;obtain ⟨hcz0,hcz1,hcz2,hcz3,hcz4⟩:=cz5_ Bq3.out;obtain ⟨hfz0,hfz1,hfz2,hfz3,hfz4⟩:=fz5_ Bq3.out))
 clear hcz0 hfz0 hcz1 hfz1 hcz2 hfz2 hcz3 hfz3 hcz4 hfz4
 have HF:=HD
 have HFq2:=Bq2
 have HFq3:=Bq3
 go_cut [] (fun wc_=>∃ a0 a1 a2 a3 a4:Int,Aside0 (DrE w0 w wc_ g x (b + 10)) /\ Aside0 (wc_.heap[q3]? = some (.cells #[.int .i64 a0,.int .i64 a1,.int .i64 a2,.int .i64 a3,.int .i64 a4] 37 (0,0))) /\ Aside0 (wc_.heap[q2]? = some (.cells #[.int .i64 0,.int .i64 0,.int .i64 0,.int .i64 0,.int .i64 0] 37 (0,0))))
 case first=>
  by_cases hq:t0 = t1
  .
   have n1:(t0 == t1) = true:=beq_iff_eq.mpr hq
   clear hq
   obtain ⟨hcz0,hcz1,hcz2,hcz3,hcz4⟩:=cz5_ Bq3.out;obtain ⟨hfz0,hfz1,hfz2,hfz3,hfz4⟩:=fz5_ Bq3.out
   go_wp2_with fail
   go_meet
   case rel=>exact ⟨t0,_,t2,t3,t4,⟨(HD.out.far Bq3.out (by decide) Gq3.out 1 _).mono (by omega)⟩,⟨blk_put Bq3.out 1 _ rfl⟩,⟨blk_far (p:=⟨q3,1,none⟩) Bq2.out Nq2_q3.out _⟩⟩
  .
   have n1:(t0 == t1) = false:=beq_eq_false_iff_ne.mpr hq
   clear hq
   go_wp2_with fail
   go_meet
   case rel=>exact ⟨t0,t1,t2,t3,t4,⟨HD.out.mono (by omega)⟩,Bq3,Bq2⟩
 case rest=>
  clear HF HFq2 HFq3 HD Bq2 Bq3
  obtain ⟨a0,a1,a2,a3,a4,HD,Bq3,Bq2⟩:=hcut
  go_upto_block 0 with (first|((with_reducible refine gate_callee (f:=81) rfl ?_);refine ga_ (some 29) Try.func81 #[.pointer (some ⟨g,0,none⟩),.int .i64 40] ?_;refine (pickE hx HD.out.cur HD.out.hB (by omega) 40 (by decide)).mono ?_;rintro e wo ⟨u,rfl,h0_,h1_,hc,hb2,hk⟩;refine ⟨_,rfl,?_⟩;have Hu:=ak (And.intro h0_ h1_);clear h0_ h1_;replace Bq2:=ak (HD.out.cur.blk hk Bq2.out (by decide));replace Bq3:=ak (HD.out.cur.blk hk Bq3.out (by decide));replace HD:=ak (HD.out.call hc hb2 hk);clear hc hb2 hk))
  (try simp only [Act.put,List.setIfInBounds_toArray,List.set_cons_zero,List.set_cons_succ])
  go_cut [] (fun wc_=>∃ a0 a1 a2 a3 a4:Int,Aside0 (DrE w0 w wc_ g x (b + 14)) /\ Aside0 (wc_.heap[q3]? = some (.cells #[.int .i64 a0,.int .i64 a1,.int .i64 a2,.int .i64 a3,.int .i64 a4] 37 (0,0))) /\ Aside0 (wc_.heap[q2]? = some (.cells #[.int .i64 0,.int .i64 0,.int .i64 0,.int .i64 0,.int .i64 0] 37 (0,0))))
  case first=>
   by_cases k0:u = 0
   .
    subst k0
    obtain ⟨hcz0,hcz1,hcz2,hcz3,hcz4⟩:=cz5_ Bq3.out;obtain ⟨hfz0,hfz1,hfz2,hfz3,hfz4⟩:=fz5_ Bq3.out
    go_wp2_with (first|((with_reducible refine gate_dst (N:=35) rfl ?_);refine Kd.R_lit (Kd.int .i64) _ 3 ?hg (N:=35) ?hd (xs:=[(-1),7,8,a0]) (inner:=[.int .i64 (-1),.int .i64 7,.int .i64 8,.int .i64 a0]) (ok:=fun _=>True) (okp:=fun _=>True) ?hr ?hp (fun _ hk=>hk) trivial (Below.refl _ _) (Nat.le_refl _) (show 4 <= 9223372036854775807 from by decide) ?_;(case hd=>rfl);(case hg=>rfl);(case hr=>first|(go_simp;done)|(go_simp;rfl));(case hp=>exact reps_ints _ _ _ [(-1),7,8,a0]);intro v_ wp ho hb hg_ hn_;obtain ⟨lz,hl_⟩:∃ z:List Int,z = [(-1),7,8,a0]:=⟨_,rfl⟩;rw [<- hl_] at ho;have Pz:=ak (show 0 < lz.length from by rw [hl_];exact Nat.zero_lt_succ _);obtain ⟨Az,cz,ee_⟩:=Kd.R_slice ho;subst ee_;have Lz:=ak ho;replace Bq2:=ak (bb_ Bq2.out hb);replace Bq3:=ak (bb_ Bq3.out hb);replace HD:=ak (HD.out.below hb);clear ho hb hg_ hn_ hl_;clear hcz0 hfz0 hcz1 hfz1 hcz2 hfz2 hcz3 hfz3 hcz4 hfz4)|((with_reducible refine gate_callee (f:=86) rfl ?_);refine ga_ (some 36) Try.func86 #[.pointer (some ⟨g,0,none⟩),.slice Az lz.length cz] ?_;refine (amongE hx HD.out.cur HD.out.hB (by omega) Pz.out Lz.out).mono ?_;rintro e wq ⟨v,rfl,hm_,hc,hb2,hk⟩;refine ⟨_,rfl,?_⟩;clear hm_ Lz Pz;replace Bq2:=ak (HD.out.cur.blk hk Bq2.out (by decide));replace Bq3:=ak (HD.out.cur.blk hk Bq3.out (by decide));replace HD:=ak (HD.out.call hc hb2 hk);clear hc hb2 hk;obtain ⟨hcz0,hcz1,hcz2,hcz3,hcz4⟩:=cz5_ Bq3.out;obtain ⟨hfz0,hfz1,hfz2,hfz3,hfz4⟩:=fz5_ Bq3.out))
    go_meet
    case rel=>exact ⟨a0,_,a2,a3,a4,⟨(HD.out.far Bq3.out (by decide) Gq3.out 1 _).mono (by omega)⟩,⟨blk_put Bq3.out 1 _ rfl⟩,⟨blk_far (p:=⟨q3,1,none⟩) Bq2.out Nq2_q3.out _⟩⟩
   have n0:(u == 0) = false:=beq_eq_false_iff_ne.mpr k0
   clear k0
   by_cases k1:u = 1
   .
    subst k1
    obtain ⟨hcz0,hcz1,hcz2,hcz3,hcz4⟩:=cz5_ Bq3.out;obtain ⟨hfz0,hfz1,hfz2,hfz3,hfz4⟩:=fz5_ Bq3.out
    go_wp2_with (first|((with_reducible refine gate_dst (N:=41) rfl ?_);refine Kd.R_lit (Kd.int .i64) _ 3 ?hg (N:=41) ?hd (xs:=[0,501]) (inner:=[.int .i64 0,.int .i64 501]) (ok:=fun _=>True) (okp:=fun _=>True) ?hr ?hp (fun _ hk=>hk) trivial (Below.refl _ _) (Nat.le_refl _) (show 2 <= 9223372036854775807 from by decide) ?_;(case hd=>rfl);(case hg=>rfl);(case hr=>first|(go_simp;done)|(go_simp;rfl));(case hp=>exact reps_ints _ _ _ [0,501]);intro v_ wp ho hb hg_ hn_;obtain ⟨lz,hl_⟩:∃ z:List Int,z = [0,501]:=⟨_,rfl⟩;rw [<- hl_] at ho;have Pz:=ak (show 0 < lz.length from by rw [hl_];exact Nat.zero_lt_succ _);obtain ⟨Az,cz,ee_⟩:=Kd.R_slice ho;subst ee_;have Lz:=ak ho;replace Bq2:=ak (bb_ Bq2.out hb);replace Bq3:=ak (bb_ Bq3.out hb);replace HD:=ak (HD.out.below hb);clear ho hb hg_ hn_ hl_;clear hcz0 hfz0 hcz1 hfz1 hcz2 hfz2 hcz3 hfz3 hcz4 hfz4)|((with_reducible refine gate_callee (f:=86) rfl ?_);refine ga_ (some 42) Try.func86 #[.pointer (some ⟨g,0,none⟩),.slice Az lz.length cz] ?_;refine (amongE hx HD.out.cur HD.out.hB (by omega) Pz.out Lz.out).mono ?_;rintro e wq ⟨v,rfl,hm_,hc,hb2,hk⟩;refine ⟨_,rfl,?_⟩;clear hm_ Lz Pz;replace Bq2:=ak (HD.out.cur.blk hk Bq2.out (by decide));replace Bq3:=ak (HD.out.cur.blk hk Bq3.out (by decide));replace HD:=ak (HD.out.call hc hb2 hk);clear hc hb2 hk;obtain ⟨hcz0,hcz1,hcz2,hcz3,hcz4⟩:=cz5_ Bq3.out;obtain ⟨hfz0,hfz1,hfz2,hfz3,hfz4⟩:=fz5_ Bq3.out))
    go_meet
    case rel=>exact ⟨a0,a1,_,a3,a4,⟨(HD.out.far Bq3.out (by decide) Gq3.out 2 _).mono (by omega)⟩,⟨blk_put Bq3.out 2 _ rfl⟩,⟨blk_far (p:=⟨q3,2,none⟩) Bq2.out Nq2_q3.out _⟩⟩
   have n1:(u == 1) = false:=beq_eq_false_iff_ne.mpr k1
   clear k1
   by_cases k2:u = 2
   .
    subst k2
    obtain ⟨hcz0,hcz1,hcz2,hcz3,hcz4⟩:=cz5_ Bq3.out;obtain ⟨hfz0,hfz1,hfz2,hfz3,hfz4⟩:=fz5_ Bq3.out
    go_wp2_with (first|((with_reducible refine gate_dst (N:=47) rfl ?_);refine Kd.R_lit (Kd.int .i64) _ 3 ?hg (N:=47) ?hd (xs:=[(-1),360]) (inner:=[.int .i64 (-1),.int .i64 360]) (ok:=fun _=>True) (okp:=fun _=>True) ?hr ?hp (fun _ hk=>hk) trivial (Below.refl _ _) (Nat.le_refl _) (show 2 <= 9223372036854775807 from by decide) ?_;(case hd=>rfl);(case hg=>rfl);(case hr=>first|(go_simp;done)|(go_simp;rfl));(case hp=>exact reps_ints _ _ _ [(-1),360]);intro v_ wp ho hb hg_ hn_;obtain ⟨lz,hl_⟩:∃ z:List Int,z = [(-1),360]:=⟨_,rfl⟩;rw [<- hl_] at ho;have Pz:=ak (show 0 < lz.length from by rw [hl_];exact Nat.zero_lt_succ _);obtain ⟨Az,cz,ee_⟩:=Kd.R_slice ho;subst ee_;have Lz:=ak ho;replace Bq2:=ak (bb_ Bq2.out hb);replace Bq3:=ak (bb_ Bq3.out hb);replace HD:=ak (HD.out.below hb);clear ho hb hg_ hn_ hl_;clear hcz0 hfz0 hcz1 hfz1 hcz2 hfz2 hcz3 hfz3 hcz4 hfz4)|((with_reducible refine gate_callee (f:=86) rfl ?_);refine ga_ (some 48) Try.func86 #[.pointer (some ⟨g,0,none⟩),.slice Az lz.length cz] ?_;refine (amongE hx HD.out.cur HD.out.hB (by omega) Pz.out Lz.out).mono ?_;rintro e wq ⟨v,rfl,hm_,hc,hb2,hk⟩;refine ⟨_,rfl,?_⟩;clear hm_ Lz Pz;replace Bq2:=ak (HD.out.cur.blk hk Bq2.out (by decide));replace Bq3:=ak (HD.out.cur.blk hk Bq3.out (by decide));replace HD:=ak (HD.out.call hc hb2 hk);clear hc hb2 hk;obtain ⟨hcz0,hcz1,hcz2,hcz3,hcz4⟩:=cz5_ Bq3.out;obtain ⟨hfz0,hfz1,hfz2,hfz3,hfz4⟩:=fz5_ Bq3.out))
    go_meet
    case rel=>exact ⟨a0,a1,a2,_,a4,⟨(HD.out.far Bq3.out (by decide) Gq3.out 3 _).mono (by omega)⟩,⟨blk_put Bq3.out 3 _ rfl⟩,⟨blk_far (p:=⟨q3,3,none⟩) Bq2.out Nq2_q3.out _⟩⟩
   have n2:(u == 2) = false:=beq_eq_false_iff_ne.mpr k2
   clear k2
   by_cases k3:u = 3
   .
    subst k3
    obtain ⟨hcz0,hcz1,hcz2,hcz3,hcz4⟩:=cz5_ Bq3.out;obtain ⟨hfz0,hfz1,hfz2,hfz3,hfz4⟩:=fz5_ Bq3.out
    go_wp2_with (first|((with_reducible refine gate_dst (N:=53) rfl ?_);refine Kd.R_lit (Kd.int .i64) _ 3 ?hg (N:=53) ?hd (xs:=[(-91),91]) (inner:=[.int .i64 (-91),.int .i64 91]) (ok:=fun _=>True) (okp:=fun _=>True) ?hr ?hp (fun _ hk=>hk) trivial (Below.refl _ _) (Nat.le_refl _) (show 2 <= 9223372036854775807 from by decide) ?_;(case hd=>rfl);(case hg=>rfl);(case hr=>first|(go_simp;done)|(go_simp;rfl));(case hp=>exact reps_ints _ _ _ [(-91),91]);intro v_ wp ho hb hg_ hn_;obtain ⟨lz,hl_⟩:∃ z:List Int,z = [(-91),91]:=⟨_,rfl⟩;rw [<- hl_] at ho;have Pz:=ak (show 0 < lz.length from by rw [hl_];exact Nat.zero_lt_succ _);obtain ⟨Az,cz,ee_⟩:=Kd.R_slice ho;subst ee_;have Lz:=ak ho;replace Bq2:=ak (bb_ Bq2.out hb);replace Bq3:=ak (bb_ Bq3.out hb);replace HD:=ak (HD.out.below hb);clear ho hb hg_ hn_ hl_;clear hcz0 hfz0 hcz1 hfz1 hcz2 hfz2 hcz3 hfz3 hcz4 hfz4)|((with_reducible refine gate_callee (f:=86) rfl ?_);refine ga_ (some 54) Try.func86 #[.pointer (some ⟨g,0,none⟩),.slice Az lz.length cz] ?_;refine (amongE hx HD.out.cur HD.out.hB (by omega) Pz.out Lz.out).mono ?_;rintro e wq ⟨v,rfl,hm_,hc,hb2,hk⟩;refine ⟨_,rfl,?_⟩;clear hm_ Lz Pz;replace Bq2:=ak (HD.out.cur.blk hk Bq2.out (by decide));replace Bq3:=ak (HD.out.cur.blk hk Bq3.out (by decide));replace HD:=ak (HD.out.call hc hb2 hk);clear hc hb2 hk;obtain ⟨hcz0,hcz1,hcz2,hcz3,hcz4⟩:=cz5_ Bq3.out;obtain ⟨hfz0,hfz1,hfz2,hfz3,hfz4⟩:=fz5_ Bq3.out))
    go_meet
    case rel=>exact ⟨a0,a1,a2,a3,_,⟨(HD.out.far Bq3.out (by decide) Gq3.out 4 _).mono (by omega)⟩,⟨blk_put Bq3.out 4 _ rfl⟩,⟨blk_far (p:=⟨q3,4,none⟩) Bq2.out Nq2_q3.out _⟩⟩
   have n3:(u == 3) = false:=beq_eq_false_iff_ne.mpr k3
   clear k3
   go_wp2_with fail
   go_meet
   case rel=>exact ⟨a0,a1,a2,a3,a4,⟨HD.out.mono (by omega)⟩,Bq3,Bq2⟩
  case rest=>
   clear HD Bq2 Bq3
   obtain ⟨a0,a1,a2,a3,a4,HD,Bq3,Bq2⟩:=hcut
   obtain ⟨hcza0,hcza1,hcza2,hcza3,hcza4⟩:=cz5_ Bq3.out;obtain ⟨hfza0,hfza1,hfza2,hfza3,hfza4⟩:=fz5_ Bq3.out
   obtain ⟨hczb0,hczb1,hczb2,hczb3,hczb4⟩:=cz5_ Bq2.out;obtain ⟨hfzb0,hfzb1,hfzb2,hfzb3,hfzb4⟩:=fz5_ Bq2.out
   go_wp2_with fail
   refine bodyPost_ret (results_cell_row rfl _ _ q2 37 #[.int .i64 a0,.int .i64 a1,.int .i64 a2,.int .i64 a3,.int .i64 a4] (0,0) _ rfl (put5_ Bq2.out (.int .i64 a0) (.int .i64 a1) (.int .i64 a2) (.int .i64 a3) (.int .i64 a4)) Try.underlying37 rfl (by kernel_rfl)) rfl ?_
   exact ⟨a0,a1,a2,a3,a4,rr_,(HD.out.far5 Bq2.out (by decide) Gq2.out (.int .i64 a0) (.int .i64 a1) (.int .i64 a2) (.int .i64 a3) (.int .i64 a4)).mono (by omega)⟩
set_option maxHeartbeats 64000000 in
set_option maxRecDepth 100000 in
theorem walkE {w0 w:World} {g:Nat} {x:List Int} {b:Int} (hx:BytesE x) (hC:CurE w0 w g x b) (hB:Below w0.heap.size w0 w) (hb:b <= 700000000) {lo:Nat} {P:Nat -> Prop} {A0 A1 A2:Option Addr} {c0 n1 c1 n2 c2:Nat} {L:List S37} (hL:Kd.R k37 37 w lo P (.slice A0 L.length c0) L) (hl:L.length <= 1000000) (p t:Int) :
  Calls Try.prog 75 #[.pointer (some ⟨g,0,none⟩),.agg #[.slice A0 L.length c0,.slice A1 n1 c1,.slice A2 n2 c2,.int .i64 p,.int .i64 t]] w fun e w'=>∃ a0 a1 a2 a3 a4 a5 a6:Int,e = .returned (.agg #[.int .i64 a0,.int .i64 a1,.int .i64 a2,.int .i64 a3,.int .i64 a4,.int .i64 a5,.int .i64 a6]) /\ DrE w0 w w' g x (b + 24):=by
 have hu30:=Try.underlying30
 have hu37:=Try.underlying37
 have hu39:=Try.underlying39
 have HD:=ak (show DrE w0 w w g x b from ⟨hC,hB,KeepBut.refl _ _ _,below_size hB⟩)
 have HL:=ak (show Kd.R k37 37 w lo (fun k=>k < w.heap.size) (.slice A0 L.length c0) L from Kd.R_mono (Kd.R_bound hL) (fun _ hk=>hk.2.2.1))
 clear hC hB hL
 go_enter Try.func75,Try.ntmps75
 go_upto_block 0 with (first|((with_reducible refine gate_dst (N:=3) rfl ?_);refine box_event ?hg (N:=3) ?hd (cs:=#[.slice A0 L.length c0,.slice A1 n1 c1,.slice A2 n2 c2,.int .i64 p,.int .i64 t]) (t:=30) ?hr ?_;(case hd=>rfl);(case hg=>rfl);(case hr=>first|(go_simp;done)|(go_simp;rfl));intro q3 hg wa hbox hb;have Gq3:=ak (show w.heap.size <= q3 from by rw [hg];exact HD.out.size);have Bq3:=ak hbox;replace HL:=ak (Kd.R_below HL.out hb);replace HD:=ak (HD.out.below hb);clear hb hbox hg)|((with_reducible refine gate_dst (N:=4) rfl ?_);refine box_event ?hg (N:=4) ?hd (cs:=#[.int .i64 0,.int .i64 0,.int .i64 0,.int .i64 0,.int .i64 0,.int .i64 0,.int .i64 0]) (t:=39) ?hr ?_;(case hd=>rfl);(case hg=>rfl);(case hr=>first|(go_simp;done)|(go_simp;rfl));intro q4 hg wb hbox hb;have Gq4:=ak (show w.heap.size <= q4 from by rw [hg];exact HD.out.size);have Nq3_q4:=ak (nl_ hg Bq3.out);have Bq4:=ak hbox;replace Bq3:=ak (bb_ Bq3.out hb);replace HL:=ak (Kd.R_below HL.out hb);replace HD:=ak (HD.out.below hb);clear hb hbox hg)|((with_reducible refine gate_callee (f:=81) rfl ?_);refine ga_ (some 10) Try.func81 #[.pointer (some ⟨g,0,none⟩),.int .i64 8] ?_;refine (pickE hx HD.out.cur HD.out.hB (by omega) 8 (by decide)).mono ?_;rintro e wc ⟨u,rfl,h0_,h1_,hc,hb2,hk⟩;refine ⟨_,rfl,?_⟩;have Hu:=ak (And.intro h0_ h1_);clear h0_ h1_;replace Bq3:=ak (HD.out.cur.blk hk Bq3.out (by decide));replace Bq4:=ak (HD.out.cur.blk hk Bq4.out (by decide));replace HL:=ak (HD.out.cur.row hk HL.out (by decide));replace HD:=ak (HD.out.call hc hb2 hk);clear hc hb2 hk))
 (try simp only [Act.put,List.setIfInBounds_toArray,List.set_cons_zero,List.set_cons_succ])
 go_cut [] (fun wc_=>Aside0 (DrE w0 w wc_ g x (b + 10)) /\ Aside0 (wc_.heap[q3]? = some (.cells #[.slice A0 L.length c0,.slice A1 n1 c1,.slice A2 n2 c2,.int .i64 p,.int .i64 t] 30 (0,0))) /\ Aside0 (wc_.heap[q4]? = some (.cells #[.int .i64 0,.int .i64 0,.int .i64 0,.int .i64 0,.int .i64 0,.int .i64 0,.int .i64 0] 39 (0,0))) /\ Aside0 (Kd.R k37 37 wc_ lo (fun k=>k < w.heap.size) (.slice A0 L.length c0) L))
 case first=>
  by_cases k0:u = 0
  .
   subst k0
   obtain ⟨hcz0,hcz1,hcz2,hcz3,hcz4,hcz5,hcz6⟩:=cz7_ Bq4.out;obtain ⟨hfz0,hfz1,hfz2,hfz3,hfz4,hfz5,hfz6⟩:=fz7_ Bq4.out
   go_wp2_with (first|((with_reducible refine gate_store (t:=39) (p:=4) rfl ?_);refine store_event (t:=39) (p:=4) (v:=?vo2_) (w1:=(((((((wc.setCell ⟨q4,0,none⟩ (.int .i64 3)).setCell ⟨q4,1,none⟩ (.int .i64 0)).setCell ⟨q4,2,none⟩ (.int .i64 0)).setCell ⟨q4,3,none⟩ (.int .i64 0)).setCell ⟨q4,4,none⟩ (.int .i64 0)).setCell ⟨q4,5,none⟩ (.int .i64 0)).setCell ⟨q4,6,none⟩ (.int .i64 0))) ?hg ?ho ?hn ?hr ?_;(case ho=>rfl);(case hg=>rfl);(case hn=>rfl);(case hr=>first|(go_simp;done)|(go_simp;rfl));intro wd hw;clear hcz0 hfz0 hcz1 hfz1 hcz2 hfz2 hcz3 hfz3 hcz4 hfz4 hcz5 hfz5 hcz6 hfz6;have n0_:=put7_ Bq4.out (.int .i64 3) (.int .i64 0) (.int .i64 0) (.int .i64 0) (.int .i64 0) (.int .i64 0) (.int .i64 0);rw [<- hw] at n0_;have n1_:=HD.out.far7 Bq4.out (by decide) Gq4.out (.int .i64 3) (.int .i64 0) (.int .i64 0) (.int .i64 0) (.int .i64 0) (.int .i64 0) (.int .i64 0);rw [<- hw] at n1_;have m_:=farN7_ Bq3.out Nq3_q4.out (.int .i64 3) (.int .i64 0) (.int .i64 0) (.int .i64 0) (.int .i64 0) (.int .i64 0) (.int .i64 0);rw [<- hw] at m_;replace Bq3:=ak m_;clear m_;clear hw Bq4 HD;have Bq4:=ak n0_;have HD:=ak n1_;clear n0_ n1_))
   refine bodyPost_ret (results_cell_row rfl _ _ q4 39 #[.int .i64 3,.int .i64 0,.int .i64 0,.int .i64 0,.int .i64 0,.int .i64 0,.int .i64 0] (0,0) _ rfl Bq4.out Try.underlying39 rfl (by kernel_rfl)) rfl ?_
   exact ⟨_,_,_,_,_,_,_,rr_,HD.out.mono (by omega)⟩
  have n0:(u == 0) = false:=beq_eq_false_iff_ne.mpr k0
  clear k0
  by_cases k1:u = 1
  .
   subst k1
   go_wp2_with (first|((with_reducible refine gate_dst (N:=17) rfl ?_);refine Kd.R_lit (Kd.int .i64) _ 3 ?hg (N:=17) ?hd (xs:=[1,100,500,1000,0,1001]) (inner:=[.int .i64 1,.int .i64 100,.int .i64 500,.int .i64 1000,.int .i64 0,.int .i64 1001]) (ok:=fun _=>True) (okp:=fun _=>True) ?hr ?hp (fun _ hk=>hk) trivial (Below.refl _ _) (Nat.le_refl _) (show 6 <= 9223372036854775807 from by decide) ?_;(case hd=>rfl);(case hg=>rfl);(case hr=>first|(go_simp;done)|(go_simp;rfl));(case hp=>exact reps_ints _ _ _ [1,100,500,1000,0,1001]);intro v_ wd ho hb hg_ hn_;obtain ⟨lz,hl_⟩:∃ z:List Int,z = [1,100,500,1000,0,1001]:=⟨_,rfl⟩;rw [<- hl_] at ho;have Pz:=ak (show 0 < lz.length from by rw [hl_];exact Nat.zero_lt_succ _);obtain ⟨Az,cz,ee_⟩:=Kd.R_slice ho;subst ee_;have Lz:=ak ho;replace Bq3:=ak (bb_ Bq3.out hb);replace Bq4:=ak (bb_ Bq4.out hb);replace HL:=ak (Kd.R_below HL.out hb);replace HD:=ak (HD.out.below hb);clear ho hb hg_ hn_ hl_)|((with_reducible refine gate_callee (f:=86) rfl ?_);refine ga_ (some 18) Try.func86 #[.pointer (some ⟨g,0,none⟩),.slice Az lz.length cz] ?_;refine (amongE hx HD.out.cur HD.out.hB (by omega) Pz.out Lz.out).mono ?_;rintro e we ⟨v,rfl,hm_,hc,hb2,hk⟩;refine ⟨_,rfl,?_⟩;clear hm_ Lz Pz;replace Bq3:=ak (HD.out.cur.blk hk Bq3.out (by decide));replace Bq4:=ak (HD.out.cur.blk hk Bq4.out (by decide));replace HL:=ak (HD.out.cur.row hk HL.out (by decide));replace HD:=ak (HD.out.call hc hb2 hk);clear hc hb2 hk;obtain ⟨hcz0,hcz1,hcz2,hcz3,hcz4,hcz5,hcz6⟩:=cz7_ Bq4.out;obtain ⟨hfz0,hfz1,hfz2,hfz3,hfz4,hfz5,hfz6⟩:=fz7_ Bq4.out)|((with_reducible refine gate_store (t:=39) (p:=4) rfl ?_);refine store_event (t:=39) (p:=4) (v:=?vo3_) (w1:=(((((((we.setCell ⟨q4,0,none⟩ (.int .i64 4)).setCell ⟨q4,1,none⟩ (.int .i64 v)).setCell ⟨q4,2,none⟩ (.int .i64 0)).setCell ⟨q4,3,none⟩ (.int .i64 0)).setCell ⟨q4,4,none⟩ (.int .i64 0)).setCell ⟨q4,5,none⟩ (.int .i64 0)).setCell ⟨q4,6,none⟩ (.int .i64 0))) ?hg ?ho ?hn ?hr ?_;(case ho=>rfl);(case hg=>rfl);(case hn=>rfl);(case hr=>first|(go_simp;done)|(go_simp;rfl));intro wf hw;clear hcz0 hfz0 hcz1 hfz1 hcz2 hfz2 hcz3 hfz3 hcz4 hfz4 hcz5 hfz5 hcz6 hfz6;have n0_:=put7_ Bq4.out (.int .i64 4) (.int .i64 v) (.int .i64 0) (.int .i64 0) (.int .i64 0) (.int .i64 0) (.int .i64 0);rw [<- hw] at n0_;have n1_:=HD.out.far7 Bq4.out (by decide) Gq4.out (.int .i64 4) (.int .i64 v) (.int .i64 0) (.int .i64 0) (.int .i64 0) (.int .i64 0) (.int .i64 0);rw [<- hw] at n1_;have m_:=farN7_ Bq3.out Nq3_q4.out (.int .i64 4) (.int .i64 v) (.int .i64 0) (.int .i64 0) (.int .i64 0) (.int .i64 0) (.int .i64 0);rw [<- hw] at m_;replace Bq3:=ak m_;clear m_;clear hw Bq4 HD;have Bq4:=ak n0_;have HD:=ak n1_;clear n0_ n1_))
   refine bodyPost_ret (results_cell_row rfl _ _ q4 39 #[.int .i64 4,.int .i64 v,.int .i64 0,.int .i64 0,.int .i64 0,.int .i64 0,.int .i64 0] (0,0) _ rfl Bq4.out Try.underlying39 rfl (by kernel_rfl)) rfl ?_
   exact ⟨_,_,_,_,_,_,_,rr_,HD.out.mono (by omega)⟩
  have n1:(u == 1) = false:=beq_eq_false_iff_ne.mpr k1
  clear k1
  by_cases k2:u = 2
  .
   subst k2
   go_upto_if 31 with (first|((with_reducible refine gate_callee (f:=104) rfl ?_);refine ga_ (some 23) Try.func104 #[.pointer (some ⟨g,0,none⟩)] ?_;refine (legE hx HD.out.cur HD.out.hB (by omega)).mono ?_;rintro e wd ⟨e0,e1,e2,e3,e4,rfl,hd⟩;refine ⟨_,rfl,?_⟩;have hk:=hd.hK;replace Bq3:=ak (HD.out.cur.blk hk Bq3.out (by decide));replace Bq4:=ak (HD.out.cur.blk hk Bq4.out (by decide));replace HL:=ak (HD.out.cur.row hk HL.out (by decide));replace HD:=ak (HD.out.call hd.cur hd.hB hk);clear hd hk)|((with_reducible refine gate_dst (N:=5) rfl ?_);refine box_event ?hg (N:=5) ?hd (cs:=#[.int .i64 0,.int .i64 0,.int .i64 0,.int .i64 0,.int .i64 0]) (t:=37) ?hr ?_;(case hd=>rfl);(case hg=>rfl);(case hr=>first|(go_simp;done)|(go_simp;rfl));intro q5 hg we hbox hb;have Gq5:=ak (show w.heap.size <= q5 from by rw [hg];exact HD.out.size);have Nq3_q5:=ak (nl_ hg Bq3.out);have Nq4_q5:=ak (nl_ hg Bq4.out);have Bq5:=ak hbox;replace Bq3:=ak (bb_ Bq3.out hb);replace Bq4:=ak (bb_ Bq4.out hb);replace HL:=ak (Kd.R_below HL.out hb);replace HD:=ak (HD.out.below hb);clear hb hbox hg;obtain ⟨hcz0,hcz1,hcz2,hcz3,hcz4⟩:=cz5_ Bq5.out;obtain ⟨hfz0,hfz1,hfz2,hfz3,hfz4⟩:=fz5_ Bq5.out)|((with_reducible refine gate_store (t:=37) (p:=5) rfl ?_);refine store_event (t:=37) (p:=5) (v:=?vo4_) (w1:=(((((we.setCell ⟨q5,0,none⟩ (.int .i64 e0)).setCell ⟨q5,1,none⟩ (.int .i64 e1)).setCell ⟨q5,2,none⟩ (.int .i64 e2)).setCell ⟨q5,3,none⟩ (.int .i64 e3)).setCell ⟨q5,4,none⟩ (.int .i64 e4))) ?hg ?ho ?hn ?hr ?_;(case ho=>rfl);(case hg=>rfl);(case hn=>rfl);(case hr=>first|(go_simp;done)|(go_simp;rfl));intro wf hw;clear hcz0 hfz0 hcz1 hfz1 hcz2 hfz2 hcz3 hfz3 hcz4 hfz4;have n0_:=put5_ Bq5.out (.int .i64 e0) (.int .i64 e1) (.int .i64 e2) (.int .i64 e3) (.int .i64 e4);rw [<- hw] at n0_;have n1_:=HD.out.far5 Bq5.out (by decide) Gq5.out (.int .i64 e0) (.int .i64 e1) (.int .i64 e2) (.int .i64 e3) (.int .i64 e4);rw [<- hw] at n1_;have m_:=farN5_ Bq3.out Nq3_q5.out (.int .i64 e0) (.int .i64 e1) (.int .i64 e2) (.int .i64 e3) (.int .i64 e4);rw [<- hw] at m_;replace Bq3:=ak m_;clear m_;have m_:=farN5_ Bq4.out Nq4_q5.out (.int .i64 e0) (.int .i64 e1) (.int .i64 e2) (.int .i64 e3) (.int .i64 e4);rw [<- hw] at m_;replace Bq4:=ak m_;clear m_;have m_:=rowN5_ HL.out Gq5.out (.int .i64 e0) (.int .i64 e1) (.int .i64 e2) (.int .i64 e3) (.int .i64 e4);rw [<- hw] at m_;replace HL:=ak m_;clear m_;clear hw Bq5 HD;have Bq5:=ak n0_;have HD:=ak n1_;clear n0_ n1_;have hx3:=blk_cell Bq3.out 3;replace hx3:wf.cell? ⟨q3,3,none⟩ = some (.int .i64 p):=hx3;obtain ⟨hcz0,hcz1,hcz2,hcz3,hcz4⟩:=cz5_ Bq5.out;obtain ⟨hfz0,hfz1,hfz2,hfz3,hfz4⟩:=fz5_ Bq5.out))
   clear hx3 hcz0 hfz0 hcz1 hfz1 hcz2 hfz2 hcz3 hfz3 hcz4 hfz4 HL n0 n1
   have m1:=ak (HD.out.far Bq5.out (by decide) Gq5.out 0 (.int .i64 p))
   have m2:Aside0 ((wf.setCell ⟨q5,0,none⟩ (.int .i64 p)).heap[q5]? = some (.cells #[.int .i64 p,.int .i64 e1,.int .i64 e2,.int .i64 e3,.int .i64 e4] 37 (0,0))):=⟨blk_put Bq5.out 0 _ rfl⟩
   have m3:=ak (blk_far (p:=⟨q5,0,none⟩) Bq3.out Nq3_q5.out (.int .i64 p))
   have m4:=ak (blk_far (p:=⟨q5,0,none⟩) Bq4.out Nq4_q5.out (.int .i64 p))
   clear HD Bq5 Bq3 Bq4
   generalize wf.setCell ⟨q5,0,none⟩ (.int .i64 p) = wg at m1 m2 m3 m4 ⊢
   have HD:=m1
   have Bq5:=m2
   have Bq3:=m3
   have Bq4:=m4
   clear m1 m2 m3 m4
   go_cut [] (fun wc_=>∃ d1:Int,Aside0 (DrE w0 w wc_ g x (b + 20)) /\ Aside0 (wc_.heap[q5]? = some (.cells #[.int .i64 p,.int .i64 d1,.int .i64 e2,.int .i64 e3,.int .i64 e4] 37 (0,0))) /\ Aside0 (wc_.heap[q3]? = some (.cells #[.slice A0 L.length c0,.slice A1 n1 c1,.slice A2 n2 c2,.int .i64 p,.int .i64 t] 30 (0,0))) /\ Aside0 (wc_.heap[q4]? = some (.cells #[.int .i64 0,.int .i64 0,.int .i64 0,.int .i64 0,.int .i64 0,.int .i64 0,.int .i64 0] 39 (0,0))))
   case first=>
    by_cases hq:e1 = p
    .
     have hn:(e1 == p) = true:=beq_iff_eq.mpr hq
     clear hq
     obtain ⟨hcz0,hcz1,hcz2,hcz3,hcz4⟩:=cz5_ Bq5.out;obtain ⟨hfz0,hfz1,hfz2,hfz3,hfz4⟩:=fz5_ Bq5.out
     go_wp2_with fail
     go_meet
     case rel=>exact ⟨_,⟨(HD.out.far Bq5.out (by decide) Gq5.out 1 _).mono (by omega)⟩,⟨blk_put Bq5.out 1 _ rfl⟩,⟨blk_far (p:=⟨q5,1,none⟩) Bq3.out Nq3_q5.out _⟩,⟨blk_far (p:=⟨q5,1,none⟩) Bq4.out Nq4_q5.out _⟩⟩
    .
     have hn:(e1 == p) = false:=beq_eq_false_iff_ne.mpr hq
     clear hq
     go_wp2_with fail
     go_meet
     case rel=>exact ⟨e1,⟨HD.out.mono (by omega)⟩,Bq5,Bq3,Bq4⟩
   case rest=>
    clear HD Bq5 Bq3 Bq4
    obtain ⟨d1,HD,Bq5,Bq3,Bq4⟩:=hcut
    obtain ⟨hczy0,hczy1,hczy2,hczy3,hczy4⟩:=cz5_ Bq5.out;obtain ⟨hfzy0,hfzy1,hfzy2,hfzy3,hfzy4⟩:=fz5_ Bq5.out
    obtain ⟨hcz0,hcz1,hcz2,hcz3,hcz4,hcz5,hcz6⟩:=cz7_ Bq4.out;obtain ⟨hfz0,hfz1,hfz2,hfz3,hfz4,hfz5,hfz6⟩:=fz7_ Bq4.out
    go_wp2_with (first|((with_reducible refine gate_store (t:=39) (p:=4) rfl ?_);refine store_event (t:=39) (p:=4) (v:=?vo5_) (w1:=(((((((wc.setCell ⟨q4,0,none⟩ (.int .i64 2)).setCell ⟨q4,1,none⟩ (.int .i64 0)).setCell ⟨q4,2,none⟩ (.int .i64 p)).setCell ⟨q4,3,none⟩ (.int .i64 d1)).setCell ⟨q4,4,none⟩ (.int .i64 e2)).setCell ⟨q4,5,none⟩ (.int .i64 e3)).setCell ⟨q4,6,none⟩ (.int .i64 e4))) ?hg ?ho ?hn ?hr ?_;(case ho=>rfl);(case hg=>rfl);(case hn=>rfl);(case hr=>first|(go_simp;done)|(go_simp;rfl));intro wh hw;clear hcz0 hfz0 hcz1 hfz1 hcz2 hfz2 hcz3 hfz3 hcz4 hfz4 hcz5 hfz5 hcz6 hfz6;have n0_:=put7_ Bq4.out (.int .i64 2) (.int .i64 0) (.int .i64 p) (.int .i64 d1) (.int .i64 e2) (.int .i64 e3) (.int .i64 e4);rw [<- hw] at n0_;have n1_:=HD.out.far7 Bq4.out (by decide) Gq4.out (.int .i64 2) (.int .i64 0) (.int .i64 p) (.int .i64 d1) (.int .i64 e2) (.int .i64 e3) (.int .i64 e4);rw [<- hw] at n1_;have m_:=farN7_ Bq3.out Nq3_q4.out (.int .i64 2) (.int .i64 0) (.int .i64 p) (.int .i64 d1) (.int .i64 e2) (.int .i64 e3) (.int .i64 e4);rw [<- hw] at m_;replace Bq3:=ak m_;clear m_;clear hw Bq4 HD;have Bq4:=ak n0_;have HD:=ak n1_;clear n0_ n1_))
    refine bodyPost_ret (results_cell_row rfl _ _ q4 39 #[.int .i64 2,.int .i64 0,.int .i64 p,.int .i64 d1,.int .i64 e2,.int .i64 e3,.int .i64 e4] (0,0) _ rfl Bq4.out Try.underlying39 rfl (by kernel_rfl)) rfl ?_
    exact ⟨_,_,_,_,_,_,_,rr_,HD.out.mono (by omega)⟩
  have n2:(u == 2) = false:=beq_eq_false_iff_ne.mpr k2
  clear k2
  by_cases k3:u = 3
  .
   subst k3
   go_upto_if 42 with (first|((with_reducible refine gate_callee (f:=82) rfl ?_);refine ga_ (some 42) Try.func82 #[.pointer (some ⟨g,0,none⟩),.int .i64 6] ?_;refine (oneE hx HD.out.cur HD.out.hB (by omega) 6 (by decide)).mono ?_;rintro e wd ⟨o,rfl,hc,hb2,hk⟩;refine ⟨_,rfl,?_⟩;replace Bq3:=ak (HD.out.cur.blk hk Bq3.out (by decide));replace Bq4:=ak (HD.out.cur.blk hk Bq4.out (by decide));replace HL:=ak (HD.out.cur.row hk HL.out (by decide));replace HD:=ak (HD.out.call hc hb2 hk);clear hc hb2 hk))
   cases o with
   | true=>
    go_wp2_with (first|((with_reducible refine gate_dst (N:=44) rfl ?_);refine Kd.R_lit (Kd.int .i64) _ 3 ?hg (N:=44) ?hd (xs:=[0,5,3]) (inner:=[.int .i64 0,.int .i64 5,.int .i64 3]) (ok:=fun _=>True) (okp:=fun _=>True) ?hr ?hp (fun _ hk=>hk) trivial (Below.refl _ _) (Nat.le_refl _) (show 3 <= 9223372036854775807 from by decide) ?_;(case hd=>rfl);(case hg=>rfl);(case hr=>first|(go_simp;done)|(go_simp;rfl));(case hp=>exact reps_ints _ _ _ [0,5,3]);intro v_ we ho hb hg_ hn_;obtain ⟨lz,hl_⟩:∃ z:List Int,z = [0,5,3]:=⟨_,rfl⟩;rw [<- hl_] at ho;have Pz:=ak (show 0 < lz.length from by rw [hl_];exact Nat.zero_lt_succ _);obtain ⟨Az,cz,ee_⟩:=Kd.R_slice ho;subst ee_;have Lz:=ak ho;replace Bq3:=ak (bb_ Bq3.out hb);replace Bq4:=ak (bb_ Bq4.out hb);replace HL:=ak (Kd.R_below HL.out hb);replace HD:=ak (HD.out.below hb);clear ho hb hg_ hn_ hl_)|((with_reducible refine gate_callee (f:=86) rfl ?_);refine ga_ (some 45) Try.func86 #[.pointer (some ⟨g,0,none⟩),.slice Az lz.length cz] ?_;refine (amongE hx HD.out.cur HD.out.hB (by omega) Pz.out Lz.out).mono ?_;rintro e wf ⟨v,rfl,hm_,hc,hb2,hk⟩;refine ⟨_,rfl,?_⟩;clear hm_ Lz Pz;replace Bq3:=ak (HD.out.cur.blk hk Bq3.out (by decide));replace Bq4:=ak (HD.out.cur.blk hk Bq4.out (by decide));replace HL:=ak (HD.out.cur.row hk HL.out (by decide));replace HD:=ak (HD.out.call hc hb2 hk);clear hc hb2 hk)|((with_reducible refine gate_callee (f:=81) rfl ?_);refine ga_ (some 47) Try.func81 #[.pointer (some ⟨g,0,none⟩),.int .i64 3] ?_;refine (pickE hx HD.out.cur HD.out.hB (by omega) 3 (by decide)).mono ?_;rintro e wh ⟨y,rfl,h0_,h1_,hc,hb2,hk⟩;refine ⟨_,rfl,?_⟩;have Hy:=ak (And.intro h0_ h1_);clear h0_ h1_;replace Bq3:=ak (HD.out.cur.blk hk Bq3.out (by decide));replace Bq4:=ak (HD.out.cur.blk hk Bq4.out (by decide));replace HL:=ak (HD.out.cur.row hk HL.out (by decide));replace HD:=ak (HD.out.call hc hb2 hk);clear hc hb2 hk;obtain ⟨hcz0,hcz1,hcz2,hcz3,hcz4,hcz5,hcz6⟩:=cz7_ Bq4.out;obtain ⟨hfz0,hfz1,hfz2,hfz3,hfz4,hfz5,hfz6⟩:=fz7_ Bq4.out)|((with_reducible refine gate_store (t:=39) (p:=4) rfl ?_);refine store_event (t:=39) (p:=4) (v:=?vo6_) (w1:=(((((((wh.setCell ⟨q4,0,none⟩ (.int .i64 v)).setCell ⟨q4,1,none⟩ (.int .i64 y)).setCell ⟨q4,2,none⟩ (.int .i64 0)).setCell ⟨q4,3,none⟩ (.int .i64 0)).setCell ⟨q4,4,none⟩ (.int .i64 0)).setCell ⟨q4,5,none⟩ (.int .i64 0)).setCell ⟨q4,6,none⟩ (.int .i64 0))) ?hg ?ho ?hn ?hr ?_;(case ho=>rfl);(case hg=>rfl);(case hn=>rfl);(case hr=>first|(go_simp;done)|(go_simp;rfl));intro wi hw;clear hcz0 hfz0 hcz1 hfz1 hcz2 hfz2 hcz3 hfz3 hcz4 hfz4 hcz5 hfz5 hcz6 hfz6;have n0_:=put7_ Bq4.out (.int .i64 v) (.int .i64 y) (.int .i64 0) (.int .i64 0) (.int .i64 0) (.int .i64 0) (.int .i64 0);rw [<- hw] at n0_;have n1_:=HD.out.far7 Bq4.out (by decide) Gq4.out (.int .i64 v) (.int .i64 y) (.int .i64 0) (.int .i64 0) (.int .i64 0) (.int .i64 0) (.int .i64 0);rw [<- hw] at n1_;have m_:=farN7_ Bq3.out Nq3_q4.out (.int .i64 v) (.int .i64 y) (.int .i64 0) (.int .i64 0) (.int .i64 0) (.int .i64 0) (.int .i64 0);rw [<- hw] at m_;replace Bq3:=ak m_;clear m_;clear hw Bq4 HD;have Bq4:=ak n0_;have HD:=ak n1_;clear n0_ n1_))
    refine bodyPost_ret (results_cell_row rfl _ _ q4 39 #[.int .i64 v,.int .i64 y,.int .i64 0,.int .i64 0,.int .i64 0,.int .i64 0,.int .i64 0] (0,0) _ rfl Bq4.out Try.underlying39 rfl (by kernel_rfl)) rfl ?_
    exact ⟨_,_,_,_,_,_,_,rr_,HD.out.mono (by omega)⟩
   | false=>
    go_wp2_with fail
    go_meet
    case rel=>exact ⟨⟨HD.out.mono (by omega)⟩,Bq3,Bq4,HL⟩
  have n3:(u == 3) = false:=beq_eq_false_iff_ne.mpr k3
  clear k3
  go_wp2_with fail
  go_meet
  case rel=>exact ⟨⟨HD.out.mono (by omega)⟩,Bq3,Bq4,HL⟩
 case rest=>
  clear HD Bq3 Bq4 HL
  obtain ⟨HD,Bq3,Bq4,HL⟩:=hcut
  have hx0:=blk_cell Bq3.out 0
  replace hx0:wc.cell? ⟨q3,0,none⟩ = some (.slice A0 L.length c0):=hx0
  go_upto_block 1 with (first|((with_reducible refine gate_callee (f:=81) rfl ?_);refine ga_ (some 54) Try.func81 #[.pointer (some ⟨g,0,none⟩),.int .i64 ((L.length:Int) + 1)] ?_;refine (pickE hx HD.out.cur HD.out.hB (by omega) ((L.length:Int) + 1) (by omega)).mono ?_;rintro e wd ⟨i,rfl,h0_,h1_,hc,hb2,hk⟩;refine ⟨_,rfl,?_⟩;have Hi:=ak (And.intro h0_ h1_);clear h0_ h1_;replace Bq3:=ak (HD.out.cur.blk hk Bq3.out (by decide));replace Bq4:=ak (HD.out.cur.blk hk Bq4.out (by decide));replace HL:=ak (HD.out.cur.row hk HL.out (by decide));replace HD:=ak (HD.out.call hc hb2 hk);clear hc hb2 hk)|((with_reducible refine gate_dst (N:=6) rfl ?_);refine box_event ?hg (N:=6) ?hd (cs:=#[.int .i64 0,.int .i64 0,.int .i64 0,.int .i64 0,.int .i64 0,.int .i64 0,.int .i64 0]) (t:=39) ?hr ?_;(case hd=>rfl);(case hg=>rfl);(case hr=>first|(go_simp;done)|(go_simp;rfl));intro q6 hg we hbox hb;have Gq6:=ak (show w.heap.size <= q6 from by rw [hg];exact HD.out.size);have Nq3_q6:=ak (nl_ hg Bq3.out);have Nq4_q6:=ak (nl_ hg Bq4.out);have Bq6:=ak hbox;replace Bq3:=ak (bb_ Bq3.out hb);replace Bq4:=ak (bb_ Bq4.out hb);replace HL:=ak (Kd.R_below HL.out hb);replace HD:=ak (HD.out.below hb);clear hb hbox hg;obtain ⟨hcz0,hcz1,hcz2,hcz3,hcz4,hcz5,hcz6⟩:=cz7_ Bq6.out;obtain ⟨hfz0,hfz1,hfz2,hfz3,hfz4,hfz5,hfz6⟩:=fz7_ Bq6.out)|((with_reducible refine gate_store (t:=39) (p:=6) rfl ?_);refine store_event (t:=39) (p:=6) (v:=?vo7_) (w1:=(((((((we.setCell ⟨q6,0,none⟩ (.int .i64 1)).setCell ⟨q6,1,none⟩ (.int .i64 i)).setCell ⟨q6,2,none⟩ (.int .i64 0)).setCell ⟨q6,3,none⟩ (.int .i64 0)).setCell ⟨q6,4,none⟩ (.int .i64 0)).setCell ⟨q6,5,none⟩ (.int .i64 0)).setCell ⟨q6,6,none⟩ (.int .i64 0))) ?hg ?ho ?hn ?hr ?_;(case ho=>rfl);(case hg=>rfl);(case hn=>rfl);(case hr=>first|(go_simp;done)|(go_simp;rfl));intro wf hw;clear hcz0 hfz0 hcz1 hfz1 hcz2 hfz2 hcz3 hfz3 hcz4 hfz4 hcz5 hfz5 hcz6 hfz6;have n0_:=put7_ Bq6.out (.int .i64 1) (.int .i64 i) (.int .i64 0) (.int .i64 0) (.int .i64 0) (.int .i64 0) (.int .i64 0);rw [<- hw] at n0_;have n1_:=HD.out.far7 Bq6.out (by decide) Gq6.out (.int .i64 1) (.int .i64 i) (.int .i64 0) (.int .i64 0) (.int .i64 0) (.int .i64 0) (.int .i64 0);rw [<- hw] at n1_;have m_:=farN7_ Bq3.out Nq3_q6.out (.int .i64 1) (.int .i64 i) (.int .i64 0) (.int .i64 0) (.int .i64 0) (.int .i64 0) (.int .i64 0);rw [<- hw] at m_;replace Bq3:=ak m_;clear m_;have m_:=farN7_ Bq4.out Nq4_q6.out (.int .i64 1) (.int .i64 i) (.int .i64 0) (.int .i64 0) (.int .i64 0) (.int .i64 0) (.int .i64 0);rw [<- hw] at m_;replace Bq4:=ak m_;clear m_;have m_:=rowN7_ HL.out Gq6.out (.int .i64 1) (.int .i64 i) (.int .i64 0) (.int .i64 0) (.int .i64 0) (.int .i64 0) (.int .i64 0);rw [<- hw] at m_;replace HL:=ak m_;clear m_;clear hw Bq6 HD;have Bq6:=ak n0_;have HD:=ak n1_;clear n0_ n1_))
  clear hx0
  (try simp only [Act.put,List.setIfInBounds_toArray,List.set_cons_zero,List.set_cons_succ])
  go_cut [] (fun wc_=>∃ j:Int,Aside0 (DrE w0 w wc_ g x (b + 24)) /\ Aside0 (wc_.heap[q6]? = some (.cells #[.int .i64 1,.int .i64 j,.int .i64 0,.int .i64 0,.int .i64 0,.int .i64 0,.int .i64 0] 39 (0,0))) /\ Aside0 (wc_.heap[q4]? = some (.cells #[.int .i64 0,.int .i64 0,.int .i64 0,.int .i64 0,.int .i64 0,.int .i64 0,.int .i64 0] 39 (0,0))))
  case first=>
   go_wp2_with fail
   go_loopg [7,8] L.length (fun n v7 v8 wc_=>∃ k:Int,v7 = .int .i64 k /\ Aside0 (0 <= k /\ k + n = L.length) /\ Aside0 (DrE w0 w wc_ g x (b + 12)) /\ Aside0 (wc_.heap[q3]? = some (.cells #[.slice A0 L.length c0,.slice A1 n1 c1,.slice A2 n2 c2,.int .i64 p,.int .i64 t] 30 (0,0))) /\ Aside0 (wc_.heap[q4]? = some (.cells #[.int .i64 0,.int .i64 0,.int .i64 0,.int .i64 0,.int .i64 0,.int .i64 0,.int .i64 0] 39 (0,0))) /\ Aside0 (Kd.R k37 37 wc_ lo (fun k=>k < w.heap.size) (.slice A0 L.length c0) L) /\ Aside0 (wc_.heap[q6]? = some (.cells #[.int .i64 1,.int .i64 i,.int .i64 0,.int .i64 0,.int .i64 0,.int .i64 0,.int .i64 0] 39 (0,0))))
   case atStart=>exact ⟨0,rfl,⟨by omega⟩,⟨HD.out.mono (by omega)⟩,Bq3,Bq4,HL,Bq6⟩
   case round=>
    clear HD Bq3 Bq4 HL Bq6
    obtain ⟨k,rfl,Hk,HD,Bq3,Bq4,HL,Bq6⟩:=hrel
    have hx0:=blk_cell Bq3.out 0
    replace hx0:wr.cell? ⟨q3,0,none⟩ = some (.slice A0 L.length c0):=hx0
    have hx3:=blk_cell Bq3.out 3
    replace hx3:wr.cell? ⟨q3,3,none⟩ = some (.int .i64 p):=hx3
    have hx6:=blk_cell Bq6.out 1
    replace hx6:wr.cell? ⟨q6,1,none⟩ = some (.int .i64 i):=hx6
    have i0:=Hi.out
    have k0:=Hk.out
    by_cases hk:k < (L.length:Int)
    .
     have qk:decide (k < (L.length:Int)) = true:=decide_eq_true hk
     go_upto_region 20 with fail
     have j0:0 <= (i + k) % (L.length:Int):=Int.emod_nonneg _ (by omega)
     have j1:(i + k) % (L.length:Int) < (L.length:Int):=Int.emod_lt_of_pos _ (by omega)
     generalize (i + k) % (L.length:Int) = j at j0 j1 ⊢
     obtain ⟨ad,e0,y0,y1,-,-,-⟩:=at_T37 (Kd.R_reads' HL.out).2.2 j j0 j1
     rw [e0] at hx0
     have q0:(0 <= j) = True:=eq_true j0
     have q1:(j < (L.length:Int)) = True:=eq_true j1
     have q0':decide (0 <= j) = true:=decide_eq_true j0
     have q1':decide (j < (L.length:Int)) = true:=decide_eq_true j1
     by_cases h0:(rd_T37 L j).f0 = p
     .
      have n0:((rd_T37 L j).f0 == p) = true:=beq_iff_eq.mpr h0
      clear h0
      go_quiet (fail)
      have hb:=below_at (Eq.refl (wr.drewN nq)) (Below.refl wr.heap.size wr)
      replace Bq3:=ak (bb_ Bq3.out hb)
      replace Bq4:=ak (bb_ Bq4.out hb)
      replace Bq6:=ak (bb_ Bq6.out hb)
      replace HD:=ak (HD.out.below hb)
      replace HL:=ak (Kd.R_below HL.out hb)
      clear hb hx0 hx3 hx6
      generalize wr.drewN nq = wq at HD Bq3 Bq4 Bq6 HL ⊢
      obtain ⟨hcz0,hcz1,hcz2,hcz3,hcz4,hcz5,hcz6⟩:=cz7_ Bq6.out;obtain ⟨hfz0,hfz1,hfz2,hfz3,hfz4,hfz5,hfz6⟩:=fz7_ Bq6.out
      go_wp2_with fail
      go_meet
      case rel=>exact ⟨j,⟨(HD.out.far Bq6.out (by decide) Gq6.out 1 _).mono (by omega)⟩,⟨blk_put Bq6.out 1 _ rfl⟩,⟨blk_far (p:=⟨q6,1,none⟩) Bq4.out Nq4_q6.out _⟩⟩
     have n0:((rd_T37 L j).f0 == p) = false:=beq_eq_false_iff_ne.mpr h0
     clear h0
     by_cases h1:(rd_T37 L j).f1 = p
     .
      have n1:((rd_T37 L j).f1 == p) = true:=beq_iff_eq.mpr h1
      clear h1
      go_quiet (fail)
      have hb:=below_at (Eq.refl (wr.drewN nq)) (Below.refl wr.heap.size wr)
      replace Bq3:=ak (bb_ Bq3.out hb)
      replace Bq4:=ak (bb_ Bq4.out hb)
      replace Bq6:=ak (bb_ Bq6.out hb)
      replace HD:=ak (HD.out.below hb)
      replace HL:=ak (Kd.R_below HL.out hb)
      clear hb hx0 hx3 hx6
      generalize wr.drewN nq = wq at HD Bq3 Bq4 Bq6 HL ⊢
      obtain ⟨hcz0,hcz1,hcz2,hcz3,hcz4,hcz5,hcz6⟩:=cz7_ Bq6.out;obtain ⟨hfz0,hfz1,hfz2,hfz3,hfz4,hfz5,hfz6⟩:=fz7_ Bq6.out
      go_wp2_with fail
      go_meet
      case rel=>exact ⟨j,⟨(HD.out.far Bq6.out (by decide) Gq6.out 1 _).mono (by omega)⟩,⟨blk_put Bq6.out 1 _ rfl⟩,⟨blk_far (p:=⟨q6,1,none⟩) Bq4.out Nq4_q6.out _⟩⟩
     have n1:((rd_T37 L j).f1 == p) = false:=beq_eq_false_iff_ne.mpr h1
     clear h1
     go_quiet (fail)
     have hb:=below_at (Eq.refl (wr.drewN nq)) (Below.refl wr.heap.size wr)
     replace Bq3:=ak (bb_ Bq3.out hb)
     replace Bq4:=ak (bb_ Bq4.out hb)
     replace Bq6:=ak (bb_ Bq6.out hb)
     replace HD:=ak (HD.out.below hb)
     replace HL:=ak (Kd.R_below HL.out hb)
     clear hb hx0 hx3 hx6
     generalize wr.drewN nq = wq at HD Bq3 Bq4 Bq6 HL ⊢
     go_wp2_with fail
     cases gk with
     | zero=>omega
     | succ gk=>
      go_roundg gk
      case measure=>omega
      case rel=>exact ⟨_,rfl,⟨by omega⟩,HD,Bq3,Bq4,HL,Bq6⟩
    .
     have qk:decide (k < (L.length:Int)) = false:=decide_eq_false hk
     clear hk
     go_wp2_with fail
     go_meet
     case rel=>exact ⟨i,⟨HD.out.mono (by omega)⟩,Bq6,Bq4⟩
  case rest=>
   clear HD Bq3 Bq4 HL Bq6
   obtain ⟨j,HD,Bq6,Bq4⟩:=hcut
   obtain ⟨hcz0,hcz1,hcz2,hcz3,hcz4,hcz5,hcz6⟩:=cz7_ Bq4.out;obtain ⟨hfz0,hfz1,hfz2,hfz3,hfz4,hfz5,hfz6⟩:=fz7_ Bq4.out
   obtain ⟨hczy0,hczy1,hczy2,hczy3,hczy4,hczy5,hczy6⟩:=cz7_ Bq6.out;obtain ⟨hfzy0,hfzy1,hfzy2,hfzy3,hfzy4,hfzy5,hfzy6⟩:=fz7_ Bq6.out
   go_wp2_with fail
   refine bodyPost_ret (results_cell_row rfl _ _ q4 39 #[.int .i64 1,.int .i64 j,.int .i64 0,.int .i64 0,.int .i64 0,.int .i64 0,.int .i64 0] (0,0) _ rfl (put7_ Bq4.out (.int .i64 1) (.int .i64 j) (.int .i64 0) (.int .i64 0) (.int .i64 0) (.int .i64 0) (.int .i64 0)) Try.underlying39 rfl (by kernel_rfl)) rfl ?_
   exact ⟨_,_,_,_,_,_,_,rr_,HD.out.far7 Bq4.out (by decide) Gq4.out (.int .i64 1) (.int .i64 j) (.int .i64 0) (.int .i64 0) (.int .i64 0) (.int .i64 0) (.int .i64 0)⟩
theorem turn_in (a:Int):∃ d,Int.tmod (wrap64 (Int.tmod a 360 + 360)) 360 = d /\ 0 <= d /\ d < 360:=by
 have h1:=Int.tmod_lt_of_pos a (show (0:Int) < 360 from by decide)
 have h2:-360 < Int.tmod a 360:=by
  have h3:=Int.tmod_lt_of_pos (-a) (show (0:Int) < 360 from by decide)
  rw [Int.neg_tmod] at h3
  omega
 refine ⟨_,rfl,?_,?_⟩
 .
  rw [w64 (by omega) (by omega)]
  exact Int.tmod_nonneg _ (by omega)
 .
  exact Int.tmod_lt_of_pos _ (by decide)
theorem sine_tot (a:Int):∃ r,spec_l2Sine.f a = some r:=by
 obtain ⟨d,e,h0,h1⟩:=turn_in a
 unfold spec_l2Sine.f
 rw [e]
 obtain ⟨l,hl⟩:∃ l,spec_l2Table.f = some l:=⟨_,rfl⟩
 have hn:l.length = 91:=by
  have h:=hl
  unfold spec_l2Table.f at h
  injection h with h
  rw [<- h]
  rfl
 rw [hl]
 simp only [Option.bind_some,hn]
 by_cases c0:d <= 90
 .
  rw [if_pos c0,if_pos h0,if_pos (by omega)]
  exact ⟨_,rfl⟩
 rw [if_neg c0]
 by_cases c1:d <= 180
 .
  rw [if_pos c1,w64 (x:=180 - d) (by omega) (by omega),if_pos (by omega),if_pos (by omega)]
  exact ⟨_,rfl⟩
 rw [if_neg c1]
 by_cases c2:d <= 270
 .
  rw [if_pos c2,w64 (x:=d - 180) (by omega) (by omega),if_pos (by omega),if_pos (by omega)]
  exact ⟨_,rfl⟩
 rw [if_neg c2,w64 (x:=360 - d) (by omega) (by omega),if_pos (by omega),if_pos (by omega)]
 exact ⟨_,rfl⟩
theorem cosine_tot (a:Int):∃ r,spec_l2Cosine.f a = some r:=by
 obtain ⟨r,h⟩:=sine_tot (wrap64 (a + 90))
 exact ⟨r,by unfold spec_l2Cosine.f;rw [h];rfl⟩
theorem div_tot (a:Int):∃ r,spec_l2Div.f a 1000 = some r:=by
 unfold spec_l2Div.f
 have h:wrap64 (2 * 1000) ≠ 0:=by unfold wrap64;omega
 by_cases c:a < 0
 .
  rw [if_pos c,if_neg h];exact ⟨_,rfl⟩
 .
  rw [if_neg c,if_neg h];exact ⟨_,rfl⟩
theorem shift_tot (a b c d s:Int):∃ x y z,spec_l4Shift.f a b c d s = some (x,y,z):=by
 unfold spec_l4Shift.f
 obtain ⟨r1,h1⟩:=cosine_tot s
 obtain ⟨r2,h2⟩:=div_tot (wrap64 (c * r1))
 obtain ⟨r3,h3⟩:=sine_tot d
 obtain ⟨r4,h4⟩:=div_tot (wrap64 (r2 * r3))
 obtain ⟨r5,h5⟩:=cosine_tot d
 obtain ⟨r6,h6⟩:=div_tot (wrap64 (r2 * r5))
 obtain ⟨r7,h7⟩:=sine_tot s
 obtain ⟨r8,h8⟩:=div_tot (wrap64 (c * r7))
 refine ⟨r4,r6,r8,?_⟩
 simp only [h1,h2,h3,h4,h5,h6,h7,h8,Option.bind_some]
theorem in_tot (a b c:Int):∃ r,spec_l1In.f a b c = some r:=by
 unfold spec_l1In.f
 repeat' first|exact ⟨_,rfl⟩|split
theorem long_tot (a:Int):∃ r,spec_l2Long.f a = some r:=by
 obtain ⟨r,h⟩:=in_tot a (-100000) 100000
 exact ⟨r,by unfold spec_l2Long.f;rw [h];rfl⟩
theorem length_l0 (x:Int):∀ (n k:Nat) (p q:Int),0 <= p -> q <= 200000 -> q - p <= n -> n < k -> ∃ r b,spec_LengthOf.l0 k x p q = some (r,b):=by
 intro n
 induction n with
 | zero=>
  intro k p q h0 h1 h2 h3
  obtain ⟨k,rfl⟩:∃ j,k = j + 1:=⟨k - 1,by omega⟩
  unfold spec_LengthOf.l0
  rw [if_neg (by omega)]
  exact ⟨_,_,rfl⟩
 | succ n ih=>
  intro k p q h0 h1 h2 h3
  obtain ⟨k,rfl⟩:∃ j,k = j + 1:=⟨k - 1,by omega⟩
  unfold spec_LengthOf.l0
  by_cases c:p < q
  .
   rw [if_pos c]
   have e:wrap64 (Int.tdiv (wrap64 ((wrap64 (p + q)) + 1)) 2) = (p + q + 1) / 2:=by
    rw [w64 (x:=p + q) (by omega) (by omega),w64 (x:=p + q + 1) (by omega) (by omega),Int.tdiv_eq_ediv_of_nonneg (by omega),w64 (by omega) (by omega)]
   rw [e]
   split
   .
    exact ih k _ _ (by omega) h1 (by omega) (by omega)
   .
    rw [w64 (x:=(p + q + 1) / 2 - 1) (by omega) (by omega)]
    exact ih k _ _ h0 (by omega) (by omega) (by omega)
  .
   rw [if_neg c]
   exact ⟨_,_,rfl⟩
theorem length_tot (a b c:Int) {k:Nat} (hk:200010 <= k):∃ r o,spec_LengthOf.f k a b c = some (r,o):=by
 obtain ⟨k,rfl⟩:∃ j,k = j + 1:=⟨k - 1,by omega⟩
 obtain ⟨r1,h1⟩:=long_tot a
 obtain ⟨r2,h2⟩:=long_tot b
 obtain ⟨r3,h3⟩:=long_tot c
 have hj:∀ o,∃ r q,spec_LengthOf.j0 (k + 1) a b c o = some (r,q):=fun o=>by
  rw [spec_LengthOf.j0]
  split
  .
   exact ⟨_,_,rfl⟩
  .
   exact length_l0 _ 200000 k _ _ (by omega) (by omega) (by omega) (by omega)
 unfold spec_LengthOf.f
 simp only [h1,h2,h3,Option.bind_some]
 repeat' first|exact hj _|split
theorem bearing_l0 (x y:Int):∀ (n k:Nat) (p q:Int),q + n = 360 -> n < k -> -100000 <= q -> ∃ r b,spec_BearingTo.l0 k x y p q = some (r,b):=by
 intro n
 induction n with
 | zero=>
  intro k p q h0 h1 h2
  obtain ⟨k,rfl⟩:∃ j,k = j + 1:=⟨k - 1,by omega⟩
  unfold spec_BearingTo.l0
  rw [if_neg (by omega)]
  exact ⟨_,_,rfl⟩
 | succ n ih=>
  intro k p q h0 h1 h2
  obtain ⟨k,rfl⟩:∃ j,k = j + 1:=⟨k - 1,by omega⟩
  unfold spec_BearingTo.l0
  rw [if_pos (by omega)]
  obtain ⟨r1,h1⟩:=sine_tot q
  obtain ⟨r2,h2⟩:=cosine_tot q
  obtain ⟨r3,h3⟩:=sine_tot p
  obtain ⟨r4,h4⟩:=cosine_tot p
  simp only [h1,h2,h3,h4,Option.bind_some]
  rw [w64 (x:=q + 1) (by omega) (by omega)]
  split
  .
   exact ih k _ _ (by omega) (by omega) (by omega)
  .
   exact ih k _ _ (by omega) (by omega) (by omega)
theorem bearing_tot (a b:Int) {k:Nat} (hk:400 <= k):∃ r o,spec_BearingTo.f k a b = some (r,o):=by
 obtain ⟨k,rfl⟩:∃ j,k = j + 1:=⟨k - 1,by omega⟩
 obtain ⟨r1,h1⟩:=long_tot a
 obtain ⟨r2,h2⟩:=long_tot b
 have hj:∀ o,∃ r q,spec_BearingTo.j0 (k + 1) a b o = some (r,q):=fun o=>by
  rw [spec_BearingTo.j0]
  split
  .
   exact ⟨_,_,rfl⟩
  .
   exact bearing_l0 _ _ 359 k _ _ (by omega) (by omega) (by omega)
 unfold spec_BearingTo.f
 simp only [h1,h2,Option.bind_some]
 repeat' first|exact hj _|split
theorem slope_l1 (x y q:Int) (G:Nat) (hq:0 <= q /\ q <= 90) (hG:∀ k p,G <= k -> ∃ r b,spec_SlopeTo.l0 k x y p (q + 1) = some (r,b)) (k:Nat) (hk:G + 3 <= k) (p:Int):∃ r b,spec_SlopeTo.l1 k x y p q 1 = some (r,b):=by
 obtain ⟨k,rfl⟩:∃ j,k = j + 3:=⟨k - 3,by omega⟩
 have step:∀ (k:Nat) (z:Int) (p:Int),z >= -1 -> z <= 1 -> (∀ p',∃ r b,spec_SlopeTo.l1 k x y p' q (wrap64 (z - 2)) = some (r,b)) -> ∃ r b,spec_SlopeTo.l1 (k + 1) x y p q z = some (r,b):=by
  intro k z p hz hz1 ih
  rw [spec_SlopeTo.l1,if_pos hz]
  obtain ⟨r1,h1⟩:=cosine_tot q
  obtain ⟨r2,h2⟩:=sine_tot (wrap64 (z * q))
  obtain ⟨r3,h3⟩:=cosine_tot p
  obtain ⟨r4,h4⟩:=sine_tot p
  simp only [h1,h2,h3,h4,Option.bind_some]
  split
  .
   exact ih _
  .
   exact ih _
 refine step _ _ _ (by omega) (by omega) (fun p1=>?_)
 refine step _ _ _ (by unfold wrap64;omega) (by unfold wrap64;omega) (fun p2=>?_)
 rw [spec_SlopeTo.l1,if_neg (by unfold wrap64;omega),w64 (x:=q + 1) (by omega) (by omega)]
 exact hG _ _ (by omega)
theorem slope_l0 (x y:Int):∀ (n k:Nat) (p q:Int),q + n = 91 -> 4 * n + 1 <= k -> 0 <= q -> ∃ r b,spec_SlopeTo.l0 k x y p q = some (r,b):=by
 intro n
 induction n with
 | zero=>
  intro k p q h0 h1 h2
  obtain ⟨k,rfl⟩:∃ j,k = j + 1:=⟨k - 1,by omega⟩
  rw [spec_SlopeTo.l0,if_neg (by omega)]
  exact ⟨_,_,rfl⟩
 | succ n ih=>
  intro k p q h0 h1 h2
  obtain ⟨k,rfl⟩:∃ j,k = j + 1:=⟨k - 1,by omega⟩
  rw [spec_SlopeTo.l0,if_pos (by omega)]
  exact slope_l1 x y q (4 * n + 1) (by omega) (fun k p hk=>ih k p _ (by omega) hk (by omega)) k (by omega) p
theorem slope_tot (a b:Int) {k:Nat} (hk:400 <= k):∃ r o,spec_SlopeTo.f k a b = some (r,o):=by
 obtain ⟨k,rfl⟩:∃ j,k = j + 1:=⟨k - 1,by omega⟩
 obtain ⟨r1,h1⟩:=in_tot a 0 100000
 obtain ⟨r2,h2⟩:=long_tot b
 have hj:∀ o,∃ r q,spec_SlopeTo.j0 (k + 1) a b o = some (r,q):=fun o=>by
  rw [spec_SlopeTo.j0]
  split
  .
   exact ⟨_,_,rfl⟩
  .
   exact slope_l0 _ _ 90 k _ _ (by omega) (by omega) (by omega)
 unfold spec_SlopeTo.f
 simp only [h1,h2,Option.bind_some]
 repeat' first|exact hj _|split
theorem shiftE (a b c d s:Int) (w:World):Calls Try.prog 111 #[.agg #[.int .i64 a,.int .i64 b,.int .i64 c,.int .i64 d,.int .i64 s]] w fun e w'=>∃ x y z:Int,e = .returned (.agg #[.int .i64 x,.int .i64 y,.int .i64 z]) /\ Below w.heap.size w w':=by
 obtain ⟨x,y,z,h⟩:=shift_tot a b c d s
 exact (spec_l4Shift.calls _ _ _ _ _ _ _ _ w h).mono (fun e w' h=>⟨x,y,z,h⟩)
theorem plusE (a b c d e f t:Int) (w:World):Calls Try.prog 110 #[.agg #[.int .i64 a,.int .i64 b,.int .i64 c],.agg #[.int .i64 d,.int .i64 e,.int .i64 f],.int .i64 t] w fun e w'=>∃ x y z:Int,e = .returned (.agg #[.int .i64 x,.int .i64 y,.int .i64 z]) /\ Below w.heap.size w w':=
 (spec_l4Plus.calls a b c d e f t _ _ _ w rfl).mono (fun e w' h=>⟨_,_,_,h⟩)
theorem reverseE (a b c d s:Int) (w:World):Calls Try.prog 112 #[.agg #[.int .i64 a,.int .i64 b,.int .i64 c,.int .i64 d,.int .i64 s]] w fun e w'=>∃ b0 b1 b2 b3 b4:Int,e = .returned (.agg #[.int .i64 b0,.int .i64 b1,.int .i64 b2,.int .i64 b3,.int .i64 b4]) /\ Below w.heap.size w w':=
 (spec_l4Reverse.calls a b c d s _ _ _ _ _ w rfl).mono (fun e w' h=>⟨_,_,_,_,_,h⟩)
theorem lengthE (a b c:Int) (w:World):Calls Try.prog 113 #[.int .i64 a,.int .i64 b,.int .i64 c] w fun e w'=>∃ (x:Int) (o:Bool),e = .returned (.tuple #[.int .i64 x,.bool o]) /\ Below w.heap.size w w':=by
 obtain ⟨x,o,h⟩:=length_tot a b c (Nat.le_refl _)
 refine (spec_LengthOf.calls _ _ _ _ _ _ w h).mono ?_
 rintro e w' ⟨rfl,nd,rfl⟩
 exact ⟨x,o,rfl,pw_below_drewN (Below.refl _ _) nd⟩
theorem bearingE (a b:Int) (w:World):Calls Try.prog 114 #[.int .i64 a,.int .i64 b] w fun e w'=>∃ (x:Int) (o:Bool),e = .returned (.tuple #[.int .i64 x,.bool o]) /\ Below w.heap.size w w':=by
 obtain ⟨x,o,h⟩:=bearing_tot a b (Nat.le_refl _)
 exact (spec_BearingTo.calls _ _ _ _ _ w h).mono (fun e w' h=>⟨x,o,h⟩)
theorem slopeE (a b:Int) (w:World):Calls Try.prog 115 #[.int .i64 a,.int .i64 b] w fun e w'=>∃ (x:Int) (o:Bool),e = .returned (.tuple #[.int .i64 x,.bool o]) /\ Below w.heap.size w w':=by
 obtain ⟨x,o,h⟩:=slope_tot a b (Nat.le_refl _)
 exact (spec_SlopeTo.calls _ _ _ _ _ w h).mono (fun e w' h=>⟨x,o,h⟩)
theorem inE (a b c:Int) (w:World):Calls Try.prog 101 #[.int .i64 a,.int .i64 b,.int .i64 c] w fun e w'=>∃ o:Bool,e = .returned (.bool o) /\ Below w.heap.size w w':=by
 obtain ⟨o,h⟩:=in_tot a b c
 refine (spec_l1In.calls _ _ _ _ w h).mono ?_
 rintro e w' ⟨rfl,nd,rfl⟩
 exact ⟨o,rfl,pw_below_drewN (Below.refl _ _) nd⟩
theorem bcw_ {W W':World} {p:Addr} {v:Value} (hb:Below W.heap.size W W') (h:W.cell? p = some v):W'.cell? p = some v:=(hb.cell (World.block_lt_of_cell? _ _ h)).trans h
structure CvE (w0 w W:World) (g:Nat) (x:List Int) (b:Int) (P:Nat -> Prop) (v3:Value) (L:List S37) (v5:Value) (Q:List S118):Prop where
 d:DrE w0 w W g x b
 r3:Kd.R k37 37 W w.heap.size P v3 L
 r5:Kd.R k118 118 W w.heap.size P v5 Q
section
variable {w0 w W W':World} {g:Nat} {x:List Int} {b c:Int} {P:Nat -> Prop} {v3 v5:Value} {L:List S37} {Q:List S118}
theorem CvE.cur (h:CvE w0 w W g x b P v3 L v5 Q):CurE w0 W g x b:=h.d.cur
theorem CvE.hB (h:CvE w0 w W g x b P v3 L v5 Q):Below w0.heap.size w0 W:=h.d.hB
theorem CvE.size (h:CvE w0 w W g x b P v3 L v5 Q):w.heap.size <= W.heap.size:=h.d.size
theorem CvE.mono (h:CvE w0 w W g x b P v3 L v5 Q) (hbc:b <= c):CvE w0 w W g x c P v3 L v5 Q:=⟨h.d.mono hbc,h.r3,h.r5⟩
theorem CvE.call (h:CvE w0 w W g x b P v3 L v5 Q) (hc:CurE w0 W' g x c) (hb:Below w0.heap.size w0 W') (hk:KeepBut W W' g none):CvE w0 w W' g x c P v3 L v5 Q:=⟨h.d.call hc hb hk,h.d.cur.row hk h.r3 (by decide),h.d.cur.row hk h.r5 (by decide)⟩
theorem CvE.below (h:CvE w0 w W g x b P v3 L v5 Q) (hb:Below W.heap.size W W'):CvE w0 w W' g x b P v3 L v5 Q:=⟨h.d.below hb,Kd.R_below h.r3 hb,Kd.R_below h.r5 hb⟩
theorem CvE.apart (h:CvE w0 w W g x b P v3 L v5 Q) (q:Nat) (hq:W.heap.size <= q):CvE w0 w W g x b (fun k=>k ≠ q) v3 L v5 Q:=⟨h.d,Kd.R_mono (Kd.R_elderB h.r3 q hq) (fun _ hk=>hk.2),Kd.R_mono (Kd.R_elderB h.r5 q hq) (fun _ hk=>hk.2)⟩
theorem CvE.loose (h:CvE w0 w W g x b P v3 L v5 Q):CvE w0 w W g x b (fun _=>True) v3 L v5 Q:=⟨h.d,Kd.R_mono h.r3 (fun _ _=>trivial),Kd.R_mono h.r5 (fun _ _=>trivial)⟩
theorem CvE.far {q t:Nat} {cs:Array Value} (h:CvE w0 w W g x b (fun k=>k ≠ q) v3 L v5 Q) (hb:W.heap[q]? = some (.cells cs t (0,0))) (ht:96 ≠ t) (hq:w.heap.size <= q) (j:Nat) (v:Value):CvE w0 w (W.setCell ⟨q,j,none⟩ v) g x b (fun k=>k ≠ q) v3 L v5 Q:=
 ⟨h.d.far hb ht hq j v,Kd.R_far h.r3 (fun k hk=>hk) v,Kd.R_far h.r5 (fun k hk=>hk) v⟩
theorem CvE.far5 {q t:Nat} {b0 b1 b2 b3 b4:Value} (h:CvE w0 w W g x b (fun k=>k ≠ q) v3 L v5 Q) (hb:W.heap[q]? = some (.cells #[b0,b1,b2,b3,b4] t (0,0))) (ht:96 ≠ t) (hq:w.heap.size <= q) (a0 a1 a2 a3 a4:Value):CvE w0 w (((((W.setCell ⟨q,0,none⟩ a0).setCell ⟨q,1,none⟩ a1).setCell ⟨q,2,none⟩ a2).setCell ⟨q,3,none⟩ a3).setCell ⟨q,4,none⟩ a4) g x b (fun k=>k ≠ q) v3 L v5 Q:=
 have h0:=h.far hb ht hq 0 a0
 have h1:=h0.far (blk_put hb 0 a0 rfl) ht hq 1 a1
 have h2:=h1.far (blk_put (blk_put hb 0 a0 rfl) 1 a1 rfl) ht hq 2 a2
 have h3:=h2.far (blk_put (blk_put (blk_put hb 0 a0 rfl) 1 a1 rfl) 2 a2 rfl) ht hq 3 a3
 h3.far (blk_put (blk_put (blk_put (blk_put hb 0 a0 rfl) 1 a1 rfl) 2 a2 rfl) 3 a3 rfl) ht hq 4 a4
theorem CvE.far3 {q t:Nat} {b0 b1 b2:Value} (h:CvE w0 w W g x b (fun k=>k ≠ q) v3 L v5 Q) (hb:W.heap[q]? = some (.cells #[b0,b1,b2] t (0,0))) (ht:96 ≠ t) (hq:w.heap.size <= q) (a0 a1 a2:Value):CvE w0 w (((W.setCell ⟨q,0,none⟩ a0).setCell ⟨q,1,none⟩ a1).setCell ⟨q,2,none⟩ a2) g x b (fun k=>k ≠ q) v3 L v5 Q:=
 have h0:=h.far hb ht hq 0 a0
 have h1:=h0.far (blk_put hb 0 a0 rfl) ht hq 1 a1
 h1.far (blk_put (blk_put hb 0 a0 rfl) 1 a1 rfl) ht hq 2 a2
theorem CvE.grow (h:CvE w0 w W g x b P v3 L v5 Q) {v:Value} (hv:v.ownBlock = none \/ ∃ k,v.ownBlock = some k /\ w.heap.size <= k) (hne:some g ≠ v.ownBlock) (hb:Below w.heap.size W W') (hg:W.grownBy W' v.ownBlock):DrE w0 w W' g x b:=by
 obtain ⟨p,s,hI,h0,h1⟩:=h.d.cur
 exact ⟨⟨p,s,IsS96.grown hI hg hne,h0,h1⟩,below_weaken h.d.hB h.d.hw hb,KeepBut.trans h.d.hK (KeepBut.of_grown hg g) hv,h.d.hw⟩
theorem CvE.push3 (h:CvE w0 w W g x b P v3 L v5 Q) {v':Value} {L':List S37} (ho:Kd.R k37 37 W' w.heap.size P v' L') (hb:Below w.heap.size W W') (hg:W.grownBy W' v3.ownBlock):CvE w0 w W' g x b P v' L' v5 Q:=by
 obtain ⟨p,s,hI,h0,h1⟩:=h.d.cur
 exact ⟨h.grow (Kd.R_base2 h.r3) (IsS96.own_ne hI h.r3 (by decide)) hb hg,ho,Kd.R_over' h.r5 (Kd.R_typed h.r3) (by decide) hg⟩
theorem CvE.push5 (h:CvE w0 w W g x b P v3 L v5 Q) {v':Value} {Q':List S118} (ho:Kd.R k118 118 W' w.heap.size P v' Q') (hb:Below w.heap.size W W') (hg:W.grownBy W' v5.ownBlock):CvE w0 w W' g x b P v3 L v' Q':=by
 obtain ⟨p,s,hI,h0,h1⟩:=h.d.cur
 exact ⟨h.grow (Kd.R_base2 h.r5) (IsS96.own_ne hI h.r5 (by decide)) hb hg,Kd.R_over' h.r3 (Kd.R_typed h.r5) (by decide) hg,ho⟩
end
def cT8:Bool × List (List Nat × List Nat):=(true,[([],[]),([],[]),([],[]),([2],[2]),([1,3],[1,3]),([4],[4]),([],[]),([6],[6]),([5,7,7],[5,7]),([8],[8]),([0,9,8],[0,9]),([10,10,0,1,2,3,4,5,6,7,8,9,10],[0,1,10])])
def cB8:List Nat:=[0,0,0,4,14,30,0,64,254,510,1023,2047]
theorem ctab8:rtab .any (opsOf Try.f85 8) = cT8:=by kernel_rfl
theorem cbits8:waitsOk cT8.2 cB8 = true:=by kernel_rfl
def cT16:Bool × List (List Nat × List Nat):=(true,[([],[]),([],[]),([0,1],[0,1]),([2],[2]),([],[]),([],[]),([4,5],[4,5]),([6],[6]),([3,7],[3,7]),([],[]),([9,8,8,0,1,2,3,4,5,6,7,8,9],[8,9])])
def cB16:List Nat:=[0,0,3,7,0,0,48,112,255,0,1023]
theorem ctab16:rtab .any (opsOf Try.f85 16) = cT16:=by kernel_rfl
theorem cbits16:waitsOk cT16.2 cB16 = true:=by kernel_rfl
theorem DrE.grow {w0 w W W':World} {g:Nat} {x:List Int} {b:Int} (h:DrE w0 w W g x b) {v:Value} (hv:v.ownBlock = none \/ ∃ k,v.ownBlock = some k /\ w.heap.size <= k) (hne:some g ≠ v.ownBlock) (hb:Below w.heap.size W W') (hg:W.grownBy W' v.ownBlock):DrE w0 w W' g x b:=by
 obtain ⟨p,s,hI,h0,h1⟩:=h.cur
 exact ⟨⟨p,s,IsS96.grown hI hg hne,h0,h1⟩,below_weaken h.hB h.hw hb,KeepBut.trans h.hK (KeepBut.of_grown hg g) hv,h.hw⟩
theorem CurE.own_ne {w0 W:World} {g:Nat} {x:List Int} {b:Int} {B:Nat} {ok:Nat -> Prop} {v:Value} {l:List S37} (h:CurE w0 W g x b) (hr:Kd.R k37 37 W B ok v l):some g ≠ v.ownBlock:=by
 obtain ⟨p,s,hI,_⟩:=h
 exact IsS96.own_ne hI hr (by decide)
theorem row_set0 {w0 w W:World} {g:Nat} {x:List Int} {b:Int} {A:Option Addr} {c:Nat} {L:List S37} (HD:DrE w0 w W g x b) (h:Kd.R k37 37 W w.heap.size (fun _=>True) (.slice A L.length c) L) (hL:0 < L.length) :
  ∃ q,A = some ⟨q,0,none⟩ /\ W.cell? ⟨q,0,none⟩ = some (.int .i64 (rd_T37 L 0).f0) /\ W.cell? ⟨q,1,none⟩ = some (.int .i64 (rd_T37 L 0).f1) /\ W.cell? ⟨q,2,none⟩ = some (.int .i64 (rd_T37 L 0).f2) /\ W.cell? ⟨q,3,none⟩ = some (.int .i64 (rd_T37 L 0).f3) /\ W.cell? ⟨q,4,none⟩ = some (.int .i64 (rd_T37 L 0).f4) /\ W.frozen? ⟨q,0,none⟩ = false /\ W.frozen? ⟨q,1,none⟩ = false /\ W.frozen? ⟨q,2,none⟩ = false /\ W.frozen? ⟨q,3,none⟩ = false /\ W.frozen? ⟨q,4,none⟩ = false /\ ∀ a0 a1 a2 a3 a4:Int,(∃ L':List S37,L'.length = L.length /\ Kd.R k37 37 (((((W.setCell ⟨q,0,none⟩ (.int .i64 a0)).setCell ⟨q,1,none⟩ (.int .i64 a1)).setCell ⟨q,2,none⟩ (.int .i64 a2)).setCell ⟨q,3,none⟩ (.int .i64 a3)).setCell ⟨q,4,none⟩ (.int .i64 a4)) w.heap.size (fun _=>True) (.slice (some ⟨q,0,none⟩) L.length c) L') /\ DrE w0 w (((((W.setCell ⟨q,0,none⟩ (.int .i64 a0)).setCell ⟨q,1,none⟩ (.int .i64 a1)).setCell ⟨q,2,none⟩ (.int .i64 a2)).setCell ⟨q,3,none⟩ (.int .i64 a3)).setCell ⟨q,4,none⟩ (.int .i64 a4)) g x b:=by
 obtain ⟨q,cap,e,hb,hl,cl,hG⟩:=Kd.R_form h hL
 injection e with e1 e2 e3
 subst e1
 have hne:=HD.cur.ne hG (by decide)
 obtain ⟨ce,hcl,hM,hcc,hfr⟩:=Kd.R_elem h z37 0 (by omega) (by omega)
 obtain rfl:=k37_openM hM
 refine ⟨q,rfl,hcc 0 _ rfl,hcc 1 _ rfl,hcc 2 _ rfl,hcc 3 _ rfl,hcc 4 _ rfl,hfr 0,hfr 1,hfr 2,hfr 3,hfr 4,?_⟩
 intro a0 a1 a2 a3 a4
 have HP:=Kd.R_seg h 0 (by omega) (by omega) (seg:=[.int .i64 a0,.int .i64 a1,.int .i64 a2,.int .i64 a3,.int .i64 a4]) (j:=0) hcl hcc (show 5 <= 5 from by decide) (x':=(⟨a0,a1,a2,a3,a4⟩:S37)) (k37_mkM _ _ _ (⟨a0,a1,a2,a3,a4⟩:S37)) (fun _ hk=>hk)
 exact ⟨⟨_,List.length_set,HP.1⟩,⟨HD.cur.far hne _ |>.far hne _ |>.far hne _ |>.far hne _ |>.far hne _,below_set (below_set (below_set (below_set (below_set HD.hB (Nat.le_trans HD.hw hb)) (Nat.le_trans HD.hw hb)) (Nat.le_trans HD.hw hb)) (Nat.le_trans HD.hw hb)) (Nat.le_trans HD.hw hb),keep_far (p:=⟨q,_,none⟩) (keep_far (p:=⟨q,_,none⟩) (keep_far (p:=⟨q,_,none⟩) (keep_far (p:=⟨q,_,none⟩) (keep_far (p:=⟨q,_,none⟩) HD.hK hb _) hb _) hb _) hb _) hb _,HD.hw⟩⟩
set_option maxHeartbeats 64000000 in
set_option maxRecDepth 100000 in
theorem caveE {w0 w:World} {g:Nat} {x:List Int} {b:Int} (hx:BytesE x) (hC:CurE w0 w g x b) (hB:Below w0.heap.size w0 w) (hb:b <= 600000000) :
  Calls Try.prog 85 #[.pointer (some ⟨g,0,none⟩)] w fun e w'=>∃ (A:Option Addr) (cp:Nat) (l:List S37),e = .returned (.slice A l.length cp) /\ l.length <= 9 /\ DrE w0 w w' g x (b + 120) /\ Kd.R k37 37 w' w.heap.size (fun _=>True) (.slice A l.length cp) l:=by
 have hu28:=Try.underlying28
 have hu37:=Try.underlying37
 have hu118:=Try.underlying118
 have hu119:=Try.underlying119
 have HD:=ak (show DrE w0 w w g x b from ⟨hC,hB,KeepBut.refl _ _ _,below_size hB⟩)
 clear hC hB
 go_enter Try.func85,Try.ntmps85
 go_upto_block 0 with (first|((with_reducible refine gate_dst (N:=20) rfl ?_);refine Kd.R_lit k37 _ 37 ?hg (N:=20) ?hd (xs:=([]:List S37)) (inner:=[]) (ok:=fun _=>True) (okp:=fun _=>True) ?hr ?hp (fun _ hk=>hk) trivial (Below.refl _ _) (Nat.le_refl _) (by simp) ?_;(case hd=>rfl);(case hg=>rfl);(case hr=>first|(go_simp;done)|(go_simp;rfl));(case hp=>exact (Reps.none _ _));intro v_ wa ho hb hg_ hn_;clear hg_ hn_;have L0:=ak (Kd.R_lower ho HD.out.size);replace HD:=ak (HD.out.below hb);clear ho hb)|((with_reducible refine gate_callee (f:=81) rfl ?_);refine ga_ (some 22) Try.func81 #[.pointer (some ⟨g,0,none⟩),.int .i64 5] ?_;refine (pickE hx HD.out.cur HD.out.hB (by omega) 5 (by decide)).mono ?_;rintro e wb ⟨n,rfl,h0_,h1_,hc,hb2,hk⟩;refine ⟨_,rfl,?_⟩;have HP_:=HD;have hk_:=ak hk;have Hn:=ak (And.intro h0_ h1_);clear h0_ h1_;replace HD:=ak (HD.out.call hc hb2 hk);clear hc hb2 hk;replace L0:=ak (HP_.out.cur.row hk_.out L0.out (by decide));clear HP_ hk_)|((with_reducible refine gate_dst (N:=25) rfl ?_);refine Kd.R_lit k118 _ 118 ?hg (N:=25) ?hd (xs:=([(⟨0,0,0⟩:S118)]:List S118)) (inner:=[.int .i64 0,.int .i64 0,.int .i64 0]) (ok:=fun _=>True) (okp:=fun _=>True) ?hr ?hp (fun _ hk=>hk) trivial (Below.refl _ _) (Nat.le_refl _) (by simp) ?_;(case hd=>rfl);(case hg=>rfl);(case hr=>first|(go_simp;done)|(go_simp;rfl));(case hp=>exact (Reps.c3 (show Kd.M k118 _ _ _ (⟨0,0,0⟩:S118) [.int .i64 0,.int .i64 0,.int .i64 0] from (k118_mkM _ _ _ (⟨0,0,0⟩:S118))) (Reps.none _ _)));intro v_ wd ho hb hg_ hn_;clear hg_ hn_;replace L0:=ak (Kd.R_below L0.out hb);have Q0:=ak (Kd.R_lower ho HD.out.size);replace HD:=ak (HD.out.below hb);clear ho hb))
 have hn0:=Hn.out
 rw [w64 (x:=2 + n) (by omega) (by omega)]
 obtain ⟨m,hm⟩:∃ m:Int,m = 2 + n:=⟨_,rfl⟩
 rw [<- hm]
 have Hm:=ak (show 2 <= m /\ m <= 6 from by omega)
 clear hm hn0 Hn
 (try simp only [Act.put,List.setIfInBounds_toArray,List.set_cons_zero,List.set_cons_succ])
 go_cut [3,5] (fun v3 v5 wc_=>∃ (L:List S37) (Q:List S118),Aside0 (1 <= L.length /\ L.length <= 5 /\ (Q.length:Int) = m) /\ Aside0 (CvE w0 w wc_ g x (b + 70) (fun _=>True) v3 L v5 Q))
 case first=>
  go_wp2_with fail
  go_loopg [3,5,6] 8 (fun k v3 v5 v6 wc_=>∃ (L:List S37) (Q:List S118) (s:Int),v6 = .int .i64 s /\ Aside0 (1 <= s /\ s <= m /\ s + k = 9 /\ (L.length:Int) = s - 1 /\ (Q.length:Int) = s) /\ Aside0 (CvE w0 w wc_ g x (b + 10 * s) (fun _=>True) v3 L v5 Q))
  case atStart=>exact ⟨[],[⟨0,0,0⟩],1,rfl,⟨by have:=Hm.out;refine ⟨?_,?_,?_,?_,?_⟩ <;> first|omega|simp⟩,⟨⟨HD.out.mono (by omega),L0.out,Q0.out⟩⟩⟩
  case round=>
   clear HD L0 Q0
   obtain ⟨L,Q,s,rfl,HN,HD⟩:=hrel
   have s1:1 <= s:=HN.out.1
   have s2:s <= 6:=Int.le_trans HN.out.2.1 Hm.out.2
   by_cases hs:s < m
   .
    have qs:decide (s < m) = true:=decide_eq_true hs
    go_upto_region 8 with (first|((with_reducible refine gate_callee (f:=81) rfl ?_);refine ga_ (some 33) Try.func81 #[.pointer (some ⟨g,0,none⟩),.int .i64 s] ?_;refine (pickE hx HD.out.cur HD.out.hB (by omega) s (by omega)).mono ?_;rintro e wb ⟨t0,rfl,h0_,h1_,hc,hb2,hk⟩;refine ⟨_,rfl,?_⟩;have Ht0:=ak (And.intro h0_ h1_);clear h0_ h1_;replace HD:=ak (HD.out.call hc hb2 hk);clear hc hb2 hk)|((with_reducible refine gate_dst (N:=36) rfl ?_);refine Kd.R_lit (Kd.int .i64) _ 3 ?hg (N:=36) ?hd (xs:=[10,50,100,120,250]) (inner:=[.int .i64 10,.int .i64 50,.int .i64 100,.int .i64 120,.int .i64 250]) (ok:=fun _=>True) (okp:=fun _=>True) ?hr ?hp (fun _ hk=>hk) trivial (Below.refl _ _) (Nat.le_refl _) (show 5 <= 9223372036854775807 from by decide) ?_;(case hd=>rfl);(case hg=>rfl);(case hr=>first|(go_simp;done)|(go_simp;rfl));(case hp=>exact reps_ints _ _ _ [10,50,100,120,250]);intro v_ wd ho hb hg_ hn_;obtain ⟨lp,hl_⟩:∃ z:List Int,z = [10,50,100,120,250]:=⟨_,rfl⟩;rw [<- hl_] at ho;have Pp:=ak (show 0 < lp.length from by rw [hl_];exact Nat.zero_lt_succ _);obtain ⟨Ap,cp,ee_⟩:=Kd.R_slice ho;subst ee_;have Lp:=ak ho;replace HD:=ak (HD.out.below hb);clear ho hb hg_ hn_ hl_)|((with_reducible refine gate_callee (f:=86) rfl ?_);refine ga_ (some 37) Try.func86 #[.pointer (some ⟨g,0,none⟩),.slice Ap lp.length cp] ?_;refine (amongE hx HD.out.cur HD.out.hB (by omega) Pp.out Lp.out).mono ?_;rintro e we ⟨t2,rfl,hm_,hc,hb2,hk⟩;refine ⟨_,rfl,?_⟩;clear hm_ Lp Pp;replace HD:=ak (HD.out.call hc hb2 hk);clear hc hb2 hk)|((with_reducible refine gate_dst (N:=39) rfl ?_);refine Kd.R_lit (Kd.int .i64) _ 3 ?hg (N:=39) ?hd (xs:=[0,45,90,135,180,270,300]) (inner:=[.int .i64 0,.int .i64 45,.int .i64 90,.int .i64 135,.int .i64 180,.int .i64 270,.int .i64 300]) (ok:=fun _=>True) (okp:=fun _=>True) ?hr ?hp (fun _ hk=>hk) trivial (Below.refl _ _) (Nat.le_refl _) (show 7 <= 9223372036854775807 from by decide) ?_;(case hd=>rfl);(case hg=>rfl);(case hr=>first|(go_simp;done)|(go_simp;rfl));(case hp=>exact reps_ints _ _ _ [0,45,90,135,180,270,300]);intro v_ wf ho hb hg_ hn_;obtain ⟨lr,hl_⟩:∃ z:List Int,z = [0,45,90,135,180,270,300]:=⟨_,rfl⟩;rw [<- hl_] at ho;have Pr:=ak (show 0 < lr.length from by rw [hl_];exact Nat.zero_lt_succ _);obtain ⟨Ar,cr,ee_⟩:=Kd.R_slice ho;subst ee_;have Lr:=ak ho;replace HD:=ak (HD.out.below hb);clear ho hb hg_ hn_ hl_)|((with_reducible refine gate_callee (f:=86) rfl ?_);refine ga_ (some 40) Try.func86 #[.pointer (some ⟨g,0,none⟩),.slice Ar lr.length cr] ?_;refine (amongE hx HD.out.cur HD.out.hB (by omega) Pr.out Lr.out).mono ?_;rintro e wh ⟨t3,rfl,hm_,hc,hb2,hk⟩;refine ⟨_,rfl,?_⟩;clear hm_ Lr Pr;replace HD:=ak (HD.out.call hc hb2 hk);clear hc hb2 hk)|((with_reducible refine gate_dst (N:=42) rfl ?_);refine Kd.R_lit (Kd.int .i64) _ 3 ?hg (N:=42) ?hd (xs:=[0,0,(-10),(-30),20,(-90)]) (inner:=[.int .i64 0,.int .i64 0,.int .i64 (-10),.int .i64 (-30),.int .i64 20,.int .i64 (-90)]) (ok:=fun _=>True) (okp:=fun _=>True) ?hr ?hp (fun _ hk=>hk) trivial (Below.refl _ _) (Nat.le_refl _) (show 6 <= 9223372036854775807 from by decide) ?_;(case hd=>rfl);(case hg=>rfl);(case hr=>first|(go_simp;done)|(go_simp;rfl));(case hp=>exact reps_ints _ _ _ [0,0,(-10),(-30),20,(-90)]);intro v_ wi ho hb hg_ hn_;obtain ⟨lz,hl_⟩:∃ z:List Int,z = [0,0,(-10),(-30),20,(-90)]:=⟨_,rfl⟩;rw [<- hl_] at ho;have Pz:=ak (show 0 < lz.length from by rw [hl_];exact Nat.zero_lt_succ _);obtain ⟨Az,cz,ee_⟩:=Kd.R_slice ho;subst ee_;have Lz:=ak ho;replace HD:=ak (HD.out.below hb);clear ho hb hg_ hn_ hl_)|((with_reducible refine gate_callee (f:=86) rfl ?_);refine ga_ (some 43) Try.func86 #[.pointer (some ⟨g,0,none⟩),.slice Az lz.length cz] ?_;refine (amongE hx HD.out.cur HD.out.hB (by omega) Pz.out Lz.out).mono ?_;rintro e wj ⟨t4,rfl,hm_,hc,hb2,hk⟩;refine ⟨_,rfl,?_⟩;clear hm_ Lz Pz;replace HD:=ak (HD.out.call hc hb2 hk);clear hc hb2 hk)|((with_reducible refine gate_dst (N:=7) rfl ?_);refine box_event ?hg (N:=7) ?hd (cs:=#[.int .i64 0,.int .i64 0,.int .i64 0,.int .i64 0,.int .i64 0]) (t:=37) ?hr ?_;(case hd=>rfl);(case hg=>rfl);(case hr=>first|(go_simp;done)|(go_simp;rfl));intro q7 hg wk hbox hb;have Gq7:=ak (show w.heap.size <= q7 from by rw [hg];exact HD.out.size);have Bq7:=ak hbox;replace HD:=ak ((HD.out.apart q7 (Nat.le_of_eq hg.symm)).below hb);clear hb hbox hg;obtain ⟨hcz0,hcz1,hcz2,hcz3,hcz4⟩:=cz5_ Bq7.out;obtain ⟨hfz0,hfz1,hfz2,hfz3,hfz4⟩:=fz5_ Bq7.out)|((with_reducible refine gate_store (t:=37) (p:=7) rfl ?_);refine store_event (t:=37) (p:=7) (v:=?vo8_) (w1:=(((((wk.setCell ⟨q7,0,none⟩ (.int .i64 t0)).setCell ⟨q7,1,none⟩ (.int .i64 s)).setCell ⟨q7,2,none⟩ (.int .i64 t2)).setCell ⟨q7,3,none⟩ (.int .i64 t3)).setCell ⟨q7,4,none⟩ (.int .i64 t4))) ?hg ?ho ?hn ?hr ?_;(case ho=>rfl);(case hg=>rfl);(case hn=>rfl);(case hr=>first|(go_simp;done)|(go_simp;rfl));intro wl hw;clear hcz0 hfz0 hcz1 hfz1 hcz2 hfz2 hcz3 hfz3 hcz4 hfz4;have n0_:=put5_ Bq7.out (.int .i64 t0) (.int .i64 s) (.int .i64 t2) (.int .i64 t3) (.int .i64 t4);rw [<- hw] at n0_;have n1_:=HD.out.far5 Bq7.out (by decide) Gq7.out (.int .i64 t0) (.int .i64 s) (.int .i64 t2) (.int .i64 t3) (.int .i64 t4);rw [<- hw] at n1_;clear hw Bq7 HD;have Bq7:=ak n0_;have HD:=ak n1_;clear n0_ n1_))
    clear qs
    have hb:=below_drew (Below.refl wl.heap.size wl)
    replace Bq7:=ak (bb_ Bq7.out hb)
    replace HD:=ak (HD.out.below hb)
    clear hb
    obtain ⟨A5,c5,e5⟩:=Kd.R_slice HD.out.r5
    subst e5
    have p0:0 <= t0:=Ht0.out.1
    have q0:t0 < (Q.length:Int):=by have h1:=Ht0.out.2;have h2:=HN.out;omega
    obtain ⟨ad,e0,y0,y1,y2⟩:=at_T118 (Kd.R_reads' HD.out.r5).2.2 t0 p0 q0
    cases e0
    replace p0:=eq_true p0
    replace q0:=eq_true q0
    refine start_ (n:=12) (S:=fun w'=>w'.cell? ⟨q7,0,none⟩ = some (.int .i64 t0) /\ w'.cell? ⟨q7,1,none⟩ = some (.int .i64 s) /\ w'.cell? ⟨q7,2,none⟩ = some (.int .i64 t2) /\ w'.cell? ⟨q7,3,none⟩ = some (.int .i64 t3) /\ w'.cell? ⟨q7,4,none⟩ = some (.int .i64 t4) /\ w'.cell? (ad.add ((t0).toNat * 3)) = some (.int .i64 (rd_T118 Q t0).f0) /\ w'.cell? ⟨(ad.add ((t0).toNat * 3)).block,(ad.add ((t0).toNat * 3)).off + 1,none⟩ = some (.int .i64 (rd_T118 Q t0).f1) /\ w'.cell? ⟨(ad.add ((t0).toNat * 3)).block,(ad.add ((t0).toNat * 3)).off + 2,none⟩ = some (.int .i64 (rd_T118 Q t0).f2)) (ds:=[9,10]) #[fF,fF,fF,fF,fF,fF,fF,fF,fF,fF,fF,fF] (by kernel_rfl) rfl rfl ⟨(blk_cell Bq7.out 0).trans rfl,(blk_cell Bq7.out 1).trans rfl,(blk_cell Bq7.out 2).trans rfl,(blk_cell Bq7.out 3).trans rfl,(blk_cell Bq7.out 4).trans rfl,y0,y1,y2⟩ (fun hHeld=>?_)
    refine with_tabW ctab8 cbits8 (fun HT_ HW_=>?_)
    generalize wl.drew = wm at HD Bq7 y0 y1 y2 hHeld ⊢
    refine pz_ HT_ 0 (some 45) #[tT,fF,fF,fF,fF,fF,fF,fF,fF,fF,fF,fF] ?_
    refine pz_ HT_ 1 (some 46) #[tT,tT,fF,fF,fF,fF,fF,fF,fF,fF,fF,fF] ?_
    refine pz_ HT_ 2 (some 47) #[tT,tT,tT,fF,fF,fF,fF,fF,fF,fF,fF,fF] ?_
    refine tk_ HT_ HW_ hHeld 3 (some 48) #[tT,tT,tT,tT,fF,fF,fF,fF,fF,fF,fF,fF] ?_
    refine pz_ HT_ 4 (some 49) #[tT,tT,tT,tT,tT,fF,fF,fF,fF,fF,fF,fF] ?_
    refine tk_ HT_ HW_ hHeld 5 (some 50) #[tT,tT,tT,tT,tT,tT,fF,fF,fF,fF,fF,fF] ?_
    refine tk_ HT_ HW_ hHeld 6 (some 51) #[tT,tT,tT,tT,tT,tT,tT,fF,fF,fF,fF,fF] ?_
    refine one_ (i:=7) (N:=some 52) #[tT,tT,tT,tT,tT,tT,tT,tT,fF,fF,fF,fF] rfl rfl (one_of HT_.out (by kernel_rfl)) (by decide) (fun K hK=>?_)
    refine gs_ Try.func111 #[.agg #[.int .i64 t0,.int .i64 s,.int .i64 t2,.int .i64 t3,.int .i64 t4]] ?_
    refine (shiftE t0 s t2 t3 t4 _).mono ?_
    rintro e wn ⟨x0,x1,x2,rfl,hb⟩
    refine ⟨_,rfl,?_⟩
    have hs0_:=bcw_ hb (hHeld.2.2.2.2.2.1)
    have hs1_:=bcw_ hb (hHeld.2.2.2.2.2.2.1)
    have hs2_:=bcw_ hb (hHeld.2.2.2.2.2.2.2)
    replace Bq7:=ak (bb_ Bq7.out hb)
    replace HD:=ak (HD.out.below hb)
    clear hb
    refine hK.out _ _ ⟨(blk_cell Bq7.out 0).trans rfl,(blk_cell Bq7.out 1).trans rfl,(blk_cell Bq7.out 2).trans rfl,(blk_cell Bq7.out 3).trans rfl,(blk_cell Bq7.out 4).trans rfl,hs0_,hs1_,hs2_⟩ (fun hHeld=>?_)
    clear hK K hs0_ hs1_ hs2_
    refine na_ ?_
    refine one_ (i:=8) (N:=some 53) #[tT,tT,tT,tT,tT,tT,tT,tT,tT,fF,fF,fF] rfl rfl (one_of HT_.out (by kernel_rfl)) (by decide) (fun K hK=>?_)
    refine gs_ Try.func110 #[.agg #[.int .i64 (rd_T118 Q t0).f0,.int .i64 (rd_T118 Q t0).f1,.int .i64 (rd_T118 Q t0).f2],.agg #[.int .i64 x0,.int .i64 x1,.int .i64 x2],.int .i64 1] ?_
    refine (plusE (rd_T118 Q t0).f0 (rd_T118 Q t0).f1 (rd_T118 Q t0).f2 x0 x1 x2 1 _).mono ?_
    rintro e wo ⟨z0,z1,z2,rfl,hb⟩
    refine ⟨_,rfl,?_⟩
    have hs0_:=bcw_ hb (hHeld.2.2.2.2.2.1)
    have hs1_:=bcw_ hb (hHeld.2.2.2.2.2.2.1)
    have hs2_:=bcw_ hb (hHeld.2.2.2.2.2.2.2)
    replace Bq7:=ak (bb_ Bq7.out hb)
    replace HD:=ak (HD.out.below hb)
    clear hb
    refine hK.out _ _ ⟨(blk_cell Bq7.out 0).trans rfl,(blk_cell Bq7.out 1).trans rfl,(blk_cell Bq7.out 2).trans rfl,(blk_cell Bq7.out 3).trans rfl,(blk_cell Bq7.out 4).trans rfl,hs0_,hs1_,hs2_⟩ (fun hHeld=>?_)
    clear hK K hs0_ hs1_ hs2_
    refine na_ ?_
    refine last_ (i:=9) (N:=some 54) #[tT,tT,tT,tT,tT,tT,tT,tT,tT,tT,fF,fF] rfl rfl (one_of HT_.out (by kernel_rfl)) (by decide) (fun K hK=>?_)
    refine value_ (w1:=?_) (v:=?_) (by rfl) rfl ?_ ?_
    rotate_left 2
    .
     go_simp
     constructor
     .
      rfl
     .
      rfl
    refine hK.out _ _ ?_
    clear hK K
    refine na_ ?_
    refine last_ (i:=10) (N:=some 55) #[tT,tT,tT,tT,tT,tT,tT,tT,tT,tT,tT,fF] rfl rfl (one_of HT_.out (by kernel_rfl)) (by decide) (fun K hK=>?_)
    refine Kd.R_append_step k118 w.heap.size (by rfl) (.tmp 45) (.tmp 54) 119 118 (.agg #[.int .i64 0,.int .i64 0,.int .i64 0]) 24 rfl Try.underlying119 info118 rfl (by decide) (by omega) (.slice (some ad) Q.length c5) Q (⟨z0,z1,z2⟩:S118) [.int .i64 z0,.int .i64 z1,.int .i64 z2] (fun k=>k ≠ q7) (fun _=>False) rfl rfl ?aP (fun _ hk=>hk.elim) ?aF ?aO (Below.refl _ _) ?aS ?aL ?_
    (case aP=>exact k118_mkM _ _ _ (⟨z0,z1,z2⟩:S118))
    (case aF=>exact (fun k_ hk=>Kd.freshB (g:=q7) Bq7.out k_ hk))
    (case aO=>exact HD.out.r5)
    (case aS=>exact HD.out.size)
    (case aL=>have h2:=HN.out;omega)
    intro v5 wp ho hb hg hat
    have Bq7:=ak (blk_grown Bq7.out hg (Kd.R_ne HD.out.r5 Bq7.out (by decide)))
    have HD:=ak (HD.out.push5 ho hb hg)
    clear ho hb hg hat
    refine hK.out _ _ ?_
    clear hK K
    refine na_ ?_
    refine pz_ HT_ 11 (some 5) #[tT,tT,tT,tT,tT,tT,tT,tT,tT,tT,tT,tT] ?_
    refine done_ (done_of HT_.out (by kernel_rfl)) ?_
    go_upto_if 57 with (first|((with_reducible refine gate_callee (f:=82) rfl ?_);refine ga_ (some 57) Try.func82 #[.pointer (some ⟨g,0,none⟩),.int .i64 4] ?_;refine (oneE hx HD.out.cur HD.out.hB (by omega) 4 (by decide)).mono ?_;rintro e wq ⟨o,rfl,hc,hb2,hk⟩;refine ⟨_,rfl,?_⟩;replace Bq7:=ak (HD.out.cur.blk hk Bq7.out (by decide));replace HD:=ak (HD.out.call hc hb2 hk);clear hc hb2 hk))
    (try simp only [Act.put,List.setIfInBounds_toArray,List.set_cons_zero,List.set_cons_succ])
    go_cut [] (fun wc_=>∃ a0 a1 a2 a3 a4:Int,Aside0 (CvE w0 w wc_ g x (b + 10 * s + 10) (fun k=>k ≠ q7) u3 L v5 (Q ++ [⟨z0,z1,z2⟩])) /\ Aside0 (wc_.heap[q7]? = some (.cells #[.int .i64 a0,.int .i64 a1,.int .i64 a2,.int .i64 a3,.int .i64 a4] 37 (0,0))))
    case first=>
     cases o with
     | true=>
      obtain ⟨hcz0,hcz1,hcz2,hcz3,hcz4⟩:=cz5_ Bq7.out;obtain ⟨hfz0,hfz1,hfz2,hfz3,hfz4⟩:=fz5_ Bq7.out
      go_wp2_with (first|((with_reducible refine gate_callee (f:=112) rfl ?_);refine ga_ (some 59) Try.func112 #[.agg #[.int .i64 t0,.int .i64 s,.int .i64 t2,.int .i64 t3,.int .i64 t4]] ?_;refine (reverseE t0 s t2 t3 t4 _).mono ?_;rintro e wr ⟨r0,r1,r2,r3,r4,rfl,hb⟩;refine ⟨_,rfl,?_⟩;clear hcz0 hfz0 hcz1 hfz1 hcz2 hfz2 hcz3 hfz3 hcz4 hfz4;replace Bq7:=ak (bb_ Bq7.out hb);replace HD:=ak (HD.out.below hb);clear hb;obtain ⟨hcz0,hcz1,hcz2,hcz3,hcz4⟩:=cz5_ Bq7.out;obtain ⟨hfz0,hfz1,hfz2,hfz3,hfz4⟩:=fz5_ Bq7.out)|((with_reducible refine gate_store (t:=37) (p:=7) rfl ?_);refine store_event (t:=37) (p:=7) (v:=?vo9_) (w1:=(((((wr.setCell ⟨q7,0,none⟩ (.int .i64 r0)).setCell ⟨q7,1,none⟩ (.int .i64 r1)).setCell ⟨q7,2,none⟩ (.int .i64 r2)).setCell ⟨q7,3,none⟩ (.int .i64 r3)).setCell ⟨q7,4,none⟩ (.int .i64 r4))) ?hg ?ho ?hn ?hr ?_;(case ho=>rfl);(case hg=>rfl);(case hn=>rfl);(case hr=>first|(go_simp;done)|(go_simp;rfl));intro ws hw;clear hcz0 hfz0 hcz1 hfz1 hcz2 hfz2 hcz3 hfz3 hcz4 hfz4;have n0_:=put5_ Bq7.out (.int .i64 r0) (.int .i64 r1) (.int .i64 r2) (.int .i64 r3) (.int .i64 r4);rw [<- hw] at n0_;have n1_:=HD.out.far5 Bq7.out (by decide) Gq7.out (.int .i64 r0) (.int .i64 r1) (.int .i64 r2) (.int .i64 r3) (.int .i64 r4);rw [<- hw] at n1_;clear hw Bq7 HD;have Bq7:=ak n0_;have HD:=ak n1_;clear n0_ n1_))
      go_meet
      case rel=>exact ⟨_,_,_,_,_,⟨HD.out.mono (by omega)⟩,Bq7⟩
     | false=>
      go_wp2_with fail
      go_meet
      case rel=>exact ⟨_,_,_,_,_,⟨HD.out.mono (by omega)⟩,Bq7⟩
    case rest=>
     clear HD Bq7
     obtain ⟨a0,a1,a2,a3,a4,HD,Bq7⟩:=hcut
     obtain ⟨hcz0,hcz1,hcz2,hcz3,hcz4⟩:=cz5_ Bq7.out;obtain ⟨hfz0,hfz1,hfz2,hfz3,hfz4⟩:=fz5_ Bq7.out
     go_wp2_with (first|((with_reducible refine gate_builtin (b:=.append) (xs:=#[.tmp 60,.tmp 62]) rfl ?_);at_builtin;refine Kd.R_append k37 w.heap.size rfl (.tmp 60) (.tmp 62) 28 37 (.agg #[.int .i64 0,.int .i64 0,.int .i64 0,.int .i64 0,.int .i64 0]) 40 rfl Try.underlying28 info37 rfl (by decide) (by omega) u3 L (⟨a0,a1,a2,a3,a4⟩:S37) [.int .i64 a0,.int .i64 a1,.int .i64 a2,.int .i64 a3,.int .i64 a4] (fun k=>k ≠ q7) (fun _=>False) rfl rfl ?aP (fun _ hk=>hk.elim) ?aF ?aO (Below.refl _ _) ?aS ?aL ?_;(case aP=>exact k37_mkM _ _ _ (⟨a0,a1,a2,a3,a4⟩:S37));(case aF=>exact (fun k_ hk=>Kd.freshB (g:=q7) Bq7.out k_ hk));(case aO=>exact HD.out.r3);(case aS=>exact HD.out.size);(case aL=>have:=HN.out;omega);intro v3 wt ho hb hg hat;replace Bq7:=ak (blk_grown Bq7.out hg (Kd.R_away HD.out.r3 (fun _ hk=>hk)));replace HD:=ak (HD.out.push3 ho hb hg);clear ho hb hg hat))
     cases gk with
     | zero=>have h2:=HN.out;omega
     | succ gk=>
      go_roundg gk
      case measure=>omega
      case rel=>exact ⟨L ++ [⟨a0,a1,a2,a3,a4⟩],Q ++ [⟨z0,z1,z2⟩],s + 1,rfl,⟨by have h2:=HN.out;simp only [List.length_append,List.length_cons,List.length_nil];omega⟩,⟨HD.out.loose.mono (by omega)⟩⟩
   .
    have qs:decide (s < m) = false:=decide_eq_false hs
    go_wp2_with fail
    go_meet
    case rel=>exact ⟨L,Q,⟨by have h2:=HN.out;have h3:=Hm.out;refine ⟨?_,?_,?_⟩ <;> omega⟩,⟨HD.out.mono (by have h3:=Hm.out;omega)⟩⟩
 case rest=>
  clear HD L0 Q0
  obtain ⟨L,Q,HN,HD⟩:=hcut
  have HQ:=ak HN.out.2.2
  obtain ⟨A5,c5,e5⟩:=Kd.R_slice HD.out.r5
  subst e5
  go_upto_block 2 with (first|((with_reducible refine gate_callee (f:=81) rfl ?_);refine ga_ (some 65) Try.func81 #[.pointer (some ⟨g,0,none⟩),.int .i64 4] ?_;refine (pickE hx HD.out.cur HD.out.hB (by omega) 4 (by decide)).mono ?_;rintro e wb ⟨h,rfl,h0_,h1_,hc,hb2,hk⟩;refine ⟨_,rfl,?_⟩;have Hh:=ak (And.intro h0_ h1_);clear h0_ h1_;replace HD:=ak (HD.out.call hc hb2 hk);clear hc hb2 hk))
  (try simp only [Act.put,List.setIfInBounds_toArray,List.set_cons_zero,List.set_cons_succ])
  go_cut [3] (fun v3 wc_=>∃ (L:List S37),Aside0 (1 <= L.length /\ L.length <= 8) /\ Aside0 (CvE w0 w wc_ g x (b + 96) (fun _=>True) v3 L (.slice A5 Q.length c5) Q))
  case first=>
   go_wp2_with fail
   go_loopg [3,8] h.toNat (fun n v3 v8 wc_=>∃ (L:List S37) (k:Int),v8 = .int .i64 k /\ Aside0 (0 <= k /\ k <= 3 /\ (n:Int) = k /\ 1 <= L.length /\ L.length + k <= 8) /\ Aside0 (CvE w0 w wc_ g x (b + 72 + 8 * (3 - k)) (fun _=>True) v3 L (.slice A5 Q.length c5) Q))
   case atStart=>exact ⟨L,h,rfl,⟨by have h1:=Hh.out;have h2:=HN.out;refine ⟨?_,?_,?_,?_,?_⟩ <;> omega⟩,⟨HD.out.mono (by have h1:=Hh.out;omega)⟩⟩
   case round=>
    clear HD HN
    obtain ⟨L,k,rfl,HR,HD⟩:=hrel
    have k0:0 <= k:=HR.out.1
    have k3:k <= 3:=HR.out.2.1
    have m1:2 <= m:=Hm.out.1
    by_cases hk:0 < k
    .
     have qk:decide (0 < k) = true:=decide_eq_true hk
     go_upto_block 3 with fail
     clear qk
     (try simp only [Act.put,List.setIfInBounds_toArray,List.set_cons_zero,List.set_cons_succ])
     go_cut [3] (fun v3 wc_=>∃ (L:List S37),Aside0 (1 <= L.length /\ L.length + k <= 9) /\ Aside0 (CvE w0 w wc_ g x (b + 80 + 8 * (3 - k)) (fun _=>True) v3 L (.slice A5 Q.length c5) Q))
     case first=>
      go_upto_region 16 with (first|((with_reducible refine gate_callee (f:=81) rfl ?_);refine ga_ (some 72) Try.func81 #[.pointer (some ⟨g,0,none⟩),.int .i64 m] ?_;refine (pickE hx HD.out.cur HD.out.hB (by omega) m (by omega)).mono ?_;rintro e wd ⟨i,rfl,h0_,h1_,hc,hb2,hk⟩;refine ⟨_,rfl,?_⟩;have Hi:=ak (And.intro h0_ h1_);clear h0_ h1_;replace HD:=ak (HD.out.call hc hb2 hk);clear hc hb2 hk)|((with_reducible refine gate_callee (f:=81) rfl ?_);refine ga_ (some 75) Try.func81 #[.pointer (some ⟨g,0,none⟩),.int .i64 m] ?_;refine (pickE hx HD.out.cur HD.out.hB (by omega) m (by omega)).mono ?_;rintro e we ⟨j,rfl,h0_,h1_,hc,hb2,hk⟩;refine ⟨_,rfl,?_⟩;have Hj:=ak (And.intro h0_ h1_);clear h0_ h1_;replace HD:=ak (HD.out.call hc hb2 hk);clear hc hb2 hk))
      have hb:=below_drew (Below.refl we.heap.size we)
      replace HD:=ak (HD.out.below hb)
      clear hb
      have p0:0 <= j:=Hj.out.1
      have q0:j < (Q.length:Int):=by have h1:=Hj.out.2;have h2:=HQ.out;omega
      have p1:0 <= i:=Hi.out.1
      have q1:i < (Q.length:Int):=by have h1:=Hi.out.2;have h2:=HQ.out;omega
      obtain ⟨ad,e0,y0,y1,y2⟩:=at_T118 (Kd.R_reads' HD.out.r5).2.2 j p0 q0
      obtain ⟨ad2,e1,y3,y4,y5⟩:=at_T118 (Kd.R_reads' HD.out.r5).2.2 i p1 q1
      cases e0
      obtain rfl:ad = ad2:=by injection e1
      clear e1
      replace p0:=eq_true p0
      replace q0:=eq_true q0
      replace p1:=eq_true p1
      replace q1:=eq_true q1
      refine start_ (n:=11) (S:=fun w'=>w'.cell? (ad.add ((j).toNat * 3)) = some (.int .i64 (rd_T118 Q j).f0) /\ w'.cell? ⟨(ad.add ((j).toNat * 3)).block,(ad.add ((j).toNat * 3)).off + 1,none⟩ = some (.int .i64 (rd_T118 Q j).f1) /\ w'.cell? ⟨(ad.add ((j).toNat * 3)).block,(ad.add ((j).toNat * 3)).off + 2,none⟩ = some (.int .i64 (rd_T118 Q j).f2) /\ w'.cell? (ad.add ((i).toNat * 3)) = some (.int .i64 (rd_T118 Q i).f0) /\ w'.cell? ⟨(ad.add ((i).toNat * 3)).block,(ad.add ((i).toNat * 3)).off + 1,none⟩ = some (.int .i64 (rd_T118 Q i).f1) /\ w'.cell? ⟨(ad.add ((i).toNat * 3)).block,(ad.add ((i).toNat * 3)).off + 2,none⟩ = some (.int .i64 (rd_T118 Q i).f2)) (ds:=[10]) #[fF,fF,fF,fF,fF,fF,fF,fF,fF,fF,fF] (by kernel_rfl) rfl rfl ⟨y0,y1,y2,y3,y4,y5⟩ (fun hHeld=>?_)
      refine with_tabW ctab16 cbits16 (fun HT_ HW_=>?_)
      generalize we.drew = wf at HD y0 y1 y2 y3 y4 y5 hHeld ⊢
      refine pz_ HT_ 0 (some 76) #[tT,fF,fF,fF,fF,fF,fF,fF,fF,fF,fF] ?_
      refine pz_ HT_ 1 (some 77) #[tT,tT,fF,fF,fF,fF,fF,fF,fF,fF,fF] ?_
      refine pz_ HT_ 2 (some 78) #[tT,tT,tT,fF,fF,fF,fF,fF,fF,fF,fF] ?_
      refine pz_ HT_ 4 (some 80) #[tT,tT,tT,fF,tT,fF,fF,fF,fF,fF,fF] ?_
      refine pz_ HT_ 5 (some 81) #[tT,tT,tT,fF,tT,tT,fF,fF,fF,fF,fF] ?_
      refine pz_ HT_ 6 (some 82) #[tT,tT,tT,fF,tT,tT,tT,fF,fF,fF,fF] ?_
      refine tk_ HT_ HW_ hHeld 3 (some 79) #[tT,tT,tT,tT,tT,tT,tT,fF,fF,fF,fF] ?_
      refine tk_ HT_ HW_ hHeld 7 (some 83) #[tT,tT,tT,tT,tT,tT,tT,tT,fF,fF,fF] ?_
      refine join_ (σ:=Nat × Int × Int × Int) 1 #[tT,tT,tT,tT,tT,tT,tT,tT,tT,tT,fF] (fun s_=>[(84,.agg #[.int .i64 s_.2.1,.int .i64 s_.2.2.1,.int .i64 s_.2.2.2]),(11,.pointer (some ⟨s_.1,0,none⟩))]) (fun s_ w'=>(w'.cell? (ad.add ((j).toNat * 3)) = some (.int .i64 (rd_T118 Q j).f0) /\ w'.cell? ⟨(ad.add ((j).toNat * 3)).block,(ad.add ((j).toNat * 3)).off + 1,none⟩ = some (.int .i64 (rd_T118 Q j).f1) /\ w'.cell? ⟨(ad.add ((j).toNat * 3)).block,(ad.add ((j).toNat * 3)).off + 2,none⟩ = some (.int .i64 (rd_T118 Q j).f2) /\ w'.cell? (ad.add ((i).toNat * 3)) = some (.int .i64 (rd_T118 Q i).f0) /\ w'.cell? ⟨(ad.add ((i).toNat * 3)).block,(ad.add ((i).toNat * 3)).off + 1,none⟩ = some (.int .i64 (rd_T118 Q i).f1) /\ w'.cell? ⟨(ad.add ((i).toNat * 3)).block,(ad.add ((i).toNat * 3)).off + 2,none⟩ = some (.int .i64 (rd_T118 Q i).f2)) /\ CvE w0 w w' g x (b + 76 + 8 * (3 - k)) (fun k_=>k_ ≠ s_.1) u3 L (.slice (some ad) Q.length c5) Q /\ w'.heap[s_.1]? = some (.cells #[.int .i64 0,.int .i64 0,.int .i64 0] 118 (0,0)) /\ w.heap.size <= s_.1) ?_ ?_
      rotate_left
      .
       intro hCont
       refine two_ (i:=8) (j:=9) (Ni:=some 84) (Nj:=some 11) #[tT,tT,tT,tT,tT,tT,tT,tT,tT,fF,fF] #[tT,tT,tT,tT,tT,tT,tT,tT,fF,tT,fF] rfl rfl rfl rfl (two_of HT_.out (by kernel_rfl)) (by decide) (by decide) (fun K hK=>?_) (fun K hK=>?_)
       .
        skip;refine gs_ Try.func110 #[.agg #[.int .i64 (rd_T118 Q j).f0,.int .i64 (rd_T118 Q j).f1,.int .i64 (rd_T118 Q j).f2],.agg #[.int .i64 (rd_T118 Q i).f0,.int .i64 (rd_T118 Q i).f1,.int .i64 (rd_T118 Q i).f2],.int .i64 (-1)] ?_;refine (plusE _ _ _ _ _ _ _ _).mono ?_;rintro e wh ⟨z0,z1,z2,rfl,hb⟩;refine ⟨_,rfl,?_⟩;have hs0_:=bcw_ hb (hHeld.1);have hs1_:=bcw_ hb (hHeld.2.1);have hs2_:=bcw_ hb (hHeld.2.2.1);have hs3_:=bcw_ hb (hHeld.2.2.2.1);have hs4_:=bcw_ hb (hHeld.2.2.2.2.1);have hs5_:=bcw_ hb (hHeld.2.2.2.2.2);replace HD:=ak (HD.out.below hb);clear hb;refine hK.out _ _ ⟨hs0_,hs1_,hs2_,hs3_,hs4_,hs5_⟩ (fun hHeld=>?_);clear hK K hs0_ hs1_ hs2_ hs3_ hs4_ hs5_;refine na_ ?_;refine one_ (i:=9) (N:=some 11) #[tT,tT,tT,tT,tT,tT,tT,tT,tT,tT,fF] rfl rfl (one_of HT_.out (by kernel_rfl)) (by decide) (fun K hK=>?_);refine box_step ?hg (N:=11) ?hd (cs:=#[.int .i64 0,.int .i64 0,.int .i64 0]) (t:=118) ?hr ?_;(case hd=>rfl);(case hg=>rfl);(case hr=>first|(go_simp;done)|(go_simp;rfl));intro q11 hg wi hbox hb;have hs0_:=bcw_ hb (hHeld.1);have hs1_:=bcw_ hb (hHeld.2.1);have hs2_:=bcw_ hb (hHeld.2.2.1);have hs3_:=bcw_ hb (hHeld.2.2.2.1);have hs4_:=bcw_ hb (hHeld.2.2.2.2.1);have hs5_:=bcw_ hb (hHeld.2.2.2.2.2)
        have Gq11:w.heap.size <= q11:=by rw [hg];exact HD.out.size
        have HD:=ak ((HD.out.apart q11 (Nat.le_of_eq hg.symm)).below hb);have Bq11:=ak hbox;clear hb hbox hg;refine hK.out _ _ ⟨hs0_,hs1_,hs2_,hs3_,hs4_,hs5_⟩ (fun hHeld=>?_);clear hK K hs0_ hs1_ hs2_ hs3_ hs4_ hs5_;refine na_ ?_;exact norm_ (by simp only [putAll,Act.put,List.setIfInBounds_toArray,List.set_cons_zero,List.set_cons_succ]) (hCont (q11,z0,z1,z2) _ ⟨hHeld,HD.out.mono (by omega),Bq11.out,Gq11⟩)
       .
        skip;refine box_step ?hg (N:=11) ?hd (cs:=#[.int .i64 0,.int .i64 0,.int .i64 0]) (t:=118) ?hr ?_;(case hd=>rfl);(case hg=>rfl);(case hr=>first|(go_simp;done)|(go_simp;rfl));intro q11 hg wh hbox hb;have hs0_:=bcw_ hb (hHeld.1);have hs1_:=bcw_ hb (hHeld.2.1);have hs2_:=bcw_ hb (hHeld.2.2.1);have hs3_:=bcw_ hb (hHeld.2.2.2.1);have hs4_:=bcw_ hb (hHeld.2.2.2.2.1);have hs5_:=bcw_ hb (hHeld.2.2.2.2.2)
        have Gq11:w.heap.size <= q11:=by rw [hg];exact HD.out.size
        have HD:=ak ((HD.out.apart q11 (Nat.le_of_eq hg.symm)).below hb);have Bq11:=ak hbox;clear hb hbox hg;refine hK.out _ _ ⟨hs0_,hs1_,hs2_,hs3_,hs4_,hs5_⟩ (fun hHeld=>?_);clear hK K hs0_ hs1_ hs2_ hs3_ hs4_ hs5_;refine na_ ?_;refine one_ (i:=8) (N:=some 84) #[tT,tT,tT,tT,tT,tT,tT,tT,tT,tT,fF] rfl rfl (one_of HT_.out (by kernel_rfl)) (by decide) (fun K hK=>?_);refine gs_ Try.func110 #[.agg #[.int .i64 (rd_T118 Q j).f0,.int .i64 (rd_T118 Q j).f1,.int .i64 (rd_T118 Q j).f2],.agg #[.int .i64 (rd_T118 Q i).f0,.int .i64 (rd_T118 Q i).f1,.int .i64 (rd_T118 Q i).f2],.int .i64 (-1)] ?_;refine (plusE _ _ _ _ _ _ _ _).mono ?_;rintro e wi ⟨z0,z1,z2,rfl,hb⟩;refine ⟨_,rfl,?_⟩;have hs0_:=bcw_ hb (hHeld.1);have hs1_:=bcw_ hb (hHeld.2.1);have hs2_:=bcw_ hb (hHeld.2.2.1);have hs3_:=bcw_ hb (hHeld.2.2.2.1);have hs4_:=bcw_ hb (hHeld.2.2.2.2.1);have hs5_:=bcw_ hb (hHeld.2.2.2.2.2);replace Bq11:=ak (bb_ Bq11.out hb);replace HD:=ak (HD.out.below hb);clear hb;refine hK.out _ _ ⟨hs0_,hs1_,hs2_,hs3_,hs4_,hs5_⟩ (fun hHeld=>?_);clear hK K hs0_ hs1_ hs2_ hs3_ hs4_ hs5_;refine na_ ?_;exact norm_ (by simp only [putAll,Act.put,List.setIfInBounds_toArray,List.set_cons_zero,List.set_cons_succ]) (hCont (q11,z0,z1,z2) _ ⟨hHeld,HD.out.mono (by omega),Bq11.out,Gq11⟩)
      rintro ⟨q11,z0,z1,z2⟩ wk ⟨hS_,h0_,h1_,h2_⟩
      (try dsimp only at h0_ h1_ h2_)
      have HD:=ak h0_
      have Bq11:=ak h1_
      have Gq11:=ak h2_
      clear h0_ h1_ h2_ hS_ hHeld y0 y1 y2 y3 y4 y5
      refine nb_ ?_
      refine last_ (i:=10) (N:=none) #[tT,tT,tT,tT,tT,tT,tT,tT,tT,tT,tT] rfl rfl (one_of HT_.out (by kernel_rfl)) (by decide) (fun K hK=>?_)
      obtain ⟨hcz0,hcz1,hcz2⟩:=cz3_ Bq11.out;obtain ⟨hfz0,hfz1,hfz2⟩:=fz3_ Bq11.out
      refine skip_ (w1:=?_) (by rfl) rfl ?_ ?_
      rotate_left
      .
       go_simp
       rfl
      refine hK.out _ _ ?_
      clear hK K
      refine done_ (done_of HT_.out (by kernel_rfl)) ?_
      clear hcz0 hfz0 hcz1 hfz1 hcz2 hfz2
      have m1:=ak (HD.out.far3 Bq11.out (by decide) Gq11.out (.int .i64 z0) (.int .i64 z1) (.int .i64 z2))
      have m2:=ak (p3_ Bq11.out (.int .i64 z0) (.int .i64 z1) (.int .i64 z2))
      clear HD Bq11 HT_ HW_ q0 q1 p0 p1
      generalize (((wk.setCell ⟨q11,0,none⟩ (.int .i64 z0)).setCell ⟨q11,1,none⟩ (.int .i64 z1)).setCell ⟨q11,2,none⟩ (.int .i64 z2)) = wl at m1 m2 ⊢
      have HD:=m1
      have Bq11:=m2
      clear m1 m2
      obtain ⟨hcz0,hcz1,hcz2⟩:=cz3_ Bq11.out;obtain ⟨hfz0,hfz1,hfz2⟩:=fz3_ Bq11.out
      go_upto_region 19 with (first|((with_reducible refine gate_callee (f:=113) rfl ?_);refine ga_ (some 90) Try.func113 #[.int .i64 z0,.int .i64 z1,.int .i64 0] ?_;refine (lengthE z0 z1 0 _).mono ?_;rintro e wn ⟨u0,v0,rfl,hb⟩;refine ⟨_,rfl,?_⟩;clear hcz0 hcz1 hcz2 hfz0 hfz1 hfz2;replace Bq11:=ak (bb_ Bq11.out hb);replace HD:=ak (HD.out.below hb);clear hb;obtain ⟨hcz0,hcz1,hcz2⟩:=cz3_ Bq11.out;obtain ⟨hfz0,hfz1,hfz2⟩:=fz3_ Bq11.out)|((with_reducible refine gate_callee (f:=113) rfl ?_);refine ga_ (some 100) Try.func113 #[.int .i64 z0,.int .i64 z1,.int .i64 z2] ?_;refine (lengthE z0 z1 z2 _).mono ?_;rintro e wo ⟨u1,v1,rfl,hb⟩;refine ⟨_,rfl,?_⟩;clear hcz0 hcz1 hcz2 hfz0 hfz1 hfz2;replace Bq11:=ak (bb_ Bq11.out hb);replace HD:=ak (HD.out.below hb);clear hb;obtain ⟨hcz0,hcz1,hcz2⟩:=cz3_ Bq11.out;obtain ⟨hfz0,hfz1,hfz2⟩:=fz3_ Bq11.out))
      by_cases hij:i = j
      .
       have n0:(i == j) = true:=beq_iff_eq.mpr hij
       clear hij
       go_wp2_with fail
       go_meet
       case rel=>exact ⟨L,⟨by have h1:=HR.out;refine ⟨?_,?_⟩ <;> omega⟩,⟨HD.out.loose.mono (by omega)⟩⟩
      have n0:(i == j) = false:=beq_eq_false_iff_ne.mpr hij
      clear hij
      go_upto_if 111 with (go_at_call 101;refine (inE (wrap64 (u1 + 3)) 4 500 _).mono ?_;rintro e wp ⟨o,rfl,hb⟩;clear hcz0 hcz1 hcz2 hfz0 hfz1 hfz2;replace Bq11:=ak (bb_ Bq11.out hb);replace HD:=ak (HD.out.below hb);clear hb;obtain ⟨hcz0,hcz1,hcz2⟩:=cz3_ Bq11.out;obtain ⟨hfz0,hfz1,hfz2⟩:=fz3_ Bq11.out)
      clear n0
      cases o with
      | false=>
       go_wp2_with fail
       go_meet
       case rel=>exact ⟨L,⟨by have h1:=HR.out;refine ⟨?_,?_⟩ <;> omega⟩,⟨HD.out.loose.mono (by omega)⟩⟩
      | true=>
       go_wp2_with (first|((with_reducible refine gate_callee (f:=114) rfl ?_);refine ga_ (some 117) Try.func114 #[.int .i64 z0,.int .i64 z1] ?_;refine (bearingE z0 z1 _).mono ?_;rintro e wq ⟨u2,v2,rfl,hb⟩;refine ⟨_,rfl,?_⟩;clear hcz0 hcz1 hcz2 hfz0 hfz1 hfz2;replace Bq11:=ak (bb_ Bq11.out hb);replace HD:=ak (HD.out.below hb);clear hb;obtain ⟨hcz0,hcz1,hcz2⟩:=cz3_ Bq11.out;obtain ⟨hfz0,hfz1,hfz2⟩:=fz3_ Bq11.out)|((with_reducible refine gate_callee (f:=115) rfl ?_);refine ga_ (some 124) Try.func115 #[.int .i64 u0,.int .i64 z2] ?_;refine (slopeE u0 z2 _).mono ?_;rintro e wr ⟨u3_,v3_,rfl,hb⟩;refine ⟨_,rfl,?_⟩;clear hcz0 hcz1 hcz2 hfz0 hfz1 hfz2;replace Bq11:=ak (bb_ Bq11.out hb);replace HD:=ak (HD.out.below hb);clear hb;obtain ⟨hcz0,hcz1,hcz2⟩:=cz3_ Bq11.out;obtain ⟨hfz0,hfz1,hfz2⟩:=fz3_ Bq11.out)|((with_reducible refine gate_callee (f:=81) rfl ?_);refine ga_ (some 132) Try.func81 #[.pointer (some ⟨g,0,none⟩),.int .i64 4] ?_;refine (pickE hx HD.out.cur HD.out.hB (by omega) 4 (by decide)).mono ?_;rintro e ws ⟨c,rfl,h0_,h1_,hc,hb2,hk⟩;refine ⟨_,rfl,?_⟩;have Hc:=ak (And.intro h0_ h1_);clear h0_ h1_;replace Bq11:=ak (HD.out.cur.blk hk Bq11.out (by decide));replace HD:=ak (HD.out.call hc hb2 hk);clear hc hb2 hk)|((with_reducible refine gate_callee (f:=81) rfl ?_);refine ga_ (some 136) Try.func81 #[.pointer (some ⟨g,0,none⟩),.int .i64 3] ?_;refine (pickE hx HD.out.cur HD.out.hB (by omega) 3 (by decide)).mono ?_;rintro e wt ⟨d,rfl,h0_,h1_,hc,hb2,hk⟩;refine ⟨_,rfl,?_⟩;have Hd:=ak (And.intro h0_ h1_);clear h0_ h1_;replace Bq11:=ak (HD.out.cur.blk hk Bq11.out (by decide));replace HD:=ak (HD.out.call hc hb2 hk);clear hc hb2 hk)|((with_reducible refine gate_builtin (b:=.append) (xs:=#[.tmp 127,.tmp 141]) rfl ?_);at_builtin;refine Kd.R_append k37 w.heap.size rfl (.tmp 127) (.tmp 141) 28 37 (.agg #[.int .i64 0,.int .i64 0,.int .i64 0,.int .i64 0,.int .i64 0]) 40 rfl Try.underlying28 info37 rfl (by decide) (by omega) u3 L (⟨i,j,wrap64 (u1 + c),Int.tmod (wrap64 (u2 + d)) 360,u3_⟩:S37) [.int .i64 i,.int .i64 j,.int .i64 (wrap64 (u1 + c)),.int .i64 (Int.tmod (wrap64 (u2 + d)) 360),.int .i64 u3_] (fun k=>k ≠ q11) (fun _=>False) rfl rfl ?aP (fun _ hk=>hk.elim) ?aF ?aO (Below.refl _ _) ?aS ?aL ?_;(case aP=>exact k37_mkM _ _ _ (⟨i,j,wrap64 (u1 + c),Int.tmod (wrap64 (u2 + d)) 360,u3_⟩:S37));(case aF=>exact (fun k_ hk=>Kd.freshB (g:=q11) Bq11.out k_ hk));(case aO=>exact HD.out.r3);(case aS=>exact HD.out.size);(case aL=>have h1:=HR.out;omega);intro v3 wt ho hb hg hat;clear Bq11;replace HD:=ak (HD.out.push3 ho hb hg);clear ho hb hg hat))
       go_meet
       case rel=>exact ⟨_,⟨by have h1:=HR.out;simp only [List.length_append,List.length_cons,List.length_nil];refine ⟨?_,?_⟩ <;> omega⟩,⟨HD.out.loose.mono (by omega)⟩⟩
     case rest=>
      clear HD
      obtain ⟨L2,HR2,HD⟩:=hcut
      go_wp2_with fail
      cases gk with
      | zero=>have h1:=HR.out;omega
      | succ gk=>
       go_roundg gk
       case measure=>omega
       case rel=>exact ⟨L2,k - 1,(by first|rfl|rw [w64 (by omega) (by omega)]),⟨by have h1:=HR.out;have h2:=HR2.out;refine ⟨?_,?_,?_,?_,?_⟩ <;> omega⟩,⟨HD.out.mono (by omega)⟩⟩
    .
     have qk:decide (0 < k) = false:=decide_eq_false hk
     go_wp2_with fail
     go_meet
     case rel=>exact ⟨L,⟨by have h1:=HR.out;refine ⟨?_,?_⟩ <;> omega⟩,⟨HD.out.mono (by omega)⟩⟩
  case rest=>
   clear HD HN
   obtain ⟨L,HN,HD⟩:=hcut
   obtain ⟨A3,c3,e3⟩:=Kd.R_slice HD.out.r3
   subst e3
   go_upto_block 4 with (first|((with_reducible refine gate_callee (f:=81) rfl ?_);refine ga_ (some 144) Try.func81 #[.pointer (some ⟨g,0,none⟩),.int .i64 24] ?_;refine (pickE hx HD.out.cur HD.out.hB (by omega) 24 (by decide)).mono ?_;rintro e wc ⟨u,rfl,h0_,h1_,hc,hb2,hk⟩;refine ⟨_,rfl,?_⟩;have Hu:=ak (And.intro h0_ h1_);clear h0_ h1_;replace HD:=ak (HD.out.call hc hb2 hk);clear hc hb2 hk))
   (try simp only [Act.put,List.setIfInBounds_toArray,List.set_cons_zero,List.set_cons_succ])
   go_cut [3] (fun v3 wc_=>∃ (L:List S37),Aside0 (L.length <= 9) /\ Aside0 (DrE w0 w wc_ g x (b + 120)) /\ Aside0 (Kd.R k37 37 wc_ w.heap.size (fun _=>True) v3 L))
   case first=>
    by_cases k0:u = 0
    .
     subst k0
     have ql:(0 < L.length) = True:=eq_true (by have h1:=HN.out;omega)
     have ql2:(0 < (L.length:Int)) = True:=eq_true (by have h1:=HN.out;omega)
     go_wp2_with (first|((with_reducible refine gate_callee (f:=104) rfl ?_);refine ga_ (some 149) Try.func104 #[.pointer (some ⟨g,0,none⟩)] ?_;refine (legE hx HD.out.cur HD.out.hB (by omega)).mono ?_;rintro e wd ⟨r0,r1,r2,r3,r4,rfl,hd⟩;refine ⟨_,rfl,?_⟩;replace HD:=ak (HD.out.call hd.cur hd.hB hd.hK);clear hd;obtain ⟨q3,hA,x0,x1,x2,x3,x4,f0,f1,f2,f3,f4,hs⟩:=row_set0 HD.out.d HD.out.r3 (by have h1:=HN.out;omega);subst hA)|((with_reducible refine gate_store (t:=37) (p:=150) rfl ?_);refine store_event (t:=37) (p:=150) (v:=?vs_) (w1:=(((((wd.setCell ⟨q3,0,none⟩ (.int .i64 r0)).setCell ⟨q3,1,none⟩ (.int .i64 r1)).setCell ⟨q3,2,none⟩ (.int .i64 r2)).setCell ⟨q3,3,none⟩ (.int .i64 r3)).setCell ⟨q3,4,none⟩ (.int .i64 r4))) ?hg ?ho ?hn ?hr ?_;(case ho=>rfl);(case hg=>rfl);(case hn=>rfl);(case hr=>first|(go_simp;done)|(go_simp;rfl));intro we hw;clear x0 x1 x2 x3 x4 f0 f1 f2 f3 f4;have m_:=hs r0 r1 r2 r3 r4;rw [<- hw] at m_;have HS:=ak m_;clear hs m_ hw))
     go_meet
     case rel=>
      obtain ⟨⟨L',hl,hr⟩,hd⟩:=HS.out
      exact ⟨L',⟨by have h1:=HN.out;omega⟩,⟨hd.mono (by omega)⟩,⟨hr⟩⟩
    have n0:(u == 0) = false:=beq_eq_false_iff_ne.mpr k0
    clear k0
    by_cases k1:u = 1
    .
     subst k1
     go_wp2_with (first|((with_reducible refine gate_callee (f:=104) rfl ?_);refine ga_ (some 155) Try.func104 #[.pointer (some ⟨g,0,none⟩)] ?_;refine (legE hx HD.out.cur HD.out.hB (by omega)).mono ?_;rintro e wd ⟨r0,r1,r2,r3,r4,rfl,hd⟩;refine ⟨_,rfl,?_⟩;replace HD:=ak (HD.out.call hd.cur hd.hB hd.hK);clear hd)|((with_reducible refine gate_builtin (b:=.append) (xs:=#[.tmp 153,.tmp 156]) rfl ?_);at_builtin;refine Kd.R_append k37 w.heap.size rfl (.tmp 153) (.tmp 156) 28 37 (.agg #[.int .i64 0,.int .i64 0,.int .i64 0,.int .i64 0,.int .i64 0]) 40 rfl Try.underlying28 info37 rfl (by decide) (by omega) (.slice A3 L.length c3) L (⟨r0,r1,r2,r3,r4⟩:S37) [.int .i64 r0,.int .i64 r1,.int .i64 r2,.int .i64 r3,.int .i64 r4] (fun _=>True) (fun _=>False) rfl rfl ?aP (fun _ hk=>hk.elim) ?aF ?aO (Below.refl _ _) ?aS ?aL ?_;(case aP=>exact k37_mkM _ _ _ (⟨r0,r1,r2,r3,r4⟩:S37));(case aF=>exact (fun _ _=>trivial));(case aO=>exact HD.out.r3);(case aS=>exact HD.out.size);(case aL=>have:=HN.out;omega);intro v3 we ho hb hg hat;replace HD:=ak (HD.out.push3 ho hb hg);clear ho hb hg hat))
     go_meet
     case rel=>exact ⟨_,⟨by have h1:=HN.out;simp only [List.length_append,List.length_cons,List.length_nil];omega⟩,⟨HD.out.d.mono (by omega)⟩,⟨HD.out.r3⟩⟩
    have n1:(u == 1) = false:=beq_eq_false_iff_ne.mpr k1
    clear k1
    by_cases k2:u = 2
    .
     subst k2
     obtain ⟨i0_,hi_,_,hsz_,_⟩:=info_parts info37;have hroom:=(Kd.R_reads' HD.out.r3).2.1;have hcut_:=cut_from (P:=Try.prog) 28 37 .i64 Try.underlying28 hi_ 5 hsz_ A3 L.length c3 1 (by omega) (by have h1:=HN.out;omega)
     obtain ⟨A1,hA1⟩:∃ A1,A1 = (if c3 = (1:Int).toNat then A3 else (A3:Option Addr).map (·.add ((1:Int).toNat * 5))):=⟨_,rfl⟩
     obtain ⟨c1,hc1⟩:∃ c1,c1 = c3 - (1:Int).toNat:=⟨_,rfl⟩
     obtain ⟨Y,hY⟩:∃ Y,Y = L.drop (1:Int).toNat:=⟨_,rfl⟩
     have hy:Y.length = L.length - (1:Int).toNat:=by rw [hY,List.length_drop]
     have HY:=ak (show Y.length <= 8 from by have h1:=HN.out;omega)
     have ql:(1 <= (L.length:Int)) = True:=eq_true (by have h1:=HN.out;omega)
     rw [<- hy,<- hA1,<- hc1] at hcut_
     have HA:=ak (And.intro hA1 (And.intro hY hroom))
     clear hA1 hc1 hY hy hi_ hsz_ hroom
     go_wp2_with (first|((with_reducible refine gate_dst (N:=160) rfl ?_);refine Kd.R_lit k37 _ 37 ?hg (N:=160) ?hd (xs:=([]:List S37)) (inner:=[]) (ok:=fun _=>True) (okp:=fun _=>True) ?hr ?hp (fun _ hk=>hk) trivial (Below.refl _ _) (Nat.le_refl _) (by simp) ?_;(case hd=>rfl);(case hg=>rfl);(case hr=>first|(go_simp;done)|(go_simp;rfl));(case hp=>exact (Reps.none _ _));intro vE wd ho hb hg_ hn_;clear hg_ hn_;have LE:=ak (Kd.R_lower ho HD.out.size);replace HD:=ak (HD.out.below hb);have HR:=ak (show Kd.C k37 _ A1 Y.length Y from by obtain ⟨h1,h2,h3⟩:=HA.out;rw [h1,h2];exact Kd.C_drop (m:=(1:Int).toNat) (c:=c3) (Kd.R_reads' HD.out.r3).2.2 (by have h1:=HN.out;omega) h3);clear ho hb)|((with_reducible refine gate_builtin (b:=.append) (xs:=#[.tmp 160,.tmp 162]) rfl ?_);at_builtin;refine Kd.R_append_rows k37 w.heap.size rfl (.tmp 160) (.tmp 162) 28 37 (.agg #[.int .i64 0,.int .i64 0,.int .i64 0,.int .i64 0,.int .i64 0]) 40 rfl Try.underlying28 info37 rfl (by decide) (by omega) vE ([]:List S37) Y _ _ _ (fun _=>True) (fun _=>False) rfl rfl ?aO ?aR (fun _ _ h=>h) (fun _ h=>h.elim) ?aF (Below.refl _ _) ?aS ?aL ?_;(case aR=>exact HR.out);(case aF=>exact (fun _ _=>trivial));(case aO=>exact LE.out);(case aS=>exact HD.out.size);(case aL=>have h1:=HY.out;simp only [List.length_nil];omega);intro v3 we ho hb hg hat;replace HD:=ak (HD.out.d.grow (Kd.R_base2 LE.out) (HD.out.cur.own_ne LE.out) hb hg);have HR:=ak ho;clear ho hb hg hat))
     go_meet
     case rel=>exact ⟨_,⟨by have h1:=HY.out;simp only [List.nil_append];omega⟩,⟨HD.out.mono (by omega)⟩,HR⟩
    have n2:(u == 2) = false:=beq_eq_false_iff_ne.mpr k2
    clear k2
    go_wp2_with fail
    go_meet
    case rel=>exact ⟨L,⟨by have h1:=HN.out;omega⟩,⟨HD.out.d.mono (by omega)⟩,⟨HD.out.r3⟩⟩
   case rest=>
    clear HD HN
    obtain ⟨L,HN,HD,HR⟩:=hcut
    obtain ⟨A3,c3,e3⟩:=Kd.R_slice HR.out
    subst e3
    go_wp2_with fail
    go_ret
    exact ⟨A3,c3,L,rr_,HN.out,HD.out,HR.out⟩
end Go.Proofs.Ythmjimboajmhmaa.Pr.Pure

namespace Go.Proofs.YthmjimboajmhmaaW.Opens
open Go.ChangeShapes Go.WideShapes Go.RowKit
open Go.Deep (open_slice choose_lt)
open Go.Proofs.YthmjimboajmhmaaW.PrintWords
set_option linter.unusedVariables false
set_option linter.unusedSimpArgs false
def Opn {α:Type} (P:Program) (t:TypeId) (d:Kd α) (wf:α -> Prop):Prop:=
 P.cellsOf t = d.sz /\ ∀ (H:Type) (enc:TypeId × Value -> H) (W:World) (fuel:Nat) (cs:List Value) (x:DataW H × List MemPlace),
  DataW.trod enc P W 0 (fun _=>true) true fuel t cs = some x -> (∀ n ∈ x.1.weights P t,n <= reachBytes) -> ∃ y,d.K W y cs /\ wf y
theorem Opn.int {P:Program} {t:TypeId} {k:IntKind} (hc:P.cellsOf t = 1) (ht:P.underlying t = some (.int k)):Opn P t (Kd.int k) (fun n=>(Lit.int k n).wf = true):=
 ⟨hc,fun H enc W fuel cs x h _=>by
  obtain ⟨m,rfl,rfl,hw⟩:=DataW.trod_int ht h
  exact ⟨m,rfl,hw⟩⟩
theorem Opn.bool {P:Program} {t:TypeId} (hc:P.cellsOf t = 1) (ht:P.underlying t = some .bool):Opn P t Kd.bool (fun _=>True):=
 ⟨hc,fun H enc W fuel cs x h _=>by
  obtain ⟨m,rfl,rfl⟩:=DataW.trod_bool ht h
  exact ⟨m,rfl,trivial⟩⟩
theorem weightsAll_mem {H:Type} {P:Program} {e:TypeId}:∀ {l:List (DataW H)} {d:DataW H},d ∈ l -> ∀ n ∈ d.weights P e,n ∈ DataW.weightsAll P e l
 | _ :: r,d,h,n,hn=>by
  simp only [DataW.weightsAll,List.mem_append]
  rcases List.mem_cons.1 h with rfl|h
  .
   exact .inl hn
  .
   exact .inr (weightsAll_mem h n hn)
theorem Opn.slice {α:Type} (z:α) {P:Program} {t e:TypeId} {d:Kd α} {wf:α -> Prop} {B:Nat} (hc:P.cellsOf t = 1) (ht:P.underlying t = some (.slice e)) (hB:P.bytesOf e = B) (h:Opn P e d wf) :
  Opn P t (Kd.slice e d) (fun xs=>xs.length <= maxLen /\ xs.length * B <= 140737488351232 /\ ∀ y ∈ xs,wf y):=
 ⟨hc,fun H enc W fuel cs x hf hw=>by
  haveI:Inhabited α:=⟨z⟩
  rcases open_slice ht hf with ⟨rfl,rfl⟩|⟨a,len,cap,m,n,D,Pl,rfl,_,hl,hm,hmm,rfl,each⟩
  .
   exact ⟨[],⟨none,0,rfl,Nat.le_refl _,rfl,by simp,fun h=>absurd h (Nat.lt_irrefl 0)⟩,by simp,by simp,by simp⟩
  .
   rw [if_pos rfl] at hmm
   subst hmm
   have hw0:∀ n ∈ DataW.weights P t (DataW.slice (H:=H) ((List.range len).map D) ((List.range (m - len)).map fun j=>D (len + j))),n <= reachBytes:=hw
   have hww:∀ i,i < len -> ∀ n ∈ (D i).weights P e,n <= reachBytes:=by
    intro i hi n hn
    refine hw0 n ?_
    simp only [DataW.weights,ht,List.mem_cons,List.mem_append]
    exact .inr (.inl (weightsAll_mem (List.mem_map.2 ⟨i,List.mem_range.2 hi,rfl⟩) n hn))
   have hB2:len * B <= 140737488351232:=by
    have:=hw0 ((len + (m - len)) * B) (by simp [DataW.weights,ht,hB])
    refine Nat.le_trans (Nat.mul_le_mul_right _ (by omega)) this
   have hx:∀ i,i < len -> ∃ y,∃ c:List Value,c.length = d.sz /\ d.K W y c /\ wf y /\ ∀ j u,c[j]? = some u -> W.cell? (a.add (i * d.sz + j)) = some u:=by
    intro i hi
    obtain ⟨cs',h1,h2⟩:=each i (by omega)
    obtain ⟨y,hy,hwy⟩:=h.2 H enc W n cs' _ h2 (hww i hi)
    obtain ⟨_,hlen,hcell⟩:=World.cells?_some h1
    rw [h.1] at hlen hcell
    refine ⟨y,cs',hlen,hy,hwy,fun j u hu=>?_⟩
    have hj:j < d.sz:=by
     have:=(List.getElem?_eq_some_iff.1 hu).1
     omega
    have:=hcell j hj
    rw [add_add] at this
    exact this.trans hu
   obtain ⟨f,hf'⟩:=choose_lt hx
   refine ⟨(List.range len).map f,⟨some a,m,by simp,by simpa using hl,by simp,by simp only [maxLen] at hm;simp;omega,fun _=>⟨a,rfl,fun j p hj=>?_⟩⟩,?_,?_,?_⟩
   .
    rw [List.getElem?_map] at hj
    have hj':j < len:=by
     by_cases hjl:j < len
     .
      exact hjl
     .
      rw [List.getElem?_eq_none (by simp;omega)] at hj
      cases hj
    rw [List.getElem?_range hj'] at hj
    obtain rfl:=Option.some.inj hj
    obtain ⟨c,h1,h2,_,h3⟩:=hf' j hj'
    exact ⟨c,h1,h2,h3⟩
   .
    simp;omega
   .
    simpa using hB2
   .
    intro y hy
    obtain ⟨i,hi,rfl⟩:=List.mem_map.1 hy
    obtain ⟨c,_,_,h2,_⟩:=hf' i (List.mem_range.1 hi)
    exact h2⟩
def FOpn {α:Type} (P:Program) (fs:List Field) (off:Nat) (d:Kd α) (wf:α -> Prop):Prop:=
 ∀ (H:Type) (enc:TypeId × Value -> H) (W:World) (fuel:Nat) (cs:List Value) (xs:List (DataW H × List MemPlace)),
  xs.length = fs.length -> (∀ (i:Nat) (f:Field),fs[i]? = some f -> DataW.trod enc P W 0 (fun _=>true) true fuel f.type ((cs.drop f.offset).take (P.cellsOf f.type)) = xs[i]?) ->
  (∀ n ∈ DataW.weightsEach P (fs.map (·.type)) (xs.map (·.1)),n <= reachBytes) -> ∃ y,d.K W y ((cs.drop off).take d.sz) /\ wf y
theorem FOpn.one {α:Type} {P:Program} {f:Field} {off:Nat} {d:Kd α} {wf:α -> Prop} (ho:f.offset = off) (h:Opn P f.type d wf):FOpn P [f] off d wf:=by
 intro H enc W fuel cs xs hl hx hw
 match xs,hl with
 | [x],_=>
  have h0:=hx 0 f rfl
  rw [ho,h.1] at h0
  exact h.2 H enc W fuel _ x h0 (fun n hn=>hw n (by simp only [List.map,DataW.weightsEach,List.mem_append];exact .inl hn))
theorem FOpn.cons {α β:Type} {P:Program} {f:Field} {fs:List Field} {off:Nat} {d:Kd α} {d':Kd β} {wf:α -> Prop} {wf':β -> Prop} (ho:f.offset = off) (h:Opn P f.type d wf) (h':FOpn P fs (off + d.sz) d' wf') :
  FOpn P (f :: fs) off (Kd.pair d d') (fun x=>wf x.1 /\ wf' x.2):=by
 intro H enc W fuel cs xs hl hx hw
 match xs,hl with
 | x :: xs,hl=>
  have h0:=hx 0 f rfl
  rw [ho,h.1] at h0
  have hw':∀ n ∈ x.1.weights P f.type ++ DataW.weightsEach P (fs.map (·.type)) (xs.map (·.1)),n <= reachBytes:=hw
  obtain ⟨y,hy,hwy⟩:=h.2 H enc W fuel _ x h0 (fun n hn=>hw' n (List.mem_append_left _ hn))
  obtain ⟨y',hy',hwy'⟩:=h' H enc W fuel cs xs (by simpa using hl) (fun i f' hf'=>hx (i + 1) f' (by simpa using hf')) (fun n hn=>hw' n (List.mem_append_right _ hn))
  refine ⟨(y,y'),⟨_,_,?_,hy,hy'⟩,hwy,hwy'⟩
  show (cs.drop off).take (d.sz + d'.sz) = _
  rw [List.take_add,List.drop_drop]
theorem par_weights {H:Type} {P:Program} {ts:List TypeId} {ds:List (DataW H)} {j:Nat} {t:TypeId} {d:DataW H} (h:(DataW.weightsEach P ts ds).all (· <= reachBytes) = true) (ht:ts[j]? = some t) (hd:ds[j]? = some d) :
  ∀ n ∈ d.weights P t,n <= reachBytes:=fun n hn=>of_decide_eq_true (List.all_eq_true.1 h n (DataW.weights_mem_each ht hd n hn))
theorem par_slice {α:Type} {H:Type} {enc:TypeId × Value -> H} {P:Program} {W:World} {r:Reach} {b0:Nat} {t e:TypeId} {d:Kd α} {wf:List α -> Prop} {v:Value} {D:DataW H} {ps:List MemPlace}
  (ht:P.underlying t = some (.slice e)) (ho:Opn P t (Kd.slice e d) wf) (hv:Value.okWide P W r b0 t v) (hd:DataW.Trod enc P W 0 (fun _=>true) true t v D ps) (hw:∀ n ∈ D.weights P t,n <= reachBytes) :
  ∃ (A:Option Addr) (l:List α) (c:Nat),v = .slice A l.length c /\ l.length <= c /\ d.C W A l.length l /\ wf l:=by
 obtain ⟨A,len,cap,rfl⟩:=okWide_slice ht hv
 obtain ⟨fuel,hf⟩:=hd
 obtain ⟨l,⟨A',c,he,hl,hC⟩,hwl⟩:=ho.2 H enc W fuel _ _ hf hw
 have he':[Value.slice A len cap] = [.slice A' l.length c]:=he
 simp only [List.cons.injEq,Value.slice.injEq,and_true] at he'
 obtain ⟨rfl,rfl,rfl⟩:=he'
 exact ⟨_,l,_,rfl,hl,hC,hwl⟩
end Go.Proofs.YthmjimboajmhmaaW.Opens

namespace Go.Proofs.Ythmjimboajmhmaa.Pr.Pure
open Go.RowKit Go.Proofs.YthmjimboajmhmaaW.PrintWords Go.Proofs.YthmjimboajmhmaaW.PrintLast Go.Proofs.YthmjimboajmhmaaW.PrintMore
set_option linter.unusedVariables false
set_option linter.unusedSimpArgs false
theorem own_eq (l:List S37) (v d:List Bool) (p t:Int) (hl:l.length <= 1000000) (hv:v.length <= 1000000) (hd:d.length <= 1000000):spec_l25Own.f l v d p t = some (l,v,d,p,t):=by
 unfold spec_l25Own.f
 simp only [Option.bind_some,List.nil_append,List.length_nil,Nat.zero_add]
 rw [if_pos (by omega),if_pos (by omega),if_pos (by omega)]
theorem clone_eq (l:List S37) (v d:List Bool) (p t:Int) (hl:l.length <= 1000000) (hv:v.length <= 1000000) (hd:d.length <= 1000000):impl_Exploration_clone.f l v d p t = some (l,v,d,p,t):=by
 unfold impl_Exploration_clone.f impl_Leg_87.f slices_Clone_bool_bool.f
 rw [if_pos (by omega),if_pos (by omega),if_pos (by omega)]
 rfl
theorem go_moves {l:List S37} {v d:List Bool} {p t a b tp c s m:Int} (h:a = p \/ b = p) (h0:0 <= wrap64 (wrap64 (a + b) - p)) (h1:wrap64 (wrap64 (a + b) - p) < (v.length:Int)) :
  spec_l25Go.f l v d p t a b tp c s m = some (l,v.set (wrap64 (wrap64 (a + b) - p)).toNat true,d,wrap64 (wrap64 (a + b) - p),wrap64 (t - m),true):=by
 unfold spec_l25Go.f
 by_cases q:a = p
 .
  rw [if_pos q,if_pos h0,if_pos h1]
 .
  rw [if_neg q,if_pos (h.resolve_left q),if_pos h0,if_pos h1]
theorem go_not {l:List S37} {v d:List Bool} {p t a b tp c s m:Int} (ha:a ≠ p) (hb:b ≠ p):spec_l25Go.f l v d p t a b tp c s m = some (l,v,d,p,t,false):=by
 unfold spec_l25Go.f
 rw [if_neg ha,if_neg hb]
def Steps (K:Nat) (l:List S37) (v d:List Bool) (p t k i a b tp c s:Int):Prop:=
 ∃ L V D P T q,spec_l25Make.f K l v d p t k i a b tp c s = some (L,V,D,P,T,q) /\ impl_walkOn.f K l v d p t k i a b tp c s = some (if q = true then (L,V,D,P,T,true) else ([],[],[],0,0,false)) /\ L.length <= 13 /\ V.length = 8 /\ D.length = 8 /\ (q = true -> ExplOk L V D P T)
theorem zero_leg (k i:Int) (h2:k ≠ 2) (h3:k = 3 -> i = 0):¬ ((k ≠ 2 /\ ¬ ((0:Int) = 0 /\ (0:Int) = 0 /\ (0:Int) = 0 /\ (0:Int) = 0 /\ (0:Int) = 0)) \/ ((k = 2 \/ k = 3) /\ i ≠ 0)):=by
 rintro (⟨_,z⟩|⟨z|z,zi⟩)
 .
  exact z ⟨rfl,rfl,rfl,rfl,rfl⟩
 .
  exact h2 z
 .
  exact zi (h3 z)
theorem walkOn_of {K:Nat} {l L:List S37} {v d V D:List Bool} {p t k i a b tp c s P T:Int} {q:Bool} (hl:l.length <= 1000000) (hv:v.length <= 1000000) (hd:d.length <= 1000000) (hw:walk_f l v d p t k i a b tp c s = some (L,V,D,P,T,true)) (hq:impl_IsExploration.f K L V D P T = some q) :
  impl_walkOn.f K l v d p t k i a b tp c s = some (if q = true then (L,V,D,P,T,true) else ([],[],[],0,0,false)):=by
 unfold impl_walkOn.f
 rw [clone_eq l v d p t hl hv hd]
 simp only [Option.bind_some]
 rw [hw]
 simp only [Option.bind_some,if_true]
 rw [hq]
 simp only [Option.bind_some]
 cases q <;> rfl
theorem walkOn_no {K:Nat} {l L:List S37} {v d V D:List Bool} {p t k i a b tp c s P T:Int} (hl:l.length <= 1000000) (hv:v.length <= 1000000) (hd:d.length <= 1000000) (hw:walk_f l v d p t k i a b tp c s = some (L,V,D,P,T,false)) :
  impl_walkOn.f K l v d p t k i a b tp c s = some ([],[],[],0,0,false):=by
 unfold impl_walkOn.f
 rw [clone_eq l v d p t hl hv hd]
 simp only [Option.bind_some]
 rw [hw]
 simp only [Option.bind_some,Bool.false_eq_true,if_false]
theorem make1 {l:List S37} {v d:List Bool} {p t:Int} (g:ExplOk l v d p t) {i:Int} (h0:0 <= i) (h1:i < (l.length:Int)) {K:Nat} (hK:450 <= K):Steps K l v d p t 1 i 0 0 0 0 0:=by
 have hlen:=g.len
 have hv:=g.hv
 have hd:=g.hd
 obtain ⟨p0,p1⟩:=g.hp
 obtain ⟨⟨a0,a1⟩,⟨b0,b1⟩,_,⟨c0,c1⟩,_,_⟩:=g.legs _ (rdLeg_mem h0 h1)
 have hin:0 <= i /\ i <= wrap64 ((l.length:Int) - 1):=⟨h0,by unfold wrap64;omega⟩
 have hs0:spec_l25Make.f K l v d p t 1 i 0 0 0 0 0 = (spec_l25Go.f l v d p t (rd_T37 l i).f0 (rd_T37 l i).f1 (rd_T37 l i).f2 (rd_T37 l i).f3 (rd_T37 l i).f4 (rd_T37 l i).f2).bind fun r=>if r.2.2.2.2.2 = true then (spec_l25Good.f K r.1 r.2.1 r.2.2.1 r.2.2.2.1 r.2.2.2.2.1).bind fun x=>some (r.1,r.2.1,r.2.2.1,r.2.2.2.1,r.2.2.2.2.1,x) else some (r.1,r.2.1,r.2.2.1,r.2.2.2.1,r.2.2.2.2.1,false):=by
  unfold spec_l25Make.f
  rw [own_eq l v d p t (by omega) (by omega) (by omega)]
  simp only [Option.bind_some]
  rw [if_pos trivial,if_pos h0,if_pos h1]
 have hw0:walk_f l v d p t 1 i 0 0 0 0 0 = if (rd_T37 l i).f0 ≠ p /\ (rd_T37 l i).f1 ≠ p then some (l,v,d,p,t,false) else if 0 <= wrap64 (wrap64 ((rd_T37 l i).f0 + (rd_T37 l i).f1) - p) /\ wrap64 (wrap64 ((rd_T37 l i).f0 + (rd_T37 l i).f1) - p) < (v.length:Int) then some (l,v.set (wrap64 (wrap64 ((rd_T37 l i).f0 + (rd_T37 l i).f1) - p)).toNat true,d,wrap64 (wrap64 ((rd_T37 l i).f0 + (rd_T37 l i).f1) - p),wrap64 (t - wrap64 (1 * (rd_T37 l i).f2)),true) else none:=by
  unfold walk_f
  rw [if_neg (zero_leg 1 i (by decide) (fun z=>absurd z (by decide))),if_pos rfl,if_pos hin]
 generalize rd_T37 l i = y at *
 by_cases hn:y.f0 ≠ p /\ y.f1 ≠ p
 .
  rw [if_pos hn] at hw0
  rw [go_not hn.1 hn.2] at hs0
  simp only [Option.bind_some,Bool.false_eq_true,if_false] at hs0
  exact ⟨_,_,_,_,_,false,hs0,walkOn_no (by omega) (by omega) (by omega) hw0,by omega,hv,hd,fun z=>by cases z⟩
 .
  have hor:y.f0 = p \/ y.f1 = p:=by
   by_cases z:y.f0 = p
   .
    exact .inl z
   .
    exact .inr (Classical.byContradiction fun z2=>hn ⟨z,z2⟩)
  have e0:0 <= wrap64 (wrap64 (y.f0 + y.f1) - p):=by unfold wrap64;omega
  have e1:wrap64 (wrap64 (y.f0 + y.f1) - p) < (v.length:Int):=by unfold wrap64;omega
  have et:wrap64 (1 * y.f2) = y.f2:=by unfold wrap64;omega
  rw [if_neg hn,if_pos ⟨e0,e1⟩,et] at hw0
  rw [go_moves hor e0 e1] at hs0
  obtain ⟨b,g1,g2,g3⟩:=good_eq l (by omega) (v.set (wrap64 (wrap64 (y.f0 + y.f1) - p)).toNat true) d (wrap64 (wrap64 (y.f0 + y.f1) - p)) (wrap64 (t - y.f2)) (k:=K) (by omega)
  simp only [Option.bind_some,if_true] at hs0
  rw [g1,Option.bind_some] at hs0
  exact ⟨_,_,_,_,_,b,hs0,walkOn_of (by omega) (by omega) (by omega) hw0 g2,by omega,by rw [List.length_set];exact hv,hd,fun z=>g3.1 z⟩
theorem make2 {l:List S37} {v d:List Bool} {p t:Int} (g:ExplOk l v d p t) {a b tp c s:Int} (hx:LegOk ⟨a,b,tp,c,s⟩) {K:Nat} (hK:450 <= K):Steps K l v d p t 2 0 a b tp c s:=by
 have hlen:=g.len
 have hv:=g.hv
 have hd:=g.hd
 obtain ⟨p0,p1⟩:=g.hp
 have hle:spec_l4Leg.f a b tp c s = some true:=by
  obtain ⟨r,h1,h2⟩:=leg_spec ⟨a,b,tp,c,s⟩
  rw [h2.2 hx] at h1
  exact h1
 have hli:impl_IsLeg.f a b tp c s = some true:=by rw [leg_impl];exact hle
 obtain ⟨⟨a0,a1⟩,⟨b0,b1⟩,hne,⟨c0,c1⟩,_,_⟩:=hx
 simp only at a0 a1 b0 b1 c0 c1 hne
 have c0':¬ (((2:Int) ≠ 2 /\ ¬ (a = 0 /\ b = 0 /\ tp = 0 /\ c = 0 /\ s = 0)) \/ (((2:Int) = 2 \/ (2:Int) = 3) /\ (0:Int) ≠ 0)):=by
  rintro (⟨z,_⟩|⟨_,z⟩)
  .
   exact z rfl
  .
   exact z rfl
 have hs0:spec_l25Make.f K l v d p t 2 0 a b tp c s = (spec_l25Go.f (l ++ [⟨a,b,tp,c,s⟩]) v d p t a b tp c s (wrap64 (3 * tp))).bind fun r=>if a = p then (spec_l25Good.f K r.1 r.2.1 r.2.2.1 r.2.2.2.1 r.2.2.2.2.1).bind fun x=>some (r.1,r.2.1,r.2.2.1,r.2.2.2.1,r.2.2.2.2.1,x) else some (r.1,r.2.1,r.2.2.1,r.2.2.2.1,r.2.2.2.2.1,false):=by
  unfold spec_l25Make.f
  rw [own_eq l v d p t (by omega) (by omega) (by omega)]
  simp only [Option.bind_some]
  rw [if_neg (by decide),if_pos trivial,if_pos (by omega)]
 have hw0:walk_f l v d p t 2 0 a b tp c s = if a = p then (if l.length < 1000000 /\ 0 <= wrap64 (wrap64 (a + b) - p) /\ wrap64 (wrap64 (a + b) - p) < (v.length:Int) then some (l ++ [⟨a,b,tp,c,s⟩],v.set (wrap64 (wrap64 (a + b) - p)).toNat true,d,wrap64 (wrap64 (a + b) - p),wrap64 (t - wrap64 (3 * tp)),true) else none) else some (l,v,d,p,t,false):=by
  unfold walk_f
  rw [if_neg c0',if_neg (by decide),if_pos rfl,hli,Option.bind_some]
  by_cases q:a = p
  .
   rw [if_pos ⟨rfl,q⟩,if_pos q]
  .
   rw [if_neg (fun z=>q z.2),if_neg q]
 have hl13:(l ++ [(⟨a,b,tp,c,s⟩:S37)]).length = l.length + 1:=by rw [List.length_append];rfl
 by_cases hap:a = p
 .
  have e0:0 <= wrap64 (wrap64 (a + b) - p):=by unfold wrap64;omega
  have e1:wrap64 (wrap64 (a + b) - p) < (v.length:Int):=by unfold wrap64;omega
  rw [if_pos hap,if_pos ⟨by omega,e0,e1⟩] at hw0
  rw [go_moves (.inl hap) e0 e1] at hs0
  obtain ⟨q,g1,g2,g3⟩:=good_eq (l ++ [⟨a,b,tp,c,s⟩]) (by omega) (v.set (wrap64 (wrap64 (a + b) - p)).toNat true) d (wrap64 (wrap64 (a + b) - p)) (wrap64 (t - wrap64 (3 * tp))) (k:=K) (by omega)
  simp only [Option.bind_some,if_pos hap] at hs0
  rw [g1,Option.bind_some] at hs0
  exact ⟨_,_,_,_,_,q,hs0,walkOn_of (by omega) (by omega) (by omega) hw0 g2,by omega,by rw [List.length_set];exact hv,hd,fun z=>g3.1 z⟩
 .
  rw [if_neg hap] at hw0
  have hi:=walkOn_no (K:=K) (by omega) (by omega) (by omega) hw0
  by_cases hbp:b = p
  .
   have e0:0 <= wrap64 (wrap64 (a + b) - p):=by unfold wrap64;omega
   have e1:wrap64 (wrap64 (a + b) - p) < (v.length:Int):=by unfold wrap64;omega
   rw [go_moves (.inr hbp) e0 e1] at hs0
   simp only [Option.bind_some,if_neg hap] at hs0
   exact ⟨_,_,_,_,_,false,hs0,hi,by omega,by rw [List.length_set];exact hv,hd,fun z=>by cases z⟩
  .
   rw [go_not hap hbp] at hs0
   simp only [Option.bind_some,if_neg hap] at hs0
   exact ⟨_,_,_,_,_,false,hs0,hi,by omega,hv,hd,fun z=>by cases z⟩
theorem make3 {l:List S37} {v d:List Bool} {p t:Int} (g:ExplOk l v d p t) {K:Nat} (hK:450 <= K):Steps K l v d p t 3 0 0 0 0 0 0:=by
 have hlen:=g.len
 have hv:=g.hv
 have hd:=g.hd
 obtain ⟨p0,p1⟩:=g.hp
 have hpd:p < (d.length:Int):=by omega
 have hs0:spec_l25Make.f K l v d p t 3 0 0 0 0 0 0 = if rdOf false d p = true then some (l,v,d.set p.toNat true,p,t,false) else (spec_l25Good.f K l v (d.set p.toNat true) p t).bind fun x=>some (l,v,d.set p.toNat true,p,t,x):=by
  unfold spec_l25Make.f
  rw [own_eq l v d p t (by omega) (by omega) (by omega)]
  simp only [Option.bind_some]
  rw [if_neg (by decide),if_neg (by decide),if_pos trivial,if_pos p0,if_pos hpd,if_pos hpd]
 have hw0:walk_f l v d p t 3 0 0 0 0 0 0 = if rdOf false d p = true then some (l,v,d,p,t,false) else some (l,v,d.set p.toNat true,p,t,true):=by
  unfold walk_f
  rw [if_neg (zero_leg 3 0 (by decide) (fun _=>rfl)),if_neg (by decide),if_neg (by decide),if_pos rfl,if_pos ⟨p0,hpd⟩]
 by_cases q:rdOf false d p = true
 .
  rw [if_pos q] at hs0 hw0
  exact ⟨_,_,_,_,_,false,hs0,walkOn_no (by omega) (by omega) (by omega) hw0,by omega,hv,by rw [List.length_set];exact hd,fun z=>by cases z⟩
 .
  rw [if_neg q] at hs0 hw0
  obtain ⟨b,g1,g2,g3⟩:=good_eq l (by omega) v (d.set p.toNat true) p t (k:=K) (by omega)
  rw [g1,Option.bind_some] at hs0
  exact ⟨_,_,_,_,_,b,hs0,walkOn_of (by omega) (by omega) (by omega) hw0 g2,by omega,hv,by rw [List.length_set];exact hd,fun z=>g3.1 z⟩
theorem make4 {l:List S37} {v d:List Bool} {p t:Int} (g:ExplOk l v d p t) {i:Int} (h1:1 <= i) (h2:i <= 1000) {K:Nat} (hK:450 <= K):Steps K l v d p t 4 i 0 0 0 0 0:=by
 have hlen:=g.len
 have hv:=g.hv
 have hd:=g.hd
 have hs0:spec_l25Make.f K l v d p t 4 i 0 0 0 0 0 = if p = 0 then (spec_l25Good.f K l v d p (wrap64 (t + i))).bind fun x=>some (l,v,d,p,wrap64 (t + i),x) else some (l,v,d,p,wrap64 (t + i),false):=by
  unfold spec_l25Make.f
  rw [own_eq l v d p t (by omega) (by omega) (by omega)]
  simp only [Option.bind_some]
  rw [if_neg (by decide),if_neg (by decide),if_neg (by decide)]
 have hw0:walk_f l v d p t 4 i 0 0 0 0 0 = if p = 0 /\ 1 <= i /\ i <= 1000 then some (l,v,d,p,wrap64 (t + i),true) else some (l,v,d,p,t,false):=by
  unfold walk_f
  rw [if_neg (zero_leg 4 i (by decide) (fun z=>absurd z (by decide))),if_neg (by decide),if_neg (by decide),if_neg (by decide),if_pos rfl]
 by_cases q:p = 0
 .
  rw [if_pos q] at hs0
  rw [if_pos ⟨q,h1,h2⟩] at hw0
  obtain ⟨b,g1,g2,g3⟩:=good_eq l (by omega) v d p (wrap64 (t + i)) (k:=K) (by omega)
  rw [g1,Option.bind_some] at hs0
  exact ⟨_,_,_,_,_,b,hs0,walkOn_of (by omega) (by omega) (by omega) hw0 g2,by omega,hv,hd,fun z=>g3.1 z⟩
 .
  rw [if_neg q] at hs0
  rw [if_neg (fun z=>q z.1)] at hw0
  exact ⟨_,_,_,_,_,false,hs0,walkOn_no (by omega) (by omega) (by omega) hw0,by omega,hv,hd,fun z=>by cases z⟩
end Go.Proofs.Ythmjimboajmhmaa.Pr.Pure

namespace Go.Proofs.Ythmjimboajmhmaa.Pr.Pure
open Go.RowKit Go.Proofs.YthmjimboajmhmaaW.PrintWords Go.Proofs.YthmjimboajmhmaaW.PrintLast Go.Proofs.YthmjimboajmhmaaW.PrintMore Go.Proofs.YthmjimboajmhmaaW.Opens
set_option linter.unusedVariables false
set_option linter.unusedSimpArgs false
theorem lead_val {v:List Bool} (hv:v.length = 8) {y:S37} (h:LegOk y) (s:Int):lead1_ v s y = some ((decide (y.f0 = s) && !rdOf false v y.f1) || (decide (y.f1 = s) && !rdOf false v y.f0)):=by
 obtain ⟨⟨a0,a1⟩,⟨b0,b1⟩,hne,_⟩:=h
 unfold lead1_
 by_cases q0:y.f0 = s
 .
  have q1:¬ y.f1 = s:=fun z=>hne (q0.trans z.symm)
  have e:wrap64 (wrap64 (y.f0 + y.f1) - s) = y.f1:=by unfold wrap64;omega
  rw [if_pos (.inl q0),e,if_pos ⟨b0,by omega⟩,decide_eq_true q0,decide_eq_false q1]
  simp
 .
  by_cases q1:y.f1 = s
  .
   have e:wrap64 (wrap64 (y.f0 + y.f1) - s) = y.f0:=by unfold wrap64;omega
   rw [if_pos (.inr q1),e,if_pos ⟨a0,by omega⟩,decide_eq_true q1,decide_eq_false q0]
   simp
  .
   rw [if_neg (fun z=>z.elim q0 q1),decide_eq_false q0,decide_eq_false q1]
   rfl
theorem inner_loop {l:List S37} {v d:List Bool} {p t:Int} (g:ExplOk l v d p t) (acc:List Int) (s:Int) (n:Nat):∀ (k i:Nat) (o:Bool),i + n = l.length ->
  spec_OpenLeads.l1 (k + n) acc s o (i:Int) l v d p t = spec_OpenLeads.l1 k acc s (o && !(l.drop i).any (fun y=>(lead1_ v s y).getD false)) (l.length:Int) l v d p t:=by
 have hv:=g.hv
 have hlen:=g.len
 induction n with
 | zero=>
  intro k i o hi
  rw [List.drop_of_length_le (by omega)]
  simp only [List.any_nil,Bool.not_false,Bool.and_true,Nat.add_zero]
  rw [show i = l.length by omega]
 | succ n ih=>
  intro k i o hi
  have hy:LegOk (rd_T37 l (i:Int)):=g.legs _ (rdLeg_mem (by omega) (by omega))
  have hlt:(i:Int) < (l.length:Int):=by omega
  have h0:(0:Int) <= (i:Int):=by omega
  have hw:wrap64 ((i:Int) + 1) = ((i + 1:Nat):Int):=by unfold wrap64;omega
  have hlv:=lead_val hv hy s
  rw [drop_rdLeg l i (by omega),List.any_cons,hlv,<- Nat.add_assoc]
  simp only [spec_OpenLeads.l1,if_pos hlt,if_pos h0,hw,Option.getD_some]
  generalize rd_T37 l (i:Int) = y at *
  obtain ⟨⟨a0,a1⟩,⟨b0,b1⟩,hne,_⟩:=hy
  have a2:y.f0 < (v.length:Int):=by omega
  have b2:y.f1 < (v.length:Int):=by omega
  by_cases q0:y.f0 = s
  .
   have q1:¬ y.f1 = s:=fun z=>hne (q0.trans z.symm)
   rw [if_pos q0,if_pos b0,if_pos b2,if_neg q1,decide_eq_true q0,decide_eq_false q1,ih k (i + 1) o (by omega),ih k (i + 1) false (by omega)]
   cases rdOf false v y.f1 <;> simp
  .
   by_cases q1:y.f1 = s
   .
    rw [if_neg q0,if_pos q1,if_pos a0,if_pos a2,decide_eq_false q0,decide_eq_true q1,ih k (i + 1) o (by omega),ih k (i + 1) false (by omega)]
    cases rdOf false v y.f0 <;> simp
   .
    rw [if_neg q0,if_neg q1,decide_eq_false q0,decide_eq_false q1,ih k (i + 1) o (by omega)]
    simp
theorem open_loop {l:List S37} {v d:List Bool} {p t:Int} (g:ExplOk l v d p t) (n:Nat):∀ (k i:Nat) (acc:List Int),i + n = d.length -> 20 * n + 5 < k -> acc.length <= i ->
  ∃ r,spec_OpenLeads.l0 k acc (i:Int) l v d p t = some (r,true) /\ leadsF_ l v (d.drop i) (i:Int) acc = some r /\ r.length <= d.length:=by
 have hlen:=g.len
 have hd:=g.hd
 have hv:=g.hv
 induction n with
 | zero=>
  intro k i acc hi hk ha
  obtain ⟨k,rfl⟩:∃ m,k = m + 1:=⟨k - 1,by omega⟩
  rw [List.drop_of_length_le (by omega)]
  simp only [spec_OpenLeads.l0,leadsF_]
  rw [if_neg (by omega)]
  exact ⟨_,rfl,rfl,by omega⟩
 | succ n ih=>
  intro k i acc hi hk ha
  obtain ⟨k,rfl⟩:∃ m,k = (m + 1 + l.length) + 1:=⟨k - l.length - 2,by omega⟩
  have hlt:(i:Int) < (d.length:Int):=by omega
  have h0:(0:Int) <= (i:Int):=by omega
  have hac:acc.length < 17592186044416:=by omega
  have hw:wrap64 ((i:Int) + 1) = ((i + 1:Nat):Int):=by unfold wrap64;omega
  have ed:d.drop i = rdOf false d (i:Int) :: d.drop (i + 1):=by
   rw [List.drop_eq_getElem_cons (by omega)]
   unfold rdOf
   rw [Int.toNat_natCast,List.getD_eq_getElem?_getD,List.getElem?_eq_getElem (by omega)]
   rfl
  have hall:l.all (fun y=>(lead1_ v (i:Int) y).isSome) = true:=by
   rw [List.all_eq_true]
   intro y hy
   rw [lead_val hv (g.legs y hy)]
   rfl
  have hin:=inner_loop g acc (i:Int) l.length (k + 1) 0 (rdOf false d (i:Int)) (by omega)
  rw [ed]
  simp only [spec_OpenLeads.l0,leadsF_]
  rw [if_pos hlt,if_pos h0,if_pos ⟨hall,by omega⟩,hw,show (0:Int) = ((0:Nat):Int) from rfl,hin,List.drop_zero]
  simp only [spec_OpenLeads.l1]
  rw [if_neg (by omega),hw]
  by_cases q:(rdOf false d (i:Int) && !l.any (fun y=>(lead1_ v (i:Int) y).getD false)) = true
  .
   rw [if_pos q,if_pos q,if_pos hac]
   exact ih k (i + 1) (acc ++ [(i:Int)]) (by omega) (by omega) (by rw [List.length_append];simp only [List.length_cons,List.length_nil];omega)
  .
   rw [if_neg q,if_neg q]
   exact ih k (i + 1) acc (by omega) (by omega) (by omega)
theorem visited_l0 (l:List S37) (hl:LegsOk l) (hn:l.length <= 12) (v d:List Bool) (hv:v.length = 8) (p t:Int) (n:Nat):∀ (k:Nat) (s i:Int),0 <= i -> i + n = l.length -> n < k ->
  ∃ r,spec_VisitedLength.l0 k s i l v d p t = some (r,true) /\ impl_VisitedLength.l0 k s l (l.length:Int) i l v d p t = some (r,true):=by
 induction n with
 | zero=>
  intro k s i h0 hi hk
  obtain ⟨k,rfl⟩:∃ m,k = m + 1:=⟨k - 1,by omega⟩
  simp only [spec_VisitedLength.l0,impl_VisitedLength.l0]
  rw [if_neg (by omega),if_neg (by omega)]
  exact ⟨s,rfl,rfl⟩
 | succ n ih=>
  intro k s i h0 hi hk
  obtain ⟨k,rfl⟩:∃ m,k = m + 1:=⟨k - 1,by omega⟩
  have hg:=hl _ (rdLeg_mem (l:=l) (i:=i) (by omega) (by omega))
  simp only [spec_VisitedLength.l0,impl_VisitedLength.l0]
  generalize rd_T37 l i = g at hg
  obtain ⟨g00,g01⟩:=hg.1
  obtain ⟨g10,g11⟩:=hg.2.1
  have c1:i < (l.length:Int):=by omega
  have c2:g.f0 < (v.length:Int):=by omega
  have c3:g.f1 < (v.length:Int):=by omega
  simp only [if_pos c1,if_pos h0,if_pos g00,if_pos c2,if_pos g10,if_pos c3,w64 (x:=i + 1) (by omega) (by omega)]
  cases rdOf false v g.f0 with
  | false=>
   simp only [Bool.false_eq_true,if_false]
   exact ih k s (i + 1) (by omega) (by omega) (by omega)
  | true=>
   cases rdOf false v g.f1 with
   | false=>
    simp only [Bool.false_eq_true,if_false,if_true]
    exact ih k s (i + 1) (by omega) (by omega) (by omega)
   | true=>
    simp only [if_true]
    exact ih k _ (i + 1) (by omega) (by omega) (by omega)
theorem visitedLength_both (l:List S37) (hl:l.length <= 4611686018427387904) (v d:List Bool) (p t:Int) {k:Nat} (hk:l.length + 410 <= k) :
  ∃ r b,spec_VisitedLength.f k l v d p t = some (r,b) /\ impl_VisitedLength.f k l v d p t = some (r,b):=by
 obtain ⟨b,e1,e2,hi⟩:=good_eq l hl v d p t hk
 unfold spec_VisitedLength.f impl_VisitedLength.f
 rw [e1,e2]
 cases b with
 | false=>exact ⟨0,false,rfl,rfl⟩
 | true=>
  have h:=hi.1 rfl
  simp only [Option.bind_some,if_true]
  obtain ⟨r,h1,h2⟩:=visited_l0 l h.legs h.len v d h.hv p t l.length k 0 0 (by omega) (by omega) (by omega)
  exact ⟨r,true,h1,h2⟩
theorem zeros_dec (a b tp c s:Int):(a == 0 && (b == 0 && (tp == 0 && (c == 0 && (s == 0))))) = decide (a = 0 /\ b = 0 /\ tp = 0 /\ c = 0 /\ s = 0):=by
 rw [Bool.eq_iff_iff]
 simp
theorem walk_valid (K:Nat) {l:List S37} {v d:List Bool} {p t:Int} (g:ExplOk l v d p t) (k i a b tp c s:Int) :
  ∃ q,spec_l25Walk.f l v d p t k i a b tp c s = some q /\ (q = true -> (k = 1 /\ 0 <= i /\ i < (l.length:Int) /\ a = 0 /\ b = 0 /\ tp = 0 /\ c = 0 /\ s = 0) \/ (k = 2 /\ i = 0 /\ LegOk ⟨a,b,tp,c,s⟩) \/ (k = 3 /\ i = 0 /\ a = 0 /\ b = 0 /\ tp = 0 /\ c = 0 /\ s = 0) \/ (k = 4 /\ 1 <= i /\ i <= 1000 /\ a = 0 /\ b = 0 /\ tp = 0 /\ c = 0 /\ s = 0)) /\ (q = false -> impl_walkOn.f K l v d p t k i a b tp c s = some ([],[],[],0,0,false)):=by
 have hlen:=g.len
 have hv:=g.hv
 have hd:=g.hd
 have no:walk_f l v d p t k i a b tp c s = some (l,v,d,p,t,false) -> impl_walkOn.f K l v d p t k i a b tp c s = some ([],[],[],0,0,false):=fun h=>walkOn_no (by omega) (by omega) (by omega) h
 have hw:wrap64 ((l.length:Int) - 1) = (l.length:Int) - 1:=by unfold wrap64;omega
 unfold spec_l25Walk.f
 simp only [zeros_dec]
 by_cases k1:k = 1
 .
  subst k1
  rw [if_pos rfl,l1In_eq,Option.bind_some,hw]
  by_cases hi:0 <= i /\ i <= (l.length:Int) - 1
  .
   rw [if_pos (decide_eq_true hi)]
   refine ⟨_,rfl,fun h=>?_,fun h=>no ?_⟩
   .
    obtain ⟨z1,z2,z3,z4,z5⟩:=of_decide_eq_true h
    exact .inl ⟨rfl,hi.1,by omega,z1,z2,z3,z4,z5⟩
   .
    unfold walk_f
    rw [if_pos (.inl ⟨by decide,of_decide_eq_false h⟩)]
  .
   rw [if_neg (by rw [decide_eq_false hi];decide)]
   refine ⟨_,rfl,(fun h=>by cases h),fun _=>no ?_⟩
   unfold walk_f
   by_cases z:((1:Int) ≠ 2 /\ ¬ (a = 0 /\ b = 0 /\ tp = 0 /\ c = 0 /\ s = 0)) \/ (((1:Int) = 2 \/ (1:Int) = 3) /\ i ≠ 0)
   .
    rw [if_pos z]
   .
    rw [if_neg z,if_pos rfl,hw,if_neg hi]
 rw [if_neg k1]
 by_cases k2:k = 2
 .
  subst k2
  rw [if_pos rfl]
  by_cases hi:i = 0
  .
   subst hi
   obtain ⟨r,h1,h2⟩:=leg_spec ⟨a,b,tp,c,s⟩
   simp only at h1
   rw [if_pos rfl,h1,Option.bind_some]
   refine ⟨_,rfl,fun h=>.inr (.inl ⟨rfl,rfl,h2.1 h⟩),fun h=>no ?_⟩
   unfold walk_f
   rw [if_neg (by rintro (⟨z,_⟩|⟨_,z⟩);exact z rfl;exact z rfl),if_neg (by decide),if_pos rfl,leg_impl,h1,Option.bind_some,if_neg (fun z=>by rw [h] at z;cases z.1)]
  .
   rw [if_neg hi]
   refine ⟨_,rfl,(fun h=>by cases h),fun _=>no ?_⟩
   unfold walk_f
   rw [if_pos (.inr ⟨.inl rfl,hi⟩)]
 rw [if_neg k2]
 by_cases k3:k = 3
 .
  subst k3
  rw [if_pos rfl]
  by_cases hi:i = 0
  .
   rw [if_pos hi]
   refine ⟨_,rfl,fun h=>?_,fun h=>no ?_⟩
   .
    obtain ⟨z1,z2,z3,z4,z5⟩:=of_decide_eq_true h
    exact .inr (.inr (.inl ⟨rfl,hi,z1,z2,z3,z4,z5⟩))
   .
    unfold walk_f
    rw [if_pos (.inl ⟨by decide,of_decide_eq_false h⟩)]
  .
   rw [if_neg hi]
   refine ⟨_,rfl,(fun h=>by cases h),fun _=>no ?_⟩
   unfold walk_f
   rw [if_pos (.inr ⟨.inr rfl,hi⟩)]
 rw [if_neg k3]
 by_cases k4:k = 4
 .
  subst k4
  rw [if_pos rfl,l1In_eq,Option.bind_some]
  by_cases hi:1 <= i /\ i <= 1000
  .
   rw [if_pos (decide_eq_true hi)]
   refine ⟨_,rfl,fun h=>?_,fun h=>no ?_⟩
   .
    obtain ⟨z1,z2,z3,z4,z5⟩:=of_decide_eq_true h
    exact .inr (.inr (.inr ⟨rfl,hi.1,hi.2,z1,z2,z3,z4,z5⟩))
   .
    unfold walk_f
    rw [if_pos (.inl ⟨by decide,of_decide_eq_false h⟩)]
  .
   rw [if_neg (by rw [decide_eq_false hi];decide)]
   refine ⟨_,rfl,(fun h=>by cases h),fun _=>no ?_⟩
   unfold walk_f
   by_cases z:((4:Int) ≠ 2 /\ ¬ (a = 0 /\ b = 0 /\ tp = 0 /\ c = 0 /\ s = 0)) \/ (((4:Int) = 2 \/ (4:Int) = 3) /\ i ≠ 0)
   .
    rw [if_pos z]
   .
    rw [if_neg z,if_neg (by decide),if_neg (by decide),if_neg (by decide),if_pos rfl,if_neg (fun y=>hi y.2)]
 rw [if_neg k4]
 refine ⟨_,rfl,(fun h=>by cases h),fun _=>no ?_⟩
 unfold walk_f
 by_cases z:(k ≠ 2 /\ ¬ (a = 0 /\ b = 0 /\ tp = 0 /\ c = 0 /\ s = 0)) \/ ((k = 2 \/ k = 3) /\ i ≠ 0)
 .
  rw [if_pos z]
 .
  rw [if_neg z,if_neg k1,if_neg k2,if_neg k3,if_neg k4]
theorem walk_step {l:List S37} {v d:List Bool} {p t:Int} (g:ExplOk l v d p t) {k i a b tp c s:Int} (h:(k = 1 /\ 0 <= i /\ i < (l.length:Int) /\ a = 0 /\ b = 0 /\ tp = 0 /\ c = 0 /\ s = 0) \/ (k = 2 /\ i = 0 /\ LegOk ⟨a,b,tp,c,s⟩) \/ (k = 3 /\ i = 0 /\ a = 0 /\ b = 0 /\ tp = 0 /\ c = 0 /\ s = 0) \/ (k = 4 /\ 1 <= i /\ i <= 1000 /\ a = 0 /\ b = 0 /\ tp = 0 /\ c = 0 /\ s = 0)) {K:Nat} (hK:450 <= K):Steps K l v d p t k i a b tp c s:=by
 rcases h with ⟨rfl,h0,h1,rfl,rfl,rfl,rfl,rfl⟩|⟨rfl,rfl,h⟩|⟨rfl,rfl,rfl,rfl,rfl,rfl,rfl⟩|⟨rfl,h0,h1,rfl,rfl,rfl,rfl,rfl⟩
 .
  exact make1 g h0 h1 hK
 .
  exact make2 g h hK
 .
  exact make3 g hK
 .
  exact make4 g h0 h1 hK
end Go.Proofs.Ythmjimboajmhmaa.Pr.Pure

namespace Go.Proofs.Ythmjimboajmhmaa.Pr.Pure
open Go.RowKit Go.Proofs.Ythmjimboajmhmaa.Pr Go.Proofs.YthmjimboajmhmaaW.PrintWords Go.Proofs.YthmjimboajmhmaaW.PrintLast Go.Proofs.YthmjimboajmhmaaW.PrintMore
set_option linter.unusedVariables false
set_option linter.unusedSimpArgs false
theorem walk_tot (l:List S37) (hl:l.length <= 1000000) (v d:List Bool) (p t k i a b tp c s:Int) :
  ∃ L V D P T q,spec_WalkOn.f 1000500 l v d p t k i a b tp c s = some (L,V,D,P,T,q) /\ L.length <= 13 /\ V.length <= 8 /\ D.length <= 8 /\ (q = true -> ExplOk L V D P T):=by
 obtain ⟨b0,e1,_,hb⟩:=good_eq l (by omega) v d p t (k:=1000500) (by omega)
 unfold spec_WalkOn.f
 rw [e1]
 simp only [Option.bind_some]
 cases b0 with
 | false=>
  simp only [Bool.false_eq_true,if_false,spec_WalkOn.j0,if_true]
  exact ⟨_,_,_,_,_,_,rfl,by simp,by simp,by simp,fun h=>by cases h⟩
 | true=>
  have ok:=hb.1 rfl
  obtain ⟨q,w1,w2,w3⟩:=walk_valid 1000500 ok k i a b tp c s
  simp only [if_true,w1,Option.bind_some]
  cases q with
  | false=>
   simp only [Bool.not_false,spec_WalkOn.j0,if_true]
   exact ⟨_,_,_,_,_,_,rfl,by simp,by simp,by simp,fun h=>by cases h⟩
  | true=>
   obtain ⟨L,V,D,P,T,q,h1,h2,hL,hV,hD,h3⟩:=walk_step ok (w2 rfl) (K:=1000499) (by omega)
   simp only [Bool.not_true,spec_WalkOn.j0,Bool.false_eq_true,if_false,h1,Option.bind_some]
   cases q with
   | false=>
    simp only [Bool.false_eq_true,if_false]
    exact ⟨_,_,_,_,_,_,rfl,by simp,by simp,by simp,fun h=>by cases h⟩
   | true=>
    simp only [if_true]
    exact ⟨_,_,_,_,_,_,rfl,hL,by omega,by omega,fun _=>h3 rfl⟩
theorem start_tot (l:List S37) (hl:l.length <= 1000000) (a:Int) :
  ∃ L V D P T b,spec_StartExploration.f 1000500 l a = some (L,V,D,P,T,b) /\ L.length <= 12 /\ V.length <= 8 /\ D.length <= 8 /\ (b = true -> V.length = 8) /\ (l = [] -> a = 500 -> b = true):=by
 obtain ⟨b,e1,_,hb⟩:=good_eq l (by omega) ((List.replicate 8 false).set (0:Int).toNat true) (List.replicate 8 false) 0 a (k:=1000500) (by omega)
 unfold spec_StartExploration.f
 simp only [Option.bind_some,List.nil_append,List.length_nil,Nat.zero_add]
 have c1:l.length < 3518437208883:=by omega
 have c3:(8:Nat) <= 281474976710656:=by decide
 have c4:(0:Int) < ((List.replicate 8 false).length:Int):=by decide
 simp only [if_pos c1,if_pos c3,if_pos c4,e1,Option.bind_some]
 have h0:l = [] -> a = 500 -> b = true:=fun h1 h2=>by
  subst h1;subst h2
  exact hb.2 ⟨(fun _ h=>nomatch h),by decide,by decide,by decide,⟨by decide,by decide⟩,⟨by decide,by decide⟩,by decide,by decide,by decide,by decide⟩
 cases b with
 | false=>exact ⟨_,_,_,_,_,_,rfl,by simp,by simp,by simp,fun h=>by (cases h),h0⟩
 | true=>exact ⟨_,_,_,_,_,_,rfl,(hb.1 rfl).len,by simp,by simp,fun _=>by simp,h0⟩
theorem walkOnE {w:World} {B:Nat} {Po P1 P2:Nat -> Prop} {A0 A1 A2:Option Addr} {c0 c1 c2:Nat} {l:List S37} {v d:List Bool} (hl:l.length <= 1000000) (r0:Kd.R k37 37 w B Po (.slice A0 l.length c0) l) (r1:Kd.R Kd.bool 4 w B P1 (.slice A1 v.length c1) v) (r2:Kd.R Kd.bool 4 w B P2 (.slice A2 d.length c2) d) (hB:B <= w.heap.size) (p t k i a b tp c s:Int) :
  Calls Try.prog 23 #[.agg #[.slice A0 l.length c0,.slice A1 v.length c1,.slice A2 d.length c2,.int .i64 p,.int .i64 t],.agg #[.int .i64 k,.int .i64 i,.int .i64 a,.int .i64 b,.int .i64 tp,.int .i64 c,.int .i64 s]] w fun e w'=>∃ (v0 v1 v2:Value) (L:List S37) (V D:List Bool) (P T:Int) (q:Bool),e = .returned (.tuple #[.agg #[v0,v1,v2,.int .i64 P,.int .i64 T],.bool q]) /\ (Kd.R k37 37 w' B (fun _=>True) v0 L /\ Kd.R Kd.bool 4 w' B (fun k_=>some k_ ≠ v2.ownBlock) v1 V /\ Kd.R Kd.bool 4 w' B (fun k_=>some k_ ≠ v1.ownBlock) v2 D) /\ (L.length <= 13 /\ V.length <= 8 /\ D.length <= 8 /\ (q = true -> V.length = 8)) /\ Below w.heap.size w w':=by
 obtain ⟨L,V,D,P,T,q,h,n0,n1,n2,n3⟩:=walk_tot l hl v d p t k i a b tp c s
 refine (spec_WalkOn.calls _ _ _ l _ _ v _ _ d p t k i a b tp c s L V D P T q w (Kd.R_reads' r0).2.2 (Kd.R_reads' r0).2.1 (Kd.R_reads' r1).2.2 (Kd.R_reads' r1).2.1 (Kd.R_reads' r2).2.2 (Kd.R_reads' r2).2.1 h).mono ?_
 rintro e w' ⟨v0,v1,v2,rfl,g0,g1,g2,hb⟩
 exact ⟨v0,v1,v2,L,V,D,P,T,q,rfl,⟨Kd.R_lower g0 hB,Kd.R_lower g1 hB,Kd.R_lower g2 hB⟩,⟨n0,n1,n2,fun h=>(n3 h).hv⟩,hb⟩
theorem startE {w:World} {B:Nat} {Po:Nat -> Prop} {A0:Option Addr} {c0:Nat} {l:List S37} (hl:l.length <= 1000000) (r0:Kd.R k37 37 w B Po (.slice A0 l.length c0) l) (hB:B <= w.heap.size) (a:Int) :
  Calls Try.prog 33 #[.slice A0 l.length c0,.int .i64 a] w fun e w'=>∃ (v0 v1 v2:Value) (L:List S37) (V D:List Bool) (P T:Int) (q:Bool),e = .returned (.tuple #[.agg #[v0,v1,v2,.int .i64 P,.int .i64 T],.bool q]) /\ (Kd.R k37 37 w' B (fun _=>True) v0 L /\ Kd.R Kd.bool 4 w' B (fun k_=>some k_ ≠ v2.ownBlock) v1 V /\ Kd.R Kd.bool 4 w' B (fun k_=>some k_ ≠ v1.ownBlock) v2 D) /\ (L.length <= 13 /\ V.length <= 8 /\ D.length <= 8 /\ (q = true -> V.length = 8) /\ (l = [] -> a = 500 -> q = true)) /\ Below w.heap.size w w':=by
 obtain ⟨L,V,D,P,T,q,h,n0,n1,n2,n3,n4⟩:=start_tot l hl a
 refine (spec_StartExploration.calls _ _ _ l a L V D P T q w (Kd.R_reads' r0).2.2 (Kd.R_reads' r0).2.1 h).mono ?_
 rintro e w' ⟨v0,v1,v2,rfl,g0,g1,g2,hb⟩
 exact ⟨v0,v1,v2,L,V,D,P,T,q,rfl,⟨Kd.R_lower g0 hB,Kd.R_lower g1 hB,Kd.R_lower g2 hB⟩,⟨by omega,n1,n2,n3,n4⟩,hb⟩
section
variable {w0 w W W':World} {g q base:Nat} {x:List Int} {b:Int} {v0 v1 v2 b0 b1 b2 b3 b4:Value} {L:List S37} {V D:List Bool} {P T:Int}
theorem ex_cur (h:ExS W base q v0 v1 v2 L V D P T) (hC:CurE w0 W g x b) (hk:KeepBut W W' g none):ExS W' base q v0 v1 v2 L V D P T:=⟨hC.blk hk h.blk (by decide),h.gb,hC.row hk h.rL (by decide),hC.row hk h.rV (by decide),hC.row hk h.rD (by decide)⟩
theorem ex_store (r:Kd.R k37 37 W base (fun _=>True) v0 L /\ Kd.R Kd.bool 4 W base (fun k_=>some k_ ≠ v2.ownBlock) v1 V /\ Kd.R Kd.bool 4 W base (fun k_=>some k_ ≠ v1.ownBlock) v2 D) (hb:W.heap[q]? = some (.cells #[b0,b1,b2,b3,b4] 30 (0,0))) (hq:base <= q) (P T:Int):ExS (((((W.setCell ⟨q,0,none⟩ (v0)).setCell ⟨q,1,none⟩ (v1)).setCell ⟨q,2,none⟩ (v2)).setCell ⟨q,3,none⟩ (.int .i64 P)).setCell ⟨q,4,none⟩ (.int .i64 T)) base q v0 v1 v2 L V D P T:=
 ⟨own_blk5 hb _ _ _ _ _,hq,own_R5 r.1 hb (by decide) _ _ _ _ _,own_R5 r.2.1 hb (by decide) _ _ _ _ _,own_R5 r.2.2 hb (by decide) _ _ _ _ _⟩
theorem ex_far (h:ExS W base q v0 v1 v2 L V D P T) {s:Nat} (hb:W.heap[s]? = some (.cells #[b0,b1,b2,b3,b4] 30 (0,0))) (hne:q ≠ s) (a0 a1 a2 a3 a4:Value):ExS (((((W.setCell ⟨s,0,none⟩ (a0)).setCell ⟨s,1,none⟩ (a1)).setCell ⟨s,2,none⟩ (a2)).setCell ⟨s,3,none⟩ (a3)).setCell ⟨s,4,none⟩ (a4)) base q v0 v1 v2 L V D P T:=
 ⟨farN5_ h.blk hne _ _ _ _ _,h.gb,own_R5 h.rL hb (by decide) _ _ _ _ _,own_R5 h.rV hb (by decide) _ _ _ _ _,own_R5 h.rD hb (by decide) _ _ _ _ _⟩
theorem ex_put2 (r:Kd.R k37 37 W base (fun _=>True) v0 L /\ Kd.R Kd.bool 4 W base (fun k_=>some k_ ≠ v2.ownBlock) v1 V /\ Kd.R Kd.bool 4 W base (fun k_=>some k_ ≠ v1.ownBlock) v2 D) (hb:W.heap[q]? = some (.cells #[v0,v1,b2,.int .i64 P,.int .i64 T] 30 (0,0))) (hq:base <= q):ExS (W.setCell ⟨q,2,none⟩ v2) base q v0 v1 v2 L V D P T:=
 ⟨blk_put hb 2 _ rfl,hq,Kd.R_mono (Kd.R_far (p:=⟨q,2,none⟩) (Kd.R_types r.1 hb (by decide)) (fun _ hk=>hk.2) _) (fun _ hk=>hk.1),Kd.R_mono (Kd.R_far (p:=⟨q,2,none⟩) (Kd.R_types r.2.1 hb (by decide)) (fun _ hk=>hk.2) _) (fun _ hk=>hk.1),Kd.R_mono (Kd.R_far (p:=⟨q,2,none⟩) (Kd.R_types r.2.2 hb (by decide)) (fun _ hk=>hk.2) _) (fun _ hk=>hk.1)⟩
theorem own_neB {w0 W:World} {g:Nat} {x:List Int} {b:Int} {B:Nat} {ok:Nat -> Prop} {v:Value} {l:List Bool} (h:CurE w0 W g x b) (hr:Kd.R Kd.bool 4 W B ok v l):some g ≠ v.ownBlock:=by
 obtain ⟨p,s,hI,_⟩:=h
 exact IsS96.own_ne hI hr (by decide)
theorem rows_below (r:Kd.R k37 37 W base (fun _=>True) v0 L /\ Kd.R Kd.bool 4 W base (fun k_=>some k_ ≠ v2.ownBlock) v1 V /\ Kd.R Kd.bool 4 W base (fun k_=>some k_ ≠ v1.ownBlock) v2 D) (hb:Below W.heap.size W W'):Kd.R k37 37 W' base (fun _=>True) v0 L /\ Kd.R Kd.bool 4 W' base (fun k_=>some k_ ≠ v2.ownBlock) v1 V /\ Kd.R Kd.bool 4 W' base (fun k_=>some k_ ≠ v1.ownBlock) v2 D:=⟨Kd.R_below r.1 hb,Kd.R_below r.2.1 hb,Kd.R_below r.2.2 hb⟩
end
def eT7:Bool × List (List Nat × List Nat):=(true,[([],[]),([],[]),([],[]),([1,2],[1,2]),([0,3,3],[0,3]),([4],[4]),([5],[5]),([5],[5]),([],[]),([8,6,4,0,1,2,3,4,5,6,8],[6,8]),([7,9,0,1,2,3,4,5,6,7,8,9],[7])])
def eB7:List Nat:=[0,0,0,6,15,31,63,63,0,383,1023]
theorem etab7:rtab .any (opsOf Try.f74 7) = eT7:=by kernel_rfl
theorem ebits7:waitsOk eT7.2 eB7 = true:=by kernel_rfl
set_option maxHeartbeats 64000000 in
set_option maxRecDepth 100000 in
theorem explorationE {w0 w:World} {g:Nat} {x:List Int} {b:Int} (hx:BytesE x) (hC:CurE w0 w g x b) (hB:Below w0.heap.size w0 w) (hb:b <= 500000000) :
  Calls Try.prog 74 #[.pointer (some ⟨g,0,none⟩)] w fun e w'=>∃ (A0 A1 A2:Option Addr) (c0 c1 c2:Nat) (L:List S37) (V D:List Bool) (P T:Int),e = .returned (.agg #[.slice A0 L.length c0,.slice A1 V.length c1,.slice A2 D.length c2,.int .i64 P,.int .i64 T]) /\ (L.length <= 13 /\ V.length <= 8 /\ D.length <= 9) /\ DrE w0 w w' g x (b + 300) /\ Kd.R k37 37 w' w.heap.size (fun _=>True) (.slice A0 L.length c0) L /\ Kd.R Kd.bool 4 w' w.heap.size (fun _=>True) (.slice A1 V.length c1) V /\ Kd.R Kd.bool 4 w' w.heap.size (fun _=>True) (.slice A2 D.length c2) D:=by
 have hu30:=Try.underlying30
 have hu37:=Try.underlying37
 have hu39:=Try.underlying39
 have hu28:=Try.underlying28
 have hu23:=Try.underlying23
 have HD:=ak (show DrE w0 w w g x b from ⟨hC,hB,KeepBut.refl _ _ _,below_size hB⟩)
 clear hC hB
 go_enter Try.func74,Try.ntmps74
 go_upto_if 18 with (first|((with_reducible refine gate_dst (N:=2) rfl ?_);refine box_event ?hg (N:=2) ?hd (cs:=#[.slice none 0 0,.slice none 0 0,.slice none 0 0,.int .i64 0,.int .i64 0]) (t:=30) ?hr ?_;(case hd=>rfl);(case hg=>rfl);(case hr=>first|(go_simp;done)|(go_simp;rfl));intro q2 hg wa hbox hb;have Gq2:=ak (show w.heap.size <= q2 from by rw [hg];exact HD.out.size);have Bq2:=ak hbox;replace HD:=ak (HD.out.below hb);clear hb hbox hg)|((with_reducible refine gate_callee (f:=85) rfl ?_);refine ga_ (some 10) Try.func85 #[.pointer (some ⟨g,0,none⟩)] ?_;refine (caveE hx HD.out.cur HD.out.hB (by omega)).mono ?_;rintro e wb ⟨Ac,cc,l,rfl,hl,hd,hr⟩;refine ⟨_,rfl,?_⟩;have HL:=ak (Kd.R_lower hr HD.out.size);have Hl:=ak hl;have hk:=hd.hK;replace Bq2:=ak (HD.out.cur.blk hk Bq2.out (by decide));replace HD:=ak (HD.out.call hd.cur hd.hB hk);clear hd hr hl hk)|((with_reducible refine gate_dst (N:=12) rfl ?_);refine Kd.R_lit (Kd.int .i64) _ 3 ?hg (N:=12) ?hd (xs:=[0,300,1000,3000,3000,100000]) (inner:=[.int .i64 0,.int .i64 300,.int .i64 1000,.int .i64 3000,.int .i64 3000,.int .i64 100000]) (ok:=fun _=>True) (okp:=fun _=>True) ?hr ?hp (fun _ hk=>hk) trivial (Below.refl _ _) (Nat.le_refl _) (show 6 <= 9223372036854775807 from by decide) ?_;(case hd=>rfl);(case hg=>rfl);(case hr=>first|(go_simp;done)|(go_simp;rfl));(case hp=>exact reps_ints _ _ _ [0,300,1000,3000,3000,100000]);intro v_ wc ho hb hg_ hn_;obtain ⟨ls,hl_⟩:∃ z:List Int,z = [0,300,1000,3000,3000,100000]:=⟨_,rfl⟩;rw [<- hl_] at ho;have Ps:=ak (show 0 < ls.length from by rw [hl_];exact Nat.zero_lt_succ _);obtain ⟨As,cs,ee_⟩:=Kd.R_slice ho;subst ee_;have Ls:=ak ho;replace Bq2:=ak (bb_ Bq2.out hb);replace HL:=ak (Kd.R_below HL.out hb);replace HD:=ak (HD.out.below hb);clear ho hb hg_ hn_ hl_)|((with_reducible refine gate_callee (f:=86) rfl ?_);refine ga_ (some 13) Try.func86 #[.pointer (some ⟨g,0,none⟩),.slice As ls.length cs] ?_;refine (amongE hx HD.out.cur HD.out.hB (by omega) Ps.out Ls.out).mono ?_;rintro e wd ⟨t,rfl,hm_,hc,hb2,hk⟩;refine ⟨_,rfl,?_⟩;clear hm_ Ls Ps;replace Bq2:=ak (HD.out.cur.blk hk Bq2.out (by decide));replace HL:=ak (HD.out.cur.row hk HL.out (by decide));replace HD:=ak (HD.out.call hc hb2 hk);clear hc hb2 hk)|((with_reducible refine gate_callee (f:=33) rfl ?_);refine ga_ (some 14) Try.func33 #[.slice Ac l.length cc,.int .i64 t] ?_;refine (startE (by have:=Hl.out;omega) HL.out HD.out.size _).mono ?_;rintro e we ⟨v0,v1,v2,L,V,D,P,T,ok,rfl,hr,hn,hb⟩;refine ⟨_,rfl,?_⟩;have HR:=ak hr;have HN:=ak hn;replace Bq2:=ak (bb_ Bq2.out hb);replace HD:=ak (HD.out.below hb);clear hr hn hb;clear HL;obtain ⟨A0,c0,e0_⟩:=Kd.R_slice HR.out.1;subst e0_;obtain ⟨A1,c1,e1_⟩:=Kd.R_slice HR.out.2.1;subst e1_;obtain ⟨A2,c2,e2_⟩:=Kd.R_slice HR.out.2.2;subst e2_)|((with_reducible refine gate_dst (N:=3) rfl ?_);refine box_event ?hg (N:=3) ?hd (cs:=#[.slice none 0 0,.slice none 0 0,.slice none 0 0,.int .i64 0,.int .i64 0]) (t:=30) ?hr ?_;(case hd=>rfl);(case hg=>rfl);(case hr=>first|(go_simp;done)|(go_simp;rfl));intro q3 hg wf hbox hb;have Gq3:=ak (show w.heap.size <= q3 from by rw [hg];exact HD.out.size);have Nq2_q3:=ak (nl_ hg Bq2.out);have Bq3:=ak hbox;replace Bq2:=ak (bb_ Bq2.out hb);replace HD:=ak (HD.out.below hb);have hb_:=hb;clear hb hbox hg;replace HR:=ak (rows_below HR.out hb_);clear hb_;obtain ⟨hcz0,hcz1,hcz2,hcz3,hcz4⟩:=cz5_ Bq3.out;obtain ⟨hfz0,hfz1,hfz2,hfz3,hfz4⟩:=fz5_ Bq3.out)|((with_reducible refine gate_store (t:=30) (p:=3) rfl ?_);refine store_event (t:=30) (p:=3) (v:=?vowg_) (w1:=(((((wf.setCell ⟨q3,0,none⟩ (.slice A0 L.length c0)).setCell ⟨q3,1,none⟩ (.slice A1 V.length c1)).setCell ⟨q3,2,none⟩ (.slice A2 D.length c2)).setCell ⟨q3,3,none⟩ (.int .i64 P)).setCell ⟨q3,4,none⟩ (.int .i64 T))) ?hg ?ho ?hn ?hr ?_;(case ho=>rfl);(case hg=>rfl);(case hn=>rfl);(case hr=>first|(go_simp;done)|(go_simp;rfl));intro wg hw;clear hcz0 hfz0 hcz1 hfz1 hcz2 hfz2 hcz3 hfz3 hcz4 hfz4;have n0_:=ex_store HR.out Bq3.out Gq3.out P T;rw [<- hw] at n0_;have n1_:=HD.out.far5 Bq3.out (by decide) Gq3.out (.slice A0 L.length c0) (.slice A1 V.length c1) (.slice A2 D.length c2) (.int .i64 P) (.int .i64 T);rw [<- hw] at n1_;have m_:=farN5_ Bq2.out Nq2_q3.out (.slice A0 L.length c0) (.slice A1 V.length c1) (.slice A2 D.length c2) (.int .i64 P) (.int .i64 T);rw [<- hw] at m_;replace Bq2:=ak m_;clear m_;clear hw Bq3 HD HR;have HX:=ak n0_;have HD:=ak n1_;clear n0_ n1_))
 (try simp only [Act.put,List.setIfInBounds_toArray,List.set_cons_zero,List.set_cons_succ])
 go_cut [] (fun wc_=>∃ (v0 v1 v2:Value) (L:List S37) (V D:List Bool) (P T:Int),Aside0 (ExS wc_ w.heap.size q3 v0 v1 v2 L V D P T) /\ Aside0 (L.length <= 13 /\ V.length = 8 /\ D.length <= 8) /\ Aside0 (DrE w0 w wc_ g x (b + 122)) /\ Aside0 (wc_.heap[q2]? = some (.cells #[.slice none 0 0,.slice none 0 0,.slice none 0 0,.int .i64 0,.int .i64 0] 30 (0,0))))
 case first=>
  cases ok with
  | true=>
   go_wp2_with fail
   go_meet
   case rel=>exact ⟨_,_,_,L,V,D,P,T,HX,⟨HN.out.1,HN.out.2.2.2.1 (by first|rfl|trivial),HN.out.2.2.1⟩,⟨HD.out.mono (by omega)⟩,Bq2⟩
  | false=>
   have Bq3:=ak HX.out.blk
   clear HX HN
   go_wp2_with (first|((with_reducible refine gate_dst (N:=20) rfl ?_);refine Kd.R_lit k37 _ 37 ?hg (N:=20) ?hd (xs:=([]:List S37)) (inner:=[]) (ok:=fun _=>True) (okp:=fun _=>True) ?hr ?hp (fun _ hk=>hk) trivial (Below.refl _ _) (Nat.le_refl _) (by simp) ?_;(case hd=>rfl);(case hg=>rfl);(case hr=>first|(go_simp;done)|(go_simp;rfl));(case hp=>exact (Reps.none _ _));intro v_ wh ho hb hg_ hn_;clear hg_ hn_;obtain ⟨lE,hE⟩:∃ z:List S37,z = []:=⟨_,rfl⟩;rw [<- hE] at ho;obtain ⟨Ae,ce,ee_⟩:=Kd.R_slice ho;subst ee_;have HL:=ak (Kd.R_lower ho HD.out.size);have HE:=ak hE;clear hE;replace Bq2:=ak (bb_ Bq2.out hb);replace Bq3:=ak (bb_ Bq3.out hb);replace HD:=ak (HD.out.below hb);clear ho hb)|((with_reducible refine gate_callee (f:=33) rfl ?_);refine ga_ (some 21) Try.func33 #[.slice Ae lE.length ce,.int .i64 500] ?_;refine (startE (by have:=HE.out;rw [this];exact Nat.zero_le _) HL.out HD.out.size _).mono ?_;rintro e wi ⟨v0,v1,v2,L,V,D,P,T,ok,rfl,hr,hn,hb⟩;refine ⟨_,rfl,?_⟩;have HR:=ak hr;have HN:=ak hn;replace Bq2:=ak (bb_ Bq2.out hb);replace Bq3:=ak (bb_ Bq3.out hb);replace HD:=ak (HD.out.below hb);clear hr hn hb;clear HL;obtain ⟨A0,c0,e0_⟩:=Kd.R_slice HR.out.1;subst e0_;obtain ⟨A1,c1,e1_⟩:=Kd.R_slice HR.out.2.1;subst e1_;obtain ⟨A2,c2,e2_⟩:=Kd.R_slice HR.out.2.2;subst e2_;obtain ⟨hcz0,hcz1,hcz2,hcz3,hcz4⟩:=cz5_ Bq3.out;obtain ⟨hfz0,hfz1,hfz2,hfz3,hfz4⟩:=fz5_ Bq3.out)|((with_reducible refine gate_store (t:=30) (p:=3) rfl ?_);refine store_event (t:=30) (p:=3) (v:=?vowj_) (w1:=(((((wi.setCell ⟨q3,0,none⟩ (.slice A0 L.length c0)).setCell ⟨q3,1,none⟩ (.slice A1 V.length c1)).setCell ⟨q3,2,none⟩ (.slice A2 D.length c2)).setCell ⟨q3,3,none⟩ (.int .i64 P)).setCell ⟨q3,4,none⟩ (.int .i64 T))) ?hg ?ho ?hn ?hr ?_;(case ho=>rfl);(case hg=>rfl);(case hn=>rfl);(case hr=>first|(go_simp;done)|(go_simp;rfl));intro wj hw;clear hcz0 hfz0 hcz1 hfz1 hcz2 hfz2 hcz3 hfz3 hcz4 hfz4;have n0_:=ex_store HR.out Bq3.out Gq3.out P T;rw [<- hw] at n0_;have n1_:=HD.out.far5 Bq3.out (by decide) Gq3.out (.slice A0 L.length c0) (.slice A1 V.length c1) (.slice A2 D.length c2) (.int .i64 P) (.int .i64 T);rw [<- hw] at n1_;have m_:=farN5_ Bq2.out Nq2_q3.out (.slice A0 L.length c0) (.slice A1 V.length c1) (.slice A2 D.length c2) (.int .i64 P) (.int .i64 T);rw [<- hw] at m_;replace Bq2:=ak m_;clear m_;clear hw Bq3 HD HR;have HX:=ak n0_;have HD:=ak n1_;clear n0_ n1_))
   go_meet
   case rel=>exact ⟨_,_,_,L,V,D,P,T,HX,⟨HN.out.1,HN.out.2.2.2.1 (HN.out.2.2.2.2 HE.out (by first|rfl|trivial)),HN.out.2.2.1⟩,⟨HD.out.mono (by omega)⟩,Bq2⟩
 case rest=>
  clear HX HN HD Bq2
  obtain ⟨v0,v1,v2,L,V,D,P,T,HX,HN,HD,Bq2⟩:=hcut
  go_upto_block 0 with (first|((with_reducible refine gate_callee (f:=81) rfl ?_);refine ga_ (some 25) Try.func81 #[.pointer (some ⟨g,0,none⟩),.int .i64 8] ?_;refine (pickE hx HD.out.cur HD.out.hB (by omega) 8 (by decide)).mono ?_;rintro e wb ⟨n,rfl,h0_,h1_,hc,hb2,hk⟩;refine ⟨_,rfl,?_⟩;have Hn:=ak (And.intro h0_ h1_);clear h0_ h1_;replace Bq2:=ak (HD.out.cur.blk hk Bq2.out (by decide));replace HX:=ak (ex_cur HX.out HD.out.cur hk);replace HD:=ak (HD.out.call hc hb2 hk);clear hc hb2 hk))
  (try simp only [Act.put,List.setIfInBounds_toArray,List.set_cons_zero,List.set_cons_succ])
  go_cut [] (fun wc_=>∃ (v0 v1 v2:Value) (L:List S37) (V D:List Bool) (P T:Int),Aside0 (ExS wc_ w.heap.size q3 v0 v1 v2 L V D P T) /\ Aside0 (L.length <= 13 /\ V.length = 8 /\ D.length <= 8) /\ Aside0 (DrE w0 w wc_ g x (b + 292)) /\ Aside0 (wc_.heap[q2]? = some (.cells #[.slice none 0 0,.slice none 0 0,.slice none 0 0,.int .i64 0,.int .i64 0] 30 (0,0))))
  case first=>
   go_wp2_with fail
   go_loopg [5] n.toNat (fun m v5 wc_=>∃ k:Int,v5 = .int .i64 k /\ Aside0 (0 <= k /\ k <= 7 /\ (m:Int) = k) /\ ∃ (v0 v1 v2:Value) (L:List S37) (V D:List Bool) (P T:Int),Aside0 (ExS wc_ w.heap.size q3 v0 v1 v2 L V D P T) /\ Aside0 (L.length <= 13 /\ V.length = 8 /\ D.length <= 8) /\ Aside0 (DrE w0 w wc_ g x (b + 124 + 24 * (7 - k))) /\ Aside0 (wc_.heap[q2]? = some (.cells #[.slice none 0 0,.slice none 0 0,.slice none 0 0,.int .i64 0,.int .i64 0] 30 (0,0))))
   case atStart=>exact ⟨n,rfl,⟨by have h1:=Hn.out;refine ⟨?_,?_,?_⟩ <;> omega⟩,v0,v1,v2,L,V,D,P,T,HX,HN,⟨HD.out.mono (by have h1:=Hn.out;omega)⟩,Bq2⟩
   case round=>
    clear HX HN HD Bq2
    obtain ⟨k,rfl,Hk,hrel⟩:=hrel
    obtain ⟨v0,v1,v2,L,V,D,P,T,HX,HN,HD,Bq2⟩:=hrel
    have k0:0 <= k:=Hk.out.1
    have k1:k <= 7:=Hk.out.2.1
    by_cases hk:0 < k
    .
     have qk:decide (0 < k) = true:=decide_eq_true hk
     go_upto_block 1 with fail
     clear qk
     (try simp only [Act.put,List.setIfInBounds_toArray,List.set_cons_zero,List.set_cons_succ])
     go_cut [] (fun wc_=>∃ (v0 v1 v2:Value) (L:List S37) (V D:List Bool) (P T:Int),Aside0 (ExS wc_ w.heap.size q3 v0 v1 v2 L V D P T) /\ Aside0 (L.length <= 13 /\ V.length = 8 /\ D.length <= 8) /\ Aside0 (DrE w0 w wc_ g x (b + 148 + 24 * (7 - k))) /\ Aside0 (wc_.heap[q2]? = some (.cells #[.slice none 0 0,.slice none 0 0,.slice none 0 0,.int .i64 0,.int .i64 0] 30 (0,0))))
     case first=>
      go_upto_region 7 with fail
      have hb:=below_drew (Below.refl wr.heap.size wr)
      replace HX:=ak (HX.out.below hb)
      replace Bq2:=ak (bb_ Bq2.out hb)
      replace HD:=ak (HD.out.below hb)
      clear hb
      obtain ⟨A0,c0,e0_⟩:=Kd.R_slice HX.out.rL;subst e0_;obtain ⟨A1,c1,e1_⟩:=Kd.R_slice HX.out.rV;subst e1_;obtain ⟨A2,c2,e2_⟩:=Kd.R_slice HX.out.rD;subst e2_
      refine start_ (n:=11) (S:=fun w'=>w'.cell? ⟨q3,0,none⟩ = some (.slice A0 L.length c0) /\ w'.cell? ⟨q3,1,none⟩ = some (.slice A1 V.length c1) /\ w'.cell? ⟨q3,2,none⟩ = some (.slice A2 D.length c2) /\ w'.cell? ⟨q3,3,none⟩ = some (.int .i64 P) /\ w'.cell? ⟨q3,4,none⟩ = some (.int .i64 T)) (ds:=[9]) #[fF,fF,fF,fF,fF,fF,fF,fF,fF,fF,fF] (by kernel_rfl) rfl rfl ⟨(blk_cell HX.out.blk 0).trans rfl,(blk_cell HX.out.blk 1).trans rfl,(blk_cell HX.out.blk 2).trans rfl,(blk_cell HX.out.blk 3).trans rfl,(blk_cell HX.out.blk 4).trans rfl⟩ (fun hHeld=>?_)
      refine with_tabW etab7 ebits7 (fun HT_ HW_=>?_)
      generalize wr.drew = ws at HX Bq2 HD hHeld ⊢
      refine pz_ HT_ 1 (some 32) #[fF,tT,fF,fF,fF,fF,fF,fF,fF,fF,fF] ?_
      refine tk_ HT_ HW_ hHeld 0 (some 31) #[tT,tT,fF,fF,fF,fF,fF,fF,fF,fF,fF] ?_
      refine tk_ HT_ HW_ hHeld 2 (some 33) #[tT,tT,tT,fF,fF,fF,fF,fF,fF,fF,fF] ?_
      refine join_ (σ:=Nat × Value × Value × Value × Value × Int × Int × Bool) 2 #[tT,tT,tT,tT,tT,tT,tT,tT,tT,fF,fF] (fun s_=>[(34,s_.2.1),(35,.tuple #[.agg #[s_.2.2.1,s_.2.2.2.1,s_.2.2.2.2.1,.int .i64 s_.2.2.2.2.2.1,.int .i64 s_.2.2.2.2.2.2.1],.bool s_.2.2.2.2.2.2.2]),(30,.tuple #[.agg #[s_.2.2.1,s_.2.2.2.1,s_.2.2.2.2.1,.int .i64 s_.2.2.2.2.2.1,.int .i64 s_.2.2.2.2.2.2.1],.bool s_.2.2.2.2.2.2.2]),(36,.agg #[s_.2.2.1,s_.2.2.2.1,s_.2.2.2.2.1,.int .i64 s_.2.2.2.2.2.1,.int .i64 s_.2.2.2.2.2.2.1]),(37,.bool s_.2.2.2.2.2.2.2),(6,.pointer (some ⟨s_.1,0,none⟩))]) (fun s_ w'=>(w'.cell? ⟨q3,0,none⟩ = some (.slice A0 L.length c0) /\ w'.cell? ⟨q3,1,none⟩ = some (.slice A1 V.length c1) /\ w'.cell? ⟨q3,2,none⟩ = some (.slice A2 D.length c2) /\ w'.cell? ⟨q3,3,none⟩ = some (.int .i64 P) /\ w'.cell? ⟨q3,4,none⟩ = some (.int .i64 T)) /\ ∃ (L':List S37) (V' D':List Bool),(Kd.R k37 37 w' w.heap.size (fun _=>True) s_.2.2.1 L' /\ Kd.R Kd.bool 4 w' w.heap.size (fun k_=>some k_ ≠ (s_.2.2.2.2.1:Value).ownBlock) s_.2.2.2.1 V' /\ Kd.R Kd.bool 4 w' w.heap.size (fun k_=>some k_ ≠ (s_.2.2.2.1:Value).ownBlock) s_.2.2.2.2.1 D') /\ (L'.length <= 13 /\ V'.length <= 8 /\ D'.length <= 8 /\ (s_.2.2.2.2.2.2.2 = true -> V'.length = 8)) /\ ExS w' w.heap.size q3 (.slice A0 L.length c0) (.slice A1 V.length c1) (.slice A2 D.length c2) L V D P T /\ DrE w0 w w' g x (b + 148 + 24 * (7 - k)) /\ w'.heap[q2]? = some (.cells #[.slice none 0 0,.slice none 0 0,.slice none 0 0,.int .i64 0,.int .i64 0] 30 (0,0)) /\ w'.heap[s_.1]? = some (.cells #[.slice none 0 0,.slice none 0 0,.slice none 0 0,.int .i64 0,.int .i64 0] 30 (0,0)) /\ w.heap.size <= s_.1 /\ q2 ≠ s_.1 /\ q3 ≠ s_.1) ?_ ?_
      rotate_left
      .
       intro hCont
       refine two_ (i:=3) (j:=8) (Ni:=some 34) (Nj:=some 6) #[tT,tT,tT,tT,fF,fF,fF,fF,fF,fF,fF] #[tT,tT,tT,fF,fF,fF,fF,fF,tT,fF,fF] rfl rfl rfl rfl (two_of HT_.out (by kernel_rfl)) (by decide) (by decide) (fun K hK=>?_) (fun K hK=>?_)
       .
        skip;refine gs_ Try.func75 #[.pointer (some ⟨g,0,none⟩),.agg #[.slice A0 L.length c0,.slice A1 V.length c1,.slice A2 D.length c2,.int .i64 P,.int .i64 T]] ?_;refine (walkE hx HD.out.cur HD.out.hB (by omega) HX.out.rL (by have h:=HN.out;omega) P T).mono ?_;rintro e wt ⟨y0,y1,y2,y3,y4,y5,y6,rfl,hd⟩;refine ⟨_,rfl,?_⟩;have hk:=hd.hK;replace Bq2:=ak (HD.out.cur.blk hk Bq2.out (by decide));replace HX:=ak (ex_cur HX.out HD.out.cur hk);replace HD:=ak (HD.out.call hd.cur hd.hB hk);clear hd hk;refine hK.out _ _ ⟨(blk_cell HX.out.blk 0).trans rfl,(blk_cell HX.out.blk 1).trans rfl,(blk_cell HX.out.blk 2).trans rfl,(blk_cell HX.out.blk 3).trans rfl,(blk_cell HX.out.blk 4).trans rfl⟩ (fun hHeld=>?_);clear hK K;refine na_ ?_;refine two_ (i:=4) (j:=8) (Ni:=some 35) (Nj:=some 6) #[tT,tT,tT,tT,tT,fF,fF,fF,fF,fF,fF] #[tT,tT,tT,tT,fF,fF,fF,fF,tT,fF,fF] rfl rfl rfl rfl (two_of HT_.out (by kernel_rfl)) (by decide) (by decide) (fun K hK=>?_) (fun K hK=>?_)
        .
         skip;refine gs_ Try.func23 #[.agg #[.slice A0 L.length c0,.slice A1 V.length c1,.slice A2 D.length c2,.int .i64 P,.int .i64 T],.agg #[.int .i64 y0,.int .i64 y1,.int .i64 y2,.int .i64 y3,.int .i64 y4,.int .i64 y5,.int .i64 y6]] ?_;refine (walkOnE (by have h:=HN.out;omega) HX.out.rL HX.out.rV HX.out.rD HD.out.size P T y0 y1 y2 y3 y4 y5 y6).mono ?_;rintro e wu ⟨n0,n1,n2,L',V',D',P',T',q,rfl,hr,hn,hb⟩;refine ⟨_,rfl,?_⟩;have HR:=ak hr;have HN2:=ak hn;replace Bq2:=ak (bb_ Bq2.out hb);replace HX:=ak (HX.out.below hb);replace HD:=ak (HD.out.below hb);clear hr hn hb;refine hK.out _ _ ⟨(blk_cell HX.out.blk 0).trans rfl,(blk_cell HX.out.blk 1).trans rfl,(blk_cell HX.out.blk 2).trans rfl,(blk_cell HX.out.blk 3).trans rfl,(blk_cell HX.out.blk 4).trans rfl⟩ (fun hHeld=>?_);clear hK K;refine na_ ?_;refine pz_ HT_ 5 (some 30) #[tT,tT,tT,tT,tT,tT,fF,fF,fF,fF,fF] ?_;refine pz_ HT_ 6 (some 36) #[tT,tT,tT,tT,tT,tT,tT,fF,fF,fF,fF] ?_;refine pz_ HT_ 7 (some 37) #[tT,tT,tT,tT,tT,tT,tT,tT,fF,fF,fF] ?_;refine one_ (i:=8) (N:=some 6) #[tT,tT,tT,tT,tT,tT,tT,tT,tT,fF,fF] rfl rfl (one_of HT_.out (by kernel_rfl)) (by decide) (fun K hK=>?_);refine box_step ?hg (N:=6) ?hd (cs:=#[.slice none 0 0,.slice none 0 0,.slice none 0 0,.int .i64 0,.int .i64 0]) (t:=30) ?hr ?_;(case hd=>rfl);(case hg=>rfl);(case hr=>first|(go_simp;done)|(go_simp;rfl));intro q6 hg wv hbox hb;have Gq6:=ak (show w.heap.size <= q6 from by rw [hg];exact HD.out.size);have Nq2_q6:=ak (nl_ hg Bq2.out);have Nq3_q6:=ak (nl_ hg HX.out.blk);have Bq6:=ak hbox;replace Bq2:=ak (bb_ Bq2.out hb);replace HX:=ak (HX.out.below hb);replace HD:=ak (HD.out.below hb);replace HR:=ak (rows_below HR.out hb);clear hb hbox hg;refine hK.out _ _ ⟨(blk_cell HX.out.blk 0).trans rfl,(blk_cell HX.out.blk 1).trans rfl,(blk_cell HX.out.blk 2).trans rfl,(blk_cell HX.out.blk 3).trans rfl,(blk_cell HX.out.blk 4).trans rfl⟩ (fun hHeld=>?_);clear hK K;refine na_ ?_;exact norm_ (by simp only [putAll,Act.put,List.setIfInBounds_toArray,List.set_cons_zero,List.set_cons_succ]) (hCont (q6,.agg #[.int .i64 y0,.int .i64 y1,.int .i64 y2,.int .i64 y3,.int .i64 y4,.int .i64 y5,.int .i64 y6],n0,n1,n2,P',T',q) _ ⟨hHeld,L',V',D',HR.out,HN2.out,HX.out,HD.out.mono (by omega),Bq2.out,Bq6.out,Gq6.out,Nq2_q6.out,Nq3_q6.out⟩)
        .
         skip;refine box_step ?hg (N:=6) ?hd (cs:=#[.slice none 0 0,.slice none 0 0,.slice none 0 0,.int .i64 0,.int .i64 0]) (t:=30) ?hr ?_;(case hd=>rfl);(case hg=>rfl);(case hr=>first|(go_simp;done)|(go_simp;rfl));intro q6 hg wu hbox hb;have Gq6:=ak (show w.heap.size <= q6 from by rw [hg];exact HD.out.size);have Nq2_q6:=ak (nl_ hg Bq2.out);have Nq3_q6:=ak (nl_ hg HX.out.blk);have Bq6:=ak hbox;replace Bq2:=ak (bb_ Bq2.out hb);replace HX:=ak (HX.out.below hb);replace HD:=ak (HD.out.below hb);clear hb hbox hg;refine hK.out _ _ ⟨(blk_cell HX.out.blk 0).trans rfl,(blk_cell HX.out.blk 1).trans rfl,(blk_cell HX.out.blk 2).trans rfl,(blk_cell HX.out.blk 3).trans rfl,(blk_cell HX.out.blk 4).trans rfl⟩ (fun hHeld=>?_);clear hK K;refine na_ ?_;refine one_ (i:=4) (N:=some 35) #[tT,tT,tT,tT,tT,fF,fF,fF,tT,fF,fF] rfl rfl (one_of HT_.out (by kernel_rfl)) (by decide) (fun K hK=>?_);refine gs_ Try.func23 #[.agg #[.slice A0 L.length c0,.slice A1 V.length c1,.slice A2 D.length c2,.int .i64 P,.int .i64 T],.agg #[.int .i64 y0,.int .i64 y1,.int .i64 y2,.int .i64 y3,.int .i64 y4,.int .i64 y5,.int .i64 y6]] ?_;refine (walkOnE (by have h:=HN.out;omega) HX.out.rL HX.out.rV HX.out.rD HD.out.size P T y0 y1 y2 y3 y4 y5 y6).mono ?_;rintro e wv ⟨n0,n1,n2,L',V',D',P',T',q,rfl,hr,hn,hb⟩;refine ⟨_,rfl,?_⟩;have HR:=ak hr;have HN2:=ak hn;replace Bq2:=ak (bb_ Bq2.out hb);replace Bq6:=ak (bb_ Bq6.out hb);replace HX:=ak (HX.out.below hb);replace HD:=ak (HD.out.below hb);clear hr hn hb;refine hK.out _ _ ⟨(blk_cell HX.out.blk 0).trans rfl,(blk_cell HX.out.blk 1).trans rfl,(blk_cell HX.out.blk 2).trans rfl,(blk_cell HX.out.blk 3).trans rfl,(blk_cell HX.out.blk 4).trans rfl⟩ (fun hHeld=>?_);clear hK K;refine na_ ?_;refine pz_ HT_ 5 (some 30) #[tT,tT,tT,tT,tT,tT,fF,fF,tT,fF,fF] ?_;refine pz_ HT_ 6 (some 36) #[tT,tT,tT,tT,tT,tT,tT,fF,tT,fF,fF] ?_;refine pz_ HT_ 7 (some 37) #[tT,tT,tT,tT,tT,tT,tT,tT,tT,fF,fF] ?_;exact norm_ (by simp only [putAll,Act.put,List.setIfInBounds_toArray,List.set_cons_zero,List.set_cons_succ]) (hCont (q6,.agg #[.int .i64 y0,.int .i64 y1,.int .i64 y2,.int .i64 y3,.int .i64 y4,.int .i64 y5,.int .i64 y6],n0,n1,n2,P',T',q) _ ⟨hHeld,L',V',D',HR.out,HN2.out,HX.out,HD.out.mono (by omega),Bq2.out,Bq6.out,Gq6.out,Nq2_q6.out,Nq3_q6.out⟩)
       .
        skip;refine box_step ?hg (N:=6) ?hd (cs:=#[.slice none 0 0,.slice none 0 0,.slice none 0 0,.int .i64 0,.int .i64 0]) (t:=30) ?hr ?_;(case hd=>rfl);(case hg=>rfl);(case hr=>first|(go_simp;done)|(go_simp;rfl));intro q6 hg wt hbox hb;have Gq6:=ak (show w.heap.size <= q6 from by rw [hg];exact HD.out.size);have Nq2_q6:=ak (nl_ hg Bq2.out);have Nq3_q6:=ak (nl_ hg HX.out.blk);have Bq6:=ak hbox;replace Bq2:=ak (bb_ Bq2.out hb);replace HX:=ak (HX.out.below hb);replace HD:=ak (HD.out.below hb);clear hb hbox hg;refine hK.out _ _ ⟨(blk_cell HX.out.blk 0).trans rfl,(blk_cell HX.out.blk 1).trans rfl,(blk_cell HX.out.blk 2).trans rfl,(blk_cell HX.out.blk 3).trans rfl,(blk_cell HX.out.blk 4).trans rfl⟩ (fun hHeld=>?_);clear hK K;refine na_ ?_;refine one_ (i:=3) (N:=some 34) #[tT,tT,tT,tT,fF,fF,fF,fF,tT,fF,fF] rfl rfl (one_of HT_.out (by kernel_rfl)) (by decide) (fun K hK=>?_);refine gs_ Try.func75 #[.pointer (some ⟨g,0,none⟩),.agg #[.slice A0 L.length c0,.slice A1 V.length c1,.slice A2 D.length c2,.int .i64 P,.int .i64 T]] ?_;refine (walkE hx HD.out.cur HD.out.hB (by omega) HX.out.rL (by have h:=HN.out;omega) P T).mono ?_;rintro e wu ⟨y0,y1,y2,y3,y4,y5,y6,rfl,hd⟩;refine ⟨_,rfl,?_⟩;have hk:=hd.hK;replace Bq2:=ak (HD.out.cur.blk hk Bq2.out (by decide));replace Bq6:=ak (HD.out.cur.blk hk Bq6.out (by decide));replace HX:=ak (ex_cur HX.out HD.out.cur hk);replace HD:=ak (HD.out.call hd.cur hd.hB hk);clear hd hk;refine hK.out _ _ ⟨(blk_cell HX.out.blk 0).trans rfl,(blk_cell HX.out.blk 1).trans rfl,(blk_cell HX.out.blk 2).trans rfl,(blk_cell HX.out.blk 3).trans rfl,(blk_cell HX.out.blk 4).trans rfl⟩ (fun hHeld=>?_);clear hK K;refine na_ ?_;refine one_ (i:=4) (N:=some 35) #[tT,tT,tT,tT,tT,fF,fF,fF,tT,fF,fF] rfl rfl (one_of HT_.out (by kernel_rfl)) (by decide) (fun K hK=>?_);refine gs_ Try.func23 #[.agg #[.slice A0 L.length c0,.slice A1 V.length c1,.slice A2 D.length c2,.int .i64 P,.int .i64 T],.agg #[.int .i64 y0,.int .i64 y1,.int .i64 y2,.int .i64 y3,.int .i64 y4,.int .i64 y5,.int .i64 y6]] ?_;refine (walkOnE (by have h:=HN.out;omega) HX.out.rL HX.out.rV HX.out.rD HD.out.size P T y0 y1 y2 y3 y4 y5 y6).mono ?_;rintro e wv ⟨n0,n1,n2,L',V',D',P',T',q,rfl,hr,hn,hb⟩;refine ⟨_,rfl,?_⟩;have HR:=ak hr;have HN2:=ak hn;replace Bq2:=ak (bb_ Bq2.out hb);replace Bq6:=ak (bb_ Bq6.out hb);replace HX:=ak (HX.out.below hb);replace HD:=ak (HD.out.below hb);clear hr hn hb;refine hK.out _ _ ⟨(blk_cell HX.out.blk 0).trans rfl,(blk_cell HX.out.blk 1).trans rfl,(blk_cell HX.out.blk 2).trans rfl,(blk_cell HX.out.blk 3).trans rfl,(blk_cell HX.out.blk 4).trans rfl⟩ (fun hHeld=>?_);clear hK K;refine na_ ?_;refine pz_ HT_ 5 (some 30) #[tT,tT,tT,tT,tT,tT,fF,fF,tT,fF,fF] ?_;refine pz_ HT_ 6 (some 36) #[tT,tT,tT,tT,tT,tT,tT,fF,tT,fF,fF] ?_;refine pz_ HT_ 7 (some 37) #[tT,tT,tT,tT,tT,tT,tT,tT,tT,fF,fF] ?_;exact norm_ (by simp only [putAll,Act.put,List.setIfInBounds_toArray,List.set_cons_zero,List.set_cons_succ]) (hCont (q6,.agg #[.int .i64 y0,.int .i64 y1,.int .i64 y2,.int .i64 y3,.int .i64 y4,.int .i64 y5,.int .i64 y6],n0,n1,n2,P',T',q) _ ⟨hHeld,L',V',D',HR.out,HN2.out,HX.out,HD.out.mono (by omega),Bq2.out,Bq6.out,Gq6.out,Nq2_q6.out,Nq3_q6.out⟩)
      rintro ⟨q6,y,n0,n1,n2,P',T',q⟩ wk ⟨hS_,L',V',D',h0_,h1_,h2_,h3_,h4_,h5_,h6_,h7_,h8_⟩
      (try dsimp only at h0_ h1_ h2_ h3_ h4_ h5_ h6_ h7_ h8_)
      have HR:=ak h0_
      have HN2:=ak h1_
      have HX:=ak h2_
      have HD:=ak h3_
      have Bq2:=ak h4_
      have Bq6:=ak h5_
      have Gq6:=ak h6_
      have Nq2_q6:=ak h7_
      have Nq3_q6:=ak h8_
      clear h0_ h1_ h2_ h3_ h4_ h5_ h6_ h7_ h8_ hS_ hHeld
      obtain ⟨B0,d0,e0_⟩:=Kd.R_slice HR.out.1;subst e0_;obtain ⟨B1,d1,e1_⟩:=Kd.R_slice HR.out.2.1;subst e1_;obtain ⟨B2,d2,e2_⟩:=Kd.R_slice HR.out.2.2;subst e2_
      refine nb_ ?_
      refine last_ (i:=9) (N:=none) #[tT,tT,tT,tT,tT,tT,tT,tT,tT,tT,fF] rfl rfl (one_of HT_.out (by kernel_rfl)) (by decide) (fun K hK=>?_)
      obtain ⟨hcz0,hcz1,hcz2,hcz3,hcz4⟩:=cz5_ Bq6.out;obtain ⟨hfz0,hfz1,hfz2,hfz3,hfz4⟩:=fz5_ Bq6.out
      refine skip_ (w1:=?_) (by rfl) rfl ?_ ?_
      rotate_left
      .
       go_simp
       rfl
      refine hK.out _ _ ?_
      clear hK K
      refine pz_ HT_ 10 (some 7) #[tT,tT,tT,tT,tT,tT,tT,tT,tT,tT,tT] ?_
      refine done_ (done_of HT_.out (by kernel_rfl)) ?_
      clear hcz0 hfz0 hcz1 hfz1 hcz2 hfz2 hcz3 hfz3 hcz4 hfz4
      have m0:=ak (ex_store HR.out Bq6.out Gq6.out P' T')
      have m1:=ak (ex_far HX.out Bq6.out Nq3_q6.out (.slice B0 L'.length d0) (.slice B1 V'.length d1) (.slice B2 D'.length d2) (.int .i64 P') (.int .i64 T'))
      have m2:=ak (HD.out.far5 Bq6.out (by decide) Gq6.out (.slice B0 L'.length d0) (.slice B1 V'.length d1) (.slice B2 D'.length d2) (.int .i64 P') (.int .i64 T'))
      have m3:=ak (farN5_ Bq2.out Nq2_q6.out (.slice B0 L'.length d0) (.slice B1 V'.length d1) (.slice B2 D'.length d2) (.int .i64 P') (.int .i64 T'))
      clear HR HX HD Bq2 Bq6
      generalize (((((wk.setCell ⟨q6,0,none⟩ (.slice B0 L'.length d0)).setCell ⟨q6,1,none⟩ (.slice B1 V'.length d1)).setCell ⟨q6,2,none⟩ (.slice B2 D'.length d2)).setCell ⟨q6,3,none⟩ (.int .i64 P')).setCell ⟨q6,4,none⟩ (.int .i64 T')) = wl at m0 m1 m2 m3 ⊢
      have HY:=m0
      have HX:=m1
      have HD:=m2
      have Bq2:=m3
      clear m0 m1 m2 m3 HT_ HW_
      cases q with
      | true=>
       obtain ⟨hcz0,hcz1,hcz2,hcz3,hcz4⟩:=cz5_ HY.out.blk;obtain ⟨hfz0,hfz1,hfz2,hfz3,hfz4⟩:=fz5_ HY.out.blk
       obtain ⟨hczy0,hczy1,hczy2,hczy3,hczy4⟩:=cz5_ HX.out.blk;obtain ⟨hfzy0,hfzy1,hfzy2,hfzy3,hfzy4⟩:=fz5_ HX.out.blk
       go_wp2_with (first|((with_reducible refine gate_store (t:=30) (p:=3) rfl ?_);refine store_event (t:=30) (p:=3) (v:=?vz_) (w1:=(((((wl.setCell ⟨q3,0,none⟩ (.slice B0 L'.length d0)).setCell ⟨q3,1,none⟩ (.slice B1 V'.length d1)).setCell ⟨q3,2,none⟩ (.slice B2 D'.length d2)).setCell ⟨q3,3,none⟩ (.int .i64 P')).setCell ⟨q3,4,none⟩ (.int .i64 T'))) ?hg ?ho ?hn ?hr ?_;(case ho=>rfl);(case hg=>rfl);(case hn=>rfl);(case hr=>first|(go_simp;done)|(go_simp;rfl));intro wm hw;clear hcz0 hfz0 hcz1 hfz1 hcz2 hfz2 hcz3 hfz3 hcz4 hfz4;clear hczy0 hfzy0 hczy1 hfzy1 hczy2 hfzy2 hczy3 hfzy3 hczy4 hfzy4;have n0_:=ex_store (And.intro HY.out.rL (And.intro HY.out.rV HY.out.rD)) HX.out.blk Gq3.out P' T';rw [<- hw] at n0_;have n1_:=HD.out.far5 HX.out.blk (by decide) Gq3.out (.slice B0 L'.length d0) (.slice B1 V'.length d1) (.slice B2 D'.length d2) (.int .i64 P') (.int .i64 T');rw [<- hw] at n1_;have m_:=farN5_ Bq2.out Nq2_q3.out (.slice B0 L'.length d0) (.slice B1 V'.length d1) (.slice B2 D'.length d2) (.int .i64 P') (.int .i64 T');rw [<- hw] at m_;replace Bq2:=ak m_;clear m_ hw HX HD;have HX:=ak n0_;have HD:=ak n1_;clear n0_ n1_))
       go_meet
       case rel=>exact ⟨_,_,_,L',V',D',P',T',HX,⟨HN2.out.1,HN2.out.2.2.2 (by first|rfl|trivial),HN2.out.2.2.1⟩,HD,Bq2⟩
      | false=>
       go_wp2_with fail
       go_meet
       case rel=>exact ⟨_,_,_,L,V,D,P,T,HX,HN,HD,Bq2⟩
     case rest=>
      clear HX HD Bq2 HN
      obtain ⟨v0,v1,v2,L,V,D,P,T,HX,HN,HD,Bq2⟩:=hcut
      go_wp2_with fail
      cases gk with
      | zero=>have h1:=Hk.out;omega
      | succ gk=>
       go_roundg gk
       case measure=>omega
       case rel=>exact ⟨k - 1,(by first|rfl|rw [w64 (by omega) (by omega)]),⟨by have h1:=Hk.out;refine ⟨?_,?_,?_⟩ <;> omega⟩,v0,v1,v2,L,V,D,P,T,HX,HN,⟨HD.out.mono (by omega)⟩,Bq2⟩
    .
     have qk:decide (0 < k) = false:=decide_eq_false hk
     go_wp2_with fail
     go_meet
     case rel=>exact ⟨v0,v1,v2,L,V,D,P,T,HX,HN,⟨HD.out.mono (by omega)⟩,Bq2⟩
  case rest=>
   clear HX HN HD Bq2
   obtain ⟨v0,v1,v2,L,V,D,P,T,HX,HN,HD,Bq2⟩:=hcut
   go_upto_block 2 with (first|((with_reducible refine gate_callee (f:=81) rfl ?_);refine ga_ (some 41) Try.func81 #[.pointer (some ⟨g,0,none⟩),.int .i64 24] ?_;refine (pickE hx HD.out.cur HD.out.hB (by omega) 24 (by decide)).mono ?_;rintro e wc ⟨u,rfl,h0_,h1_,hc,hb2,hk⟩;refine ⟨_,rfl,?_⟩;have Hu:=ak (And.intro h0_ h1_);clear h0_ h1_;replace Bq2:=ak (HD.out.cur.blk hk Bq2.out (by decide));replace HX:=ak (ex_cur HX.out HD.out.cur hk);replace HD:=ak (HD.out.call hc hb2 hk);clear hc hb2 hk))
   (try simp only [Act.put,List.setIfInBounds_toArray,List.set_cons_zero,List.set_cons_succ])
   go_cut [] (fun wc_=>∃ (v0 v1 v2:Value) (L:List S37) (V D:List Bool) (P T:Int),Aside0 (ExS wc_ w.heap.size q3 v0 v1 v2 L V D P T) /\ Aside0 (L.length <= 13 /\ V.length <= 8 /\ D.length <= 9) /\ Aside0 (DrE w0 w wc_ g x (b + 296)) /\ Aside0 (wc_.heap[q2]? = some (.cells #[.slice none 0 0,.slice none 0 0,.slice none 0 0,.int .i64 0,.int .i64 0] 30 (0,0))))
   case first=>
    by_cases k0:u = 0
    .
     subst k0
     go_wp2_with (first|((with_reducible refine gate_dst (N:=45) rfl ?_);refine Kd.R_lit (Kd.int .i64) _ 3 ?hg (N:=45) ?hd (xs:=[(-1),5,8]) (inner:=[.int .i64 (-1),.int .i64 5,.int .i64 8]) (ok:=fun _=>True) (okp:=fun _=>True) ?hr ?hp (fun _ hk=>hk) trivial (Below.refl _ _) (Nat.le_refl _) (show 3 <= 9223372036854775807 from by decide) ?_;(case hd=>rfl);(case hg=>rfl);(case hr=>first|(go_simp;done)|(go_simp;rfl));(case hp=>exact reps_ints _ _ _ [(-1),5,8]);intro v_ wd ho hb hg_ hn_;obtain ⟨lz,hl_⟩:∃ z:List Int,z = [(-1),5,8]:=⟨_,rfl⟩;rw [<- hl_] at ho;have Pz:=ak (show 0 < lz.length from by rw [hl_];exact Nat.zero_lt_succ _);obtain ⟨Az,cz,ee_⟩:=Kd.R_slice ho;subst ee_;have Lz:=ak ho;replace Bq2:=ak (bb_ Bq2.out hb);replace HX:=ak (HX.out.below hb);replace HD:=ak (HD.out.below hb);clear ho hb hg_ hn_ hl_)|((with_reducible refine gate_callee (f:=86) rfl ?_);refine ga_ (some 46) Try.func86 #[.pointer (some ⟨g,0,none⟩),.slice Az lz.length cz] ?_;refine (amongE hx HD.out.cur HD.out.hB (by omega) Pz.out Lz.out).mono ?_;rintro e we ⟨v,rfl,hm_,hc,hb2,hk⟩;refine ⟨_,rfl,?_⟩;clear hm_ Lz Pz;replace Bq2:=ak (HD.out.cur.blk hk Bq2.out (by decide));replace HX:=ak (ex_cur HX.out HD.out.cur hk);replace HD:=ak (HD.out.call hc hb2 hk);clear hc hb2 hk;obtain ⟨hcz0,hcz1,hcz2,hcz3,hcz4⟩:=cz5_ HX.out.blk;obtain ⟨hfz0,hfz1,hfz2,hfz3,hfz4⟩:=fz5_ HX.out.blk))
     go_meet
     case rel=>exact ⟨_,_,_,L,V,D,_,_,⟨HX.out.put3 _⟩,⟨HN.out.1,Nat.le_of_eq HN.out.2.1,Nat.le_succ_of_le HN.out.2.2⟩,⟨(HD.out.far HX.out.blk (by decide) Gq3.out 3 _).mono (by omega)⟩,⟨blk_far (p:=⟨q3,3,none⟩) Bq2.out Nq2_q3.out _⟩⟩
    have n0:(u == 0) = false:=beq_eq_false_iff_ne.mpr k0
    clear k0
    by_cases k1:u = 1
    .
     subst k1
     go_wp2_with (first|((with_reducible refine gate_dst (N:=51) rfl ?_);refine Kd.R_lit (Kd.int .i64) _ 3 ?hg (N:=51) ?hd (xs:=[(-1),0,100001]) (inner:=[.int .i64 (-1),.int .i64 0,.int .i64 100001]) (ok:=fun _=>True) (okp:=fun _=>True) ?hr ?hp (fun _ hk=>hk) trivial (Below.refl _ _) (Nat.le_refl _) (show 3 <= 9223372036854775807 from by decide) ?_;(case hd=>rfl);(case hg=>rfl);(case hr=>first|(go_simp;done)|(go_simp;rfl));(case hp=>exact reps_ints _ _ _ [(-1),0,100001]);intro v_ wd ho hb hg_ hn_;obtain ⟨lz,hl_⟩:∃ z:List Int,z = [(-1),0,100001]:=⟨_,rfl⟩;rw [<- hl_] at ho;have Pz:=ak (show 0 < lz.length from by rw [hl_];exact Nat.zero_lt_succ _);obtain ⟨Az,cz,ee_⟩:=Kd.R_slice ho;subst ee_;have Lz:=ak ho;replace Bq2:=ak (bb_ Bq2.out hb);replace HX:=ak (HX.out.below hb);replace HD:=ak (HD.out.below hb);clear ho hb hg_ hn_ hl_)|((with_reducible refine gate_callee (f:=86) rfl ?_);refine ga_ (some 52) Try.func86 #[.pointer (some ⟨g,0,none⟩),.slice Az lz.length cz] ?_;refine (amongE hx HD.out.cur HD.out.hB (by omega) Pz.out Lz.out).mono ?_;rintro e we ⟨v,rfl,hm_,hc,hb2,hk⟩;refine ⟨_,rfl,?_⟩;clear hm_ Lz Pz;replace Bq2:=ak (HD.out.cur.blk hk Bq2.out (by decide));replace HX:=ak (ex_cur HX.out HD.out.cur hk);replace HD:=ak (HD.out.call hc hb2 hk);clear hc hb2 hk;obtain ⟨hcz0,hcz1,hcz2,hcz3,hcz4⟩:=cz5_ HX.out.blk;obtain ⟨hfz0,hfz1,hfz2,hfz3,hfz4⟩:=fz5_ HX.out.blk))
     go_meet
     case rel=>exact ⟨_,_,_,L,V,D,_,_,⟨HX.out.put4 _⟩,⟨HN.out.1,Nat.le_of_eq HN.out.2.1,Nat.le_succ_of_le HN.out.2.2⟩,⟨(HD.out.far HX.out.blk (by decide) Gq3.out 4 _).mono (by omega)⟩,⟨blk_far (p:=⟨q3,4,none⟩) Bq2.out Nq2_q3.out _⟩⟩
    have n1:(u == 1) = false:=beq_eq_false_iff_ne.mpr k1
    clear k1
    by_cases k2:u = 2
    .
     subst k2
     have hl8:V.length = 8:=HN.out.2.1
     obtain ⟨gv,cv,ev,hge,_⟩:=own_block_ HX.out.rV (by omega)
     subst ev
     obtain ⟨cs,hcs⟩:=Kd.R_typed HX.out.rV gv rfl
     replace hcs:=ak hcs
     replace hge:=ak hge
     obtain ⟨hx,hf⟩:=Kd.R_celln false HX.out.rV 0 (by omega) (by omega)
     replace hx:wc.cell? ⟨gv,0,none⟩ = _:=hx
     replace hf:wc.frozen? ⟨gv,0,none⟩ = false:=hf
     have h6:wc.cell? ⟨q3,1,none⟩ = some (.slice (some ⟨gv,0,none⟩) V.length cv):=(blk_cell HX.out.blk 1).trans rfl
     have q1:decide ((0:Int) < (V.length:Int)) = true:=decide_eq_true (by omega)
     have q1':((0:Int) < (V.length:Int)) = True:=eq_true (by omega)
     have q2':(0 < V.length) = True:=eq_true (by omega)
     clear hl8
     go_wp2_with fail
     go_meet
     case rel=>exact ⟨_,_,_,L,V.set (0:Int).toNat false,D,P,T,⟨HX.out.putV 0 false⟩,⟨HN.out.1,by rw [List.length_set];exact Nat.le_of_eq HN.out.2.1,Nat.le_succ_of_le HN.out.2.2⟩,⟨(HD.out.far hcs.out (by decide) hge.out 0 _).mono (by omega)⟩,⟨blk_far (p:=⟨gv,0,none⟩) Bq2.out (blk_ne Bq2.out hcs.out (by decide)) _⟩⟩
    have n2:(u == 2) = false:=beq_eq_false_iff_ne.mpr k2
    clear k2
    by_cases k3:u = 3
    .
     subst k3
     have hx2:wc.cell? ⟨q3,2,none⟩ = some v2:=(blk_cell HX.out.blk 2).trans rfl
     go_wp2_with (first|((with_reducible refine gate_builtin (b:=.append) (xs:=#[.tmp 62,.tmp 63]) rfl ?_);at_builtin;refine Kd.R_append Kd.bool w.heap.size rfl (.tmp 62) (.tmp 63) 23 4 (.bool false) 1 rfl Try.underlying23 info4 rfl (by decide) (by omega) v2 D false [.bool false] (fun k_=>some k_ ≠ v1.ownBlock) (fun _=>False) rfl rfl ?aP (fun _ hk=>hk.elim) ?aF ?aO (Below.refl _ _) ?aS ?aL ?_;(case aP=>exact rfl);(case aF=>exact (fun k_ hk=>Kd.fresh' (Kd.R_lt HX.out.rV) k_ hk));(case aO=>exact HX.out.rD);(case aS=>exact HD.out.size);(case aL=>have h:=HN.out;omega);intro v3 wd ho hb hg hat;obtain ⟨D2,hD2⟩:∃ z,z = D ++ [false]:=⟨_,rfl⟩;rw [<- hD2] at ho;have HN3:=ak (show D2.length <= 9 from by have h:=HN.out;rw [hD2,List.length_append];exact Nat.succ_le_succ h.2.2);clear hD2;obtain ⟨A3,c3,e3⟩:=Kd.R_slice ho;subst e3;have HR:=ak (show Kd.R k37 37 wd w.heap.size (fun _=>True) v0 L /\ Kd.R Kd.bool 4 wd w.heap.size (fun k_=>some k_ ≠ (.slice A3 D2.length c3:Value).ownBlock) v1 V /\ Kd.R Kd.bool 4 wd w.heap.size (fun k_=>some k_ ≠ v1.ownBlock) (.slice A3 D2.length c3) D2 from ⟨Kd.R_over' HX.out.rL (Kd.R_typed HX.out.rD) (by decide) hg,⟨fun k_ hk_=>Ap.grown HX.out.rV (fun z hz=>HX.out.rV.1 z hz) hat k_ hk_,(Kd.R_ap HX.out.rV rfl (fun z hz=>HX.out.rV.1 z hz) hg).2⟩,ho⟩);have Bq3:=ak (blk_ap HX.out.rD HX.out.blk (by decide) hg);replace Bq2:=ak (blk_ap HX.out.rD Bq2.out (by decide) hg);replace HD:=ak (HD.out.grow (Kd.R_base2 HX.out.rD) (own_neB HD.out.cur HX.out.rD) hb hg);clear ho hb hg hat HX hx2;obtain ⟨hcz0,hcz1,hcz2,hcz3,hcz4⟩:=cz5_ Bq3.out;obtain ⟨hfz0,hfz1,hfz2,hfz3,hfz4⟩:=fz5_ Bq3.out))
     go_meet
     case rel=>exact ⟨_,_,_,L,V,_,_,_,⟨ex_put2 HR.out Bq3.out Gq3.out⟩,⟨HN.out.1,Nat.le_of_eq HN.out.2.1,HN3.out⟩,⟨(HD.out.far Bq3.out (by decide) Gq3.out 2 _).mono (by omega)⟩,⟨blk_far (p:=⟨q3,2,none⟩) Bq2.out Nq2_q3.out _⟩⟩
    have n3:(u == 3) = false:=beq_eq_false_iff_ne.mpr k3
    clear k3
    go_wp2_with fail
    go_meet
    case rel=>exact ⟨_,_,_,L,V,D,_,_,HX,⟨HN.out.1,Nat.le_of_eq HN.out.2.1,Nat.le_succ_of_le HN.out.2.2⟩,⟨HD.out.mono (by omega)⟩,Bq2⟩
   case rest=>
    clear HX HN HD Bq2
    obtain ⟨v0,v1,v2,L,V,D,P,T,HX,HN,HD,Bq2⟩:=hcut
    obtain ⟨A0,c0,e0_⟩:=Kd.R_slice HX.out.rL;subst e0_;obtain ⟨A1,c1,e1_⟩:=Kd.R_slice HX.out.rV;subst e1_;obtain ⟨A2,c2,e2_⟩:=Kd.R_slice HX.out.rD;subst e2_
    obtain ⟨hcz0,hcz1,hcz2,hcz3,hcz4⟩:=cz5_ HX.out.blk;obtain ⟨hfz0,hfz1,hfz2,hfz3,hfz4⟩:=fz5_ HX.out.blk
    obtain ⟨hczy0,hczy1,hczy2,hczy3,hczy4⟩:=cz5_ Bq2.out;obtain ⟨hfzy0,hfzy1,hfzy2,hfzy3,hfzy4⟩:=fz5_ Bq2.out
    go_wp2_with fail
    refine bodyPost_ret (results_cell_row rfl _ _ q2 30 #[.slice A0 L.length c0,.slice A1 V.length c1,.slice A2 D.length c2,.int .i64 P,.int .i64 T] (0,0) _ rfl (own_blk5 Bq2.out (.slice A0 L.length c0) (.slice A1 V.length c1) (.slice A2 D.length c2) (.int .i64 P) (.int .i64 T)) Try.underlying30 rfl (by kernel_rfl)) rfl ?_
    exact ⟨A0,A1,A2,c0,c1,c2,L,V,D,P,T,rr_,HN.out,(HD.out.far5 Bq2.out (by decide) Gq2.out (.slice A0 L.length c0) (.slice A1 V.length c1) (.slice A2 D.length c2) (.int .i64 P) (.int .i64 T)).mono (by omega),Kd.R_mono (own_R5 HX.out.rL Bq2.out (by decide) (.slice A0 L.length c0) (.slice A1 V.length c1) (.slice A2 D.length c2) (.int .i64 P) (.int .i64 T)) (fun _ _=>trivial),Kd.R_mono (own_R5 HX.out.rV Bq2.out (by decide) (.slice A0 L.length c0) (.slice A1 V.length c1) (.slice A2 D.length c2) (.int .i64 P) (.int .i64 T)) (fun _ _=>trivial),Kd.R_mono (own_R5 HX.out.rD Bq2.out (by decide) (.slice A0 L.length c0) (.slice A1 V.length c1) (.slice A2 D.length c2) (.int .i64 P) (.int .i64 T)) (fun _ _=>trivial)⟩
structure XRow (W:World) (base:Nat) (A0 A1 A2:Option Addr) (c0 c1 c2:Nat) (L:List S37) (V D:List Bool):Prop where
 nL:L.length <= 13
 nV:V.length <= 8
 nD:D.length <= 9
 rL:Kd.R k37 37 W base (fun _=>True) (.slice A0 L.length c0) L
 rV:Kd.R Kd.bool 4 W base (fun _=>True) (.slice A1 V.length c1) V
 rD:Kd.R Kd.bool 4 W base (fun _=>True) (.slice A2 D.length c2) D
section
variable {W W':World} {base b2:Nat} {A0 A1 A2:Option Addr} {c0 c1 c2:Nat} {L:List S37} {V D:List Bool}
theorem XRow.below (h:XRow W base A0 A1 A2 c0 c1 c2 L V D) (hb:Below W.heap.size W W'):XRow W' base A0 A1 A2 c0 c1 c2 L V D:=⟨h.nL,h.nV,h.nD,Kd.R_below h.rL hb,Kd.R_below h.rV hb,Kd.R_below h.rD hb⟩
theorem XRow.lower (h:XRow W base A0 A1 A2 c0 c1 c2 L V D) (hb:b2 <= base):XRow W b2 A0 A1 A2 c0 c1 c2 L V D:=⟨h.nL,h.nV,h.nD,Kd.R_lower h.rL hb,Kd.R_lower h.rV hb,Kd.R_lower h.rD hb⟩
theorem XRow.sets {q:Nat} {b0 b1 b2 b3 b4:Value} (h:XRow W base A0 A1 A2 c0 c1 c2 L V D) (hb:W.heap[q]? = some (.cells #[b0,b1,b2,b3,b4] 30 (0,0))) (a0 a1 a2 a3 a4:Value):XRow (((((W.setCell ⟨q,0,none⟩ (a0)).setCell ⟨q,1,none⟩ (a1)).setCell ⟨q,2,none⟩ (a2)).setCell ⟨q,3,none⟩ (a3)).setCell ⟨q,4,none⟩ (a4)) base A0 A1 A2 c0 c1 c2 L V D:=⟨h.nL,h.nV,h.nD,own_R5 h.rL hb (by decide) _ _ _ _ _,own_R5 h.rV hb (by decide) _ _ _ _ _,own_R5 h.rD hb (by decide) _ _ _ _ _⟩
theorem XRow.far {q t:Nat} {cs:Array Value} (h:XRow W base A0 A1 A2 c0 c1 c2 L V D) (hb:W.heap[q]? = some (.cells cs t (0,0))) (h1:37 ≠ t) (h2:4 ≠ t) (j:Nat) (v:Value):XRow (W.setCell ⟨q,j,none⟩ v) base A0 A1 A2 c0 c1 c2 L V D:=⟨h.nL,h.nV,h.nD,Kd.R_mono (Kd.R_far (p:=⟨q,j,none⟩) (own_ne_ h.rL rfl hb h1) (fun _ hk=>hk.2) v) (fun _ hk=>hk.1),Kd.R_mono (Kd.R_far (p:=⟨q,j,none⟩) (own_ne_ h.rV rfl hb h2) (fun _ hk=>hk.2) v) (fun _ hk=>hk.1),Kd.R_mono (Kd.R_far (p:=⟨q,j,none⟩) (own_ne_ h.rD rfl hb h2) (fun _ hk=>hk.2) v) (fun _ hk=>hk.1)⟩
end
set_option maxHeartbeats 64000000 in
set_option maxRecDepth 100000 in
theorem drawE {w:World} {A:Option Addr} {c:Nat} {l:List Int} (hx:BytesE l) (hr:Kd.C (Kd.int .u8) w A l.length l) (hc:l.length <= c) :
  Calls Try.prog 97 #[.slice A l.length c] w fun e w'=>∃ (A0 A1 A2:Option Addr) (c0 c1 c2:Nat) (L:List S37) (V D:List Bool) (P T:Int),e = .returned (.agg #[.slice A0 L.length c0,.slice A1 V.length c1,.slice A2 D.length c2,.int .i64 P,.int .i64 T]) /\ XRow w' w.heap.size A0 A1 A2 c0 c1 c2 L V D /\ Below w.heap.size w w':=by
 have hu30:=Try.underlying30
 have hu96:=Try.underlying96
 have HB:=ak (Below.refl w.heap.size w)
 go_enter Try.func97,Try.ntmps97
 go_wp2_with (first|((with_reducible refine gate_dst (N:=2) rfl ?_);refine box_event ?hg (N:=2) ?hd (cs:=#[.slice none 0 0,.slice none 0 0,.slice none 0 0,.int .i64 0,.int .i64 0]) (t:=30) ?hr ?_;(case hd=>rfl);(case hg=>rfl);(case hr=>first|(go_simp;done)|(go_simp;rfl));intro q2 hg wa hbox hb;have Gq2:=ak (show w.heap.size <= q2 from by rw [hg];exact below_size HB.out);have Bq2:=ak hbox;replace HB:=ak (below_step HB.out hb);clear hb hbox hg)|((with_reducible refine gate_dst (N:=6) rfl ?_);refine box_event ?hg (N:=6) ?hd (cs:=#[.slice A l.length c,.int .i64 0,.int .u64 0]) (t:=96) ?hr ?_;(case hd=>rfl);(case hg=>rfl);(case hr=>first|(go_simp;done)|(go_simp;rfl));intro g hg wb hbx hb;have HD:=ak (show DrE w wb wb g l 0 from ⟨⟨0,0,⟨_,_,hbx,(by rw [hg];exact below_size HB.out),hr⟩,by omega,by omega⟩,below_step HB.out hb,KeepBut.refl _ _ _,below_size (below_step HB.out hb)⟩);replace Bq2:=ak (bb_ Bq2.out hb);clear hb hbx hg HB)|((with_reducible refine gate_callee (f:=74) rfl ?_);refine ga_ (some 8) Try.func74 #[.pointer (some ⟨g,0,none⟩)] ?_;refine (explorationE hx HD.out.cur HD.out.hB (by omega)).mono ?_;rintro e wc ⟨A0,A1,A2,c0,c1,c2,L,V,D,P,T,rfl,⟨n0,n1,n2⟩,hd,r0,r1,r2⟩;refine ⟨_,rfl,?_⟩;have hk:=hd.hK;replace Bq2:=ak (HD.out.cur.blk hk Bq2.out (by decide));have HX:=ak (show XRow wc w.heap.size A0 A1 A2 c0 c1 c2 L V D from ⟨n0,n1,n2,Kd.R_lower r0 HD.out.hw,Kd.R_lower r1 HD.out.hw,Kd.R_lower r2 HD.out.hw⟩);have HB:=ak hd.hB;clear n0 n1 n2 hd r0 r1 r2 hk HD;obtain ⟨hcz0,hcz1,hcz2,hcz3,hcz4⟩:=cz5_ Bq2.out;obtain ⟨hfz0,hfz1,hfz2,hfz3,hfz4⟩:=fz5_ Bq2.out))
 refine bodyPost_ret (results_cell_row rfl _ _ q2 30 #[.slice A0 L.length c0,.slice A1 V.length c1,.slice A2 D.length c2,.int .i64 P,.int .i64 T] (0,0) _ rfl (own_blk5 Bq2.out (.slice A0 L.length c0) (.slice A1 V.length c1) (.slice A2 D.length c2) (.int .i64 P) (.int .i64 T)) Try.underlying30 rfl (by kernel_rfl)) rfl ?_
 exact ⟨A0,A1,A2,c0,c1,c2,L,V,D,P,T,rr_,HX.out.sets Bq2.out (.slice A0 L.length c0) (.slice A1 V.length c1) (.slice A2 D.length c2) (.int .i64 P) (.int .i64 T),below_set (below_set (below_set (below_set (below_set HB.out Gq2.out) Gq2.out) Gq2.out) Gq2.out) Gq2.out⟩
set_option maxHeartbeats 64000000 in
set_option maxRecDepth 100000 in
theorem drawNextE {w:World} {A:Option Addr} {c:Nat} {l:List Int} (hx:BytesE l) (hr:Kd.C (Kd.int .u8) w A l.length l) (hc:l.length <= c) :
  Calls Try.prog 55 #[.slice A l.length c] w fun e w'=>∃ (A0 A1 A2:Option Addr) (c0 c1 c2:Nat) (L:List S37) (V D:List Bool) (P T:Int),e = .returned (.agg #[.slice A0 L.length c0,.slice A1 V.length c1,.slice A2 D.length c2,.int .i64 P,.int .i64 T]) /\ XRow w' w.heap.size A0 A1 A2 c0 c1 c2 L V D /\ Below w.heap.size w w':=by
 have hu30:=Try.underlying30
 have HB:=ak (Below.refl w.heap.size w)
 go_enter Try.func55,Try.ntmps55
 go_wp2_with (first|((with_reducible refine gate_dst (N:=2) rfl ?_);refine box_event ?hg (N:=2) ?hd (cs:=#[.slice none 0 0,.slice none 0 0,.slice none 0 0,.int .i64 0,.int .i64 0]) (t:=30) ?hr ?_;(case hd=>rfl);(case hg=>rfl);(case hr=>first|(go_simp;done)|(go_simp;rfl));intro q2 hg wa hbox hb;have Gq2:=ak (show w.heap.size <= q2 from by rw [hg];exact below_size HB.out);have Bq2:=ak hbox;replace HB:=ak (below_step HB.out hb);clear hb hbox hg)|((with_reducible refine gate_callee (f:=97) rfl ?_);refine ga_ (some 4) Try.func97 #[.slice A l.length c] ?_;refine (drawE hx (Kd.C_below hr HB.out) hc).mono ?_;rintro e wc ⟨A0,A1,A2,c0,c1,c2,L,V,D,P,T,rfl,hX,hb⟩;refine ⟨_,rfl,?_⟩;replace Bq2:=ak (bb_ Bq2.out hb);have HX:=ak (hX.lower (below_size HB.out));replace HB:=ak (below_step HB.out hb);clear hX hb;obtain ⟨hcz0,hcz1,hcz2,hcz3,hcz4⟩:=cz5_ Bq2.out;obtain ⟨hfz0,hfz1,hfz2,hfz3,hfz4⟩:=fz5_ Bq2.out))
 refine bodyPost_ret (results_cell_row rfl _ _ q2 30 #[.slice A0 L.length c0,.slice A1 V.length c1,.slice A2 D.length c2,.int .i64 P,.int .i64 T] (0,0) _ rfl (own_blk5 Bq2.out (.slice A0 L.length c0) (.slice A1 V.length c1) (.slice A2 D.length c2) (.int .i64 P) (.int .i64 T)) Try.underlying30 rfl (by kernel_rfl)) rfl ?_
 exact ⟨A0,A1,A2,c0,c1,c2,L,V,D,P,T,rr_,HX.out.sets Bq2.out (.slice A0 L.length c0) (.slice A1 V.length c1) (.slice A2 D.length c2) (.int .i64 P) (.int .i64 T),below_set (below_set (below_set (below_set (below_set HB.out Gq2.out) Gq2.out) Gq2.out) Gq2.out) Gq2.out⟩
set_option maxHeartbeats 64000000 in
set_option maxRecDepth 100000 in
theorem drawOpenE {w:World} {A:Option Addr} {c:Nat} {l:List Int} (hx:BytesE l) (hr:Kd.C (Kd.int .u8) w A l.length l) (hc:l.length <= c) :
  Calls Try.prog 58 #[.slice A l.length c] w fun e w'=>∃ (A0 A1 A2:Option Addr) (c0 c1 c2:Nat) (L:List S37) (V D:List Bool) (P T:Int),e = .returned (.agg #[.slice A0 L.length c0,.slice A1 V.length c1,.slice A2 D.length c2,.int .i64 P,.int .i64 T]) /\ XRow w' w.heap.size A0 A1 A2 c0 c1 c2 L V D /\ Below w.heap.size w w':=by
 have hu30:=Try.underlying30
 have HB:=ak (Below.refl w.heap.size w)
 go_enter Try.func58,Try.ntmps58
 go_wp2_with (first|((with_reducible refine gate_dst (N:=2) rfl ?_);refine box_event ?hg (N:=2) ?hd (cs:=#[.slice none 0 0,.slice none 0 0,.slice none 0 0,.int .i64 0,.int .i64 0]) (t:=30) ?hr ?_;(case hd=>rfl);(case hg=>rfl);(case hr=>first|(go_simp;done)|(go_simp;rfl));intro q2 hg wa hbox hb;have Gq2:=ak (show w.heap.size <= q2 from by rw [hg];exact below_size HB.out);have Bq2:=ak hbox;replace HB:=ak (below_step HB.out hb);clear hb hbox hg)|((with_reducible refine gate_callee (f:=97) rfl ?_);refine ga_ (some 4) Try.func97 #[.slice A l.length c] ?_;refine (drawE hx (Kd.C_below hr HB.out) hc).mono ?_;rintro e wc ⟨A0,A1,A2,c0,c1,c2,L,V,D,P,T,rfl,hX,hb⟩;refine ⟨_,rfl,?_⟩;replace Bq2:=ak (bb_ Bq2.out hb);have HX:=ak (hX.lower (below_size HB.out));replace HB:=ak (below_step HB.out hb);clear hX hb;obtain ⟨hcz0,hcz1,hcz2,hcz3,hcz4⟩:=cz5_ Bq2.out;obtain ⟨hfz0,hfz1,hfz2,hfz3,hfz4⟩:=fz5_ Bq2.out))
 refine bodyPost_ret (results_cell_row rfl _ _ q2 30 #[.slice A0 L.length c0,.slice A1 V.length c1,.slice A2 D.length c2,.int .i64 P,.int .i64 T] (0,0) _ rfl (own_blk5 Bq2.out (.slice A0 L.length c0) (.slice A1 V.length c1) (.slice A2 D.length c2) (.int .i64 P) (.int .i64 T)) Try.underlying30 rfl (by kernel_rfl)) rfl ?_
 exact ⟨A0,A1,A2,c0,c1,c2,L,V,D,P,T,rr_,HX.out.sets Bq2.out (.slice A0 L.length c0) (.slice A1 V.length c1) (.slice A2 D.length c2) (.int .i64 P) (.int .i64 T),below_set (below_set (below_set (below_set (below_set HB.out Gq2.out) Gq2.out) Gq2.out) Gq2.out) Gq2.out⟩
set_option maxHeartbeats 64000000 in
set_option maxRecDepth 100000 in
theorem drawOutE {w:World} {A:Option Addr} {c:Nat} {l:List Int} (hx:BytesE l) (hr:Kd.C (Kd.int .u8) w A l.length l) (hc:l.length <= c) :
  Calls Try.prog 59 #[.slice A l.length c] w fun e w'=>∃ (A0 A1 A2:Option Addr) (c0 c1 c2:Nat) (L:List S37) (V D:List Bool) (P T:Int),e = .returned (.agg #[.slice A0 L.length c0,.slice A1 V.length c1,.slice A2 D.length c2,.int .i64 P,.int .i64 T]) /\ XRow w' w.heap.size A0 A1 A2 c0 c1 c2 L V D /\ Below w.heap.size w w':=by
 have hu30:=Try.underlying30
 have HB:=ak (Below.refl w.heap.size w)
 go_enter Try.func59,Try.ntmps59
 go_wp2_with (first|((with_reducible refine gate_dst (N:=2) rfl ?_);refine box_event ?hg (N:=2) ?hd (cs:=#[.slice none 0 0,.slice none 0 0,.slice none 0 0,.int .i64 0,.int .i64 0]) (t:=30) ?hr ?_;(case hd=>rfl);(case hg=>rfl);(case hr=>first|(go_simp;done)|(go_simp;rfl));intro q2 hg wa hbox hb;have Gq2:=ak (show w.heap.size <= q2 from by rw [hg];exact below_size HB.out);have Bq2:=ak hbox;replace HB:=ak (below_step HB.out hb);clear hb hbox hg)|((with_reducible refine gate_callee (f:=97) rfl ?_);refine ga_ (some 4) Try.func97 #[.slice A l.length c] ?_;refine (drawE hx (Kd.C_below hr HB.out) hc).mono ?_;rintro e wc ⟨A0,A1,A2,c0,c1,c2,L,V,D,P,T,rfl,hX,hb⟩;refine ⟨_,rfl,?_⟩;replace Bq2:=ak (bb_ Bq2.out hb);have HX:=ak (hX.lower (below_size HB.out));replace HB:=ak (below_step HB.out hb);clear hX hb;obtain ⟨hcz0,hcz1,hcz2,hcz3,hcz4⟩:=cz5_ Bq2.out;obtain ⟨hfz0,hfz1,hfz2,hfz3,hfz4⟩:=fz5_ Bq2.out))
 refine bodyPost_ret (results_cell_row rfl _ _ q2 30 #[.slice A0 L.length c0,.slice A1 V.length c1,.slice A2 D.length c2,.int .i64 P,.int .i64 T] (0,0) _ rfl (own_blk5 Bq2.out (.slice A0 L.length c0) (.slice A1 V.length c1) (.slice A2 D.length c2) (.int .i64 P) (.int .i64 T)) Try.underlying30 rfl (by kernel_rfl)) rfl ?_
 exact ⟨A0,A1,A2,c0,c1,c2,L,V,D,P,T,rr_,HX.out.sets Bq2.out (.slice A0 L.length c0) (.slice A1 V.length c1) (.slice A2 D.length c2) (.int .i64 P) (.int .i64 T),below_set (below_set (below_set (below_set (below_set HB.out Gq2.out) Gq2.out) Gq2.out) Gq2.out) Gq2.out⟩
set_option maxHeartbeats 64000000 in
set_option maxRecDepth 100000 in
theorem drawLengthE {w:World} {A:Option Addr} {c:Nat} {l:List Int} (hx:BytesE l) (hr:Kd.C (Kd.int .u8) w A l.length l) (hc:l.length <= c) :
  Calls Try.prog 60 #[.slice A l.length c] w fun e w'=>∃ (A0 A1 A2:Option Addr) (c0 c1 c2:Nat) (L:List S37) (V D:List Bool) (P T:Int),e = .returned (.agg #[.slice A0 L.length c0,.slice A1 V.length c1,.slice A2 D.length c2,.int .i64 P,.int .i64 T]) /\ XRow w' w.heap.size A0 A1 A2 c0 c1 c2 L V D /\ Below w.heap.size w w':=by
 have hu30:=Try.underlying30
 have HB:=ak (Below.refl w.heap.size w)
 go_enter Try.func60,Try.ntmps60
 go_wp2_with (first|((with_reducible refine gate_dst (N:=2) rfl ?_);refine box_event ?hg (N:=2) ?hd (cs:=#[.slice none 0 0,.slice none 0 0,.slice none 0 0,.int .i64 0,.int .i64 0]) (t:=30) ?hr ?_;(case hd=>rfl);(case hg=>rfl);(case hr=>first|(go_simp;done)|(go_simp;rfl));intro q2 hg wa hbox hb;have Gq2:=ak (show w.heap.size <= q2 from by rw [hg];exact below_size HB.out);have Bq2:=ak hbox;replace HB:=ak (below_step HB.out hb);clear hb hbox hg)|((with_reducible refine gate_callee (f:=97) rfl ?_);refine ga_ (some 4) Try.func97 #[.slice A l.length c] ?_;refine (drawE hx (Kd.C_below hr HB.out) hc).mono ?_;rintro e wc ⟨A0,A1,A2,c0,c1,c2,L,V,D,P,T,rfl,hX,hb⟩;refine ⟨_,rfl,?_⟩;replace Bq2:=ak (bb_ Bq2.out hb);have HX:=ak (hX.lower (below_size HB.out));replace HB:=ak (below_step HB.out hb);clear hX hb;obtain ⟨hcz0,hcz1,hcz2,hcz3,hcz4⟩:=cz5_ Bq2.out;obtain ⟨hfz0,hfz1,hfz2,hfz3,hfz4⟩:=fz5_ Bq2.out))
 refine bodyPost_ret (results_cell_row rfl _ _ q2 30 #[.slice A0 L.length c0,.slice A1 V.length c1,.slice A2 D.length c2,.int .i64 P,.int .i64 T] (0,0) _ rfl (own_blk5 Bq2.out (.slice A0 L.length c0) (.slice A1 V.length c1) (.slice A2 D.length c2) (.int .i64 P) (.int .i64 T)) Try.underlying30 rfl (by kernel_rfl)) rfl ?_
 exact ⟨A0,A1,A2,c0,c1,c2,L,V,D,P,T,rr_,HX.out.sets Bq2.out (.slice A0 L.length c0) (.slice A1 V.length c1) (.slice A2 D.length c2) (.int .i64 P) (.int .i64 T),below_set (below_set (below_set (below_set (below_set HB.out Gq2.out) Gq2.out) Gq2.out) Gq2.out) Gq2.out⟩
theorem vInts_l0 (l:List Int) (hl:l.length <= 1000000) (d:Nat):∀ (k:Nat) (i:Int),0 <= i -> i + d = l.length -> d < k -> laws_vInts.l0 k l l i = some true:=by
 induction d with
 | zero=>
  intro k i h0 h1 h2
  obtain ⟨k,rfl⟩:∃ m,k = m + 1:=⟨k - 1,by omega⟩
  rw [laws_vInts.l0,if_neg (by omega)]
 | succ d ih=>
  intro k i h0 h1 h2
  obtain ⟨k,rfl⟩:∃ m,k = m + 1:=⟨k - 1,by omega⟩
  rw [laws_vInts.l0,if_pos (by omega),if_pos h0,if_pos (by omega),if_pos rfl,w64 (x:=i + 1) (by omega) (by omega)]
  exact ih k (i + 1) (by omega) (by omega) (by omega)
theorem vInts_eq {l:List Int} (hl:l.length <= 1000000):laws_vInts.f 1000500 l l = some true:=by
 unfold laws_vInts.f
 rw [if_pos rfl]
 exact vInts_l0 l hl l.length _ 0 (by omega) (by omega) (by omega)
theorem vHas_l0 (l:List Int) (hl:l.length <= 1000000) (x:Int) (d:Nat):∀ (k i:Nat),i + d = l.length -> d < k -> laws_vHas.l0 k l x (i:Int) = some (decide (x ∈ l.drop i)):=by
 induction d with
 | zero=>
  intro k i h1 h2
  obtain ⟨k,rfl⟩:∃ m,k = m + 1:=⟨k - 1,by omega⟩
  rw [laws_vHas.l0,if_neg (by omega),List.drop_of_length_le (by omega)]
  rfl
 | succ d ih=>
  intro k i h1 h2
  obtain ⟨k,rfl⟩:∃ m,k = m + 1:=⟨k - 1,by omega⟩
  have hw:wrap64 ((i:Int) + 1) = ((i + 1:Nat):Int):=by unfold wrap64;omega
  have ed:l.drop i = rd l (i:Int) :: l.drop (i + 1):=by
   rw [List.drop_eq_getElem_cons (by omega)]
   unfold rd
   rw [Int.toNat_natCast,List.getD_eq_getElem?_getD,List.getElem?_eq_getElem (by omega)]
   rfl
  rw [laws_vHas.l0,if_pos (by omega),if_pos (by omega),hw,ed]
  by_cases q:rd l (i:Int) = x
  .
   rw [if_pos q,decide_eq_true (by rw [q];exact List.mem_cons_self)]
  .
   rw [if_neg q,ih k (i + 1) (by omega) (by omega)]
   by_cases h:x ∈ l.drop (i + 1)
   .
    rw [decide_eq_true h,decide_eq_true (List.mem_cons_of_mem _ h)]
   .
    rw [decide_eq_false h,decide_eq_false (fun z=>(List.mem_cons.mp z).elim (fun e=>q e.symm) h)]
theorem vHas_eq {l:List Int} (hl:l.length <= 1000000) (x:Int):laws_vHas.f 1000500 l x = some (decide (x ∈ l)):=by
 unfold laws_vHas.f
 exact vHas_l0 l hl x l.length _ 0 (by omega) (by omega)
theorem step_at {l:List S37} {v d:List Bool} {p t:Int} (g:ExplOk l v d p t) {i:Int} (h0:0 <= i) (h1:i < (l.length:Int)) :
  ∃ L V D P T q,(∀ K,450 <= K -> spec_l25Make.f K l v d p t 1 i 0 0 0 0 0 = some (L,V,D,P,T,q)) /\ (∀ K,450 <= K -> impl_walkOn.f K l v d p t 1 i 0 0 0 0 0 = some (if q = true then (L,V,D,P,T,true) else ([],[],[],0,0,false))) /\ L.length <= 13 /\ V.length = 8 /\ D.length = 8 /\ (q = true -> T = wrap64 (t - (rd_T37 l i).f2)):=by
 obtain ⟨L,V,D,P,T,q,e1,e2,n0,n1,n2,ok⟩:=make1 g h0 h1 (K:=450) (by omega)
 refine ⟨L,V,D,P,T,q,fun K hK=>at_rounds (fun k=>spec_l25Make.mono l v d p t 1 i 0 0 0 0 0 k) hK e1,fun K hK=>at_rounds (fun k=>impl_walkOn.mono l v d p t 1 i 0 0 0 0 0 k) hK e2,n0,n1,n2,?_⟩
 intro hq
 have hlen:=g.len
 have hv:=g.hv
 obtain ⟨p0,p1⟩:=g.hp
 obtain ⟨⟨a0,a1⟩,⟨b0,b1⟩,_,⟨c0,c1⟩,_,_⟩:=g.legs _ (rdLeg_mem h0 h1)
 have hs0:spec_l25Make.f 450 l v d p t 1 i 0 0 0 0 0 = (spec_l25Go.f l v d p t (rd_T37 l i).f0 (rd_T37 l i).f1 (rd_T37 l i).f2 (rd_T37 l i).f3 (rd_T37 l i).f4 (rd_T37 l i).f2).bind fun r=>if r.2.2.2.2.2 = true then (spec_l25Good.f 450 r.1 r.2.1 r.2.2.1 r.2.2.2.1 r.2.2.2.2.1).bind fun x=>some (r.1,r.2.1,r.2.2.1,r.2.2.2.1,r.2.2.2.2.1,x) else some (r.1,r.2.1,r.2.2.1,r.2.2.2.1,r.2.2.2.2.1,false):=by
  unfold spec_l25Make.f
  rw [own_eq l v d p t (by omega) (by have:=g.hv;omega) (by have:=g.hd;omega)]
  simp only [Option.bind_some]
  rw [if_pos trivial,if_pos h0,if_pos h1]
 rw [e1] at hs0
 generalize rd_T37 l i = y at *
 subst hq
 by_cases hn:y.f0 ≠ p /\ y.f1 ≠ p
 .
  rw [go_not hn.1 hn.2] at hs0
  simp only [Option.bind_some,Bool.false_eq_true,if_false,Option.some.injEq,Prod.mk.injEq] at hs0
  exact absurd hs0.2.2.2.2.2 (by decide)
 .
  have hor:y.f0 = p \/ y.f1 = p:=by
   by_cases z:y.f0 = p
   .
    exact .inl z
   .
    exact .inr (Classical.byContradiction fun z2=>hn ⟨z,z2⟩)
  have e0':0 <= wrap64 (wrap64 (y.f0 + y.f1) - p):=by unfold wrap64;omega
  have e1':wrap64 (wrap64 (y.f0 + y.f1) - p) < (v.length:Int):=by unfold wrap64;omega
  rw [go_moves hor e0' e1'] at hs0
  simp only [Option.bind_some,if_true] at hs0
  obtain ⟨b,g1,_,_⟩:=good_eq l (by omega) (v.set (wrap64 (wrap64 (y.f0 + y.f1) - p)).toNat true) d (wrap64 (wrap64 (y.f0 + y.f1) - p)) (wrap64 (t - y.f2)) (k:=450) (by omega)
  rw [g1,Option.bind_some] at hs0
  simp only [Option.some.injEq,Prod.mk.injEq] at hs0
  exact hs0.2.2.2.2.1
def goes (l:List S37) (v d:List Bool) (p t i:Int):Bool:=match spec_l25Make.f 450 l v d p t 1 i 0 0 0 0 0 with|some r=>r.2.2.2.2.2|none=>false
theorem next_loop2 {l:List S37} {v d:List Bool} {p t:Int} (g:ExplOk l v d p t) (n:Nat):∀ (k i:Nat) (acc:List Int),i + n = l.length -> n + 460 < k -> acc.length <= i ->
  ∃ r,spec_NextLegs.l0 k acc (i:Int) l v d p t = some (r,true) /\ impl_NextLegs.l0 k acc (l.length:Int) (i:Int) l v d p t = some (r,true) /\ r.length <= l.length /\ ∀ j:Int,j ∈ r ↔ j ∈ acc \/ ((i:Int) <= j /\ j < l.length /\ goes l v d p t j = true):=by
 have hlen:=g.len
 induction n with
 | zero=>
  intro k i acc hi hk ha
  obtain ⟨k,rfl⟩:∃ m,k = m + 1:=⟨k - 1,by omega⟩
  simp only [spec_NextLegs.l0,impl_NextLegs.l0]
  rw [if_neg (by omega),if_neg (by omega)]
  exact ⟨_,rfl,rfl,by omega,fun j=>⟨.inl,fun h=>h.elim id (fun h=>by omega)⟩⟩
 | succ n ih=>
  intro k i acc hi hk ha
  obtain ⟨k,rfl⟩:∃ m,k = m + 1:=⟨k - 1,by omega⟩
  obtain ⟨L,V,D,P,T,q,h1,h2,_,_,_,_⟩:=step_at g (i:=(i:Int)) (by omega) (by omega)
  have hg:goes l v d p t (i:Int) = q:=by unfold goes;rw [h1 450 (by omega)]
  have hw:wrap64 ((i:Int) + 1) = ((i + 1:Nat):Int):=by unfold wrap64;omega
  simp only [spec_NextLegs.l0,impl_NextLegs.l0]
  have hlt:(i:Int) < (l.length:Int):=by omega
  have hac:acc.length < 17592186044416:=by omega
  simp only [if_pos hlt,h1 k (by omega),h2 k (by omega),Option.bind_some,hw]
  cases q with
  | false=>
   simp only [Bool.false_eq_true,if_false]
   obtain ⟨r,e1,e2,hr,hm⟩:=ih k (i + 1) acc (by omega) (by omega) (by omega)
   refine ⟨r,e1,e2,hr,fun j=>(hm j).trans ⟨fun h=>h.imp id (fun h=>⟨by omega,h.2⟩),fun h=>h.imp id (fun h=>⟨?_,h.2⟩)⟩⟩
   by_cases e:j = (i:Int)
   .
    rw [e,hg] at h
    exact absurd h.2.2 (by decide)
   .
    omega
  | true=>
   simp only [if_true,if_pos hac]
   obtain ⟨r,e1,e2,hr,hm⟩:=ih k (i + 1) (acc ++ [(i:Int)]) (by omega) (by omega) (by rw [List.length_append];simp only [List.length_cons,List.length_nil];omega)
   refine ⟨r,e1,e2,hr,fun j=>(hm j).trans ?_⟩
   rw [List.mem_append,List.mem_singleton]
   constructor
   .
    rintro ((h|h)|h)
    .
     exact .inl h
    .
     exact .inr ⟨by omega,by omega,by rw [h];exact hg⟩
    .
     exact .inr ⟨by omega,h.2⟩
   .
    rintro (h|h)
    .
     exact .inl (.inl h)
    .
     by_cases e:j = (i:Int)
     .
      exact .inl (.inr e)
     .
      exact .inr ⟨by omega,h.2⟩
theorem next_law (l:List S37) (hl:l.length <= 1000000) (v d:List Bool) (p t:Int) :
  ∃ r b,spec_NextLegs.f 1000500 l v d p t = some (r,b) /\ impl_NextLegs.f 1000500 l v d p t = some (r,b) /\ r.length <= 12 /\ (b = true -> ∀ i:Int,0 <= i -> i < (l.length:Int) -> ∃ L V D P T q,impl_WalkOn.f 1000500 l v d p t 1 i 0 0 0 0 0 = some (L,V,D,P,T,q) /\ laws_vHas.f 1000500 r i = some q /\ (q = true -> T = wrap64 (t - (rd_T37 l i).f2))):=by
 obtain ⟨b,e1,e2,hb⟩:=good_eq l (by omega) v d p t (k:=1000500) (by omega)
 unfold spec_NextLegs.f impl_NextLegs.f
 simp only [Option.bind_some]
 rw [e1,e2]
 simp only [Option.bind_some]
 cases b with
 | false=>
  simp only [Bool.false_eq_true,if_false]
  exact ⟨_,_,rfl,rfl,by simp,fun h=>by cases h⟩
 | true=>
  simp only [if_true]
  have ok:=hb.1 rfl
  obtain ⟨r,h1,h2,h3,hm⟩:=next_loop2 ok l.length 1000500 0 [] (by omega) (by have:=ok.len;omega) (by simp)
  have hlen:=ok.len
  refine ⟨r,true,h1,h2,by omega,fun _ i i0 i1=>?_⟩
  obtain ⟨L,V,D,P,T,q,g1,g2,_,_,_,gT⟩:=step_at ok i0 i1
  have hg:goes l v d p t i = q:=by unfold goes;rw [g1 450 (by omega)]
  have hq:decide (i ∈ r) = q:=by
   by_cases hi:i ∈ r
   .
    rw [decide_eq_true hi]
    rcases (hm i).1 hi with h|h
    .
     cases h
    .
     exact (h.2.2.symm.trans hg)
   .
    rw [decide_eq_false hi]
    cases q with
    | false=>rfl
    | true=>exact absurd ((hm i).2 (.inr ⟨i0,i1,hg⟩)) hi
  have hw:impl_WalkOn.f 1000500 l v d p t 1 i 0 0 0 0 0 = some (if q = true then (L,V,D,P,T,true) else ([],[],[],0,0,false)):=by
   unfold impl_WalkOn.f
   rw [e2]
   simp only [Option.bind_some,if_true]
   rw [g2 _ (by omega)]
   rfl
  rw [vHas_eq (by omega),hq]
  cases q with
  | false=>exact ⟨[],[],[],0,0,false,hw,rfl,fun h=>by cases h⟩
  | true=>exact ⟨L,V,D,P,T,true,hw,rfl,fun _=>gT rfl⟩
theorem leadsF_mem (l:List S37) (v:List Bool) (d:List Bool) (hdl:d.length <= 1000000):∀ (e:List Bool) (i:Nat) (acc r:List Int),e = d.drop i -> leadsF_ l v e (i:Int) acc = some r -> i <= 1000000 -> e.length <= 1000000 -> (∀ x,x ∈ acc -> 0 <= x /\ x < (d.length:Int) /\ rdOf false d x = true) -> ∀ x,x ∈ r -> 0 <= x /\ x < (d.length:Int) /\ rdOf false d x = true:=by
 intro e
 induction e with
 | nil=>
  intro i acc r he h _ _ ha
  simp only [leadsF_,Option.some.injEq] at h
  rw [<- h]
  exact ha
 | cons y e ih=>
  intro i acc r he h hi hn ha
  simp only [List.length_cons] at hn
  have hlt:i < d.length:=by
   have:=congrArg List.length he
   rw [List.length_drop,List.length_cons] at this
   omega
  have ed:d.drop i = rdOf false d (i:Int) :: d.drop (i + 1):=by
   rw [List.drop_eq_getElem_cons hlt]
   unfold rdOf
   rw [Int.toNat_natCast,List.getD_eq_getElem?_getD,List.getElem?_eq_getElem hlt]
   rfl
  rw [ed] at he
  injection he with hy he
  have hw:wrap64 ((i:Int) + 1) = ((i + 1:Nat):Int):=by unfold wrap64;omega
  simp only [leadsF_,hw] at h
  split at h
  .
   split at h
   .
    rename_i q
    refine ih (i + 1) _ r he h (by omega) (by omega) (fun x hx=>?_)
    rcases List.mem_append.mp hx with hx|hx
    .
     exact ha x hx
    .
     rw [List.mem_singleton] at hx
     rw [hx]
     simp only [Bool.and_eq_true] at q
     exact ⟨by omega,by omega,hy ▸ q.1⟩
   .
    exact ih (i + 1) _ r he h (by omega) (by omega) ha
  .
   cases h
theorem open_law (l:List S37) (hl:l.length <= 1000000) (v d:List Bool) (hd:d.length <= 1000000) (p t:Int) :
  ∃ r b,spec_OpenLeads.f 1000500 l v d p t = some (r,b) /\ impl_OpenLeads.f 1000500 l v d p t = some (r,b) /\ r.length <= 12 /\ ∀ x,x ∈ r -> 0 <= x /\ x < (d.length:Int) /\ rdOf false d x = true:=by
 obtain ⟨b,e1,e2,hb⟩:=good_eq l (by omega) v d p t (k:=1000500) (by omega)
 unfold spec_OpenLeads.f impl_OpenLeads.f
 simp only [Option.bind_some]
 rw [e1,e2]
 simp only [Option.bind_some]
 cases b with
 | false=>
  simp only [Bool.false_eq_true,if_false]
  exact ⟨_,_,rfl,rfl,by simp,fun x h=>by cases h⟩
 | true=>
  simp only [if_true]
  have ok:=hb.1 rfl
  have hd:=ok.hd
  obtain ⟨r,h1,h2,h3⟩:=open_loop ok d.length 1000500 0 [] (by omega) (by omega) (by simp)
  rw [List.drop_zero] at h2
  refine ⟨r,true,h1,?_,by omega,leadsF_mem l v d (by omega) d 0 [] r (by rw [List.drop_zero]) h2 (by omega) (by omega) (fun x h=>by cases h)⟩
  rw [show (0:Int) = ((0:Nat):Int) from rfl,h2]
  rfl
theorem out_law (l:List S37) (hl:l.length <= 1000000) (v d:List Bool) (p t:Int) :
  ∃ r s b,spec_WayOut.f 1000500 l v d p t = some (r,b) /\ impl_WayOut.f 1000500 l v d p t = some (r,b) /\ spec_SpareLight.f 1000500 l v d p t = some (s,b) /\ impl_SpareLight.f 1000500 l v d p t = some (s,b):=by
 obtain ⟨b,e1,e2,hi⟩:=good_eq l (by omega) v d p t (k:=1000500) (by omega)
 unfold spec_SpareLight.f impl_SpareLight.f impl_WayOut.f spec_WayOut.f
 rw [e1,e2]
 cases b with
 | false=>exact ⟨0,0,false,rfl,rfl,rfl,rfl⟩
 | true=>
  have h:=hi.1 rfl
  have e:dec (way l v p) = way l v p:=by
   unfold dec
   rw [if_neg (by have:=h.hway;omega)]
  simp only [Option.bind_some,if_true]
  rw [out_eq h.legs h.len h.hv h.hp (by omega),wayOut_eq h.legs h.len d h.hv t h.hp (by omega)]
  simp only [Option.bind_some]
  rw [show rd (it (arcsOf v l) 7 D0) p = way l v p from rfl,e,decide_eq_true h.hway]
  exact ⟨_,_,true,rfl,rfl,rfl,rfl⟩
end Go.Proofs.Ythmjimboajmhmaa.Pr.Pure

