/-
What is proved: parts of the law FnExplorers: what the functions that it reaches compute, and the plain law.
Conditions: those of each theorem.
-/
import Derived.Test.YthmjimboajmhmaaCFnExplorers3
set_option maxHeartbeats 8000000
set_option maxRecDepth 100000
namespace Go.Proofs.Ythmjimboajmhmaa.Pr
open Go.RowKit Go.Proofs.YthmjimboajmhmaaW.PrintWords Go.Proofs.YthmjimboajmhmaaW.PrintLast Go.Proofs.YthmjimboajmhmaaW.PrintMore
attribute [local go_sem] max2_int min2_int max_two min_two max_three min_three max_four min_four   -- for this text's walks alone
set_option linter.unusedVariables false
set_option linter.unusedSimpArgs false
def impl_NextLegs.l0:Nat -> List Int -> Int -> Int -> List (S37) -> List Bool -> List Bool -> Int -> Int -> Option (List Int × Bool)
 | 0,_,_,_,_,_,_,_,_=>none
 | k + 1,x4,x13,x14,x1260000,x1260001,x1260002,x1260003,x1260004=>if x14 < x13 then ((impl_walkOn.f k x1260000 x1260001 x1260002 x1260003 x1260004 1 x14 0 0 0 0 0).bind fun bt1261=>(if bt1261.2.2.2.2.2 = true then (if x4.length < 17592186044416 then (impl_NextLegs.l0 k (x4 ++ [x14]) x13 (wrap64 (x14 + 1)) x1260000 x1260001 x1260002 x1260003 x1260004) else (none)) else (impl_NextLegs.l0 k x4 x13 (wrap64 (x14 + 1)) x1260000 x1260001 x1260002 x1260003 x1260004))) else (some (x4,true))
def impl_NextLegs.f (k:Nat) (l0_0:List (S37)) (l0_1:List Bool) (l0_2:List Bool) (a0_3:Int) (a0_4:Int):Option (List Int × Bool):=(impl_IsExploration.f k l0_0 l0_1 l0_2 a0_3 a0_4).bind fun t1260=>(if t1260 = true then (impl_NextLegs.l0 k ([]:List Int) (l0_0.length:Int) 0 l0_0 l0_1 l0_2 a0_3 a0_4) else (some (([]:List Int),false)))
theorem impl_NextLegs.calls (k:Nat) (A0_0:Option Addr) (c0_0:Nat) (l0_0:List (S37)) (A0_1:Option Addr) (c0_1:Nat) (l0_1:List Bool) (A0_2:Option Addr) (c0_2:Nat) (l0_2:List Bool) (a0_3:Int) (a0_4:Int) (r1:List Int) (r2:Bool) (w:World) (hr0_0:Kd.C k37 w A0_0 l0_0.length l0_0) (hc0_0:l0_0.length <= c0_0) (hr0_1:Kd.C Kd.bool w A0_1 l0_1.length l0_1) (hc0_1:l0_1.length <= c0_1) (hr0_2:Kd.C Kd.bool w A0_2 l0_2.length l0_2) (hc0_2:l0_2.length <= c0_2) (h:impl_NextLegs.f k l0_0 l0_1 l0_2 a0_3 a0_4 = some (r1,r2)) :
  Calls Try.prog 49 #[.agg #[.slice A0_0 l0_0.length c0_0,.slice A0_1 l0_1.length c0_1,.slice A0_2 l0_2.length c0_2,.int .i64 a0_3,.int .i64 a0_4]] w fun e w'=>∃ v0_:Value,e = .returned (.tuple #[v0_,.bool r2]) /\ Kd.R (Kd.int .i64) 3 w' w.heap.size (fun _=>True) v0_ r1 /\ Below w.heap.size w w':=by
 have hu30:=Try.underlying30
 have hu39:=Try.underlying39
 have HR0_0:=ak hr0_0
 have HC0_0:=ak hc0_0
 clear hr0_0 hc0_0
 have HR0_1:=ak hr0_1
 have HC0_1:=ak hc0_1
 clear hr0_1 hc0_1
 have HR0_2:=ak hr0_2
 have HC0_2:=ak hc0_2
 clear hr0_2 hc0_2
 have HB:=ak (Below.refl w.heap.size w)
 have H:((impl_IsExploration.f k l0_0 l0_1 l0_2 a0_3 a0_4).bind fun t1260=>(if t1260 = true then (impl_NextLegs.l0 k ([]:List Int) (l0_0.length:Int) 0 l0_0 l0_1 l0_2 a0_3 a0_4) else (some (([]:List Int),false)))) = some (r1,r2):=h
 clear h
 replace H:=Option.bind_eq_some_iff.mp H
 obtain ⟨t1260,A20,H⟩:=H
 replace H:(if t1260 = true then (impl_NextLegs.l0 k ([]:List Int) (l0_0.length:Int) 0 l0_0 l0_1 l0_2 a0_3 a0_4) else (some (([]:List Int),false))) = some (r1,r2):=H
 have A2:=ak A20
 clear A20
 by_cases c3:t1260 = true
 .
  subst c3
  have H1:(impl_NextLegs.l0 k ([]:List Int) (l0_0.length:Int) 0 l0_0 l0_1 l0_2 a0_3 a0_4) = some (r1,r2):=by rw [if_pos rfl] at H;exact H
  clear H
  have H:=H1
  clear H1
  have H':=ak H
  clear H
  go_enter Try.func49,Try.ntmps49
  go_wp2_with (first|((with_reducible refine gate_dst (N:=1) rfl ?_);refine box_event ?hg (N:=1) ?hd (cs:=#[.slice A0_0 l0_0.length c0_0,.slice A0_1 l0_1.length c0_1,.slice A0_2 l0_2.length c0_2,.int .i64 a0_3,.int .i64 a0_4]) (t:=30) ?hr ?_;(case hd=>rfl);(case hg=>rfl);(case hr=>first|(go_simp;done)|(go_simp;rfl));intro gb1259 hg w4 hbox hb;have BK1259:=ak (hbox);have GW1259:=ak ((bz_ hg (lb0_ HB.out)));have GE1259:=ak ((bz_ hg (lb0_ HB.out)));replace HB:=ak (below_step (lb0_ HB.out) hb);clear hb hbox hg;obtain ⟨hcz5_0,hcz5_1,hcz5_2,hcz5_3,hcz5_4⟩:=cz5_ BK1259.out;obtain ⟨hfz5_0,hfz5_1,hfz5_2,hfz5_3,hfz5_4⟩:=fz5_ BK1259.out)|((with_reducible refine gate_callee (f:=18) rfl ?_);refine ga_ (some 9) Try.func18 #[.agg #[.slice A0_0 l0_0.length c0_0,.slice A0_1 l0_1.length c0_1,.slice A0_2 l0_2.length c0_2,.int .i64 a0_3,.int .i64 a0_4]] ?_;(with_reducible refine (impl_IsExploration.calls k _ _ l0_0 _ _ l0_1 _ _ l0_2 a0_3 a0_4 true _ ?side1 ?side2 ?side3 ?side4 ?side5 ?side6 A2.out).mono ?_);(case side1=>exact kc_ (Kd.C_below HR0_0.out HB.out));(case side2=>exact HC0_0.out);(case side3=>exact kc_ (Kd.C_below HR0_1.out HB.out));(case side4=>exact HC0_1.out);(case side5=>exact kc_ (Kd.C_below HR0_2.out HB.out));(case side6=>exact HC0_2.out);rintro e w6 ⟨rfl,hb⟩;refine ⟨_,rfl,?_⟩;replace BK1259:=ak (bb_ (bk_ BK1259.out) hb);replace HB:=ak (below_step (lb1_ HB.out GE1259.out) hb);(try clear hb);(try clear hb2);(try clear hk);(try clear hi);obtain ⟨hcz7_0,hcz7_1,hcz7_2,hcz7_3,hcz7_4⟩:=cz5_ BK1259.out;obtain ⟨hfz7_0,hfz7_1,hfz7_2,hfz7_3,hfz7_4⟩:=fz5_ BK1259.out))
  go_loopg [4,14] k (fun kq v4 v14 w'=>∃ (x4_1:List Int) (x14_1:Int),v14 = .int .i64 x14_1 /\ Aside0 (impl_NextLegs.l0 kq x4_1 (l0_0.length:Int) x14_1 l0_0 l0_1 l0_2 a0_3 a0_4 = some (r1,r2)) /\ Aside0 (kq <= k) /\ Aside0 (Kd.R (Kd.int .i64) 3 w' w.heap.size (fun _=>True) v4 x4_1) /\ Aside0 (w'.heap[gb1259]? = some (.cells #[(.slice A0_0 l0_0.length c0_0),(.slice A0_1 l0_1.length c0_1),(.slice A0_2 l0_2.length c0_2),.int .i64 a0_3,.int .i64 a0_4] 30 (0,0))) /\ Aside0 (Below w.heap.size w w'))
  case atStart=>exact ⟨(([]:List Int)),(0),(by first|rfl|(simp;done)|(simp [*];done)),H',⟨Nat.le_refl _⟩,⟨by first|exact Kd.R_nil _ _ _ _ _|exact Kd.N_nil _ _ _ _ _|exact Kd.V_nil _ _ _ _ _|exact Kd.Q_nil _ _ _ _ _|exact Kd.S_nil _ _ _ _ _⟩,⟨bk_ BK1259.out⟩,⟨lb1_ HB.out GE1259.out⟩⟩
  case round=>
   clear H'
   try clear c1
   try clear p2
   try clear c3
   try clear c4
   try clear hcz5_0 hcz5_1 hcz5_2 hcz5_3 hcz5_4
   try clear hcz7_0 hcz7_1 hcz7_2 hcz7_3 hcz7_4
   try clear hfz5_0 hfz5_1 hfz5_2 hfz5_3 hfz5_4
   try clear hfz7_0 hfz7_1 hfz7_2 hfz7_3 hfz7_4
   obtain ⟨x4_1,x14_1,rfl,HA,HK1,HO_4,BK1259,HB⟩:=hrel
   cases gk with
   | zero=>exact absurd HA.out (by simp [impl_NextLegs.l0])
   | succ k1=>
    have H:=HA.out
    clear HA
    simp only [impl_NextLegs.l0] at H
    by_cases c8:x14_1 < (l0_0.length:Int)
    .
     rw [if_pos c8] at H
     have c8b0:decide (x14_1 < (l0_0.length:Int)) = true:=decide_eq_true c8
     clear c8
     replace H:=Option.bind_eq_some_iff.mp H
     obtain ⟨⟨t1261,t1264,t1267,t1270,t1271,t1272⟩,A90,H⟩:=H
     replace H:(if t1272 = true then (if x4_1.length < 17592186044416 then (impl_NextLegs.l0 k1 (x4_1 ++ [x14_1]) (l0_0.length:Int) (wrap64 (x14_1 + 1)) l0_0 l0_1 l0_2 a0_3 a0_4) else (none)) else (impl_NextLegs.l0 k1 x4_1 (l0_0.length:Int) (wrap64 (x14_1 + 1)) l0_0 l0_1 l0_2 a0_3 a0_4)) = some (r1,r2):=H
     have A9:=ak A90
     clear A90
     by_cases c10:t1272 = true
     .
      subst c10
      have H1:(if x4_1.length < 17592186044416 then (impl_NextLegs.l0 k1 (x4_1 ++ [x14_1]) (l0_0.length:Int) (wrap64 (x14_1 + 1)) l0_0 l0_1 l0_2 a0_3 a0_4) else (none)) = some (r1,r2):=by rw [if_pos rfl] at H;exact H
      clear H
      have H:=H1
      clear H1
      by_cases c11:x4_1.length < 17592186044416
      .
       rw [if_pos c11] at H
       have LMc11:=ak c11
       clear c11
       obtain ⟨y1274,hy1274⟩:∃ y_:List Int,y_ = (x4_1 ++ [x14_1]):=⟨_,rfl⟩
       replace H:(impl_NextLegs.l0 k1 y1274 (l0_0.length:Int) (wrap64 (x14_1 + 1)) l0_0 l0_1 l0_2 a0_3 a0_4) = some (r1,r2):=by first|(rw [hy1274];with_reducible exact H)|(have H2_:=(Option.bind_some _ _).symm.trans H;rw [hy1274];with_reducible exact H2_)|(have H2_:=(Option.bind_some _ _).symm.trans H;with_reducible exact H2_)|with_reducible exact H|(rw [hy1274];exact H)|exact H
       have Ny1274:=ak hy1274
       clear hy1274
       have H':=ak H
       clear H
       obtain ⟨hcz12_0,hcz12_1,hcz12_2,hcz12_3,hcz12_4⟩:=cz5_ BK1259.out
       obtain ⟨hfz12_0,hfz12_1,hfz12_2,hfz12_3,hfz12_4⟩:=fz5_ BK1259.out
       go_wp2_with (first|((with_reducible refine gate_callee (f:=76) rfl ?_);refine ga_ (some 21) Try.func76 #[.agg #[.slice A0_0 l0_0.length c0_0,.slice A0_1 l0_1.length c0_1,.slice A0_2 l0_2.length c0_2,.int .i64 a0_3,.int .i64 a0_4],.agg #[.int .i64 1,.int .i64 x14_1,.int .i64 0,.int .i64 0,.int .i64 0,.int .i64 0,.int .i64 0]] ?_;(with_reducible refine (impl_walkOn.calls k1 _ _ l0_0 _ _ l0_1 _ _ l0_2 a0_3 a0_4 1 x14_1 0 0 0 0 0 t1261 t1264 t1267 t1270 t1271 true _ ?side1 ?side2 ?side3 ?side4 ?side5 ?side6 A9.out).mono ?_);(case side1=>exact kc_ (Kd.C_below HR0_0.out HB.out));(case side2=>exact HC0_0.out);(case side3=>exact kc_ (Kd.C_below HR0_1.out HB.out));(case side4=>exact HC0_1.out);(case side5=>exact kc_ (Kd.C_below HR0_2.out HB.out));(case side6=>exact HC0_2.out);rintro e w13 ⟨v1262,v1265,v1268,rfl,ho0,ho1,ho2,hb⟩;refine ⟨_,rfl,?_⟩;replace HO_4:=ak (Kd.R_below (kr_ HO_4.out) hb);have HO1263:=ak (Kd.R_lower ho0 (below_size (lb1_ HB.out GE1259.out)));have HO1266:=ak (Kd.R_lower ho1 (below_size (lb1_ HB.out GE1259.out)));have HO1269:=ak (Kd.R_lower ho2 (below_size (lb1_ HB.out GE1259.out)));replace BK1259:=ak (bb_ (bk_ BK1259.out) hb);replace HB:=ak (below_step (lb1_ HB.out GE1259.out) hb);(try clear hb);(try clear hb2);(try clear hk);(try clear hi);(try clear ho0);(try clear ho1);(try clear ho2))|((with_reducible refine gate_dst (N:=6) rfl ?_);refine box_event ?hg (N:=6) ?hd (cs:=#[.slice none 0 0,.slice none 0 0,.slice none 0 0,.int .i64 0,.int .i64 0]) (t:=30) ?hr ?_;(case hd=>rfl);(case hg=>rfl);(case hr=>first|(go_simp;done)|(go_simp;rfl));intro gb1273 hg w14 hbox hb;replace HO_4:=ak (Kd.R_below (kr_ HO_4.out) hb);replace HO1263:=ak (Kd.R_below (kr_ HO1263.out) hb);replace HO1266:=ak (Kd.R_below (kr_ HO1266.out) hb);replace HO1269:=ak (Kd.R_below (kr_ HO1269.out) hb);have BK1273:=ak (hbox);have GW1273:=ak ((bz_ hg (lb1_ HB.out GE1259.out)));have GE1273:=ak ((bz_ hg (lb1_ HB.out GE1259.out)));replace HB:=ak (below_step (lb1_ HB.out GE1259.out) hb);have NB1259_1273:=ak (nl_ hg BK1259.out);have NB1273_1259:=ak (ng_ hg BK1259.out);replace BK1259:=ak (bb_ (bk_ BK1259.out) hb);clear hb hbox hg;obtain ⟨Ao15,co15,eo15⟩:=Kd.R_slice HO1263.out;subst eo15;have hnb16:=NB1273_1259.out;have hnc16:=NB1259_1273.out;obtain ⟨hcz17_0,hcz17_1,hcz17_2,hcz17_3,hcz17_4⟩:=cz5_ BK1273.out;obtain ⟨hfz17_0,hfz17_1,hfz17_2,hfz17_3,hfz17_4⟩:=fz5_ BK1273.out;obtain ⟨Ao18,co18,eo18⟩:=Kd.R_slice HO1266.out;subst eo18;obtain ⟨Ao19,co19,eo19⟩:=Kd.R_slice HO1269.out;subst eo19)|((with_reducible refine gate_builtin (b:=.append) (xs:=#[.tmp 25,.tmp 27]) rfl ?_);at_builtin;refine Kd.R_append (Kd.int .i64) (w0:=w) w.heap.size rfl (.tmp 25) (.tmp 27) 60 3 (.int .i64 0) 8 rfl Try.underlying60 info3 rfl (by decide) (by omega) u4 x4_1 x14_1 [.int .i64 x14_1] (fun _=>True) (fun _=>False) rfl (by first|(go_simp;done)|(go_simp;rfl)) ?aP (fun _ hk=>hk.elim) ?aF ?aO ?aB ?aS ?aL ?_;(case aP=>exact rfl);(case aB=>exact (lb2_ HB.out GE1259.out GE1273.out));(case aF=>exact (fun _ _=>trivial));(case aO=>exact (by (with_reducible repeat (first|apply Kd.R_alloc|apply Kd.R_drewN|apply Kd.R_drew));exact Kd.R_mono (r5_ HO_4.out BK1273.out (by decide) _ _ _ _ _) (fun _ hk=>trivial)));(case aS=>exact (below_size (lb2_ HB.out GE1259.out GE1273.out)));(case aL=>have:=LMc11.out;omega);intro v1275 w20 ho hb hg hat;rw [<- Ny1274.out] at ho;replace BK1259:=ak (blk_grown (g:=gb1259) (o:=.cells #[.slice A0_0 l0_0.length c0_0,.slice A0_1 l0_1.length c0_1,.slice A0_2 l0_2.length c0_2,.int .i64 a0_3,.int .i64 a0_4] 30 (0,0)) (by (with_reducible repeat (first|refine blk_drewN ?_ _|refine blk_drew ?_|refine blk_alloc ?_ _));exact (f5_ BK1259.out NB1259_1273.out _ _ _ _ _)) hg (Kd.R_ne HO_4.out BK1259.out (by decide)));replace HO1263:=ak (Kd.R_over' (kg_ HO1263.out BK1273.out) (Kd.R_typed (kg_ HO_4.out BK1273.out)) (by decide) hg);replace HO1266:=ak (Kd.R_over' (kg_ HO1266.out BK1273.out) (Kd.R_typed (kg_ HO_4.out BK1273.out)) (by decide) hg);replace HO1269:=ak (Kd.R_over' (kg_ HO1269.out BK1273.out) (Kd.R_typed (kg_ HO_4.out BK1273.out)) (by decide) hg);replace BK1273:=ak (blk_grown (g:=gb1273) (o:=.cells #[.slice Ao15 t1261.length co15,.slice Ao18 t1264.length co18,.slice Ao19 t1267.length co19,.int .i64 t1270,.int .i64 t1271] 30 (0,0)) (by (with_reducible repeat (first|refine blk_drewN ?_ _|refine blk_drew ?_|refine blk_alloc ?_ _));exact (p5_ BK1273.out _ _ _ _ _)) hg (Kd.R_ne HO_4.out BK1273.out (by decide)));replace HB:=ak (hb);have HO1276:=ak (ho);clear HO_4;clear ho hb hg hat))
       go_roundg k1
       case measure=>have:=HK1.out;omega
       case rel=>exact ⟨(y1274),(wrap64 (x14_1 + 1)),(by first|rfl|(simp;done)|(simp [*];done)),H',⟨by have:=HK1.out;omega⟩,⟨kr_ HO1276.out⟩,⟨bk_ BK1259.out⟩,⟨lb2_ HB.out GE1259.out GE1273.out⟩⟩
      .
       rw [if_neg c11] at H
       exact absurd H (by simp)
     .
      replace c10:=Bool.eq_false_iff.mpr c10
      subst c10
      have H1:(impl_NextLegs.l0 k1 x4_1 (l0_0.length:Int) (wrap64 (x14_1 + 1)) l0_0 l0_1 l0_2 a0_3 a0_4) = some (r1,r2):=by rw [if_neg (show ¬ (false = true) by decide)] at H;exact H
      clear H
      have H:=H1
      clear H1
      have H':=ak H
      clear H
      obtain ⟨hcz21_0,hcz21_1,hcz21_2,hcz21_3,hcz21_4⟩:=cz5_ BK1259.out
      obtain ⟨hfz21_0,hfz21_1,hfz21_2,hfz21_3,hfz21_4⟩:=fz5_ BK1259.out
      go_wp2_with (first|((with_reducible refine gate_callee (f:=76) rfl ?_);refine ga_ (some 21) Try.func76 #[.agg #[.slice A0_0 l0_0.length c0_0,.slice A0_1 l0_1.length c0_1,.slice A0_2 l0_2.length c0_2,.int .i64 a0_3,.int .i64 a0_4],.agg #[.int .i64 1,.int .i64 x14_1,.int .i64 0,.int .i64 0,.int .i64 0,.int .i64 0,.int .i64 0]] ?_;(with_reducible refine (impl_walkOn.calls k1 _ _ l0_0 _ _ l0_1 _ _ l0_2 a0_3 a0_4 1 x14_1 0 0 0 0 0 t1261 t1264 t1267 t1270 t1271 false _ ?side1 ?side2 ?side3 ?side4 ?side5 ?side6 A9.out).mono ?_);(case side1=>exact kc_ (Kd.C_below HR0_0.out HB.out));(case side2=>exact HC0_0.out);(case side3=>exact kc_ (Kd.C_below HR0_1.out HB.out));(case side4=>exact HC0_1.out);(case side5=>exact kc_ (Kd.C_below HR0_2.out HB.out));(case side6=>exact HC0_2.out);rintro e w22 ⟨v1262,v1265,v1268,rfl,ho0,ho1,ho2,hb⟩;refine ⟨_,rfl,?_⟩;replace HO_4:=ak (Kd.R_below (kr_ HO_4.out) hb);have HO1263:=ak (Kd.R_lower ho0 (below_size (lb1_ HB.out GE1259.out)));have HO1266:=ak (Kd.R_lower ho1 (below_size (lb1_ HB.out GE1259.out)));have HO1269:=ak (Kd.R_lower ho2 (below_size (lb1_ HB.out GE1259.out)));replace BK1259:=ak (bb_ (bk_ BK1259.out) hb);replace HB:=ak (below_step (lb1_ HB.out GE1259.out) hb);(try clear hb);(try clear hb2);(try clear hk);(try clear hi);(try clear ho0);(try clear ho1);(try clear ho2))|((with_reducible refine gate_dst (N:=6) rfl ?_);refine box_event ?hg (N:=6) ?hd (cs:=#[.slice none 0 0,.slice none 0 0,.slice none 0 0,.int .i64 0,.int .i64 0]) (t:=30) ?hr ?_;(case hd=>rfl);(case hg=>rfl);(case hr=>first|(go_simp;done)|(go_simp;rfl));intro gb1273 hg w23 hbox hb;replace HO_4:=ak (Kd.R_below (kr_ HO_4.out) hb);replace HO1263:=ak (Kd.R_below (kr_ HO1263.out) hb);replace HO1266:=ak (Kd.R_below (kr_ HO1266.out) hb);replace HO1269:=ak (Kd.R_below (kr_ HO1269.out) hb);have BK1273:=ak (hbox);have GW1273:=ak ((bz_ hg (lb1_ HB.out GE1259.out)));have GE1273:=ak ((bz_ hg (lb1_ HB.out GE1259.out)));replace HB:=ak (below_step (lb1_ HB.out GE1259.out) hb);have NB1259_1273:=ak (nl_ hg BK1259.out);have NB1273_1259:=ak (ng_ hg BK1259.out);replace BK1259:=ak (bb_ (bk_ BK1259.out) hb);clear hb hbox hg;obtain ⟨Ao24,co24,eo24⟩:=Kd.R_slice HO1263.out;subst eo24;have hnb25:=NB1273_1259.out;have hnc25:=NB1259_1273.out;obtain ⟨hcz26_0,hcz26_1,hcz26_2,hcz26_3,hcz26_4⟩:=cz5_ BK1273.out;obtain ⟨hfz26_0,hfz26_1,hfz26_2,hfz26_3,hfz26_4⟩:=fz5_ BK1273.out;obtain ⟨Ao27,co27,eo27⟩:=Kd.R_slice HO1266.out;subst eo27;obtain ⟨Ao28,co28,eo28⟩:=Kd.R_slice HO1269.out;subst eo28))
      go_roundg k1
      case measure=>have:=HK1.out;omega
      case rel=>exact ⟨(x4_1),(wrap64 (x14_1 + 1)),(by first|rfl|(simp;done)|(simp [*];done)),H',⟨by have:=HK1.out;omega⟩,⟨by (with_reducible repeat (first|apply Kd.R_alloc|apply Kd.R_drewN|apply Kd.R_drew));exact Kd.R_mono (r5_ HO_4.out BK1273.out (by decide) _ _ _ _ _) (fun _ hk=>trivial)⟩,⟨by (with_reducible repeat (first|refine blk_drewN ?_ _|refine blk_drew ?_|refine blk_alloc ?_ _));exact (f5_ BK1259.out NB1259_1273.out _ _ _ _ _)⟩,⟨lb2_ HB.out GE1259.out GE1273.out⟩⟩
    .
     rw [if_neg c8] at H
     have c8b0:decide (x14_1 < (l0_0.length:Int)) = false:=decide_eq_false c8
     clear c8
     simp only [Option.some.injEq,Prod.mk.injEq] at H
     obtain ⟨rfl,rfl⟩:=H
     go_wp2
     go_ret2
     exact ⟨_,rr_,kr_ HO_4.out,lb1_ HB.out GE1259.out⟩
 .
  replace c3:=Bool.eq_false_iff.mpr c3
  subst c3
  have H1:(some (([]:List Int),false)) = some (r1,r2):=by rw [if_neg (show ¬ (false = true) by decide)] at H;exact H
  clear H
  have H:=H1
  clear H1
  simp only [Option.some.injEq,Prod.mk.injEq] at H
  obtain ⟨rfl,rfl⟩:=H
  go_enter Try.func49,Try.ntmps49
  go_wp2_with (first|((with_reducible refine gate_dst (N:=1) rfl ?_);refine box_event ?hg (N:=1) ?hd (cs:=#[.slice A0_0 l0_0.length c0_0,.slice A0_1 l0_1.length c0_1,.slice A0_2 l0_2.length c0_2,.int .i64 a0_3,.int .i64 a0_4]) (t:=30) ?hr ?_;(case hd=>rfl);(case hg=>rfl);(case hr=>first|(go_simp;done)|(go_simp;rfl));intro gb1259 hg w29 hbox hb;have BK1259:=ak (hbox);have GW1259:=ak ((bz_ hg (lb0_ HB.out)));have GE1259:=ak ((bz_ hg (lb0_ HB.out)));replace HB:=ak (below_step (lb0_ HB.out) hb);clear hb hbox hg;obtain ⟨hcz30_0,hcz30_1,hcz30_2,hcz30_3,hcz30_4⟩:=cz5_ BK1259.out;obtain ⟨hfz30_0,hfz30_1,hfz30_2,hfz30_3,hfz30_4⟩:=fz5_ BK1259.out)|((with_reducible refine gate_callee (f:=18) rfl ?_);refine ga_ (some 9) Try.func18 #[.agg #[.slice A0_0 l0_0.length c0_0,.slice A0_1 l0_1.length c0_1,.slice A0_2 l0_2.length c0_2,.int .i64 a0_3,.int .i64 a0_4]] ?_;(with_reducible refine (impl_IsExploration.calls k _ _ l0_0 _ _ l0_1 _ _ l0_2 a0_3 a0_4 false _ ?side1 ?side2 ?side3 ?side4 ?side5 ?side6 A2.out).mono ?_);(case side1=>exact kc_ (Kd.C_below HR0_0.out HB.out));(case side2=>exact HC0_0.out);(case side3=>exact kc_ (Kd.C_below HR0_1.out HB.out));(case side4=>exact HC0_1.out);(case side5=>exact kc_ (Kd.C_below HR0_2.out HB.out));(case side6=>exact HC0_2.out);rintro e w31 ⟨rfl,hb⟩;refine ⟨_,rfl,?_⟩;replace BK1259:=ak (bb_ (bk_ BK1259.out) hb);replace HB:=ak (below_step (lb1_ HB.out GE1259.out) hb);(try clear hb);(try clear hb2);(try clear hk);(try clear hi)))
  go_ret2
  exact ⟨_,rr_,by first|exact Kd.R_nil _ _ _ _ _|exact Kd.N_nil _ _ _ _ _|exact Kd.V_nil _ _ _ _ _|exact Kd.Q_nil _ _ _ _ _|exact Kd.S_nil _ _ _ _ _,lb1_ HB.out GE1259.out⟩
def laws_vInts.l0:Nat -> List Int -> List Int -> Int -> Option (Bool)
 | 0,_,_,_=>none
 | k + 1,x0,x1,x5=>if x5 < (x0.length:Int) then (if 0 <= x5 then (if x5 < (x1.length:Int) then (if (rd x0 x5) = (rd x1 x5) then (laws_vInts.l0 k x0 x1 (wrap64 (x5 + 1))) else (some false)) else (none)) else (none)) else (some true)
def laws_vInts.f (k:Nat) (l0:List Int) (l1:List Int):Option (Bool):=if (l0.length:Int) = (l1.length:Int) then (laws_vInts.l0 k l0 l1 0) else (some false)
theorem laws_vInts.calls (k:Nat) (A0:Option Addr) (c0:Nat) (l0:List Int) (A1:Option Addr) (c1:Nat) (l1:List Int) (r:Bool) (w:World) (hr0:Kd.C (Kd.int .i64) w A0 l0.length l0) (hc0:l0.length <= c0) (hr1:Kd.C (Kd.int .i64) w A1 l1.length l1) (hc1:l1.length <= c1) (h:laws_vInts.f k l0 l1 = some r) :
  Calls Try.prog 56 #[.slice A0 l0.length c0,.slice A1 l1.length c1] w fun e w'=>e = .returned (.bool r) /\ Drawn0 w w':=by
 have HR0:=ak hr0
 have HC0:=ak hc0
 clear hr0 hc0
 have HR1:=ak hr1
 have HC1:=ak hc1
 clear hr1 hc1
 have H:(if (l0.length:Int) = (l1.length:Int) then (laws_vInts.l0 k l0 l1 0) else (some false)) = some r:=h
 clear h
 by_cases c3:(l0.length:Int) = (l1.length:Int)
 .
  rw [if_pos c3] at H
  have c3b0:((l0.length:Int) == (l1.length:Int)) = true:=beq_iff_eq.mpr c3
  have c3b1:((l0.length:Int) != (l1.length:Int)) = false:=bne_eq_false_iff_eq.mpr c3
  have c3b2:(l0.length == l1.length) = true:=by first|simpa using c3|(simp at c3 ⊢;omega)
  clear c3
  have H':=ak H
  clear H
  go_enter Try.func56,Try.ntmps56
  go_wp2
  repeat (go_quiet (fail);try go_wp2)
  go_loopg [5] k (fun kq v5 w'=>∃ (x5_1:Int),v5 = .int .i64 x5_1 /\ Aside0 (laws_vInts.l0 kq l0 l1 x5_1 = some r) /\ Aside0 (kq <= k) /\ Drawn0 w w')
  case atStart=>exact ⟨(0),(by first|rfl|(simp;done)|(simp [*];done)),H',⟨Nat.le_refl _⟩,by repeat (first|exact Drawn0.refl _|apply Drawn0.step)⟩
  case round=>
   clear H'
   try clear c1
   try clear p2
   try clear c3
   try clear c3b0
   try clear c3b1
   try clear c3b2
   obtain ⟨x5_1,rfl,HA,HK1,⟨m1,rfl⟩⟩:=hrel
   cases gk with
   | zero=>exact absurd HA.out (by simp [laws_vInts.l0])
   | succ k1=>
    have H:=HA.out
    clear HA
    simp only [laws_vInts.l0] at H
    by_cases c4:x5_1 < (l0.length:Int)
    .
     rw [if_pos c4] at H
     have c4b0:decide (x5_1 < (l0.length:Int)) = true:=decide_eq_true c4
     clear c4
     by_cases c5:0 <= x5_1
     .
      rw [if_pos c5] at H
      have c5b0:decide (0 <= x5_1) = true:=decide_eq_true c5
      clear c5
      by_cases c6:x5_1 < (l1.length:Int)
      .
       rw [if_pos c6] at H
       have c6b0:decide (x5_1 < (l1.length:Int)) = true:=decide_eq_true c6
       clear c6
       by_cases c7:(rd l0 x5_1) = (rd l1 x5_1)
       .
        rw [if_pos c7] at H
        have c7b0:((rd l0 x5_1) == (rd l1 x5_1)) = true:=beq_iff_eq.mpr c7;have c7b1:((rd l0 x5_1) != (rd l1 x5_1)) = false:=bne_eq_false_iff_eq.mpr c7;clear c7;have H':=ak H;clear H;have p1404:0 <= (x5_1:Int):=dt_;have q1404:x5_1 < (l0.length:Int):=dt_;obtain ⟨ad1404,e1404,hx1404_0⟩:=Kd.at_int HR0.out x5_1 p1404 q1404
        cases e1404
        replace p1404:=eq_true p1404;replace q1404:=eq_true q1404;have p1405:0 <= (x5_1:Int):=dt_;have q1405:x5_1 < (l1.length:Int):=dt_;obtain ⟨ad1405,e1405,hx1405_0⟩:=Kd.at_int HR1.out x5_1 p1405 q1405
        cases e1405
        replace p1405:=eq_true p1405;replace q1405:=eq_true q1405
        go_wp2
        repeat (go_quiet (fail);try go_wp2)
        go_roundg k1
        case measure=>have:=HK1.out;omega
        case rel=>exact ⟨(wrap64 (x5_1 + 1)),(by first|rfl|(simp;done)|(simp [*];done)),H',⟨by have:=HK1.out;omega⟩,by repeat (first|exact Drawn0.refl _|apply Drawn0.step)⟩
       .
        rw [if_neg c7] at H
        have c7b0:((rd l0 x5_1) == (rd l1 x5_1)) = false:=beq_eq_false_iff_ne.mpr c7;have c7b1:((rd l0 x5_1) != (rd l1 x5_1)) = true:=bne_iff_ne.mpr c7;obtain rfl:=Option.some.inj H;have p1404:0 <= (x5_1:Int):=dt_;have q1404:x5_1 < (l0.length:Int):=dt_;obtain ⟨ad1404,e1404,hx1404_0⟩:=Kd.at_int HR0.out x5_1 p1404 q1404
        cases e1404
        replace p1404:=eq_true p1404;replace q1404:=eq_true q1404;have p1405:0 <= (x5_1:Int):=dt_;have q1405:x5_1 < (l1.length:Int):=dt_;obtain ⟨ad1405,e1405,hx1405_0⟩:=Kd.at_int HR1.out x5_1 p1405 q1405
        cases e1405
        replace p1405:=eq_true p1405;replace q1405:=eq_true q1405
        go_wp2
        repeat (go_quiet (fail);try go_wp2)
        go_ret
        exact ⟨by first|rfl|(simp;done)|(simp [*];done),by repeat (first|exact Drawn0.refl _|apply Drawn0.step)⟩
      .
       rw [if_neg c6] at H
       exact absurd H (by simp)
     .
      rw [if_neg c5] at H
      exact absurd H (by simp)
    .
     rw [if_neg c4] at H
     have c4b0:decide (x5_1 < (l0.length:Int)) = false:=decide_eq_false c4
     clear c4
     obtain rfl:=Option.some.inj H
     go_wp2
     repeat (go_quiet (fail);try go_wp2)
     go_ret
     exact ⟨by first|rfl|(simp;done)|(simp [*];done),by repeat (first|exact Drawn0.refl _|apply Drawn0.step)⟩
 .
  rw [if_neg c3] at H
  have c3b0:((l0.length:Int) == (l1.length:Int)) = false:=beq_eq_false_iff_ne.mpr c3
  have c3b1:((l0.length:Int) != (l1.length:Int)) = true:=bne_iff_ne.mpr c3
  have c3b2:(l0.length == l1.length) = false:=by first|simpa using c3|(simp at c3 ⊢;omega)
  obtain rfl:=Option.some.inj H
  go_enter Try.func56,Try.ntmps56
  go_wp2
  repeat (go_quiet (fail);try go_wp2)
  go_ret
  exact ⟨by first|rfl|(simp;done)|(simp [*];done),by repeat (first|exact Drawn0.refl _|apply Drawn0.step)⟩
def laws_vHas.l0:Nat -> List Int -> Int -> Int -> Option (Bool)
 | 0,_,_,_=>none
 | k + 1,x0,x1,x5=>if x5 < (x0.length:Int) then (if 0 <= x5 then (if (rd x0 x5) = x1 then (some true) else (laws_vHas.l0 k x0 x1 (wrap64 (x5 + 1)))) else (none)) else (some false)
def laws_vHas.f (k:Nat) (l0:List Int) (a1:Int):Option (Bool):=laws_vHas.l0 k l0 a1 0
theorem laws_vHas.calls (k:Nat) (A0:Option Addr) (c0:Nat) (l0:List Int) (a1:Int) (r:Bool) (w:World) (hr0:Kd.C (Kd.int .i64) w A0 l0.length l0) (hc0:l0.length <= c0) (h:laws_vHas.f k l0 a1 = some r) :
  Calls Try.prog 57 #[.slice A0 l0.length c0,.int .i64 a1] w fun e w'=>e = .returned (.bool r) /\ Drawn0 w w':=by
 have HR0:=ak hr0
 have HC0:=ak hc0
 clear hr0 hc0
 have H:(laws_vHas.l0 k l0 a1 0) = some r:=h
 clear h
 have H':=ak H
 clear H
 go_enter Try.func57,Try.ntmps57
 go_wp2
 go_loopg [5] k (fun kq v5 w'=>∃ (x5_1:Int),v5 = .int .i64 x5_1 /\ Aside0 (laws_vHas.l0 kq l0 a1 x5_1 = some r) /\ Aside0 (kq <= k) /\ Drawn0 w w')
 case atStart=>exact ⟨(0),(by first|rfl|(simp;done)|(simp [*];done)),H',⟨Nat.le_refl _⟩,by repeat (first|exact Drawn0.refl _|apply Drawn0.step)⟩
 case round=>
  clear H'
  try clear p2
  obtain ⟨x5_1,rfl,HA,HK1,⟨m1,rfl⟩⟩:=hrel
  cases gk with
  | zero=>exact absurd HA.out (by simp [laws_vHas.l0])
  | succ k1=>
   have H:=HA.out
   clear HA
   simp only [laws_vHas.l0] at H
   by_cases c3:x5_1 < (l0.length:Int)
   .
    rw [if_pos c3] at H
    have c3b0:decide (x5_1 < (l0.length:Int)) = true:=decide_eq_true c3
    clear c3
    by_cases c4:0 <= x5_1
    .
     rw [if_pos c4] at H
     have c4b0:decide (0 <= x5_1) = true:=decide_eq_true c4
     clear c4
     by_cases c5:(rd l0 x5_1) = a1
     .
      rw [if_pos c5] at H
      have c5b0:((rd l0 x5_1) == a1) = true:=beq_iff_eq.mpr c5
      have c5b1:((rd l0 x5_1) != a1) = false:=bne_eq_false_iff_eq.mpr c5
      clear c5
      obtain rfl:=Option.some.inj H
      have p1406:0 <= (x5_1:Int):=dt_
      have q1406:x5_1 < (l0.length:Int):=dt_
      obtain ⟨ad1406,e1406,hx1406_0⟩:=Kd.at_int HR0.out x5_1 p1406 q1406
      cases e1406
      replace p1406:=eq_true p1406
      replace q1406:=eq_true q1406
      go_wp2
      go_ret
      exact ⟨by first|rfl|(simp;done)|(simp [*];done),by repeat (first|exact Drawn0.refl _|apply Drawn0.step)⟩
     .
      rw [if_neg c5] at H
      have c5b0:((rd l0 x5_1) == a1) = false:=beq_eq_false_iff_ne.mpr c5
      have c5b1:((rd l0 x5_1) != a1) = true:=bne_iff_ne.mpr c5
      have H':=ak H
      clear H
      have p1406:0 <= (x5_1:Int):=dt_
      have q1406:x5_1 < (l0.length:Int):=dt_
      obtain ⟨ad1406,e1406,hx1406_0⟩:=Kd.at_int HR0.out x5_1 p1406 q1406
      cases e1406
      replace p1406:=eq_true p1406
      replace q1406:=eq_true q1406
      go_wp2
      go_roundg k1
      case measure=>have:=HK1.out;omega
      case rel=>exact ⟨(wrap64 (x5_1 + 1)),(by first|rfl|(simp;done)|(simp [*];done)),H',⟨by have:=HK1.out;omega⟩,by repeat (first|exact Drawn0.refl _|apply Drawn0.step)⟩
    .
     rw [if_neg c4] at H
     exact absurd H (by simp)
   .
    rw [if_neg c3] at H
    have c3b0:decide (x5_1 < (l0.length:Int)) = false:=decide_eq_false c3
    clear c3
    obtain rfl:=Option.some.inj H
    go_wp2
    go_ret
    exact ⟨by first|rfl|(simp;done)|(simp [*];done),by repeat (first|exact Drawn0.refl _|apply Drawn0.step)⟩
theorem eqA37 (d:Nat) (w:World) (x0 y0:Int) (x1 y1:Int) (x2 y2:Int) (x3 y3:Int) (x4 y4:Int) :
  (Op.equalIn (d + 2) 37 (.agg #[.int .i64 x0,.int .i64 x1,.int .i64 x2,.int .i64 x3,.int .i64 x4]) (.agg #[.int .i64 y0,.int .i64 y1,.int .i64 y2,.int .i64 y3,.int .i64 y4])).run Try.prog w = .ok (x0 == y0 && (x1 == y1 && (x2 == y2 && (x3 == y3 && (x4 == y4))))) w:=by
 refine eqA_of Try.underlying37 (by kernel_rfl) ?_
 refine eqf_cons (by rfl) (by go_simp;rfl) (by go_simp;rfl) (by go_simp) ?_
 refine eqf_cons (by rfl) (by go_simp;rfl) (by go_simp;rfl) (by go_simp) ?_
 refine eqf_cons (by rfl) (by go_simp;rfl) (by go_simp;rfl) (by go_simp) ?_
 refine eqf_cons (by rfl) (by go_simp;rfl) (by go_simp;rfl) (by go_simp) ?_
 exact eqf_last (by rfl) (by go_simp;rfl) (by go_simp;rfl) (by go_simp)
end Go.Proofs.Ythmjimboajmhmaa.Pr

namespace Go.Proofs.Ythmjimboajmhmaa.Pr
open Go.RowKit Go.Proofs.YthmjimboajmhmaaW.PrintWords Go.Proofs.YthmjimboajmhmaaW.PrintLast Go.Proofs.YthmjimboajmhmaaW.PrintMore
attribute [local go_sem] max2_int min2_int max_two min_two max_three min_three max_four min_four   -- for this text's walks alone
set_option linter.unusedVariables false
set_option linter.unusedSimpArgs false
attribute [local go_sem high] eqA37
def spec_l25Walk.f (l0_0:List (S37)) (l0_1:List Bool) (l0_2:List Bool) (a0_3:Int) (a0_4:Int) (a1_0:Int) (a1_1:Int) (a1_2:Int) (a1_3:Int) (a1_4:Int) (a1_5:Int) (a1_6:Int):Option (Bool):=if a1_0 = 1 then ((spec_l1In.f a1_1 0 (wrap64 ((l0_0.length:Int) - 1))).bind fun t249=>(if t249 = true then (some (a1_2 == 0 && (a1_3 == 0 && (a1_4 == 0 && (a1_5 == 0 && (a1_6 == 0)))))) else (some false))) else (if a1_0 = 2 then (if a1_1 = 0 then ((spec_l4Leg.f a1_2 a1_3 a1_4 a1_5 a1_6).bind fun t250=>(some t250)) else (some false)) else (if a1_0 = 3 then (if a1_1 = 0 then (some (a1_2 == 0 && (a1_3 == 0 && (a1_4 == 0 && (a1_5 == 0 && (a1_6 == 0)))))) else (some false)) else (if a1_0 = 4 then ((spec_l1In.f a1_1 1 1000).bind fun t251=>(if t251 = true then (some (a1_2 == 0 && (a1_3 == 0 && (a1_4 == 0 && (a1_5 == 0 && (a1_6 == 0)))))) else (some false))) else (some false))))
theorem spec_l25Walk.calls (A0_0:Option Addr) (c0_0:Nat) (l0_0:List (S37)) (A0_1:Option Addr) (c0_1:Nat) (l0_1:List Bool) (A0_2:Option Addr) (c0_2:Nat) (l0_2:List Bool) (a0_3:Int) (a0_4:Int) (a1_0:Int) (a1_1:Int) (a1_2:Int) (a1_3:Int) (a1_4:Int) (a1_5:Int) (a1_6:Int) (r:Bool) (w:World) (hr0_0:Kd.C k37 w A0_0 l0_0.length l0_0) (hc0_0:l0_0.length <= c0_0) (hr0_1:Kd.C Kd.bool w A0_1 l0_1.length l0_1) (hc0_1:l0_1.length <= c0_1) (hr0_2:Kd.C Kd.bool w A0_2 l0_2.length l0_2) (hc0_2:l0_2.length <= c0_2) (h:spec_l25Walk.f l0_0 l0_1 l0_2 a0_3 a0_4 a1_0 a1_1 a1_2 a1_3 a1_4 a1_5 a1_6 = some r) :
  Calls Try.prog 77 #[.agg #[.slice A0_0 l0_0.length c0_0,.slice A0_1 l0_1.length c0_1,.slice A0_2 l0_2.length c0_2,.int .i64 a0_3,.int .i64 a0_4],.agg #[.int .i64 a1_0,.int .i64 a1_1,.int .i64 a1_2,.int .i64 a1_3,.int .i64 a1_4,.int .i64 a1_5,.int .i64 a1_6]] w fun e w'=>e = .returned (.bool r) /\ Below w.heap.size w w':=by
 have hu30:=Try.underlying30
 have hu39:=Try.underlying39
 have hu37:=Try.underlying37
 have HR0_0:=ak hr0_0
 have HC0_0:=ak hc0_0
 clear hr0_0 hc0_0
 have HR0_1:=ak hr0_1
 have HC0_1:=ak hc0_1
 clear hr0_1 hc0_1
 have HR0_2:=ak hr0_2
 have HC0_2:=ak hc0_2
 clear hr0_2 hc0_2
 have HB:=ak (Below.refl w.heap.size w)
 have H:(if a1_0 = 1 then ((spec_l1In.f a1_1 0 (wrap64 ((l0_0.length:Int) - 1))).bind fun t249=>(if t249 = true then (some (a1_2 == 0 && (a1_3 == 0 && (a1_4 == 0 && (a1_5 == 0 && (a1_6 == 0)))))) else (some false))) else (if a1_0 = 2 then (if a1_1 = 0 then ((spec_l4Leg.f a1_2 a1_3 a1_4 a1_5 a1_6).bind fun t250=>(some t250)) else (some false)) else (if a1_0 = 3 then (if a1_1 = 0 then (some (a1_2 == 0 && (a1_3 == 0 && (a1_4 == 0 && (a1_5 == 0 && (a1_6 == 0)))))) else (some false)) else (if a1_0 = 4 then ((spec_l1In.f a1_1 1 1000).bind fun t251=>(if t251 = true then (some (a1_2 == 0 && (a1_3 == 0 && (a1_4 == 0 && (a1_5 == 0 && (a1_6 == 0)))))) else (some false))) else (some false))))) = some r:=h
 clear h
 by_cases c3:a1_0 = 1
 .
  rw [if_pos c3] at H
  have c3b0:(a1_0 == 1) = true:=beq_iff_eq.mpr c3
  have c3b1:(a1_0 != 1) = false:=bne_eq_false_iff_eq.mpr c3
  clear c3
  replace H:=Option.bind_eq_some_iff.mp H
  obtain ⟨t249,A40,H⟩:=H
  replace H:(if t249 = true then (some (a1_2 == 0 && (a1_3 == 0 && (a1_4 == 0 && (a1_5 == 0 && (a1_6 == 0)))))) else (some false)) = some r:=H
  have A4:=ak A40
  clear A40
  by_cases c5:t249 = true
  .
   subst c5
   have H1:(some (a1_2 == 0 && (a1_3 == 0 && (a1_4 == 0 && (a1_5 == 0 && (a1_6 == 0)))))) = some r:=by rw [if_pos rfl] at H;exact H
   clear H
   have H:=H1
   clear H1
   obtain rfl:=Option.some.inj H
   go_enter Try.func77,Try.ntmps77
   go_wp2_with (first|((with_reducible refine gate_dst (N:=2) rfl ?_);refine box_event ?hg (N:=2) ?hd (cs:=#[.slice A0_0 l0_0.length c0_0,.slice A0_1 l0_1.length c0_1,.slice A0_2 l0_2.length c0_2,.int .i64 a0_3,.int .i64 a0_4]) (t:=30) ?hr ?_;(case hd=>rfl);(case hg=>rfl);(case hr=>first|(go_simp;done)|(go_simp;rfl));intro gb246 hg w6 hbox hb;have BK246:=ak (hbox);have GW246:=ak ((bz_ hg (lb0_ HB.out)));have GE246:=ak ((bz_ hg (lb0_ HB.out)));replace HB:=ak (below_step (lb0_ HB.out) hb);clear hb hbox hg)|((with_reducible refine gate_dst (N:=3) rfl ?_);refine box_event ?hg (N:=3) ?hd (cs:=#[.int .i64 a1_0,.int .i64 a1_1,.int .i64 a1_2,.int .i64 a1_3,.int .i64 a1_4,.int .i64 a1_5,.int .i64 a1_6]) (t:=39) ?hr ?_;(case hd=>rfl);(case hg=>rfl);(case hr=>first|(go_simp;done)|(go_simp;rfl));intro gb247 hg w7 hbox hb;have BK247:=ak (hbox);have GW247:=ak ((bz_ hg (lb1_ HB.out GE246.out)));have GE247:=ak ((bz_ hg (lb1_ HB.out GE246.out)));replace HB:=ak (below_step (lb1_ HB.out GE246.out) hb);have NB246_247:=ak (nl_ hg BK246.out);have NB247_246:=ak (ng_ hg BK246.out);replace BK246:=ak (bb_ (bk_ BK246.out) hb);clear hb hbox hg)|((with_reducible refine gate_dst (N:=5) rfl ?_);refine box_event ?hg (N:=5) ?hd (cs:=#[.int .i64 0,.int .i64 0,.int .i64 0,.int .i64 0,.int .i64 0]) (t:=37) ?hr ?_;(case hd=>rfl);(case hg=>rfl);(case hr=>first|(go_simp;done)|(go_simp;rfl));intro gb248 hg w8 hbox hb;have BK248:=ak (hbox);have GW248:=ak ((bz_ hg (lb2_ HB.out GE246.out GE247.out)));have GE248:=ak ((bz_ hg (lb2_ HB.out GE246.out GE247.out)));replace HB:=ak (below_step (lb2_ HB.out GE246.out GE247.out) hb);have NB246_248:=ak (nl_ hg BK246.out);have NB248_246:=ak (ng_ hg BK246.out);replace BK246:=ak (bb_ (bk_ BK246.out) hb);have NB247_248:=ak (nl_ hg BK247.out);have NB248_247:=ak (ng_ hg BK247.out);replace BK247:=ak (bb_ (bk_ BK247.out) hb);clear hb hbox hg;have hnb9:=NB248_246.out;have hnc9:=NB246_248.out;have hnb10:=NB248_247.out;have hnc10:=NB247_248.out;obtain ⟨hcz11_0,hcz11_1,hcz11_2,hcz11_3,hcz11_4⟩:=cz5_ BK248.out;obtain ⟨hfz11_0,hfz11_1,hfz11_2,hfz11_3,hfz11_4⟩:=fz5_ BK248.out;have hnb12:=NB247_246.out;have hnc12:=NB246_247.out;obtain ⟨hcz13_0,hcz13_1,hcz13_2,hcz13_3,hcz13_4,hcz13_5,hcz13_6⟩:=cz7_ BK247.out;obtain ⟨hfz13_0,hfz13_1,hfz13_2,hfz13_3,hfz13_4,hfz13_5,hfz13_6⟩:=fz7_ BK247.out;obtain ⟨hcz14_0,hcz14_1,hcz14_2,hcz14_3,hcz14_4⟩:=cz5_ BK246.out;obtain ⟨hfz14_0,hfz14_1,hfz14_2,hfz14_3,hfz14_4⟩:=fz5_ BK246.out)|((with_reducible refine gate_callee (f:=101) rfl ?_);refine ga_ (some 17) Try.func101 #[.int .i64 a1_1,.int .i64 0,.int .i64 (wrap64 ((l0_0.length:Int) - 1))] ?_;(with_reducible refine (spec_l1In.calls a1_1 0 (wrap64 ((l0_0.length:Int) - 1)) true _ A4.out).mono ?_);rintro e w' ⟨rfl,⟨nd,rfl⟩⟩;refine ⟨_,rfl,?_⟩))
   go_ret
   exact ⟨rr_,lb3_ HB.out GE246.out GE247.out GE248.out⟩
  .
   replace c5:=Bool.eq_false_iff.mpr c5
   subst c5
   have H1:(some false) = some r:=by rw [if_neg (show ¬ (false = true) by decide)] at H;exact H
   clear H
   have H:=H1
   clear H1
   obtain rfl:=Option.some.inj H
   go_enter Try.func77,Try.ntmps77
   go_wp2_with (first|((with_reducible refine gate_dst (N:=2) rfl ?_);refine box_event ?hg (N:=2) ?hd (cs:=#[.slice A0_0 l0_0.length c0_0,.slice A0_1 l0_1.length c0_1,.slice A0_2 l0_2.length c0_2,.int .i64 a0_3,.int .i64 a0_4]) (t:=30) ?hr ?_;(case hd=>rfl);(case hg=>rfl);(case hr=>first|(go_simp;done)|(go_simp;rfl));intro gb246 hg w15 hbox hb;have BK246:=ak (hbox);have GW246:=ak ((bz_ hg (lb0_ HB.out)));have GE246:=ak ((bz_ hg (lb0_ HB.out)));replace HB:=ak (below_step (lb0_ HB.out) hb);clear hb hbox hg)|((with_reducible refine gate_dst (N:=3) rfl ?_);refine box_event ?hg (N:=3) ?hd (cs:=#[.int .i64 a1_0,.int .i64 a1_1,.int .i64 a1_2,.int .i64 a1_3,.int .i64 a1_4,.int .i64 a1_5,.int .i64 a1_6]) (t:=39) ?hr ?_;(case hd=>rfl);(case hg=>rfl);(case hr=>first|(go_simp;done)|(go_simp;rfl));intro gb247 hg w16 hbox hb;have BK247:=ak (hbox);have GW247:=ak ((bz_ hg (lb1_ HB.out GE246.out)));have GE247:=ak ((bz_ hg (lb1_ HB.out GE246.out)));replace HB:=ak (below_step (lb1_ HB.out GE246.out) hb);have NB246_247:=ak (nl_ hg BK246.out);have NB247_246:=ak (ng_ hg BK246.out);replace BK246:=ak (bb_ (bk_ BK246.out) hb);clear hb hbox hg)|((with_reducible refine gate_dst (N:=5) rfl ?_);refine box_event ?hg (N:=5) ?hd (cs:=#[.int .i64 0,.int .i64 0,.int .i64 0,.int .i64 0,.int .i64 0]) (t:=37) ?hr ?_;(case hd=>rfl);(case hg=>rfl);(case hr=>first|(go_simp;done)|(go_simp;rfl));intro gb248 hg w17 hbox hb;have BK248:=ak (hbox);have GW248:=ak ((bz_ hg (lb2_ HB.out GE246.out GE247.out)));have GE248:=ak ((bz_ hg (lb2_ HB.out GE246.out GE247.out)));replace HB:=ak (below_step (lb2_ HB.out GE246.out GE247.out) hb);have NB246_248:=ak (nl_ hg BK246.out);have NB248_246:=ak (ng_ hg BK246.out);replace BK246:=ak (bb_ (bk_ BK246.out) hb);have NB247_248:=ak (nl_ hg BK247.out);have NB248_247:=ak (ng_ hg BK247.out);replace BK247:=ak (bb_ (bk_ BK247.out) hb);clear hb hbox hg;have hnb18:=NB248_246.out;have hnc18:=NB246_248.out;have hnb19:=NB248_247.out;have hnc19:=NB247_248.out;obtain ⟨hcz20_0,hcz20_1,hcz20_2,hcz20_3,hcz20_4⟩:=cz5_ BK248.out;obtain ⟨hfz20_0,hfz20_1,hfz20_2,hfz20_3,hfz20_4⟩:=fz5_ BK248.out;have hnb21:=NB247_246.out;have hnc21:=NB246_247.out;obtain ⟨hcz22_0,hcz22_1,hcz22_2,hcz22_3,hcz22_4,hcz22_5,hcz22_6⟩:=cz7_ BK247.out;obtain ⟨hfz22_0,hfz22_1,hfz22_2,hfz22_3,hfz22_4,hfz22_5,hfz22_6⟩:=fz7_ BK247.out;obtain ⟨hcz23_0,hcz23_1,hcz23_2,hcz23_3,hcz23_4⟩:=cz5_ BK246.out;obtain ⟨hfz23_0,hfz23_1,hfz23_2,hfz23_3,hfz23_4⟩:=fz5_ BK246.out)|((with_reducible refine gate_callee (f:=101) rfl ?_);refine ga_ (some 17) Try.func101 #[.int .i64 a1_1,.int .i64 0,.int .i64 (wrap64 ((l0_0.length:Int) - 1))] ?_;(with_reducible refine (spec_l1In.calls a1_1 0 (wrap64 ((l0_0.length:Int) - 1)) false _ A4.out).mono ?_);rintro e w' ⟨rfl,⟨nd,rfl⟩⟩;refine ⟨_,rfl,?_⟩))
   go_ret
   exact ⟨rr_,lb3_ HB.out GE246.out GE247.out GE248.out⟩
 .
  rw [if_neg c3] at H
  have c3b0:(a1_0 == 1) = false:=beq_eq_false_iff_ne.mpr c3
  have c3b1:(a1_0 != 1) = true:=bne_iff_ne.mpr c3
  by_cases c24:a1_0 = 2
  .
   rw [if_pos c24] at H
   have c24b0:(a1_0 == 2) = true:=beq_iff_eq.mpr c24
   have c24b1:(a1_0 != 2) = false:=bne_eq_false_iff_eq.mpr c24
   clear c24
   by_cases c25:a1_1 = 0
   .
    rw [if_pos c25] at H
    have c25b0:(a1_1 == 0) = true:=beq_iff_eq.mpr c25
    have c25b1:(a1_1 != 0) = false:=bne_eq_false_iff_eq.mpr c25
    clear c25
    replace H:=Option.bind_eq_some_iff.mp H
    obtain ⟨t250,A260,H⟩:=H
    replace H:(some t250) = some r:=H
    have A26:=ak A260
    clear A260
    obtain rfl:=Option.some.inj H
    go_enter Try.func77,Try.ntmps77
    go_wp2_with (first|((with_reducible refine gate_dst (N:=2) rfl ?_);refine box_event ?hg (N:=2) ?hd (cs:=#[.slice A0_0 l0_0.length c0_0,.slice A0_1 l0_1.length c0_1,.slice A0_2 l0_2.length c0_2,.int .i64 a0_3,.int .i64 a0_4]) (t:=30) ?hr ?_;(case hd=>rfl);(case hg=>rfl);(case hr=>first|(go_simp;done)|(go_simp;rfl));intro gb246 hg w27 hbox hb;have BK246:=ak (hbox);have GW246:=ak ((bz_ hg (lb0_ HB.out)));have GE246:=ak ((bz_ hg (lb0_ HB.out)));replace HB:=ak (below_step (lb0_ HB.out) hb);clear hb hbox hg)|((with_reducible refine gate_dst (N:=3) rfl ?_);refine box_event ?hg (N:=3) ?hd (cs:=#[.int .i64 a1_0,.int .i64 a1_1,.int .i64 a1_2,.int .i64 a1_3,.int .i64 a1_4,.int .i64 a1_5,.int .i64 a1_6]) (t:=39) ?hr ?_;(case hd=>rfl);(case hg=>rfl);(case hr=>first|(go_simp;done)|(go_simp;rfl));intro gb247 hg w28 hbox hb;have BK247:=ak (hbox);have GW247:=ak ((bz_ hg (lb1_ HB.out GE246.out)));have GE247:=ak ((bz_ hg (lb1_ HB.out GE246.out)));replace HB:=ak (below_step (lb1_ HB.out GE246.out) hb);have NB246_247:=ak (nl_ hg BK246.out);have NB247_246:=ak (ng_ hg BK246.out);replace BK246:=ak (bb_ (bk_ BK246.out) hb);clear hb hbox hg)|((with_reducible refine gate_dst (N:=5) rfl ?_);refine box_event ?hg (N:=5) ?hd (cs:=#[.int .i64 0,.int .i64 0,.int .i64 0,.int .i64 0,.int .i64 0]) (t:=37) ?hr ?_;(case hd=>rfl);(case hg=>rfl);(case hr=>first|(go_simp;done)|(go_simp;rfl));intro gb248 hg w29 hbox hb;have BK248:=ak (hbox);have GW248:=ak ((bz_ hg (lb2_ HB.out GE246.out GE247.out)));have GE248:=ak ((bz_ hg (lb2_ HB.out GE246.out GE247.out)));replace HB:=ak (below_step (lb2_ HB.out GE246.out GE247.out) hb);have NB246_248:=ak (nl_ hg BK246.out);have NB248_246:=ak (ng_ hg BK246.out);replace BK246:=ak (bb_ (bk_ BK246.out) hb);have NB247_248:=ak (nl_ hg BK247.out);have NB248_247:=ak (ng_ hg BK247.out);replace BK247:=ak (bb_ (bk_ BK247.out) hb);clear hb hbox hg;have hnb30:=NB248_246.out;have hnc30:=NB246_248.out;have hnb31:=NB248_247.out;have hnc31:=NB247_248.out;obtain ⟨hcz32_0,hcz32_1,hcz32_2,hcz32_3,hcz32_4⟩:=cz5_ BK248.out;obtain ⟨hfz32_0,hfz32_1,hfz32_2,hfz32_3,hfz32_4⟩:=fz5_ BK248.out;have hnb33:=NB247_246.out;have hnc33:=NB246_247.out;obtain ⟨hcz34_0,hcz34_1,hcz34_2,hcz34_3,hcz34_4,hcz34_5,hcz34_6⟩:=cz7_ BK247.out;obtain ⟨hfz34_0,hfz34_1,hfz34_2,hfz34_3,hfz34_4,hfz34_5,hfz34_6⟩:=fz7_ BK247.out)|(go_at_call 106;(with_reducible refine (spec_l4Leg.calls a1_2 a1_3 a1_4 a1_5 a1_6 t250 _ A26.out).mono ?_);rintro e w35 ⟨rfl,hb⟩;replace BK246:=ak (blk_below (g:=gb246) (o:=.cells #[.slice A0_0 l0_0.length c0_0,.slice A0_1 l0_1.length c0_1,.slice A0_2 l0_2.length c0_2,.int .i64 a0_3,.int .i64 a0_4] 30 (0,0)) (by (with_reducible repeat (first|refine blk_drewN ?_ _|refine blk_drew ?_|refine blk_alloc ?_ _));exact (f5_ BK246.out NB246_248.out _ _ _ _ _)) hb);replace BK247:=ak (blk_below (g:=gb247) (o:=.cells #[.int .i64 a1_0,.int .i64 a1_1,.int .i64 a1_2,.int .i64 a1_3,.int .i64 a1_4,.int .i64 a1_5,.int .i64 a1_6] 39 (0,0)) (by (with_reducible repeat (first|refine blk_drewN ?_ _|refine blk_drew ?_|refine blk_alloc ?_ _));exact (f5_ BK247.out NB247_248.out _ _ _ _ _)) hb);replace BK248:=ak (blk_below (g:=gb248) (o:=.cells #[.int .i64 0,.int .i64 0,.int .i64 0,.int .i64 0,.int .i64 0] 37 (0,0)) (by (with_reducible repeat (first|refine blk_drewN ?_ _|refine blk_drew ?_|refine blk_alloc ?_ _));exact (p5_ BK248.out _ _ _ _ _)) hb);replace HB:=ak (below_step (lb3_ HB.out GE246.out GE247.out GE248.out) hb);(try clear hb);(try clear hb2);(try clear hk);(try clear hi)))
    go_ret
    exact ⟨rr_,lb3_ HB.out GE246.out GE247.out GE248.out⟩
   .
    rw [if_neg c25] at H
    have c25b0:(a1_1 == 0) = false:=beq_eq_false_iff_ne.mpr c25
    have c25b1:(a1_1 != 0) = true:=bne_iff_ne.mpr c25
    obtain rfl:=Option.some.inj H
    go_enter Try.func77,Try.ntmps77
    go_wp2_with (first|((with_reducible refine gate_dst (N:=2) rfl ?_);refine box_event ?hg (N:=2) ?hd (cs:=#[.slice A0_0 l0_0.length c0_0,.slice A0_1 l0_1.length c0_1,.slice A0_2 l0_2.length c0_2,.int .i64 a0_3,.int .i64 a0_4]) (t:=30) ?hr ?_;(case hd=>rfl);(case hg=>rfl);(case hr=>first|(go_simp;done)|(go_simp;rfl));intro gb246 hg w36 hbox hb;have BK246:=ak (hbox);have GW246:=ak ((bz_ hg (lb0_ HB.out)));have GE246:=ak ((bz_ hg (lb0_ HB.out)));replace HB:=ak (below_step (lb0_ HB.out) hb);clear hb hbox hg)|((with_reducible refine gate_dst (N:=3) rfl ?_);refine box_event ?hg (N:=3) ?hd (cs:=#[.int .i64 a1_0,.int .i64 a1_1,.int .i64 a1_2,.int .i64 a1_3,.int .i64 a1_4,.int .i64 a1_5,.int .i64 a1_6]) (t:=39) ?hr ?_;(case hd=>rfl);(case hg=>rfl);(case hr=>first|(go_simp;done)|(go_simp;rfl));intro gb247 hg w37 hbox hb;have BK247:=ak (hbox);have GW247:=ak ((bz_ hg (lb1_ HB.out GE246.out)));have GE247:=ak ((bz_ hg (lb1_ HB.out GE246.out)));replace HB:=ak (below_step (lb1_ HB.out GE246.out) hb);have NB246_247:=ak (nl_ hg BK246.out);have NB247_246:=ak (ng_ hg BK246.out);replace BK246:=ak (bb_ (bk_ BK246.out) hb);clear hb hbox hg)|((with_reducible refine gate_dst (N:=5) rfl ?_);refine box_event ?hg (N:=5) ?hd (cs:=#[.int .i64 0,.int .i64 0,.int .i64 0,.int .i64 0,.int .i64 0]) (t:=37) ?hr ?_;(case hd=>rfl);(case hg=>rfl);(case hr=>first|(go_simp;done)|(go_simp;rfl));intro gb248 hg w38 hbox hb;have BK248:=ak (hbox);have GW248:=ak ((bz_ hg (lb2_ HB.out GE246.out GE247.out)));have GE248:=ak ((bz_ hg (lb2_ HB.out GE246.out GE247.out)));replace HB:=ak (below_step (lb2_ HB.out GE246.out GE247.out) hb);have NB246_248:=ak (nl_ hg BK246.out);have NB248_246:=ak (ng_ hg BK246.out);replace BK246:=ak (bb_ (bk_ BK246.out) hb);have NB247_248:=ak (nl_ hg BK247.out);have NB248_247:=ak (ng_ hg BK247.out);replace BK247:=ak (bb_ (bk_ BK247.out) hb);clear hb hbox hg;have hnb39:=NB248_246.out;have hnc39:=NB246_248.out;have hnb40:=NB248_247.out;have hnc40:=NB247_248.out;obtain ⟨hcz41_0,hcz41_1,hcz41_2,hcz41_3,hcz41_4⟩:=cz5_ BK248.out;obtain ⟨hfz41_0,hfz41_1,hfz41_2,hfz41_3,hfz41_4⟩:=fz5_ BK248.out;have hnb42:=NB247_246.out;have hnc42:=NB246_247.out;obtain ⟨hcz43_0,hcz43_1,hcz43_2,hcz43_3,hcz43_4,hcz43_5,hcz43_6⟩:=cz7_ BK247.out;obtain ⟨hfz43_0,hfz43_1,hfz43_2,hfz43_3,hfz43_4,hfz43_5,hfz43_6⟩:=fz7_ BK247.out))
    go_ret
    exact ⟨rr_,lb3_ HB.out GE246.out GE247.out GE248.out⟩
  .
   rw [if_neg c24] at H
   have c24b0:(a1_0 == 2) = false:=beq_eq_false_iff_ne.mpr c24
   have c24b1:(a1_0 != 2) = true:=bne_iff_ne.mpr c24
   by_cases c44:a1_0 = 3
   .
    rw [if_pos c44] at H
    have c44b0:(a1_0 == 3) = true:=beq_iff_eq.mpr c44
    have c44b1:(a1_0 != 3) = false:=bne_eq_false_iff_eq.mpr c44
    clear c44
    by_cases c45:a1_1 = 0
    .
     rw [if_pos c45] at H
     have c45b0:(a1_1 == 0) = true:=beq_iff_eq.mpr c45
     have c45b1:(a1_1 != 0) = false:=bne_eq_false_iff_eq.mpr c45
     clear c45
     obtain rfl:=Option.some.inj H
     go_enter Try.func77,Try.ntmps77
     go_wp2_with (first|((with_reducible refine gate_dst (N:=2) rfl ?_);refine box_event ?hg (N:=2) ?hd (cs:=#[.slice A0_0 l0_0.length c0_0,.slice A0_1 l0_1.length c0_1,.slice A0_2 l0_2.length c0_2,.int .i64 a0_3,.int .i64 a0_4]) (t:=30) ?hr ?_;(case hd=>rfl);(case hg=>rfl);(case hr=>first|(go_simp;done)|(go_simp;rfl));intro gb246 hg w46 hbox hb;have BK246:=ak (hbox);have GW246:=ak ((bz_ hg (lb0_ HB.out)));have GE246:=ak ((bz_ hg (lb0_ HB.out)));replace HB:=ak (below_step (lb0_ HB.out) hb);clear hb hbox hg)|((with_reducible refine gate_dst (N:=3) rfl ?_);refine box_event ?hg (N:=3) ?hd (cs:=#[.int .i64 a1_0,.int .i64 a1_1,.int .i64 a1_2,.int .i64 a1_3,.int .i64 a1_4,.int .i64 a1_5,.int .i64 a1_6]) (t:=39) ?hr ?_;(case hd=>rfl);(case hg=>rfl);(case hr=>first|(go_simp;done)|(go_simp;rfl));intro gb247 hg w47 hbox hb;have BK247:=ak (hbox);have GW247:=ak ((bz_ hg (lb1_ HB.out GE246.out)));have GE247:=ak ((bz_ hg (lb1_ HB.out GE246.out)));replace HB:=ak (below_step (lb1_ HB.out GE246.out) hb);have NB246_247:=ak (nl_ hg BK246.out);have NB247_246:=ak (ng_ hg BK246.out);replace BK246:=ak (bb_ (bk_ BK246.out) hb);clear hb hbox hg)|((with_reducible refine gate_dst (N:=5) rfl ?_);refine box_event ?hg (N:=5) ?hd (cs:=#[.int .i64 0,.int .i64 0,.int .i64 0,.int .i64 0,.int .i64 0]) (t:=37) ?hr ?_;(case hd=>rfl);(case hg=>rfl);(case hr=>first|(go_simp;done)|(go_simp;rfl));intro gb248 hg w48 hbox hb;have BK248:=ak (hbox);have GW248:=ak ((bz_ hg (lb2_ HB.out GE246.out GE247.out)));have GE248:=ak ((bz_ hg (lb2_ HB.out GE246.out GE247.out)));replace HB:=ak (below_step (lb2_ HB.out GE246.out GE247.out) hb);have NB246_248:=ak (nl_ hg BK246.out);have NB248_246:=ak (ng_ hg BK246.out);replace BK246:=ak (bb_ (bk_ BK246.out) hb);have NB247_248:=ak (nl_ hg BK247.out);have NB248_247:=ak (ng_ hg BK247.out);replace BK247:=ak (bb_ (bk_ BK247.out) hb);clear hb hbox hg;have hnb49:=NB248_246.out;have hnc49:=NB246_248.out;have hnb50:=NB248_247.out;have hnc50:=NB247_248.out;obtain ⟨hcz51_0,hcz51_1,hcz51_2,hcz51_3,hcz51_4⟩:=cz5_ BK248.out;obtain ⟨hfz51_0,hfz51_1,hfz51_2,hfz51_3,hfz51_4⟩:=fz5_ BK248.out;have hnb52:=NB247_246.out;have hnc52:=NB246_247.out;obtain ⟨hcz53_0,hcz53_1,hcz53_2,hcz53_3,hcz53_4,hcz53_5,hcz53_6⟩:=cz7_ BK247.out;obtain ⟨hfz53_0,hfz53_1,hfz53_2,hfz53_3,hfz53_4,hfz53_5,hfz53_6⟩:=fz7_ BK247.out))
     go_ret
     exact ⟨rr_,lb3_ HB.out GE246.out GE247.out GE248.out⟩
    .
     rw [if_neg c45] at H
     have c45b0:(a1_1 == 0) = false:=beq_eq_false_iff_ne.mpr c45
     have c45b1:(a1_1 != 0) = true:=bne_iff_ne.mpr c45
     obtain rfl:=Option.some.inj H
     go_enter Try.func77,Try.ntmps77
     go_wp2_with (first|((with_reducible refine gate_dst (N:=2) rfl ?_);refine box_event ?hg (N:=2) ?hd (cs:=#[.slice A0_0 l0_0.length c0_0,.slice A0_1 l0_1.length c0_1,.slice A0_2 l0_2.length c0_2,.int .i64 a0_3,.int .i64 a0_4]) (t:=30) ?hr ?_;(case hd=>rfl);(case hg=>rfl);(case hr=>first|(go_simp;done)|(go_simp;rfl));intro gb246 hg w54 hbox hb;have BK246:=ak (hbox);have GW246:=ak ((bz_ hg (lb0_ HB.out)));have GE246:=ak ((bz_ hg (lb0_ HB.out)));replace HB:=ak (below_step (lb0_ HB.out) hb);clear hb hbox hg)|((with_reducible refine gate_dst (N:=3) rfl ?_);refine box_event ?hg (N:=3) ?hd (cs:=#[.int .i64 a1_0,.int .i64 a1_1,.int .i64 a1_2,.int .i64 a1_3,.int .i64 a1_4,.int .i64 a1_5,.int .i64 a1_6]) (t:=39) ?hr ?_;(case hd=>rfl);(case hg=>rfl);(case hr=>first|(go_simp;done)|(go_simp;rfl));intro gb247 hg w55 hbox hb;have BK247:=ak (hbox);have GW247:=ak ((bz_ hg (lb1_ HB.out GE246.out)));have GE247:=ak ((bz_ hg (lb1_ HB.out GE246.out)));replace HB:=ak (below_step (lb1_ HB.out GE246.out) hb);have NB246_247:=ak (nl_ hg BK246.out);have NB247_246:=ak (ng_ hg BK246.out);replace BK246:=ak (bb_ (bk_ BK246.out) hb);clear hb hbox hg)|((with_reducible refine gate_dst (N:=5) rfl ?_);refine box_event ?hg (N:=5) ?hd (cs:=#[.int .i64 0,.int .i64 0,.int .i64 0,.int .i64 0,.int .i64 0]) (t:=37) ?hr ?_;(case hd=>rfl);(case hg=>rfl);(case hr=>first|(go_simp;done)|(go_simp;rfl));intro gb248 hg w56 hbox hb;have BK248:=ak (hbox);have GW248:=ak ((bz_ hg (lb2_ HB.out GE246.out GE247.out)));have GE248:=ak ((bz_ hg (lb2_ HB.out GE246.out GE247.out)));replace HB:=ak (below_step (lb2_ HB.out GE246.out GE247.out) hb);have NB246_248:=ak (nl_ hg BK246.out);have NB248_246:=ak (ng_ hg BK246.out);replace BK246:=ak (bb_ (bk_ BK246.out) hb);have NB247_248:=ak (nl_ hg BK247.out);have NB248_247:=ak (ng_ hg BK247.out);replace BK247:=ak (bb_ (bk_ BK247.out) hb);clear hb hbox hg;have hnb57:=NB248_246.out;have hnc57:=NB246_248.out;have hnb58:=NB248_247.out;have hnc58:=NB247_248.out;obtain ⟨hcz59_0,hcz59_1,hcz59_2,hcz59_3,hcz59_4⟩:=cz5_ BK248.out;obtain ⟨hfz59_0,hfz59_1,hfz59_2,hfz59_3,hfz59_4⟩:=fz5_ BK248.out;have hnb60:=NB247_246.out;have hnc60:=NB246_247.out;obtain ⟨hcz61_0,hcz61_1,hcz61_2,hcz61_3,hcz61_4,hcz61_5,hcz61_6⟩:=cz7_ BK247.out;obtain ⟨hfz61_0,hfz61_1,hfz61_2,hfz61_3,hfz61_4,hfz61_5,hfz61_6⟩:=fz7_ BK247.out))
     go_ret
     exact ⟨rr_,lb3_ HB.out GE246.out GE247.out GE248.out⟩
   .
    rw [if_neg c44] at H
    have c44b0:(a1_0 == 3) = false:=beq_eq_false_iff_ne.mpr c44
    have c44b1:(a1_0 != 3) = true:=bne_iff_ne.mpr c44
    by_cases c62:a1_0 = 4
    .
     rw [if_pos c62] at H
     have c62b0:(a1_0 == 4) = true:=beq_iff_eq.mpr c62
     have c62b1:(a1_0 != 4) = false:=bne_eq_false_iff_eq.mpr c62
     clear c62
     replace H:=Option.bind_eq_some_iff.mp H
     obtain ⟨t251,A630,H⟩:=H
     replace H:(if t251 = true then (some (a1_2 == 0 && (a1_3 == 0 && (a1_4 == 0 && (a1_5 == 0 && (a1_6 == 0)))))) else (some false)) = some r:=H
     have A63:=ak A630
     clear A630
     by_cases c64:t251 = true
     .
      subst c64
      have H1:(some (a1_2 == 0 && (a1_3 == 0 && (a1_4 == 0 && (a1_5 == 0 && (a1_6 == 0)))))) = some r:=by rw [if_pos rfl] at H;exact H
      clear H
      have H:=H1
      clear H1
      obtain rfl:=Option.some.inj H
      go_enter Try.func77,Try.ntmps77
      go_wp2_with (first|((with_reducible refine gate_dst (N:=2) rfl ?_);refine box_event ?hg (N:=2) ?hd (cs:=#[.slice A0_0 l0_0.length c0_0,.slice A0_1 l0_1.length c0_1,.slice A0_2 l0_2.length c0_2,.int .i64 a0_3,.int .i64 a0_4]) (t:=30) ?hr ?_;(case hd=>rfl);(case hg=>rfl);(case hr=>first|(go_simp;done)|(go_simp;rfl));intro gb246 hg w65 hbox hb;have BK246:=ak (hbox);have GW246:=ak ((bz_ hg (lb0_ HB.out)));have GE246:=ak ((bz_ hg (lb0_ HB.out)));replace HB:=ak (below_step (lb0_ HB.out) hb);clear hb hbox hg)|((with_reducible refine gate_dst (N:=3) rfl ?_);refine box_event ?hg (N:=3) ?hd (cs:=#[.int .i64 a1_0,.int .i64 a1_1,.int .i64 a1_2,.int .i64 a1_3,.int .i64 a1_4,.int .i64 a1_5,.int .i64 a1_6]) (t:=39) ?hr ?_;(case hd=>rfl);(case hg=>rfl);(case hr=>first|(go_simp;done)|(go_simp;rfl));intro gb247 hg w66 hbox hb;have BK247:=ak (hbox);have GW247:=ak ((bz_ hg (lb1_ HB.out GE246.out)));have GE247:=ak ((bz_ hg (lb1_ HB.out GE246.out)));replace HB:=ak (below_step (lb1_ HB.out GE246.out) hb);have NB246_247:=ak (nl_ hg BK246.out);have NB247_246:=ak (ng_ hg BK246.out);replace BK246:=ak (bb_ (bk_ BK246.out) hb);clear hb hbox hg)|((with_reducible refine gate_dst (N:=5) rfl ?_);refine box_event ?hg (N:=5) ?hd (cs:=#[.int .i64 0,.int .i64 0,.int .i64 0,.int .i64 0,.int .i64 0]) (t:=37) ?hr ?_;(case hd=>rfl);(case hg=>rfl);(case hr=>first|(go_simp;done)|(go_simp;rfl));intro gb248 hg w67 hbox hb;have BK248:=ak (hbox);have GW248:=ak ((bz_ hg (lb2_ HB.out GE246.out GE247.out)));have GE248:=ak ((bz_ hg (lb2_ HB.out GE246.out GE247.out)));replace HB:=ak (below_step (lb2_ HB.out GE246.out GE247.out) hb);have NB246_248:=ak (nl_ hg BK246.out);have NB248_246:=ak (ng_ hg BK246.out);replace BK246:=ak (bb_ (bk_ BK246.out) hb);have NB247_248:=ak (nl_ hg BK247.out);have NB248_247:=ak (ng_ hg BK247.out);replace BK247:=ak (bb_ (bk_ BK247.out) hb);clear hb hbox hg;have hnb68:=NB248_246.out;have hnc68:=NB246_248.out;have hnb69:=NB248_247.out;have hnc69:=NB247_248.out;obtain ⟨hcz70_0,hcz70_1,hcz70_2,hcz70_3,hcz70_4⟩:=cz5_ BK248.out;obtain ⟨hfz70_0,hfz70_1,hfz70_2,hfz70_3,hfz70_4⟩:=fz5_ BK248.out;have hnb71:=NB247_246.out;have hnc71:=NB246_247.out;obtain ⟨hcz72_0,hcz72_1,hcz72_2,hcz72_3,hcz72_4,hcz72_5,hcz72_6⟩:=cz7_ BK247.out;obtain ⟨hfz72_0,hfz72_1,hfz72_2,hfz72_3,hfz72_4,hfz72_5,hfz72_6⟩:=fz7_ BK247.out)|(go_at_call 101;(with_reducible refine (spec_l1In.calls a1_1 1 1000 true _ A63.out).mono ?_);rintro e w' ⟨rfl,⟨nd,rfl⟩⟩))
      go_ret
      exact ⟨rr_,lb3_ HB.out GE246.out GE247.out GE248.out⟩
     .
      replace c64:=Bool.eq_false_iff.mpr c64
      subst c64
      have H1:(some false) = some r:=by rw [if_neg (show ¬ (false = true) by decide)] at H;exact H
      clear H
      have H:=H1
      clear H1
      obtain rfl:=Option.some.inj H
      go_enter Try.func77,Try.ntmps77
      go_wp2_with (first|((with_reducible refine gate_dst (N:=2) rfl ?_);refine box_event ?hg (N:=2) ?hd (cs:=#[.slice A0_0 l0_0.length c0_0,.slice A0_1 l0_1.length c0_1,.slice A0_2 l0_2.length c0_2,.int .i64 a0_3,.int .i64 a0_4]) (t:=30) ?hr ?_;(case hd=>rfl);(case hg=>rfl);(case hr=>first|(go_simp;done)|(go_simp;rfl));intro gb246 hg w73 hbox hb;have BK246:=ak (hbox);have GW246:=ak ((bz_ hg (lb0_ HB.out)));have GE246:=ak ((bz_ hg (lb0_ HB.out)));replace HB:=ak (below_step (lb0_ HB.out) hb);clear hb hbox hg)|((with_reducible refine gate_dst (N:=3) rfl ?_);refine box_event ?hg (N:=3) ?hd (cs:=#[.int .i64 a1_0,.int .i64 a1_1,.int .i64 a1_2,.int .i64 a1_3,.int .i64 a1_4,.int .i64 a1_5,.int .i64 a1_6]) (t:=39) ?hr ?_;(case hd=>rfl);(case hg=>rfl);(case hr=>first|(go_simp;done)|(go_simp;rfl));intro gb247 hg w74 hbox hb;have BK247:=ak (hbox);have GW247:=ak ((bz_ hg (lb1_ HB.out GE246.out)));have GE247:=ak ((bz_ hg (lb1_ HB.out GE246.out)));replace HB:=ak (below_step (lb1_ HB.out GE246.out) hb);have NB246_247:=ak (nl_ hg BK246.out);have NB247_246:=ak (ng_ hg BK246.out);replace BK246:=ak (bb_ (bk_ BK246.out) hb);clear hb hbox hg)|((with_reducible refine gate_dst (N:=5) rfl ?_);refine box_event ?hg (N:=5) ?hd (cs:=#[.int .i64 0,.int .i64 0,.int .i64 0,.int .i64 0,.int .i64 0]) (t:=37) ?hr ?_;(case hd=>rfl);(case hg=>rfl);(case hr=>first|(go_simp;done)|(go_simp;rfl));intro gb248 hg w75 hbox hb;have BK248:=ak (hbox);have GW248:=ak ((bz_ hg (lb2_ HB.out GE246.out GE247.out)));have GE248:=ak ((bz_ hg (lb2_ HB.out GE246.out GE247.out)));replace HB:=ak (below_step (lb2_ HB.out GE246.out GE247.out) hb);have NB246_248:=ak (nl_ hg BK246.out);have NB248_246:=ak (ng_ hg BK246.out);replace BK246:=ak (bb_ (bk_ BK246.out) hb);have NB247_248:=ak (nl_ hg BK247.out);have NB248_247:=ak (ng_ hg BK247.out);replace BK247:=ak (bb_ (bk_ BK247.out) hb);clear hb hbox hg;have hnb76:=NB248_246.out;have hnc76:=NB246_248.out;have hnb77:=NB248_247.out;have hnc77:=NB247_248.out;obtain ⟨hcz78_0,hcz78_1,hcz78_2,hcz78_3,hcz78_4⟩:=cz5_ BK248.out;obtain ⟨hfz78_0,hfz78_1,hfz78_2,hfz78_3,hfz78_4⟩:=fz5_ BK248.out;have hnb79:=NB247_246.out;have hnc79:=NB246_247.out;obtain ⟨hcz80_0,hcz80_1,hcz80_2,hcz80_3,hcz80_4,hcz80_5,hcz80_6⟩:=cz7_ BK247.out;obtain ⟨hfz80_0,hfz80_1,hfz80_2,hfz80_3,hfz80_4,hfz80_5,hfz80_6⟩:=fz7_ BK247.out)|(go_at_call 101;(with_reducible refine (spec_l1In.calls a1_1 1 1000 false _ A63.out).mono ?_);rintro e w' ⟨rfl,⟨nd,rfl⟩⟩))
      go_ret
      exact ⟨rr_,lb3_ HB.out GE246.out GE247.out GE248.out⟩
    .
     rw [if_neg c62] at H
     have c62b0:(a1_0 == 4) = false:=beq_eq_false_iff_ne.mpr c62
     have c62b1:(a1_0 != 4) = true:=bne_iff_ne.mpr c62
     obtain rfl:=Option.some.inj H
     go_enter Try.func77,Try.ntmps77
     go_wp2_with (first|((with_reducible refine gate_dst (N:=2) rfl ?_);refine box_event ?hg (N:=2) ?hd (cs:=#[.slice A0_0 l0_0.length c0_0,.slice A0_1 l0_1.length c0_1,.slice A0_2 l0_2.length c0_2,.int .i64 a0_3,.int .i64 a0_4]) (t:=30) ?hr ?_;(case hd=>rfl);(case hg=>rfl);(case hr=>first|(go_simp;done)|(go_simp;rfl));intro gb246 hg w81 hbox hb;have BK246:=ak (hbox);have GW246:=ak ((bz_ hg (lb0_ HB.out)));have GE246:=ak ((bz_ hg (lb0_ HB.out)));replace HB:=ak (below_step (lb0_ HB.out) hb);clear hb hbox hg)|((with_reducible refine gate_dst (N:=3) rfl ?_);refine box_event ?hg (N:=3) ?hd (cs:=#[.int .i64 a1_0,.int .i64 a1_1,.int .i64 a1_2,.int .i64 a1_3,.int .i64 a1_4,.int .i64 a1_5,.int .i64 a1_6]) (t:=39) ?hr ?_;(case hd=>rfl);(case hg=>rfl);(case hr=>first|(go_simp;done)|(go_simp;rfl));intro gb247 hg w82 hbox hb;have BK247:=ak (hbox);have GW247:=ak ((bz_ hg (lb1_ HB.out GE246.out)));have GE247:=ak ((bz_ hg (lb1_ HB.out GE246.out)));replace HB:=ak (below_step (lb1_ HB.out GE246.out) hb);have NB246_247:=ak (nl_ hg BK246.out);have NB247_246:=ak (ng_ hg BK246.out);replace BK246:=ak (bb_ (bk_ BK246.out) hb);clear hb hbox hg)|((with_reducible refine gate_dst (N:=5) rfl ?_);refine box_event ?hg (N:=5) ?hd (cs:=#[.int .i64 0,.int .i64 0,.int .i64 0,.int .i64 0,.int .i64 0]) (t:=37) ?hr ?_;(case hd=>rfl);(case hg=>rfl);(case hr=>first|(go_simp;done)|(go_simp;rfl));intro gb248 hg w83 hbox hb;have BK248:=ak (hbox);have GW248:=ak ((bz_ hg (lb2_ HB.out GE246.out GE247.out)));have GE248:=ak ((bz_ hg (lb2_ HB.out GE246.out GE247.out)));replace HB:=ak (below_step (lb2_ HB.out GE246.out GE247.out) hb);have NB246_248:=ak (nl_ hg BK246.out);have NB248_246:=ak (ng_ hg BK246.out);replace BK246:=ak (bb_ (bk_ BK246.out) hb);have NB247_248:=ak (nl_ hg BK247.out);have NB248_247:=ak (ng_ hg BK247.out);replace BK247:=ak (bb_ (bk_ BK247.out) hb);clear hb hbox hg;have hnb84:=NB248_246.out;have hnc84:=NB246_248.out;have hnb85:=NB248_247.out;have hnc85:=NB247_248.out;obtain ⟨hcz86_0,hcz86_1,hcz86_2,hcz86_3,hcz86_4⟩:=cz5_ BK248.out;obtain ⟨hfz86_0,hfz86_1,hfz86_2,hfz86_3,hfz86_4⟩:=fz5_ BK248.out;have hnb87:=NB247_246.out;have hnc87:=NB246_247.out;obtain ⟨hcz88_0,hcz88_1,hcz88_2,hcz88_3,hcz88_4,hcz88_5,hcz88_6⟩:=cz7_ BK247.out;obtain ⟨hfz88_0,hfz88_1,hfz88_2,hfz88_3,hfz88_4,hfz88_5,hfz88_6⟩:=fz7_ BK247.out))
     go_ret
     exact ⟨rr_,lb3_ HB.out GE246.out GE247.out GE248.out⟩
end Go.Proofs.Ythmjimboajmhmaa.Pr

namespace Go.Proofs.Ythmjimboajmhmaa.Pr
open Go.RowKit Go.Proofs.YthmjimboajmhmaaW.PrintWords Go.Proofs.YthmjimboajmhmaaW.PrintLast Go.Proofs.YthmjimboajmhmaaW.PrintMore
attribute [local go_sem] max2_int min2_int max_two min_two max_three min_three max_four min_four   -- for this text's walks alone
set_option linter.unusedVariables false
set_option linter.unusedSimpArgs false
def spec_WalkOn.j0:Nat -> Bool -> List (S37) -> List Bool -> List Bool -> Int -> Int -> Int -> Int -> Int -> Int -> Int -> Int -> Int -> Option ((List (S37)) × List Bool × List Bool × Int × Int × Bool)
 | 0,_,_,_,_,_,_,_,_,_,_,_,_,_=>none
 | k + 1,x16,x258000,x258001,x258002,x258003,x258004,x259000,x259001,x259002,x259003,x259004,x259005,x259006=>if x16 = true then (some (([]:List (S37)),([]:List Bool),([]:List Bool),0,0,false)) else ((spec_l25Make.f k x258000 x258001 x258002 x258003 x258004 x259000 x259001 x259002 x259003 x259004 x259005 x259006).bind fun bt262=>(if bt262.2.2.2.2.2 = true then (some (bt262.1,bt262.2.1,bt262.2.2.1,bt262.2.2.2.1,bt262.2.2.2.2.1,true)) else (some (([]:List (S37)),([]:List Bool),([]:List Bool),0,0,false))))
def spec_WalkOn.f (k:Nat) (l0_0:List (S37)) (l0_1:List Bool) (l0_2:List Bool) (a0_3:Int) (a0_4:Int) (a1_0:Int) (a1_1:Int) (a1_2:Int) (a1_3:Int) (a1_4:Int) (a1_5:Int) (a1_6:Int):Option ((List (S37)) × List Bool × List Bool × Int × Int × Bool):=(spec_l25Good.f k l0_0 l0_1 l0_2 a0_3 a0_4).bind fun t260=>(if t260 = true then ((spec_l25Walk.f l0_0 l0_1 l0_2 a0_3 a0_4 a1_0 a1_1 a1_2 a1_3 a1_4 a1_5 a1_6).bind fun t261=>(spec_WalkOn.j0 k (!t261) l0_0 l0_1 l0_2 a0_3 a0_4 a1_0 a1_1 a1_2 a1_3 a1_4 a1_5 a1_6)) else (spec_WalkOn.j0 k true l0_0 l0_1 l0_2 a0_3 a0_4 a1_0 a1_1 a1_2 a1_3 a1_4 a1_5 a1_6))
theorem spec_WalkOn.calls (k:Nat) (A0_0:Option Addr) (c0_0:Nat) (l0_0:List (S37)) (A0_1:Option Addr) (c0_1:Nat) (l0_1:List Bool) (A0_2:Option Addr) (c0_2:Nat) (l0_2:List Bool) (a0_3:Int) (a0_4:Int) (a1_0:Int) (a1_1:Int) (a1_2:Int) (a1_3:Int) (a1_4:Int) (a1_5:Int) (a1_6:Int) (r1:List (S37)) (r2:List Bool) (r3:List Bool) (r4:Int) (r5:Int) (r6:Bool) (w:World) (hr0_0:Kd.C k37 w A0_0 l0_0.length l0_0) (hc0_0:l0_0.length <= c0_0) (hr0_1:Kd.C Kd.bool w A0_1 l0_1.length l0_1) (hc0_1:l0_1.length <= c0_1) (hr0_2:Kd.C Kd.bool w A0_2 l0_2.length l0_2) (hc0_2:l0_2.length <= c0_2) (h:spec_WalkOn.f k l0_0 l0_1 l0_2 a0_3 a0_4 a1_0 a1_1 a1_2 a1_3 a1_4 a1_5 a1_6 = some (r1,r2,r3,r4,r5,r6)) :
  Calls Try.prog 23 #[.agg #[.slice A0_0 l0_0.length c0_0,.slice A0_1 l0_1.length c0_1,.slice A0_2 l0_2.length c0_2,.int .i64 a0_3,.int .i64 a0_4],.agg #[.int .i64 a1_0,.int .i64 a1_1,.int .i64 a1_2,.int .i64 a1_3,.int .i64 a1_4,.int .i64 a1_5,.int .i64 a1_6]] w fun e w'=>∃ v0_ v1_ v2_:Value,e = .returned (.tuple #[.agg #[v0_,v1_,v2_,.int .i64 r4,.int .i64 r5],.bool r6]) /\ Kd.R k37 37 w' w.heap.size (fun _=>True) v0_ r1 /\ Kd.R Kd.bool 4 w' w.heap.size (fun k_=>some k_ ≠ (v2_:Value).ownBlock) v1_ r2 /\ Kd.R Kd.bool 4 w' w.heap.size (fun k_=>some k_ ≠ (v1_:Value).ownBlock) v2_ r3 /\ Below w.heap.size w w':=by
 have hu30:=Try.underlying30
 have hu39:=Try.underlying39
 have HR0_0:=ak hr0_0
 have HC0_0:=ak hc0_0
 clear hr0_0 hc0_0
 have HR0_1:=ak hr0_1
 have HC0_1:=ak hc0_1
 clear hr0_1 hc0_1
 have HR0_2:=ak hr0_2
 have HC0_2:=ak hc0_2
 clear hr0_2 hc0_2
 have HB:=ak (Below.refl w.heap.size w)
 have H:((spec_l25Good.f k l0_0 l0_1 l0_2 a0_3 a0_4).bind fun t260=>(if t260 = true then ((spec_l25Walk.f l0_0 l0_1 l0_2 a0_3 a0_4 a1_0 a1_1 a1_2 a1_3 a1_4 a1_5 a1_6).bind fun t261=>(spec_WalkOn.j0 k (!t261) l0_0 l0_1 l0_2 a0_3 a0_4 a1_0 a1_1 a1_2 a1_3 a1_4 a1_5 a1_6)) else (spec_WalkOn.j0 k true l0_0 l0_1 l0_2 a0_3 a0_4 a1_0 a1_1 a1_2 a1_3 a1_4 a1_5 a1_6))) = some (r1,r2,r3,r4,r5,r6):=h
 clear h
 have HC3:=ak H
 clear H
 go_enter Try.func23,Try.ntmps23
 go_upto_region 1 with (first|((with_reducible refine gate_dst (N:=2) rfl ?_);refine box_event ?hg (N:=2) ?hd (cs:=#[.slice A0_0 l0_0.length c0_0,.slice A0_1 l0_1.length c0_1,.slice A0_2 l0_2.length c0_2,.int .i64 a0_3,.int .i64 a0_4]) (t:=30) ?hr ?_;(case hd=>rfl);(case hg=>rfl);(case hr=>first|(go_simp;done)|(go_simp;rfl));intro gb257 hg w4 hbox hb;have BK257:=ak (hbox);have GW257:=ak ((bz_ hg (lb0_ HB.out)));have GE257:=ak ((bz_ hg (lb0_ HB.out)));replace HB:=ak (below_step (lb0_ HB.out) hb);clear hb hbox hg)|((with_reducible refine gate_dst (N:=3) rfl ?_);refine box_event ?hg (N:=3) ?hd (cs:=#[.int .i64 a1_0,.int .i64 a1_1,.int .i64 a1_2,.int .i64 a1_3,.int .i64 a1_4,.int .i64 a1_5,.int .i64 a1_6]) (t:=39) ?hr ?_;(case hd=>rfl);(case hg=>rfl);(case hr=>first|(go_simp;done)|(go_simp;rfl));intro gb258 hg w5 hbox hb;have BK258:=ak (hbox);have GW258:=ak ((bz_ hg (lb1_ HB.out GE257.out)));have GE258:=ak ((bz_ hg (lb1_ HB.out GE257.out)));replace HB:=ak (below_step (lb1_ HB.out GE257.out) hb);have NB257_258:=ak (nl_ hg BK257.out);have NB258_257:=ak (ng_ hg BK257.out);replace BK257:=ak (bb_ (bk_ BK257.out) hb);clear hb hbox hg)|((with_reducible refine gate_dst (N:=4) rfl ?_);refine box_event ?hg (N:=4) ?hd (cs:=#[.slice none 0 0,.slice none 0 0,.slice none 0 0,.int .i64 0,.int .i64 0]) (t:=30) ?hr ?_;(case hd=>rfl);(case hg=>rfl);(case hr=>first|(go_simp;done)|(go_simp;rfl));intro gb259 hg w6 hbox hb;have BK259:=ak (hbox);have GW259:=ak ((bz_ hg (lb2_ HB.out GE257.out GE258.out)));have GE259:=ak ((bz_ hg (lb2_ HB.out GE257.out GE258.out)));replace HB:=ak (below_step (lb2_ HB.out GE257.out GE258.out) hb);have NB257_259:=ak (nl_ hg BK257.out);have NB259_257:=ak (ng_ hg BK257.out);replace BK257:=ak (bb_ (bk_ BK257.out) hb);have NB258_259:=ak (nl_ hg BK258.out);have NB259_258:=ak (ng_ hg BK258.out);replace BK258:=ak (bb_ (bk_ BK258.out) hb);clear hb hbox hg))
 (try simp only [Act.put,List.setIfInBounds_toArray,List.set_cons_zero,List.set_cons_succ])
 go_cut [16] (fun v16 wc=>∃ (kq:Nat) (x16_2:Bool),v16 = .bool x16_2 /\ Aside0 (spec_WalkOn.j0 kq x16_2 l0_0 l0_1 l0_2 a0_3 a0_4 a1_0 a1_1 a1_2 a1_3 a1_4 a1_5 a1_6 = some (r1,r2,r3,r4,r5,r6)) /\ Aside0 (kq <= k) /\ Aside0 (wc.heap[gb257]? = some (.cells #[(.slice A0_0 l0_0.length c0_0),(.slice A0_1 l0_1.length c0_1),(.slice A0_2 l0_2.length c0_2),.int .i64 a0_3,.int .i64 a0_4] 30 (0,0))) /\ Aside0 (wc.heap[gb258]? = some (.cells #[.int .i64 a1_0,.int .i64 a1_1,.int .i64 a1_2,.int .i64 a1_3,.int .i64 a1_4,.int .i64 a1_5,.int .i64 a1_6] 39 (0,0))) /\ Aside0 (wc.heap[gb259]? = some (.cells #[(.slice none 0 0),(.slice none 0 0),(.slice none 0 0),.int .i64 0,.int .i64 0] 30 (0,0))) /\ Aside0 (Below w.heap.size w wc))
 case first=>
  have H:=HC3.out
  clear HC3
  replace H:=Option.bind_eq_some_iff.mp H
  obtain ⟨t260,A70,H⟩:=H
  replace H:(if t260 = true then ((spec_l25Walk.f l0_0 l0_1 l0_2 a0_3 a0_4 a1_0 a1_1 a1_2 a1_3 a1_4 a1_5 a1_6).bind fun t261=>(spec_WalkOn.j0 k (!t261) l0_0 l0_1 l0_2 a0_3 a0_4 a1_0 a1_1 a1_2 a1_3 a1_4 a1_5 a1_6)) else (spec_WalkOn.j0 k true l0_0 l0_1 l0_2 a0_3 a0_4 a1_0 a1_1 a1_2 a1_3 a1_4 a1_5 a1_6)) = some (r1,r2,r3,r4,r5,r6):=H
  have A7:=ak A70
  clear A70
  by_cases c8:t260 = true
  .
   subst c8
   have H1:((spec_l25Walk.f l0_0 l0_1 l0_2 a0_3 a0_4 a1_0 a1_1 a1_2 a1_3 a1_4 a1_5 a1_6).bind fun t261=>(spec_WalkOn.j0 k (!t261) l0_0 l0_1 l0_2 a0_3 a0_4 a1_0 a1_1 a1_2 a1_3 a1_4 a1_5 a1_6)) = some (r1,r2,r3,r4,r5,r6):=by rw [if_pos rfl] at H;exact H
   clear H
   have H:=H1
   clear H1
   replace H:=Option.bind_eq_some_iff.mp H
   obtain ⟨t261,A90,H⟩:=H
   replace H:(spec_WalkOn.j0 k (!t261) l0_0 l0_1 l0_2 a0_3 a0_4 a1_0 a1_1 a1_2 a1_3 a1_4 a1_5 a1_6) = some (r1,r2,r3,r4,r5,r6):=H
   have A9:=ak A90
   clear A90
   have H':=ak H
   clear H
   have hnb10:=NB257_258.out
   have hnc10:=NB258_257.out
   have hnb11:=NB257_259.out
   have hnc11:=NB259_257.out
   obtain ⟨hcz12_0,hcz12_1,hcz12_2,hcz12_3,hcz12_4⟩:=cz5_ BK257.out
   obtain ⟨hfz12_0,hfz12_1,hfz12_2,hfz12_3,hfz12_4⟩:=fz5_ BK257.out
   go_wp2_with (first|((with_reducible refine gate_callee (f:=67) rfl ?_);refine ga_ (some 9) Try.func67 #[.agg #[.slice A0_0 l0_0.length c0_0,.slice A0_1 l0_1.length c0_1,.slice A0_2 l0_2.length c0_2,.int .i64 a0_3,.int .i64 a0_4]] ?_;(with_reducible refine (spec_l25Good.calls k _ _ l0_0 _ _ l0_1 _ _ l0_2 a0_3 a0_4 true _ ?side1 ?side2 ?side3 ?side4 ?side5 ?side6 A7.out).mono ?_);(case side1=>exact kc_ (Kd.C_below HR0_0.out HB.out));(case side2=>exact HC0_0.out);(case side3=>exact kc_ (Kd.C_below HR0_1.out HB.out));(case side4=>exact HC0_1.out);(case side5=>exact kc_ (Kd.C_below HR0_2.out HB.out));(case side6=>exact HC0_2.out);rintro e w13 ⟨rfl,hb⟩;refine ⟨_,rfl,?_⟩;replace BK257:=ak (bb_ (bk_ BK257.out) hb);replace BK258:=ak (bb_ (bk_ BK258.out) hb);replace BK259:=ak (bb_ (bk_ BK259.out) hb);replace HB:=ak (below_step (lb3_ HB.out GE257.out GE258.out GE259.out) hb);(try clear hb);(try clear hb2);(try clear hk);(try clear hi);obtain ⟨hcz14_0,hcz14_1,hcz14_2,hcz14_3,hcz14_4⟩:=cz5_ BK257.out;obtain ⟨hfz14_0,hfz14_1,hfz14_2,hfz14_3,hfz14_4⟩:=fz5_ BK257.out;have hnb15:=NB258_259.out;have hnc15:=NB259_258.out;obtain ⟨hcz16_0,hcz16_1,hcz16_2,hcz16_3,hcz16_4,hcz16_5,hcz16_6⟩:=cz7_ BK258.out;obtain ⟨hfz16_0,hfz16_1,hfz16_2,hfz16_3,hfz16_4,hfz16_5,hfz16_6⟩:=fz7_ BK258.out)|(go_at_call 77;(with_reducible refine (spec_l25Walk.calls _ _ l0_0 _ _ l0_1 _ _ l0_2 a0_3 a0_4 a1_0 a1_1 a1_2 a1_3 a1_4 a1_5 a1_6 t261 _ ?side1 ?side2 ?side3 ?side4 ?side5 ?side6 A9.out).mono ?_);(case side1=>exact kc_ (Kd.C_below HR0_0.out HB.out));(case side2=>exact HC0_0.out);(case side3=>exact kc_ (Kd.C_below HR0_1.out HB.out));(case side4=>exact HC0_1.out);(case side5=>exact kc_ (Kd.C_below HR0_2.out HB.out));(case side6=>exact HC0_2.out);rintro e w17 ⟨rfl,hb⟩;replace BK257:=ak (bb_ (bk_ BK257.out) hb);replace BK258:=ak (bb_ (bk_ BK258.out) hb);replace BK259:=ak (bb_ (bk_ BK259.out) hb);replace HB:=ak (below_step (lb3_ HB.out GE257.out GE258.out GE259.out) hb);(try clear hb);(try clear hb2);(try clear hk);(try clear hi)))
   go_meet
   case rel=>exact ⟨_,(!t261),(by first|rfl|(simp;done)|(simp [*];done)),H',⟨by first|omega|exact Nat.le_refl _⟩,⟨bk_ BK257.out⟩,⟨bk_ BK258.out⟩,⟨bk_ BK259.out⟩,⟨lb3_ HB.out GE257.out GE258.out GE259.out⟩⟩
  .
   replace c8:=Bool.eq_false_iff.mpr c8
   subst c8
   have H1:(spec_WalkOn.j0 k true l0_0 l0_1 l0_2 a0_3 a0_4 a1_0 a1_1 a1_2 a1_3 a1_4 a1_5 a1_6) = some (r1,r2,r3,r4,r5,r6):=by rw [if_neg (show ¬ (false = true) by decide)] at H;exact H
   clear H
   have H:=H1
   clear H1
   have H':=ak H
   clear H
   have hnb18:=NB257_258.out
   have hnc18:=NB258_257.out
   have hnb19:=NB257_259.out
   have hnc19:=NB259_257.out
   obtain ⟨hcz20_0,hcz20_1,hcz20_2,hcz20_3,hcz20_4⟩:=cz5_ BK257.out
   obtain ⟨hfz20_0,hfz20_1,hfz20_2,hfz20_3,hfz20_4⟩:=fz5_ BK257.out
   go_wp2_with (first|((with_reducible refine gate_callee (f:=67) rfl ?_);refine ga_ (some 9) Try.func67 #[.agg #[.slice A0_0 l0_0.length c0_0,.slice A0_1 l0_1.length c0_1,.slice A0_2 l0_2.length c0_2,.int .i64 a0_3,.int .i64 a0_4]] ?_;(with_reducible refine (spec_l25Good.calls k _ _ l0_0 _ _ l0_1 _ _ l0_2 a0_3 a0_4 false _ ?side1 ?side2 ?side3 ?side4 ?side5 ?side6 A7.out).mono ?_);(case side1=>exact kc_ (Kd.C_below HR0_0.out HB.out));(case side2=>exact HC0_0.out);(case side3=>exact kc_ (Kd.C_below HR0_1.out HB.out));(case side4=>exact HC0_1.out);(case side5=>exact kc_ (Kd.C_below HR0_2.out HB.out));(case side6=>exact HC0_2.out);rintro e w21 ⟨rfl,hb⟩;refine ⟨_,rfl,?_⟩;replace BK257:=ak (bb_ (bk_ BK257.out) hb);replace BK258:=ak (bb_ (bk_ BK258.out) hb);replace BK259:=ak (bb_ (bk_ BK259.out) hb);replace HB:=ak (below_step (lb3_ HB.out GE257.out GE258.out GE259.out) hb);(try clear hb);(try clear hb2);(try clear hk);(try clear hi)))
   go_meet
   case rel=>exact ⟨_,(true),(by first|rfl|(simp;done)|(simp [*];done)),H',⟨by first|omega|exact Nat.le_refl _⟩,⟨bk_ BK257.out⟩,⟨bk_ BK258.out⟩,⟨bk_ BK259.out⟩,⟨lb3_ HB.out GE257.out GE258.out GE259.out⟩⟩
 case rest=>
  clear HC3
  try clear c1
  try clear c2
  try clear p2
  try clear c6
  try clear c8
  try clear c10
  try clear c11
  try clear c15
  try clear c18
  try clear c19
  try clear hcz12_0 hcz12_1 hcz12_2 hcz12_3 hcz12_4
  try clear hcz14_0 hcz14_1 hcz14_2 hcz14_3 hcz14_4
  try clear hcz16_0 hcz16_1 hcz16_2 hcz16_3 hcz16_4 hcz16_5 hcz16_6
  try clear hcz20_0 hcz20_1 hcz20_2 hcz20_3 hcz20_4
  try clear hfz12_0 hfz12_1 hfz12_2 hfz12_3 hfz12_4
  try clear hfz14_0 hfz14_1 hfz14_2 hfz14_3 hfz14_4
  try clear hfz16_0 hfz16_1 hfz16_2 hfz16_3 hfz16_4 hfz16_5 hfz16_6
  try clear hfz20_0 hfz20_1 hfz20_2 hfz20_3 hfz20_4
  obtain ⟨kq,x16_2,rfl,HA,HJ2,BK257,BK258,BK259,HB⟩:=hcut
  cases kq with
  | zero=>exact absurd HA.out (by simp [spec_WalkOn.j0])
  | succ kj2=>
   have H:=HA.out
   clear HA
   simp only [spec_WalkOn.j0] at H
   by_cases c22:x16_2 = true
   .
    subst c22
    have H1:(some (([]:List (S37)),([]:List Bool),([]:List Bool),0,0,false)) = some (r1,r2,r3,r4,r5,r6):=by rw [if_pos rfl] at H;exact H
    clear H
    have H:=H1
    clear H1
    simp only [Option.some.injEq,Prod.mk.injEq] at H
    obtain ⟨rfl,rfl,rfl,rfl,rfl,rfl⟩:=H
    have hnb23:=NB259_257.out
    have hnc23:=NB257_259.out
    have hnb24:=NB259_258.out
    have hnc24:=NB258_259.out
    obtain ⟨hcz25_0,hcz25_1,hcz25_2,hcz25_3,hcz25_4⟩:=cz5_ BK259.out
    obtain ⟨hfz25_0,hfz25_1,hfz25_2,hfz25_3,hfz25_4⟩:=fz5_ BK259.out
    go_wp2
    refine bodyPost_ret (results_ct rfl _ _ gb259 30 #[.slice none 0 0,.slice none 0 0,.slice none 0 0,.int .i64 0,.int .i64 0] (0,0) _ rfl (by (with_reducible repeat (first|refine blk_drewN ?_ _|refine blk_drew ?_|refine blk_alloc ?_ _));refine blk_put (cs:=#[.slice none 0 0,.slice none 0 0,.slice none 0 0,.int .i64 0,.int .i64 0]) ?_ 4 _ rfl;(with_reducible repeat (first|refine blk_drewN ?_ _|refine blk_drew ?_|refine blk_alloc ?_ _));refine blk_put (cs:=#[.slice none 0 0,.slice none 0 0,.slice none 0 0,.int .i64 0,.int .i64 0]) ?_ 3 _ rfl;(with_reducible repeat (first|refine blk_drewN ?_ _|refine blk_drew ?_|refine blk_alloc ?_ _));refine blk_put (cs:=#[.slice none 0 0,.slice none 0 0,.slice none 0 0,.int .i64 0,.int .i64 0]) ?_ 2 _ rfl;(with_reducible repeat (first|refine blk_drewN ?_ _|refine blk_drew ?_|refine blk_alloc ?_ _));refine blk_put (cs:=#[.slice none 0 0,.slice none 0 0,.slice none 0 0,.int .i64 0,.int .i64 0]) ?_ 1 _ rfl;(with_reducible repeat (first|refine blk_drewN ?_ _|refine blk_drew ?_|refine blk_alloc ?_ _));refine blk_put (cs:=#[.slice none 0 0,.slice none 0 0,.slice none 0 0,.int .i64 0,.int .i64 0]) ?_ 0 _ rfl;(with_reducible repeat (first|refine blk_drewN ?_ _|refine blk_drew ?_|refine blk_alloc ?_ _));exact BK259.out) Try.underlying30 rfl (by kernel_rfl)) rfl ?_
    exact ⟨_,_,_,rr_,by first|exact Kd.R_nil _ _ _ _ _|exact Kd.N_nil _ _ _ _ _|exact Kd.V_nil _ _ _ _ _|exact Kd.Q_nil _ _ _ _ _|exact Kd.S_nil _ _ _ _ _,by first|exact Kd.R_nil _ _ _ _ _|exact Kd.N_nil _ _ _ _ _|exact Kd.V_nil _ _ _ _ _|exact Kd.Q_nil _ _ _ _ _|exact Kd.S_nil _ _ _ _ _,by first|exact Kd.R_nil _ _ _ _ _|exact Kd.N_nil _ _ _ _ _|exact Kd.V_nil _ _ _ _ _|exact Kd.Q_nil _ _ _ _ _|exact Kd.S_nil _ _ _ _ _,lb3_ HB.out GE257.out GE258.out GE259.out⟩
   .
    replace c22:=Bool.eq_false_iff.mpr c22
    subst c22
    have H1:((spec_l25Make.f kj2 l0_0 l0_1 l0_2 a0_3 a0_4 a1_0 a1_1 a1_2 a1_3 a1_4 a1_5 a1_6).bind fun bt262=>(if bt262.2.2.2.2.2 = true then (some (bt262.1,bt262.2.1,bt262.2.2.1,bt262.2.2.2.1,bt262.2.2.2.2.1,true)) else (some (([]:List (S37)),([]:List Bool),([]:List Bool),0,0,false)))) = some (r1,r2,r3,r4,r5,r6):=by rw [if_neg (show ¬ (false = true) by decide)] at H;exact H
    clear H
    have H:=H1
    clear H1
    replace H:=Option.bind_eq_some_iff.mp H
    obtain ⟨⟨t262,t265,t268,t271,t272,t273⟩,A260,H⟩:=H
    replace H:(if t273 = true then (some (t262,t265,t268,t271,t272,true)) else (some (([]:List (S37)),([]:List Bool),([]:List Bool),0,0,false))) = some (r1,r2,r3,r4,r5,r6):=H
    have A26:=ak A260
    clear A260
    by_cases c27:t273 = true
    .
     subst c27
     have H1:(some (t262,t265,t268,t271,t272,true)) = some (r1,r2,r3,r4,r5,r6):=by rw [if_pos rfl] at H;exact H
     clear H
     have H:=H1
     clear H1
     simp only [Option.some.injEq,Prod.mk.injEq] at H
     obtain ⟨rfl,rfl,rfl,rfl,rfl,rfl⟩:=H
     have hnb28:=NB257_258.out
     have hnc28:=NB258_257.out
     have hnb29:=NB257_259.out
     have hnc29:=NB259_257.out
     obtain ⟨hcz30_0,hcz30_1,hcz30_2,hcz30_3,hcz30_4⟩:=cz5_ BK257.out
     obtain ⟨hfz30_0,hfz30_1,hfz30_2,hfz30_3,hfz30_4⟩:=fz5_ BK257.out
     have hnb31:=NB258_259.out
     have hnc31:=NB259_258.out
     obtain ⟨hcz32_0,hcz32_1,hcz32_2,hcz32_3,hcz32_4,hcz32_5,hcz32_6⟩:=cz7_ BK258.out
     obtain ⟨hfz32_0,hfz32_1,hfz32_2,hfz32_3,hfz32_4,hfz32_5,hfz32_6⟩:=fz7_ BK258.out
     go_wp2_with (first|((with_reducible refine gate_callee (f:=78) rfl ?_);refine ga_ (some 21) Try.func78 #[.agg #[.slice A0_0 l0_0.length c0_0,.slice A0_1 l0_1.length c0_1,.slice A0_2 l0_2.length c0_2,.int .i64 a0_3,.int .i64 a0_4],.agg #[.int .i64 a1_0,.int .i64 a1_1,.int .i64 a1_2,.int .i64 a1_3,.int .i64 a1_4,.int .i64 a1_5,.int .i64 a1_6]] ?_;(with_reducible refine (spec_l25Make.calls kj2 _ _ l0_0 _ _ l0_1 _ _ l0_2 a0_3 a0_4 a1_0 a1_1 a1_2 a1_3 a1_4 a1_5 a1_6 t262 t265 t268 t271 t272 true _ ?side1 ?side2 ?side3 ?side4 ?side5 ?side6 A26.out).mono ?_);(case side1=>exact kc_ (Kd.C_below HR0_0.out HB.out));(case side2=>exact HC0_0.out);(case side3=>exact kc_ (Kd.C_below HR0_1.out HB.out));(case side4=>exact HC0_1.out);(case side5=>exact kc_ (Kd.C_below HR0_2.out HB.out));(case side6=>exact HC0_2.out);rintro e w33 ⟨v263,v266,v269,rfl,ho0,ho1,ho2,hb⟩;refine ⟨_,rfl,?_⟩;have HO264:=ak (Kd.R_lower ho0 (below_size (lb3_ HB.out GE257.out GE258.out GE259.out)));have HO267:=ak (Kd.R_lower ho1 (below_size (lb3_ HB.out GE257.out GE258.out GE259.out)));have HO270:=ak (Kd.R_lower ho2 (below_size (lb3_ HB.out GE257.out GE258.out GE259.out)));replace BK257:=ak (bb_ (bk_ BK257.out) hb);replace BK258:=ak (bb_ (bk_ BK258.out) hb);replace BK259:=ak (bb_ (bk_ BK259.out) hb);replace HB:=ak (below_step (lb3_ HB.out GE257.out GE258.out GE259.out) hb);(try clear hb);(try clear hb2);(try clear hk);(try clear hi);(try clear ho0);(try clear ho1);(try clear ho2))|((with_reducible refine gate_dst (N:=6) rfl ?_);refine box_event ?hg (N:=6) ?hd (cs:=#[.slice none 0 0,.slice none 0 0,.slice none 0 0,.int .i64 0,.int .i64 0]) (t:=30) ?hr ?_;(case hd=>rfl);(case hg=>rfl);(case hr=>first|(go_simp;done)|(go_simp;rfl));intro gb274 hg w34 hbox hb;replace HO264:=ak (Kd.R_below (kr_ HO264.out) hb);replace HO267:=ak (Kd.R_below (kr_ HO267.out) hb);replace HO270:=ak (Kd.R_below (kr_ HO270.out) hb);have BK274:=ak (hbox);have GW274:=ak (bz_ hg (lb3_ HB.out GE257.out GE258.out GE259.out));have GE274:=ak (bz_ hg (lb3_ HB.out GE257.out GE258.out GE259.out));replace HB:=ak (below_step (lb3_ HB.out GE257.out GE258.out GE259.out) hb);have NB257_274:=ak (nl_ hg BK257.out);have NB274_257:=ak (ng_ hg BK257.out);replace BK257:=ak (bb_ (bk_ BK257.out) hb);have NB258_274:=ak (nl_ hg BK258.out);have NB274_258:=ak (ng_ hg BK258.out);replace BK258:=ak (bb_ (bk_ BK258.out) hb);have NB259_274:=ak (nl_ hg BK259.out);have NB274_259:=ak (ng_ hg BK259.out);replace BK259:=ak (bb_ (bk_ BK259.out) hb);clear hb hbox hg;obtain ⟨Ao35,co35,eo35⟩:=Kd.R_slice HO264.out;subst eo35;have hnb36:=NB274_257.out;have hnc36:=NB257_274.out;have hnb37:=NB274_258.out;have hnc37:=NB258_274.out;have hnb38:=NB274_259.out;have hnc38:=NB259_274.out;obtain ⟨hcz39_0,hcz39_1,hcz39_2,hcz39_3,hcz39_4⟩:=cz5_ BK274.out;obtain ⟨hfz39_0,hfz39_1,hfz39_2,hfz39_3,hfz39_4⟩:=fz5_ BK274.out;obtain ⟨Ao40,co40,eo40⟩:=Kd.R_slice HO267.out;subst eo40;obtain ⟨Ao41,co41,eo41⟩:=Kd.R_slice HO270.out;subst eo41;obtain ⟨hcz42_0,hcz42_1,hcz42_2,hcz42_3,hcz42_4⟩:=cz5_ BK259.out;obtain ⟨hfz42_0,hfz42_1,hfz42_2,hfz42_3,hfz42_4⟩:=fz5_ BK259.out))
     refine bodyPost_ret (results_ct rfl _ _ gb259 30 #[.slice Ao35 t262.length co35,.slice Ao40 t265.length co40,.slice Ao41 t268.length co41,.int .i64 t271,.int .i64 t272] (0,0) _ rfl (by (with_reducible repeat (first|refine blk_drewN ?_ _|refine blk_drew ?_|refine blk_alloc ?_ _));refine blk_put (cs:=#[.slice Ao35 t262.length co35,.slice Ao40 t265.length co40,.slice Ao41 t268.length co41,.int .i64 t271,.int .i64 0]) ?_ 4 _ rfl;(with_reducible repeat (first|refine blk_drewN ?_ _|refine blk_drew ?_|refine blk_alloc ?_ _));refine blk_put (cs:=#[.slice Ao35 t262.length co35,.slice Ao40 t265.length co40,.slice Ao41 t268.length co41,.int .i64 0,.int .i64 0]) ?_ 3 _ rfl;(with_reducible repeat (first|refine blk_drewN ?_ _|refine blk_drew ?_|refine blk_alloc ?_ _));refine blk_put (cs:=#[.slice Ao35 t262.length co35,.slice Ao40 t265.length co40,.slice none 0 0,.int .i64 0,.int .i64 0]) ?_ 2 _ rfl;(with_reducible repeat (first|refine blk_drewN ?_ _|refine blk_drew ?_|refine blk_alloc ?_ _));refine blk_put (cs:=#[.slice Ao35 t262.length co35,.slice none 0 0,.slice none 0 0,.int .i64 0,.int .i64 0]) ?_ 1 _ rfl;(with_reducible repeat (first|refine blk_drewN ?_ _|refine blk_drew ?_|refine blk_alloc ?_ _));refine blk_put (cs:=#[.slice none 0 0,.slice none 0 0,.slice none 0 0,.int .i64 0,.int .i64 0]) ?_ 0 _ rfl;(with_reducible repeat (first|refine blk_drewN ?_ _|refine blk_drew ?_|refine blk_alloc ?_ _));refine blk_far ?_ NB259_274.out _;(with_reducible repeat (first|refine blk_drewN ?_ _|refine blk_drew ?_|refine blk_alloc ?_ _));refine blk_far ?_ NB259_274.out _;(with_reducible repeat (first|refine blk_drewN ?_ _|refine blk_drew ?_|refine blk_alloc ?_ _));refine blk_far ?_ NB259_274.out _;(with_reducible repeat (first|refine blk_drewN ?_ _|refine blk_drew ?_|refine blk_alloc ?_ _));refine blk_far ?_ NB259_274.out _;(with_reducible repeat (first|refine blk_drewN ?_ _|refine blk_drew ?_|refine blk_alloc ?_ _));refine blk_far ?_ NB259_274.out _;(with_reducible repeat (first|refine blk_drewN ?_ _|refine blk_drew ?_|refine blk_alloc ?_ _));exact BK259.out) Try.underlying30 rfl (by kernel_rfl)) rfl ?_
     exact ⟨_,_,_,rr_,by (with_reducible repeat (first|apply Kd.R_alloc|apply Kd.R_drewN|apply Kd.R_drew));exact Kd.R_mono (Kd.R_far (p:=⟨gb259,4,none⟩) (Kd.R_far (p:=⟨gb259,3,none⟩) (Kd.R_far (p:=⟨gb259,2,none⟩) (Kd.R_far (p:=⟨gb259,1,none⟩) (Kd.R_far (p:=⟨gb259,0,none⟩) (Kd.R_far (p:=⟨gb274,4,none⟩) (Kd.R_far (p:=⟨gb274,3,none⟩) (Kd.R_far (p:=⟨gb274,2,none⟩) (Kd.R_far (p:=⟨gb274,1,none⟩) (Kd.R_far (p:=⟨gb274,0,none⟩) (Kd.R_types (Kd.R_types HO264.out BK274.out (by decide)) BK259.out (by decide)) (fun _ hk=>hk.1.2) (.slice Ao35 t262.length co35)) (fun _ hk=>hk.1.2) (.slice Ao40 t265.length co40)) (fun _ hk=>hk.1.2) (.slice Ao41 t268.length co41)) (fun _ hk=>hk.1.2) (.int .i64 t271)) (fun _ hk=>hk.1.2) (.int .i64 t272)) (fun _ hk=>hk.2) (.slice Ao35 t262.length co35)) (fun _ hk=>hk.2) (.slice Ao40 t265.length co40)) (fun _ hk=>hk.2) (.slice Ao41 t268.length co41)) (fun _ hk=>hk.2) (.int .i64 t271)) (fun _ hk=>hk.2) (.int .i64 t272)) (fun _ hk=>trivial),by (with_reducible repeat (first|apply Kd.R_alloc|apply Kd.R_drewN|apply Kd.R_drew));exact Kd.R_mono (Kd.R_far (p:=⟨gb259,4,none⟩) (Kd.R_far (p:=⟨gb259,3,none⟩) (Kd.R_far (p:=⟨gb259,2,none⟩) (Kd.R_far (p:=⟨gb259,1,none⟩) (Kd.R_far (p:=⟨gb259,0,none⟩) (Kd.R_far (p:=⟨gb274,4,none⟩) (Kd.R_far (p:=⟨gb274,3,none⟩) (Kd.R_far (p:=⟨gb274,2,none⟩) (Kd.R_far (p:=⟨gb274,1,none⟩) (Kd.R_far (p:=⟨gb274,0,none⟩) (Kd.R_types (Kd.R_types HO267.out BK274.out (by decide)) BK259.out (by decide)) (fun _ hk=>hk.1.2) (.slice Ao35 t262.length co35)) (fun _ hk=>hk.1.2) (.slice Ao40 t265.length co40)) (fun _ hk=>hk.1.2) (.slice Ao41 t268.length co41)) (fun _ hk=>hk.1.2) (.int .i64 t271)) (fun _ hk=>hk.1.2) (.int .i64 t272)) (fun _ hk=>hk.2) (.slice Ao35 t262.length co35)) (fun _ hk=>hk.2) (.slice Ao40 t265.length co40)) (fun _ hk=>hk.2) (.slice Ao41 t268.length co41)) (fun _ hk=>hk.2) (.int .i64 t271)) (fun _ hk=>hk.2) (.int .i64 t272)) (fun _ hk=>hk.1.1),by (with_reducible repeat (first|apply Kd.R_alloc|apply Kd.R_drewN|apply Kd.R_drew));exact Kd.R_mono (Kd.R_far (p:=⟨gb259,4,none⟩) (Kd.R_far (p:=⟨gb259,3,none⟩) (Kd.R_far (p:=⟨gb259,2,none⟩) (Kd.R_far (p:=⟨gb259,1,none⟩) (Kd.R_far (p:=⟨gb259,0,none⟩) (Kd.R_far (p:=⟨gb274,4,none⟩) (Kd.R_far (p:=⟨gb274,3,none⟩) (Kd.R_far (p:=⟨gb274,2,none⟩) (Kd.R_far (p:=⟨gb274,1,none⟩) (Kd.R_far (p:=⟨gb274,0,none⟩) (Kd.R_types (Kd.R_types HO270.out BK274.out (by decide)) BK259.out (by decide)) (fun _ hk=>hk.1.2) (.slice Ao35 t262.length co35)) (fun _ hk=>hk.1.2) (.slice Ao40 t265.length co40)) (fun _ hk=>hk.1.2) (.slice Ao41 t268.length co41)) (fun _ hk=>hk.1.2) (.int .i64 t271)) (fun _ hk=>hk.1.2) (.int .i64 t272)) (fun _ hk=>hk.2) (.slice Ao35 t262.length co35)) (fun _ hk=>hk.2) (.slice Ao40 t265.length co40)) (fun _ hk=>hk.2) (.slice Ao41 t268.length co41)) (fun _ hk=>hk.2) (.int .i64 t271)) (fun _ hk=>hk.2) (.int .i64 t272)) (fun _ hk=>hk.1.1),by repeat (first|(with_reducible first|exact HB.out|apply below_alloc|apply pw_below_drewN|apply below_drew1|refine below_set ?_ GE257.out|refine below_set ?_ GE258.out|refine below_set ?_ GE259.out|refine below_set ?_ GE274.out)|exact HB.out)⟩
    .
     replace c27:=Bool.eq_false_iff.mpr c27
     subst c27
     have H1:(some (([]:List (S37)),([]:List Bool),([]:List Bool),0,0,false)) = some (r1,r2,r3,r4,r5,r6):=by rw [if_neg (show ¬ (false = true) by decide)] at H;exact H
     clear H
     have H:=H1
     clear H1
     simp only [Option.some.injEq,Prod.mk.injEq] at H
     obtain ⟨rfl,rfl,rfl,rfl,rfl,rfl⟩:=H
     have hnb43:=NB257_258.out
     have hnc43:=NB258_257.out
     have hnb44:=NB257_259.out
     have hnc44:=NB259_257.out
     obtain ⟨hcz45_0,hcz45_1,hcz45_2,hcz45_3,hcz45_4⟩:=cz5_ BK257.out
     obtain ⟨hfz45_0,hfz45_1,hfz45_2,hfz45_3,hfz45_4⟩:=fz5_ BK257.out
     have hnb46:=NB258_259.out
     have hnc46:=NB259_258.out
     obtain ⟨hcz47_0,hcz47_1,hcz47_2,hcz47_3,hcz47_4,hcz47_5,hcz47_6⟩:=cz7_ BK258.out
     obtain ⟨hfz47_0,hfz47_1,hfz47_2,hfz47_3,hfz47_4,hfz47_5,hfz47_6⟩:=fz7_ BK258.out
     go_wp2_with (first|((with_reducible refine gate_callee (f:=78) rfl ?_);refine ga_ (some 21) Try.func78 #[.agg #[.slice A0_0 l0_0.length c0_0,.slice A0_1 l0_1.length c0_1,.slice A0_2 l0_2.length c0_2,.int .i64 a0_3,.int .i64 a0_4],.agg #[.int .i64 a1_0,.int .i64 a1_1,.int .i64 a1_2,.int .i64 a1_3,.int .i64 a1_4,.int .i64 a1_5,.int .i64 a1_6]] ?_;(with_reducible refine (spec_l25Make.calls kj2 _ _ l0_0 _ _ l0_1 _ _ l0_2 a0_3 a0_4 a1_0 a1_1 a1_2 a1_3 a1_4 a1_5 a1_6 t262 t265 t268 t271 t272 false _ ?side1 ?side2 ?side3 ?side4 ?side5 ?side6 A26.out).mono ?_);(case side1=>exact kc_ (Kd.C_below HR0_0.out HB.out));(case side2=>exact HC0_0.out);(case side3=>exact kc_ (Kd.C_below HR0_1.out HB.out));(case side4=>exact HC0_1.out);(case side5=>exact kc_ (Kd.C_below HR0_2.out HB.out));(case side6=>exact HC0_2.out);rintro e w48 ⟨v263,v266,v269,rfl,ho0,ho1,ho2,hb⟩;refine ⟨_,rfl,?_⟩;have HO264:=ak (Kd.R_lower ho0 (below_size (lb3_ HB.out GE257.out GE258.out GE259.out)));have HO267:=ak (Kd.R_lower ho1 (below_size (lb3_ HB.out GE257.out GE258.out GE259.out)));have HO270:=ak (Kd.R_lower ho2 (below_size (lb3_ HB.out GE257.out GE258.out GE259.out)));replace BK257:=ak (bb_ (bk_ BK257.out) hb);replace BK258:=ak (bb_ (bk_ BK258.out) hb);replace BK259:=ak (bb_ (bk_ BK259.out) hb);replace HB:=ak (below_step (lb3_ HB.out GE257.out GE258.out GE259.out) hb);(try clear hb);(try clear hb2);(try clear hk);(try clear hi);(try clear ho0);(try clear ho1);(try clear ho2))|((with_reducible refine gate_dst (N:=6) rfl ?_);refine box_event ?hg (N:=6) ?hd (cs:=#[.slice none 0 0,.slice none 0 0,.slice none 0 0,.int .i64 0,.int .i64 0]) (t:=30) ?hr ?_;(case hd=>rfl);(case hg=>rfl);(case hr=>first|(go_simp;done)|(go_simp;rfl));intro gb274 hg w49 hbox hb;replace HO264:=ak (Kd.R_below (kr_ HO264.out) hb);replace HO267:=ak (Kd.R_below (kr_ HO267.out) hb);replace HO270:=ak (Kd.R_below (kr_ HO270.out) hb);have BK274:=ak (hbox);have GW274:=ak (bz_ hg (lb3_ HB.out GE257.out GE258.out GE259.out));have GE274:=ak (bz_ hg (lb3_ HB.out GE257.out GE258.out GE259.out));replace HB:=ak (below_step (lb3_ HB.out GE257.out GE258.out GE259.out) hb);have NB257_274:=ak (nl_ hg BK257.out);have NB274_257:=ak (ng_ hg BK257.out);replace BK257:=ak (bb_ (bk_ BK257.out) hb);have NB258_274:=ak (nl_ hg BK258.out);have NB274_258:=ak (ng_ hg BK258.out);replace BK258:=ak (bb_ (bk_ BK258.out) hb);have NB259_274:=ak (nl_ hg BK259.out);have NB274_259:=ak (ng_ hg BK259.out);replace BK259:=ak (bb_ (bk_ BK259.out) hb);clear hb hbox hg;obtain ⟨Ao50,co50,eo50⟩:=Kd.R_slice HO264.out;subst eo50;have hnb51:=NB274_257.out;have hnc51:=NB257_274.out;have hnb52:=NB274_258.out;have hnc52:=NB258_274.out;have hnb53:=NB274_259.out;have hnc53:=NB259_274.out;obtain ⟨hcz54_0,hcz54_1,hcz54_2,hcz54_3,hcz54_4⟩:=cz5_ BK274.out;obtain ⟨hfz54_0,hfz54_1,hfz54_2,hfz54_3,hfz54_4⟩:=fz5_ BK274.out;obtain ⟨Ao55,co55,eo55⟩:=Kd.R_slice HO267.out;subst eo55;obtain ⟨Ao56,co56,eo56⟩:=Kd.R_slice HO270.out;subst eo56;obtain ⟨hcz57_0,hcz57_1,hcz57_2,hcz57_3,hcz57_4⟩:=cz5_ BK259.out;obtain ⟨hfz57_0,hfz57_1,hfz57_2,hfz57_3,hfz57_4⟩:=fz5_ BK259.out))
     refine bodyPost_ret (results_ct rfl _ _ gb259 30 #[.slice none 0 0,.slice none 0 0,.slice none 0 0,.int .i64 0,.int .i64 0] (0,0) _ rfl (by (with_reducible repeat (first|refine blk_drewN ?_ _|refine blk_drew ?_|refine blk_alloc ?_ _));refine blk_put (cs:=#[.slice none 0 0,.slice none 0 0,.slice none 0 0,.int .i64 0,.int .i64 0]) ?_ 4 _ rfl;(with_reducible repeat (first|refine blk_drewN ?_ _|refine blk_drew ?_|refine blk_alloc ?_ _));refine blk_put (cs:=#[.slice none 0 0,.slice none 0 0,.slice none 0 0,.int .i64 0,.int .i64 0]) ?_ 3 _ rfl;(with_reducible repeat (first|refine blk_drewN ?_ _|refine blk_drew ?_|refine blk_alloc ?_ _));refine blk_put (cs:=#[.slice none 0 0,.slice none 0 0,.slice none 0 0,.int .i64 0,.int .i64 0]) ?_ 2 _ rfl;(with_reducible repeat (first|refine blk_drewN ?_ _|refine blk_drew ?_|refine blk_alloc ?_ _));refine blk_put (cs:=#[.slice none 0 0,.slice none 0 0,.slice none 0 0,.int .i64 0,.int .i64 0]) ?_ 1 _ rfl;(with_reducible repeat (first|refine blk_drewN ?_ _|refine blk_drew ?_|refine blk_alloc ?_ _));refine blk_put (cs:=#[.slice none 0 0,.slice none 0 0,.slice none 0 0,.int .i64 0,.int .i64 0]) ?_ 0 _ rfl;(with_reducible repeat (first|refine blk_drewN ?_ _|refine blk_drew ?_|refine blk_alloc ?_ _));refine blk_far ?_ NB259_274.out _;(with_reducible repeat (first|refine blk_drewN ?_ _|refine blk_drew ?_|refine blk_alloc ?_ _));refine blk_far ?_ NB259_274.out _;(with_reducible repeat (first|refine blk_drewN ?_ _|refine blk_drew ?_|refine blk_alloc ?_ _));refine blk_far ?_ NB259_274.out _;(with_reducible repeat (first|refine blk_drewN ?_ _|refine blk_drew ?_|refine blk_alloc ?_ _));refine blk_far ?_ NB259_274.out _;(with_reducible repeat (first|refine blk_drewN ?_ _|refine blk_drew ?_|refine blk_alloc ?_ _));refine blk_far ?_ NB259_274.out _;(with_reducible repeat (first|refine blk_drewN ?_ _|refine blk_drew ?_|refine blk_alloc ?_ _));exact BK259.out) Try.underlying30 rfl (by kernel_rfl)) rfl ?_
     exact ⟨_,_,_,rr_,by first|exact Kd.R_nil _ _ _ _ _|exact Kd.N_nil _ _ _ _ _|exact Kd.V_nil _ _ _ _ _|exact Kd.Q_nil _ _ _ _ _|exact Kd.S_nil _ _ _ _ _,by first|exact Kd.R_nil _ _ _ _ _|exact Kd.N_nil _ _ _ _ _|exact Kd.V_nil _ _ _ _ _|exact Kd.Q_nil _ _ _ _ _|exact Kd.S_nil _ _ _ _ _,by first|exact Kd.R_nil _ _ _ _ _|exact Kd.N_nil _ _ _ _ _|exact Kd.V_nil _ _ _ _ _|exact Kd.Q_nil _ _ _ _ _|exact Kd.S_nil _ _ _ _ _,by repeat (first|(with_reducible first|exact HB.out|apply below_alloc|apply pw_below_drewN|apply below_drew1|refine below_set ?_ GE257.out|refine below_set ?_ GE258.out|refine below_set ?_ GE259.out|refine below_set ?_ GE274.out)|exact HB.out)⟩
structure StJ (w:World) (g4:Nat) (L:List S37) (V D:List Bool) (a1:Int) (W:World) (c0 c2 c3 c4 c7 c8:Bool) (e0 v0 v1 v2:Value) (s:Nat):Prop where
 hB:Below w.heap.size w W
 k4:W.heap[g4]? = some (.cells #[.slice none 0 0,.slice none 0 0,.slice none 0 0,.int .i64 0,.int .i64 0] 30 (0,0))
 h0:c0 = true -> c2 = false -> RLeg W w.heap.size e0 []
 h2:c2 = true -> RLeg W w.heap.size v0 L
 h3:c3 = true -> RBool W w.heap.size v1 V
 h4:c4 = true -> RBool W w.heap.size v2 D
 p34:c3 = true -> c4 = true -> Ap v1 v2
 hK:c7 = true -> W.heap[s]? = some (.cells (bif c8 then #[v0,v1,v2,.int .i64 0,.int .i64 a1] else #[.slice none 0 0,.slice none 0 0,.slice none 0 0,.int .i64 0,.int .i64 0]) 30 (0,0)) /\ w.heap.size <= s /\ g4 ≠ s
section
variable {w W W':World} {g4:Nat} {L:List S37} {V D:List Bool} {a1:Int} {c0 c2 c3 c4 c7 c8 c:Bool} {e0 v0 v1 v2 z:Value} {s:Nat}
theorem StJ.below (h:StJ w g4 L V D a1 W c0 c2 c3 c4 c7 c8 e0 v0 v1 v2 s) (hb:Below W.heap.size W W'):StJ w g4 L V D a1 W' c0 c2 c3 c4 c7 c8 e0 v0 v1 v2 s:=
 ⟨below_step h.hB hb,bb_ h.k4 hb,fun a b=>Kd.R_below (h.h0 a b) hb,fun a=>Kd.R_below (h.h2 a) hb,fun a=>Kd.R_below (h.h3 a) hb,fun a=>Kd.R_below (h.h4 a) hb,h.p34,fun a=>⟨bb_ (h.hK a).1 hb,(h.hK a).2⟩⟩
theorem StJ.lit0 (h:StJ w g4 L V D a1 W c0 c2 c3 c4 c7 c8 e0 v0 v1 v2 s) (hb:Below W.heap.size W W') (hr:RLeg W' w.heap.size z []):StJ w g4 L V D a1 W' c c2 c3 c4 c7 c8 z v0 v1 v2 s:=by
 have q:=h.below hb
 exact ⟨q.hB,q.k4,fun _ _=>hr,q.h2,q.h3,q.h4,q.p34,q.hK⟩
theorem StJ.mkV (h:StJ w g4 L V D a1 W c0 c2 c3 c4 c7 c8 e0 v0 v1 v2 s) (h8:c8 = false) (hb:Below W.heap.size W W') (hr:RBool W' w.heap.size z V) (hn:∃ b,z.ownBlock = some b /\ W.heap.size <= b):StJ w g4 L V D a1 W' c0 c2 c c4 c7 c8 e0 v0 z v2 s:=by
 subst h8
 have q:=h.below hb
 exact ⟨q.hB,q.k4,q.h0,q.h2,fun _=>hr,q.h4,fun _ a=>(Ap.fresh (h.h4 a) hn).symm,q.hK⟩
theorem StJ.mkD (h:StJ w g4 L V D a1 W c0 c2 c3 c4 c7 c8 e0 v0 v1 v2 s) (h8:c8 = false) (hb:Below W.heap.size W W') (hr:RBool W' w.heap.size z D) (hn:∃ b,z.ownBlock = some b /\ W.heap.size <= b):StJ w g4 L V D a1 W' c0 c2 c3 c c7 c8 e0 v0 v1 z s:=by
 subst h8
 have q:=h.below hb
 exact ⟨q.hB,q.k4,q.h0,q.h2,q.h3,fun _=>hr,fun a _=>Ap.fresh (h.h3 a) hn,q.hK⟩
theorem StJ.app (h:StJ w g4 L V D a1 W c0 c2 c3 c4 c7 c8 e0 v0 v1 v2 s) (h0:RLeg W w.heap.size e0 []) (h8:c8 = false) (hB:Below w.heap.size w W') (hr:RLeg W' w.heap.size z L) (hg:W.grownBy W' e0.ownBlock):StJ w g4 L V D a1 W' c0 true c3 c4 c7 c8 e0 z v1 v2 s:=by
 subst h8
 exact ⟨hB,blk_ap h0 h.k4 (by decide) hg,fun _ b=>absurd b (by decide),fun _=>hr,fun a=>Kd.R_ap (h.h3 a) rfl (Ap.types (h.h3 a) h0 (by decide)) hg,fun a=>Kd.R_ap (h.h4 a) rfl (Ap.types (h.h4 a) h0 (by decide)) hg,h.p34,fun a=>⟨blk_ap h0 (h.hK a).1 (by decide) hg,(h.hK a).2⟩⟩
theorem StJ.alloc (h:StJ w g4 L V D a1 W c0 c2 c3 c4 c7 c8 e0 v0 v1 v2 s) (h8:c8 = false) (hb:Below W.heap.size W W') {g:Nat} (hbox:W'.heap[g]? = some (.cells #[.slice none 0 0,.slice none 0 0,.slice none 0 0,.int .i64 0,.int .i64 0] 30 (0,0))) (hg:g = W.heap.size):StJ w g4 L V D a1 W' c0 c2 c3 c4 c c8 e0 v0 v1 v2 g:=by
 subst h8
 have q:=h.below hb
 exact ⟨q.hB,q.k4,q.h0,q.h2,q.h3,q.h4,q.p34,fun _=>⟨hbox,by rw [hg];exact below_size h.hB,nl_ hg h.k4⟩⟩
theorem StJ.store (h:StJ w g4 L V D a1 W c0 c2 c3 c4 c7 c8 e0 v0 v1 v2 s) (h7:c7 = true) (h2:c2 = true) (h8:c8 = false):StJ w g4 L V D a1 (((((W.setCell ⟨s,0,none⟩ v0).setCell ⟨s,1,none⟩ v1).setCell ⟨s,2,none⟩ v2).setCell ⟨s,3,none⟩ (.int .i64 0)).setCell ⟨s,4,none⟩ (.int .i64 a1)) c0 c2 c3 c4 c7 true e0 v0 v1 v2 s:=by
 subst h8
 obtain ⟨k,hg,hne⟩:=h.hK h7
 exact ⟨below_set (below_set (below_set (below_set (below_set h.hB hg) hg) hg) hg) hg,blk_far (p:=⟨s,4,none⟩) (blk_far (p:=⟨s,3,none⟩) (blk_far (p:=⟨s,2,none⟩) (blk_far (p:=⟨s,1,none⟩) (blk_far (p:=⟨s,0,none⟩) h.k4 hne _) hne _) hne _) hne _) hne _,fun _ b=>absurd (h2.symm.trans b) (by decide),fun a=>own_R5 (h.h2 a) k (by decide) _ _ _ _ _,fun a=>own_R5 (h.h3 a) k (by decide) _ _ _ _ _,fun a=>own_R5 (h.h4 a) k (by decide) _ _ _ _ _,h.p34,fun _=>⟨own_blk5 k _ _ _ _ _,hg,hne⟩⟩
end
def spec_StartExploration.f (k:Nat) (l0:List (S37)) (a1:Int):Option ((List (S37)) × List Bool × List Bool × Int × Int × Bool):=(some (([]:List (S37)):List (S37))).bind fun y308=>(if y308.length + l0.length < 3518437208883 then ((some (y308 ++ l0:List (S37))).bind fun y311=>(if 8 <= 281474976710656 then ((some (List.replicate 8 false:List Bool)).bind fun y314=>((some (List.replicate 8 false:List Bool)).bind fun y317=>(if 0 < (y314.length:Int) then ((some (y314.set (0:Int).toNat true:List Bool)).bind fun y321=>((spec_l25Good.f k y311 y321 y317 0 a1).bind fun t322=>(if t322 = true then (some (y311,y321,y317,0,a1,true)) else (some (([]:List (S37)),([]:List Bool),([]:List Bool),0,0,false))))) else (none)))) else (none))) else (none))
theorem goodV_ (k:Nat) (A0_0:Option Addr) (c0_0:Nat) (l0_0:List S37) (A0_1:Option Addr) (c0_1 n:Nat) (l0_1:List Bool) (hn:l0_1.length = n) (A0_2:Option Addr) (c0_2:Nat) (l0_2:List Bool) (a0_3 a0_4:Int) (r:Bool) (w:World) (h1:Kd.C k37 w A0_0 l0_0.length l0_0) (h2:l0_0.length <= c0_0) (h3:Kd.C Kd.bool w A0_1 l0_1.length l0_1) (h4:n <= c0_1) (h5:Kd.C Kd.bool w A0_2 l0_2.length l0_2) (h6:l0_2.length <= c0_2) (h:spec_l25Good.f k l0_0 l0_1 l0_2 a0_3 a0_4 = some r) :
  Calls Try.prog 67 #[.agg #[.slice A0_0 l0_0.length c0_0,.slice A0_1 n c0_1,.slice A0_2 l0_2.length c0_2,.int .i64 a0_3,.int .i64 a0_4]] w fun e w'=>e = .returned (.bool r) /\ Below w.heap.size w w':=by
 subst hn
 exact spec_l25Good.calls k _ _ l0_0 _ _ l0_1 _ _ l0_2 a0_3 a0_4 r w h1 h2 h3 h4 h5 h6 h
def st1.T:Bool × List (List Nat × List Nat):=(true,[([],[]),([],[]),([0,1],[0,1]),([],[]),([],[]),([],[]),([2,3,4,5],[2,3,4,5]),([],[]),([7,6,2,0,1,2,3,4,5,6,7],[6,7])])
def st1.B:List Nat:=[0,0,3,0,0,0,63,0,255]
theorem st1.tab:rtab .any (opsOf Try.f33 1) = st1.T:=by kernel_rfl
theorem st1.bits:waitsOk st1.T.2 st1.B = true:=by kernel_rfl
abbrev st1.mkE:Array Bool:=#[fF,fF,fF,fF,fF,fF,fF,fF,fF]
abbrev st1.mk1:Array Bool:=#[fF,tT,fF,fF,fF,fF,fF,fF,fF]
abbrev st1.mk1_5:Array Bool:=#[fF,tT,fF,fF,fF,tT,fF,fF,fF]
set_option maxHeartbeats 64000000 in
set_option maxRecDepth 100000 in
theorem spec_StartExploration.calls (k:Nat) (A0:Option Addr) (c0:Nat) (l0:List (S37)) (a1:Int) (r1:List (S37)) (r2:List Bool) (r3:List Bool) (r4:Int) (r5:Int) (r6:Bool) (w:World) (hr0:Kd.C k37 w A0 l0.length l0) (hc0:l0.length <= c0) (h:spec_StartExploration.f k l0 a1 = some (r1,r2,r3,r4,r5,r6)) :
  Calls Try.prog 33 #[.slice A0 l0.length c0,.int .i64 a1] w fun e w'=>∃ v0_ v1_ v2_:Value,e = .returned (.tuple #[.agg #[v0_,v1_,v2_,.int .i64 r4,.int .i64 r5],.bool r6]) /\ Kd.R k37 37 w' w.heap.size (fun _=>True) v0_ r1 /\ Kd.R Kd.bool 4 w' w.heap.size (fun k_=>some k_ ≠ (v2_:Value).ownBlock) v1_ r2 /\ Kd.R Kd.bool 4 w' w.heap.size (fun k_=>some k_ ≠ (v1_:Value).ownBlock) v2_ r3 /\ Below w.heap.size w w':=by
 have hu30:=Try.underlying30
 have HR0:=ak hr0
 have HC0:=ak hc0
 clear hr0 hc0
 have HB:=ak (Below.refl w.heap.size w)
 unfold spec_StartExploration.f at h
 simp only [Option.bind_some,List.length_nil,Nat.zero_add,List.nil_append] at h
 by_cases q0:l0.length < 3518437208883
 rotate_left
 .
  rw [if_neg q0] at h
  cases h
 rw [if_pos q0,if_pos (by decide),if_pos (by decide)] at h
 replace h:=Option.bind_eq_some_iff.mp h
 obtain ⟨q,a2,h⟩:=h
 obtain ⟨V,hV⟩:∃ z,z = List.replicate 8 false:=⟨_,rfl⟩
 obtain ⟨D,hD⟩:∃ z,z = List.replicate 8 false:=⟨_,rfl⟩
 have a3:spec_l25Good.f k l0 (V.set (0:Int).toNat true) D 0 a1 = some q:=by rw [hV,hD];exact a2
 have h3:(if q = true then some (l0,V.set (0:Int).toNat true,D,(0:Int),a1,true) else some ([],[],[],0,0,false)) = some (r1,r2,r3,r4,r5,r6):=by rw [hV,hD];exact h
 have A2:=ak a3
 have HH:=ak h3
 have NV:=ak hV
 have ND:=ak hD
 have Q0:=ak q0
 clear h h3 a2 a3 hV hD q0
 go_enter Try.func33,Try.ntmps33
 try go_wp2_with (first|((with_reducible refine gate_dst (N:=4) rfl ?_);refine box_event ?hg (N:=4) ?hd (cs:=#[.slice none 0 0,.slice none 0 0,.slice none 0 0,.int .i64 0,.int .i64 0]) (t:=30) ?hr ?_;(case hd=>rfl);(case hg=>rfl);(case hr=>first|(go_simp;done)|(go_simp;rfl));intro g4 hg w6 hbox hb;have G4:=ak (bz_ hg HB.out);have BK4:=ak hbox;replace HB:=ak (below_step HB.out hb);clear hb hbox hg))
 have HJ:=ak (show StJ w g4 l0 V D a1 w6.drew false false false false false false (.bool false) (.bool false) (.bool false) (.bool false) 0 from ⟨below_drew HB.out,blk_drew BK4.out,fun h_=>absurd h_ (by decide),fun h_=>absurd h_ (by decide),fun h_=>absurd h_ (by decide),fun h_=>absurd h_ (by decide),fun h_=>absurd h_ (by decide),fun h_=>absurd h_ (by decide)⟩)
 clear HB BK4
 refine start_ (n:=9) (S:=fun w'=>True) (ds:=[]) st1.mkE (by kernel_rfl) rfl rfl trivial (fun hHeld=>?_);refine with_tabW st1.tab st1.bits (fun HT_ HW_=>?_)
 clear hHeld
 generalize w6.drew = wd at HJ ⊢
 refine pz_ HT_ 1 (some 8) st1.mk1 ?_
 refine pz_ HT_ 5 (some 12) st1.mk1_5 ?_
 refine inv_at [0,2,3,4,6,7,8] (fun a0_ b a w'=>∃ (e0 v0 v1 v2 m:Value) (s:Nat),a = putSel a0_ b [(0,7,e0),(2,9,v0),(3,10,v1),(4,11,v2),(6,13,m),(7,6,.pointer (some ⟨s,0,none⟩))] /\ (b 6 = true -> m = .agg #[v0,v1,v2,.int .i64 0,.int .i64 a1]) /\ StJ w g4 l0 V D a1 w' (b 0) (b 2) (b 3) (b 4) (b 7) (b 8) e0 v0 v1 v2 s) HT_.out HW_.out (by kernel_rfl) (by kernel_rfl) ?_ ?_ ?_
 .
  exact ⟨.bool false,.bool false,.bool false,.bool false,.bool false,0,by simp only [putSel,Bool.false_eq_true,if_false],fun h_=>absurd h_ (by decide),HJ.out⟩
 .
  clear HJ
  refine steps_cons ?_ ?_
  .
   rintro b a w' ⟨e0,v0,v1,v2,m,s,ha,E_,J⟩ hb_ hon hoff
   refine ⟨_,rfl,fun K hK=>?_⟩
   replace ha:=ak ha
   refine Kd.R_lit_step k37 _ 37 ?hg (N:=7) ?hd (xs:=([]:List S37)) (inner:=[]) (ok:=fun _=>True) (okp:=fun _=>True) ?hr ?hp (fun _ hk=>hk) trivial (Below.refl _ _) (Nat.le_refl _) (by simp) ?_;(case hd=>rfl);(case hg=>rfl);(case hr=>first|(go_simp;done)|(go_simp;rfl));(case hp=>exact (Reps.none _ _))
   intro z w7 ho hb hg_ hn_
   refine hK.out _ _ ⟨z,v0,v1,v2,m,s,(by rw [ha.out];exact putSel_upk 0 hb_ rfl rfl rfl),E_,J.lit0 hb (Kd.R_lower ho (below_size J.hB))⟩
  refine steps_cons ?_ ?_
  .
   rintro b a w' ⟨e0,v0,v1,v2,m,s,ha,E_,J⟩ hb_ hon hoff
   refine ⟨_,rfl,fun K hK=>?_⟩
   have e7_:a.tmps[7]? = some (e0):=by rw [ha];exact putSel_on (e:=(0,7,e0)) 0 rfl rfl (hon 0 (by kernel_rfl)) rfl
   have e8_:a.tmps[8]? = some (.slice A0 l0.length c0):=by rw [ha];exact (putSel_off rfl).trans rfl
   replace ha:=ak ha
   have hq_:=J.h0 (hon 0 (by kernel_rfl)) hb_
   refine Kd.R_append_rows_step k37 (w0:=w) w.heap.size (by rfl) (.tmp 7) (.tmp 8) 28 37 (.agg #[.int .i64 0,.int .i64 0,.int .i64 0,.int .i64 0,.int .i64 0]) 40 rfl Try.underlying28 info37 rfl (by decide) (by omega) e0 [] l0 A0 l0.length c0 (fun _=>True) (fun _=>False) (by simp only [Act.eval,Array.getD_eq_getD_getElem?,e7_,Option.getD_some]) (by simp only [Act.eval,Array.getD_eq_getD_getElem?,e8_,Option.getD_some]) hq_ (Kd.C_below HR0.out J.hB) (fun _ _ h=>h) (fun _ h=>h.elim) (fun _ _=>trivial) J.hB (below_size J.hB) (by have:=Q0.out;simp only [List.length_nil];omega) ?_
   intro z w7 ho hb hg_ hn_
   rw [List.nil_append] at ho
   refine hK.out _ _ ⟨e0,z,v1,v2,m,s,(by rw [ha.out];exact putSel_upk 1 hb_ rfl rfl rfl),(fun h_=>absurd ((hoff 6 (by kernel_rfl)).symm.trans h_) (by decide)),J.app hq_ (hoff 8 (by kernel_rfl)) hb ho hg_⟩
  refine steps_cons ?_ ?_
  .
   rintro b a w' ⟨e0,v0,v1,v2,m,s,ha,E_,J⟩ hb_ hon hoff
   refine ⟨_,rfl,fun K hK=>?_⟩
   replace ha:=ak ha
   refine Kd.R_make_step Kd.bool _ 4 (by rfl) (N:=10) rfl 23 _ _ rfl 8 rfl rfl Try.underlying23 (.bool false) 1 info4 rfl (by decide) (by omega) false (ok:=fun _=>True) (okp:=fun _=>True) rfl (fun _ hk=>hk) trivial (by omega) (by omega) (Below.refl _ _) (Nat.le_refl _) ?_
   intro z w7 ho hb hg_ hn_
   replace ho:RBool w7 w'.heap.size z V:=by rw [NV.out];exact ho
   refine hK.out _ _ ⟨e0,v0,z,v2,m,s,(by rw [ha.out];exact putSel_upk 2 hb_ rfl rfl rfl),(fun h_=>absurd ((hoff 6 (by kernel_rfl)).symm.trans h_) (by decide)),J.mkV (hoff 8 (by kernel_rfl)) hb (Kd.R_lower ho (below_size J.hB)) hn_⟩
  refine steps_cons ?_ ?_
  .
   rintro b a w' ⟨e0,v0,v1,v2,m,s,ha,E_,J⟩ hb_ hon hoff
   refine ⟨_,rfl,fun K hK=>?_⟩
   replace ha:=ak ha
   refine Kd.R_make_step Kd.bool _ 4 (by rfl) (N:=11) rfl 23 _ _ rfl 8 rfl rfl Try.underlying23 (.bool false) 1 info4 rfl (by decide) (by omega) false (ok:=fun _=>True) (okp:=fun _=>True) rfl (fun _ hk=>hk) trivial (by omega) (by omega) (Below.refl _ _) (Nat.le_refl _) ?_
   intro z w7 ho hb hg_ hn_
   replace ho:RBool w7 w'.heap.size z D:=by rw [ND.out];exact ho
   refine hK.out _ _ ⟨e0,v0,v1,z,m,s,(by rw [ha.out];exact putSel_upk 3 hb_ rfl rfl rfl),(fun h_=>absurd ((hoff 6 (by kernel_rfl)).symm.trans h_) (by decide)),J.mkD (hoff 8 (by kernel_rfl)) hb (Kd.R_lower ho (below_size J.hB)) hn_⟩
  refine steps_cons ?_ ?_
  .
   rintro b a w' ⟨e0,v0,v1,v2,m,s,ha,E_,J⟩ hb_ hon hoff
   refine ⟨_,rfl,fun K hK=>?_⟩
   have e9_:a.tmps[9]? = some (v0):=by rw [ha];exact putSel_on (e:=(2,9,v0)) 1 rfl rfl (hon 2 (by kernel_rfl)) rfl
   have e10_:a.tmps[10]? = some (v1):=by rw [ha];exact putSel_on (e:=(3,10,v1)) 2 rfl rfl (hon 3 (by kernel_rfl)) rfl
   have e11_:a.tmps[11]? = some (v2):=by rw [ha];exact putSel_on (e:=(4,11,v2)) 3 rfl rfl (hon 4 (by kernel_rfl)) rfl
   have e12_:a.tmps[12]? = some (.int .i64 a1):=by rw [ha];exact (putSel_off rfl).trans rfl
   replace ha:=ak ha
   obtain ⟨q0,z0,ee⟩:=Kd.R_slice (J.h2 (hon 2 (by kernel_rfl)))
   subst ee
   obtain ⟨q1,z1,ee⟩:=Kd.R_slice (J.h3 (hon 3 (by kernel_rfl)))
   subst ee
   obtain ⟨q2,z2,ee⟩:=Kd.R_slice (J.h4 (hon 4 (by kernel_rfl)))
   subst ee
   refine value_ (w1:=w') (v:=.agg #[.slice q0 l0.length z0,.slice q1 V.length z1,.slice q2 D.length z2,.int .i64 0,.int .i64 a1]) (by rfl) rfl ?_ ?_
   .
    go_simp
    all_goals first|rfl|assumption
   refine hK.out _ _ ⟨e0,.slice q0 l0.length z0,.slice q1 V.length z1,.slice q2 D.length z2,.agg #[.slice q0 l0.length z0,.slice q1 V.length z1,.slice q2 D.length z2,.int .i64 0,.int .i64 a1],s,(by rw [ha.out];exact putSel_upk 4 hb_ rfl rfl rfl),(fun _=>rfl),J⟩
  refine steps_cons ?_ ?_
  .
   rintro b a w' ⟨e0,v0,v1,v2,m,s,ha,E_,J⟩ hb_ hon hoff
   refine ⟨_,rfl,fun K hK=>?_⟩
   replace ha:=ak ha
   refine box_step ?hg (N:=6) ?hd (cs:=#[.slice none 0 0,.slice none 0 0,.slice none 0 0,.int .i64 0,.int .i64 0]) (t:=30) ?hr ?_;(case hd=>rfl);(case hg=>rfl);(case hr=>first|(go_simp;done)|(go_simp;rfl))
   intro s_ hg w7 hbox hb
   refine hK.out _ _ ⟨e0,v0,v1,v2,m,s_,(by rw [ha.out];exact putSel_upk 5 hb_ rfl rfl rfl),E_,J.alloc (hoff 8 (by kernel_rfl)) hb hbox hg⟩
  refine steps_cons ?_ ?_
  .
   rintro b a w' ⟨e0,v0,v1,v2,m,s,ha,E_,J⟩ hb_ hon hoff
   refine ⟨_,rfl,fun K hK=>?_⟩
   have hm_:=E_ (hon 6 (by kernel_rfl))
   subst hm_
   obtain ⟨q0,z0,ee⟩:=Kd.R_slice (J.h2 (hon 2 (by kernel_rfl)))
   subst ee
   obtain ⟨q1,z1,ee⟩:=Kd.R_slice (J.h3 (hon 3 (by kernel_rfl)))
   subst ee
   obtain ⟨q2,z2,ee⟩:=Kd.R_slice (J.h4 (hon 4 (by kernel_rfl)))
   subst ee
   have e13_:a.tmps[13]? = some (.agg #[.slice q0 l0.length z0,.slice q1 V.length z1,.slice q2 D.length z2,.int .i64 0,.int .i64 a1]):=by rw [ha];exact putSel_on (e:=(6,13,.agg #[.slice q0 l0.length z0,.slice q1 V.length z1,.slice q2 D.length z2,.int .i64 0,.int .i64 a1])) 4 rfl rfl (hon 6 (by kernel_rfl)) rfl
   have e6_:a.tmps[6]? = some (.pointer (some ⟨s,0,none⟩)):=by rw [ha];exact putSel_on (e:=(7,6,.pointer (some ⟨s,0,none⟩))) 5 rfl rfl (hon 7 (by kernel_rfl)) rfl
   replace ha:=ak ha
   have k6_:=(J.hK (hon 7 (by kernel_rfl))).1
   rw [show b 8 = false from hb_] at k6_
   replace k6_:w'.heap[s]? = some (.cells #[.slice none 0 0,.slice none 0 0,.slice none 0 0,.int .i64 0,.int .i64 0] 30 (0,0)):=k6_
   obtain ⟨hcz0,hcz1,hcz2,hcz3,hcz4⟩:=cz5_ k6_;obtain ⟨hfz0,hfz1,hfz2,hfz3,hfz4⟩:=fz5_ k6_
   refine skip_ (w1:=?_) (by rfl) rfl ?_ ?_
   rotate_left
   .
    go_simp
    rfl
   refine hK.out _ _ ⟨e0,.slice q0 l0.length z0,.slice q1 V.length z1,.slice q2 D.length z2,.agg #[.slice q0 l0.length z0,.slice q1 V.length z1,.slice q2 D.length z2,.int .i64 0,.int .i64 a1],s,(by rw [ha.out];exact (putSel_same rfl).symm),(fun _=>rfl),J.store (hon 7 (by kernel_rfl)) (hon 2 (by kernel_rfl)) hb_⟩
  exact steps_nil
 rintro b a wz hall ⟨e0,v0,v1,v2,m,g6,ha,E_,J⟩
 clear HJ
 have hb0_:=hall 0 (by kernel_rfl)
 have hb2_:=hall 2 (by kernel_rfl)
 have hb3_:=hall 3 (by kernel_rfl)
 have hb4_:=hall 4 (by kernel_rfl)
 have hb6_:=hall 6 (by kernel_rfl)
 have hb7_:=hall 7 (by kernel_rfl)
 have hb8_:=hall 8 (by kernel_rfl)
 obtain rfl:=E_ hb6_
 clear E_
 rw [hb0_,hb2_,hb3_,hb4_,hb7_,hb8_] at J
 subst ha
 simp only [putSel,hb0_,hb2_,hb3_,hb4_,hb6_,hb7_,hb8_,if_true,Act.put,List.setIfInBounds_toArray,List.set_cons_zero,List.set_cons_succ]
 clear hb0_ hb2_ hb3_ hb4_ hb6_ hb7_ hb8_ hall
 have hlv:V.length = 8:=by rw [NV.out];rfl
 obtain ⟨gv,cv,ev,_⟩:=own_block_ (J.h3 rfl) (by omega)
 subst ev
 obtain ⟨Aj,cj,ee⟩:=Kd.R_slice (J.h2 rfl)
 subst ee
 obtain ⟨Al,cl,ee⟩:=Kd.R_slice (J.h4 rfl)
 subst ee
 have HS:Aside0 (ExS wz w.heap.size g6 (.slice Aj l0.length cj) (.slice (some ⟨gv,0,none⟩) V.length cv) (.slice Al D.length cl) l0 V D 0 a1):=⟨⟨(J.hK rfl).1,(J.hK rfl).2.1,J.h2 rfl,⟨fun k_ hk_=>J.p34 rfl rfl k_ hk_,(J.h3 rfl).2⟩,⟨fun k_ hk_=>(J.p34 rfl rfl).symm k_ hk_,(J.h4 rfl).2⟩⟩⟩
 have HB:=ak J.hB
 have BK4:=ak J.k4
 have HG:Aside0 (w.heap.size <= gv /\ g4 ≠ gv):=⟨⟨((Kd.R_bound HS.out.rV).1 gv rfl).2.1,fun e_=>by
  obtain ⟨cs_,hx⟩:=Kd.R_typed HS.out.rV gv rfl
  rw [<- e_,BK4.out] at hx
  injection hx with hx
  injection hx with _ hx
  exact absurd hx (by decide)⟩⟩
 obtain ⟨hx,hf⟩:=Kd.R_celln false HS.out.rV 0 (by omega) (by omega)
 replace hx:wz.cell? ⟨gv,0,none⟩ = _:=hx
 replace hf:wz.frozen? ⟨gv,0,none⟩ = false:=hf
 have h6:wz.cell? ⟨g6,1,none⟩ = some (.slice (some ⟨gv,0,none⟩) V.length cv):=(blk_cell HS.out.blk 1).trans rfl
 have q1:decide ((0:Int) < (V.length:Int)) = true:=decide_eq_true (by omega)
 have q1':((0:Int) < (V.length:Int)) = True:=eq_true (by omega)
 have q2':(0 < V.length) = True:=eq_true (by omega)
 clear J hlv
 have h:=HH.out
 clear HH
 cases q with
 | false=>
  rw [if_neg (by decide)] at h
  simp only [Option.some.injEq,Prod.mk.injEq] at h
  obtain ⟨rfl,rfl,rfl,rfl,rfl,rfl⟩:=h
  go_wp2_with (first|((with_reducible refine gate_store (t:=4) (p:=16) rfl ?_);refine store_event (t:=4) (p:=16) (v:=?vo_) (w1:=(wz.setCell ⟨gv,0,none⟩ (.bool true))) ?hg ?ho ?hn ?hr ?_;(case ho=>rfl);(case hg=>rfl);(case hn=>rfl);(case hr=>first|(go_simp;done)|(go_simp;rfl));intro wy hw;clear hx hf h6 q1 q1' q2';replace HB:=ak (show Below w.heap.size w wy from by rw [hw];exact below_set HB.out HG.out.1);replace BK4:Aside0 (wy.heap[g4]? = some (.cells #[.slice none 0 0,.slice none 0 0,.slice none 0 0,.int .i64 0,.int .i64 0] 30 (0,0))):=⟨by rw [hw];exact blk_far (p:=⟨gv,0,none⟩) BK4.out HG.out.2 _⟩;have hS:=HS.out.putV 0 true;replace hS:=show ExS (wz.setCell ⟨gv,0,none⟩ (.bool true)) w.heap.size g6 _ _ _ l0 (V.set (0:Int).toNat true) D 0 a1 from hS;rw [<- hw] at hS;replace HS:=ak hS;clear hw hS;obtain ⟨hcz0,hcz1,hcz2,hcz3,hcz4⟩:=cz5_ HS.out.blk;obtain ⟨hfz0,hfz1,hfz2,hfz3,hfz4⟩:=fz5_ HS.out.blk)|((with_reducible refine gate_callee (f:=67) rfl ?_);refine ga_ (some 18) Try.func67 #[.agg #[.slice Aj l0.length cj,.slice (some ⟨gv,0,none⟩) V.length cv,.slice Al D.length cl,.int .i64 0,.int .i64 a1]] ?_;have hl8:(V.set (0:Int).toNat true).length = V.length:=List.length_set;refine (goodV_ k _ _ l0 _ _ V.length (V.set (0:Int).toNat true) hl8 _ _ D 0 a1 false _ (Kd.R_reads' HS.out.rL).2.2 (Kd.R_reads' HS.out.rL).2.1 (hl8 ▸ (Kd.R_reads' HS.out.rV).2.2) (Kd.R_reads' HS.out.rV).2.1 (Kd.R_reads' HS.out.rD).2.2 (Kd.R_reads' HS.out.rD).2.1 A2.out).mono ?_;rintro e wx ⟨rfl,hb⟩;refine ⟨_,rfl,?_⟩;clear hl8 hcz0 hfz0 hcz1 hfz1 hcz2 hfz2 hcz3 hfz3 hcz4 hfz4;replace HS:=ak (HS.out.below hb);replace BK4:=ak (bb_ BK4.out hb);replace HB:=ak (below_step HB.out hb);clear hb;obtain ⟨hcz0,hcz1,hcz2,hcz3,hcz4⟩:=cz5_ HS.out.blk;obtain ⟨hfz0,hfz1,hfz2,hfz3,hfz4⟩:=fz5_ HS.out.blk;obtain ⟨hdz0,hdz1,hdz2,hdz3,hdz4⟩:=cz5_ BK4.out;obtain ⟨hez0,hez1,hez2,hez3,hez4⟩:=fz5_ BK4.out))
  refine bodyPost_ret (results_ct rfl _ _ g4 30 #[.slice none 0 0,.slice none 0 0,.slice none 0 0,.int .i64 0,.int .i64 0] (0,0) _ rfl (own_blk5 BK4.out (.slice none 0 0) (.slice none 0 0) (.slice none 0 0) (.int .i64 0) (.int .i64 0)) Try.underlying30 rfl (by kernel_rfl)) rfl ?_
  exact ⟨_,_,_,rr_,Kd.R_nil _ _ _ _ _,Kd.R_nil _ _ _ _ _,Kd.R_nil _ _ _ _ _,below_set (below_set (below_set (below_set (below_set HB.out G4.out) G4.out) G4.out) G4.out) G4.out⟩
 | true=>
  rw [if_pos rfl] at h
  simp only [Option.some.injEq,Prod.mk.injEq] at h
  obtain ⟨rfl,rfl,rfl,rfl,rfl,rfl⟩:=h
  go_wp2_with (first|((with_reducible refine gate_store (t:=4) (p:=16) rfl ?_);refine store_event (t:=4) (p:=16) (v:=?vo_) (w1:=(wz.setCell ⟨gv,0,none⟩ (.bool true))) ?hg ?ho ?hn ?hr ?_;(case ho=>rfl);(case hg=>rfl);(case hn=>rfl);(case hr=>first|(go_simp;done)|(go_simp;rfl));intro wy hw;clear hx hf h6 q1 q1' q2';replace HB:=ak (show Below w.heap.size w wy from by rw [hw];exact below_set HB.out HG.out.1);replace BK4:Aside0 (wy.heap[g4]? = some (.cells #[.slice none 0 0,.slice none 0 0,.slice none 0 0,.int .i64 0,.int .i64 0] 30 (0,0))):=⟨by rw [hw];exact blk_far (p:=⟨gv,0,none⟩) BK4.out HG.out.2 _⟩;have hS:=HS.out.putV 0 true;replace hS:=show ExS (wz.setCell ⟨gv,0,none⟩ (.bool true)) w.heap.size g6 _ _ _ l0 (V.set (0:Int).toNat true) D 0 a1 from hS;rw [<- hw] at hS;replace HS:=ak hS;clear hw hS;obtain ⟨hcz0,hcz1,hcz2,hcz3,hcz4⟩:=cz5_ HS.out.blk;obtain ⟨hfz0,hfz1,hfz2,hfz3,hfz4⟩:=fz5_ HS.out.blk)|((with_reducible refine gate_callee (f:=67) rfl ?_);refine ga_ (some 18) Try.func67 #[.agg #[.slice Aj l0.length cj,.slice (some ⟨gv,0,none⟩) V.length cv,.slice Al D.length cl,.int .i64 0,.int .i64 a1]] ?_;have hl8:(V.set (0:Int).toNat true).length = V.length:=List.length_set;refine (goodV_ k _ _ l0 _ _ V.length (V.set (0:Int).toNat true) hl8 _ _ D 0 a1 true _ (Kd.R_reads' HS.out.rL).2.2 (Kd.R_reads' HS.out.rL).2.1 (hl8 ▸ (Kd.R_reads' HS.out.rV).2.2) (Kd.R_reads' HS.out.rV).2.1 (Kd.R_reads' HS.out.rD).2.2 (Kd.R_reads' HS.out.rD).2.1 A2.out).mono ?_;rintro e wx ⟨rfl,hb⟩;refine ⟨_,rfl,?_⟩;clear hl8 hcz0 hfz0 hcz1 hfz1 hcz2 hfz2 hcz3 hfz3 hcz4 hfz4;replace HS:=ak (HS.out.below hb);replace BK4:=ak (bb_ BK4.out hb);replace HB:=ak (below_step HB.out hb);clear hb;obtain ⟨hcz0,hcz1,hcz2,hcz3,hcz4⟩:=cz5_ HS.out.blk;obtain ⟨hfz0,hfz1,hfz2,hfz3,hfz4⟩:=fz5_ HS.out.blk;obtain ⟨hdz0,hdz1,hdz2,hdz3,hdz4⟩:=cz5_ BK4.out;obtain ⟨hez0,hez1,hez2,hez3,hez4⟩:=fz5_ BK4.out))
  refine bodyPost_ret (results_ct rfl _ _ g4 30 #[.slice Aj l0.length cj,.slice (some ⟨gv,0,none⟩) V.length cv,.slice Al D.length cl,.int .i64 0,.int .i64 a1] (0,0) _ rfl (own_blk5 BK4.out (.slice Aj l0.length cj) (.slice (some ⟨gv,0,none⟩) V.length cv) (.slice Al D.length cl) (.int .i64 0) (.int .i64 a1)) Try.underlying30 rfl (by kernel_rfl)) rfl ?_
  exact ⟨_,_,_,rr_,own_R5 HS.out.rL BK4.out (by decide) (.slice Aj l0.length cj) (.slice (some ⟨gv,0,none⟩) V.length cv) (.slice Al D.length cl) (.int .i64 0) (.int .i64 a1),own_R5 HS.out.rV BK4.out (by decide) (.slice Aj l0.length cj) (.slice (some ⟨gv,0,none⟩) V.length cv) (.slice Al D.length cl) (.int .i64 0) (.int .i64 a1),own_R5 HS.out.rD BK4.out (by decide) (.slice Aj l0.length cj) (.slice (some ⟨gv,0,none⟩) V.length cv) (.slice Al D.length cl) (.int .i64 0) (.int .i64 a1),below_set (below_set (below_set (below_set (below_set HB.out G4.out) G4.out) G4.out) G4.out) G4.out⟩
def IsS96 (w0 W:World) (g:Nat) (f0:List Int) (f1:Int) (f2:Int):Prop:=∃ A0 c0,W.heap[g]? = some (.cells #[.slice A0 f0.length c0,.int .i64 f1,.int .u64 f2] 96 (0,0)) /\ w0.heap.size <= g /\ Kd.C (Kd.int .u8) w0 A0 f0.length f0
theorem IsS96.grown {w0 W:World} {g:Nat} {f0:List Int} {f1:Int} {f2:Int} {W1:World} {row:Option Nat} (h:IsS96 w0 W g f0 f1 f2) (hw:W.grownBy W1 row) (hne:some g ≠ row):IsS96 w0 W1 g f0 f1 f2:=by
 obtain ⟨A0,c0,hb,hg,hr0⟩:=h
 exact ⟨A0,c0,blk_grown hb hw hne,hg,hr0⟩
theorem IsS96.fresh {w0 W:World} {g:Nat} {f0:List Int} {f1:Int} {f2:Int} (h:IsS96 w0 W g f0 f1 f2):∀ k,W.heap.size <= k -> k ≠ g:=by
 obtain ⟨A0,c0,hb,hg,hr0⟩:=h
 exact Kd.freshB hb
theorem IsS96.below {w0 W:World} {g:Nat} {f0:List Int} {f1:Int} {f2:Int} {W1:World} (h:IsS96 w0 W g f0 f1 f2) (hw:Below W.heap.size W W1):IsS96 w0 W1 g f0 f1 f2:=h.grown (grown_of_below hw none) (by simp)
theorem IsS96.alloc {w0 W:World} {g:Nat} {f0:List Int} {f1:Int} {f2:Int} (h:IsS96 w0 W g f0 f1 f2) (o:Obj):IsS96 w0 (W.alloc o) g f0 f1 f2:=h.below (below_alloc (Below.refl _ _) o)
theorem IsS96.drewN {w0 W:World} {g:Nat} {f0:List Int} {f1:Int} {f2:Int} (h:IsS96 w0 W g f0 f1 f2) (m:Nat):IsS96 w0 (W.drewN m) g f0 f1 f2:=h
theorem IsS96.drew {w0 W:World} {g:Nat} {f0:List Int} {f1:Int} {f2:Int} (h:IsS96 w0 W g f0 f1 f2):IsS96 w0 W.drew g f0 f1 f2:=h
theorem IsS96.apart {w0 W:World} {g:Nat} {f0:List Int} {f1:Int} {f2:Int} {α:Type} {d:Kd α} {e:Nat} {base:Nat} {ok:Nat -> Prop} {v:Value} {xs:List α} (h:IsS96 w0 W g f0 f1 f2) (ho:d.R e W base ok v xs) (ht:∀ q,q ∈ e :: d.E -> q ≠ 96):d.R e W base (fun k=>ok k /\ k ≠ g) v xs:=by
 obtain ⟨A0,c0,hb,hg,hr0⟩:=h
 exact Kd.R_types ho hb ht
theorem IsS96.own_ne {w0 W:World} {g:Nat} {f0:List Int} {f1:Int} {f2:Int} {α:Type} {d:Kd α} {e:Nat} {base:Nat} {ok:Nat -> Prop} {v:Value} {xs:List α} (h:IsS96 w0 W g f0 f1 f2) (ho:d.R e W base ok v xs) (ht:e ≠ 96):some g ≠ v.ownBlock:=by
 obtain ⟨A0,c0,hb,hg,hr0⟩:=h
 exact Kd.R_ne ho hb ht
theorem IsS96.ge {w0 W:World} {g:Nat} {f0:List Int} {f1:Int} {f2:Int} (h:IsS96 w0 W g f0 f1 f2):w0.heap.size <= g:=by
 obtain ⟨A0,c0,hb,hg,hr0⟩:=h
 exact hg
theorem IsS96.ne_blk {w0 W:World} {g:Nat} {f0:List Int} {f1:Int} {f2:Int} {a:Nat} {cs:Array Value} {t:TypeId} {fr:Nat × Nat} (h:IsS96 w0 W g f0 f1 f2) (hb2:W.heap[a]? = some (.cells cs t fr)) (ht:t ≠ 96):g ≠ a:=by
 obtain ⟨A0,c0,hb,hg,hr0⟩:=h
 rintro rfl
 rw [hb] at hb2
 injection hb2 with hb2
 injection hb2 with _ ht2
 exact ht ht2.symm
theorem IsS96.far {w0 W:World} {g:Nat} {f0:List Int} {f1:Int} {f2:Int} {p:Addr} (h:IsS96 w0 W g f0 f1 f2) (hne:g ≠ p.block) (u:Value):IsS96 w0 (W.setCell p u) g f0 f1 f2:=by
 obtain ⟨A0,c0,hb,hg,hr0⟩:=h
 exact ⟨A0,c0,blk_far hb hne u,hg,hr0⟩
theorem cellS96_0 {W:World} {g:Nat} {A0:Option Addr} {c0:Nat} {f0:List Int} {f1:Int} {f2:Int} (h:W.heap[g]? = some (.cells #[.slice A0 f0.length c0,.int .i64 f1,.int .u64 f2] 96 (0,0))):W.cell? ⟨g,0,none⟩ = some (.slice A0 f0.length c0):=(blk_cell h 0).trans rfl
theorem cellS96_1 {W:World} {g:Nat} {A0:Option Addr} {c0:Nat} {f0:List Int} {f1:Int} {f2:Int} (h:W.heap[g]? = some (.cells #[.slice A0 f0.length c0,.int .i64 f1,.int .u64 f2] 96 (0,0))):W.cell? ⟨g,1,none⟩ = some (.int .i64 f1):=(blk_cell h 1).trans rfl
theorem IsS96.set_1 {w0 W:World} {g:Nat} {f0:List Int} {f1:Int} {f2:Int} (h:IsS96 w0 W g f0 f1 f2) (x:Int):IsS96 w0 (W.setCell ⟨g,1,none⟩ (.int .i64 x)) g f0 x f2:=by
 obtain ⟨A0,c0,hb,hg,hr0⟩:=h
 exact ⟨A0,c0,by simpa using blk_set hb 1 (.int .i64 x),hg,hr0⟩
theorem cellS96_2 {W:World} {g:Nat} {A0:Option Addr} {c0:Nat} {f0:List Int} {f1:Int} {f2:Int} (h:W.heap[g]? = some (.cells #[.slice A0 f0.length c0,.int .i64 f1,.int .u64 f2] 96 (0,0))):W.cell? ⟨g,2,none⟩ = some (.int .u64 f2):=(blk_cell h 2).trans rfl
theorem IsS96.set_2 {w0 W:World} {g:Nat} {f0:List Int} {f1:Int} {f2:Int} (h:IsS96 w0 W g f0 f1 f2) (x:Int):IsS96 w0 (W.setCell ⟨g,2,none⟩ (.int .u64 x)) g f0 f1 x:=by
 obtain ⟨A0,c0,hb,hg,hr0⟩:=h
 exact ⟨A0,c0,by simpa using blk_set hb 2 (.int .u64 x),hg,hr0⟩
theorem is96_0 {w0 W W1:World} {g:Nat} {f0 f0':List Int} {f1 f1':Int} {f2 f2':Int} (h:IsS96 w0 W g f0 f1 f2) (hh:IsS96 w0 W g f0 f1 f2 -> IsS96 w0 W1 g f0' f1' f2':=by intro h_ ;repeat (first|(with_reducible first|exact h_|apply IsS96.alloc|apply IsS96.drewN|apply IsS96.drew|apply IsS96.set_1|apply IsS96.set_2)|exact h_)):IsS96 w0 W1 g f0' f1' f2':=hh h
def spec_l1Cur_next.f (s0_0:List Int) (s0_1:Int) (s0_2:Int):Option (Int × Int × Int):=if s0_1 < (s0_0.length:Int) then (if 0 <= s0_1 then (if (wrap64 (s0_1 + 1)) <= (s0_0.length:Int) then (some (wrap64 (rd s0_0 s0_1),wrap64 (s0_1 + 1),IntKind.u64.wrap ((IntKind.u64.wrap ((IntKind.u64.wrap (s0_2 * 6364136223846793005)) + (IntKind.u64.wrap (wrap64 (rd s0_0 s0_1))))) + 933933))) else (some (wrap64 (Go.bits .and .u64 ((IntKind.u64.wrap ((IntKind.u64.wrap ((IntKind.u64.wrap (s0_2 * 6364136223846793005)) + (IntKind.u64.wrap (wrap64 (rd s0_0 s0_1))))) + 933933)) / 1099511627776) 255),wrap64 (s0_1 + 1),IntKind.u64.wrap ((IntKind.u64.wrap ((IntKind.u64.wrap (s0_2 * 6364136223846793005)) + (IntKind.u64.wrap (wrap64 (rd s0_0 s0_1))))) + 933933)))) else (none)) else (if (wrap64 (s0_1 + 1)) <= (s0_0.length:Int) then (some (0,wrap64 (s0_1 + 1),IntKind.u64.wrap ((IntKind.u64.wrap ((IntKind.u64.wrap (s0_2 * 6364136223846793005)) + 0)) + 933933))) else (some (wrap64 (Go.bits .and .u64 ((IntKind.u64.wrap ((IntKind.u64.wrap ((IntKind.u64.wrap (s0_2 * 6364136223846793005)) + 0)) + 933933)) / 1099511627776) 255),wrap64 (s0_1 + 1),IntKind.u64.wrap ((IntKind.u64.wrap ((IntKind.u64.wrap (s0_2 * 6364136223846793005)) + 0)) + 933933))))
theorem spec_l1Cur_next.calls (g:Nat) (s0_0:List Int) (s0_1:Int) (s0_2:Int) (r1:Int) (r2:Int) (r3:Int) (w0 w:World) (hI:IsS96 w0 w g s0_0 s0_1 s0_2) (hB:Below w0.heap.size w0 w) (h:spec_l1Cur_next.f s0_0 s0_1 s0_2 = some (r1,r2,r3)) :
  Calls Try.prog 108 #[.pointer (some ⟨g,0,none⟩)] w fun e w'=>e = .returned (.int .i64 r1) /\ IsS96 w0 w' g s0_0 r2 r3 /\ Below w0.heap.size w0 w' /\ KeepBut w w' g none:=by
 have HI0:=ak hI
 have HK:=ak (KeepBut.refl w g none)
 have HL:=ak hB.size
 clear hI
 have HW0:=ak hB.size
 have HB:=ak hB
 clear hB
 have H:(if s0_1 < (s0_0.length:Int) then (if 0 <= s0_1 then (if (wrap64 (s0_1 + 1)) <= (s0_0.length:Int) then (some (wrap64 (rd s0_0 s0_1),wrap64 (s0_1 + 1),IntKind.u64.wrap ((IntKind.u64.wrap ((IntKind.u64.wrap (s0_2 * 6364136223846793005)) + (IntKind.u64.wrap (wrap64 (rd s0_0 s0_1))))) + 933933))) else (some (wrap64 (Go.bits .and .u64 ((IntKind.u64.wrap ((IntKind.u64.wrap ((IntKind.u64.wrap (s0_2 * 6364136223846793005)) + (IntKind.u64.wrap (wrap64 (rd s0_0 s0_1))))) + 933933)) / 1099511627776) 255),wrap64 (s0_1 + 1),IntKind.u64.wrap ((IntKind.u64.wrap ((IntKind.u64.wrap (s0_2 * 6364136223846793005)) + (IntKind.u64.wrap (wrap64 (rd s0_0 s0_1))))) + 933933)))) else (none)) else (if (wrap64 (s0_1 + 1)) <= (s0_0.length:Int) then (some (0,wrap64 (s0_1 + 1),IntKind.u64.wrap ((IntKind.u64.wrap ((IntKind.u64.wrap (s0_2 * 6364136223846793005)) + 0)) + 933933))) else (some (wrap64 (Go.bits .and .u64 ((IntKind.u64.wrap ((IntKind.u64.wrap ((IntKind.u64.wrap (s0_2 * 6364136223846793005)) + 0)) + 933933)) / 1099511627776) 255),wrap64 (s0_1 + 1),IntKind.u64.wrap ((IntKind.u64.wrap ((IntKind.u64.wrap (s0_2 * 6364136223846793005)) + 0)) + 933933))))) = some (r1,r2,r3):=h
 clear h
 by_cases c2:s0_1 < (s0_0.length:Int)
 .
  rw [if_pos c2] at H
  have c2b0:decide (s0_1 < (s0_0.length:Int)) = true:=decide_eq_true c2
  clear c2
  by_cases c3:0 <= s0_1
  .
   rw [if_pos c3] at H
   have c3b0:decide (0 <= s0_1) = true:=decide_eq_true c3
   clear c3
   by_cases c4:(wrap64 (s0_1 + 1)) <= (s0_0.length:Int)
   .
    rw [if_pos c4] at H
    have c4b0:decide ((wrap64 (s0_1 + 1)) <= (s0_0.length:Int)) = true:=decide_eq_true c4
    clear c4
    simp only [Option.some.injEq,Prod.mk.injEq] at H
    obtain ⟨rfl,rfl,rfl⟩:=H
    obtain ⟨ASz5_0,cSz5_0,HGz5,hgz5,HSz5_0⟩:=HI0.out
    have hcz5_0:=cellS96_0 HGz5
    have hcz5_1:=cellS96_1 HGz5
    have hcz5_2:=cellS96_2 HGz5
    have hfz5_1:=blk_frozen HGz5 1
    have hfz5_2:=blk_frozen HGz5 2
    clear HGz5 hgz5
    have p275:0 <= (s0_1:Int):=dt_
    have q275:s0_1 < (s0_0.length:Int):=dt_
    obtain ⟨ad275,e275,hx275_0⟩:=Kd.at_int HSz5_0 s0_1 p275 q275
    cases e275
    replace hx275_0:=pw_cell_below HB.out hx275_0
    replace p275:=eq_true p275
    replace q275:=eq_true q275
    go_enter Try.func108,Try.ntmps108
    go_wp2
    repeat (go_quiet (fail);try go_wp2)
    go_ret
    (try simp only [Int.add_zero])
    exact ⟨rr_,is96_0 HI0.out,lb1_ HB.out (IsS96.ge HI0.out),kb0_ HK.out⟩
   .
    rw [if_neg c4] at H
    have c4b0:decide ((wrap64 (s0_1 + 1)) <= (s0_0.length:Int)) = false:=decide_eq_false c4
    clear c4
    simp only [Option.some.injEq,Prod.mk.injEq] at H
    obtain ⟨rfl,rfl,rfl⟩:=H
    obtain ⟨ASz6_0,cSz6_0,HGz6,hgz6,HSz6_0⟩:=HI0.out
    have hcz6_0:=cellS96_0 HGz6
    have hcz6_1:=cellS96_1 HGz6
    have hcz6_2:=cellS96_2 HGz6
    have hfz6_1:=blk_frozen HGz6 1
    have hfz6_2:=blk_frozen HGz6 2
    clear HGz6 hgz6
    have p275:0 <= (s0_1:Int):=dt_
    have q275:s0_1 < (s0_0.length:Int):=dt_
    obtain ⟨ad275,e275,hx275_0⟩:=Kd.at_int HSz6_0 s0_1 p275 q275
    cases e275
    replace hx275_0:=pw_cell_below HB.out hx275_0
    replace p275:=eq_true p275
    replace q275:=eq_true q275
    go_enter Try.func108,Try.ntmps108
    go_wp2
    repeat (go_quiet (fail);try go_wp2)
    go_ret
    (try simp only [Int.add_zero])
    exact ⟨rr_,is96_0 HI0.out,lb1_ HB.out (IsS96.ge HI0.out),kb0_ HK.out⟩
  .
   rw [if_neg c3] at H
   exact absurd H (by simp)
 .
  rw [if_neg c2] at H
  have c2b0:decide (s0_1 < (s0_0.length:Int)) = false:=decide_eq_false c2
  clear c2
  by_cases c7:(wrap64 (s0_1 + 1)) <= (s0_0.length:Int)
  .
   rw [if_pos c7] at H
   have c7b0:decide ((wrap64 (s0_1 + 1)) <= (s0_0.length:Int)) = true:=decide_eq_true c7
   clear c7
   simp only [Option.some.injEq,Prod.mk.injEq] at H
   obtain ⟨rfl,rfl,rfl⟩:=H
   obtain ⟨ASz8_0,cSz8_0,HGz8,hgz8,HSz8_0⟩:=HI0.out
   have hcz8_0:=cellS96_0 HGz8
   have hcz8_1:=cellS96_1 HGz8
   have hcz8_2:=cellS96_2 HGz8
   have hfz8_1:=blk_frozen HGz8 1
   have hfz8_2:=blk_frozen HGz8 2
   clear HGz8 hgz8
   go_enter Try.func108,Try.ntmps108
   go_wp2
   repeat (go_quiet (fail);try go_wp2)
   go_ret
   (try simp only [Int.add_zero])
   exact ⟨rr_,is96_0 HI0.out,lb1_ HB.out (IsS96.ge HI0.out),kb0_ HK.out⟩
  .
   rw [if_neg c7] at H
   have c7b0:decide ((wrap64 (s0_1 + 1)) <= (s0_0.length:Int)) = false:=decide_eq_false c7
   clear c7
   simp only [Option.some.injEq,Prod.mk.injEq] at H
   obtain ⟨rfl,rfl,rfl⟩:=H
   obtain ⟨ASz9_0,cSz9_0,HGz9,hgz9,HSz9_0⟩:=HI0.out
   have hcz9_0:=cellS96_0 HGz9
   have hcz9_1:=cellS96_1 HGz9
   have hcz9_2:=cellS96_2 HGz9
   have hfz9_1:=blk_frozen HGz9 1
   have hfz9_2:=blk_frozen HGz9 2
   clear HGz9 hgz9
   go_enter Try.func108,Try.ntmps108
   go_wp2
   repeat (go_quiet (fail);try go_wp2)
   go_ret
   (try simp only [Int.add_zero])
   exact ⟨rr_,is96_0 HI0.out,lb1_ HB.out (IsS96.ge HI0.out),kb0_ HK.out⟩
def spec_l4Plus.f (a0_0:Int) (a0_1:Int) (a0_2:Int) (a1_0:Int) (a1_1:Int) (a1_2:Int) (a2:Int):Option (Int × Int × Int):=some (wrap64 (a0_0 + (wrap64 (a2 * a1_0))),wrap64 (a0_1 + (wrap64 (a2 * a1_1))),wrap64 (a0_2 + (wrap64 (a2 * a1_2))))
theorem spec_l4Plus.calls (a0_0:Int) (a0_1:Int) (a0_2:Int) (a1_0:Int) (a1_1:Int) (a1_2:Int) (a2:Int) (r1:Int) (r2:Int) (r3:Int) (w:World) (h:spec_l4Plus.f a0_0 a0_1 a0_2 a1_0 a1_1 a1_2 a2 = some (r1,r2,r3)) :
  Calls Try.prog 110 #[.agg #[.int .i64 a0_0,.int .i64 a0_1,.int .i64 a0_2],.agg #[.int .i64 a1_0,.int .i64 a1_1,.int .i64 a1_2],.int .i64 a2] w fun e w'=>e = .returned (.agg #[.int .i64 r1,.int .i64 r2,.int .i64 r3]) /\ Below w.heap.size w w':=by
 have hu118:=Try.underlying118
 have HB:=ak (Below.refl w.heap.size w)
 have H:(some (wrap64 (a0_0 + (wrap64 (a2 * a1_0))),wrap64 (a0_1 + (wrap64 (a2 * a1_1))),wrap64 (a0_2 + (wrap64 (a2 * a1_2))))) = some (r1,r2,r3):=h
 clear h
 simp only [Option.some.injEq,Prod.mk.injEq] at H
 obtain ⟨rfl,rfl,rfl⟩:=H
 go_enter Try.func110,Try.ntmps110
 go_wp2_with (first|((with_reducible refine gate_dst (N:=3) rfl ?_);refine box_event ?hg (N:=3) ?hd (cs:=#[.int .i64 a0_0,.int .i64 a0_1,.int .i64 a0_2]) (t:=118) ?hr ?_;(case hd=>rfl);(case hg=>rfl);(case hr=>first|(go_simp;done)|(go_simp;rfl));intro gb379 hg w4 hbox hb;have BK379:=ak (hbox);have GW379:=ak ((bz_ hg (lb0_ HB.out)));have GE379:=ak ((bz_ hg (lb0_ HB.out)));replace HB:=ak (below_step (lb0_ HB.out) hb);clear hb hbox hg)|((with_reducible refine gate_dst (N:=4) rfl ?_);refine box_event ?hg (N:=4) ?hd (cs:=#[.int .i64 a1_0,.int .i64 a1_1,.int .i64 a1_2]) (t:=118) ?hr ?_;(case hd=>rfl);(case hg=>rfl);(case hr=>first|(go_simp;done)|(go_simp;rfl));intro gb380 hg w5 hbox hb;have BK380:=ak (hbox);have GW380:=ak ((bz_ hg (lb1_ HB.out GE379.out)));have GE380:=ak ((bz_ hg (lb1_ HB.out GE379.out)));replace HB:=ak (below_step (lb1_ HB.out GE379.out) hb);have NB379_380:=ak (nl_ hg BK379.out);have NB380_379:=ak (ng_ hg BK379.out);replace BK379:=ak (bb_ (bk_ BK379.out) hb);clear hb hbox hg)|((with_reducible refine gate_dst (N:=6) rfl ?_);refine box_event ?hg (N:=6) ?hd (cs:=#[.int .i64 0,.int .i64 0,.int .i64 0]) (t:=118) ?hr ?_;(case hd=>rfl);(case hg=>rfl);(case hr=>first|(go_simp;done)|(go_simp;rfl));intro gb381 hg w6 hbox hb;have BK381:=ak (hbox);have GW381:=ak ((bz_ hg (lb2_ HB.out GE379.out GE380.out)));have GE381:=ak ((bz_ hg (lb2_ HB.out GE379.out GE380.out)));replace HB:=ak (below_step (lb2_ HB.out GE379.out GE380.out) hb);have NB379_381:=ak (nl_ hg BK379.out);have NB381_379:=ak (ng_ hg BK379.out);replace BK379:=ak (bb_ (bk_ BK379.out) hb);have NB380_381:=ak (nl_ hg BK380.out);have NB381_380:=ak (ng_ hg BK380.out);replace BK380:=ak (bb_ (bk_ BK380.out) hb);clear hb hbox hg;have hnb7:=NB379_380.out;have hnc7:=NB380_379.out;have hnb8:=NB379_381.out;have hnc8:=NB381_379.out;obtain ⟨hcz9_0,hcz9_1,hcz9_2⟩:=cz3_ BK379.out;obtain ⟨hfz9_0,hfz9_1,hfz9_2⟩:=fz3_ BK379.out;have hnb10:=NB380_381.out;have hnc10:=NB381_380.out;obtain ⟨hcz11_0,hcz11_1,hcz11_2⟩:=cz3_ BK380.out;obtain ⟨hfz11_0,hfz11_1,hfz11_2⟩:=fz3_ BK380.out;obtain ⟨hcz12_0,hcz12_1,hcz12_2⟩:=cz3_ BK381.out;obtain ⟨hfz12_0,hfz12_1,hfz12_2⟩:=fz3_ BK381.out))
 refine bodyPost_ret (results_cell_row rfl _ _ gb381 118 #[.int .i64 (wrap64 (a0_0 + (wrap64 (a2 * a1_0)))),.int .i64 (wrap64 (a0_1 + (wrap64 (a2 * a1_1)))),.int .i64 (wrap64 (a0_2 + (wrap64 (a2 * a1_2))))] (0,0) _ rfl (by (with_reducible repeat (first|refine blk_drewN ?_ _|refine blk_drew ?_|refine blk_alloc ?_ _));refine blk_put (cs:=#[.int .i64 (wrap64 (a0_0 + (wrap64 (a2 * a1_0)))),.int .i64 (wrap64 (a0_1 + (wrap64 (a2 * a1_1)))),.int .i64 0]) ?_ 2 _ rfl;(with_reducible repeat (first|refine blk_drewN ?_ _|refine blk_drew ?_|refine blk_alloc ?_ _));refine blk_put (cs:=#[.int .i64 (wrap64 (a0_0 + (wrap64 (a2 * a1_0)))),.int .i64 0,.int .i64 0]) ?_ 1 _ rfl;(with_reducible repeat (first|refine blk_drewN ?_ _|refine blk_drew ?_|refine blk_alloc ?_ _));refine blk_put (cs:=#[.int .i64 0,.int .i64 0,.int .i64 0]) ?_ 0 _ rfl;(with_reducible repeat (first|refine blk_drewN ?_ _|refine blk_drew ?_|refine blk_alloc ?_ _));exact BK381.out) Try.underlying118 rfl (by kernel_rfl)) rfl ?_
 exact ⟨rr_,lb3_ HB.out GE379.out GE380.out GE381.out⟩
def spec_l2Div.f (a0:Int) (a1:Int):Option (Int):=if a0 < 0 then (if (wrap64 (2 * a1)) = 0 then (none) else (some (wrap64 (-(wrap64 (Int.tdiv (wrap64 ((wrap64 ((-2) * a0)) + a1)) (wrap64 (2 * a1)))))))) else (if (wrap64 (2 * a1)) = 0 then (none) else (some (wrap64 (Int.tdiv (wrap64 ((wrap64 (2 * a0)) + a1)) (wrap64 (2 * a1))))))
theorem spec_l2Div.calls (a0:Int) (a1:Int) (r:Int) (w:World) (h:spec_l2Div.f a0 a1 = some r) :
  Calls Try.prog 121 #[.int .i64 a0,.int .i64 a1] w fun e w'=>e = .returned (.int .i64 r) /\ Drawn0 w w':=by
 have H:(if a0 < 0 then (if (wrap64 (2 * a1)) = 0 then (none) else (some (wrap64 (-(wrap64 (Int.tdiv (wrap64 ((wrap64 ((-2) * a0)) + a1)) (wrap64 (2 * a1)))))))) else (if (wrap64 (2 * a1)) = 0 then (none) else (some (wrap64 (Int.tdiv (wrap64 ((wrap64 (2 * a0)) + a1)) (wrap64 (2 * a1))))))) = some r:=h
 clear h
 by_cases c3:a0 < 0
 .
  rw [if_pos c3] at H
  have c3b0:decide (a0 < 0) = true:=decide_eq_true c3
  clear c3
  by_cases c4:(wrap64 (2 * a1)) = 0
  .
   rw [if_pos c4] at H
   exact absurd H (by simp)
  .
   rw [if_neg c4] at H
   have c4b0:((wrap64 (2 * a1)) == 0) = false:=beq_eq_false_iff_ne.mpr c4
   have c4b1:((wrap64 (2 * a1)) != 0) = true:=bne_iff_ne.mpr c4
   obtain rfl:=Option.some.inj H
   go_enter Try.func121,Try.ntmps121
   go_wp2
   go_ret
   exact ⟨by first|rfl|(simp;done)|(simp [*];done),by repeat (first|exact Drawn0.refl _|apply Drawn0.step)⟩
 .
  rw [if_neg c3] at H
  have c3b0:decide (a0 < 0) = false:=decide_eq_false c3
  clear c3
  by_cases c5:(wrap64 (2 * a1)) = 0
  .
   rw [if_pos c5] at H
   exact absurd H (by simp)
  .
   rw [if_neg c5] at H
   have c5b0:((wrap64 (2 * a1)) == 0) = false:=beq_eq_false_iff_ne.mpr c5
   have c5b1:((wrap64 (2 * a1)) != 0) = true:=bne_iff_ne.mpr c5
   obtain rfl:=Option.some.inj H
   go_enter Try.func121,Try.ntmps121
   go_wp2
   go_ret
   exact ⟨by first|rfl|(simp;done)|(simp [*];done),by repeat (first|exact Drawn0.refl _|apply Drawn0.step)⟩
def spec_l2Table.f  : Option (List Int):=some (([0,17,35,52,70,87,105,122,139,156,174,191,208,225,242,259,276,292,309,326,342,358,375,391,407,423,438,454,469,485,500,515,530,545,559,574,588,602,616,629,643,656,669,682,695,707,719,731,743,755,766,777,788,799,809,819,829,839,848,857,866,875,883,891,899,906,914,921,927,934,940,946,951,956,961,966,970,974,978,982,985,988,990,993,995,996,998,999,999,1000,1000]:List Int))
theorem spec_l2Table.calls  (r:List Int) (w:World) (h:spec_l2Table.f  = some r) :
  Calls Try.prog 127 #[] w fun e w'=>∃ v0_:Value,e = .returned (v0_) /\ Kd.R (Kd.int .i64) 3 w' w.heap.size (fun _=>True) v0_ r /\ Below w.heap.size w w':=by
 have HB:=ak (Below.refl w.heap.size w)
 have H:(some (([0,17,35,52,70,87,105,122,139,156,174,191,208,225,242,259,276,292,309,326,342,358,375,391,407,423,438,454,469,485,500,515,530,545,559,574,588,602,616,629,643,656,669,682,695,707,719,731,743,755,766,777,788,799,809,819,829,839,848,857,866,875,883,891,899,906,914,921,927,934,940,946,951,956,961,966,970,974,978,982,985,988,990,993,995,996,998,999,999,1000,1000]:List Int))) = some r:=h
 clear h
 obtain ⟨y382,hy382⟩:∃ y_:List Int,y_ = (([0,17,35,52,70,87,105,122,139,156,174,191,208,225,242,259,276,292,309,326,342,358,375,391,407,423,438,454,469,485,500,515,530,545,559,574,588,602,616,629,643,656,669,682,695,707,719,731,743,755,766,777,788,799,809,819,829,839,848,857,866,875,883,891,899,906,914,921,927,934,940,946,951,956,961,966,970,974,978,982,985,988,990,993,995,996,998,999,999,1000,1000]:List Int)):=⟨_,rfl⟩
 replace H:(some y382) = some r:=by first|(rw [hy382];with_reducible exact H)|(have H2_:=(Option.bind_some _ _).symm.trans H;rw [hy382];with_reducible exact H2_)|(have H2_:=(Option.bind_some _ _).symm.trans H;with_reducible exact H2_)|with_reducible exact H|(rw [hy382];exact H)|exact H
 have Ny382:=ak hy382
 clear hy382
 obtain rfl:=Option.some.inj H
 go_enter Try.func127,Try.ntmps127
 go_wp2_with (first|((with_reducible refine gate_dst (N:=1) rfl ?_);refine Kd.R_lit (Kd.int .i64) _ 3 ?hg (N:=1) ?hd (xs:=([0,17,35,52,70,87,105,122,139,156,174,191,208,225,242,259,276,292,309,326,342,358,375,391,407,423,438,454,469,485,500,515,530,545,559,574,588,602,616,629,643,656,669,682,695,707,719,731,743,755,766,777,788,799,809,819,829,839,848,857,866,875,883,891,899,906,914,921,927,934,940,946,951,956,961,966,970,974,978,982,985,988,990,993,995,996,998,999,999,1000,1000]:List Int)) (inner:=[.int .i64 0,.int .i64 17,.int .i64 35,.int .i64 52,.int .i64 70,.int .i64 87,.int .i64 105,.int .i64 122,.int .i64 139,.int .i64 156,.int .i64 174,.int .i64 191,.int .i64 208,.int .i64 225,.int .i64 242,.int .i64 259,.int .i64 276,.int .i64 292,.int .i64 309,.int .i64 326,.int .i64 342,.int .i64 358,.int .i64 375,.int .i64 391,.int .i64 407,.int .i64 423,.int .i64 438,.int .i64 454,.int .i64 469,.int .i64 485,.int .i64 500,.int .i64 515,.int .i64 530,.int .i64 545,.int .i64 559,.int .i64 574,.int .i64 588,.int .i64 602,.int .i64 616,.int .i64 629,.int .i64 643,.int .i64 656,.int .i64 669,.int .i64 682,.int .i64 695,.int .i64 707,.int .i64 719,.int .i64 731,.int .i64 743,.int .i64 755,.int .i64 766,.int .i64 777,.int .i64 788,.int .i64 799,.int .i64 809,.int .i64 819,.int .i64 829,.int .i64 839,.int .i64 848,.int .i64 857,.int .i64 866,.int .i64 875,.int .i64 883,.int .i64 891,.int .i64 899,.int .i64 906,.int .i64 914,.int .i64 921,.int .i64 927,.int .i64 934,.int .i64 940,.int .i64 946,.int .i64 951,.int .i64 956,.int .i64 961,.int .i64 966,.int .i64 970,.int .i64 974,.int .i64 978,.int .i64 982,.int .i64 985,.int .i64 988,.int .i64 990,.int .i64 993,.int .i64 995,.int .i64 996,.int .i64 998,.int .i64 999,.int .i64 999,.int .i64 1000,.int .i64 1000]) (ok:=fun _=>True) (okp:=fun _=>True) ?hr ?hp (fun _ hk=>hk) trivial (Below.refl _ _) (Nat.le_refl _) (by simp) ?_;(case hd=>rfl);(case hg=>rfl);(case hr=>first|(go_simp;done)|(go_simp;rfl));(case hp=>exact (Reps.one (show Kd.M (Kd.int .i64) _ _ _ 0 [.int .i64 0] from rfl) (Reps.one (show Kd.M (Kd.int .i64) _ _ _ 17 [.int .i64 17] from rfl) (Reps.one (show Kd.M (Kd.int .i64) _ _ _ 35 [.int .i64 35] from rfl) (Reps.one (show Kd.M (Kd.int .i64) _ _ _ 52 [.int .i64 52] from rfl) (Reps.one (show Kd.M (Kd.int .i64) _ _ _ 70 [.int .i64 70] from rfl) (Reps.one (show Kd.M (Kd.int .i64) _ _ _ 87 [.int .i64 87] from rfl) (Reps.one (show Kd.M (Kd.int .i64) _ _ _ 105 [.int .i64 105] from rfl) (Reps.one (show Kd.M (Kd.int .i64) _ _ _ 122 [.int .i64 122] from rfl) (Reps.one (show Kd.M (Kd.int .i64) _ _ _ 139 [.int .i64 139] from rfl) (Reps.one (show Kd.M (Kd.int .i64) _ _ _ 156 [.int .i64 156] from rfl) (Reps.one (show Kd.M (Kd.int .i64) _ _ _ 174 [.int .i64 174] from rfl) (Reps.one (show Kd.M (Kd.int .i64) _ _ _ 191 [.int .i64 191] from rfl) (Reps.one (show Kd.M (Kd.int .i64) _ _ _ 208 [.int .i64 208] from rfl) (Reps.one (show Kd.M (Kd.int .i64) _ _ _ 225 [.int .i64 225] from rfl) (Reps.one (show Kd.M (Kd.int .i64) _ _ _ 242 [.int .i64 242] from rfl) (Reps.one (show Kd.M (Kd.int .i64) _ _ _ 259 [.int .i64 259] from rfl) (Reps.one (show Kd.M (Kd.int .i64) _ _ _ 276 [.int .i64 276] from rfl) (Reps.one (show Kd.M (Kd.int .i64) _ _ _ 292 [.int .i64 292] from rfl) (Reps.one (show Kd.M (Kd.int .i64) _ _ _ 309 [.int .i64 309] from rfl) (Reps.one (show Kd.M (Kd.int .i64) _ _ _ 326 [.int .i64 326] from rfl) (Reps.one (show Kd.M (Kd.int .i64) _ _ _ 342 [.int .i64 342] from rfl) (Reps.one (show Kd.M (Kd.int .i64) _ _ _ 358 [.int .i64 358] from rfl) (Reps.one (show Kd.M (Kd.int .i64) _ _ _ 375 [.int .i64 375] from rfl) (Reps.one (show Kd.M (Kd.int .i64) _ _ _ 391 [.int .i64 391] from rfl) (Reps.one (show Kd.M (Kd.int .i64) _ _ _ 407 [.int .i64 407] from rfl) (Reps.one (show Kd.M (Kd.int .i64) _ _ _ 423 [.int .i64 423] from rfl) (Reps.one (show Kd.M (Kd.int .i64) _ _ _ 438 [.int .i64 438] from rfl) (Reps.one (show Kd.M (Kd.int .i64) _ _ _ 454 [.int .i64 454] from rfl) (Reps.one (show Kd.M (Kd.int .i64) _ _ _ 469 [.int .i64 469] from rfl) (Reps.one (show Kd.M (Kd.int .i64) _ _ _ 485 [.int .i64 485] from rfl) (Reps.one (show Kd.M (Kd.int .i64) _ _ _ 500 [.int .i64 500] from rfl) (Reps.one (show Kd.M (Kd.int .i64) _ _ _ 515 [.int .i64 515] from rfl) (Reps.one (show Kd.M (Kd.int .i64) _ _ _ 530 [.int .i64 530] from rfl) (Reps.one (show Kd.M (Kd.int .i64) _ _ _ 545 [.int .i64 545] from rfl) (Reps.one (show Kd.M (Kd.int .i64) _ _ _ 559 [.int .i64 559] from rfl) (Reps.one (show Kd.M (Kd.int .i64) _ _ _ 574 [.int .i64 574] from rfl) (Reps.one (show Kd.M (Kd.int .i64) _ _ _ 588 [.int .i64 588] from rfl) (Reps.one (show Kd.M (Kd.int .i64) _ _ _ 602 [.int .i64 602] from rfl) (Reps.one (show Kd.M (Kd.int .i64) _ _ _ 616 [.int .i64 616] from rfl) (Reps.one (show Kd.M (Kd.int .i64) _ _ _ 629 [.int .i64 629] from rfl) (Reps.one (show Kd.M (Kd.int .i64) _ _ _ 643 [.int .i64 643] from rfl) (Reps.one (show Kd.M (Kd.int .i64) _ _ _ 656 [.int .i64 656] from rfl) (Reps.one (show Kd.M (Kd.int .i64) _ _ _ 669 [.int .i64 669] from rfl) (Reps.one (show Kd.M (Kd.int .i64) _ _ _ 682 [.int .i64 682] from rfl) (Reps.one (show Kd.M (Kd.int .i64) _ _ _ 695 [.int .i64 695] from rfl) (Reps.one (show Kd.M (Kd.int .i64) _ _ _ 707 [.int .i64 707] from rfl) (Reps.one (show Kd.M (Kd.int .i64) _ _ _ 719 [.int .i64 719] from rfl) (Reps.one (show Kd.M (Kd.int .i64) _ _ _ 731 [.int .i64 731] from rfl) (Reps.one (show Kd.M (Kd.int .i64) _ _ _ 743 [.int .i64 743] from rfl) (Reps.one (show Kd.M (Kd.int .i64) _ _ _ 755 [.int .i64 755] from rfl) (Reps.one (show Kd.M (Kd.int .i64) _ _ _ 766 [.int .i64 766] from rfl) (Reps.one (show Kd.M (Kd.int .i64) _ _ _ 777 [.int .i64 777] from rfl) (Reps.one (show Kd.M (Kd.int .i64) _ _ _ 788 [.int .i64 788] from rfl) (Reps.one (show Kd.M (Kd.int .i64) _ _ _ 799 [.int .i64 799] from rfl) (Reps.one (show Kd.M (Kd.int .i64) _ _ _ 809 [.int .i64 809] from rfl) (Reps.one (show Kd.M (Kd.int .i64) _ _ _ 819 [.int .i64 819] from rfl) (Reps.one (show Kd.M (Kd.int .i64) _ _ _ 829 [.int .i64 829] from rfl) (Reps.one (show Kd.M (Kd.int .i64) _ _ _ 839 [.int .i64 839] from rfl) (Reps.one (show Kd.M (Kd.int .i64) _ _ _ 848 [.int .i64 848] from rfl) (Reps.one (show Kd.M (Kd.int .i64) _ _ _ 857 [.int .i64 857] from rfl) (Reps.one (show Kd.M (Kd.int .i64) _ _ _ 866 [.int .i64 866] from rfl) (Reps.one (show Kd.M (Kd.int .i64) _ _ _ 875 [.int .i64 875] from rfl) (Reps.one (show Kd.M (Kd.int .i64) _ _ _ 883 [.int .i64 883] from rfl) (Reps.one (show Kd.M (Kd.int .i64) _ _ _ 891 [.int .i64 891] from rfl) (Reps.one (show Kd.M (Kd.int .i64) _ _ _ 899 [.int .i64 899] from rfl) (Reps.one (show Kd.M (Kd.int .i64) _ _ _ 906 [.int .i64 906] from rfl) (Reps.one (show Kd.M (Kd.int .i64) _ _ _ 914 [.int .i64 914] from rfl) (Reps.one (show Kd.M (Kd.int .i64) _ _ _ 921 [.int .i64 921] from rfl) (Reps.one (show Kd.M (Kd.int .i64) _ _ _ 927 [.int .i64 927] from rfl) (Reps.one (show Kd.M (Kd.int .i64) _ _ _ 934 [.int .i64 934] from rfl) (Reps.one (show Kd.M (Kd.int .i64) _ _ _ 940 [.int .i64 940] from rfl) (Reps.one (show Kd.M (Kd.int .i64) _ _ _ 946 [.int .i64 946] from rfl) (Reps.one (show Kd.M (Kd.int .i64) _ _ _ 951 [.int .i64 951] from rfl) (Reps.one (show Kd.M (Kd.int .i64) _ _ _ 956 [.int .i64 956] from rfl) (Reps.one (show Kd.M (Kd.int .i64) _ _ _ 961 [.int .i64 961] from rfl) (Reps.one (show Kd.M (Kd.int .i64) _ _ _ 966 [.int .i64 966] from rfl) (Reps.one (show Kd.M (Kd.int .i64) _ _ _ 970 [.int .i64 970] from rfl) (Reps.one (show Kd.M (Kd.int .i64) _ _ _ 974 [.int .i64 974] from rfl) (Reps.one (show Kd.M (Kd.int .i64) _ _ _ 978 [.int .i64 978] from rfl) (Reps.one (show Kd.M (Kd.int .i64) _ _ _ 982 [.int .i64 982] from rfl) (Reps.one (show Kd.M (Kd.int .i64) _ _ _ 985 [.int .i64 985] from rfl) (Reps.one (show Kd.M (Kd.int .i64) _ _ _ 988 [.int .i64 988] from rfl) (Reps.one (show Kd.M (Kd.int .i64) _ _ _ 990 [.int .i64 990] from rfl) (Reps.one (show Kd.M (Kd.int .i64) _ _ _ 993 [.int .i64 993] from rfl) (Reps.one (show Kd.M (Kd.int .i64) _ _ _ 995 [.int .i64 995] from rfl) (Reps.one (show Kd.M (Kd.int .i64) _ _ _ 996 [.int .i64 996] from rfl) (Reps.one (show Kd.M (Kd.int .i64) _ _ _ 998 [.int .i64 998] from rfl) (Reps.one (show Kd.M (Kd.int .i64) _ _ _ 999 [.int .i64 999] from rfl) (Reps.one (show Kd.M (Kd.int .i64) _ _ _ 999 [.int .i64 999] from rfl) (Reps.one (show Kd.M (Kd.int .i64) _ _ _ 1000 [.int .i64 1000] from rfl) (Reps.one (show Kd.M (Kd.int .i64) _ _ _ 1000 [.int .i64 1000] from rfl) (Reps.none _ _)))))))))))))))))))))))))))))))))))))))))))))))))))))))))))))))))))))))))))))))))))))))))))));intro v383 w1 ho2 hb hg_ hnew_;clear hg_ hnew_;replace ho2:=ry_ Ny382.out ho2;have HO384:=ak (Kd.R_lower ho2 (below_size (lb0_ HB.out)));replace HB:=ak (below_step (lb0_ HB.out) hb);clear hb ho2))
 go_ret
 exact ⟨_,rr_,kr_ HO384.out,lb0_ HB.out⟩
def spec_l2Sine.f (a0:Int):Option (Int):=if (Int.tmod (wrap64 ((Int.tmod a0 360) + 360)) 360) <= 90 then ((spec_l2Table.f).bind fun t385=>(if 0 <= (Int.tmod (wrap64 ((Int.tmod a0 360) + 360)) 360) then (if (Int.tmod (wrap64 ((Int.tmod a0 360) + 360)) 360) < (t385.length:Int) then (some (rd t385 (Int.tmod (wrap64 ((Int.tmod a0 360) + 360)) 360))) else (none)) else (none))) else (if (Int.tmod (wrap64 ((Int.tmod a0 360) + 360)) 360) <= 180 then ((spec_l2Table.f).bind fun t389=>(if 0 <= (wrap64 (180 - (Int.tmod (wrap64 ((Int.tmod a0 360) + 360)) 360))) then (if (wrap64 (180 - (Int.tmod (wrap64 ((Int.tmod a0 360) + 360)) 360))) < (t389.length:Int) then (some (rd t389 (wrap64 (180 - (Int.tmod (wrap64 ((Int.tmod a0 360) + 360)) 360))))) else (none)) else (none))) else (if (Int.tmod (wrap64 ((Int.tmod a0 360) + 360)) 360) <= 270 then ((spec_l2Table.f).bind fun t393=>(if 0 <= (wrap64 ((Int.tmod (wrap64 ((Int.tmod a0 360) + 360)) 360) - 180)) then (if (wrap64 ((Int.tmod (wrap64 ((Int.tmod a0 360) + 360)) 360) - 180)) < (t393.length:Int) then (some (wrap64 (-(rd t393 (wrap64 ((Int.tmod (wrap64 ((Int.tmod a0 360) + 360)) 360) - 180)))))) else (none)) else (none))) else ((spec_l2Table.f).bind fun t397=>(if 0 <= (wrap64 (360 - (Int.tmod (wrap64 ((Int.tmod a0 360) + 360)) 360))) then (if (wrap64 (360 - (Int.tmod (wrap64 ((Int.tmod a0 360) + 360)) 360))) < (t397.length:Int) then (some (wrap64 (-(rd t397 (wrap64 (360 - (Int.tmod (wrap64 ((Int.tmod a0 360) + 360)) 360))))))) else (none)) else (none)))))
theorem spec_l2Sine.calls (a0:Int) (r:Int) (w:World) (h:spec_l2Sine.f a0 = some r) :
  Calls Try.prog 123 #[.int .i64 a0] w fun e w'=>e = .returned (.int .i64 r) /\ Below w.heap.size w w':=by
 have HB:=ak (Below.refl w.heap.size w)
 have H:(if (Int.tmod (wrap64 ((Int.tmod a0 360) + 360)) 360) <= 90 then ((spec_l2Table.f).bind fun t385=>(if 0 <= (Int.tmod (wrap64 ((Int.tmod a0 360) + 360)) 360) then (if (Int.tmod (wrap64 ((Int.tmod a0 360) + 360)) 360) < (t385.length:Int) then (some (rd t385 (Int.tmod (wrap64 ((Int.tmod a0 360) + 360)) 360))) else (none)) else (none))) else (if (Int.tmod (wrap64 ((Int.tmod a0 360) + 360)) 360) <= 180 then ((spec_l2Table.f).bind fun t389=>(if 0 <= (wrap64 (180 - (Int.tmod (wrap64 ((Int.tmod a0 360) + 360)) 360))) then (if (wrap64 (180 - (Int.tmod (wrap64 ((Int.tmod a0 360) + 360)) 360))) < (t389.length:Int) then (some (rd t389 (wrap64 (180 - (Int.tmod (wrap64 ((Int.tmod a0 360) + 360)) 360))))) else (none)) else (none))) else (if (Int.tmod (wrap64 ((Int.tmod a0 360) + 360)) 360) <= 270 then ((spec_l2Table.f).bind fun t393=>(if 0 <= (wrap64 ((Int.tmod (wrap64 ((Int.tmod a0 360) + 360)) 360) - 180)) then (if (wrap64 ((Int.tmod (wrap64 ((Int.tmod a0 360) + 360)) 360) - 180)) < (t393.length:Int) then (some (wrap64 (-(rd t393 (wrap64 ((Int.tmod (wrap64 ((Int.tmod a0 360) + 360)) 360) - 180)))))) else (none)) else (none))) else ((spec_l2Table.f).bind fun t397=>(if 0 <= (wrap64 (360 - (Int.tmod (wrap64 ((Int.tmod a0 360) + 360)) 360))) then (if (wrap64 (360 - (Int.tmod (wrap64 ((Int.tmod a0 360) + 360)) 360))) < (t397.length:Int) then (some (wrap64 (-(rd t397 (wrap64 (360 - (Int.tmod (wrap64 ((Int.tmod a0 360) + 360)) 360))))))) else (none)) else (none)))))) = some r:=h
 clear h
 by_cases c2:(Int.tmod (wrap64 ((Int.tmod a0 360) + 360)) 360) <= 90
 .
  rw [if_pos c2] at H
  have c2b0:decide ((Int.tmod (wrap64 ((Int.tmod a0 360) + 360)) 360) <= 90) = true:=decide_eq_true c2
  clear c2
  replace H:=Option.bind_eq_some_iff.mp H
  obtain ⟨t385,A30,H⟩:=H
  replace H:(if 0 <= (Int.tmod (wrap64 ((Int.tmod a0 360) + 360)) 360) then (if (Int.tmod (wrap64 ((Int.tmod a0 360) + 360)) 360) < (t385.length:Int) then (some (rd t385 (Int.tmod (wrap64 ((Int.tmod a0 360) + 360)) 360))) else (none)) else (none)) = some r:=H
  have A3:=ak A30
  clear A30
  obtain ⟨ji4,hji4⟩:∃ j_:Int,(Int.tmod (wrap64 ((Int.tmod a0 360) + 360)) 360) = j_:=⟨_,rfl⟩
  replace H:(if 0 <= (ji4) then (if (ji4) < (t385.length:Int) then (some (rd t385 (ji4))) else (none)) else (none)) = some r:=by first|(rw [hji4] at H;exact H)|(simp only [hji4] at H ⊢;exact H)
  (try rw [hji4] at c2b0)
  (try rw [hji4] at A3)
  by_cases c5:0 <= (ji4)
  .
   rw [if_pos c5] at H
   have c5b0:decide (0 <= (ji4)) = true:=decide_eq_true c5
   clear c5
   by_cases c6:(ji4) < (t385.length:Int)
   .
    rw [if_pos c6] at H
    have c6b0:decide ((ji4) < (t385.length:Int)) = true:=decide_eq_true c6
    clear c6
    obtain rfl:=Option.some.inj H
    go_enter Try.func123,Try.ntmps123
    go_wp2_with (first|((with_reducible refine gate_callee (f:=127) rfl ?_);refine ga_ (some 11) Try.func127 #[] ?_;(with_reducible refine (spec_l2Table.calls  t385 _ A3.out).mono ?_);rintro e w7 ⟨v386,rfl,ho0,hb⟩;refine ⟨_,rfl,?_⟩;have HO387:=ak (Kd.R_lower ho0 (below_size (lb0_ HB.out)));replace HB:=ak (below_step (lb0_ HB.out) hb);(try clear hb);(try clear hb2);(try clear hk);(try clear hi);(try clear ho0);obtain ⟨Ao8,co8,eo8⟩:=Kd.R_slice HO387.out;subst eo8;have p388:0 <= ((ji4):Int):=dt_;have q388:(ji4) < (t385.length:Int):=dt_;obtain ⟨ad388,e388,hx388_0⟩:=Kd.at_int (Kd.R_reads' HO387.out).2.2 (ji4) p388 q388;cases e388;replace p388:=eq_true p388;replace q388:=eq_true q388))
    go_ret
    exact ⟨by first|rfl|(simp [errW_none,errW_some] <;> rfl)|(simp only [<- hji4];first|rfl|(simp [errW_none,errW_some] <;> rfl))|(simp [*,errW_none,errW_some] <;> rfl),lb0_ HB.out⟩
   .
    rw [if_neg c6] at H
    exact absurd H (by simp)
  .
   rw [if_neg c5] at H
   exact absurd H (by simp)
 .
  rw [if_neg c2] at H
  have c2b0:decide ((Int.tmod (wrap64 ((Int.tmod a0 360) + 360)) 360) <= 90) = false:=decide_eq_false c2
  clear c2
  by_cases c9:(Int.tmod (wrap64 ((Int.tmod a0 360) + 360)) 360) <= 180
  .
   rw [if_pos c9] at H
   have c9b0:decide ((Int.tmod (wrap64 ((Int.tmod a0 360) + 360)) 360) <= 180) = true:=decide_eq_true c9
   clear c9
   replace H:=Option.bind_eq_some_iff.mp H
   obtain ⟨t389,A100,H⟩:=H
   replace H:(if 0 <= (wrap64 (180 - (Int.tmod (wrap64 ((Int.tmod a0 360) + 360)) 360))) then (if (wrap64 (180 - (Int.tmod (wrap64 ((Int.tmod a0 360) + 360)) 360))) < (t389.length:Int) then (some (rd t389 (wrap64 (180 - (Int.tmod (wrap64 ((Int.tmod a0 360) + 360)) 360))))) else (none)) else (none)) = some r:=H
   have A10:=ak A100
   clear A100
   obtain ⟨ji11,hji11⟩:∃ j_:Int,(wrap64 (180 - (Int.tmod (wrap64 ((Int.tmod a0 360) + 360)) 360))) = j_:=⟨_,rfl⟩
   replace H:(if 0 <= (ji11) then (if (ji11) < (t389.length:Int) then (some (rd t389 (ji11))) else (none)) else (none)) = some r:=by first|(rw [hji11] at H;exact H)|(simp only [hji11] at H ⊢;exact H)
   (try rw [hji11] at A10)
   have hji11w:(IntKind.i64.wrap (180 - (Int.tmod (wrap64 ((Int.tmod a0 360) + 360)) 360))) = ji11:=(i64_w _).trans hji11
   by_cases c12:0 <= (ji11)
   .
    rw [if_pos c12] at H
    have c12b0:decide (0 <= (ji11)) = true:=decide_eq_true c12
    clear c12
    by_cases c13:(ji11) < (t389.length:Int)
    .
     rw [if_pos c13] at H
     have c13b0:decide ((ji11) < (t389.length:Int)) = true:=decide_eq_true c13
     clear c13
     obtain rfl:=Option.some.inj H
     go_enter Try.func123,Try.ntmps123
     go_wp2_with (first|((with_reducible refine gate_callee (f:=127) rfl ?_);refine ga_ (some 18) Try.func127 #[] ?_;(with_reducible refine (spec_l2Table.calls  t389 _ A10.out).mono ?_);rintro e w14 ⟨v390,rfl,ho0,hb⟩;refine ⟨_,rfl,?_⟩;have HO391:=ak (Kd.R_lower ho0 (below_size (lb0_ HB.out)));replace HB:=ak (below_step (lb0_ HB.out) hb);(try clear hb);(try clear hb2);(try clear hk);(try clear hi);(try clear ho0);obtain ⟨Ao15,co15,eo15⟩:=Kd.R_slice HO391.out;subst eo15;have p392:0 <= ((ji11):Int):=dt_;have q392:(ji11) < (t389.length:Int):=dt_;obtain ⟨ad392,e392,hx392_0⟩:=Kd.at_int (Kd.R_reads' HO391.out).2.2 (ji11) p392 q392;cases e392;replace p392:=eq_true p392;replace q392:=eq_true q392))
     go_ret
     exact ⟨by first|rfl|(simp [errW_none,errW_some] <;> rfl)|(simp only [<- hji11];first|rfl|(simp [errW_none,errW_some] <;> rfl))|(simp [*,errW_none,errW_some] <;> rfl),lb0_ HB.out⟩
    .
     rw [if_neg c13] at H
     exact absurd H (by simp)
   .
    rw [if_neg c12] at H
    exact absurd H (by simp)
  .
   rw [if_neg c9] at H
   have c9b0:decide ((Int.tmod (wrap64 ((Int.tmod a0 360) + 360)) 360) <= 180) = false:=decide_eq_false c9
   clear c9
   by_cases c16:(Int.tmod (wrap64 ((Int.tmod a0 360) + 360)) 360) <= 270
   .
    rw [if_pos c16] at H
    have c16b0:decide ((Int.tmod (wrap64 ((Int.tmod a0 360) + 360)) 360) <= 270) = true:=decide_eq_true c16
    clear c16
    replace H:=Option.bind_eq_some_iff.mp H
    obtain ⟨t393,A170,H⟩:=H
    replace H:(if 0 <= (wrap64 ((Int.tmod (wrap64 ((Int.tmod a0 360) + 360)) 360) - 180)) then (if (wrap64 ((Int.tmod (wrap64 ((Int.tmod a0 360) + 360)) 360) - 180)) < (t393.length:Int) then (some (wrap64 (-(rd t393 (wrap64 ((Int.tmod (wrap64 ((Int.tmod a0 360) + 360)) 360) - 180)))))) else (none)) else (none)) = some r:=H
    have A17:=ak A170
    clear A170
    obtain ⟨ji18,hji18⟩:∃ j_:Int,(wrap64 ((Int.tmod (wrap64 ((Int.tmod a0 360) + 360)) 360) - 180)) = j_:=⟨_,rfl⟩
    replace H:(if 0 <= (ji18) then (if (ji18) < (t393.length:Int) then (some (wrap64 (-(rd t393 (ji18))))) else (none)) else (none)) = some r:=by first|(rw [hji18] at H;exact H)|(simp only [hji18] at H ⊢;exact H)
    (try rw [hji18] at A17)
    have hji18w:(IntKind.i64.wrap ((Int.tmod (wrap64 ((Int.tmod a0 360) + 360)) 360) - 180)) = ji18:=(i64_w _).trans hji18
    by_cases c19:0 <= (ji18)
    .
     rw [if_pos c19] at H
     have c19b0:decide (0 <= (ji18)) = true:=decide_eq_true c19
     clear c19
     by_cases c20:(ji18) < (t393.length:Int)
     .
      rw [if_pos c20] at H
      have c20b0:decide ((ji18) < (t393.length:Int)) = true:=decide_eq_true c20
      clear c20
      obtain rfl:=Option.some.inj H
      go_enter Try.func123,Try.ntmps123
      go_wp2_with (first|((with_reducible refine gate_callee (f:=127) rfl ?_);refine ga_ (some 26) Try.func127 #[] ?_;(with_reducible refine (spec_l2Table.calls  t393 _ A17.out).mono ?_);rintro e w21 ⟨v394,rfl,ho0,hb⟩;refine ⟨_,rfl,?_⟩;have HO395:=ak (Kd.R_lower ho0 (below_size (lb0_ HB.out)));replace HB:=ak (below_step (lb0_ HB.out) hb);(try clear hb);(try clear hb2);(try clear hk);(try clear hi);(try clear ho0);obtain ⟨Ao22,co22,eo22⟩:=Kd.R_slice HO395.out;subst eo22;have p396:0 <= ((ji18):Int):=dt_;have q396:(ji18) < (t393.length:Int):=dt_;obtain ⟨ad396,e396,hx396_0⟩:=Kd.at_int (Kd.R_reads' HO395.out).2.2 (ji18) p396 q396;cases e396;replace p396:=eq_true p396;replace q396:=eq_true q396))
      go_ret
      exact ⟨by first|rfl|(simp [errW_none,errW_some] <;> rfl)|(simp only [<- hji18];first|rfl|(simp [errW_none,errW_some] <;> rfl))|(simp [*,errW_none,errW_some] <;> rfl),lb0_ HB.out⟩
     .
      rw [if_neg c20] at H
      exact absurd H (by simp)
    .
     rw [if_neg c19] at H
     exact absurd H (by simp)
   .
    rw [if_neg c16] at H
    have c16b0:decide ((Int.tmod (wrap64 ((Int.tmod a0 360) + 360)) 360) <= 270) = false:=decide_eq_false c16
    clear c16
    replace H:=Option.bind_eq_some_iff.mp H
    obtain ⟨t397,A230,H⟩:=H
    replace H:(if 0 <= (wrap64 (360 - (Int.tmod (wrap64 ((Int.tmod a0 360) + 360)) 360))) then (if (wrap64 (360 - (Int.tmod (wrap64 ((Int.tmod a0 360) + 360)) 360))) < (t397.length:Int) then (some (wrap64 (-(rd t397 (wrap64 (360 - (Int.tmod (wrap64 ((Int.tmod a0 360) + 360)) 360))))))) else (none)) else (none)) = some r:=H
    have A23:=ak A230
    clear A230
    obtain ⟨ji24,hji24⟩:∃ j_:Int,(wrap64 (360 - (Int.tmod (wrap64 ((Int.tmod a0 360) + 360)) 360))) = j_:=⟨_,rfl⟩
    replace H:(if 0 <= (ji24) then (if (ji24) < (t397.length:Int) then (some (wrap64 (-(rd t397 (ji24))))) else (none)) else (none)) = some r:=by first|(rw [hji24] at H;exact H)|(simp only [hji24] at H ⊢;exact H)
    (try rw [hji24] at A23)
    have hji24w:(IntKind.i64.wrap (360 - (Int.tmod (wrap64 ((Int.tmod a0 360) + 360)) 360))) = ji24:=(i64_w _).trans hji24
    by_cases c25:0 <= (ji24)
    .
     rw [if_pos c25] at H
     have c25b0:decide (0 <= (ji24)) = true:=decide_eq_true c25
     clear c25
     by_cases c26:(ji24) < (t397.length:Int)
     .
      rw [if_pos c26] at H
      have c26b0:decide ((ji24) < (t397.length:Int)) = true:=decide_eq_true c26
      clear c26
      obtain rfl:=Option.some.inj H
      go_enter Try.func123,Try.ntmps123
      go_wp2_with (first|((with_reducible refine gate_callee (f:=127) rfl ?_);refine ga_ (some 32) Try.func127 #[] ?_;(with_reducible refine (spec_l2Table.calls  t397 _ A23.out).mono ?_);rintro e w27 ⟨v398,rfl,ho0,hb⟩;refine ⟨_,rfl,?_⟩;have HO399:=ak (Kd.R_lower ho0 (below_size (lb0_ HB.out)));replace HB:=ak (below_step (lb0_ HB.out) hb);(try clear hb);(try clear hb2);(try clear hk);(try clear hi);(try clear ho0);obtain ⟨Ao28,co28,eo28⟩:=Kd.R_slice HO399.out;subst eo28;have p400:0 <= ((ji24):Int):=dt_;have q400:(ji24) < (t397.length:Int):=dt_;obtain ⟨ad400,e400,hx400_0⟩:=Kd.at_int (Kd.R_reads' HO399.out).2.2 (ji24) p400 q400;cases e400;replace p400:=eq_true p400;replace q400:=eq_true q400))
      go_ret
      exact ⟨by first|rfl|(simp [errW_none,errW_some] <;> rfl)|(simp only [<- hji24];first|rfl|(simp [errW_none,errW_some] <;> rfl))|(simp [*,errW_none,errW_some] <;> rfl),lb0_ HB.out⟩
     .
      rw [if_neg c26] at H
      exact absurd H (by simp)
    .
     rw [if_neg c25] at H
     exact absurd H (by simp)
def spec_l2Cosine.f (a0:Int):Option (Int):=(spec_l2Sine.f (wrap64 (a0 + 90))).bind fun t401=>(some t401)
theorem spec_l2Cosine.calls (a0:Int) (r:Int) (w:World) (h:spec_l2Cosine.f a0 = some r) :
  Calls Try.prog 122 #[.int .i64 a0] w fun e w'=>e = .returned (.int .i64 r) /\ Below w.heap.size w w':=by
 have HB:=ak (Below.refl w.heap.size w)
 have H:((spec_l2Sine.f (wrap64 (a0 + 90))).bind fun t401=>(some t401)) = some r:=h
 clear h
 replace H:=Option.bind_eq_some_iff.mp H
 obtain ⟨t401,A20,H⟩:=H
 replace H:(some t401) = some r:=H
 have A2:=ak A20
 clear A20
 obtain rfl:=Option.some.inj H
 go_enter Try.func122,Try.ntmps122
 go_wp2_with (first|((with_reducible refine gate_callee (f:=123) rfl ?_);refine ga_ (some 5) Try.func123 #[.int .i64 (wrap64 (a0 + 90))] ?_;(with_reducible refine (spec_l2Sine.calls (wrap64 (a0 + 90)) t401 _ A2.out).mono ?_);rintro e w3 ⟨rfl,hb⟩;refine ⟨_,rfl,?_⟩;replace HB:=ak (below_step (lb0_ HB.out) hb);(try clear hb);(try clear hb2);(try clear hk);(try clear hi)))
 go_ret
 exact ⟨rr_,lb0_ HB.out⟩
def spec_l4Shift.f (a0_0:Int) (a0_1:Int) (a0_2:Int) (a0_3:Int) (a0_4:Int):Option (Int × Int × Int):=(spec_l2Cosine.f a0_4).bind fun t404=>((spec_l2Div.f (wrap64 (a0_2 * t404)) 1000).bind fun t405=>((spec_l2Sine.f a0_3).bind fun t406=>((spec_l2Div.f (wrap64 (t405 * t406)) 1000).bind fun t407=>((spec_l2Cosine.f a0_3).bind fun t408=>((spec_l2Div.f (wrap64 (t405 * t408)) 1000).bind fun t409=>((spec_l2Sine.f a0_4).bind fun t410=>((spec_l2Div.f (wrap64 (a0_2 * t410)) 1000).bind fun t411=>(some (t407,t409,t411)))))))))
def spec_l4Shift.T1:Bool × List (List Nat × List Nat):=(true,[([],[]),([0],[0]),([],[]),([2],[2]),([3],[3]),([1,4],[1,4]),([5,4],[5]),([6,6,0,1,2,3,4,5,6],[6])])
def spec_l4Shift.B1:List Nat:=[0,1,0,4,12,31,63,127]
theorem spec_l4Shift.tab1:rtab .any (opsOf Try.f111 1) = spec_l4Shift.T1:=by kernel_rfl
theorem spec_l4Shift.bits1:waitsOk spec_l4Shift.T1.2 spec_l4Shift.B1 = true:=by kernel_rfl
def spec_l4Shift.T2:Bool × List (List Nat × List Nat):=(true,[([],[]),([],[]),([1],[1]),([2],[2]),([0,3],[0,3]),([4,3],[4]),([],[]),([],[]),([7],[7]),([8,5],[8]),([6,9],[6,9]),([10,9],[10]),([],[]),([12],[12]),([],[]),([14],[14]),([15,11],[15]),([13,16],[13,16]),([17,16],[17]),([5,11,18],[5,11,18]),([19,18,0,1,2,3,4,5,6,7,8,9,10,11,12,13,14,15,16,17,18,19],[19])])
def spec_l4Shift.B2:List Nat:=[0,0,2,6,15,31,0,0,128,447,1023,2047,0,4096,0,16384,53247,131071,262143,524287,1048575]
theorem spec_l4Shift.tab2:rtab .any (opsOf Try.f111 2) = spec_l4Shift.T2:=by kernel_rfl
theorem spec_l4Shift.bits2:waitsOk spec_l4Shift.T2.2 spec_l4Shift.B2 = true:=by kernel_rfl
abbrev spec_l4Shift.mk0:Array Bool:=#[fF,fF,fF,fF,fF,fF,fF,fF,fF,fF,fF,fF,fF,fF,fF,fF,fF,fF,fF,fF,fF]
abbrev spec_l4Shift.mk1:Array Bool:=#[tT,fF,fF,fF,fF,fF,fF,fF,fF,fF,fF,fF,fF,fF,fF,fF,fF,fF,fF,fF,fF]
abbrev spec_l4Shift.mk2:Array Bool:=#[tT,tT,fF,fF,fF,fF,fF,fF,fF,fF,fF,fF,fF,fF,fF,fF,fF,fF,fF,fF,fF]
abbrev spec_l4Shift.mk3:Array Bool:=#[tT,tT,fF,fF,fF,fF,tT,fF,fF,fF,fF,fF,fF,fF,fF,fF,fF,fF,fF,fF,fF]
abbrev spec_l4Shift.mk4:Array Bool:=#[tT,tT,fF,fF,fF,fF,tT,tT,fF,fF,fF,fF,fF,fF,fF,fF,fF,fF,fF,fF,fF]
abbrev spec_l4Shift.mk5:Array Bool:=#[tT,tT,fF,fF,fF,fF,tT,tT,fF,fF,fF,fF,tT,fF,fF,fF,fF,fF,fF,fF,fF]
abbrev spec_l4Shift.mk6:Array Bool:=#[tT,tT,fF,fF,fF,fF,tT,tT,fF,fF,fF,fF,tT,fF,tT,fF,fF,fF,fF,fF,fF]
abbrev spec_l4Shift.mk7:Array Bool:=#[tT,tT,tT,fF,fF,fF,tT,tT,fF,fF,fF,fF,tT,fF,tT,fF,fF,fF,fF,fF,fF]
abbrev spec_l4Shift.mk8:Array Bool:=#[tT,tT,tT,fF,fF,fF,tT,tT,tT,fF,fF,fF,tT,fF,tT,fF,fF,fF,fF,fF,fF]
abbrev spec_l4Shift.mk9:Array Bool:=#[tT,tT,tT,fF,fF,fF,tT,tT,tT,fF,fF,fF,tT,tT,tT,fF,fF,fF,fF,fF,fF]
abbrev spec_l4Shift.mk10:Array Bool:=#[tT,tT,tT,fF,fF,fF,tT,tT,tT,fF,fF,fF,tT,tT,tT,tT,fF,fF,fF,fF,fF]
abbrev spec_l4Shift.mk11:Array Bool:=#[tT,tT,tT,tT,fF,fF,tT,tT,tT,fF,fF,fF,tT,tT,tT,tT,fF,fF,fF,fF,fF]
abbrev spec_l4Shift.mk12:Array Bool:=#[tT,tT,tT,tT,tT,fF,tT,tT,tT,fF,fF,fF,tT,tT,tT,tT,fF,fF,fF,fF,fF]
abbrev spec_l4Shift.mk13:Array Bool:=#[tT,tT,tT,tT,tT,tT,tT,tT,tT,fF,fF,fF,tT,tT,tT,tT,fF,fF,fF,fF,fF]
abbrev spec_l4Shift.mk14:Array Bool:=#[tT,tT,tT,tT,tT,tT,tT,tT,tT,tT,fF,fF,tT,tT,tT,tT,fF,fF,fF,fF,fF]
abbrev spec_l4Shift.mk15:Array Bool:=#[tT,tT,tT,tT,tT,tT,tT,tT,tT,tT,tT,fF,tT,tT,tT,tT,fF,fF,fF,fF,fF]
abbrev spec_l4Shift.mk16:Array Bool:=#[tT,tT,tT,tT,tT,tT,tT,tT,tT,tT,tT,tT,tT,tT,tT,tT,fF,fF,fF,fF,fF]
abbrev spec_l4Shift.mk17:Array Bool:=#[tT,tT,tT,tT,tT,tT,tT,tT,tT,tT,tT,tT,tT,tT,tT,tT,tT,fF,fF,fF,fF]
abbrev spec_l4Shift.mk18:Array Bool:=#[tT,tT,tT,tT,tT,tT,tT,tT,tT,tT,tT,tT,tT,tT,tT,tT,tT,tT,fF,fF,fF]
abbrev spec_l4Shift.mk19:Array Bool:=#[tT,tT,tT,tT,tT,tT,tT,tT,tT,tT,tT,tT,tT,tT,tT,tT,tT,tT,tT,fF,fF]
abbrev spec_l4Shift.mk20:Array Bool:=#[tT,tT,tT,tT,tT,tT,tT,tT,tT,tT,tT,tT,tT,tT,tT,tT,tT,tT,tT,tT,fF]
abbrev spec_l4Shift.mk21:Array Bool:=#[tT,tT,tT,tT,tT,tT,tT,tT,tT,tT,tT,tT,tT,tT,tT,tT,tT,tT,tT,tT,tT]
theorem spec_l4Shift.calls (a0_0:Int) (a0_1:Int) (a0_2:Int) (a0_3:Int) (a0_4:Int) (r1:Int) (r2:Int) (r3:Int) (w:World) (h:spec_l4Shift.f a0_0 a0_1 a0_2 a0_3 a0_4 = some (r1,r2,r3)) :
  Calls Try.prog 111 #[.agg #[.int .i64 a0_0,.int .i64 a0_1,.int .i64 a0_2,.int .i64 a0_3,.int .i64 a0_4]] w fun e w'=>e = .returned (.agg #[.int .i64 r1,.int .i64 r2,.int .i64 r3]) /\ Below w.heap.size w w':=by
 have hu37:=Try.underlying37
 have hu118:=Try.underlying118
 have HB:=ak (Below.refl w.heap.size w)
 have H:((spec_l2Cosine.f a0_4).bind fun t404=>((spec_l2Div.f (wrap64 (a0_2 * t404)) 1000).bind fun t405=>((spec_l2Sine.f a0_3).bind fun t406=>((spec_l2Div.f (wrap64 (t405 * t406)) 1000).bind fun t407=>((spec_l2Cosine.f a0_3).bind fun t408=>((spec_l2Div.f (wrap64 (t405 * t408)) 1000).bind fun t409=>((spec_l2Sine.f a0_4).bind fun t410=>((spec_l2Div.f (wrap64 (a0_2 * t410)) 1000).bind fun t411=>(some (t407,t409,t411)))))))))) = some (r1,r2,r3):=h
 clear h
 replace H:=Option.bind_eq_some_iff.mp H
 obtain ⟨t404,A20,H⟩:=H
 replace H:((spec_l2Div.f (wrap64 (a0_2 * t404)) 1000).bind fun t405=>((spec_l2Sine.f a0_3).bind fun t406=>((spec_l2Div.f (wrap64 (t405 * t406)) 1000).bind fun t407=>((spec_l2Cosine.f a0_3).bind fun t408=>((spec_l2Div.f (wrap64 (t405 * t408)) 1000).bind fun t409=>((spec_l2Sine.f a0_4).bind fun t410=>((spec_l2Div.f (wrap64 (a0_2 * t410)) 1000).bind fun t411=>(some (t407,t409,t411))))))))) = some (r1,r2,r3):=H
 have A2:=ak A20
 clear A20
 replace H:=Option.bind_eq_some_iff.mp H
 obtain ⟨t405,A30,H⟩:=H
 replace H:((spec_l2Sine.f a0_3).bind fun t406=>((spec_l2Div.f (wrap64 (t405 * t406)) 1000).bind fun t407=>((spec_l2Cosine.f a0_3).bind fun t408=>((spec_l2Div.f (wrap64 (t405 * t408)) 1000).bind fun t409=>((spec_l2Sine.f a0_4).bind fun t410=>((spec_l2Div.f (wrap64 (a0_2 * t410)) 1000).bind fun t411=>(some (t407,t409,t411)))))))) = some (r1,r2,r3):=H
 have A3:=ak A30
 clear A30
 replace H:=Option.bind_eq_some_iff.mp H
 obtain ⟨t406,A40,H⟩:=H
 replace H:((spec_l2Div.f (wrap64 (t405 * t406)) 1000).bind fun t407=>((spec_l2Cosine.f a0_3).bind fun t408=>((spec_l2Div.f (wrap64 (t405 * t408)) 1000).bind fun t409=>((spec_l2Sine.f a0_4).bind fun t410=>((spec_l2Div.f (wrap64 (a0_2 * t410)) 1000).bind fun t411=>(some (t407,t409,t411))))))) = some (r1,r2,r3):=H
 have A4:=ak A40
 clear A40
 replace H:=Option.bind_eq_some_iff.mp H
 obtain ⟨t407,A50,H⟩:=H
 replace H:((spec_l2Cosine.f a0_3).bind fun t408=>((spec_l2Div.f (wrap64 (t405 * t408)) 1000).bind fun t409=>((spec_l2Sine.f a0_4).bind fun t410=>((spec_l2Div.f (wrap64 (a0_2 * t410)) 1000).bind fun t411=>(some (t407,t409,t411)))))) = some (r1,r2,r3):=H
 have A5:=ak A50
 clear A50
 replace H:=Option.bind_eq_some_iff.mp H
 obtain ⟨t408,A60,H⟩:=H
 replace H:((spec_l2Div.f (wrap64 (t405 * t408)) 1000).bind fun t409=>((spec_l2Sine.f a0_4).bind fun t410=>((spec_l2Div.f (wrap64 (a0_2 * t410)) 1000).bind fun t411=>(some (t407,t409,t411))))) = some (r1,r2,r3):=H
 have A6:=ak A60
 clear A60
 replace H:=Option.bind_eq_some_iff.mp H
 obtain ⟨t409,A70,H⟩:=H
 replace H:((spec_l2Sine.f a0_4).bind fun t410=>((spec_l2Div.f (wrap64 (a0_2 * t410)) 1000).bind fun t411=>(some (t407,t409,t411)))) = some (r1,r2,r3):=H
 have A7:=ak A70
 clear A70
 replace H:=Option.bind_eq_some_iff.mp H
 obtain ⟨t410,A80,H⟩:=H
 replace H:((spec_l2Div.f (wrap64 (a0_2 * t410)) 1000).bind fun t411=>(some (t407,t409,t411))) = some (r1,r2,r3):=H
 have A8:=ak A80
 clear A80
 replace H:=Option.bind_eq_some_iff.mp H
 obtain ⟨t411,A90,H⟩:=H
 replace H:(some (t407,t409,t411)) = some (r1,r2,r3):=H
 have A9:=ak A90
 clear A90
 simp only [Option.some.injEq,Prod.mk.injEq] at H
 obtain ⟨rfl,rfl,rfl⟩:=H
 go_enter Try.func111,Try.ntmps111
 try go_wp2_with (first|((with_reducible refine gate_dst (N:=1) rfl ?_);refine box_event ?hg (N:=1) ?hd (cs:=#[.int .i64 a0_0,.int .i64 a0_1,.int .i64 a0_2,.int .i64 a0_3,.int .i64 a0_4]) (t:=37) ?hr ?_;(case hd=>rfl);(case hg=>rfl);(case hr=>first|(go_simp;done)|(go_simp;rfl));intro gb402 hg w10 hbox hb;have BK402:=ak (hbox);have GW402:=ak ((bz_ hg (lb0_ HB.out)));have GE402:=ak ((bz_ hg (lb0_ HB.out)));replace HB:=ak (below_step (lb0_ HB.out) hb);clear hb hbox hg)|((with_reducible refine gate_dst (N:=2) rfl ?_);refine box_event ?hg (N:=2) ?hd (cs:=#[.int .i64 0,.int .i64 0,.int .i64 0]) (t:=118) ?hr ?_;(case hd=>rfl);(case hg=>rfl);(case hr=>first|(go_simp;done)|(go_simp;rfl));intro gb403 hg w11 hbox hb;have BK403:=ak (hbox);have GW403:=ak ((bz_ hg (lb1_ HB.out GE402.out)));have GE403:=ak ((bz_ hg (lb1_ HB.out GE402.out)));replace HB:=ak (below_step (lb1_ HB.out GE402.out) hb);have NB402_403:=ak (nl_ hg BK402.out);have NB403_402:=ak (ng_ hg BK402.out);replace BK402:=ak (bb_ (bk_ BK402.out) hb);clear hb hbox hg))
 replace BK402:=ak (blk_drew BK402.out)
 replace BK403:=ak (blk_drew BK403.out)
 replace HB:=ak (below_drew1 HB.out)
 refine start_ (n:=8) (S:=fun w'=>w'.cell? ⟨gb402,0,none⟩ = some (.int .i64 a0_0) /\ w'.cell? ⟨gb402,1,none⟩ = some (.int .i64 a0_1) /\ w'.cell? ⟨gb402,2,none⟩ = some (.int .i64 a0_2) /\ w'.cell? ⟨gb402,3,none⟩ = some (.int .i64 a0_3) /\ w'.cell? ⟨gb402,4,none⟩ = some (.int .i64 a0_4)) (ds:=[]) #[fF,fF,fF,fF,fF,fF,fF,fF] (by kernel_rfl) rfl rfl ⟨(blk_cell BK402.out 0).trans rfl,(blk_cell BK402.out 1).trans rfl,(blk_cell BK402.out 2).trans rfl,(blk_cell BK402.out 3).trans rfl,(blk_cell BK402.out 4).trans rfl⟩ (fun hHeld=>?_);refine with_tabW spec_l4Shift.tab1 spec_l4Shift.bits1 (fun HT_ HW_=>?_)
 generalize w11.drew = w12 at BK402 BK403 HB hHeld ⊢
 refine pz_ HT_ 0 (some 4) #[tT,fF,fF,fF,fF,fF,fF,fF] ?_
 refine pz_ HT_ 2 (some 6) #[tT,fF,tT,fF,fF,fF,fF,fF] ?_
 refine tk_ HT_ HW_ hHeld 1 (some 5) #[tT,tT,tT,fF,fF,fF,fF,fF] ?_
 refine tk_ HT_ HW_ hHeld 3 (some 7) #[tT,tT,tT,tT,fF,fF,fF,fF] ?_
 refine one_ (i:=4) (N:=some 8) #[tT,tT,tT,tT,tT,fF,fF,fF] rfl rfl (one_of HT_.out (by kernel_rfl)) (by decide) (fun K hK=>?_)
 refine gs_ Try.func122 #[.int .i64 a0_4] ?_
 with_reducible refine (spec_l2Cosine.calls a0_4 t404 _ A2.out).mono ?_
 rintro e w13 ⟨rfl,hb⟩
 refine ⟨_,rfl,?_⟩
 replace BK402:=ak (bb_ (bk_ BK402.out) hb)
 replace BK403:=ak (bb_ (bk_ BK403.out) hb)
 replace HB:=ak (below_step (lb2_ HB.out GE402.out GE403.out) hb)
 (try clear hb)
 (try clear hb2)
 (try clear hk)
 (try clear hi)
 refine hK.out _ _ ⟨(blk_cell BK402.out 0).trans rfl,(blk_cell BK402.out 1).trans rfl,(blk_cell BK402.out 2).trans rfl,(blk_cell BK402.out 3).trans rfl,(blk_cell BK402.out 4).trans rfl⟩ (fun hHeld=>?_)
 clear hK K
 refine na_ ?_
 refine pz_ HT_ 5 (some 9) #[tT,tT,tT,tT,tT,tT,fF,fF] ?_
 refine one_ (i:=6) (N:=some 10) #[tT,tT,tT,tT,tT,tT,tT,fF] rfl rfl (one_of HT_.out (by kernel_rfl)) (by decide) (fun K hK=>?_)
 refine gs_ Try.func121 #[.int .i64 (wrap64 (a0_2 * t404)),.int .i64 1000] ?_
 with_reducible refine (spec_l2Div.calls (wrap64 (a0_2 * t404)) 1000 t405 _ A3.out).mono ?_
 rintro e w' ⟨rfl,⟨nd,rfl⟩⟩
 refine ⟨_,rfl,?_⟩
 refine hK.out _ _ ⟨(blk_cell BK402.out 0).trans rfl,(blk_cell BK402.out 1).trans rfl,(blk_cell BK402.out 2).trans rfl,(blk_cell BK402.out 3).trans rfl,(blk_cell BK402.out 4).trans rfl⟩ (fun hHeld=>?_)
 clear hK K
 refine na_ ?_
 refine pz_ HT_ 7 (some 3) #[tT,tT,tT,tT,tT,tT,tT,tT] ?_
 refine done_ (done_of HT_.out (by kernel_rfl)) ?_
 try go_wp2
 (try (rw [drewN_self w13];generalize hq_:World.drewN w13 _ = w13;have n0_:Aside0 (w13.heap[gb402]? = some (.cells #[.int .i64 a0_0,.int .i64 a0_1,.int .i64 a0_2,.int .i64 a0_3,.int .i64 a0_4] 37 (0,0))):=⟨by rw [<- hq_];exact (bk_ BK402.out)⟩;have n1_:Aside0 (w13.heap[gb403]? = some (.cells #[.int .i64 0,.int .i64 0,.int .i64 0] 118 (0,0))):=⟨by rw [<- hq_];exact (bk_ BK403.out)⟩;have n2_:Aside0 (Below w.heap.size w w13):=⟨by rw [<- hq_];exact (lb2_ HB.out GE402.out GE403.out)⟩;clear BK402 BK403 HB hq_;have BK402:=n0_;have BK403:=n1_;have HB:=n2_;clear n0_ n1_ n2_))
 replace BK402:=ak (blk_drew BK402.out)
 replace BK403:=ak (blk_drew BK403.out)
 replace HB:=ak (below_drew1 HB.out)
 refine start_ (n:=21) (S:=fun w'=>w'.cell? ⟨gb402,0,none⟩ = some (.int .i64 a0_0) /\ w'.cell? ⟨gb402,1,none⟩ = some (.int .i64 a0_1) /\ w'.cell? ⟨gb402,2,none⟩ = some (.int .i64 a0_2) /\ w'.cell? ⟨gb402,3,none⟩ = some (.int .i64 a0_3) /\ w'.cell? ⟨gb402,4,none⟩ = some (.int .i64 a0_4)) (ds:=[]) spec_l4Shift.mk0 (by kernel_rfl) rfl rfl ⟨(blk_cell BK402.out 0).trans rfl,(blk_cell BK402.out 1).trans rfl,(blk_cell BK402.out 2).trans rfl,(blk_cell BK402.out 3).trans rfl,(blk_cell BK402.out 4).trans rfl⟩ (fun hHeld=>?_);refine with_tabW spec_l4Shift.tab2 spec_l4Shift.bits2 (fun HT_ HW_=>?_)
 generalize w13.drew = w14 at BK402 BK403 HB hHeld ⊢
 refine pz_ HT_ 0 (some 11) spec_l4Shift.mk1 ?_
 refine pz_ HT_ 1 (some 12) spec_l4Shift.mk2 ?_
 refine pz_ HT_ 6 (some 17) spec_l4Shift.mk3 ?_
 refine pz_ HT_ 7 (some 18) spec_l4Shift.mk4 ?_
 refine pz_ HT_ 12 (some 23) spec_l4Shift.mk5 ?_
 refine pz_ HT_ 14 (some 25) spec_l4Shift.mk6 ?_
 refine tk_ HT_ HW_ hHeld 2 (some 13) spec_l4Shift.mk7 ?_
 refine tk_ HT_ HW_ hHeld 8 (some 19) spec_l4Shift.mk8 ?_
 refine tk_ HT_ HW_ hHeld 13 (some 24) spec_l4Shift.mk9 ?_
 refine tk_ HT_ HW_ hHeld 15 (some 26) spec_l4Shift.mk10 ?_
 refine one_ (i:=3) (N:=some 14) spec_l4Shift.mk11 rfl rfl (one_of HT_.out (by kernel_rfl)) (by decide) (fun K hK=>?_)
 refine gs_ Try.func123 #[.int .i64 a0_3] ?_
 with_reducible refine (spec_l2Sine.calls a0_3 t406 _ A4.out).mono ?_
 rintro e w15 ⟨rfl,hb⟩
 refine ⟨_,rfl,?_⟩
 replace BK402:=ak (bb_ (bk_ BK402.out) hb)
 replace BK403:=ak (bb_ (bk_ BK403.out) hb)
 replace HB:=ak (below_step (lb2_ HB.out GE402.out GE403.out) hb)
 (try clear hb)
 (try clear hb2)
 (try clear hk)
 (try clear hi)
 refine hK.out _ _ ⟨(blk_cell BK402.out 0).trans rfl,(blk_cell BK402.out 1).trans rfl,(blk_cell BK402.out 2).trans rfl,(blk_cell BK402.out 3).trans rfl,(blk_cell BK402.out 4).trans rfl⟩ (fun hHeld=>?_)
 clear hK K
 refine na_ ?_
 refine pz_ HT_ 4 (some 15) spec_l4Shift.mk12 ?_
 refine one_ (i:=5) (N:=some 16) spec_l4Shift.mk13 rfl rfl (one_of HT_.out (by kernel_rfl)) (by decide) (fun K hK=>?_)
 refine gs_ Try.func121 #[.int .i64 (wrap64 (t405 * t406)),.int .i64 1000] ?_
 with_reducible refine (spec_l2Div.calls (wrap64 (t405 * t406)) 1000 t407 _ A5.out).mono ?_
 rintro e w' ⟨rfl,⟨nd,rfl⟩⟩
 refine ⟨_,rfl,?_⟩
 refine hK.out _ _ ⟨(blk_cell BK402.out 0).trans rfl,(blk_cell BK402.out 1).trans rfl,(blk_cell BK402.out 2).trans rfl,(blk_cell BK402.out 3).trans rfl,(blk_cell BK402.out 4).trans rfl⟩ (fun hHeld=>?_)
 clear hK K
 refine na_ ?_
 refine one_ (i:=9) (N:=some 20) spec_l4Shift.mk14 rfl rfl (one_of HT_.out (by kernel_rfl)) (by decide) (fun K hK=>?_)
 refine gs_ Try.func122 #[.int .i64 a0_3] ?_
 with_reducible refine (spec_l2Cosine.calls a0_3 t408 _ A6.out).mono ?_
 rintro e w16 ⟨rfl,hb⟩
 refine ⟨_,rfl,?_⟩
 replace BK402:=ak (bb_ (bk_ BK402.out) hb)
 replace BK403:=ak (bb_ (bk_ BK403.out) hb)
 replace HB:=ak (below_step (lb2_ HB.out GE402.out GE403.out) hb)
 (try clear hb)
 (try clear hb2)
 (try clear hk)
 (try clear hi)
 refine hK.out _ _ ⟨(blk_cell BK402.out 0).trans rfl,(blk_cell BK402.out 1).trans rfl,(blk_cell BK402.out 2).trans rfl,(blk_cell BK402.out 3).trans rfl,(blk_cell BK402.out 4).trans rfl⟩ (fun hHeld=>?_)
 clear hK K
 refine na_ ?_
 refine pz_ HT_ 10 (some 21) spec_l4Shift.mk15 ?_
 refine one_ (i:=11) (N:=some 22) spec_l4Shift.mk16 rfl rfl (one_of HT_.out (by kernel_rfl)) (by decide) (fun K hK=>?_)
 refine gs_ Try.func121 #[.int .i64 (wrap64 (t405 * t408)),.int .i64 1000] ?_
 with_reducible refine (spec_l2Div.calls (wrap64 (t405 * t408)) 1000 t409 _ A7.out).mono ?_
 rintro e w' ⟨rfl,⟨nd,rfl⟩⟩
 refine ⟨_,rfl,?_⟩
 refine hK.out _ _ ⟨(blk_cell BK402.out 0).trans rfl,(blk_cell BK402.out 1).trans rfl,(blk_cell BK402.out 2).trans rfl,(blk_cell BK402.out 3).trans rfl,(blk_cell BK402.out 4).trans rfl⟩ (fun hHeld=>?_)
 clear hK K
 refine na_ ?_
 refine one_ (i:=16) (N:=some 27) spec_l4Shift.mk17 rfl rfl (one_of HT_.out (by kernel_rfl)) (by decide) (fun K hK=>?_)
 refine gs_ Try.func123 #[.int .i64 a0_4] ?_
 with_reducible refine (spec_l2Sine.calls a0_4 t410 _ A8.out).mono ?_
 rintro e w17 ⟨rfl,hb⟩
 refine ⟨_,rfl,?_⟩
 replace BK402:=ak (bb_ (bk_ BK402.out) hb)
 replace BK403:=ak (bb_ (bk_ BK403.out) hb)
 replace HB:=ak (below_step (lb2_ HB.out GE402.out GE403.out) hb)
 (try clear hb)
 (try clear hb2)
 (try clear hk)
 (try clear hi)
 refine hK.out _ _ ⟨(blk_cell BK402.out 0).trans rfl,(blk_cell BK402.out 1).trans rfl,(blk_cell BK402.out 2).trans rfl,(blk_cell BK402.out 3).trans rfl,(blk_cell BK402.out 4).trans rfl⟩ (fun hHeld=>?_)
 clear hK K
 refine na_ ?_
 refine pz_ HT_ 17 (some 28) spec_l4Shift.mk18 ?_
 refine one_ (i:=18) (N:=some 29) spec_l4Shift.mk19 rfl rfl (one_of HT_.out (by kernel_rfl)) (by decide) (fun K hK=>?_)
 refine gs_ Try.func121 #[.int .i64 (wrap64 (a0_2 * t410)),.int .i64 1000] ?_
 with_reducible refine (spec_l2Div.calls (wrap64 (a0_2 * t410)) 1000 t411 _ A9.out).mono ?_
 rintro e w' ⟨rfl,⟨nd,rfl⟩⟩
 refine ⟨_,rfl,?_⟩
 refine hK.out _ _ ⟨(blk_cell BK402.out 0).trans rfl,(blk_cell BK402.out 1).trans rfl,(blk_cell BK402.out 2).trans rfl,(blk_cell BK402.out 3).trans rfl,(blk_cell BK402.out 4).trans rfl⟩ (fun hHeld=>?_)
 clear hK K
 refine na_ ?_
 refine pz_ HT_ 19 (some 30) spec_l4Shift.mk20 ?_
 refine one_ (i:=20) (N:=none) spec_l4Shift.mk21 rfl rfl (one_of HT_.out (by kernel_rfl)) (by decide) (fun K hK=>?_)
 have hs18:w17.cell? ⟨gb403,0,none⟩ = some (.int .i64 0):=(blk_cell BK403.out 0).trans rfl
 have hfs18:=blk_frozen BK403.out 0
 have hns18_0:=NB402_403.out
 have hms18_0:=NB403_402.out
 have hs19:w17.cell? ⟨gb403,1,none⟩ = some (.int .i64 0):=(blk_cell BK403.out 1).trans rfl
 have hfs19:=blk_frozen BK403.out 1
 have hns19_0:=NB402_403.out
 have hms19_0:=NB403_402.out
 have hs20:w17.cell? ⟨gb403,2,none⟩ = some (.int .i64 0):=(blk_cell BK403.out 2).trans rfl
 have hfs20:=blk_frozen BK403.out 2
 have hns20_0:=NB402_403.out
 have hms20_0:=NB403_402.out
 refine skip_ (w1:=?_) (by rfl) rfl ?_ ?_
 rotate_left
 .
  go_simp
  rfl
 refine hK.out _ _ ⟨((cell_far (p:=⟨gb403,_,none⟩) NB402_403.out _).trans (((cell_far (p:=⟨gb403,_,none⟩) NB402_403.out _).trans (((cell_far (p:=⟨gb403,_,none⟩) NB402_403.out _).trans (hHeld.1)))))),((cell_far (p:=⟨gb403,_,none⟩) NB402_403.out _).trans (((cell_far (p:=⟨gb403,_,none⟩) NB402_403.out _).trans (((cell_far (p:=⟨gb403,_,none⟩) NB402_403.out _).trans (hHeld.2.1)))))),((cell_far (p:=⟨gb403,_,none⟩) NB402_403.out _).trans (((cell_far (p:=⟨gb403,_,none⟩) NB402_403.out _).trans (((cell_far (p:=⟨gb403,_,none⟩) NB402_403.out _).trans (hHeld.2.2.1)))))),((cell_far (p:=⟨gb403,_,none⟩) NB402_403.out _).trans (((cell_far (p:=⟨gb403,_,none⟩) NB402_403.out _).trans (((cell_far (p:=⟨gb403,_,none⟩) NB402_403.out _).trans (hHeld.2.2.2.1)))))),((cell_far (p:=⟨gb403,_,none⟩) NB402_403.out _).trans (((cell_far (p:=⟨gb403,_,none⟩) NB402_403.out _).trans (((cell_far (p:=⟨gb403,_,none⟩) NB402_403.out _).trans (hHeld.2.2.2.2))))))⟩ (fun hHeld=>?_)
 clear hK K
 refine done_ (done_of HT_.out (by kernel_rfl)) ?_
 try go_wp2
 refine bodyPost_ret (results_cell_row rfl _ _ gb403 118 #[.int .i64 t407,.int .i64 t409,.int .i64 t411] (0,0) _ rfl (by (with_reducible repeat (first|refine blk_drewN ?_ _|refine blk_drew ?_|refine blk_alloc ?_ _));refine blk_put (cs:=#[.int .i64 t407,.int .i64 t409,.int .i64 0]) ?_ 2 _ rfl;(with_reducible repeat (first|refine blk_drewN ?_ _|refine blk_drew ?_|refine blk_alloc ?_ _));refine blk_put (cs:=#[.int .i64 t407,.int .i64 0,.int .i64 0]) ?_ 1 _ rfl;(with_reducible repeat (first|refine blk_drewN ?_ _|refine blk_drew ?_|refine blk_alloc ?_ _));refine blk_put (cs:=#[.int .i64 0,.int .i64 0,.int .i64 0]) ?_ 0 _ rfl;(with_reducible repeat (first|refine blk_drewN ?_ _|refine blk_drew ?_|refine blk_alloc ?_ _));exact BK403.out) Try.underlying118 rfl (by kernel_rfl)) rfl ?_
 exact ⟨rr_,lb2_ HB.out GE402.out GE403.out⟩
def spec_l4Reverse.f (a0_0:Int) (a0_1:Int) (a0_2:Int) (a0_3:Int) (a0_4:Int):Option (Int × Int × Int × Int × Int):=some (a0_1,a0_0,a0_2,Int.tmod (wrap64 (a0_3 + 180)) 360,wrap64 (-a0_4))
theorem spec_l4Reverse.calls (a0_0:Int) (a0_1:Int) (a0_2:Int) (a0_3:Int) (a0_4:Int) (r1:Int) (r2:Int) (r3:Int) (r4:Int) (r5:Int) (w:World) (h:spec_l4Reverse.f a0_0 a0_1 a0_2 a0_3 a0_4 = some (r1,r2,r3,r4,r5)) :
  Calls Try.prog 112 #[.agg #[.int .i64 a0_0,.int .i64 a0_1,.int .i64 a0_2,.int .i64 a0_3,.int .i64 a0_4]] w fun e w'=>e = .returned (.agg #[.int .i64 r1,.int .i64 r2,.int .i64 r3,.int .i64 r4,.int .i64 r5]) /\ Below w.heap.size w w':=by
 have hu37:=Try.underlying37
 have HB:=ak (Below.refl w.heap.size w)
 have H:(some (a0_1,a0_0,a0_2,Int.tmod (wrap64 (a0_3 + 180)) 360,wrap64 (-a0_4))) = some (r1,r2,r3,r4,r5):=h
 clear h
 simp only [Option.some.injEq,Prod.mk.injEq] at H
 obtain ⟨rfl,rfl,rfl,rfl,rfl⟩:=H
 go_enter Try.func112,Try.ntmps112
 go_wp2_with (first|((with_reducible refine gate_dst (N:=1) rfl ?_);refine box_event ?hg (N:=1) ?hd (cs:=#[.int .i64 a0_0,.int .i64 a0_1,.int .i64 a0_2,.int .i64 a0_3,.int .i64 a0_4]) (t:=37) ?hr ?_;(case hd=>rfl);(case hg=>rfl);(case hr=>first|(go_simp;done)|(go_simp;rfl));intro gb412 hg w2 hbox hb;have BK412:=ak (hbox);have GW412:=ak ((bz_ hg (lb0_ HB.out)));have GE412:=ak ((bz_ hg (lb0_ HB.out)));replace HB:=ak (below_step (lb0_ HB.out) hb);clear hb hbox hg)|((with_reducible refine gate_dst (N:=2) rfl ?_);refine box_event ?hg (N:=2) ?hd (cs:=#[.int .i64 0,.int .i64 0,.int .i64 0,.int .i64 0,.int .i64 0]) (t:=37) ?hr ?_;(case hd=>rfl);(case hg=>rfl);(case hr=>first|(go_simp;done)|(go_simp;rfl));intro gb413 hg w3 hbox hb;have BK413:=ak (hbox);have GW413:=ak ((bz_ hg (lb1_ HB.out GE412.out)));have GE413:=ak ((bz_ hg (lb1_ HB.out GE412.out)));replace HB:=ak (below_step (lb1_ HB.out GE412.out) hb);have NB412_413:=ak (nl_ hg BK412.out);have NB413_412:=ak (ng_ hg BK412.out);replace BK412:=ak (bb_ (bk_ BK412.out) hb);clear hb hbox hg;have hnb4:=NB412_413.out;have hnc4:=NB413_412.out;obtain ⟨hcz5_0,hcz5_1,hcz5_2,hcz5_3,hcz5_4⟩:=cz5_ BK412.out;obtain ⟨hfz5_0,hfz5_1,hfz5_2,hfz5_3,hfz5_4⟩:=fz5_ BK412.out;obtain ⟨hcz6_0,hcz6_1,hcz6_2,hcz6_3,hcz6_4⟩:=cz5_ BK413.out;obtain ⟨hfz6_0,hfz6_1,hfz6_2,hfz6_3,hfz6_4⟩:=fz5_ BK413.out))
 refine bodyPost_ret (results_cell_row rfl _ _ gb413 37 #[.int .i64 a0_1,.int .i64 a0_0,.int .i64 a0_2,.int .i64 (Int.tmod (wrap64 (a0_3 + 180)) 360),.int .i64 (wrap64 (-a0_4))] (0,0) _ rfl (by (with_reducible repeat (first|refine blk_drewN ?_ _|refine blk_drew ?_|refine blk_alloc ?_ _));refine blk_put (cs:=#[.int .i64 a0_1,.int .i64 a0_0,.int .i64 a0_2,.int .i64 (Int.tmod (wrap64 (a0_3 + 180)) 360),.int .i64 0]) ?_ 4 _ rfl;(with_reducible repeat (first|refine blk_drewN ?_ _|refine blk_drew ?_|refine blk_alloc ?_ _));refine blk_put (cs:=#[.int .i64 a0_1,.int .i64 a0_0,.int .i64 a0_2,.int .i64 0,.int .i64 0]) ?_ 3 _ rfl;(with_reducible repeat (first|refine blk_drewN ?_ _|refine blk_drew ?_|refine blk_alloc ?_ _));refine blk_put (cs:=#[.int .i64 a0_1,.int .i64 a0_0,.int .i64 0,.int .i64 0,.int .i64 0]) ?_ 2 _ rfl;(with_reducible repeat (first|refine blk_drewN ?_ _|refine blk_drew ?_|refine blk_alloc ?_ _));refine blk_put (cs:=#[.int .i64 a0_1,.int .i64 0,.int .i64 0,.int .i64 0,.int .i64 0]) ?_ 1 _ rfl;(with_reducible repeat (first|refine blk_drewN ?_ _|refine blk_drew ?_|refine blk_alloc ?_ _));refine blk_put (cs:=#[.int .i64 0,.int .i64 0,.int .i64 0,.int .i64 0,.int .i64 0]) ?_ 0 _ rfl;(with_reducible repeat (first|refine blk_drewN ?_ _|refine blk_drew ?_|refine blk_alloc ?_ _));exact BK413.out) Try.underlying37 rfl (by kernel_rfl)) rfl ?_
 exact ⟨rr_,lb2_ HB.out GE412.out GE413.out⟩
def spec_l2Long.f (a0:Int):Option (Bool):=(spec_l1In.f a0 (-100000) 100000).bind fun t414=>(some t414)
theorem spec_l2Long.calls (a0:Int) (r:Bool) (w:World) (h:spec_l2Long.f a0 = some r) :
  Calls Try.prog 124 #[.int .i64 a0] w fun e w'=>e = .returned (.bool r) /\ Drawn0 w w':=by
 have H:((spec_l1In.f a0 (-100000) 100000).bind fun t414=>(some t414)) = some r:=h
 clear h
 replace H:=Option.bind_eq_some_iff.mp H
 obtain ⟨t414,A20,H⟩:=H
 replace H:(some t414) = some r:=H
 have A2:=ak A20
 clear A20
 obtain rfl:=Option.some.inj H
 go_enter Try.func124,Try.ntmps124
 go_wp2_with (first|((with_reducible refine gate_callee (f:=101) rfl ?_);refine ga_ (some 4) Try.func101 #[.int .i64 a0,.int .i64 (-100000),.int .i64 100000] ?_;(with_reducible refine (spec_l1In.calls a0 (-100000) 100000 t414 _ A2.out).mono ?_);rintro e w' ⟨rfl,⟨nd,rfl⟩⟩;refine ⟨_,rfl,?_⟩))
 go_ret
 exact ⟨by first|rfl|(simp;done)|(simp [*];done),by repeat (first|exact Drawn0.refl _|apply Drawn0.step)⟩
mutual
def spec_LengthOf.j0:Nat -> Int -> Int -> Int -> Bool -> Option (Int × Bool)
 | 0,_,_,_,_=>none
 | k + 1,x0,x1,x2,x24=>if x24 = true then (some (0,false)) else (spec_LengthOf.l0 k (wrap64 ((wrap64 ((wrap64 (x0 * x0)) + (wrap64 (x1 * x1)))) + (wrap64 (x2 * x2)))) 0 200000)
def spec_LengthOf.l0:Nat -> Int -> Int -> Int -> Option (Int × Bool)
 | 0,_,_,_=>none
 | k + 1,x8,x9,x10=>if x9 < x10 then (if (wrap64 ((wrap64 (Int.tdiv (wrap64 ((wrap64 (x9 + x10)) + 1)) 2)) * (wrap64 (Int.tdiv (wrap64 ((wrap64 (x9 + x10)) + 1)) 2)))) <= x8 then (spec_LengthOf.l0 k x8 (wrap64 (Int.tdiv (wrap64 ((wrap64 (x9 + x10)) + 1)) 2)) x10) else (spec_LengthOf.l0 k x8 x9 (wrap64 ((wrap64 (Int.tdiv (wrap64 ((wrap64 (x9 + x10)) + 1)) 2)) - 1)))) else (some (x9,true))
end
def spec_LengthOf.f (k:Nat) (a0:Int) (a1:Int) (a2:Int):Option (Int × Bool):=(spec_l2Long.f a0).bind fun t415=>(if t415 = true then ((spec_l2Long.f a1).bind fun t416=>(if t416 = true then ((spec_l2Long.f a2).bind fun t417=>(spec_LengthOf.j0 k a0 a1 a2 (!t417))) else (spec_LengthOf.j0 k a0 a1 a2 true))) else (spec_LengthOf.j0 k a0 a1 a2 true))
theorem spec_LengthOf.calls (k:Nat) (a0:Int) (a1:Int) (a2:Int) (r1:Int) (r2:Bool) (w:World) (h:spec_LengthOf.f k a0 a1 a2 = some (r1,r2)) :
  Calls Try.prog 113 #[.int .i64 a0,.int .i64 a1,.int .i64 a2] w fun e w'=>e = .returned (.tuple #[.int .i64 r1,.bool r2]) /\ Drawn0 w w':=by
 have H:((spec_l2Long.f a0).bind fun t415=>(if t415 = true then ((spec_l2Long.f a1).bind fun t416=>(if t416 = true then ((spec_l2Long.f a2).bind fun t417=>(spec_LengthOf.j0 k a0 a1 a2 (!t417))) else (spec_LengthOf.j0 k a0 a1 a2 true))) else (spec_LengthOf.j0 k a0 a1 a2 true))) = some (r1,r2):=h
 clear h
 have HC4:=ak H
 clear H
 go_enter Try.func113,Try.ntmps113
 go_upto_region 1 with (fail)
 go_cut [24] (fun v24 wc=>∃ (kq:Nat) (x24_3:Bool),v24 = .bool x24_3 /\ Aside0 (spec_LengthOf.j0 kq a0 a1 a2 x24_3 = some (r1,r2)) /\ Aside0 (kq <= k) /\ Drawn0 w wc)
 case first=>
  have H:=HC4.out
  clear HC4
  replace H:=Option.bind_eq_some_iff.mp H
  obtain ⟨t415,A50,H⟩:=H
  replace H:(if t415 = true then ((spec_l2Long.f a1).bind fun t416=>(if t416 = true then ((spec_l2Long.f a2).bind fun t417=>(spec_LengthOf.j0 k a0 a1 a2 (!t417))) else (spec_LengthOf.j0 k a0 a1 a2 true))) else (spec_LengthOf.j0 k a0 a1 a2 true)) = some (r1,r2):=H
  have A5:=ak A50
  clear A50
  by_cases c6:t415 = true
  .
   subst c6
   have H1:((spec_l2Long.f a1).bind fun t416=>(if t416 = true then ((spec_l2Long.f a2).bind fun t417=>(spec_LengthOf.j0 k a0 a1 a2 (!t417))) else (spec_LengthOf.j0 k a0 a1 a2 true))) = some (r1,r2):=by rw [if_pos rfl] at H;exact H
   clear H
   have H:=H1
   clear H1
   replace H:=Option.bind_eq_some_iff.mp H
   obtain ⟨t416,A70,H⟩:=H
   replace H:(if t416 = true then ((spec_l2Long.f a2).bind fun t417=>(spec_LengthOf.j0 k a0 a1 a2 (!t417))) else (spec_LengthOf.j0 k a0 a1 a2 true)) = some (r1,r2):=H
   have A7:=ak A70
   clear A70
   by_cases c8:t416 = true
   .
    subst c8
    have H1:((spec_l2Long.f a2).bind fun t417=>(spec_LengthOf.j0 k a0 a1 a2 (!t417))) = some (r1,r2):=by rw [if_pos rfl] at H;exact H
    clear H
    have H:=H1
    clear H1
    replace H:=Option.bind_eq_some_iff.mp H
    obtain ⟨t417,A90,H⟩:=H
    replace H:(spec_LengthOf.j0 k a0 a1 a2 (!t417)) = some (r1,r2):=H
    have A9:=ak A90
    clear A90
    have H':=ak H
    clear H
    go_wp2_with (first|((with_reducible refine gate_callee (f:=124) rfl ?_);refine ga_ (some 13) Try.func124 #[.int .i64 a0] ?_;(with_reducible refine (spec_l2Long.calls a0 true _ A5.out).mono ?_);rintro e w' ⟨rfl,⟨nd,rfl⟩⟩;refine ⟨_,rfl,?_⟩)|(go_at_call 124;(with_reducible refine (spec_l2Long.calls a1 true _ A7.out).mono ?_);rintro e w' ⟨rfl,⟨nd,rfl⟩⟩)|(go_at_call 124;(with_reducible refine (spec_l2Long.calls a2 t417 _ A9.out).mono ?_);rintro e w' ⟨rfl,⟨nd,rfl⟩⟩))
    go_meet
    case rel=>exact ⟨_,(!t417),(by first|rfl|(simp;done)|(simp [*];done)),H',⟨by first|omega|exact Nat.le_refl _⟩,by repeat (first|exact Drawn0.refl _|apply Drawn0.step)⟩
   .
    replace c8:=Bool.eq_false_iff.mpr c8
    subst c8
    have H1:(spec_LengthOf.j0 k a0 a1 a2 true) = some (r1,r2):=by rw [if_neg (show ¬ (false = true) by decide)] at H;exact H
    clear H
    have H:=H1
    clear H1
    have H':=ak H
    clear H
    go_wp2_with (first|((with_reducible refine gate_callee (f:=124) rfl ?_);refine ga_ (some 13) Try.func124 #[.int .i64 a0] ?_;(with_reducible refine (spec_l2Long.calls a0 true _ A5.out).mono ?_);rintro e w' ⟨rfl,⟨nd,rfl⟩⟩;refine ⟨_,rfl,?_⟩)|(go_at_call 124;(with_reducible refine (spec_l2Long.calls a1 false _ A7.out).mono ?_);rintro e w' ⟨rfl,⟨nd,rfl⟩⟩))
    go_meet
    case rel=>exact ⟨_,(true),(by first|rfl|(simp;done)|(simp [*];done)),H',⟨by first|omega|exact Nat.le_refl _⟩,by repeat (first|exact Drawn0.refl _|apply Drawn0.step)⟩
  .
   replace c6:=Bool.eq_false_iff.mpr c6
   subst c6
   have H1:(spec_LengthOf.j0 k a0 a1 a2 true) = some (r1,r2):=by rw [if_neg (show ¬ (false = true) by decide)] at H;exact H
   clear H
   have H:=H1
   clear H1
   have H':=ak H
   clear H
   go_wp2_with (first|((with_reducible refine gate_callee (f:=124) rfl ?_);refine ga_ (some 13) Try.func124 #[.int .i64 a0] ?_;(with_reducible refine (spec_l2Long.calls a0 false _ A5.out).mono ?_);rintro e w' ⟨rfl,⟨nd,rfl⟩⟩;refine ⟨_,rfl,?_⟩))
   go_meet
   case rel=>exact ⟨_,(true),(by first|rfl|(simp;done)|(simp [*];done)),H',⟨by first|omega|exact Nat.le_refl _⟩,by repeat (first|exact Drawn0.refl _|apply Drawn0.step)⟩
 case rest=>
  clear HC4
  try clear c1
  try clear p2
  try clear c6
  try clear c8
  obtain ⟨kq,x24_3,rfl,HA,HJ3,⟨mc3,rfl⟩⟩:=hcut
  cases kq with
  | zero=>exact absurd HA.out (by simp [spec_LengthOf.j0])
  | succ kj3=>
   have H:=HA.out
   clear HA
   simp only [spec_LengthOf.j0] at H
   by_cases c10:x24_3 = true
   .
    subst c10
    have H1:(some (0,false)) = some (r1,r2):=by rw [if_pos rfl] at H;exact H
    clear H
    have H:=H1
    clear H1
    simp only [Option.some.injEq,Prod.mk.injEq] at H
    obtain ⟨rfl,rfl⟩:=H
    go_wp2
    go_ret2
    exact ⟨by first|rfl|(simp;done)|(simp [*];done),by repeat (first|exact Drawn0.refl _|apply Drawn0.step)⟩
   .
    replace c10:=Bool.eq_false_iff.mpr c10
    subst c10
    have H1:(spec_LengthOf.l0 kj3 (wrap64 ((wrap64 ((wrap64 (a0 * a0)) + (wrap64 (a1 * a1)))) + (wrap64 (a2 * a2)))) 0 200000) = some (r1,r2):=by rw [if_neg (show ¬ (false = true) by decide)] at H;exact H
    clear H
    have H:=H1
    clear H1
    have H':=ak H
    clear H
    go_wp2
    go_loopg [9,10] kj3 (fun kq v9 v10 w'=>∃ (x9_2:Int) (x10_2:Int),v9 = .int .i64 x9_2 /\ v10 = .int .i64 x10_2 /\ Aside0 (spec_LengthOf.l0 kq (wrap64 ((wrap64 ((wrap64 (a0 * a0)) + (wrap64 (a1 * a1)))) + (wrap64 (a2 * a2)))) x9_2 x10_2 = some (r1,r2)) /\ Aside0 (kq <= kj3) /\ Drawn0 w w')
    case atStart=>exact ⟨(0),(200000),(by first|rfl|(simp;done)|(simp [*];done)),(by first|rfl|(simp;done)|(simp [*];done)),H',⟨Nat.le_refl _⟩,by repeat (first|exact Drawn0.refl _|apply Drawn0.step)⟩
    case round=>
     clear H'
     try clear c1
     try clear p2
     try clear c3
     try clear c6
     try clear p6
     try clear c8
     try clear c10
     try clear p2
     obtain ⟨x9_2,x10_2,rfl,rfl,HA,HK2,⟨m2,rfl⟩⟩:=hrel
     cases gk with
     | zero=>exact absurd HA.out (by simp [spec_LengthOf.l0])
     | succ k2=>
      have H:=HA.out
      clear HA
      simp only [spec_LengthOf.l0] at H
      by_cases c11:x9_2 < x10_2
      .
       rw [if_pos c11] at H
       have c11b0:decide (x9_2 < x10_2) = true:=decide_eq_true c11
       clear c11
       by_cases c12:(wrap64 ((wrap64 (Int.tdiv (wrap64 ((wrap64 (x9_2 + x10_2)) + 1)) 2)) * (wrap64 (Int.tdiv (wrap64 ((wrap64 (x9_2 + x10_2)) + 1)) 2)))) <= (wrap64 ((wrap64 ((wrap64 (a0 * a0)) + (wrap64 (a1 * a1)))) + (wrap64 (a2 * a2))))
       .
        rw [if_pos c12] at H
        have c12b0:decide ((wrap64 ((wrap64 (Int.tdiv (wrap64 ((wrap64 (x9_2 + x10_2)) + 1)) 2)) * (wrap64 (Int.tdiv (wrap64 ((wrap64 (x9_2 + x10_2)) + 1)) 2)))) <= (wrap64 ((wrap64 ((wrap64 (a0 * a0)) + (wrap64 (a1 * a1)))) + (wrap64 (a2 * a2))))) = true:=decide_eq_true c12;clear c12;have H':=ak H;clear H
        go_wp2
        go_roundg k2
        case measure=>have:=HJ3.out;have:=HK2.out;omega
        case rel=>exact ⟨(wrap64 (Int.tdiv (wrap64 ((wrap64 (x9_2 + x10_2)) + 1)) 2)),(x10_2),(by first|rfl|(simp;done)|(simp [*];done)),(by first|rfl|(simp;done)|(simp [*];done)),H',⟨by have:=HJ3.out;have:=HK2.out;omega⟩,by repeat (first|exact Drawn0.refl _|apply Drawn0.step)⟩
       .
        rw [if_neg c12] at H
        have c12b0:decide ((wrap64 ((wrap64 (Int.tdiv (wrap64 ((wrap64 (x9_2 + x10_2)) + 1)) 2)) * (wrap64 (Int.tdiv (wrap64 ((wrap64 (x9_2 + x10_2)) + 1)) 2)))) <= (wrap64 ((wrap64 ((wrap64 (a0 * a0)) + (wrap64 (a1 * a1)))) + (wrap64 (a2 * a2))))) = false:=decide_eq_false c12;clear c12;have H':=ak H;clear H
        go_wp2
        go_roundg k2
        case measure=>have:=HJ3.out;have:=HK2.out;omega
        case rel=>exact ⟨(x9_2),(wrap64 ((wrap64 (Int.tdiv (wrap64 ((wrap64 (x9_2 + x10_2)) + 1)) 2)) - 1)),(by first|rfl|(simp;done)|(simp [*];done)),(by first|rfl|(simp;done)|(simp [*];done)),H',⟨by have:=HJ3.out;have:=HK2.out;omega⟩,by repeat (first|exact Drawn0.refl _|apply Drawn0.step)⟩
      .
       rw [if_neg c11] at H
       have c11b0:decide (x9_2 < x10_2) = false:=decide_eq_false c11
       clear c11
       simp only [Option.some.injEq,Prod.mk.injEq] at H
       obtain ⟨rfl,rfl⟩:=H
       go_wp2
       go_ret2
       exact ⟨by first|rfl|(simp;done)|(simp [*];done),by repeat (first|exact Drawn0.refl _|apply Drawn0.step)⟩
mutual
def spec_BearingTo.j0:Nat -> Int -> Int -> Bool -> Option (Int × Bool)
 | 0,_,_,_=>none
 | k + 1,x0,x1,x23=>if x23 = true then (some (0,false)) else (spec_BearingTo.l0 k x0 x1 0 1)
def spec_BearingTo.l0:Nat -> Int -> Int -> Int -> Int -> Option (Int × Bool)
 | 0,_,_,_,_=>none
 | k + 1,x0,x1,x6,x7=>if x7 < 360 then ((spec_l2Sine.f x7).bind fun t420=>((spec_l2Cosine.f x7).bind fun t421=>((spec_l2Sine.f x6).bind fun t422=>((spec_l2Cosine.f x6).bind fun t423=>(if (wrap64 ((wrap64 (x0 * t420)) + (wrap64 (x1 * t421)))) > (wrap64 ((wrap64 (x0 * t422)) + (wrap64 (x1 * t423)))) then (spec_BearingTo.l0 k x0 x1 x7 (wrap64 (x7 + 1))) else (spec_BearingTo.l0 k x0 x1 x6 (wrap64 (x7 + 1)))))))) else (some (x6,true))
end
def spec_BearingTo.f (k:Nat) (a0:Int) (a1:Int):Option (Int × Bool):=(spec_l2Long.f a0).bind fun t418=>(if t418 = true then ((spec_l2Long.f a1).bind fun t419=>(if t419 = true then (if a0 = 0 then (spec_BearingTo.j0 k a0 a1 (a1 == 0)) else (spec_BearingTo.j0 k a0 a1 false)) else (spec_BearingTo.j0 k a0 a1 true))) else (spec_BearingTo.j0 k a0 a1 true))
theorem spec_BearingTo.calls (k:Nat) (a0:Int) (a1:Int) (r1:Int) (r2:Bool) (w:World) (h:spec_BearingTo.f k a0 a1 = some (r1,r2)) :
  Calls Try.prog 114 #[.int .i64 a0,.int .i64 a1] w fun e w'=>e = .returned (.tuple #[.int .i64 r1,.bool r2]) /\ Below w.heap.size w w':=by
 have HB:=ak (Below.refl w.heap.size w)
 have H:((spec_l2Long.f a0).bind fun t418=>(if t418 = true then ((spec_l2Long.f a1).bind fun t419=>(if t419 = true then (if a0 = 0 then (spec_BearingTo.j0 k a0 a1 (a1 == 0)) else (spec_BearingTo.j0 k a0 a1 false)) else (spec_BearingTo.j0 k a0 a1 true))) else (spec_BearingTo.j0 k a0 a1 true))) = some (r1,r2):=h
 clear h
 have HC3:=ak H
 clear H
 go_enter Try.func114,Try.ntmps114
 go_upto_region 1 with (fail)
 go_cut [23] (fun v23 wc=>∃ (kq:Nat) (x23_2:Bool),v23 = .bool x23_2 /\ Aside0 (spec_BearingTo.j0 kq a0 a1 x23_2 = some (r1,r2)) /\ Aside0 (kq <= k) /\ Aside0 (Below w.heap.size w wc))
 case first=>
  have H:=HC3.out
  clear HC3
  replace H:=Option.bind_eq_some_iff.mp H
  obtain ⟨t418,A40,H⟩:=H
  replace H:(if t418 = true then ((spec_l2Long.f a1).bind fun t419=>(if t419 = true then (if a0 = 0 then (spec_BearingTo.j0 k a0 a1 (a1 == 0)) else (spec_BearingTo.j0 k a0 a1 false)) else (spec_BearingTo.j0 k a0 a1 true))) else (spec_BearingTo.j0 k a0 a1 true)) = some (r1,r2):=H
  have A4:=ak A40
  clear A40
  by_cases c5:t418 = true
  .
   subst c5
   have H1:((spec_l2Long.f a1).bind fun t419=>(if t419 = true then (if a0 = 0 then (spec_BearingTo.j0 k a0 a1 (a1 == 0)) else (spec_BearingTo.j0 k a0 a1 false)) else (spec_BearingTo.j0 k a0 a1 true))) = some (r1,r2):=by rw [if_pos rfl] at H;exact H
   clear H
   have H:=H1
   clear H1
   replace H:=Option.bind_eq_some_iff.mp H
   obtain ⟨t419,A60,H⟩:=H
   replace H:(if t419 = true then (if a0 = 0 then (spec_BearingTo.j0 k a0 a1 (a1 == 0)) else (spec_BearingTo.j0 k a0 a1 false)) else (spec_BearingTo.j0 k a0 a1 true)) = some (r1,r2):=H
   have A6:=ak A60
   clear A60
   by_cases c7:t419 = true
   .
    subst c7
    have H1:(if a0 = 0 then (spec_BearingTo.j0 k a0 a1 (a1 == 0)) else (spec_BearingTo.j0 k a0 a1 false)) = some (r1,r2):=by rw [if_pos rfl] at H;exact H
    clear H
    have H:=H1
    clear H1
    by_cases c8:a0 = 0
    .
     rw [if_pos c8] at H
     have c8b0:(a0 == 0) = true:=beq_iff_eq.mpr c8
     have c8b1:(a0 != 0) = false:=bne_eq_false_iff_eq.mpr c8
     clear c8
     (first|rw [c8b0]|(simp only [i64_w,i32_w];rw [c8b0])|skip)
     have H':=ak H
     clear H
     go_wp2_with (first|((with_reducible refine gate_callee (f:=124) rfl ?_);refine ga_ (some 9) Try.func124 #[.int .i64 a0] ?_;(with_reducible refine (spec_l2Long.calls a0 true _ A4.out).mono ?_);rintro e w' ⟨rfl,⟨nd,rfl⟩⟩;refine ⟨_,rfl,?_⟩)|(go_at_call 124;(with_reducible refine (spec_l2Long.calls a1 true _ A6.out).mono ?_);rintro e w' ⟨rfl,⟨nd,rfl⟩⟩))
     go_meet
     case rel=>exact ⟨_,((a1 == 0)),(by first|rfl|(simp;done)|(simp [*];done)),H',⟨by first|omega|exact Nat.le_refl _⟩,⟨lb0_ HB.out⟩⟩
    .
     rw [if_neg c8] at H
     have c8b0:(a0 == 0) = false:=beq_eq_false_iff_ne.mpr c8
     have c8b1:(a0 != 0) = true:=bne_iff_ne.mpr c8
     (first|rw [c8b0]|(simp only [i64_w,i32_w];rw [c8b0])|skip)
     have H':=ak H
     clear H
     go_wp2_with (first|((with_reducible refine gate_callee (f:=124) rfl ?_);refine ga_ (some 9) Try.func124 #[.int .i64 a0] ?_;(with_reducible refine (spec_l2Long.calls a0 true _ A4.out).mono ?_);rintro e w' ⟨rfl,⟨nd,rfl⟩⟩;refine ⟨_,rfl,?_⟩)|(go_at_call 124;(with_reducible refine (spec_l2Long.calls a1 true _ A6.out).mono ?_);rintro e w' ⟨rfl,⟨nd,rfl⟩⟩))
     go_meet
     case rel=>exact ⟨_,(false),(by first|rfl|(simp;done)|(simp [*];done)),H',⟨by first|omega|exact Nat.le_refl _⟩,⟨lb0_ HB.out⟩⟩
   .
    replace c7:=Bool.eq_false_iff.mpr c7
    subst c7
    have H1:(spec_BearingTo.j0 k a0 a1 true) = some (r1,r2):=by rw [if_neg (show ¬ (false = true) by decide)] at H;exact H
    clear H
    have H:=H1
    clear H1
    have H':=ak H
    clear H
    go_wp2_with (first|((with_reducible refine gate_callee (f:=124) rfl ?_);refine ga_ (some 9) Try.func124 #[.int .i64 a0] ?_;(with_reducible refine (spec_l2Long.calls a0 true _ A4.out).mono ?_);rintro e w' ⟨rfl,⟨nd,rfl⟩⟩;refine ⟨_,rfl,?_⟩)|(go_at_call 124;(with_reducible refine (spec_l2Long.calls a1 false _ A6.out).mono ?_);rintro e w' ⟨rfl,⟨nd,rfl⟩⟩))
    go_meet
    case rel=>exact ⟨_,(true),(by first|rfl|(simp;done)|(simp [*];done)),H',⟨by first|omega|exact Nat.le_refl _⟩,⟨lb0_ HB.out⟩⟩
  .
   replace c5:=Bool.eq_false_iff.mpr c5
   subst c5
   have H1:(spec_BearingTo.j0 k a0 a1 true) = some (r1,r2):=by rw [if_neg (show ¬ (false = true) by decide)] at H;exact H
   clear H
   have H:=H1
   clear H1
   have H':=ak H
   clear H
   go_wp2_with (first|((with_reducible refine gate_callee (f:=124) rfl ?_);refine ga_ (some 9) Try.func124 #[.int .i64 a0] ?_;(with_reducible refine (spec_l2Long.calls a0 false _ A4.out).mono ?_);rintro e w' ⟨rfl,⟨nd,rfl⟩⟩;refine ⟨_,rfl,?_⟩))
   go_meet
   case rel=>exact ⟨_,(true),(by first|rfl|(simp;done)|(simp [*];done)),H',⟨by first|omega|exact Nat.le_refl _⟩,⟨lb0_ HB.out⟩⟩
 case rest=>
  clear HC3
  try clear c1
  try clear p2
  try clear c5
  try clear c7
  try clear c8
  try clear c8b0
  try clear c8b1
  obtain ⟨kq,x23_2,rfl,HA,HJ2,HB⟩:=hcut
  cases kq with
  | zero=>exact absurd HA.out (by simp [spec_BearingTo.j0])
  | succ kj2=>
   have H:=HA.out
   clear HA
   simp only [spec_BearingTo.j0] at H
   by_cases c9:x23_2 = true
   .
    subst c9
    have H1:(some (0,false)) = some (r1,r2):=by rw [if_pos rfl] at H;exact H
    clear H
    have H:=H1
    clear H1
    simp only [Option.some.injEq,Prod.mk.injEq] at H
    obtain ⟨rfl,rfl⟩:=H
    go_wp2
    go_ret2
    exact ⟨rr_,lb0_ HB.out⟩
   .
    replace c9:=Bool.eq_false_iff.mpr c9
    subst c9
    have H1:(spec_BearingTo.l0 kj2 a0 a1 0 1) = some (r1,r2):=by rw [if_neg (show ¬ (false = true) by decide)] at H;exact H
    clear H
    have H:=H1
    clear H1
    have H':=ak H
    clear H
    go_wp2
    go_loopg [6,7] kj2 (fun kq v6 v7 w'=>∃ (x6_2:Int) (x7_2:Int),v6 = .int .i64 x6_2 /\ v7 = .int .i64 x7_2 /\ Aside0 (spec_BearingTo.l0 kq a0 a1 x6_2 x7_2 = some (r1,r2)) /\ Aside0 (kq <= kj2) /\ Aside0 (Below w.heap.size w w'))
    case atStart=>exact ⟨(0),(1),(by first|rfl|(simp;done)|(simp [*];done)),(by first|rfl|(simp;done)|(simp [*];done)),H',⟨Nat.le_refl _⟩,⟨lb0_ HB.out⟩⟩
    case round=>
     clear H'
     try clear c1
     try clear p2
     try clear c5
     try clear c7
     try clear c8
     try clear c8b0
     try clear c8b1
     try clear c9
     try clear p2
     obtain ⟨x6_2,x7_2,rfl,rfl,HA,HK2,HB⟩:=hrel
     cases gk with
     | zero=>exact absurd HA.out (by simp [spec_BearingTo.l0])
     | succ k2=>
      have H:=HA.out
      clear HA
      simp only [spec_BearingTo.l0] at H
      by_cases c10:x7_2 < 360
      .
       rw [if_pos c10] at H
       have c10b0:decide (x7_2 < 360) = true:=decide_eq_true c10
       clear c10
       replace H:=Option.bind_eq_some_iff.mp H
       obtain ⟨t420,A110,H⟩:=H
       replace H:((spec_l2Cosine.f x7_2).bind fun t421=>((spec_l2Sine.f x6_2).bind fun t422=>((spec_l2Cosine.f x6_2).bind fun t423=>(if (wrap64 ((wrap64 (a0 * t420)) + (wrap64 (a1 * t421)))) > (wrap64 ((wrap64 (a0 * t422)) + (wrap64 (a1 * t423)))) then (spec_BearingTo.l0 k2 a0 a1 x7_2 (wrap64 (x7_2 + 1))) else (spec_BearingTo.l0 k2 a0 a1 x6_2 (wrap64 (x7_2 + 1))))))) = some (r1,r2):=H
       have A11:=ak A110
       clear A110
       replace H:=Option.bind_eq_some_iff.mp H
       obtain ⟨t421,A120,H⟩:=H
       replace H:((spec_l2Sine.f x6_2).bind fun t422=>((spec_l2Cosine.f x6_2).bind fun t423=>(if (wrap64 ((wrap64 (a0 * t420)) + (wrap64 (a1 * t421)))) > (wrap64 ((wrap64 (a0 * t422)) + (wrap64 (a1 * t423)))) then (spec_BearingTo.l0 k2 a0 a1 x7_2 (wrap64 (x7_2 + 1))) else (spec_BearingTo.l0 k2 a0 a1 x6_2 (wrap64 (x7_2 + 1)))))) = some (r1,r2):=H
       have A12:=ak A120
       clear A120
       replace H:=Option.bind_eq_some_iff.mp H
       obtain ⟨t422,A130,H⟩:=H
       replace H:((spec_l2Cosine.f x6_2).bind fun t423=>(if (wrap64 ((wrap64 (a0 * t420)) + (wrap64 (a1 * t421)))) > (wrap64 ((wrap64 (a0 * t422)) + (wrap64 (a1 * t423)))) then (spec_BearingTo.l0 k2 a0 a1 x7_2 (wrap64 (x7_2 + 1))) else (spec_BearingTo.l0 k2 a0 a1 x6_2 (wrap64 (x7_2 + 1))))) = some (r1,r2):=H
       have A13:=ak A130
       clear A130
       replace H:=Option.bind_eq_some_iff.mp H
       obtain ⟨t423,A140,H⟩:=H
       replace H:(if (wrap64 ((wrap64 (a0 * t420)) + (wrap64 (a1 * t421)))) > (wrap64 ((wrap64 (a0 * t422)) + (wrap64 (a1 * t423)))) then (spec_BearingTo.l0 k2 a0 a1 x7_2 (wrap64 (x7_2 + 1))) else (spec_BearingTo.l0 k2 a0 a1 x6_2 (wrap64 (x7_2 + 1)))) = some (r1,r2):=H
       have A14:=ak A140
       clear A140
       by_cases c15:(wrap64 ((wrap64 (a0 * t420)) + (wrap64 (a1 * t421)))) > (wrap64 ((wrap64 (a0 * t422)) + (wrap64 (a1 * t423))))
       .
        rw [if_pos c15] at H
        have c15b0:decide ((wrap64 ((wrap64 (a0 * t422)) + (wrap64 (a1 * t423)))) < (wrap64 ((wrap64 (a0 * t420)) + (wrap64 (a1 * t421))))) = true:=decide_eq_true c15;clear c15;have H':=ak H;clear H
        go_wp2_with (first|((with_reducible refine gate_callee (f:=123) rfl ?_);refine ga_ (some 30) Try.func123 #[.int .i64 x7_2] ?_;(with_reducible refine (spec_l2Sine.calls x7_2 t420 _ A11.out).mono ?_);rintro e w16 ⟨rfl,hb⟩;refine ⟨_,rfl,?_⟩;replace HB:=ak (below_step (lb0_ HB.out) hb);(try clear hb);(try clear hb2);(try clear hk);(try clear hi))|((with_reducible refine gate_callee (f:=122) rfl ?_);refine ga_ (some 34) Try.func122 #[.int .i64 x7_2] ?_;(with_reducible refine (spec_l2Cosine.calls x7_2 t421 _ A12.out).mono ?_);rintro e w17 ⟨rfl,hb⟩;refine ⟨_,rfl,?_⟩;replace HB:=ak (below_step (lb0_ HB.out) hb);(try clear hb);(try clear hb2);(try clear hk);(try clear hi))|((with_reducible refine gate_callee (f:=123) rfl ?_);refine ga_ (some 39) Try.func123 #[.int .i64 x6_2] ?_;(with_reducible refine (spec_l2Sine.calls x6_2 t422 _ A13.out).mono ?_);rintro e w18 ⟨rfl,hb⟩;refine ⟨_,rfl,?_⟩;replace HB:=ak (below_step (lb0_ HB.out) hb);(try clear hb);(try clear hb2);(try clear hk);(try clear hi))|((with_reducible refine gate_callee (f:=122) rfl ?_);refine ga_ (some 43) Try.func122 #[.int .i64 x6_2] ?_;(with_reducible refine (spec_l2Cosine.calls x6_2 t423 _ A14.out).mono ?_);rintro e w19 ⟨rfl,hb⟩;refine ⟨_,rfl,?_⟩;replace HB:=ak (below_step (lb0_ HB.out) hb);(try clear hb);(try clear hb2);(try clear hk);(try clear hi)))
        go_roundg k2
        case measure=>have:=HJ2.out;have:=HK2.out;omega
        case rel=>exact ⟨(x7_2),(wrap64 (x7_2 + 1)),(by first|rfl|(simp;done)|(simp [*];done)),(by first|rfl|(simp;done)|(simp [*];done)),H',⟨by have:=HJ2.out;have:=HK2.out;omega⟩,⟨lb0_ HB.out⟩⟩
       .
        rw [if_neg c15] at H
        have c15b0:decide ((wrap64 ((wrap64 (a0 * t422)) + (wrap64 (a1 * t423)))) < (wrap64 ((wrap64 (a0 * t420)) + (wrap64 (a1 * t421))))) = false:=decide_eq_false c15;clear c15;have H':=ak H;clear H
        go_wp2_with (first|((with_reducible refine gate_callee (f:=123) rfl ?_);refine ga_ (some 30) Try.func123 #[.int .i64 x7_2] ?_;(with_reducible refine (spec_l2Sine.calls x7_2 t420 _ A11.out).mono ?_);rintro e w20 ⟨rfl,hb⟩;refine ⟨_,rfl,?_⟩;replace HB:=ak (below_step (lb0_ HB.out) hb);(try clear hb);(try clear hb2);(try clear hk);(try clear hi))|((with_reducible refine gate_callee (f:=122) rfl ?_);refine ga_ (some 34) Try.func122 #[.int .i64 x7_2] ?_;(with_reducible refine (spec_l2Cosine.calls x7_2 t421 _ A12.out).mono ?_);rintro e w21 ⟨rfl,hb⟩;refine ⟨_,rfl,?_⟩;replace HB:=ak (below_step (lb0_ HB.out) hb);(try clear hb);(try clear hb2);(try clear hk);(try clear hi))|((with_reducible refine gate_callee (f:=123) rfl ?_);refine ga_ (some 39) Try.func123 #[.int .i64 x6_2] ?_;(with_reducible refine (spec_l2Sine.calls x6_2 t422 _ A13.out).mono ?_);rintro e w22 ⟨rfl,hb⟩;refine ⟨_,rfl,?_⟩;replace HB:=ak (below_step (lb0_ HB.out) hb);(try clear hb);(try clear hb2);(try clear hk);(try clear hi))|((with_reducible refine gate_callee (f:=122) rfl ?_);refine ga_ (some 43) Try.func122 #[.int .i64 x6_2] ?_;(with_reducible refine (spec_l2Cosine.calls x6_2 t423 _ A14.out).mono ?_);rintro e w23 ⟨rfl,hb⟩;refine ⟨_,rfl,?_⟩;replace HB:=ak (below_step (lb0_ HB.out) hb);(try clear hb);(try clear hb2);(try clear hk);(try clear hi)))
        go_roundg k2
        case measure=>have:=HJ2.out;have:=HK2.out;omega
        case rel=>exact ⟨(x6_2),(wrap64 (x7_2 + 1)),(by first|rfl|(simp;done)|(simp [*];done)),(by first|rfl|(simp;done)|(simp [*];done)),H',⟨by have:=HJ2.out;have:=HK2.out;omega⟩,⟨lb0_ HB.out⟩⟩
      .
       rw [if_neg c10] at H
       have c10b0:decide (x7_2 < 360) = false:=decide_eq_false c10
       clear c10
       simp only [Option.some.injEq,Prod.mk.injEq] at H
       obtain ⟨rfl,rfl⟩:=H
       go_wp2
       go_ret2
       exact ⟨rr_,lb0_ HB.out⟩
mutual
def spec_SlopeTo.j0:Nat -> Int -> Int -> Bool -> Option (Int × Bool)
 | 0,_,_,_=>none
 | k + 1,x0,x1,x24=>if x24 = true then (some (0,false)) else (spec_SlopeTo.l0 k x0 x1 0 1)
def spec_SlopeTo.l0:Nat -> Int -> Int -> Int -> Int -> Option (Int × Bool)
 | 0,_,_,_,_=>none
 | k + 1,x0,x1,x6,x7=>if x7 <= 90 then (spec_SlopeTo.l1 k x0 x1 x6 x7 1) else (some (x6,true))
def spec_SlopeTo.l1:Nat -> Int -> Int -> Int -> Int -> Int -> Option (Int × Bool)
 | 0,_,_,_,_,_=>none
 | k + 1,x0,x1,x6,x7,x8=>if x8 >= (-1) then ((spec_l2Cosine.f x7).bind fun t426=>((spec_l2Sine.f (wrap64 (x8 * x7))).bind fun t427=>((spec_l2Cosine.f x6).bind fun t428=>((spec_l2Sine.f x6).bind fun t429=>(if (wrap64 ((wrap64 (x0 * t426)) + (wrap64 (x1 * t427)))) > (wrap64 ((wrap64 (x0 * t428)) + (wrap64 (x1 * t429)))) then (spec_SlopeTo.l1 k x0 x1 (wrap64 (x8 * x7)) x7 (wrap64 (x8 - 2))) else (spec_SlopeTo.l1 k x0 x1 x6 x7 (wrap64 (x8 - 2)))))))) else (spec_SlopeTo.l0 k x0 x1 x6 (wrap64 (x7 + 1)))
end
def spec_SlopeTo.f (k:Nat) (a0:Int) (a1:Int):Option (Int × Bool):=(spec_l1In.f a0 0 100000).bind fun t424=>(if t424 = true then ((spec_l2Long.f a1).bind fun t425=>(if t425 = true then (if a0 = 0 then (spec_SlopeTo.j0 k a0 a1 (a1 == 0)) else (spec_SlopeTo.j0 k a0 a1 false)) else (spec_SlopeTo.j0 k a0 a1 true))) else (spec_SlopeTo.j0 k a0 a1 true))
theorem spec_SlopeTo.calls (k:Nat) (a0:Int) (a1:Int) (r1:Int) (r2:Bool) (w:World) (h:spec_SlopeTo.f k a0 a1 = some (r1,r2)) :
  Calls Try.prog 115 #[.int .i64 a0,.int .i64 a1] w fun e w'=>e = .returned (.tuple #[.int .i64 r1,.bool r2]) /\ Below w.heap.size w w':=by
 have HB:=ak (Below.refl w.heap.size w)
 have H:((spec_l1In.f a0 0 100000).bind fun t424=>(if t424 = true then ((spec_l2Long.f a1).bind fun t425=>(if t425 = true then (if a0 = 0 then (spec_SlopeTo.j0 k a0 a1 (a1 == 0)) else (spec_SlopeTo.j0 k a0 a1 false)) else (spec_SlopeTo.j0 k a0 a1 true))) else (spec_SlopeTo.j0 k a0 a1 true))) = some (r1,r2):=h
 clear h
 have HC3:=ak H
 clear H
 go_enter Try.func115,Try.ntmps115
 go_upto_region 1 with (fail)
 go_cut [24] (fun v24 wc=>∃ (kq:Nat) (x24_2:Bool),v24 = .bool x24_2 /\ Aside0 (spec_SlopeTo.j0 kq a0 a1 x24_2 = some (r1,r2)) /\ Aside0 (kq <= k) /\ Aside0 (Below w.heap.size w wc))
 case first=>
  have H:=HC3.out
  clear HC3
  replace H:=Option.bind_eq_some_iff.mp H
  obtain ⟨t424,A40,H⟩:=H
  replace H:(if t424 = true then ((spec_l2Long.f a1).bind fun t425=>(if t425 = true then (if a0 = 0 then (spec_SlopeTo.j0 k a0 a1 (a1 == 0)) else (spec_SlopeTo.j0 k a0 a1 false)) else (spec_SlopeTo.j0 k a0 a1 true))) else (spec_SlopeTo.j0 k a0 a1 true)) = some (r1,r2):=H
  have A4:=ak A40
  clear A40
  by_cases c5:t424 = true
  .
   subst c5
   have H1:((spec_l2Long.f a1).bind fun t425=>(if t425 = true then (if a0 = 0 then (spec_SlopeTo.j0 k a0 a1 (a1 == 0)) else (spec_SlopeTo.j0 k a0 a1 false)) else (spec_SlopeTo.j0 k a0 a1 true))) = some (r1,r2):=by rw [if_pos rfl] at H;exact H
   clear H
   have H:=H1
   clear H1
   replace H:=Option.bind_eq_some_iff.mp H
   obtain ⟨t425,A60,H⟩:=H
   replace H:(if t425 = true then (if a0 = 0 then (spec_SlopeTo.j0 k a0 a1 (a1 == 0)) else (spec_SlopeTo.j0 k a0 a1 false)) else (spec_SlopeTo.j0 k a0 a1 true)) = some (r1,r2):=H
   have A6:=ak A60
   clear A60
   by_cases c7:t425 = true
   .
    subst c7
    have H1:(if a0 = 0 then (spec_SlopeTo.j0 k a0 a1 (a1 == 0)) else (spec_SlopeTo.j0 k a0 a1 false)) = some (r1,r2):=by rw [if_pos rfl] at H;exact H
    clear H
    have H:=H1
    clear H1
    by_cases c8:a0 = 0
    .
     rw [if_pos c8] at H
     have c8b0:(a0 == 0) = true:=beq_iff_eq.mpr c8
     have c8b1:(a0 != 0) = false:=bne_eq_false_iff_eq.mpr c8
     clear c8
     (first|rw [c8b0]|(simp only [i64_w,i32_w];rw [c8b0])|skip)
     have H':=ak H
     clear H
     go_wp2_with (first|((with_reducible refine gate_callee (f:=101) rfl ?_);refine ga_ (some 10) Try.func101 #[.int .i64 a0,.int .i64 0,.int .i64 100000] ?_;(with_reducible refine (spec_l1In.calls a0 0 100000 true _ A4.out).mono ?_);rintro e w' ⟨rfl,⟨nd,rfl⟩⟩;refine ⟨_,rfl,?_⟩)|(go_at_call 124;(with_reducible refine (spec_l2Long.calls a1 true _ A6.out).mono ?_);rintro e w' ⟨rfl,⟨nd,rfl⟩⟩))
     go_meet
     case rel=>exact ⟨_,((a1 == 0)),(by first|rfl|(simp;done)|(simp [*];done)),H',⟨by first|omega|exact Nat.le_refl _⟩,⟨lb0_ HB.out⟩⟩
    .
     rw [if_neg c8] at H
     have c8b0:(a0 == 0) = false:=beq_eq_false_iff_ne.mpr c8
     have c8b1:(a0 != 0) = true:=bne_iff_ne.mpr c8
     (first|rw [c8b0]|(simp only [i64_w,i32_w];rw [c8b0])|skip)
     have H':=ak H
     clear H
     go_wp2_with (first|((with_reducible refine gate_callee (f:=101) rfl ?_);refine ga_ (some 10) Try.func101 #[.int .i64 a0,.int .i64 0,.int .i64 100000] ?_;(with_reducible refine (spec_l1In.calls a0 0 100000 true _ A4.out).mono ?_);rintro e w' ⟨rfl,⟨nd,rfl⟩⟩;refine ⟨_,rfl,?_⟩)|(go_at_call 124;(with_reducible refine (spec_l2Long.calls a1 true _ A6.out).mono ?_);rintro e w' ⟨rfl,⟨nd,rfl⟩⟩))
     go_meet
     case rel=>exact ⟨_,(false),(by first|rfl|(simp;done)|(simp [*];done)),H',⟨by first|omega|exact Nat.le_refl _⟩,⟨lb0_ HB.out⟩⟩
   .
    replace c7:=Bool.eq_false_iff.mpr c7
    subst c7
    have H1:(spec_SlopeTo.j0 k a0 a1 true) = some (r1,r2):=by rw [if_neg (show ¬ (false = true) by decide)] at H;exact H
    clear H
    have H:=H1
    clear H1
    have H':=ak H
    clear H
    go_wp2_with (first|((with_reducible refine gate_callee (f:=101) rfl ?_);refine ga_ (some 10) Try.func101 #[.int .i64 a0,.int .i64 0,.int .i64 100000] ?_;(with_reducible refine (spec_l1In.calls a0 0 100000 true _ A4.out).mono ?_);rintro e w' ⟨rfl,⟨nd,rfl⟩⟩;refine ⟨_,rfl,?_⟩)|(go_at_call 124;(with_reducible refine (spec_l2Long.calls a1 false _ A6.out).mono ?_);rintro e w' ⟨rfl,⟨nd,rfl⟩⟩))
    go_meet
    case rel=>exact ⟨_,(true),(by first|rfl|(simp;done)|(simp [*];done)),H',⟨by first|omega|exact Nat.le_refl _⟩,⟨lb0_ HB.out⟩⟩
  .
   replace c5:=Bool.eq_false_iff.mpr c5
   subst c5
   have H1:(spec_SlopeTo.j0 k a0 a1 true) = some (r1,r2):=by rw [if_neg (show ¬ (false = true) by decide)] at H;exact H
   clear H
   have H:=H1
   clear H1
   have H':=ak H
   clear H
   go_wp2_with (first|((with_reducible refine gate_callee (f:=101) rfl ?_);refine ga_ (some 10) Try.func101 #[.int .i64 a0,.int .i64 0,.int .i64 100000] ?_;(with_reducible refine (spec_l1In.calls a0 0 100000 false _ A4.out).mono ?_);rintro e w' ⟨rfl,⟨nd,rfl⟩⟩;refine ⟨_,rfl,?_⟩))
   go_meet
   case rel=>exact ⟨_,(true),(by first|rfl|(simp;done)|(simp [*];done)),H',⟨by first|omega|exact Nat.le_refl _⟩,⟨lb0_ HB.out⟩⟩
 case rest=>
  clear HC3
  try clear c1
  try clear p2
  try clear c5
  try clear c7
  try clear c8
  try clear c8b0
  try clear c8b1
  obtain ⟨kq,x24_2,rfl,HA,HJ2,HB⟩:=hcut
  cases kq with
  | zero=>exact absurd HA.out (by simp [spec_SlopeTo.j0])
  | succ kj2=>
   have H:=HA.out
   clear HA
   simp only [spec_SlopeTo.j0] at H
   by_cases c9:x24_2 = true
   .
    subst c9
    have H1:(some (0,false)) = some (r1,r2):=by rw [if_pos rfl] at H;exact H
    clear H
    have H:=H1
    clear H1
    simp only [Option.some.injEq,Prod.mk.injEq] at H
    obtain ⟨rfl,rfl⟩:=H
    go_wp2
    go_ret2
    exact ⟨rr_,lb0_ HB.out⟩
   .
    replace c9:=Bool.eq_false_iff.mpr c9
    subst c9
    have H1:(spec_SlopeTo.l0 kj2 a0 a1 0 1) = some (r1,r2):=by rw [if_neg (show ¬ (false = true) by decide)] at H;exact H
    clear H
    have H:=H1
    clear H1
    have H':=ak H
    clear H
    go_wp2
    go_loopg [6,7] kj2 (fun kq v6 v7 w'=>∃ (x6_2:Int) (x7_2:Int),v6 = .int .i64 x6_2 /\ v7 = .int .i64 x7_2 /\ Aside0 (spec_SlopeTo.l0 kq a0 a1 x6_2 x7_2 = some (r1,r2)) /\ Aside0 (kq <= kj2) /\ Aside0 (Below w.heap.size w w'))
    case atStart=>exact ⟨(0),(1),(by first|rfl|(simp;done)|(simp [*];done)),(by first|rfl|(simp;done)|(simp [*];done)),H',⟨Nat.le_refl _⟩,⟨lb0_ HB.out⟩⟩
    case round=>
     clear H'
     try clear c1
     try clear p2
     try clear c5
     try clear c7
     try clear c8
     try clear c8b0
     try clear c8b1
     try clear c9
     try clear p2
     obtain ⟨x6_2,x7_2,rfl,rfl,HA,HK2,HB⟩:=hrel
     cases gk with
     | zero=>exact absurd HA.out (by simp [spec_SlopeTo.l0])
     | succ k2=>
      have H:=HA.out
      clear HA
      simp only [spec_SlopeTo.l0] at H
      by_cases c10:x7_2 <= 90
      .
       rw [if_pos c10] at H
       have c10b0:decide (x7_2 <= 90) = true:=decide_eq_true c10
       clear c10
       have H':=ak H
       clear H
       go_wp2
       go_loopg [6,8] k2 (fun kq v6 v8 w'=>∃ (x6_3:Int) (x8_3:Int),v6 = .int .i64 x6_3 /\ v8 = .int .i64 x8_3 /\ Aside0 (spec_SlopeTo.l1 kq a0 a1 x6_3 x7_2 x8_3 = some (r1,r2)) /\ Aside0 (kq <= k2) /\ Aside0 (Below w.heap.size w w'))
       case atStart=>exact ⟨(x6_2),(1),(by first|rfl|(simp;done)|(simp [*];done)),(by first|rfl|(simp;done)|(simp [*];done)),H',⟨Nat.le_refl _⟩,⟨lb0_ HB.out⟩⟩
       case round=>
        clear H'
        try clear c1
        try clear p2
        try clear c5
        try clear c7
        try clear c8
        try clear c8b0
        try clear c8b1
        try clear c9
        try clear c10
        try clear c10b0
        try clear p2
        obtain ⟨x6_3,x8_3,rfl,rfl,HA,HK3,HB⟩:=hrel
        cases gk with
        | zero=>exact absurd HA.out (by simp [spec_SlopeTo.l1])
        | succ k3=>
         have H:=HA.out;clear HA;simp only [spec_SlopeTo.l1] at H
         by_cases c11:x8_3 >= (-1)
         .
          rw [if_pos c11] at H
          have c11b0:decide ((-1) <= x8_3) = true:=decide_eq_true c11;clear c11;replace H:=Option.bind_eq_some_iff.mp H;obtain ⟨t426,A120,H⟩:=H;replace H:((spec_l2Sine.f (wrap64 (x8_3 * x7_2))).bind fun t427=>((spec_l2Cosine.f x6_3).bind fun t428=>((spec_l2Sine.f x6_3).bind fun t429=>(if (wrap64 ((wrap64 (a0 * t426)) + (wrap64 (a1 * t427)))) > (wrap64 ((wrap64 (a0 * t428)) + (wrap64 (a1 * t429)))) then (spec_SlopeTo.l1 k3 a0 a1 (wrap64 (x8_3 * x7_2)) x7_2 (wrap64 (x8_3 - 2))) else (spec_SlopeTo.l1 k3 a0 a1 x6_3 x7_2 (wrap64 (x8_3 - 2))))))) = some (r1,r2):=H;have A12:=ak A120;clear A120;replace H:=Option.bind_eq_some_iff.mp H;obtain ⟨t427,A130,H⟩:=H;replace H:((spec_l2Cosine.f x6_3).bind fun t428=>((spec_l2Sine.f x6_3).bind fun t429=>(if (wrap64 ((wrap64 (a0 * t426)) + (wrap64 (a1 * t427)))) > (wrap64 ((wrap64 (a0 * t428)) + (wrap64 (a1 * t429)))) then (spec_SlopeTo.l1 k3 a0 a1 (wrap64 (x8_3 * x7_2)) x7_2 (wrap64 (x8_3 - 2))) else (spec_SlopeTo.l1 k3 a0 a1 x6_3 x7_2 (wrap64 (x8_3 - 2)))))) = some (r1,r2):=H;have A13:=ak A130;clear A130;replace H:=Option.bind_eq_some_iff.mp H;obtain ⟨t428,A140,H⟩:=H;replace H:((spec_l2Sine.f x6_3).bind fun t429=>(if (wrap64 ((wrap64 (a0 * t426)) + (wrap64 (a1 * t427)))) > (wrap64 ((wrap64 (a0 * t428)) + (wrap64 (a1 * t429)))) then (spec_SlopeTo.l1 k3 a0 a1 (wrap64 (x8_3 * x7_2)) x7_2 (wrap64 (x8_3 - 2))) else (spec_SlopeTo.l1 k3 a0 a1 x6_3 x7_2 (wrap64 (x8_3 - 2))))) = some (r1,r2):=H;have A14:=ak A140;clear A140;replace H:=Option.bind_eq_some_iff.mp H;obtain ⟨t429,A150,H⟩:=H;replace H:(if (wrap64 ((wrap64 (a0 * t426)) + (wrap64 (a1 * t427)))) > (wrap64 ((wrap64 (a0 * t428)) + (wrap64 (a1 * t429)))) then (spec_SlopeTo.l1 k3 a0 a1 (wrap64 (x8_3 * x7_2)) x7_2 (wrap64 (x8_3 - 2))) else (spec_SlopeTo.l1 k3 a0 a1 x6_3 x7_2 (wrap64 (x8_3 - 2)))) = some (r1,r2):=H;have A15:=ak A150;clear A150
          by_cases c16:(wrap64 ((wrap64 (a0 * t426)) + (wrap64 (a1 * t427)))) > (wrap64 ((wrap64 (a0 * t428)) + (wrap64 (a1 * t429))))
          .
           rw [if_pos c16] at H
           have c16b0:decide ((wrap64 ((wrap64 (a0 * t428)) + (wrap64 (a1 * t429)))) < (wrap64 ((wrap64 (a0 * t426)) + (wrap64 (a1 * t427))))) = true:=decide_eq_true c16;clear c16;have H':=ak H;clear H
           go_wp2_with (first|((with_reducible refine gate_callee (f:=122) rfl ?_);refine ga_ (some 35) Try.func122 #[.int .i64 x7_2] ?_;(with_reducible refine (spec_l2Cosine.calls x7_2 t426 _ A12.out).mono ?_);rintro e w17 ⟨rfl,hb⟩;refine ⟨_,rfl,?_⟩;replace HB:=ak (below_step (lb0_ HB.out) hb);(try clear hb);(try clear hb2);(try clear hk);(try clear hi))|((with_reducible refine gate_callee (f:=123) rfl ?_);refine ga_ (some 41) Try.func123 #[.int .i64 (wrap64 (x8_3 * x7_2))] ?_;(with_reducible refine (spec_l2Sine.calls (wrap64 (x8_3 * x7_2)) t427 _ A13.out).mono ?_);rintro e w18 ⟨rfl,hb⟩;refine ⟨_,rfl,?_⟩;replace HB:=ak (below_step (lb0_ HB.out) hb);(try clear hb);(try clear hb2);(try clear hk);(try clear hi))|((with_reducible refine gate_callee (f:=122) rfl ?_);refine ga_ (some 46) Try.func122 #[.int .i64 x6_3] ?_;(with_reducible refine (spec_l2Cosine.calls x6_3 t428 _ A14.out).mono ?_);rintro e w19 ⟨rfl,hb⟩;refine ⟨_,rfl,?_⟩;replace HB:=ak (below_step (lb0_ HB.out) hb);(try clear hb);(try clear hb2);(try clear hk);(try clear hi))|((with_reducible refine gate_callee (f:=123) rfl ?_);refine ga_ (some 50) Try.func123 #[.int .i64 x6_3] ?_;(with_reducible refine (spec_l2Sine.calls x6_3 t429 _ A15.out).mono ?_);rintro e w20 ⟨rfl,hb⟩;refine ⟨_,rfl,?_⟩;replace HB:=ak (below_step (lb0_ HB.out) hb);(try clear hb);(try clear hb2);(try clear hk);(try clear hi)))
           go_roundg k3
           case measure=>have:=HJ2.out;have:=HK2.out;have:=HK3.out;omega
           case rel=>exact ⟨(wrap64 (x8_3 * x7_2)),(wrap64 (x8_3 - 2)),(by first|rfl|(simp;done)|(simp [*];done)),(by first|rfl|(simp;done)|(simp [*];done)),H',⟨by have:=HJ2.out;have:=HK2.out;have:=HK3.out;omega⟩,⟨lb0_ HB.out⟩⟩
          .
           rw [if_neg c16] at H
           have c16b0:decide ((wrap64 ((wrap64 (a0 * t428)) + (wrap64 (a1 * t429)))) < (wrap64 ((wrap64 (a0 * t426)) + (wrap64 (a1 * t427))))) = false:=decide_eq_false c16;clear c16;have H':=ak H;clear H
           go_wp2_with (first|((with_reducible refine gate_callee (f:=122) rfl ?_);refine ga_ (some 35) Try.func122 #[.int .i64 x7_2] ?_;(with_reducible refine (spec_l2Cosine.calls x7_2 t426 _ A12.out).mono ?_);rintro e w21 ⟨rfl,hb⟩;refine ⟨_,rfl,?_⟩;replace HB:=ak (below_step (lb0_ HB.out) hb);(try clear hb);(try clear hb2);(try clear hk);(try clear hi))|((with_reducible refine gate_callee (f:=123) rfl ?_);refine ga_ (some 41) Try.func123 #[.int .i64 (wrap64 (x8_3 * x7_2))] ?_;(with_reducible refine (spec_l2Sine.calls (wrap64 (x8_3 * x7_2)) t427 _ A13.out).mono ?_);rintro e w22 ⟨rfl,hb⟩;refine ⟨_,rfl,?_⟩;replace HB:=ak (below_step (lb0_ HB.out) hb);(try clear hb);(try clear hb2);(try clear hk);(try clear hi))|((with_reducible refine gate_callee (f:=122) rfl ?_);refine ga_ (some 46) Try.func122 #[.int .i64 x6_3] ?_;(with_reducible refine (spec_l2Cosine.calls x6_3 t428 _ A14.out).mono ?_);rintro e w23 ⟨rfl,hb⟩;refine ⟨_,rfl,?_⟩;replace HB:=ak (below_step (lb0_ HB.out) hb);(try clear hb);(try clear hb2);(try clear hk);(try clear hi))|((with_reducible refine gate_callee (f:=123) rfl ?_);refine ga_ (some 50) Try.func123 #[.int .i64 x6_3] ?_;(with_reducible refine (spec_l2Sine.calls x6_3 t429 _ A15.out).mono ?_);rintro e w24 ⟨rfl,hb⟩;refine ⟨_,rfl,?_⟩;replace HB:=ak (below_step (lb0_ HB.out) hb);(try clear hb);(try clear hb2);(try clear hk);(try clear hi)))
           go_roundg k3
           case measure=>have:=HJ2.out;have:=HK2.out;have:=HK3.out;omega
           case rel=>exact ⟨(x6_3),(wrap64 (x8_3 - 2)),(by first|rfl|(simp;done)|(simp [*];done)),(by first|rfl|(simp;done)|(simp [*];done)),H',⟨by have:=HJ2.out;have:=HK2.out;have:=HK3.out;omega⟩,⟨lb0_ HB.out⟩⟩
         .
          rw [if_neg c11] at H
          have c11b0:decide ((-1) <= x8_3) = false:=decide_eq_false c11;clear c11;have H':=ak H;clear H
          go_wp2
          go_roundg k3
          case measure=>have:=HJ2.out;have:=HK2.out;have:=HK3.out;omega
          case rel=>exact ⟨(x6_3),(wrap64 (x7_2 + 1)),(by first|rfl|(simp;done)|(simp [*];done)),(by first|rfl|(simp;done)|(simp [*];done)),H',⟨by have:=HJ2.out;have:=HK2.out;have:=HK3.out;omega⟩,⟨lb0_ HB.out⟩⟩
      .
       rw [if_neg c10] at H
       have c10b0:decide (x7_2 <= 90) = false:=decide_eq_false c10
       clear c10
       simp only [Option.some.injEq,Prod.mk.injEq] at H
       obtain ⟨rfl,rfl⟩:=H
       go_wp2
       go_ret2
       exact ⟨rr_,lb0_ HB.out⟩
def spec_l1Cur_pick.f (s0_0:List Int) (s0_1:Int) (s0_2:Int) (a1:Int):Option (Int × Int × Int):=if a1 <= 1 then (some (0,s0_1,s0_2)) else ((spec_l1Cur_next.f s0_0 s0_1 s0_2).bind fun bt276=>(if a1 > 200 then ((spec_l1Cur_next.f s0_0 bt276.2.1 bt276.2.2).bind fun bt279=>(if a1 = 0 then (none) else (some (Int.tmod (wrap64 ((wrap64 (bt276.1 * 256)) + bt279.1)) a1,bt279.2.1,bt279.2.2)))) else (if a1 = 0 then (none) else (some (Int.tmod bt276.1 a1,bt276.2.1,bt276.2.2)))))
theorem spec_l1Cur_pick.calls (g:Nat) (s0_0:List Int) (s0_1:Int) (s0_2:Int) (a1:Int) (r1:Int) (r2:Int) (r3:Int) (w0 w:World) (hI:IsS96 w0 w g s0_0 s0_1 s0_2) (hB:Below w0.heap.size w0 w) (h:spec_l1Cur_pick.f s0_0 s0_1 s0_2 a1 = some (r1,r2,r3)) :
  Calls Try.prog 81 #[.pointer (some ⟨g,0,none⟩),.int .i64 a1] w fun e w'=>e = .returned (.int .i64 r1) /\ IsS96 w0 w' g s0_0 r2 r3 /\ Below w0.heap.size w0 w' /\ KeepBut w w' g none:=by
 have HI0:=ak hI
 have HK:=ak (KeepBut.refl w g none)
 have HL:=ak hB.size
 clear hI
 have HW0:=ak hB.size
 have HB:=ak hB
 clear hB
 have H:(if a1 <= 1 then (some (0,s0_1,s0_2)) else ((spec_l1Cur_next.f s0_0 s0_1 s0_2).bind fun bt276=>(if a1 > 200 then ((spec_l1Cur_next.f s0_0 bt276.2.1 bt276.2.2).bind fun bt279=>(if a1 = 0 then (none) else (some (Int.tmod (wrap64 ((wrap64 (bt276.1 * 256)) + bt279.1)) a1,bt279.2.1,bt279.2.2)))) else (if a1 = 0 then (none) else (some (Int.tmod bt276.1 a1,bt276.2.1,bt276.2.2)))))) = some (r1,r2,r3):=h
 clear h
 by_cases c3:a1 <= 1
 .
  rw [if_pos c3] at H
  have c3b0:decide (a1 <= 1) = true:=decide_eq_true c3
  clear c3
  simp only [Option.some.injEq,Prod.mk.injEq] at H
  obtain ⟨rfl,rfl,rfl⟩:=H
  go_enter Try.func81,Try.ntmps81
  go_wp2
  go_ret
  exact ⟨rr_,is96_0 HI0.out,lb1_ HB.out (IsS96.ge HI0.out),kb0_ HK.out⟩
 .
  rw [if_neg c3] at H
  have c3b0:decide (a1 <= 1) = false:=decide_eq_false c3
  clear c3
  replace H:=Option.bind_eq_some_iff.mp H
  obtain ⟨⟨t276,t277,t278⟩,A40,H⟩:=H
  replace H:(if a1 > 200 then ((spec_l1Cur_next.f s0_0 t277 t278).bind fun bt279=>(if a1 = 0 then (none) else (some (Int.tmod (wrap64 ((wrap64 (t276 * 256)) + bt279.1)) a1,bt279.2.1,bt279.2.2)))) else (if a1 = 0 then (none) else (some (Int.tmod t276 a1,t277,t278)))) = some (r1,r2,r3):=H
  have A4:=ak A40
  clear A40
  by_cases c5:a1 > 200
  .
   rw [if_pos c5] at H
   have c5b0:decide (200 < a1) = true:=decide_eq_true c5
   clear c5
   replace H:=Option.bind_eq_some_iff.mp H
   obtain ⟨⟨t279,t280,t281⟩,A60,H⟩:=H
   replace H:(if a1 = 0 then (none) else (some (Int.tmod (wrap64 ((wrap64 (t276 * 256)) + t279)) a1,t280,t281))) = some (r1,r2,r3):=H
   have A6:=ak A60
   clear A60
   by_cases c7:a1 = 0
   .
    rw [if_pos c7] at H
    exact absurd H (by simp)
   .
    rw [if_neg c7] at H
    have c7b0:(a1 == 0) = false:=beq_eq_false_iff_ne.mpr c7
    have c7b1:(a1 != 0) = true:=bne_iff_ne.mpr c7
    simp only [Option.some.injEq,Prod.mk.injEq] at H
    obtain ⟨rfl,rfl,rfl⟩:=H
    go_enter Try.func81,Try.ntmps81
    go_wp2_with (first|((with_reducible refine gate_callee (f:=108) rfl ?_);refine ga_ (some 9) Try.func108 #[.pointer (some ⟨g,0,none⟩)] ?_;(with_reducible refine (spec_l1Cur_next.calls g s0_0 s0_1 s0_2 t276 t277 t278 w0 _ ?side1 ?side2 A4.out).mono ?_);(case side1=>exact is96_0 HI0.out);(case side2=>exact lb1_ HB.out (IsS96.ge HI0.out));rintro e w8 ⟨rfl,hi,hb,hk⟩;refine ⟨_,rfl,?_⟩;replace HK:=ak (KeepBut.trans (kb0_ HK.out) hk (.inl rfl));replace HB:=ak (hb);replace HI0:=ak (hi);(try clear hb);(try clear hb2);(try clear hk);(try clear hi))|((with_reducible refine gate_callee (f:=108) rfl ?_);refine ga_ (some 15) Try.func108 #[.pointer (some ⟨g,0,none⟩)] ?_;(with_reducible refine (spec_l1Cur_next.calls g s0_0 t277 t278 t279 t280 t281 w0 _ ?side1 ?side2 A6.out).mono ?_);(case side1=>exact is96_0 HI0.out);(case side2=>exact lb1_ HB.out (IsS96.ge HI0.out));rintro e w9 ⟨rfl,hi,hb,hk⟩;refine ⟨_,rfl,?_⟩;replace HK:=ak (KeepBut.trans (kb0_ HK.out) hk (.inl rfl));replace HB:=ak (hb);replace HI0:=ak (hi);(try clear hb);(try clear hb2);(try clear hk);(try clear hi)))
    go_ret
    exact ⟨rr_,is96_0 HI0.out,lb1_ HB.out (IsS96.ge HI0.out),kb0_ HK.out⟩
  .
   rw [if_neg c5] at H
   have c5b0:decide (200 < a1) = false:=decide_eq_false c5
   clear c5
   by_cases c10:a1 = 0
   .
    rw [if_pos c10] at H
    exact absurd H (by simp)
   .
    rw [if_neg c10] at H
    have c10b0:(a1 == 0) = false:=beq_eq_false_iff_ne.mpr c10
    have c10b1:(a1 != 0) = true:=bne_iff_ne.mpr c10
    simp only [Option.some.injEq,Prod.mk.injEq] at H
    obtain ⟨rfl,rfl,rfl⟩:=H
    go_enter Try.func81,Try.ntmps81
    go_wp2_with (first|((with_reducible refine gate_callee (f:=108) rfl ?_);refine ga_ (some 9) Try.func108 #[.pointer (some ⟨g,0,none⟩)] ?_;(with_reducible refine (spec_l1Cur_next.calls g s0_0 s0_1 s0_2 t276 t277 t278 w0 _ ?side1 ?side2 A4.out).mono ?_);(case side1=>exact is96_0 HI0.out);(case side2=>exact lb1_ HB.out (IsS96.ge HI0.out));rintro e w11 ⟨rfl,hi,hb,hk⟩;refine ⟨_,rfl,?_⟩;replace HK:=ak (KeepBut.trans (kb0_ HK.out) hk (.inl rfl));replace HB:=ak (hb);replace HI0:=ak (hi);(try clear hb);(try clear hb2);(try clear hk);(try clear hi)))
    go_ret
    exact ⟨rr_,is96_0 HI0.out,lb1_ HB.out (IsS96.ge HI0.out),kb0_ HK.out⟩
def spec_l1Cur_one.f (s0_0:List Int) (s0_1:Int) (s0_2:Int) (a1:Int):Option (Bool × Int × Int):=(spec_l1Cur_pick.f s0_0 s0_1 s0_2 a1).bind fun bt282=>(some ((bt282.1 == 0),bt282.2.1,bt282.2.2))
theorem spec_l1Cur_one.calls (g:Nat) (s0_0:List Int) (s0_1:Int) (s0_2:Int) (a1:Int) (r1:Bool) (r2:Int) (r3:Int) (w0 w:World) (hI:IsS96 w0 w g s0_0 s0_1 s0_2) (hB:Below w0.heap.size w0 w) (h:spec_l1Cur_one.f s0_0 s0_1 s0_2 a1 = some (r1,r2,r3)) :
  Calls Try.prog 82 #[.pointer (some ⟨g,0,none⟩),.int .i64 a1] w fun e w'=>e = .returned (.bool r1) /\ IsS96 w0 w' g s0_0 r2 r3 /\ Below w0.heap.size w0 w' /\ KeepBut w w' g none:=by
 have HI0:=ak hI
 have HK:=ak (KeepBut.refl w g none)
 have HL:=ak hB.size
 clear hI
 have HW0:=ak hB.size
 have HB:=ak hB
 clear hB
 have H:((spec_l1Cur_pick.f s0_0 s0_1 s0_2 a1).bind fun bt282=>(some ((bt282.1 == 0),bt282.2.1,bt282.2.2))) = some (r1,r2,r3):=h
 clear h
 replace H:=Option.bind_eq_some_iff.mp H
 obtain ⟨⟨t282,t283,t284⟩,A30,H⟩:=H
 replace H:(some ((t282 == 0),t283,t284)) = some (r1,r2,r3):=H
 have A3:=ak A30
 clear A30
 simp only [Option.some.injEq,Prod.mk.injEq] at H
 obtain ⟨rfl,rfl,rfl⟩:=H
 go_enter Try.func82,Try.ntmps82
 go_wp2_with (first|((with_reducible refine gate_callee (f:=81) rfl ?_);refine ga_ (some 7) Try.func81 #[.pointer (some ⟨g,0,none⟩),.int .i64 a1] ?_;(with_reducible refine (spec_l1Cur_pick.calls g s0_0 s0_1 s0_2 a1 t282 t283 t284 w0 _ ?side1 ?side2 A3.out).mono ?_);(case side1=>exact is96_0 HI0.out);(case side2=>exact lb1_ HB.out (IsS96.ge HI0.out));rintro e w4 ⟨rfl,hi,hb,hk⟩;refine ⟨_,rfl,?_⟩;replace HK:=ak (KeepBut.trans (kb0_ HK.out) hk (.inl rfl));replace HB:=ak (hb);replace HI0:=ak (hi);(try clear hb);(try clear hb2);(try clear hk);(try clear hi)))
 go_ret
 exact ⟨rr_,is96_0 HI0.out,lb1_ HB.out (IsS96.ge HI0.out),kb0_ HK.out⟩
def spec_l1Cur_among.f (s0_0:List Int) (s0_1:Int) (s0_2:Int) (l1:List Int):Option (Int × Int × Int):=(spec_l1Cur_pick.f s0_0 s0_1 s0_2 (l1.length:Int)).bind fun bt285=>(if 0 <= bt285.1 then (if bt285.1 < (l1.length:Int) then (some (rd l1 bt285.1,bt285.2.1,bt285.2.2)) else (none)) else (none))
theorem spec_l1Cur_among.calls (g:Nat) (s0_0:List Int) (s0_1:Int) (s0_2:Int) (A1:Option Addr) (c1:Nat) (l1:List Int) (r1:Int) (r2:Int) (r3:Int) (w0 w:World) (hI:IsS96 w0 w g s0_0 s0_1 s0_2) (hB:Below w0.heap.size w0 w) (hr1:Kd.C (Kd.int .i64) w A1 l1.length l1) (hc1:l1.length <= c1) (hf1:∀ ad,A1 = some ad -> 0 < l1.length -> ad.block ≠ g) (h:spec_l1Cur_among.f s0_0 s0_1 s0_2 l1 = some (r1,r2,r3)) :
  Calls Try.prog 86 #[.pointer (some ⟨g,0,none⟩),.slice A1 l1.length c1] w fun e w'=>e = .returned (.int .i64 r1) /\ IsS96 w0 w' g s0_0 r2 r3 /\ Below w0.heap.size w0 w' /\ KeepBut w w' g none:=by
 have HR1:=ak hr1
 have HC1:=ak hc1
 clear hr1 hc1
 have HI0:=ak hI
 have HK:=ak (KeepBut.refl w g none)
 have HL:=ak hB.size
 clear hI
 have HW0:=ak hB.size
 have HB:=ak hB
 clear hB
 have H:((spec_l1Cur_pick.f s0_0 s0_1 s0_2 (l1.length:Int)).bind fun bt285=>(if 0 <= bt285.1 then (if bt285.1 < (l1.length:Int) then (some (rd l1 bt285.1,bt285.2.1,bt285.2.2)) else (none)) else (none))) = some (r1,r2,r3):=h
 clear h
 replace H:=Option.bind_eq_some_iff.mp H
 obtain ⟨⟨t285,t286,t287⟩,A30,H⟩:=H
 replace H:(if 0 <= t285 then (if t285 < (l1.length:Int) then (some (rd l1 t285,t286,t287)) else (none)) else (none)) = some (r1,r2,r3):=H
 have A3:=ak A30
 clear A30
 by_cases c4:0 <= t285
 .
  rw [if_pos c4] at H
  have c4b0:decide (0 <= t285) = true:=decide_eq_true c4
  clear c4
  by_cases c5:t285 < (l1.length:Int)
  .
   rw [if_pos c5] at H
   have c5b0:decide (t285 < (l1.length:Int)) = true:=decide_eq_true c5
   clear c5
   simp only [Option.some.injEq,Prod.mk.injEq] at H
   obtain ⟨rfl,rfl,rfl⟩:=H
   go_enter Try.func86,Try.ntmps86
   go_wp2_with (first|((with_reducible refine gate_callee (f:=81) rfl ?_);refine ga_ (some 9) Try.func81 #[.pointer (some ⟨g,0,none⟩),.int .i64 (l1.length:Int)] ?_;(with_reducible refine (spec_l1Cur_pick.calls g s0_0 s0_1 s0_2 (l1.length:Int) t285 t286 t287 w0 _ ?side1 ?side2 A3.out).mono ?_);(case side1=>exact is96_0 HI0.out);(case side2=>exact lb1_ HB.out (IsS96.ge HI0.out));rintro e w6 ⟨rfl,hi,hb,hk⟩;refine ⟨_,rfl,?_⟩;replace HK:=ak (KeepBut.trans (kb0_ HK.out) hk (.inl rfl));replace HB:=ak (hb);replace HI0:=ak (hi);(try clear hb);(try clear hb2);(try clear hk);(try clear hi);have p288:0 <= (t285:Int):=dt_;have q288:t285 < (l1.length:Int):=dt_;obtain ⟨ad288,e288,hx288_0⟩:=Kd.at_int HR1.out t285 p288 q288;cases e288;replace hx288_0:=keep_cell HK.out hx288_0 (by first|(rw [add_block];exact hf1 _ rfl (by omega))|exact hf1 _ rfl (by omega)|exact hf1 ad288 rfl (by omega));replace p288:=eq_true p288;replace q288:=eq_true q288))
   go_ret
   exact ⟨rr_,is96_0 HI0.out,lb1_ HB.out (IsS96.ge HI0.out),kb0_ HK.out⟩
  .
   rw [if_neg c5] at H
   exact absurd H (by simp)
 .
  rw [if_neg c4] at H
  exact absurd H (by simp)
end Go.Proofs.Ythmjimboajmhmaa.Pr

namespace Go.Proofs.Ythmjimboajmhmaa.Pr.Pure
open Go.RowKit Go.Proofs.YthmjimboajmhmaaW.PrintWords Go.Proofs.YthmjimboajmhmaaW.PrintLast Go.Proofs.YthmjimboajmhmaaW.PrintMore
set_option linter.unusedVariables false
set_option linter.unusedSimpArgs false
def FAR:Int:=1073741824
structure Arc where
 a:Int
 b:Int
 t:Int
def step1 (D:List Int) (a b t:Int):List Int:=if rd D a + t < rd D b then D.set b.toNat (rd D a + t) else D
def rnd (A:List Arc) (D:List Int):List Int:=A.foldl (fun D e=>step1 D e.a e.b e.t) D
def it (A:List Arc):Nat -> List Int -> List Int
 | 0,D=>D
 | k + 1,D=>rnd A (it A k D)
def In8 (i:Int):Prop:=0 <= i /\ i < 8
def OkA (A:List Arc):Prop:=∀ e,e ∈ A -> In8 e.a /\ In8 e.b /\ 1 <= e.t /\ e.t <= 500
theorem rd_set {D:List Int} (hl:D.length = 8) {b i:Int} (hb:In8 b) (hi:In8 i) (x:Int):rd (D.set b.toNat x) i = if i = b then x else rd D i:=by
 unfold rd
 obtain ⟨hb0,hb1⟩:=hb
 obtain ⟨hi0,hi1⟩:=hi
 rw [List.getD_eq_getElem?_getD,List.getD_eq_getElem?_getD]
 by_cases e:i = b
 .
  subst e
  rw [if_pos rfl,List.getElem?_set_self (by omega)]
  rfl
 .
  rw [if_neg e,List.getElem?_set_ne (by omega)]
theorem len_step1 (D:List Int) (a b t:Int):(step1 D a b t).length = D.length:=by
 unfold step1
 split
 .
  rw [List.length_set]
 .
  rfl
theorem len_rnd (A:List Arc):∀ D:List Int,(rnd A D).length = D.length:=by
 induction A with
 | nil=>intro D;rfl
 | cons e A ih=>
  intro D
  show (rnd A (step1 D e.a e.b e.t)).length = _
  rw [ih,len_step1]
theorem rd_step1 {D:List Int} (hl:D.length = 8) {a b i:Int} (hb:In8 b) (hi:In8 i) (t:Int):rd (step1 D a b t) i = if i = b /\ rd D a + t < rd D b then rd D a + t else rd D i:=by
 unfold step1
 by_cases h:rd D a + t < rd D b
 .
  rw [if_pos h,rd_set hl hb hi]
  by_cases e:i = b
  .
   rw [if_pos e,if_pos ⟨e,h⟩]
  .
   rw [if_neg e,if_neg (fun z=>e z.1)]
 .
  rw [if_neg h,if_neg (fun z=>h z.2)]
theorem step1_le {D:List Int} (hl:D.length = 8) {a b i:Int} (hb:In8 b) (hi:In8 i) (t:Int):rd (step1 D a b t) i <= rd D i:=by
 rw [rd_step1 hl hb hi]
 split
 .
  rename_i h
  obtain ⟨rfl,h⟩:=h
  omega
 .
  omega
theorem rnd_le (A:List Arc) (hA:OkA A):∀ (D:List Int),D.length = 8 -> ∀ i,In8 i -> rd (rnd A D) i <= rd D i:=by
 induction A with
 | nil=>intro D _ i _;exact Int.le_refl _
 | cons e A ih=>
  intro D hl i hi
  have h1:=ih (fun x hx=>hA x (List.mem_cons_of_mem _ hx)) (step1 D e.a e.b e.t) (by rw [len_step1,hl]) i hi
  have h2:=step1_le (a:=e.a) (t:=e.t) hl (hA e List.mem_cons_self).2.1 hi
  exact Int.le_trans h1 h2
theorem rnd_arc (A:List Arc) (hA:OkA A):∀ (D:List Int),D.length = 8 -> ∀ e,e ∈ A -> rd (rnd A D) e.b <= rd D e.a + e.t:=by
 induction A with
 | nil=>intro D _ e he;cases he
 | cons x A ih=>
  intro D hl e he
  have hA':OkA A:=fun x hx=>hA x (List.mem_cons_of_mem _ hx)
  have hx:=hA x List.mem_cons_self
  have hl':(step1 D x.a x.b x.t).length = 8:=by rw [len_step1,hl]
  show rd (rnd A (step1 D x.a x.b x.t)) e.b <= _
  rcases List.mem_cons.1 he with rfl|he'
  .
   have h1:=rnd_le A hA' _ hl' e.b hx.2.1
   rw [rd_step1 hl hx.2.1 hx.2.1] at h1
   split at h1
   .
    exact h1
   .
    rename_i h
    have:¬ (rd D e.a + e.t < rd D e.b):=fun z=>h ⟨rfl,z⟩
    omega
  .
   have h1:=ih hA' _ hl' e he'
   have h2:=step1_le (a:=x.a) (t:=x.t) hl hx.2.1 (hA e he).1
   omega
structure Inv (A:List Arc) (D:List Int):Prop where
 len:D.length = 8
 lo:∀ i,In8 i -> 0 <= rd D i
 hi:∀ i,In8 i -> rd D i <= FAR
 zero:rd D 0 = 0
 tight:∀ v,In8 v -> v ≠ 0 -> rd D v < FAR -> ∃ e,e ∈ A /\ e.b = v /\ rd D e.a + e.t <= rd D v
theorem step_inv {A:List Arc} (hA:OkA A) {D:List Int} (h:Inv A D) {e:Arc} (he:e ∈ A):Inv A (step1 D e.a e.b e.t):=by
 obtain ⟨ha,hb,ht,ht'⟩:=hA e he
 have hz:In8 0:=⟨by omega,by omega⟩
 have la:=h.lo e.a ha
 have hle:=fun i hi=>step1_le (a:=e.a) (t:=e.t) h.len hb (i:=i) hi
 refine ⟨by rw [len_step1,h.len],fun i hi=>?_,fun i hi=>Int.le_trans (hle i hi) (h.hi i hi),?_,fun v hv hv0 hf=>?_⟩
 .
  rw [rd_step1 h.len hb hi]
  split
  .
   omega
  .
   exact h.lo i hi
 .
  rw [rd_step1 h.len hb hz]
  split
  .
   rename_i z
   obtain ⟨z1,z2⟩:=z
   rw [<- z1,h.zero] at z2
   omega
  .
   exact h.zero
 .
  by_cases hc:v = e.b /\ rd D e.a + e.t < rd D e.b
  .
   refine ⟨e,he,hc.1.symm,?_⟩
   have:=hle e.a ha
   have h2:=rd_step1 (a:=e.a) (t:=e.t) h.len hb hv
   rw [if_pos hc] at h2
   omega
  .
   have h2:=rd_step1 (a:=e.a) (t:=e.t) h.len hb hv
   rw [if_neg hc] at h2
   rw [h2] at hf ⊢
   obtain ⟨x,hx,hxb,hxl⟩:=h.tight v hv hv0 hf
   exact ⟨x,hx,hxb,by have:=hle x.a (hA x hx).1;omega⟩
theorem rnd_inv' {A:List Arc} (hA:OkA A) (B:List Arc):(∀ e,e ∈ B -> e ∈ A) -> ∀ D,Inv A D -> Inv A (rnd B D):=by
 induction B with
 | nil=>intro _ D h;exact h
 | cons e B ih=>
  intro hB D h
  exact ih (fun x hx=>hB x (List.mem_cons_of_mem _ hx)) _ (step_inv hA h (hB e List.mem_cons_self))
theorem rnd_inv {A:List Arc} (hA:OkA A) {D:List Int} (h:Inv A D):Inv A (rnd A D):=rnd_inv' hA A (fun _ he=>he) D h
theorem it_inv {A:List Arc} (hA:OkA A) {D:List Int} (h:Inv A D):∀ k,Inv A (it A k D)
 | 0=>h
 | k + 1=>rnd_inv hA (it_inv hA h k)
theorem cases8 {i:Int} (h:In8 i):i = 0 \/ i = 1 \/ i = 2 \/ i = 3 \/ i = 4 \/ i = 5 \/ i = 6 \/ i = 7:=by
 obtain ⟨h1,h2⟩:=h
 omega
theorem ext8 {D E:List Int} (hD:D.length = 8) (hE:E.length = 8) (h:∀ i,In8 i -> rd D i = rd E i):D = E:=by
 apply List.ext_getElem (by omega)
 intro i h1 h2
 have:=h (i:Int) ⟨by omega,by omega⟩
 unfold rd at this
 rw [Int.toNat_natCast,List.getD_eq_getElem?_getD,List.getD_eq_getElem?_getD,List.getElem?_eq_getElem h1,List.getElem?_eq_getElem h2] at this
 exact this
def sum8 (D:List Int):Int:=rd D 0 + rd D 1 + rd D 2 + rd D 3 + rd D 4 + rd D 5 + rd D 6 + rd D 7
theorem le_or {D E:List Int} (hD:D.length = 8) (hE:E.length = 8) (h:∀ i,In8 i -> rd E i <= rd D i):E = D \/ sum8 E < sum8 D:=by
 by_cases hq:∀ i,In8 i -> rd E i = rd D i
 .
  exact .inl (ext8 hE hD hq)
 .
  right
  obtain ⟨i,hi⟩:=Classical.not_forall.1 hq
  obtain ⟨hi8,hne⟩:=Classical.not_imp.1 hi
  have hlt:rd E i < rd D i:=by have:=h i hi8;omega
  have h0:=h 0 ⟨by omega,by omega⟩
  have h1:=h 1 ⟨by omega,by omega⟩
  have h2:=h 2 ⟨by omega,by omega⟩
  have h3:=h 3 ⟨by omega,by omega⟩
  have h4:=h 4 ⟨by omega,by omega⟩
  have h5:=h 5 ⟨by omega,by omega⟩
  have h6:=h 6 ⟨by omega,by omega⟩
  have h7:=h 7 ⟨by omega,by omega⟩
  unfold sum8
  rcases cases8 hi8 with rfl|rfl|rfl|rfl|rfl|rfl|rfl|rfl <;> omega
theorem sum8_nonneg {A:List Arc} {D:List Int} (h:Inv A D):0 <= sum8 D:=by
 have h0:=h.lo 0 ⟨by omega,by omega⟩
 have h1:=h.lo 1 ⟨by omega,by omega⟩
 have h2:=h.lo 2 ⟨by omega,by omega⟩
 have h3:=h.lo 3 ⟨by omega,by omega⟩
 have h4:=h.lo 4 ⟨by omega,by omega⟩
 have h5:=h.lo 5 ⟨by omega,by omega⟩
 have h6:=h.lo 6 ⟨by omega,by omega⟩
 have h7:=h.lo 7 ⟨by omega,by omega⟩
 unfold sum8
 omega
theorem it_succ (A:List Arc):∀ (k:Nat) (D:List Int),it A (k + 1) D = it A k (rnd A D)
 | 0,D=>rfl
 | k + 1,D=>by
  show rnd A (it A (k + 1) D) = rnd A (it A k (rnd A D))
  rw [it_succ A k D]
theorem exists_fix {A:List Arc} (hA:OkA A) (n:Nat):∀ D,Inv A D -> sum8 D <= n -> ∃ N,rnd A (it A N D) = it A N D:=by
 induction n with
 | zero=>
  intro D h hs
  rcases le_or h.len (by rw [len_rnd,h.len]) (rnd_le A hA D h.len) with e|e
  .
   exact ⟨0,e⟩
  .
   have:=sum8_nonneg (rnd_inv hA h)
   omega
 | succ n ih=>
  intro D h hs
  rcases le_or h.len (by rw [len_rnd,h.len]) (rnd_le A hA D h.len) with e|e
  .
   exact ⟨0,e⟩
  .
   obtain ⟨N,hN⟩:=ih (rnd A D) (rnd_inv hA h) (by omega)
   refine ⟨N + 1,?_⟩
   rw [it_succ]
   exact hN
theorem it_fix {A:List Arc} {D:List Int} (h:rnd A D = D):∀ k,it A k D = D
 | 0=>rfl
 | k + 1=>by
  show rnd A (it A k D) = D
  rw [it_fix h k,h]
theorem it_add (A:List Arc) (D:List Int) (j:Nat):∀ k,it A (j + k) D = it A k (it A j D)
 | 0=>rfl
 | k + 1=>by
  show rnd A (it A (j + k) D) = rnd A (it A k (it A j D))
  rw [it_add A D j k]
theorem it_anti {A:List Arc} (hA:OkA A) {D:List Int} (h:Inv A D) (j:Nat):∀ k i,In8 i -> rd (it A (j + k) D) i <= rd (it A j D) i
 | 0,i,hi=>Int.le_refl _
 | k + 1,i,hi=>Int.le_trans (rnd_le A hA _ (it_inv hA h (j + k)).len i hi) (it_anti hA h j k i hi)
def cnt (d:List Int) (i v:Int):Nat:=if rd d i < rd d v then 1 else 0
theorem cnt_mono (d:List Int) {u v:Int} (h:rd d u < rd d v) (i:Int):cnt d i u <= cnt d i v:=by
 unfold cnt
 split <;> split <;> omega
theorem cnt_le (d:List Int) (i v:Int):cnt d i v <= 1:=by
 unfold cnt
 split <;> omega
theorem cnt_self (d:List Int) (v:Int):cnt d v v = 0:=by
 unfold cnt
 rw [if_neg (by omega)]
theorem cnt_yes (d:List Int) {u v:Int} (h:rd d u < rd d v):cnt d u v = 1:=by
 unfold cnt
 rw [if_pos h]
def rank (d:List Int) (v:Int):Nat:=cnt d 0 v + cnt d 1 v + cnt d 2 v + cnt d 3 v + cnt d 4 v + cnt d 5 v + cnt d 6 v + cnt d 7 v
theorem rank_lt (d:List Int) {u v:Int} (hu:In8 u) (h:rd d u < rd d v):rank d u < rank d v:=by
 have m:=cnt_mono d h
 have m0:=m 0
 have m1:=m 1
 have m2:=m 2
 have m3:=m 3
 have m4:=m 4
 have m5:=m 5
 have m6:=m 6
 have m7:=m 7
 have s:=cnt_self d u
 have y:=cnt_yes d h
 clear m h
 unfold rank
 rcases cases8 hu with rfl|rfl|rfl|rfl|rfl|rfl|rfl|rfl <;> omega
theorem rank_le (d:List Int) {v:Int} (hv:In8 v):rank d v <= 7:=by
 have m:=fun i=>cnt_le d i v
 have m0:=m 0
 have m1:=m 1
 have m2:=m 2
 have m3:=m 3
 have m4:=m 4
 have m5:=m 5
 have m6:=m 6
 have m7:=m 7
 have s:=cnt_self d v
 clear m
 unfold rank
 rcases cases8 hv with rfl|rfl|rfl|rfl|rfl|rfl|rfl|rfl <;> omega
def D0:List Int:=[0,FAR,FAR,FAR,FAR,FAR,FAR,FAR]
theorem D0_far {v:Int} (hv:In8 v) (h0:v ≠ 0):rd D0 v = FAR:=by
 rcases cases8 hv with rfl|rfl|rfl|rfl|rfl|rfl|rfl|rfl
 .
  exact absurd rfl h0
 all_goals rfl
theorem D0_inv (A:List Arc):Inv A D0:=by
 refine ⟨rfl,fun i hi=>?_,fun i hi=>?_,rfl,fun v hv h0 hf=>?_⟩
 .
  by_cases h:i = 0
  .
   rw [h];decide
  .
   rw [D0_far hi h];decide
 .
  by_cases h:i = 0
  .
   rw [h];decide
  .
   rw [D0_far hi h];decide
 .
  rw [D0_far hv h0] at hf
  omega
theorem it_rank {A:List Arc} (hA:OkA A) {d:List Int} (hd:Inv A d) (hle:∀ k i,In8 i -> rd d i <= rd (it A k D0) i):∀ (k:Nat) (v:Int),In8 v -> rank d v <= k -> rd (it A k D0) v = rd d v:=by
 intro k
 induction k with
 | zero=>
  intro v hv hr
  by_cases h0:v = 0
  .
   rw [h0,hd.zero];rfl
  .
   show rd D0 v = _
   rw [D0_far hv h0]
   have h1:=hd.hi v hv
   by_cases hf:rd d v < FAR
   .
    obtain ⟨e,he,rfl,hl⟩:=hd.tight v hv h0 hf
    obtain ⟨ha,hb,ht,_⟩:=hA e he
    have:=rank_lt d ha (show rd d e.a < rd d e.b by omega)
    omega
   .
    omega
 | succ k ih=>
  intro v hv hr
  have h1:=hle (k + 1) v hv
  have h2:=(it_inv hA (D0_inv A) (k + 1)).hi v hv
  by_cases h0:v = 0
  .
   rw [h0,hd.zero,(it_inv hA (D0_inv A) (k + 1)).zero]
  .
   by_cases hf:rd d v < FAR
   .
    obtain ⟨e,he,rfl,hl⟩:=hd.tight v hv h0 hf
    obtain ⟨ha,hb,ht,_⟩:=hA e he
    have h3:=rank_lt d ha (show rd d e.a < rd d e.b by omega)
    have h4:=ih e.a ha (by omega)
    have h5:=rnd_arc A hA _ (it_inv hA (D0_inv A) k).len e he
    have h6:rd (it A (k + 1) D0) e.b <= rd (it A k D0) e.a + e.t:=h5
    omega
   .
    have:=hd.hi v hv
    omega
theorem fix7 {A:List Arc} (hA:OkA A):rnd A (it A 7 D0) = it A 7 D0:=by
 obtain ⟨N,hN⟩:=exists_fix hA (sum8 D0).toNat D0 (D0_inv A) (by have:=sum8_nonneg (D0_inv A);omega)
 have hi:=it_inv hA (D0_inv A) N
 have hle:∀ k i,In8 i -> rd (it A N D0) i <= rd (it A k D0) i:=by
  intro k i hi8
  rcases Nat.le_total k N with h|h
  .
   have:=it_anti hA (D0_inv A) k (N - k) i hi8
   rwa [show k + (N - k) = N by omega] at this
  .
   have:=it_add A D0 N (k - N)
   rw [show N + (k - N) = k by omega,it_fix hN] at this
   rw [this]
   exact Int.le_refl _
 have e:it A 7 D0 = it A N D0:=ext8 (it_inv hA (D0_inv A) 7).len hi.len (fun i h8=>it_rank hA hi hle 7 i h8 (rank_le _ h8))
 rw [e,hN]
def dec (x:Int):Int:=if x = FAR then -1 else x
def Bd (c:Int) (D:List Int):Prop:=∀ i,In8 i -> rd D i = FAR \/ rd D i <= c
theorem Bd.mono {c c':Int} {D:List Int} (h:Bd c D) (hc:c <= c'):Bd c' D:=fun i hi=>by
 rcases h i hi with h|h
 .
  exact .inl h
 .
  exact .inr (by omega)
theorem step_bd {c:Int} {D:List Int} (hl:D.length = 8) (h:Bd c D) {a b t:Int} (ha:In8 a) (hb:In8 b) (ht:t <= 500) (hh:∀ i,In8 i -> rd D i <= FAR) (ht0:0 <= t):Bd (c + 500) (step1 D a b t):=fun i hi=>by
 rw [rd_step1 hl hb hi]
 split
 .
  rename_i z
  rcases h a ha with e|e
  .
   have:=hh b hb
   omega
  .
   exact .inr (by omega)
 .
  rcases h i hi with e|e
  .
   exact .inl e
  .
   exact .inr (by omega)
theorem rd_map {D:List Int} (hl:D.length = 8) {i:Int} (hi:In8 i):rd (D.map dec) i = dec (rd D i):=by
 obtain ⟨h0,h1⟩:=hi
 unfold rd
 rw [List.getD_eq_getElem?_getD,List.getD_eq_getElem?_getD,List.getElem?_map,List.getElem?_eq_getElem (by omega)]
 rfl
theorem dec_nonneg {x:Int} (h:0 <= x) (h':x <= FAR):dec x >= 0 ↔ x < FAR:=by
 unfold dec
 split <;> omega
theorem map_set_dec (D:List Int) (n:Nat) (x:Int) (hx:x ≠ FAR):(D.map dec).set n x = (D.set n x).map dec:=by
 rw [List.map_set]
 congr 1
 unfold dec
 rw [if_neg hx]
theorem cond_dec {c:Int} {D:List Int} (hl:D.length = 8) (hlo:∀ i,In8 i -> 0 <= rd D i) (hhi:∀ i,In8 i -> rd D i <= FAR) (hb:Bd c D) (hc:c + 500 < FAR) {a b t:Int} (ha:In8 a) (hb8:In8 b) (ht:1 <= t) (ht':t <= 500) :
  (rd (D.map dec) a >= 0 ↔ rd D a < FAR) /\ (rd D a < FAR -> rd (D.map dec) a = rd D a /\ (rd (D.map dec) b < 0 \/ rd D a + t < rd (D.map dec) b ↔ rd D a + t < rd D b) /\ rd D a + t < FAR) /\ (¬ rd D a < FAR -> ¬ rd D a + t < rd D b):=by
 rw [rd_map hl ha,rd_map hl hb8]
 have a0:=hlo a ha
 have a1:=hhi a ha
 have b0:=hlo b hb8
 have b1:=hhi b hb8
 have a2:=hb a ha
 unfold FAR at *
 refine ⟨dec_nonneg a0 a1,fun h=>⟨?_,?_,?_⟩,fun h=>by omega⟩
 .
  unfold dec FAR
  rw [if_neg (by omega)]
 .
  unfold dec FAR
  split <;> omega
 .
  omega
theorem relax_comm {D:List Int} (hl:D.length = 8) {a b t:Int} (ha:In8 a) (hb:In8 b) (ht:1 <= t):step1 (step1 D b a t) a b t = step1 (step1 D a b t) b a t:=by
 apply ext8 (by rw [len_step1,len_step1,hl]) (by rw [len_step1,len_step1,hl])
 intro i hi
 have l1:(step1 D b a t).length = 8:=by rw [len_step1,hl]
 have l2:(step1 D a b t).length = 8:=by rw [len_step1,hl]
 rw [rd_step1 l1 hb hi,rd_step1 l2 ha hi,rd_step1 hl ha ha,rd_step1 hl ha hb,rd_step1 hl ha hi,rd_step1 hl hb hb,rd_step1 hl hb ha,rd_step1 hl hb hi]
 by_cases e:a = b
 .
  subst e
  simp only [true_and]
 .
  have e':¬ b = a:=fun h=>e h.symm
  simp only [e,e',false_and,if_false,true_and]
  by_cases c1:rd D b + t < rd D a
  .
   simp only [c1,if_true,and_true]
   have c2:¬ rd D a + t < rd D b:=by omega
   have c3:¬ rd D b + t + t < rd D b:=by omega
   simp only [c2,c3,and_false,if_false,c1,and_true]
  .
   by_cases c2:rd D a + t < rd D b
   .
    have c3:¬ rd D a + t + t < rd D a:=by omega
    simp only [c1,c2,c3,and_false,and_true,if_false,if_true]
   .
    simp only [c1,c2,and_false,if_false]
end Go.Proofs.Ythmjimboajmhmaa.Pr.Pure

