/-
What is proved: parts of the law FnExplorers: what the functions that it reaches compute, and the plain law.
Conditions: those of each theorem.
-/
import Derived.Test.YthmjimboajmhmaaCFnExplorers2
set_option maxHeartbeats 8000000
set_option maxRecDepth 100000
namespace Go.Proofs.Ythmjimboajmhmaa.Pr
open Go.RowKit Go.Proofs.YthmjimboajmhmaaW.PrintWords Go.Proofs.YthmjimboajmhmaaW.PrintLast Go.Proofs.YthmjimboajmhmaaW.PrintMore
attribute [local go_sem] max2_int min2_int max_two min_two max_three min_three max_four min_four   -- for this text's walks alone
set_option linter.unusedVariables false
set_option linter.unusedSimpArgs false
def spec_SpareLight.f (k:Nat) (l0_0:List (S37)) (l0_1:List Bool) (l0_2:List Bool) (a0_3:Int) (a0_4:Int):Option (Int × Bool):=(spec_l25Good.f k l0_0 l0_1 l0_2 a0_3 a0_4).bind fun t971=>(if t971 = true then ((spec_l25Out.f k l0_0 l0_1 a0_3).bind fun t972=>(some (wrap64 (a0_4 - t972),true))) else (some (0,false)))
def spec_SpareLight.T3:Bool × List (List Nat × List Nat):=(true,[([],[]),([0],[0]),([],[]),([2],[2]),([],[]),([4],[4]),([],[]),([6],[6]),([3,5,7],[3,5,7]),([1,8],[1,8]),([9,8,0,1,2,3,4,5,6,7,8,9],[9]),([10,0,1,2,3,4,5,6,7,8,9,10],[])])
def spec_SpareLight.B3:List Nat:=[0,1,0,4,0,16,0,64,252,511,1023,2047]
theorem spec_SpareLight.tab3:rtab .any (opsOf Try.f35 3) = spec_SpareLight.T3:=by kernel_rfl
theorem spec_SpareLight.bits3:waitsOk spec_SpareLight.T3.2 spec_SpareLight.B3 = true:=by kernel_rfl
abbrev spec_SpareLight.mk0:Array Bool:=#[fF,fF,fF,fF,fF,fF,fF,fF,fF,fF,fF,fF]
abbrev spec_SpareLight.mk1:Array Bool:=#[tT,fF,fF,fF,fF,fF,fF,fF,fF,fF,fF,fF]
abbrev spec_SpareLight.mk2:Array Bool:=#[tT,fF,tT,fF,fF,fF,fF,fF,fF,fF,fF,fF]
abbrev spec_SpareLight.mk3:Array Bool:=#[tT,fF,tT,fF,tT,fF,fF,fF,fF,fF,fF,fF]
abbrev spec_SpareLight.mk4:Array Bool:=#[tT,fF,tT,fF,tT,fF,tT,fF,fF,fF,fF,fF]
abbrev spec_SpareLight.mk5:Array Bool:=#[tT,tT,tT,fF,tT,fF,tT,fF,fF,fF,fF,fF]
abbrev spec_SpareLight.mk6:Array Bool:=#[tT,tT,tT,tT,tT,fF,tT,fF,fF,fF,fF,fF]
abbrev spec_SpareLight.mk7:Array Bool:=#[tT,tT,tT,tT,tT,tT,tT,fF,fF,fF,fF,fF]
abbrev spec_SpareLight.mk8:Array Bool:=#[tT,tT,tT,tT,tT,tT,tT,tT,fF,fF,fF,fF]
abbrev spec_SpareLight.mk9:Array Bool:=#[tT,tT,tT,tT,tT,tT,tT,tT,tT,fF,fF,fF]
abbrev spec_SpareLight.mk10:Array Bool:=#[tT,tT,tT,tT,tT,tT,tT,tT,tT,tT,fF,fF]
abbrev spec_SpareLight.mk11:Array Bool:=#[tT,tT,tT,tT,tT,tT,tT,tT,tT,tT,tT,fF]
abbrev spec_SpareLight.mk12:Array Bool:=#[tT,tT,tT,tT,tT,tT,tT,tT,tT,tT,tT,tT]
theorem spec_SpareLight.calls (k:Nat) (A0_0:Option Addr) (c0_0:Nat) (l0_0:List (S37)) (A0_1:Option Addr) (c0_1:Nat) (l0_1:List Bool) (A0_2:Option Addr) (c0_2:Nat) (l0_2:List Bool) (a0_3:Int) (a0_4:Int) (r1:Int) (r2:Bool) (w:World) (hr0_0:Kd.C k37 w A0_0 l0_0.length l0_0) (hc0_0:l0_0.length <= c0_0) (hr0_1:Kd.C Kd.bool w A0_1 l0_1.length l0_1) (hc0_1:l0_1.length <= c0_1) (hr0_2:Kd.C Kd.bool w A0_2 l0_2.length l0_2) (hc0_2:l0_2.length <= c0_2) (h:spec_SpareLight.f k l0_0 l0_1 l0_2 a0_3 a0_4 = some (r1,r2)) :
  Calls Try.prog 35 #[.agg #[.slice A0_0 l0_0.length c0_0,.slice A0_1 l0_1.length c0_1,.slice A0_2 l0_2.length c0_2,.int .i64 a0_3,.int .i64 a0_4]] w fun e w'=>e = .returned (.tuple #[.int .i64 r1,.bool r2]) /\ Below w.heap.size w w':=by
 have hu30:=Try.underlying30
 have HR0_0:=ak hr0_0
 have HC0_0:=ak hc0_0
 clear hr0_0 hc0_0
 have HR0_1:=ak hr0_1
 have HC0_1:=ak hc0_1
 clear hr0_1 hc0_1
 have HR0_2:=ak hr0_2
 have HC0_2:=ak hc0_2
 clear hr0_2 hc0_2
 have HB:=ak (Below.refl w.heap.size w)
 have H:((spec_l25Good.f k l0_0 l0_1 l0_2 a0_3 a0_4).bind fun t971=>(if t971 = true then ((spec_l25Out.f k l0_0 l0_1 a0_3).bind fun t972=>(some (wrap64 (a0_4 - t972),true))) else (some (0,false)))) = some (r1,r2):=h
 clear h
 replace H:=Option.bind_eq_some_iff.mp H
 obtain ⟨t971,A20,H⟩:=H
 replace H:(if t971 = true then ((spec_l25Out.f k l0_0 l0_1 a0_3).bind fun t972=>(some (wrap64 (a0_4 - t972),true))) else (some (0,false))) = some (r1,r2):=H
 have A2:=ak A20
 clear A20
 by_cases c3:t971 = true
 .
  subst c3
  have H1:((spec_l25Out.f k l0_0 l0_1 a0_3).bind fun t972=>(some (wrap64 (a0_4 - t972),true))) = some (r1,r2):=by rw [if_pos rfl] at H;exact H
  clear H
  have H:=H1
  clear H1
  replace H:=Option.bind_eq_some_iff.mp H
  obtain ⟨t972,A40,H⟩:=H
  replace H:(some (wrap64 (a0_4 - t972),true)) = some (r1,r2):=H
  have A4:=ak A40
  clear A40
  simp only [Option.some.injEq,Prod.mk.injEq] at H
  obtain ⟨rfl,rfl⟩:=H
  go_enter Try.func35,Try.ntmps35
  try go_wp2_with (first|((with_reducible refine gate_dst (N:=1) rfl ?_);refine box_event ?hg (N:=1) ?hd (cs:=#[.slice A0_0 l0_0.length c0_0,.slice A0_1 l0_1.length c0_1,.slice A0_2 l0_2.length c0_2,.int .i64 a0_3,.int .i64 a0_4]) (t:=30) ?hr ?_;(case hd=>rfl);(case hg=>rfl);(case hr=>first|(go_simp;done)|(go_simp;rfl));intro gb970 hg w5 hbox hb;have BK970:=ak (hbox);have GW970:=ak ((bz_ hg (lb0_ HB.out)));have GE970:=ak ((bz_ hg (lb0_ HB.out)));replace HB:=ak (below_step (lb0_ HB.out) hb);clear hb hbox hg;obtain ⟨hcz6_0,hcz6_1,hcz6_2,hcz6_3,hcz6_4⟩:=cz5_ BK970.out;obtain ⟨hfz6_0,hfz6_1,hfz6_2,hfz6_3,hfz6_4⟩:=fz5_ BK970.out)|((with_reducible refine gate_callee (f:=67) rfl ?_);refine ga_ (some 5) Try.func67 #[.agg #[.slice A0_0 l0_0.length c0_0,.slice A0_1 l0_1.length c0_1,.slice A0_2 l0_2.length c0_2,.int .i64 a0_3,.int .i64 a0_4]] ?_;(with_reducible refine (spec_l25Good.calls k _ _ l0_0 _ _ l0_1 _ _ l0_2 a0_3 a0_4 true _ ?side1 ?side2 ?side3 ?side4 ?side5 ?side6 A2.out).mono ?_);(case side1=>exact kc_ (Kd.C_below HR0_0.out HB.out));(case side2=>exact HC0_0.out);(case side3=>exact kc_ (Kd.C_below HR0_1.out HB.out));(case side4=>exact HC0_1.out);(case side5=>exact kc_ (Kd.C_below HR0_2.out HB.out));(case side6=>exact HC0_2.out);rintro e w7 ⟨rfl,hb⟩;refine ⟨_,rfl,?_⟩;replace BK970:=ak (bb_ (bk_ BK970.out) hb);replace HB:=ak (below_step (lb1_ HB.out GE970.out) hb);(try clear hb);(try clear hb2);(try clear hk);(try clear hi)))
  replace BK970:=ak (blk_drew BK970.out)
  replace HB:=ak (below_drew1 HB.out)
  refine start_ (n:=12) (S:=fun w'=>w'.cell? ⟨gb970,0,none⟩ = some (.slice A0_0 l0_0.length c0_0) /\ w'.cell? ⟨gb970,1,none⟩ = some (.slice A0_1 l0_1.length c0_1) /\ w'.cell? ⟨gb970,2,none⟩ = some (.slice A0_2 l0_2.length c0_2) /\ w'.cell? ⟨gb970,3,none⟩ = some (.int .i64 a0_3) /\ w'.cell? ⟨gb970,4,none⟩ = some (.int .i64 a0_4)) (ds:=[]) spec_SpareLight.mk0 (by kernel_rfl) rfl rfl ⟨(blk_cell BK970.out 0).trans rfl,(blk_cell BK970.out 1).trans rfl,(blk_cell BK970.out 2).trans rfl,(blk_cell BK970.out 3).trans rfl,(blk_cell BK970.out 4).trans rfl⟩ (fun hHeld=>?_);refine with_tabW spec_SpareLight.tab3 spec_SpareLight.bits3 (fun HT_ HW_=>?_)
  generalize w7.drew = w8 at BK970 HB hHeld ⊢
  refine pz_ HT_ 0 (some 7) spec_SpareLight.mk1 ?_
  refine pz_ HT_ 2 (some 9) spec_SpareLight.mk2 ?_
  refine pz_ HT_ 4 (some 11) spec_SpareLight.mk3 ?_
  refine pz_ HT_ 6 (some 13) spec_SpareLight.mk4 ?_
  refine tk_ HT_ HW_ hHeld 1 (some 8) spec_SpareLight.mk5 ?_
  refine tk_ HT_ HW_ hHeld 3 (some 10) spec_SpareLight.mk6 ?_
  refine tk_ HT_ HW_ hHeld 5 (some 12) spec_SpareLight.mk7 ?_
  refine tk_ HT_ HW_ hHeld 7 (some 14) spec_SpareLight.mk8 ?_
  refine one_ (i:=8) (N:=some 15) spec_SpareLight.mk9 rfl rfl (one_of HT_.out (by kernel_rfl)) (by decide) (fun K hK=>?_)
  refine gs_ Try.func88 #[.slice A0_0 l0_0.length c0_0,.slice A0_1 l0_1.length c0_1,.int .i64 a0_3] ?_
  with_reducible refine (spec_l25Out.calls k _ _ l0_0 _ _ l0_1 a0_3 t972 _ ?side1 ?side2 ?side3 ?side4 A4.out).mono ?_
  (case side1=>exact kc_ (Kd.C_below HR0_0.out HB.out))
  (case side2=>exact HC0_0.out)
  (case side3=>exact kc_ (Kd.C_below HR0_1.out HB.out))
  (case side4=>exact HC0_1.out)
  rintro e w9 ⟨rfl,hb⟩
  refine ⟨_,rfl,?_⟩
  replace BK970:=ak (bb_ (bk_ BK970.out) hb)
  replace HB:=ak (below_step (lb1_ HB.out GE970.out) hb)
  (try clear hb)
  (try clear hb2)
  (try clear hk)
  (try clear hi)
  refine hK.out _ _ ⟨(blk_cell BK970.out 0).trans rfl,(blk_cell BK970.out 1).trans rfl,(blk_cell BK970.out 2).trans rfl,(blk_cell BK970.out 3).trans rfl,(blk_cell BK970.out 4).trans rfl⟩ (fun hHeld=>?_)
  clear hK K
  refine na_ ?_
  refine pz_ HT_ 9 (some 16) spec_SpareLight.mk10 ?_
  refine pz_ HT_ 10 (some 2) spec_SpareLight.mk11 ?_
  refine pz_ HT_ 11 (some 3) spec_SpareLight.mk12 ?_
  refine done_ (done_of HT_.out (by kernel_rfl)) ?_
  try go_wp2
  go_ret2
  exact ⟨rr_,lb1_ HB.out GE970.out⟩
 .
  replace c3:=Bool.eq_false_iff.mpr c3
  subst c3
  have H1:(some (0,false)) = some (r1,r2):=by rw [if_neg (show ¬ (false = true) by decide)] at H;exact H
  clear H
  have H:=H1
  clear H1
  simp only [Option.some.injEq,Prod.mk.injEq] at H
  obtain ⟨rfl,rfl⟩:=H
  go_enter Try.func35,Try.ntmps35
  go_wp2_with (first|((with_reducible refine gate_dst (N:=1) rfl ?_);refine box_event ?hg (N:=1) ?hd (cs:=#[.slice A0_0 l0_0.length c0_0,.slice A0_1 l0_1.length c0_1,.slice A0_2 l0_2.length c0_2,.int .i64 a0_3,.int .i64 a0_4]) (t:=30) ?hr ?_;(case hd=>rfl);(case hg=>rfl);(case hr=>first|(go_simp;done)|(go_simp;rfl));intro gb970 hg w10 hbox hb;have BK970:=ak (hbox);have GW970:=ak ((bz_ hg (lb0_ HB.out)));have GE970:=ak ((bz_ hg (lb0_ HB.out)));replace HB:=ak (below_step (lb0_ HB.out) hb);clear hb hbox hg;obtain ⟨hcz11_0,hcz11_1,hcz11_2,hcz11_3,hcz11_4⟩:=cz5_ BK970.out;obtain ⟨hfz11_0,hfz11_1,hfz11_2,hfz11_3,hfz11_4⟩:=fz5_ BK970.out)|((with_reducible refine gate_callee (f:=67) rfl ?_);refine ga_ (some 5) Try.func67 #[.agg #[.slice A0_0 l0_0.length c0_0,.slice A0_1 l0_1.length c0_1,.slice A0_2 l0_2.length c0_2,.int .i64 a0_3,.int .i64 a0_4]] ?_;(with_reducible refine (spec_l25Good.calls k _ _ l0_0 _ _ l0_1 _ _ l0_2 a0_3 a0_4 false _ ?side1 ?side2 ?side3 ?side4 ?side5 ?side6 A2.out).mono ?_);(case side1=>exact kc_ (Kd.C_below HR0_0.out HB.out));(case side2=>exact HC0_0.out);(case side3=>exact kc_ (Kd.C_below HR0_1.out HB.out));(case side4=>exact HC0_1.out);(case side5=>exact kc_ (Kd.C_below HR0_2.out HB.out));(case side6=>exact HC0_2.out);rintro e w12 ⟨rfl,hb⟩;refine ⟨_,rfl,?_⟩;replace BK970:=ak (bb_ (bk_ BK970.out) hb);replace HB:=ak (below_step (lb1_ HB.out GE970.out) hb);(try clear hb);(try clear hb2);(try clear hk);(try clear hi)))
  go_ret2
  exact ⟨rr_,lb1_ HB.out GE970.out⟩
def spec_VisitedLength.l0:Nat -> Int -> Int -> List (S37) -> List Bool -> List Bool -> Int -> Int -> Option (Int × Bool)
 | 0,_,_,_,_,_,_,_=>none
 | k + 1,x4,x5,x1015000,x1015001,x1015002,x1015003,x1015004=>if x5 < (x1015000.length:Int) then (if 0 <= x5 then (if 0 <= ((rd_T37 x1015000 x5).f0) then (if ((rd_T37 x1015000 x5).f0) < (x1015001.length:Int) then (if rdOf false x1015001 ((rd_T37 x1015000 x5).f0) = true then (if 0 <= ((rd_T37 x1015000 x5).f1) then (if ((rd_T37 x1015000 x5).f1) < (x1015001.length:Int) then (if rdOf false x1015001 ((rd_T37 x1015000 x5).f1) = true then (spec_VisitedLength.l0 k (wrap64 (x4 + ((rd_T37 x1015000 x5).f2))) (wrap64 (x5 + 1)) x1015000 x1015001 x1015002 x1015003 x1015004) else (spec_VisitedLength.l0 k x4 (wrap64 (x5 + 1)) x1015000 x1015001 x1015002 x1015003 x1015004)) else (none)) else (none)) else (spec_VisitedLength.l0 k x4 (wrap64 (x5 + 1)) x1015000 x1015001 x1015002 x1015003 x1015004)) else (none)) else (none)) else (none)) else (some (x4,true))
def spec_VisitedLength.f (k:Nat) (l0_0:List (S37)) (l0_1:List Bool) (l0_2:List Bool) (a0_3:Int) (a0_4:Int):Option (Int × Bool):=(spec_l25Good.f k l0_0 l0_1 l0_2 a0_3 a0_4).bind fun t1015=>(if t1015 = true then (spec_VisitedLength.l0 k 0 0 l0_0 l0_1 l0_2 a0_3 a0_4) else (some (0,false)))
theorem spec_VisitedLength.calls (k:Nat) (A0_0:Option Addr) (c0_0:Nat) (l0_0:List (S37)) (A0_1:Option Addr) (c0_1:Nat) (l0_1:List Bool) (A0_2:Option Addr) (c0_2:Nat) (l0_2:List Bool) (a0_3:Int) (a0_4:Int) (r1:Int) (r2:Bool) (w:World) (hr0_0:Kd.C k37 w A0_0 l0_0.length l0_0) (hc0_0:l0_0.length <= c0_0) (hr0_1:Kd.C Kd.bool w A0_1 l0_1.length l0_1) (hc0_1:l0_1.length <= c0_1) (hr0_2:Kd.C Kd.bool w A0_2 l0_2.length l0_2) (hc0_2:l0_2.length <= c0_2) (h:spec_VisitedLength.f k l0_0 l0_1 l0_2 a0_3 a0_4 = some (r1,r2)) :
  Calls Try.prog 36 #[.agg #[.slice A0_0 l0_0.length c0_0,.slice A0_1 l0_1.length c0_1,.slice A0_2 l0_2.length c0_2,.int .i64 a0_3,.int .i64 a0_4]] w fun e w'=>e = .returned (.tuple #[.int .i64 r1,.bool r2]) /\ Below w.heap.size w w':=by
 have hu30:=Try.underlying30
 have HR0_0:=ak hr0_0
 have HC0_0:=ak hc0_0
 clear hr0_0 hc0_0
 have HR0_1:=ak hr0_1
 have HC0_1:=ak hc0_1
 clear hr0_1 hc0_1
 have HR0_2:=ak hr0_2
 have HC0_2:=ak hc0_2
 clear hr0_2 hc0_2
 have HB:=ak (Below.refl w.heap.size w)
 have H:((spec_l25Good.f k l0_0 l0_1 l0_2 a0_3 a0_4).bind fun t1015=>(if t1015 = true then (spec_VisitedLength.l0 k 0 0 l0_0 l0_1 l0_2 a0_3 a0_4) else (some (0,false)))) = some (r1,r2):=h
 clear h
 replace H:=Option.bind_eq_some_iff.mp H
 obtain ⟨t1015,A20,H⟩:=H
 replace H:(if t1015 = true then (spec_VisitedLength.l0 k 0 0 l0_0 l0_1 l0_2 a0_3 a0_4) else (some (0,false))) = some (r1,r2):=H
 have A2:=ak A20
 clear A20
 by_cases c3:t1015 = true
 .
  subst c3
  have H1:(spec_VisitedLength.l0 k 0 0 l0_0 l0_1 l0_2 a0_3 a0_4) = some (r1,r2):=by rw [if_pos rfl] at H;exact H
  clear H
  have H:=H1
  clear H1
  have H':=ak H
  clear H
  go_enter Try.func36,Try.ntmps36
  go_wp2_with (first|((with_reducible refine gate_dst (N:=1) rfl ?_);refine box_event ?hg (N:=1) ?hd (cs:=#[.slice A0_0 l0_0.length c0_0,.slice A0_1 l0_1.length c0_1,.slice A0_2 l0_2.length c0_2,.int .i64 a0_3,.int .i64 a0_4]) (t:=30) ?hr ?_;(case hd=>rfl);(case hg=>rfl);(case hr=>first|(go_simp;done)|(go_simp;rfl));intro gb1014 hg w4 hbox hb;have BK1014:=ak (hbox);have GW1014:=ak ((bz_ hg (lb0_ HB.out)));have GE1014:=ak ((bz_ hg (lb0_ HB.out)));replace HB:=ak (below_step (lb0_ HB.out) hb);clear hb hbox hg;obtain ⟨hcz5_0,hcz5_1,hcz5_2,hcz5_3,hcz5_4⟩:=cz5_ BK1014.out;obtain ⟨hfz5_0,hfz5_1,hfz5_2,hfz5_3,hfz5_4⟩:=fz5_ BK1014.out)|(go_at_call 67;(with_reducible refine (spec_l25Good.calls k _ _ l0_0 _ _ l0_1 _ _ l0_2 a0_3 a0_4 true _ ?side1 ?side2 ?side3 ?side4 ?side5 ?side6 A2.out).mono ?_);(case side1=>exact kc_ (Kd.C_below HR0_0.out HB.out));(case side2=>exact HC0_0.out);(case side3=>exact kc_ (Kd.C_below HR0_1.out HB.out));(case side4=>exact HC0_1.out);(case side5=>exact kc_ (Kd.C_below HR0_2.out HB.out));(case side6=>exact HC0_2.out);rintro e w6 ⟨rfl,hb⟩;replace BK1014:=ak (bb_ (bk_ BK1014.out) hb);replace HB:=ak (below_step (lb1_ HB.out GE1014.out) hb);(try clear hb);(try clear hb2);(try clear hk);(try clear hi)))
  repeat (go_quiet (first|((with_reducible refine gate_dst (N:=1) rfl ?_);refine box_event ?hg (N:=1) ?hd (cs:=#[.slice A0_0 l0_0.length c0_0,.slice A0_1 l0_1.length c0_1,.slice A0_2 l0_2.length c0_2,.int .i64 a0_3,.int .i64 a0_4]) (t:=30) ?hr ?_;(case hd=>rfl);(case hg=>rfl);(case hr=>first|(go_simp;done)|(go_simp;rfl));intro gb1014 hg w4 hbox hb;have BK1014:=ak (hbox);have GW1014:=ak ((bz_ hg (lb0_ HB.out)));have GE1014:=ak ((bz_ hg (lb0_ HB.out)));replace HB:=ak (below_step (lb0_ HB.out) hb);clear hb hbox hg;obtain ⟨hcz5_0,hcz5_1,hcz5_2,hcz5_3,hcz5_4⟩:=cz5_ BK1014.out;obtain ⟨hfz5_0,hfz5_1,hfz5_2,hfz5_3,hfz5_4⟩:=fz5_ BK1014.out)|(go_at_call 67;(with_reducible refine (spec_l25Good.calls k _ _ l0_0 _ _ l0_1 _ _ l0_2 a0_3 a0_4 true _ ?side1 ?side2 ?side3 ?side4 ?side5 ?side6 A2.out).mono ?_);(case side1=>exact kc_ (Kd.C_below HR0_0.out HB.out));(case side2=>exact HC0_0.out);(case side3=>exact kc_ (Kd.C_below HR0_1.out HB.out));(case side4=>exact HC0_1.out);(case side5=>exact kc_ (Kd.C_below HR0_2.out HB.out));(case side6=>exact HC0_2.out);rintro e w6 ⟨rfl,hb⟩;replace BK1014:=ak (bb_ (bk_ BK1014.out) hb);replace HB:=ak (below_step (lb1_ HB.out GE1014.out) hb);(try clear hb);(try clear hb2);(try clear hk);(try clear hi)));try go_wp2_with (first|((with_reducible refine gate_dst (N:=1) rfl ?_);refine box_event ?hg (N:=1) ?hd (cs:=#[.slice A0_0 l0_0.length c0_0,.slice A0_1 l0_1.length c0_1,.slice A0_2 l0_2.length c0_2,.int .i64 a0_3,.int .i64 a0_4]) (t:=30) ?hr ?_;(case hd=>rfl);(case hg=>rfl);(case hr=>first|(go_simp;done)|(go_simp;rfl));intro gb1014 hg w4 hbox hb;have BK1014:=ak (hbox);have GW1014:=ak ((bz_ hg (lb0_ HB.out)));have GE1014:=ak ((bz_ hg (lb0_ HB.out)));replace HB:=ak (below_step (lb0_ HB.out) hb);clear hb hbox hg;obtain ⟨hcz5_0,hcz5_1,hcz5_2,hcz5_3,hcz5_4⟩:=cz5_ BK1014.out;obtain ⟨hfz5_0,hfz5_1,hfz5_2,hfz5_3,hfz5_4⟩:=fz5_ BK1014.out)|(go_at_call 67;(with_reducible refine (spec_l25Good.calls k _ _ l0_0 _ _ l0_1 _ _ l0_2 a0_3 a0_4 true _ ?side1 ?side2 ?side3 ?side4 ?side5 ?side6 A2.out).mono ?_);(case side1=>exact kc_ (Kd.C_below HR0_0.out HB.out));(case side2=>exact HC0_0.out);(case side3=>exact kc_ (Kd.C_below HR0_1.out HB.out));(case side4=>exact HC0_1.out);(case side5=>exact kc_ (Kd.C_below HR0_2.out HB.out));(case side6=>exact HC0_2.out);rintro e w6 ⟨rfl,hb⟩;replace BK1014:=ak (bb_ (bk_ BK1014.out) hb);replace HB:=ak (below_step (lb1_ HB.out GE1014.out) hb);(try clear hb);(try clear hb2);(try clear hk);(try clear hi))))
  go_loopg [4,5] k (fun kq v4 v5 w'=>∃ (x4_1:Int) (x5_1:Int),v4 = .int .i64 x4_1 /\ v5 = .int .i64 x5_1 /\ Aside0 (spec_VisitedLength.l0 kq x4_1 x5_1 l0_0 l0_1 l0_2 a0_3 a0_4 = some (r1,r2)) /\ Aside0 (kq <= k) /\ Aside0 (w'.heap[gb1014]? = some (.cells #[(.slice A0_0 l0_0.length c0_0),(.slice A0_1 l0_1.length c0_1),(.slice A0_2 l0_2.length c0_2),.int .i64 a0_3,.int .i64 a0_4] 30 (0,0))) /\ Aside0 (Below w.heap.size w w'))
  case atStart=>exact ⟨(0),(0),(by first|rfl|(simp;done)|(simp [*];done)),(by first|rfl|(simp;done)|(simp [*];done)),H',⟨Nat.le_refl _⟩,⟨bk_ BK1014.out⟩,⟨lb1_ HB.out GE1014.out⟩⟩
  case round=>
   clear H'
   try clear p2
   try clear c3
   try clear hcz5_0 hcz5_1 hcz5_2 hcz5_3 hcz5_4
   try clear hfz5_0 hfz5_1 hfz5_2 hfz5_3 hfz5_4
   obtain ⟨x4_1,x5_1,rfl,rfl,HA,HK1,BK1014,HB⟩:=hrel
   cases gk with
   | zero=>exact absurd HA.out (by simp [spec_VisitedLength.l0])
   | succ k1=>
    have H:=HA.out
    clear HA
    simp only [spec_VisitedLength.l0] at H
    by_cases c7:x5_1 < (l0_0.length:Int)
    .
     rw [if_pos c7] at H
     have c7b0:decide (x5_1 < (l0_0.length:Int)) = true:=decide_eq_true c7
     clear c7
     by_cases c8:0 <= x5_1
     .
      rw [if_pos c8] at H
      have c8b0:decide (0 <= x5_1) = true:=decide_eq_true c8
      clear c8
      by_cases c9:0 <= ((rd_T37 l0_0 x5_1).f0)
      .
       rw [if_pos c9] at H
       have c9b0:decide (0 <= ((rd_T37 l0_0 x5_1).f0)) = true:=decide_eq_true c9
       clear c9
       by_cases c10:((rd_T37 l0_0 x5_1).f0) < (l0_1.length:Int)
       .
        rw [if_pos c10] at H
        have c10b0:decide (((rd_T37 l0_0 x5_1).f0) < (l0_1.length:Int)) = true:=decide_eq_true c10;clear c10
        obtain ⟨bq11,hbq11⟩:∃ b_:Bool,b_ = (rdOf false l0_1 ((rd_T37 l0_0 x5_1).f0)):=⟨_,rfl⟩
        replace H:(if bq11 = true then (if 0 <= ((rd_T37 l0_0 x5_1).f1) then (if ((rd_T37 l0_0 x5_1).f1) < (l0_1.length:Int) then (if rdOf false l0_1 ((rd_T37 l0_0 x5_1).f1) = true then (spec_VisitedLength.l0 k1 (wrap64 (x4_1 + ((rd_T37 l0_0 x5_1).f2))) (wrap64 (x5_1 + 1)) l0_0 l0_1 l0_2 a0_3 a0_4) else (spec_VisitedLength.l0 k1 x4_1 (wrap64 (x5_1 + 1)) l0_0 l0_1 l0_2 a0_3 a0_4)) else (none)) else (none)) else (spec_VisitedLength.l0 k1 x4_1 (wrap64 (x5_1 + 1)) l0_0 l0_1 l0_2 a0_3 a0_4)) = some (r1,r2):=by rw [<- hbq11] at H;exact H
        have Nbq11:=ak hbq11;clear hbq11
        by_cases c12:bq11 = true
        .
         subst c12
         have H1:(if 0 <= ((rd_T37 l0_0 x5_1).f1) then (if ((rd_T37 l0_0 x5_1).f1) < (l0_1.length:Int) then (if rdOf false l0_1 ((rd_T37 l0_0 x5_1).f1) = true then (spec_VisitedLength.l0 k1 (wrap64 (x4_1 + ((rd_T37 l0_0 x5_1).f2))) (wrap64 (x5_1 + 1)) l0_0 l0_1 l0_2 a0_3 a0_4) else (spec_VisitedLength.l0 k1 x4_1 (wrap64 (x5_1 + 1)) l0_0 l0_1 l0_2 a0_3 a0_4)) else (none)) else (none)) = some (r1,r2):=by rw [if_pos rfl] at H;exact H
         clear H;have H:=H1;clear H1
         by_cases c13:0 <= ((rd_T37 l0_0 x5_1).f1)
         .
          rw [if_pos c13] at H
          have c13b0:decide (0 <= ((rd_T37 l0_0 x5_1).f1)) = true:=decide_eq_true c13;clear c13
          by_cases c14:((rd_T37 l0_0 x5_1).f1) < (l0_1.length:Int)
          .
           rw [if_pos c14] at H
           have c14b0:decide (((rd_T37 l0_0 x5_1).f1) < (l0_1.length:Int)) = true:=decide_eq_true c14;clear c14
           obtain ⟨bq15,hbq15⟩:∃ b_:Bool,b_ = (rdOf false l0_1 ((rd_T37 l0_0 x5_1).f1)):=⟨_,rfl⟩
           replace H:(if bq15 = true then (spec_VisitedLength.l0 k1 (wrap64 (x4_1 + ((rd_T37 l0_0 x5_1).f2))) (wrap64 (x5_1 + 1)) l0_0 l0_1 l0_2 a0_3 a0_4) else (spec_VisitedLength.l0 k1 x4_1 (wrap64 (x5_1 + 1)) l0_0 l0_1 l0_2 a0_3 a0_4)) = some (r1,r2):=by rw [<- hbq15] at H;exact H
           have Nbq15:=ak hbq15;clear hbq15
           by_cases c16:bq15 = true
           .
            subst c16
            have H1:(spec_VisitedLength.l0 k1 (wrap64 (x4_1 + ((rd_T37 l0_0 x5_1).f2))) (wrap64 (x5_1 + 1)) l0_0 l0_1 l0_2 a0_3 a0_4) = some (r1,r2):=by rw [if_pos rfl] at H;exact H
            clear H;have H:=H1;clear H1;have H':=ak H;clear H;obtain ⟨hcz17_0,hcz17_1,hcz17_2,hcz17_3,hcz17_4⟩:=cz5_ BK1014.out;obtain ⟨hfz17_0,hfz17_1,hfz17_2,hfz17_3,hfz17_4⟩:=fz5_ BK1014.out;have p1016:0 <= (x5_1:Int):=dt_;have q1016:x5_1 < (l0_0.length:Int):=dt_;obtain ⟨ad1016,e1016,hx1016_0,hx1016_1,hx1016_2,hx1016_3,hx1016_4⟩:=at_T37 HR0_0.out x5_1 p1016 q1016
            cases e1016
            replace hx1016_0:=bc_ HB.out hx1016_0;replace hx1016_1:=bc_ HB.out hx1016_1;replace hx1016_2:=bc_ HB.out hx1016_2;replace hx1016_3:=bc_ HB.out hx1016_3;replace hx1016_4:=bc_ HB.out hx1016_4;replace p1016:=eq_true p1016;replace q1016:=eq_true q1016;have p1017:0 <= (((rd_T37 l0_0 x5_1).f0):Int):=dt_;have q1017:((rd_T37 l0_0 x5_1).f0) < (l0_1.length:Int):=dt_;obtain ⟨ad1017,e1017,hx1017_0⟩:=Kd.at_bool HR0_1.out ((rd_T37 l0_0 x5_1).f0) p1017 q1017;(try rw [<- Nbq11.out] at hx1017_0);(try rw [<- Nbq15.out] at hx1017_0)
            cases e1017
            replace hx1017_0:=bc_ HB.out hx1017_0;replace p1017:=eq_true p1017;replace q1017:=eq_true q1017;have p1018:0 <= (x5_1:Int):=dt_;have q1018:x5_1 < (l0_0.length:Int):=dt_;obtain ⟨ad1018,e1018,hx1018_0,hx1018_1,hx1018_2,hx1018_3,hx1018_4⟩:=at_T37 HR0_0.out x5_1 p1018 q1018
            obtain rfl:ad1016 = ad1018:=(by injection e1018)
            replace hx1018_0:=bc_ HB.out hx1018_0;replace hx1018_1:=bc_ HB.out hx1018_1;replace hx1018_2:=bc_ HB.out hx1018_2;replace hx1018_3:=bc_ HB.out hx1018_3;replace hx1018_4:=bc_ HB.out hx1018_4;replace p1018:=eq_true p1018;replace q1018:=eq_true q1018;have p1019:0 <= (((rd_T37 l0_0 x5_1).f1):Int):=dt_;have q1019:((rd_T37 l0_0 x5_1).f1) < (l0_1.length:Int):=dt_;obtain ⟨ad1019,e1019,hx1019_0⟩:=Kd.at_bool HR0_1.out ((rd_T37 l0_0 x5_1).f1) p1019 q1019;(try rw [<- Nbq11.out] at hx1019_0);(try rw [<- Nbq15.out] at hx1019_0)
            obtain rfl:ad1017 = ad1019:=(by injection e1019)
            replace hx1019_0:=bc_ HB.out hx1019_0;replace p1019:=eq_true p1019;replace q1019:=eq_true q1019;have p1020:0 <= (x5_1:Int):=dt_;have q1020:x5_1 < (l0_0.length:Int):=dt_;obtain ⟨ad1020,e1020,hx1020_0,hx1020_1,hx1020_2,hx1020_3,hx1020_4⟩:=at_T37 HR0_0.out x5_1 p1020 q1020
            obtain rfl:ad1016 = ad1020:=(by injection e1020)
            replace hx1020_0:=bc_ HB.out hx1020_0;replace hx1020_1:=bc_ HB.out hx1020_1;replace hx1020_2:=bc_ HB.out hx1020_2;replace hx1020_3:=bc_ HB.out hx1020_3;replace hx1020_4:=bc_ HB.out hx1020_4;replace p1020:=eq_true p1020;replace q1020:=eq_true q1020
            go_wp2
            repeat (go_quiet (fail);try go_wp2)
            go_roundg k1
            case measure=>have:=HK1.out;omega
            case rel=>exact ⟨(wrap64 (x4_1 + ((rd_T37 l0_0 x5_1).f2))),(wrap64 (x5_1 + 1)),(by first|rfl|(simp;done)|(simp [*];done)),(by first|rfl|(simp;done)|(simp [*];done)),H',⟨by have:=HK1.out;omega⟩,⟨bk_ BK1014.out⟩,⟨lb1_ HB.out GE1014.out⟩⟩
           .
            replace c16:=Bool.eq_false_iff.mpr c16;subst c16
            have H1:(spec_VisitedLength.l0 k1 x4_1 (wrap64 (x5_1 + 1)) l0_0 l0_1 l0_2 a0_3 a0_4) = some (r1,r2):=by rw [if_neg (show ¬ (false = true) by decide)] at H;exact H
            clear H;have H:=H1;clear H1;have H':=ak H;clear H;obtain ⟨hcz18_0,hcz18_1,hcz18_2,hcz18_3,hcz18_4⟩:=cz5_ BK1014.out;obtain ⟨hfz18_0,hfz18_1,hfz18_2,hfz18_3,hfz18_4⟩:=fz5_ BK1014.out;have p1016:0 <= (x5_1:Int):=dt_;have q1016:x5_1 < (l0_0.length:Int):=dt_;obtain ⟨ad1016,e1016,hx1016_0,hx1016_1,hx1016_2,hx1016_3,hx1016_4⟩:=at_T37 HR0_0.out x5_1 p1016 q1016
            cases e1016
            replace hx1016_0:=bc_ HB.out hx1016_0;replace hx1016_1:=bc_ HB.out hx1016_1;replace hx1016_2:=bc_ HB.out hx1016_2;replace hx1016_3:=bc_ HB.out hx1016_3;replace hx1016_4:=bc_ HB.out hx1016_4;replace p1016:=eq_true p1016;replace q1016:=eq_true q1016;have p1017:0 <= (((rd_T37 l0_0 x5_1).f0):Int):=dt_;have q1017:((rd_T37 l0_0 x5_1).f0) < (l0_1.length:Int):=dt_;obtain ⟨ad1017,e1017,hx1017_0⟩:=Kd.at_bool HR0_1.out ((rd_T37 l0_0 x5_1).f0) p1017 q1017;(try rw [<- Nbq11.out] at hx1017_0);(try rw [<- Nbq15.out] at hx1017_0)
            cases e1017
            replace hx1017_0:=bc_ HB.out hx1017_0;replace p1017:=eq_true p1017;replace q1017:=eq_true q1017;have p1018:0 <= (x5_1:Int):=dt_;have q1018:x5_1 < (l0_0.length:Int):=dt_;obtain ⟨ad1018,e1018,hx1018_0,hx1018_1,hx1018_2,hx1018_3,hx1018_4⟩:=at_T37 HR0_0.out x5_1 p1018 q1018
            obtain rfl:ad1016 = ad1018:=(by injection e1018)
            replace hx1018_0:=bc_ HB.out hx1018_0;replace hx1018_1:=bc_ HB.out hx1018_1;replace hx1018_2:=bc_ HB.out hx1018_2;replace hx1018_3:=bc_ HB.out hx1018_3;replace hx1018_4:=bc_ HB.out hx1018_4;replace p1018:=eq_true p1018;replace q1018:=eq_true q1018;have p1019:0 <= (((rd_T37 l0_0 x5_1).f1):Int):=dt_;have q1019:((rd_T37 l0_0 x5_1).f1) < (l0_1.length:Int):=dt_;obtain ⟨ad1019,e1019,hx1019_0⟩:=Kd.at_bool HR0_1.out ((rd_T37 l0_0 x5_1).f1) p1019 q1019;(try rw [<- Nbq11.out] at hx1019_0);(try rw [<- Nbq15.out] at hx1019_0)
            obtain rfl:ad1017 = ad1019:=(by injection e1019)
            replace hx1019_0:=bc_ HB.out hx1019_0;replace p1019:=eq_true p1019;replace q1019:=eq_true q1019
            go_wp2
            repeat (go_quiet (fail);try go_wp2)
            go_roundg k1
            case measure=>have:=HK1.out;omega
            case rel=>exact ⟨(x4_1),(wrap64 (x5_1 + 1)),(by first|rfl|(simp;done)|(simp [*];done)),(by first|rfl|(simp;done)|(simp [*];done)),H',⟨by have:=HK1.out;omega⟩,⟨bk_ BK1014.out⟩,⟨lb1_ HB.out GE1014.out⟩⟩
          .
           rw [if_neg c14] at H
           exact absurd H (by simp)
         .
          rw [if_neg c13] at H
          exact absurd H (by simp)
        .
         replace c12:=Bool.eq_false_iff.mpr c12;subst c12
         have H1:(spec_VisitedLength.l0 k1 x4_1 (wrap64 (x5_1 + 1)) l0_0 l0_1 l0_2 a0_3 a0_4) = some (r1,r2):=by rw [if_neg (show ¬ (false = true) by decide)] at H;exact H
         clear H;have H:=H1;clear H1;have H':=ak H;clear H;obtain ⟨hcz19_0,hcz19_1,hcz19_2,hcz19_3,hcz19_4⟩:=cz5_ BK1014.out;obtain ⟨hfz19_0,hfz19_1,hfz19_2,hfz19_3,hfz19_4⟩:=fz5_ BK1014.out;have p1016:0 <= (x5_1:Int):=dt_;have q1016:x5_1 < (l0_0.length:Int):=dt_;obtain ⟨ad1016,e1016,hx1016_0,hx1016_1,hx1016_2,hx1016_3,hx1016_4⟩:=at_T37 HR0_0.out x5_1 p1016 q1016
         cases e1016
         replace hx1016_0:=bc_ HB.out hx1016_0;replace hx1016_1:=bc_ HB.out hx1016_1;replace hx1016_2:=bc_ HB.out hx1016_2;replace hx1016_3:=bc_ HB.out hx1016_3;replace hx1016_4:=bc_ HB.out hx1016_4;replace p1016:=eq_true p1016;replace q1016:=eq_true q1016;have p1017:0 <= (((rd_T37 l0_0 x5_1).f0):Int):=dt_;have q1017:((rd_T37 l0_0 x5_1).f0) < (l0_1.length:Int):=dt_;obtain ⟨ad1017,e1017,hx1017_0⟩:=Kd.at_bool HR0_1.out ((rd_T37 l0_0 x5_1).f0) p1017 q1017;(try rw [<- Nbq11.out] at hx1017_0)
         cases e1017
         replace hx1017_0:=bc_ HB.out hx1017_0;replace p1017:=eq_true p1017;replace q1017:=eq_true q1017
         go_wp2
         repeat (go_quiet (fail);try go_wp2)
         go_roundg k1
         case measure=>have:=HK1.out;omega
         case rel=>exact ⟨(x4_1),(wrap64 (x5_1 + 1)),(by first|rfl|(simp;done)|(simp [*];done)),(by first|rfl|(simp;done)|(simp [*];done)),H',⟨by have:=HK1.out;omega⟩,⟨bk_ BK1014.out⟩,⟨lb1_ HB.out GE1014.out⟩⟩
       .
        rw [if_neg c10] at H
        exact absurd H (by simp)
      .
       rw [if_neg c9] at H
       exact absurd H (by simp)
     .
      rw [if_neg c8] at H
      exact absurd H (by simp)
    .
     rw [if_neg c7] at H
     have c7b0:decide (x5_1 < (l0_0.length:Int)) = false:=decide_eq_false c7
     clear c7
     simp only [Option.some.injEq,Prod.mk.injEq] at H
     obtain ⟨rfl,rfl⟩:=H
     obtain ⟨hcz20_0,hcz20_1,hcz20_2,hcz20_3,hcz20_4⟩:=cz5_ BK1014.out
     obtain ⟨hfz20_0,hfz20_1,hfz20_2,hfz20_3,hfz20_4⟩:=fz5_ BK1014.out
     go_wp2
     repeat (go_quiet (fail);try go_wp2)
     go_ret2
     exact ⟨rr_,lb1_ HB.out GE1014.out⟩
 .
  replace c3:=Bool.eq_false_iff.mpr c3
  subst c3
  have H1:(some (0,false)) = some (r1,r2):=by rw [if_neg (show ¬ (false = true) by decide)] at H;exact H
  clear H
  have H:=H1
  clear H1
  simp only [Option.some.injEq,Prod.mk.injEq] at H
  obtain ⟨rfl,rfl⟩:=H
  go_enter Try.func36,Try.ntmps36
  go_wp2_with (first|((with_reducible refine gate_dst (N:=1) rfl ?_);refine box_event ?hg (N:=1) ?hd (cs:=#[.slice A0_0 l0_0.length c0_0,.slice A0_1 l0_1.length c0_1,.slice A0_2 l0_2.length c0_2,.int .i64 a0_3,.int .i64 a0_4]) (t:=30) ?hr ?_;(case hd=>rfl);(case hg=>rfl);(case hr=>first|(go_simp;done)|(go_simp;rfl));intro gb1014 hg w21 hbox hb;have BK1014:=ak (hbox);have GW1014:=ak ((bz_ hg (lb0_ HB.out)));have GE1014:=ak ((bz_ hg (lb0_ HB.out)));replace HB:=ak (below_step (lb0_ HB.out) hb);clear hb hbox hg;obtain ⟨hcz22_0,hcz22_1,hcz22_2,hcz22_3,hcz22_4⟩:=cz5_ BK1014.out;obtain ⟨hfz22_0,hfz22_1,hfz22_2,hfz22_3,hfz22_4⟩:=fz5_ BK1014.out)|(go_at_call 67;(with_reducible refine (spec_l25Good.calls k _ _ l0_0 _ _ l0_1 _ _ l0_2 a0_3 a0_4 false _ ?side1 ?side2 ?side3 ?side4 ?side5 ?side6 A2.out).mono ?_);(case side1=>exact kc_ (Kd.C_below HR0_0.out HB.out));(case side2=>exact HC0_0.out);(case side3=>exact kc_ (Kd.C_below HR0_1.out HB.out));(case side4=>exact HC0_1.out);(case side5=>exact kc_ (Kd.C_below HR0_2.out HB.out));(case side6=>exact HC0_2.out);rintro e w23 ⟨rfl,hb⟩;replace BK1014:=ak (bb_ (bk_ BK1014.out) hb);replace HB:=ak (below_step (lb1_ HB.out GE1014.out) hb);(try clear hb);(try clear hb2);(try clear hk);(try clear hi)))
  repeat (go_quiet (first|((with_reducible refine gate_dst (N:=1) rfl ?_);refine box_event ?hg (N:=1) ?hd (cs:=#[.slice A0_0 l0_0.length c0_0,.slice A0_1 l0_1.length c0_1,.slice A0_2 l0_2.length c0_2,.int .i64 a0_3,.int .i64 a0_4]) (t:=30) ?hr ?_;(case hd=>rfl);(case hg=>rfl);(case hr=>first|(go_simp;done)|(go_simp;rfl));intro gb1014 hg w21 hbox hb;have BK1014:=ak (hbox);have GW1014:=ak ((bz_ hg (lb0_ HB.out)));have GE1014:=ak ((bz_ hg (lb0_ HB.out)));replace HB:=ak (below_step (lb0_ HB.out) hb);clear hb hbox hg;obtain ⟨hcz22_0,hcz22_1,hcz22_2,hcz22_3,hcz22_4⟩:=cz5_ BK1014.out;obtain ⟨hfz22_0,hfz22_1,hfz22_2,hfz22_3,hfz22_4⟩:=fz5_ BK1014.out)|(go_at_call 67;(with_reducible refine (spec_l25Good.calls k _ _ l0_0 _ _ l0_1 _ _ l0_2 a0_3 a0_4 false _ ?side1 ?side2 ?side3 ?side4 ?side5 ?side6 A2.out).mono ?_);(case side1=>exact kc_ (Kd.C_below HR0_0.out HB.out));(case side2=>exact HC0_0.out);(case side3=>exact kc_ (Kd.C_below HR0_1.out HB.out));(case side4=>exact HC0_1.out);(case side5=>exact kc_ (Kd.C_below HR0_2.out HB.out));(case side6=>exact HC0_2.out);rintro e w23 ⟨rfl,hb⟩;replace BK1014:=ak (bb_ (bk_ BK1014.out) hb);replace HB:=ak (below_step (lb1_ HB.out GE1014.out) hb);(try clear hb);(try clear hb2);(try clear hk);(try clear hi)));try go_wp2_with (first|((with_reducible refine gate_dst (N:=1) rfl ?_);refine box_event ?hg (N:=1) ?hd (cs:=#[.slice A0_0 l0_0.length c0_0,.slice A0_1 l0_1.length c0_1,.slice A0_2 l0_2.length c0_2,.int .i64 a0_3,.int .i64 a0_4]) (t:=30) ?hr ?_;(case hd=>rfl);(case hg=>rfl);(case hr=>first|(go_simp;done)|(go_simp;rfl));intro gb1014 hg w21 hbox hb;have BK1014:=ak (hbox);have GW1014:=ak ((bz_ hg (lb0_ HB.out)));have GE1014:=ak ((bz_ hg (lb0_ HB.out)));replace HB:=ak (below_step (lb0_ HB.out) hb);clear hb hbox hg;obtain ⟨hcz22_0,hcz22_1,hcz22_2,hcz22_3,hcz22_4⟩:=cz5_ BK1014.out;obtain ⟨hfz22_0,hfz22_1,hfz22_2,hfz22_3,hfz22_4⟩:=fz5_ BK1014.out)|(go_at_call 67;(with_reducible refine (spec_l25Good.calls k _ _ l0_0 _ _ l0_1 _ _ l0_2 a0_3 a0_4 false _ ?side1 ?side2 ?side3 ?side4 ?side5 ?side6 A2.out).mono ?_);(case side1=>exact kc_ (Kd.C_below HR0_0.out HB.out));(case side2=>exact HC0_0.out);(case side3=>exact kc_ (Kd.C_below HR0_1.out HB.out));(case side4=>exact HC0_1.out);(case side5=>exact kc_ (Kd.C_below HR0_2.out HB.out));(case side6=>exact HC0_2.out);rintro e w23 ⟨rfl,hb⟩;replace BK1014:=ak (bb_ (bk_ BK1014.out) hb);replace HB:=ak (below_step (lb1_ HB.out GE1014.out) hb);(try clear hb);(try clear hb2);(try clear hk);(try clear hi))))
  go_ret2
  exact ⟨rr_,lb1_ HB.out GE1014.out⟩
mutual
def spec_OpenLeads.l0:Nat -> List Int -> Int -> List (S37) -> List Bool -> List Bool -> Int -> Int -> Option (List Int × Bool)
 | 0,_,_,_,_,_,_,_=>none
 | k + 1,x4,x5,x1150000,x1150001,x1150002,x1150003,x1150004=>if x5 < (x1150002.length:Int) then (if 0 <= x5 then (spec_OpenLeads.l1 k x4 x5 (rdOf false x1150002 x5) 0 x1150000 x1150001 x1150002 x1150003 x1150004) else (none)) else (some (x4,true))
def spec_OpenLeads.l1:Nat -> List Int -> Int -> Bool -> Int -> List (S37) -> List Bool -> List Bool -> Int -> Int -> Option (List Int × Bool)
 | 0,_,_,_,_,_,_,_,_,_=>none
 | k + 1,x4,x5,x6,x7,x1150000,x1150001,x1150002,x1150003,x1150004=>if x7 < (x1150000.length:Int) then (if 0 <= x7 then (if ((rd_T37 x1150000 x7).f0) = x5 then (if 0 <= ((rd_T37 x1150000 x7).f1) then (if ((rd_T37 x1150000 x7).f1) < (x1150001.length:Int) then (if (rdOf false x1150001 ((rd_T37 x1150000 x7).f1) = true) then (if ((rd_T37 x1150000 x7).f1) = x5 then (if 0 <= ((rd_T37 x1150000 x7).f0) then (if ((rd_T37 x1150000 x7).f0) < (x1150001.length:Int) then (if (rdOf false x1150001 ((rd_T37 x1150000 x7).f0) = true) then (spec_OpenLeads.l1 k x4 x5 x6 (wrap64 (x7 + 1)) x1150000 x1150001 x1150002 x1150003 x1150004) else (spec_OpenLeads.l1 k x4 x5 false (wrap64 (x7 + 1)) x1150000 x1150001 x1150002 x1150003 x1150004)) else (none)) else (none)) else (spec_OpenLeads.l1 k x4 x5 x6 (wrap64 (x7 + 1)) x1150000 x1150001 x1150002 x1150003 x1150004)) else (spec_OpenLeads.l1 k x4 x5 false (wrap64 (x7 + 1)) x1150000 x1150001 x1150002 x1150003 x1150004)) else (none)) else (none)) else (if ((rd_T37 x1150000 x7).f1) = x5 then (if 0 <= ((rd_T37 x1150000 x7).f0) then (if ((rd_T37 x1150000 x7).f0) < (x1150001.length:Int) then (if (rdOf false x1150001 ((rd_T37 x1150000 x7).f0) = true) then (spec_OpenLeads.l1 k x4 x5 x6 (wrap64 (x7 + 1)) x1150000 x1150001 x1150002 x1150003 x1150004) else (spec_OpenLeads.l1 k x4 x5 false (wrap64 (x7 + 1)) x1150000 x1150001 x1150002 x1150003 x1150004)) else (none)) else (none)) else (spec_OpenLeads.l1 k x4 x5 x6 (wrap64 (x7 + 1)) x1150000 x1150001 x1150002 x1150003 x1150004))) else (none)) else (if x6 = true then (if x4.length < 17592186044416 then (spec_OpenLeads.l0 k (x4 ++ [x5]) (wrap64 (x5 + 1)) x1150000 x1150001 x1150002 x1150003 x1150004) else (none)) else (spec_OpenLeads.l0 k x4 (wrap64 (x5 + 1)) x1150000 x1150001 x1150002 x1150003 x1150004))
end
def spec_OpenLeads.f (k:Nat) (l0_0:List (S37)) (l0_1:List Bool) (l0_2:List Bool) (a0_3:Int) (a0_4:Int):Option (List Int × Bool):=(some (([]:List Int):List Int)).bind fun y1150=>((spec_l25Good.f k l0_0 l0_1 l0_2 a0_3 a0_4).bind fun t1153=>(if t1153 = true then (spec_OpenLeads.l0 k y1150 0 l0_0 l0_1 l0_2 a0_3 a0_4) else (some (y1150,false))))
theorem spec_OpenLeads.calls (k:Nat) (A0_0:Option Addr) (c0_0:Nat) (l0_0:List (S37)) (A0_1:Option Addr) (c0_1:Nat) (l0_1:List Bool) (A0_2:Option Addr) (c0_2:Nat) (l0_2:List Bool) (a0_3:Int) (a0_4:Int) (r1:List Int) (r2:Bool) (w:World) (hr0_0:Kd.C k37 w A0_0 l0_0.length l0_0) (hc0_0:l0_0.length <= c0_0) (hr0_1:Kd.C Kd.bool w A0_1 l0_1.length l0_1) (hc0_1:l0_1.length <= c0_1) (hr0_2:Kd.C Kd.bool w A0_2 l0_2.length l0_2) (hc0_2:l0_2.length <= c0_2) (h:spec_OpenLeads.f k l0_0 l0_1 l0_2 a0_3 a0_4 = some (r1,r2)) :
  Calls Try.prog 43 #[.agg #[.slice A0_0 l0_0.length c0_0,.slice A0_1 l0_1.length c0_1,.slice A0_2 l0_2.length c0_2,.int .i64 a0_3,.int .i64 a0_4]] w fun e w'=>∃ v0_:Value,e = .returned (.tuple #[v0_,.bool r2]) /\ Kd.R (Kd.int .i64) 3 w' w.heap.size (fun _=>True) v0_ r1 /\ Below w.heap.size w w':=by
 have hu30:=Try.underlying30
 have HR0_0:=ak hr0_0
 have HC0_0:=ak hc0_0
 clear hr0_0 hc0_0
 have HR0_1:=ak hr0_1
 have HC0_1:=ak hc0_1
 clear hr0_1 hc0_1
 have HR0_2:=ak hr0_2
 have HC0_2:=ak hc0_2
 clear hr0_2 hc0_2
 have HB:=ak (Below.refl w.heap.size w)
 have H:((some (([]:List Int):List Int)).bind fun y1150=>((spec_l25Good.f k l0_0 l0_1 l0_2 a0_3 a0_4).bind fun t1153=>(if t1153 = true then (spec_OpenLeads.l0 k y1150 0 l0_0 l0_1 l0_2 a0_3 a0_4) else (some (y1150,false))))) = some (r1,r2):=h
 clear h
 obtain ⟨y1150,hy1150⟩:∃ y_:List Int,y_ = (([]:List Int)):=⟨_,rfl⟩
 replace H:((spec_l25Good.f k l0_0 l0_1 l0_2 a0_3 a0_4).bind fun t1153=>(if t1153 = true then (spec_OpenLeads.l0 k y1150 0 l0_0 l0_1 l0_2 a0_3 a0_4) else (some (y1150,false)))) = some (r1,r2):=by first|(rw [hy1150];with_reducible exact H)|(have H2_:=(Option.bind_some _ _).symm.trans H;rw [hy1150];with_reducible exact H2_)|(have H2_:=(Option.bind_some _ _).symm.trans H;with_reducible exact H2_)|with_reducible exact H|(rw [hy1150];exact H)|exact H
 have Ny1150:=ak hy1150
 clear hy1150
 replace H:=Option.bind_eq_some_iff.mp H
 obtain ⟨t1153,A20,H⟩:=H
 replace H:(if t1153 = true then (spec_OpenLeads.l0 k y1150 0 l0_0 l0_1 l0_2 a0_3 a0_4) else (some (y1150,false))) = some (r1,r2):=H
 have A2:=ak A20
 clear A20
 by_cases c3:t1153 = true
 .
  subst c3
  have H1:(spec_OpenLeads.l0 k y1150 0 l0_0 l0_1 l0_2 a0_3 a0_4) = some (r1,r2):=by rw [if_pos rfl] at H;exact H
  clear H
  have H:=H1
  clear H1
  have H':=ak H
  clear H
  go_enter Try.func43,Try.ntmps43
  go_wp2_with (first|((with_reducible refine gate_dst (N:=1) rfl ?_);refine box_event ?hg (N:=1) ?hd (cs:=#[.slice A0_0 l0_0.length c0_0,.slice A0_1 l0_1.length c0_1,.slice A0_2 l0_2.length c0_2,.int .i64 a0_3,.int .i64 a0_4]) (t:=30) ?hr ?_;(case hd=>rfl);(case hg=>rfl);(case hr=>first|(go_simp;done)|(go_simp;rfl));intro gb1149 hg w4 hbox hb;have BK1149:=ak (hbox);have GW1149:=ak ((bz_ hg (lb0_ HB.out)));have GE1149:=ak ((bz_ hg (lb0_ HB.out)));replace HB:=ak (below_step (lb0_ HB.out) hb);clear hb hbox hg)|((with_reducible refine gate_dst (N:=10) rfl ?_);refine Kd.R_lit (Kd.int .i64) _ 3 ?hg (N:=10) ?hd (xs:=([]:List Int)) (inner:=[]) (ok:=fun _=>True) (okp:=fun _=>True) ?hr ?hp (fun _ hk=>hk) trivial (Below.refl _ _) (Nat.le_refl _) (by simp) ?_;(case hd=>rfl);(case hg=>rfl);(case hr=>first|(go_simp;done)|(go_simp;rfl));(case hp=>exact (Reps.none _ _));intro v1151 w5 ho6 hb hg_ hnew_;clear hg_ hnew_;replace ho6:=ry_ Ny1150.out ho6;have HO1152:=ak (Kd.R_lower ho6 (below_size (lb1_ HB.out GE1149.out)));replace BK1149:=ak (bb_ (bk_ BK1149.out) hb);replace HB:=ak (below_step (lb1_ HB.out GE1149.out) hb);clear hb ho6;obtain ⟨hcz7_0,hcz7_1,hcz7_2,hcz7_3,hcz7_4⟩:=cz5_ BK1149.out;obtain ⟨hfz7_0,hfz7_1,hfz7_2,hfz7_3,hfz7_4⟩:=fz5_ BK1149.out)|(go_at_call 67;(with_reducible refine (spec_l25Good.calls k _ _ l0_0 _ _ l0_1 _ _ l0_2 a0_3 a0_4 true _ ?side1 ?side2 ?side3 ?side4 ?side5 ?side6 A2.out).mono ?_);(case side1=>exact kc_ (Kd.C_below HR0_0.out HB.out));(case side2=>exact HC0_0.out);(case side3=>exact kc_ (Kd.C_below HR0_1.out HB.out));(case side4=>exact HC0_1.out);(case side5=>exact kc_ (Kd.C_below HR0_2.out HB.out));(case side6=>exact HC0_2.out);rintro e w8 ⟨rfl,hb⟩;replace HO1152:=ak (Kd.R_below (kr_ HO1152.out) hb);replace BK1149:=ak (bb_ (bk_ BK1149.out) hb);replace HB:=ak (below_step (lb1_ HB.out GE1149.out) hb);(try clear hb);(try clear hb2);(try clear hk);(try clear hi)))
  repeat (go_quiet (first|((with_reducible refine gate_dst (N:=1) rfl ?_);refine box_event ?hg (N:=1) ?hd (cs:=#[.slice A0_0 l0_0.length c0_0,.slice A0_1 l0_1.length c0_1,.slice A0_2 l0_2.length c0_2,.int .i64 a0_3,.int .i64 a0_4]) (t:=30) ?hr ?_;(case hd=>rfl);(case hg=>rfl);(case hr=>first|(go_simp;done)|(go_simp;rfl));intro gb1149 hg w4 hbox hb;have BK1149:=ak (hbox);have GW1149:=ak ((bz_ hg (lb0_ HB.out)));have GE1149:=ak ((bz_ hg (lb0_ HB.out)));replace HB:=ak (below_step (lb0_ HB.out) hb);clear hb hbox hg)|((with_reducible refine gate_dst (N:=10) rfl ?_);refine Kd.R_lit (Kd.int .i64) _ 3 ?hg (N:=10) ?hd (xs:=([]:List Int)) (inner:=[]) (ok:=fun _=>True) (okp:=fun _=>True) ?hr ?hp (fun _ hk=>hk) trivial (Below.refl _ _) (Nat.le_refl _) (by simp) ?_;(case hd=>rfl);(case hg=>rfl);(case hr=>first|(go_simp;done)|(go_simp;rfl));(case hp=>exact (Reps.none _ _));intro v1151 w5 ho6 hb hg_ hnew_;clear hg_ hnew_;replace ho6:=ry_ Ny1150.out ho6;have HO1152:=ak (Kd.R_lower ho6 (below_size (lb1_ HB.out GE1149.out)));replace BK1149:=ak (bb_ (bk_ BK1149.out) hb);replace HB:=ak (below_step (lb1_ HB.out GE1149.out) hb);clear hb ho6;obtain ⟨hcz7_0,hcz7_1,hcz7_2,hcz7_3,hcz7_4⟩:=cz5_ BK1149.out;obtain ⟨hfz7_0,hfz7_1,hfz7_2,hfz7_3,hfz7_4⟩:=fz5_ BK1149.out)|(go_at_call 67;(with_reducible refine (spec_l25Good.calls k _ _ l0_0 _ _ l0_1 _ _ l0_2 a0_3 a0_4 true _ ?side1 ?side2 ?side3 ?side4 ?side5 ?side6 A2.out).mono ?_);(case side1=>exact kc_ (Kd.C_below HR0_0.out HB.out));(case side2=>exact HC0_0.out);(case side3=>exact kc_ (Kd.C_below HR0_1.out HB.out));(case side4=>exact HC0_1.out);(case side5=>exact kc_ (Kd.C_below HR0_2.out HB.out));(case side6=>exact HC0_2.out);rintro e w8 ⟨rfl,hb⟩;replace HO1152:=ak (Kd.R_below (kr_ HO1152.out) hb);replace BK1149:=ak (bb_ (bk_ BK1149.out) hb);replace HB:=ak (below_step (lb1_ HB.out GE1149.out) hb);(try clear hb);(try clear hb2);(try clear hk);(try clear hi)));try go_wp2_with (first|((with_reducible refine gate_dst (N:=1) rfl ?_);refine box_event ?hg (N:=1) ?hd (cs:=#[.slice A0_0 l0_0.length c0_0,.slice A0_1 l0_1.length c0_1,.slice A0_2 l0_2.length c0_2,.int .i64 a0_3,.int .i64 a0_4]) (t:=30) ?hr ?_;(case hd=>rfl);(case hg=>rfl);(case hr=>first|(go_simp;done)|(go_simp;rfl));intro gb1149 hg w4 hbox hb;have BK1149:=ak (hbox);have GW1149:=ak ((bz_ hg (lb0_ HB.out)));have GE1149:=ak ((bz_ hg (lb0_ HB.out)));replace HB:=ak (below_step (lb0_ HB.out) hb);clear hb hbox hg)|((with_reducible refine gate_dst (N:=10) rfl ?_);refine Kd.R_lit (Kd.int .i64) _ 3 ?hg (N:=10) ?hd (xs:=([]:List Int)) (inner:=[]) (ok:=fun _=>True) (okp:=fun _=>True) ?hr ?hp (fun _ hk=>hk) trivial (Below.refl _ _) (Nat.le_refl _) (by simp) ?_;(case hd=>rfl);(case hg=>rfl);(case hr=>first|(go_simp;done)|(go_simp;rfl));(case hp=>exact (Reps.none _ _));intro v1151 w5 ho6 hb hg_ hnew_;clear hg_ hnew_;replace ho6:=ry_ Ny1150.out ho6;have HO1152:=ak (Kd.R_lower ho6 (below_size (lb1_ HB.out GE1149.out)));replace BK1149:=ak (bb_ (bk_ BK1149.out) hb);replace HB:=ak (below_step (lb1_ HB.out GE1149.out) hb);clear hb ho6;obtain ⟨hcz7_0,hcz7_1,hcz7_2,hcz7_3,hcz7_4⟩:=cz5_ BK1149.out;obtain ⟨hfz7_0,hfz7_1,hfz7_2,hfz7_3,hfz7_4⟩:=fz5_ BK1149.out)|(go_at_call 67;(with_reducible refine (spec_l25Good.calls k _ _ l0_0 _ _ l0_1 _ _ l0_2 a0_3 a0_4 true _ ?side1 ?side2 ?side3 ?side4 ?side5 ?side6 A2.out).mono ?_);(case side1=>exact kc_ (Kd.C_below HR0_0.out HB.out));(case side2=>exact HC0_0.out);(case side3=>exact kc_ (Kd.C_below HR0_1.out HB.out));(case side4=>exact HC0_1.out);(case side5=>exact kc_ (Kd.C_below HR0_2.out HB.out));(case side6=>exact HC0_2.out);rintro e w8 ⟨rfl,hb⟩;replace HO1152:=ak (Kd.R_below (kr_ HO1152.out) hb);replace BK1149:=ak (bb_ (bk_ BK1149.out) hb);replace HB:=ak (below_step (lb1_ HB.out GE1149.out) hb);(try clear hb);(try clear hb2);(try clear hk);(try clear hi))))
  go_loopg [4,5] k (fun kq v4 v5 w'=>∃ (x4_1:List Int) (x5_1:Int),v5 = .int .i64 x5_1 /\ Aside0 (spec_OpenLeads.l0 kq x4_1 x5_1 l0_0 l0_1 l0_2 a0_3 a0_4 = some (r1,r2)) /\ Aside0 (kq <= k) /\ Aside0 (Kd.R (Kd.int .i64) 3 w' w.heap.size (fun _=>True) v4 x4_1) /\ Aside0 (w'.heap[gb1149]? = some (.cells #[(.slice A0_0 l0_0.length c0_0),(.slice A0_1 l0_1.length c0_1),(.slice A0_2 l0_2.length c0_2),.int .i64 a0_3,.int .i64 a0_4] 30 (0,0))) /\ Aside0 (Below w.heap.size w w'))
  case atStart=>exact ⟨(y1150),(0),(by first|rfl|(simp;done)|(simp [*];done)),H',⟨Nat.le_refl _⟩,⟨kr_ HO1152.out⟩,⟨bk_ BK1149.out⟩,⟨lb1_ HB.out GE1149.out⟩⟩
  case round=>
   clear H'
   try clear p2
   try clear c3
   try clear c4
   try clear hcz7_0 hcz7_1 hcz7_2 hcz7_3 hcz7_4
   try clear hfz7_0 hfz7_1 hfz7_2 hfz7_3 hfz7_4
   obtain ⟨x4_1,x5_1,rfl,HA,HK1,HO_4,BK1149,HB⟩:=hrel
   cases gk with
   | zero=>exact absurd HA.out (by simp [spec_OpenLeads.l0])
   | succ k1=>
    have H:=HA.out
    clear HA
    simp only [spec_OpenLeads.l0] at H
    by_cases c9:x5_1 < (l0_2.length:Int)
    .
     rw [if_pos c9] at H
     have c9b0:decide (x5_1 < (l0_2.length:Int)) = true:=decide_eq_true c9
     clear c9
     by_cases c10:0 <= x5_1
     .
      rw [if_pos c10] at H
      have c10b0:decide (0 <= x5_1) = true:=decide_eq_true c10
      clear c10
      have H':=ak H
      clear H
      obtain ⟨hcz11_0,hcz11_1,hcz11_2,hcz11_3,hcz11_4⟩:=cz5_ BK1149.out
      obtain ⟨hfz11_0,hfz11_1,hfz11_2,hfz11_3,hfz11_4⟩:=fz5_ BK1149.out
      have p1154:0 <= (x5_1:Int):=dt_
      have q1154:x5_1 < (l0_2.length:Int):=dt_
      obtain ⟨ad1154,e1154,hx1154_0⟩:=Kd.at_bool HR0_2.out x5_1 p1154 q1154
      cases e1154
      replace hx1154_0:=bc_ HB.out hx1154_0
      replace p1154:=eq_true p1154
      replace q1154:=eq_true q1154
      go_wp2
      repeat (go_quiet (fail);try go_wp2)
      go_loopg [6,7] k1 (fun kq v6 v7 w'=>∃ (x6_2:Bool) (x7_2:Int),v6 = .bool x6_2 /\ v7 = .int .i64 x7_2 /\ Aside0 (spec_OpenLeads.l1 kq x4_1 x5_1 x6_2 x7_2 l0_0 l0_1 l0_2 a0_3 a0_4 = some (r1,r2)) /\ Aside0 (kq <= k1) /\ Aside0 (Kd.R (Kd.int .i64) 3 w' w.heap.size (fun _=>True) u4 x4_1) /\ Aside0 (w'.heap[gb1149]? = some (.cells #[(.slice A0_0 l0_0.length c0_0),(.slice A0_1 l0_1.length c0_1),(.slice (some ad1154) l0_2.length c0_2),.int .i64 a0_3,.int .i64 a0_4] 30 (0,0))) /\ Aside0 (Below w.heap.size w w'))
      case atStart=>exact ⟨(rdOf false l0_2 x5_1),(0),(by first|rfl|(simp;done)|(simp [*];done)),(by first|rfl|(simp;done)|(simp [*];done)),H',⟨Nat.le_refl _⟩,⟨kr_ HO_4.out⟩,⟨bk_ BK1149.out⟩,⟨lb1_ HB.out GE1149.out⟩⟩
      case round=>
       clear H'
       try clear c1
       try clear p1
       try clear q1
       try clear hx1
       try clear p2
       try clear c3
       try clear c4
       try clear c9
       try clear c9b0
       try clear c10
       try clear c10b0
       try clear p11
       try clear q11
       try clear hx11
       try clear hcz11_0 hcz11_1 hcz11_2 hcz11_3 hcz11_4
       try clear hcz7_0 hcz7_1 hcz7_2 hcz7_3 hcz7_4
       try clear hfz11_0 hfz11_1 hfz11_2 hfz11_3 hfz11_4
       try clear hfz7_0 hfz7_1 hfz7_2 hfz7_3 hfz7_4
       try clear hx1154_0
       try clear p1154
       try clear p2
       try clear q1154
       obtain ⟨x6_2,x7_2,rfl,rfl,HA,HK2,HO_4,BK1149,HB⟩:=hrel
       cases gk with
       | zero=>exact absurd HA.out (by simp [spec_OpenLeads.l1])
       | succ k2=>
        have H:=HA.out;clear HA;simp only [spec_OpenLeads.l1] at H
        by_cases c12:x7_2 < (l0_0.length:Int)
        .
         rw [if_pos c12] at H
         have c12b0:decide (x7_2 < (l0_0.length:Int)) = true:=decide_eq_true c12;clear c12
         by_cases c13:0 <= x7_2
         .
          rw [if_pos c13] at H
          have c13b0:decide (0 <= x7_2) = true:=decide_eq_true c13;clear c13
          by_cases c14:((rd_T37 l0_0 x7_2).f0) = x5_1
          .
           rw [if_pos c14] at H
           have c14b0:(((rd_T37 l0_0 x7_2).f0) == x5_1) = true:=beq_iff_eq.mpr c14;have c14b1:(((rd_T37 l0_0 x7_2).f0) != x5_1) = false:=bne_eq_false_iff_eq.mpr c14;clear c14
           by_cases c15:0 <= ((rd_T37 l0_0 x7_2).f1)
           .
            rw [if_pos c15] at H
            have c15b0:decide (0 <= ((rd_T37 l0_0 x7_2).f1)) = true:=decide_eq_true c15;clear c15
            by_cases c16:((rd_T37 l0_0 x7_2).f1) < (l0_1.length:Int)
            .
             rw [if_pos c16] at H
             have c16b0:decide (((rd_T37 l0_0 x7_2).f1) < (l0_1.length:Int)) = true:=decide_eq_true c16;clear c16
             obtain ⟨bq17,hbq17⟩:∃ b_:Bool,b_ = (rdOf false l0_1 ((rd_T37 l0_0 x7_2).f1)):=⟨_,rfl⟩
             replace H:(if (bq17 = true) then (if ((rd_T37 l0_0 x7_2).f1) = x5_1 then (if 0 <= ((rd_T37 l0_0 x7_2).f0) then (if ((rd_T37 l0_0 x7_2).f0) < (l0_1.length:Int) then (if (rdOf false l0_1 ((rd_T37 l0_0 x7_2).f0) = true) then (spec_OpenLeads.l1 k2 x4_1 x5_1 x6_2 (wrap64 (x7_2 + 1)) l0_0 l0_1 l0_2 a0_3 a0_4) else (spec_OpenLeads.l1 k2 x4_1 x5_1 false (wrap64 (x7_2 + 1)) l0_0 l0_1 l0_2 a0_3 a0_4)) else (none)) else (none)) else (spec_OpenLeads.l1 k2 x4_1 x5_1 x6_2 (wrap64 (x7_2 + 1)) l0_0 l0_1 l0_2 a0_3 a0_4)) else (spec_OpenLeads.l1 k2 x4_1 x5_1 false (wrap64 (x7_2 + 1)) l0_0 l0_1 l0_2 a0_3 a0_4)) = some (r1,r2):=by rw [<- hbq17] at H;exact H
             have Nbq17:=ak hbq17;clear hbq17
             by_cases c18:(bq17 = true)
             .
              subst c18
              have H1:(if ((rd_T37 l0_0 x7_2).f1) = x5_1 then (if 0 <= ((rd_T37 l0_0 x7_2).f0) then (if ((rd_T37 l0_0 x7_2).f0) < (l0_1.length:Int) then (if (rdOf false l0_1 ((rd_T37 l0_0 x7_2).f0) = true) then (spec_OpenLeads.l1 k2 x4_1 x5_1 x6_2 (wrap64 (x7_2 + 1)) l0_0 l0_1 l0_2 a0_3 a0_4) else (spec_OpenLeads.l1 k2 x4_1 x5_1 false (wrap64 (x7_2 + 1)) l0_0 l0_1 l0_2 a0_3 a0_4)) else (none)) else (none)) else (spec_OpenLeads.l1 k2 x4_1 x5_1 x6_2 (wrap64 (x7_2 + 1)) l0_0 l0_1 l0_2 a0_3 a0_4)) = some (r1,r2):=by rw [if_pos rfl] at H;exact H
              clear H;have H:=H1;clear H1
              by_cases c19:((rd_T37 l0_0 x7_2).f1) = x5_1
              .
               rw [if_pos c19] at H
               have c19b0:(((rd_T37 l0_0 x7_2).f1) == x5_1) = true:=beq_iff_eq.mpr c19;have c19b1:(((rd_T37 l0_0 x7_2).f1) != x5_1) = false:=bne_eq_false_iff_eq.mpr c19;clear c19
               by_cases c20:0 <= ((rd_T37 l0_0 x7_2).f0)
               .
                rw [if_pos c20] at H
                have c20b0:decide (0 <= ((rd_T37 l0_0 x7_2).f0)) = true:=decide_eq_true c20;clear c20
                by_cases c21:((rd_T37 l0_0 x7_2).f0) < (l0_1.length:Int)
                .
                 rw [if_pos c21] at H
                 have c21b0:decide (((rd_T37 l0_0 x7_2).f0) < (l0_1.length:Int)) = true:=decide_eq_true c21;clear c21
                 obtain ⟨bq22,hbq22⟩:∃ b_:Bool,b_ = (rdOf false l0_1 ((rd_T37 l0_0 x7_2).f0)):=⟨_,rfl⟩
                 replace H:(if (bq22 = true) then (spec_OpenLeads.l1 k2 x4_1 x5_1 x6_2 (wrap64 (x7_2 + 1)) l0_0 l0_1 l0_2 a0_3 a0_4) else (spec_OpenLeads.l1 k2 x4_1 x5_1 false (wrap64 (x7_2 + 1)) l0_0 l0_1 l0_2 a0_3 a0_4)) = some (r1,r2):=by rw [<- hbq22] at H;exact H
                 have Nbq22:=ak hbq22;clear hbq22
                 by_cases c23:(bq22 = true)
                 .
                  subst c23
                  have H1:(spec_OpenLeads.l1 k2 x4_1 x5_1 x6_2 (wrap64 (x7_2 + 1)) l0_0 l0_1 l0_2 a0_3 a0_4) = some (r1,r2):=by rw [if_pos rfl] at H;exact H
                  clear H;have H:=H1;clear H1;have H':=ak H;clear H;obtain ⟨hcz24_0,hcz24_1,hcz24_2,hcz24_3,hcz24_4⟩:=cz5_ BK1149.out;obtain ⟨hfz24_0,hfz24_1,hfz24_2,hfz24_3,hfz24_4⟩:=fz5_ BK1149.out;have p1155:0 <= (x7_2:Int):=dt_;have q1155:x7_2 < (l0_0.length:Int):=dt_;obtain ⟨ad1155,e1155,hx1155_0,hx1155_1,hx1155_2,hx1155_3,hx1155_4⟩:=at_T37 HR0_0.out x7_2 p1155 q1155
                  cases e1155
                  replace hx1155_0:=bc_ HB.out hx1155_0;replace hx1155_1:=bc_ HB.out hx1155_1;replace hx1155_2:=bc_ HB.out hx1155_2;replace hx1155_3:=bc_ HB.out hx1155_3;replace hx1155_4:=bc_ HB.out hx1155_4;replace p1155:=eq_true p1155;replace q1155:=eq_true q1155;have p1156:0 <= (x7_2:Int):=dt_;have q1156:x7_2 < (l0_0.length:Int):=dt_;obtain ⟨ad1156,e1156,hx1156_0,hx1156_1,hx1156_2,hx1156_3,hx1156_4⟩:=at_T37 HR0_0.out x7_2 p1156 q1156
                  obtain rfl:ad1155 = ad1156:=(by injection e1156)
                  replace hx1156_0:=bc_ HB.out hx1156_0;replace hx1156_1:=bc_ HB.out hx1156_1;replace hx1156_2:=bc_ HB.out hx1156_2;replace hx1156_3:=bc_ HB.out hx1156_3;replace hx1156_4:=bc_ HB.out hx1156_4;replace p1156:=eq_true p1156;replace q1156:=eq_true q1156;have p1157:0 <= (((rd_T37 l0_0 x7_2).f1):Int):=dt_;have q1157:((rd_T37 l0_0 x7_2).f1) < (l0_1.length:Int):=dt_;obtain ⟨ad1157,e1157,hx1157_0⟩:=Kd.at_bool HR0_1.out ((rd_T37 l0_0 x7_2).f1) p1157 q1157;(try rw [<- Nbq17.out] at hx1157_0);(try rw [<- Nbq22.out] at hx1157_0)
                  cases e1157
                  replace hx1157_0:=bc_ HB.out hx1157_0;replace p1157:=eq_true p1157;replace q1157:=eq_true q1157;have p1158:0 <= (((rd_T37 l0_0 x7_2).f0):Int):=dt_;have q1158:((rd_T37 l0_0 x7_2).f0) < (l0_1.length:Int):=dt_;obtain ⟨ad1158,e1158,hx1158_0⟩:=Kd.at_bool HR0_1.out ((rd_T37 l0_0 x7_2).f0) p1158 q1158;(try rw [<- Nbq17.out] at hx1158_0);(try rw [<- Nbq22.out] at hx1158_0)
                  obtain rfl:ad1157 = ad1158:=(by injection e1158)
                  replace hx1158_0:=bc_ HB.out hx1158_0;replace p1158:=eq_true p1158;replace q1158:=eq_true q1158
                  go_wp2
                  repeat (go_quiet (fail);try go_wp2)
                  go_roundg k2
                  case measure=>have:=HK1.out;have:=HK2.out;omega
                  case rel=>exact ⟨(x6_2),(wrap64 (x7_2 + 1)),(by first|rfl|(simp;done)|(simp [*];done)),(by first|rfl|(simp;done)|(simp [*];done)),H',⟨by have:=HK1.out;have:=HK2.out;omega⟩,⟨kr_ HO_4.out⟩,⟨bk_ BK1149.out⟩,⟨lb1_ HB.out GE1149.out⟩⟩
                 .
                  replace c23:=Bool.eq_false_iff.mpr c23;subst c23
                  have H1:(spec_OpenLeads.l1 k2 x4_1 x5_1 false (wrap64 (x7_2 + 1)) l0_0 l0_1 l0_2 a0_3 a0_4) = some (r1,r2):=by rw [if_neg (show ¬ (false = true) by decide)] at H;exact H
                  clear H;have H:=H1;clear H1;have H':=ak H;clear H;obtain ⟨hcz25_0,hcz25_1,hcz25_2,hcz25_3,hcz25_4⟩:=cz5_ BK1149.out;obtain ⟨hfz25_0,hfz25_1,hfz25_2,hfz25_3,hfz25_4⟩:=fz5_ BK1149.out;have p1155:0 <= (x7_2:Int):=dt_;have q1155:x7_2 < (l0_0.length:Int):=dt_;obtain ⟨ad1155,e1155,hx1155_0,hx1155_1,hx1155_2,hx1155_3,hx1155_4⟩:=at_T37 HR0_0.out x7_2 p1155 q1155
                  cases e1155
                  replace hx1155_0:=bc_ HB.out hx1155_0;replace hx1155_1:=bc_ HB.out hx1155_1;replace hx1155_2:=bc_ HB.out hx1155_2;replace hx1155_3:=bc_ HB.out hx1155_3;replace hx1155_4:=bc_ HB.out hx1155_4;replace p1155:=eq_true p1155;replace q1155:=eq_true q1155;have p1156:0 <= (x7_2:Int):=dt_;have q1156:x7_2 < (l0_0.length:Int):=dt_;obtain ⟨ad1156,e1156,hx1156_0,hx1156_1,hx1156_2,hx1156_3,hx1156_4⟩:=at_T37 HR0_0.out x7_2 p1156 q1156
                  obtain rfl:ad1155 = ad1156:=(by injection e1156)
                  replace hx1156_0:=bc_ HB.out hx1156_0;replace hx1156_1:=bc_ HB.out hx1156_1;replace hx1156_2:=bc_ HB.out hx1156_2;replace hx1156_3:=bc_ HB.out hx1156_3;replace hx1156_4:=bc_ HB.out hx1156_4;replace p1156:=eq_true p1156;replace q1156:=eq_true q1156;have p1157:0 <= (((rd_T37 l0_0 x7_2).f1):Int):=dt_;have q1157:((rd_T37 l0_0 x7_2).f1) < (l0_1.length:Int):=dt_;obtain ⟨ad1157,e1157,hx1157_0⟩:=Kd.at_bool HR0_1.out ((rd_T37 l0_0 x7_2).f1) p1157 q1157;(try rw [<- Nbq17.out] at hx1157_0);(try rw [<- Nbq22.out] at hx1157_0)
                  cases e1157
                  replace hx1157_0:=bc_ HB.out hx1157_0;replace p1157:=eq_true p1157;replace q1157:=eq_true q1157;have p1158:0 <= (((rd_T37 l0_0 x7_2).f0):Int):=dt_;have q1158:((rd_T37 l0_0 x7_2).f0) < (l0_1.length:Int):=dt_;obtain ⟨ad1158,e1158,hx1158_0⟩:=Kd.at_bool HR0_1.out ((rd_T37 l0_0 x7_2).f0) p1158 q1158;(try rw [<- Nbq17.out] at hx1158_0);(try rw [<- Nbq22.out] at hx1158_0)
                  obtain rfl:ad1157 = ad1158:=(by injection e1158)
                  replace hx1158_0:=bc_ HB.out hx1158_0;replace p1158:=eq_true p1158;replace q1158:=eq_true q1158
                  go_wp2
                  repeat (go_quiet (fail);try go_wp2)
                  go_roundg k2
                  case measure=>have:=HK1.out;have:=HK2.out;omega
                  case rel=>exact ⟨(false),(wrap64 (x7_2 + 1)),(by first|rfl|(simp;done)|(simp [*];done)),(by first|rfl|(simp;done)|(simp [*];done)),H',⟨by have:=HK1.out;have:=HK2.out;omega⟩,⟨kr_ HO_4.out⟩,⟨bk_ BK1149.out⟩,⟨lb1_ HB.out GE1149.out⟩⟩
                .
                 rw [if_neg c21] at H
                 exact absurd H (by simp)
               .
                rw [if_neg c20] at H
                exact absurd H (by simp)
              .
               rw [if_neg c19] at H
               have c19b0:(((rd_T37 l0_0 x7_2).f1) == x5_1) = false:=beq_eq_false_iff_ne.mpr c19;have c19b1:(((rd_T37 l0_0 x7_2).f1) != x5_1) = true:=bne_iff_ne.mpr c19;have H':=ak H;clear H;obtain ⟨hcz26_0,hcz26_1,hcz26_2,hcz26_3,hcz26_4⟩:=cz5_ BK1149.out;obtain ⟨hfz26_0,hfz26_1,hfz26_2,hfz26_3,hfz26_4⟩:=fz5_ BK1149.out;have p1155:0 <= (x7_2:Int):=dt_;have q1155:x7_2 < (l0_0.length:Int):=dt_;obtain ⟨ad1155,e1155,hx1155_0,hx1155_1,hx1155_2,hx1155_3,hx1155_4⟩:=at_T37 HR0_0.out x7_2 p1155 q1155
               cases e1155
               replace hx1155_0:=bc_ HB.out hx1155_0;replace hx1155_1:=bc_ HB.out hx1155_1;replace hx1155_2:=bc_ HB.out hx1155_2;replace hx1155_3:=bc_ HB.out hx1155_3;replace hx1155_4:=bc_ HB.out hx1155_4;replace p1155:=eq_true p1155;replace q1155:=eq_true q1155;have p1156:0 <= (x7_2:Int):=dt_;have q1156:x7_2 < (l0_0.length:Int):=dt_;obtain ⟨ad1156,e1156,hx1156_0,hx1156_1,hx1156_2,hx1156_3,hx1156_4⟩:=at_T37 HR0_0.out x7_2 p1156 q1156
               obtain rfl:ad1155 = ad1156:=(by injection e1156)
               replace hx1156_0:=bc_ HB.out hx1156_0;replace hx1156_1:=bc_ HB.out hx1156_1;replace hx1156_2:=bc_ HB.out hx1156_2;replace hx1156_3:=bc_ HB.out hx1156_3;replace hx1156_4:=bc_ HB.out hx1156_4;replace p1156:=eq_true p1156;replace q1156:=eq_true q1156;have p1157:0 <= (((rd_T37 l0_0 x7_2).f1):Int):=dt_;have q1157:((rd_T37 l0_0 x7_2).f1) < (l0_1.length:Int):=dt_;obtain ⟨ad1157,e1157,hx1157_0⟩:=Kd.at_bool HR0_1.out ((rd_T37 l0_0 x7_2).f1) p1157 q1157;(try rw [<- Nbq17.out] at hx1157_0)
               cases e1157
               replace hx1157_0:=bc_ HB.out hx1157_0;replace p1157:=eq_true p1157;replace q1157:=eq_true q1157
               go_wp2
               repeat (go_quiet (fail);try go_wp2)
               go_roundg k2
               case measure=>have:=HK1.out;have:=HK2.out;omega
               case rel=>exact ⟨(x6_2),(wrap64 (x7_2 + 1)),(by first|rfl|(simp;done)|(simp [*];done)),(by first|rfl|(simp;done)|(simp [*];done)),H',⟨by have:=HK1.out;have:=HK2.out;omega⟩,⟨kr_ HO_4.out⟩,⟨bk_ BK1149.out⟩,⟨lb1_ HB.out GE1149.out⟩⟩
             .
              replace c18:=Bool.eq_false_iff.mpr c18;subst c18
              have H1:(spec_OpenLeads.l1 k2 x4_1 x5_1 false (wrap64 (x7_2 + 1)) l0_0 l0_1 l0_2 a0_3 a0_4) = some (r1,r2):=by rw [if_neg (show ¬ (false = true) by decide)] at H;exact H
              clear H;have H:=H1;clear H1;have H':=ak H;clear H;obtain ⟨hcz27_0,hcz27_1,hcz27_2,hcz27_3,hcz27_4⟩:=cz5_ BK1149.out;obtain ⟨hfz27_0,hfz27_1,hfz27_2,hfz27_3,hfz27_4⟩:=fz5_ BK1149.out;have p1155:0 <= (x7_2:Int):=dt_;have q1155:x7_2 < (l0_0.length:Int):=dt_;obtain ⟨ad1155,e1155,hx1155_0,hx1155_1,hx1155_2,hx1155_3,hx1155_4⟩:=at_T37 HR0_0.out x7_2 p1155 q1155
              cases e1155
              replace hx1155_0:=bc_ HB.out hx1155_0;replace hx1155_1:=bc_ HB.out hx1155_1;replace hx1155_2:=bc_ HB.out hx1155_2;replace hx1155_3:=bc_ HB.out hx1155_3;replace hx1155_4:=bc_ HB.out hx1155_4;replace p1155:=eq_true p1155;replace q1155:=eq_true q1155;have p1156:0 <= (x7_2:Int):=dt_;have q1156:x7_2 < (l0_0.length:Int):=dt_;obtain ⟨ad1156,e1156,hx1156_0,hx1156_1,hx1156_2,hx1156_3,hx1156_4⟩:=at_T37 HR0_0.out x7_2 p1156 q1156
              obtain rfl:ad1155 = ad1156:=(by injection e1156)
              replace hx1156_0:=bc_ HB.out hx1156_0;replace hx1156_1:=bc_ HB.out hx1156_1;replace hx1156_2:=bc_ HB.out hx1156_2;replace hx1156_3:=bc_ HB.out hx1156_3;replace hx1156_4:=bc_ HB.out hx1156_4;replace p1156:=eq_true p1156;replace q1156:=eq_true q1156;have p1157:0 <= (((rd_T37 l0_0 x7_2).f1):Int):=dt_;have q1157:((rd_T37 l0_0 x7_2).f1) < (l0_1.length:Int):=dt_;obtain ⟨ad1157,e1157,hx1157_0⟩:=Kd.at_bool HR0_1.out ((rd_T37 l0_0 x7_2).f1) p1157 q1157;(try rw [<- Nbq17.out] at hx1157_0)
              cases e1157
              replace hx1157_0:=bc_ HB.out hx1157_0;replace p1157:=eq_true p1157;replace q1157:=eq_true q1157
              go_wp2
              repeat (go_quiet (fail);try go_wp2)
              go_roundg k2
              case measure=>have:=HK1.out;have:=HK2.out;omega
              case rel=>exact ⟨(false),(wrap64 (x7_2 + 1)),(by first|rfl|(simp;done)|(simp [*];done)),(by first|rfl|(simp;done)|(simp [*];done)),H',⟨by have:=HK1.out;have:=HK2.out;omega⟩,⟨kr_ HO_4.out⟩,⟨bk_ BK1149.out⟩,⟨lb1_ HB.out GE1149.out⟩⟩
            .
             rw [if_neg c16] at H
             exact absurd H (by simp)
           .
            rw [if_neg c15] at H
            exact absurd H (by simp)
          .
           rw [if_neg c14] at H
           have c14b0:(((rd_T37 l0_0 x7_2).f0) == x5_1) = false:=beq_eq_false_iff_ne.mpr c14;have c14b1:(((rd_T37 l0_0 x7_2).f0) != x5_1) = true:=bne_iff_ne.mpr c14
           by_cases c28:((rd_T37 l0_0 x7_2).f1) = x5_1
           .
            rw [if_pos c28] at H
            have c28b0:(((rd_T37 l0_0 x7_2).f1) == x5_1) = true:=beq_iff_eq.mpr c28;have c28b1:(((rd_T37 l0_0 x7_2).f1) != x5_1) = false:=bne_eq_false_iff_eq.mpr c28;clear c28
            by_cases c29:0 <= ((rd_T37 l0_0 x7_2).f0)
            .
             rw [if_pos c29] at H
             have c29b0:decide (0 <= ((rd_T37 l0_0 x7_2).f0)) = true:=decide_eq_true c29;clear c29
             by_cases c30:((rd_T37 l0_0 x7_2).f0) < (l0_1.length:Int)
             .
              rw [if_pos c30] at H
              have c30b0:decide (((rd_T37 l0_0 x7_2).f0) < (l0_1.length:Int)) = true:=decide_eq_true c30;clear c30
              obtain ⟨bq31,hbq31⟩:∃ b_:Bool,b_ = (rdOf false l0_1 ((rd_T37 l0_0 x7_2).f0)):=⟨_,rfl⟩
              replace H:(if (bq31 = true) then (spec_OpenLeads.l1 k2 x4_1 x5_1 x6_2 (wrap64 (x7_2 + 1)) l0_0 l0_1 l0_2 a0_3 a0_4) else (spec_OpenLeads.l1 k2 x4_1 x5_1 false (wrap64 (x7_2 + 1)) l0_0 l0_1 l0_2 a0_3 a0_4)) = some (r1,r2):=by rw [<- hbq31] at H;exact H
              have Nbq31:=ak hbq31;clear hbq31
              by_cases c32:(bq31 = true)
              .
               subst c32
               have H1:(spec_OpenLeads.l1 k2 x4_1 x5_1 x6_2 (wrap64 (x7_2 + 1)) l0_0 l0_1 l0_2 a0_3 a0_4) = some (r1,r2):=by rw [if_pos rfl] at H;exact H
               clear H;have H:=H1;clear H1;have H':=ak H;clear H;obtain ⟨hcz33_0,hcz33_1,hcz33_2,hcz33_3,hcz33_4⟩:=cz5_ BK1149.out;obtain ⟨hfz33_0,hfz33_1,hfz33_2,hfz33_3,hfz33_4⟩:=fz5_ BK1149.out;have p1155:0 <= (x7_2:Int):=dt_;have q1155:x7_2 < (l0_0.length:Int):=dt_;obtain ⟨ad1155,e1155,hx1155_0,hx1155_1,hx1155_2,hx1155_3,hx1155_4⟩:=at_T37 HR0_0.out x7_2 p1155 q1155
               cases e1155
               replace hx1155_0:=bc_ HB.out hx1155_0;replace hx1155_1:=bc_ HB.out hx1155_1;replace hx1155_2:=bc_ HB.out hx1155_2;replace hx1155_3:=bc_ HB.out hx1155_3;replace hx1155_4:=bc_ HB.out hx1155_4;replace p1155:=eq_true p1155;replace q1155:=eq_true q1155;have p1156:0 <= (x7_2:Int):=dt_;have q1156:x7_2 < (l0_0.length:Int):=dt_;obtain ⟨ad1156,e1156,hx1156_0,hx1156_1,hx1156_2,hx1156_3,hx1156_4⟩:=at_T37 HR0_0.out x7_2 p1156 q1156
               obtain rfl:ad1155 = ad1156:=(by injection e1156)
               replace hx1156_0:=bc_ HB.out hx1156_0;replace hx1156_1:=bc_ HB.out hx1156_1;replace hx1156_2:=bc_ HB.out hx1156_2;replace hx1156_3:=bc_ HB.out hx1156_3;replace hx1156_4:=bc_ HB.out hx1156_4;replace p1156:=eq_true p1156;replace q1156:=eq_true q1156;have p1159:0 <= (((rd_T37 l0_0 x7_2).f0):Int):=dt_;have q1159:((rd_T37 l0_0 x7_2).f0) < (l0_1.length:Int):=dt_;obtain ⟨ad1159,e1159,hx1159_0⟩:=Kd.at_bool HR0_1.out ((rd_T37 l0_0 x7_2).f0) p1159 q1159;(try rw [<- Nbq31.out] at hx1159_0)
               cases e1159
               replace hx1159_0:=bc_ HB.out hx1159_0;replace p1159:=eq_true p1159;replace q1159:=eq_true q1159
               go_wp2
               repeat (go_quiet (fail);try go_wp2)
               go_roundg k2
               case measure=>have:=HK1.out;have:=HK2.out;omega
               case rel=>exact ⟨(x6_2),(wrap64 (x7_2 + 1)),(by first|rfl|(simp;done)|(simp [*];done)),(by first|rfl|(simp;done)|(simp [*];done)),H',⟨by have:=HK1.out;have:=HK2.out;omega⟩,⟨kr_ HO_4.out⟩,⟨bk_ BK1149.out⟩,⟨lb1_ HB.out GE1149.out⟩⟩
              .
               replace c32:=Bool.eq_false_iff.mpr c32;subst c32
               have H1:(spec_OpenLeads.l1 k2 x4_1 x5_1 false (wrap64 (x7_2 + 1)) l0_0 l0_1 l0_2 a0_3 a0_4) = some (r1,r2):=by rw [if_neg (show ¬ (false = true) by decide)] at H;exact H
               clear H;have H:=H1;clear H1;have H':=ak H;clear H;obtain ⟨hcz34_0,hcz34_1,hcz34_2,hcz34_3,hcz34_4⟩:=cz5_ BK1149.out;obtain ⟨hfz34_0,hfz34_1,hfz34_2,hfz34_3,hfz34_4⟩:=fz5_ BK1149.out;have p1155:0 <= (x7_2:Int):=dt_;have q1155:x7_2 < (l0_0.length:Int):=dt_;obtain ⟨ad1155,e1155,hx1155_0,hx1155_1,hx1155_2,hx1155_3,hx1155_4⟩:=at_T37 HR0_0.out x7_2 p1155 q1155
               cases e1155
               replace hx1155_0:=bc_ HB.out hx1155_0;replace hx1155_1:=bc_ HB.out hx1155_1;replace hx1155_2:=bc_ HB.out hx1155_2;replace hx1155_3:=bc_ HB.out hx1155_3;replace hx1155_4:=bc_ HB.out hx1155_4;replace p1155:=eq_true p1155;replace q1155:=eq_true q1155;have p1156:0 <= (x7_2:Int):=dt_;have q1156:x7_2 < (l0_0.length:Int):=dt_;obtain ⟨ad1156,e1156,hx1156_0,hx1156_1,hx1156_2,hx1156_3,hx1156_4⟩:=at_T37 HR0_0.out x7_2 p1156 q1156
               obtain rfl:ad1155 = ad1156:=(by injection e1156)
               replace hx1156_0:=bc_ HB.out hx1156_0;replace hx1156_1:=bc_ HB.out hx1156_1;replace hx1156_2:=bc_ HB.out hx1156_2;replace hx1156_3:=bc_ HB.out hx1156_3;replace hx1156_4:=bc_ HB.out hx1156_4;replace p1156:=eq_true p1156;replace q1156:=eq_true q1156;have p1159:0 <= (((rd_T37 l0_0 x7_2).f0):Int):=dt_;have q1159:((rd_T37 l0_0 x7_2).f0) < (l0_1.length:Int):=dt_;obtain ⟨ad1159,e1159,hx1159_0⟩:=Kd.at_bool HR0_1.out ((rd_T37 l0_0 x7_2).f0) p1159 q1159;(try rw [<- Nbq31.out] at hx1159_0)
               cases e1159
               replace hx1159_0:=bc_ HB.out hx1159_0;replace p1159:=eq_true p1159;replace q1159:=eq_true q1159
               go_wp2
               repeat (go_quiet (fail);try go_wp2)
               go_roundg k2
               case measure=>have:=HK1.out;have:=HK2.out;omega
               case rel=>exact ⟨(false),(wrap64 (x7_2 + 1)),(by first|rfl|(simp;done)|(simp [*];done)),(by first|rfl|(simp;done)|(simp [*];done)),H',⟨by have:=HK1.out;have:=HK2.out;omega⟩,⟨kr_ HO_4.out⟩,⟨bk_ BK1149.out⟩,⟨lb1_ HB.out GE1149.out⟩⟩
             .
              rw [if_neg c30] at H
              exact absurd H (by simp)
            .
             rw [if_neg c29] at H
             exact absurd H (by simp)
           .
            rw [if_neg c28] at H
            have c28b0:(((rd_T37 l0_0 x7_2).f1) == x5_1) = false:=beq_eq_false_iff_ne.mpr c28;have c28b1:(((rd_T37 l0_0 x7_2).f1) != x5_1) = true:=bne_iff_ne.mpr c28;have H':=ak H;clear H;obtain ⟨hcz35_0,hcz35_1,hcz35_2,hcz35_3,hcz35_4⟩:=cz5_ BK1149.out;obtain ⟨hfz35_0,hfz35_1,hfz35_2,hfz35_3,hfz35_4⟩:=fz5_ BK1149.out;have p1155:0 <= (x7_2:Int):=dt_;have q1155:x7_2 < (l0_0.length:Int):=dt_;obtain ⟨ad1155,e1155,hx1155_0,hx1155_1,hx1155_2,hx1155_3,hx1155_4⟩:=at_T37 HR0_0.out x7_2 p1155 q1155
            cases e1155
            replace hx1155_0:=bc_ HB.out hx1155_0;replace hx1155_1:=bc_ HB.out hx1155_1;replace hx1155_2:=bc_ HB.out hx1155_2;replace hx1155_3:=bc_ HB.out hx1155_3;replace hx1155_4:=bc_ HB.out hx1155_4;replace p1155:=eq_true p1155;replace q1155:=eq_true q1155;have p1156:0 <= (x7_2:Int):=dt_;have q1156:x7_2 < (l0_0.length:Int):=dt_;obtain ⟨ad1156,e1156,hx1156_0,hx1156_1,hx1156_2,hx1156_3,hx1156_4⟩:=at_T37 HR0_0.out x7_2 p1156 q1156
            obtain rfl:ad1155 = ad1156:=(by injection e1156)
            replace hx1156_0:=bc_ HB.out hx1156_0;replace hx1156_1:=bc_ HB.out hx1156_1;replace hx1156_2:=bc_ HB.out hx1156_2;replace hx1156_3:=bc_ HB.out hx1156_3;replace hx1156_4:=bc_ HB.out hx1156_4;replace p1156:=eq_true p1156;replace q1156:=eq_true q1156
            go_wp2
            repeat (go_quiet (fail);try go_wp2)
            go_roundg k2
            case measure=>have:=HK1.out;have:=HK2.out;omega
            case rel=>exact ⟨(x6_2),(wrap64 (x7_2 + 1)),(by first|rfl|(simp;done)|(simp [*];done)),(by first|rfl|(simp;done)|(simp [*];done)),H',⟨by have:=HK1.out;have:=HK2.out;omega⟩,⟨kr_ HO_4.out⟩,⟨bk_ BK1149.out⟩,⟨lb1_ HB.out GE1149.out⟩⟩
         .
          rw [if_neg c13] at H
          exact absurd H (by simp)
        .
         rw [if_neg c12] at H
         have c12b0:decide (x7_2 < (l0_0.length:Int)) = false:=decide_eq_false c12;clear c12
         by_cases c36:x6_2 = true
         .
          subst c36
          have H1:(if x4_1.length < 17592186044416 then (spec_OpenLeads.l0 k2 (x4_1 ++ [x5_1]) (wrap64 (x5_1 + 1)) l0_0 l0_1 l0_2 a0_3 a0_4) else (none)) = some (r1,r2):=by rw [if_pos rfl] at H;exact H
          clear H;have H:=H1;clear H1
          by_cases c37:x4_1.length < 17592186044416
          .
           rw [if_pos c37] at H
           have LMc37:=ak c37;clear c37
           obtain ⟨y1160,hy1160⟩:∃ y_:List Int,y_ = (x4_1 ++ [x5_1]):=⟨_,rfl⟩
           replace H:(spec_OpenLeads.l0 k2 y1160 (wrap64 (x5_1 + 1)) l0_0 l0_1 l0_2 a0_3 a0_4) = some (r1,r2):=by first|(rw [hy1160];with_reducible exact H)|(have H2_:=(Option.bind_some _ _).symm.trans H;rw [hy1160];with_reducible exact H2_)|(have H2_:=(Option.bind_some _ _).symm.trans H;with_reducible exact H2_)|with_reducible exact H|(rw [hy1160];exact H)|exact H
           have Ny1160:=ak hy1160;clear hy1160;have H':=ak H;clear H;obtain ⟨hcz38_0,hcz38_1,hcz38_2,hcz38_3,hcz38_4⟩:=cz5_ BK1149.out;obtain ⟨hfz38_0,hfz38_1,hfz38_2,hfz38_3,hfz38_4⟩:=fz5_ BK1149.out
           go_wp2_with (first|((with_reducible refine gate_builtin (b:=.append) (xs:=#[.tmp 71,.tmp 73]) rfl ?_);at_builtin;refine Kd.R_append (Kd.int .i64) (w0:=w) w.heap.size rfl (.tmp 71) (.tmp 73) 60 3 (.int .i64 0) 8 rfl Try.underlying60 info3 rfl (by decide) (by omega) u4 x4_1 x5_1 [.int .i64 x5_1] (fun _=>True) (fun _=>False) rfl rfl ?aP (fun _ hk=>hk.elim) ?aF ?aO ?aB ?aS ?aL ?_;(case aP=>exact rfl);(case aB=>exact (lb1_ HB.out GE1149.out));(case aF=>exact (fun _ _=>trivial));(case aO=>exact (kr_ HO_4.out));(case aS=>exact (below_size (lb1_ HB.out GE1149.out)));(case aL=>have:=LMc37.out;omega);intro v1161 w39 ho hb hg hat;rw [<- Ny1160.out] at ho;replace BK1149:=ak (blk_grown (g:=gb1149) (o:=.cells #[.slice A0_0 l0_0.length c0_0,.slice A0_1 l0_1.length c0_1,.slice (some ad1154) l0_2.length c0_2,.int .i64 a0_3,.int .i64 a0_4] 30 (0,0)) (bk_ BK1149.out) hg (Kd.R_ne HO_4.out BK1149.out (by decide)));replace HB:=ak (hb);have HO1162:=ak (ho);clear HO_4;clear ho hb hg hat))
           repeat (go_quiet (first|((with_reducible refine gate_builtin (b:=.append) (xs:=#[.tmp 71,.tmp 73]) rfl ?_);at_builtin;refine Kd.R_append (Kd.int .i64) (w0:=w) w.heap.size rfl (.tmp 71) (.tmp 73) 60 3 (.int .i64 0) 8 rfl Try.underlying60 info3 rfl (by decide) (by omega) u4 x4_1 x5_1 [.int .i64 x5_1] (fun _=>True) (fun _=>False) rfl rfl ?aP (fun _ hk=>hk.elim) ?aF ?aO ?aB ?aS ?aL ?_;(case aP=>exact rfl);(case aB=>exact (lb1_ HB.out GE1149.out));(case aF=>exact (fun _ _=>trivial));(case aO=>exact (kr_ HO_4.out));(case aS=>exact (below_size (lb1_ HB.out GE1149.out)));(case aL=>have:=LMc37.out;omega);intro v1161 w39 ho hb hg hat;rw [<- Ny1160.out] at ho;replace BK1149:=ak (blk_grown (g:=gb1149) (o:=.cells #[.slice A0_0 l0_0.length c0_0,.slice A0_1 l0_1.length c0_1,.slice (some ad1154) l0_2.length c0_2,.int .i64 a0_3,.int .i64 a0_4] 30 (0,0)) (bk_ BK1149.out) hg (Kd.R_ne HO_4.out BK1149.out (by decide)));replace HB:=ak (hb);have HO1162:=ak (ho);clear HO_4;clear ho hb hg hat));try go_wp2_with (first|((with_reducible refine gate_builtin (b:=.append) (xs:=#[.tmp 71,.tmp 73]) rfl ?_);at_builtin;refine Kd.R_append (Kd.int .i64) (w0:=w) w.heap.size rfl (.tmp 71) (.tmp 73) 60 3 (.int .i64 0) 8 rfl Try.underlying60 info3 rfl (by decide) (by omega) u4 x4_1 x5_1 [.int .i64 x5_1] (fun _=>True) (fun _=>False) rfl rfl ?aP (fun _ hk=>hk.elim) ?aF ?aO ?aB ?aS ?aL ?_;(case aP=>exact rfl);(case aB=>exact (lb1_ HB.out GE1149.out));(case aF=>exact (fun _ _=>trivial));(case aO=>exact (kr_ HO_4.out));(case aS=>exact (below_size (lb1_ HB.out GE1149.out)));(case aL=>have:=LMc37.out;omega);intro v1161 w39 ho hb hg hat;rw [<- Ny1160.out] at ho;replace BK1149:=ak (blk_grown (g:=gb1149) (o:=.cells #[.slice A0_0 l0_0.length c0_0,.slice A0_1 l0_1.length c0_1,.slice (some ad1154) l0_2.length c0_2,.int .i64 a0_3,.int .i64 a0_4] 30 (0,0)) (bk_ BK1149.out) hg (Kd.R_ne HO_4.out BK1149.out (by decide)));replace HB:=ak (hb);have HO1162:=ak (ho);clear HO_4;clear ho hb hg hat)))
           go_roundg k2
           case measure=>have:=HK1.out;have:=HK2.out;omega
           case rel=>exact ⟨(y1160),(wrap64 (x5_1 + 1)),(by first|rfl|(simp;done)|(simp [*];done)),H',⟨by have:=HK1.out;have:=HK2.out;omega⟩,⟨kr_ HO1162.out⟩,⟨bk_ BK1149.out⟩,⟨lb1_ HB.out GE1149.out⟩⟩
          .
           rw [if_neg c37] at H
           exact absurd H (by simp)
         .
          replace c36:=Bool.eq_false_iff.mpr c36;subst c36
          have H1:(spec_OpenLeads.l0 k2 x4_1 (wrap64 (x5_1 + 1)) l0_0 l0_1 l0_2 a0_3 a0_4) = some (r1,r2):=by rw [if_neg (show ¬ (false = true) by decide)] at H;exact H
          clear H;have H:=H1;clear H1;have H':=ak H;clear H;obtain ⟨hcz40_0,hcz40_1,hcz40_2,hcz40_3,hcz40_4⟩:=cz5_ BK1149.out;obtain ⟨hfz40_0,hfz40_1,hfz40_2,hfz40_3,hfz40_4⟩:=fz5_ BK1149.out
          go_wp2
          repeat (go_quiet (fail);try go_wp2)
          go_roundg k2
          case measure=>have:=HK1.out;have:=HK2.out;omega
          case rel=>exact ⟨(x4_1),(wrap64 (x5_1 + 1)),(by first|rfl|(simp;done)|(simp [*];done)),H',⟨by have:=HK1.out;have:=HK2.out;omega⟩,⟨kr_ HO_4.out⟩,⟨bk_ BK1149.out⟩,⟨lb1_ HB.out GE1149.out⟩⟩
     .
      rw [if_neg c10] at H
      exact absurd H (by simp)
    .
     rw [if_neg c9] at H
     have c9b0:decide (x5_1 < (l0_2.length:Int)) = false:=decide_eq_false c9
     clear c9
     simp only [Option.some.injEq,Prod.mk.injEq] at H
     obtain ⟨rfl,rfl⟩:=H
     obtain ⟨hcz41_0,hcz41_1,hcz41_2,hcz41_3,hcz41_4⟩:=cz5_ BK1149.out
     obtain ⟨hfz41_0,hfz41_1,hfz41_2,hfz41_3,hfz41_4⟩:=fz5_ BK1149.out
     go_wp2
     repeat (go_quiet (fail);try go_wp2)
     go_ret2
     exact ⟨_,rr_,kr_ HO_4.out,lb1_ HB.out GE1149.out⟩
 .
  replace c3:=Bool.eq_false_iff.mpr c3
  subst c3
  have H1:(some (y1150,false)) = some (r1,r2):=by rw [if_neg (show ¬ (false = true) by decide)] at H;exact H
  clear H
  have H:=H1
  clear H1
  simp only [Option.some.injEq,Prod.mk.injEq] at H
  obtain ⟨rfl,rfl⟩:=H
  go_enter Try.func43,Try.ntmps43
  go_wp2_with (first|((with_reducible refine gate_dst (N:=1) rfl ?_);refine box_event ?hg (N:=1) ?hd (cs:=#[.slice A0_0 l0_0.length c0_0,.slice A0_1 l0_1.length c0_1,.slice A0_2 l0_2.length c0_2,.int .i64 a0_3,.int .i64 a0_4]) (t:=30) ?hr ?_;(case hd=>rfl);(case hg=>rfl);(case hr=>first|(go_simp;done)|(go_simp;rfl));intro gb1149 hg w42 hbox hb;have BK1149:=ak (hbox);have GW1149:=ak ((bz_ hg (lb0_ HB.out)));have GE1149:=ak ((bz_ hg (lb0_ HB.out)));replace HB:=ak (below_step (lb0_ HB.out) hb);clear hb hbox hg)|((with_reducible refine gate_dst (N:=10) rfl ?_);refine Kd.R_lit (Kd.int .i64) _ 3 ?hg (N:=10) ?hd (xs:=([]:List Int)) (inner:=[]) (ok:=fun _=>True) (okp:=fun _=>True) ?hr ?hp (fun _ hk=>hk) trivial (Below.refl _ _) (Nat.le_refl _) (by simp) ?_;(case hd=>rfl);(case hg=>rfl);(case hr=>first|(go_simp;done)|(go_simp;rfl));(case hp=>exact (Reps.none _ _));intro v1151 w43 ho44 hb hg_ hnew_;clear hg_ hnew_;replace ho44:=ry_ Ny1150.out ho44;have HO1152:=ak (Kd.R_lower ho44 (below_size (lb1_ HB.out GE1149.out)));replace BK1149:=ak (bb_ (bk_ BK1149.out) hb);replace HB:=ak (below_step (lb1_ HB.out GE1149.out) hb);clear hb ho44;obtain ⟨hcz45_0,hcz45_1,hcz45_2,hcz45_3,hcz45_4⟩:=cz5_ BK1149.out;obtain ⟨hfz45_0,hfz45_1,hfz45_2,hfz45_3,hfz45_4⟩:=fz5_ BK1149.out)|(go_at_call 67;(with_reducible refine (spec_l25Good.calls k _ _ l0_0 _ _ l0_1 _ _ l0_2 a0_3 a0_4 false _ ?side1 ?side2 ?side3 ?side4 ?side5 ?side6 A2.out).mono ?_);(case side1=>exact kc_ (Kd.C_below HR0_0.out HB.out));(case side2=>exact HC0_0.out);(case side3=>exact kc_ (Kd.C_below HR0_1.out HB.out));(case side4=>exact HC0_1.out);(case side5=>exact kc_ (Kd.C_below HR0_2.out HB.out));(case side6=>exact HC0_2.out);rintro e w46 ⟨rfl,hb⟩;replace HO1152:=ak (Kd.R_below (kr_ HO1152.out) hb);replace BK1149:=ak (bb_ (bk_ BK1149.out) hb);replace HB:=ak (below_step (lb1_ HB.out GE1149.out) hb);(try clear hb);(try clear hb2);(try clear hk);(try clear hi)))
  repeat (go_quiet (first|((with_reducible refine gate_dst (N:=1) rfl ?_);refine box_event ?hg (N:=1) ?hd (cs:=#[.slice A0_0 l0_0.length c0_0,.slice A0_1 l0_1.length c0_1,.slice A0_2 l0_2.length c0_2,.int .i64 a0_3,.int .i64 a0_4]) (t:=30) ?hr ?_;(case hd=>rfl);(case hg=>rfl);(case hr=>first|(go_simp;done)|(go_simp;rfl));intro gb1149 hg w42 hbox hb;have BK1149:=ak (hbox);have GW1149:=ak ((bz_ hg (lb0_ HB.out)));have GE1149:=ak ((bz_ hg (lb0_ HB.out)));replace HB:=ak (below_step (lb0_ HB.out) hb);clear hb hbox hg)|((with_reducible refine gate_dst (N:=10) rfl ?_);refine Kd.R_lit (Kd.int .i64) _ 3 ?hg (N:=10) ?hd (xs:=([]:List Int)) (inner:=[]) (ok:=fun _=>True) (okp:=fun _=>True) ?hr ?hp (fun _ hk=>hk) trivial (Below.refl _ _) (Nat.le_refl _) (by simp) ?_;(case hd=>rfl);(case hg=>rfl);(case hr=>first|(go_simp;done)|(go_simp;rfl));(case hp=>exact (Reps.none _ _));intro v1151 w43 ho44 hb hg_ hnew_;clear hg_ hnew_;replace ho44:=ry_ Ny1150.out ho44;have HO1152:=ak (Kd.R_lower ho44 (below_size (lb1_ HB.out GE1149.out)));replace BK1149:=ak (bb_ (bk_ BK1149.out) hb);replace HB:=ak (below_step (lb1_ HB.out GE1149.out) hb);clear hb ho44;obtain ⟨hcz45_0,hcz45_1,hcz45_2,hcz45_3,hcz45_4⟩:=cz5_ BK1149.out;obtain ⟨hfz45_0,hfz45_1,hfz45_2,hfz45_3,hfz45_4⟩:=fz5_ BK1149.out)|(go_at_call 67;(with_reducible refine (spec_l25Good.calls k _ _ l0_0 _ _ l0_1 _ _ l0_2 a0_3 a0_4 false _ ?side1 ?side2 ?side3 ?side4 ?side5 ?side6 A2.out).mono ?_);(case side1=>exact kc_ (Kd.C_below HR0_0.out HB.out));(case side2=>exact HC0_0.out);(case side3=>exact kc_ (Kd.C_below HR0_1.out HB.out));(case side4=>exact HC0_1.out);(case side5=>exact kc_ (Kd.C_below HR0_2.out HB.out));(case side6=>exact HC0_2.out);rintro e w46 ⟨rfl,hb⟩;replace HO1152:=ak (Kd.R_below (kr_ HO1152.out) hb);replace BK1149:=ak (bb_ (bk_ BK1149.out) hb);replace HB:=ak (below_step (lb1_ HB.out GE1149.out) hb);(try clear hb);(try clear hb2);(try clear hk);(try clear hi)));try go_wp2_with (first|((with_reducible refine gate_dst (N:=1) rfl ?_);refine box_event ?hg (N:=1) ?hd (cs:=#[.slice A0_0 l0_0.length c0_0,.slice A0_1 l0_1.length c0_1,.slice A0_2 l0_2.length c0_2,.int .i64 a0_3,.int .i64 a0_4]) (t:=30) ?hr ?_;(case hd=>rfl);(case hg=>rfl);(case hr=>first|(go_simp;done)|(go_simp;rfl));intro gb1149 hg w42 hbox hb;have BK1149:=ak (hbox);have GW1149:=ak ((bz_ hg (lb0_ HB.out)));have GE1149:=ak ((bz_ hg (lb0_ HB.out)));replace HB:=ak (below_step (lb0_ HB.out) hb);clear hb hbox hg)|((with_reducible refine gate_dst (N:=10) rfl ?_);refine Kd.R_lit (Kd.int .i64) _ 3 ?hg (N:=10) ?hd (xs:=([]:List Int)) (inner:=[]) (ok:=fun _=>True) (okp:=fun _=>True) ?hr ?hp (fun _ hk=>hk) trivial (Below.refl _ _) (Nat.le_refl _) (by simp) ?_;(case hd=>rfl);(case hg=>rfl);(case hr=>first|(go_simp;done)|(go_simp;rfl));(case hp=>exact (Reps.none _ _));intro v1151 w43 ho44 hb hg_ hnew_;clear hg_ hnew_;replace ho44:=ry_ Ny1150.out ho44;have HO1152:=ak (Kd.R_lower ho44 (below_size (lb1_ HB.out GE1149.out)));replace BK1149:=ak (bb_ (bk_ BK1149.out) hb);replace HB:=ak (below_step (lb1_ HB.out GE1149.out) hb);clear hb ho44;obtain ⟨hcz45_0,hcz45_1,hcz45_2,hcz45_3,hcz45_4⟩:=cz5_ BK1149.out;obtain ⟨hfz45_0,hfz45_1,hfz45_2,hfz45_3,hfz45_4⟩:=fz5_ BK1149.out)|(go_at_call 67;(with_reducible refine (spec_l25Good.calls k _ _ l0_0 _ _ l0_1 _ _ l0_2 a0_3 a0_4 false _ ?side1 ?side2 ?side3 ?side4 ?side5 ?side6 A2.out).mono ?_);(case side1=>exact kc_ (Kd.C_below HR0_0.out HB.out));(case side2=>exact HC0_0.out);(case side3=>exact kc_ (Kd.C_below HR0_1.out HB.out));(case side4=>exact HC0_1.out);(case side5=>exact kc_ (Kd.C_below HR0_2.out HB.out));(case side6=>exact HC0_2.out);rintro e w46 ⟨rfl,hb⟩;replace HO1152:=ak (Kd.R_below (kr_ HO1152.out) hb);replace BK1149:=ak (bb_ (bk_ BK1149.out) hb);replace HB:=ak (below_step (lb1_ HB.out GE1149.out) hb);(try clear hb);(try clear hb2);(try clear hk);(try clear hi))))
  go_ret2
  exact ⟨_,rr_,kr_ HO1152.out,lb1_ HB.out GE1149.out⟩
def idxP {α:Type} (p:α -> Bool) (l:List α):Int:=if l.any p then (l.findIdx p:Int) else -1
theorem idxP_hit {α:Type} (p:α -> Bool) (z:α) (l:List α) (k:Nat) (hk:k < l.length) (h:p (l.getD k z) = true) (hb:∀ j,j < k -> p (l.getD j z) = false):idxP p l = k:=by
 have hf:l.findIdx p = k:=by
  rw [List.findIdx_eq hk]
  refine ⟨by rw [List.getD_eq_getElem?_getD,List.getElem?_eq_getElem hk] at h;exact h,fun j hj=>?_⟩
  have:=hb j hj
  rw [List.getD_eq_getElem?_getD,List.getElem?_eq_getElem (by omega)] at this
  exact this
 unfold idxP
 rw [if_pos,hf]
 rw [List.any_eq_true]
 refine ⟨l[k],List.getElem_mem hk,?_⟩
 rw [List.getD_eq_getElem?_getD,List.getElem?_eq_getElem hk] at h
 exact h
theorem idxP_miss {α:Type} (p:α -> Bool) (z:α) (l:List α) (hb:∀ j,j < l.length -> p (l.getD j z) = false):idxP p l = -1:=by
 unfold idxP
 rw [if_neg]
 rw [List.any_eq_true]
 rintro ⟨x,hx,hp⟩
 obtain ⟨j,hj,rfl⟩:=List.mem_iff_getElem.1 hx
 have:=hb j hj
 rw [List.getD_eq_getElem?_getD,List.getElem?_eq_getElem hj] at this
 rw [show (some l[j]).getD z = l[j] from rfl,hp] at this
 cases this
theorem idxP_any {α:Type} (p:α -> Bool) (l:List α):decide (0 <= idxP p l) = l.any p:=by
 unfold idxP
 split
 .
  rename_i h
  rw [h]
  simp
 .
  rename_i h
  rw [Bool.eq_false_iff.mpr h]
  rfl
set_option maxHeartbeats 4000000 in
theorem idx_Leg.calls (p:S37 -> Bool) (g:Nat) (lb:Array Value) (eg:∀ args w,(callFunc g args).run Try.prog w = .ok (.enter g args) w) (A0:Option Addr) (c0:Nat) (l0:List S37) (w:World) (hr0:Kd.C k37 w A0 l0.length l0) (hc0:l0.length <= c0)
  (hp:∀ (W:World) (x:S37),x ∈ l0 -> Below w.heap.size w W -> Calls Try.prog g (#[.agg #[.int .i64 x.f0,.int .i64 x.f1,.int .i64 x.f2,.int .i64 x.f3,.int .i64 x.f4]] ++ lb) W fun e w'=>e = .returned (.bool (p x)) /\ Below w.heap.size w w') :
  Calls Try.prog 116 #[.slice A0 l0.length c0,.func (.func g) #[] lb] w fun e w'=>e = .returned (.int .i64 (idxP p l0)) /\ Below w.heap.size w w':=by
 have hL:l0.length <= 9223372036854775807:=hr0.2.1
 have HP:=ak hp
 have HR:=ak hr0
 clear hp hr0
 go_enter Try.func116,Try.ntmps116
 go_wp2
 go_loopg [5,8] l0.length (fun gg _ s8 wr=>∃ kk:Nat,kk <= l0.length /\ l0.length - kk <= gg /\ s8 = .int .i64 kk /\ Aside0 (Below w.heap.size w wr) /\ Aside0 (∀ j,j < kk -> p (l0.getD j z37) = false))
 case atStart=>exact ⟨0,Nat.zero_le _,by omega,rfl,⟨Below.refl _ w⟩,⟨fun j hj=>absurd hj (Nat.not_lt_zero _)⟩⟩
 case round=>
  obtain ⟨kk,hkk,hg,rfl,BW,AA⟩:=hrel
  by_cases hlt:kk < l0.length
  .
   have hltz:(kk:Int) < (l0.length:Int):=by omega
   have hk0:(0:Int) <= (kk:Int):=by omega
   obtain ⟨ad,e0,hx0,hx1,hx2,hx3,hx4⟩:=at_T37 HR.out (kk:Int) hk0 hltz
   replace hx0:=(BW.out.cell (World.block_lt_of_cell? w _ hx0)).trans hx0
   replace hx1:=(BW.out.cell (World.block_lt_of_cell? w _ hx1)).trans hx1
   replace hx2:=(BW.out.cell (World.block_lt_of_cell? w _ hx2)).trans hx2
   replace hx3:=(BW.out.cell (World.block_lt_of_cell? w _ hx3)).trans hx3
   replace hx4:=(BW.out.cell (World.block_lt_of_cell? w _ hx4)).trans hx4
   have hm:rd_T37 l0 (kk:Int) ∈ l0:=by
    show l0.getD (kk:Int).toNat _ ∈ l0
    rw [Int.toNat_natCast,List.getD_eq_getElem?_getD,List.getElem?_eq_getElem hlt]
    exact List.getElem_mem hlt
   have hcall:=HP.out wr (rd_T37 l0 (kk:Int)) hm BW.out
   have hpk:Aside0 (p (rd_T37 l0 (kk:Int)) = p (l0.getD kk z37)):=⟨rfl⟩
   clear hm
   generalize rd_T37 l0 (kk:Int) = y at hx0 hx1 hx2 hx3 hx4 hcall hpk
   subst e0
   rw [Int.toNat_natCast] at hx0 hx1 hx2 hx3 hx4
   cases hq:p y with
   | true=>
    rw [hq] at hcall
    go_wp2_with (go_at_fn g;refine hcall.mono ?_;rintro e w' ⟨rfl,hb'⟩)
    go_ret
    refine ⟨?_,hb'⟩
    rw [idxP_hit p z37 l0 kk hlt (hpk.out.symm.trans hq) AA.out]
    rfl
   | false=>
    rw [hq] at hcall
    go_wp2_with (go_at_fn g;refine hcall.mono ?_;rintro e w' ⟨rfl,hb'⟩)
    go_roundg (l0.length - (kk + 1))
    case measure=>omega
    case rel=>
     refine ⟨kk + 1,by omega,by omega,by go_num,⟨hb'⟩,⟨fun j hj=>?_⟩⟩
     by_cases e:j = kk
     .
      subst e
      exact hpk.out.symm.trans hq
     .
      exact AA.out j (by omega)
  .
   have hltz:¬ (kk:Int) < (l0.length:Int):=by omega
   have hkl:kk = l0.length:=by omega
   go_wp2
   go_ret
   refine ⟨?_,BW.out⟩
   rw [idxP_miss p z37 l0 (fun j hj=>AA.out j (by omega))]
   rfl
set_option maxHeartbeats 4000000 in
theorem cont_Leg.calls (p:S37 -> Bool) (g:Nat) (lb:Array Value) (eg:∀ args w,(callFunc g args).run Try.prog w = .ok (.enter g args) w) (A0:Option Addr) (c0:Nat) (l0:List S37) (w:World) (hr0:Kd.C k37 w A0 l0.length l0) (hc0:l0.length <= c0)
  (hp:∀ (W:World) (x:S37),x ∈ l0 -> Below w.heap.size w W -> Calls Try.prog g (#[.agg #[.int .i64 x.f0,.int .i64 x.f1,.int .i64 x.f2,.int .i64 x.f3,.int .i64 x.f4]] ++ lb) W fun e w'=>e = .returned (.bool (p x)) /\ Below w.heap.size w w') :
  Calls Try.prog 94 #[.slice A0 l0.length c0,.func (.func g) #[] lb] w fun e w'=>e = .returned (.bool (l0.any p)) /\ Below w.heap.size w w':=by
 rw [<- idxP_any p l0]
 have hcon:=idx_Leg.calls p g lb eg A0 c0 l0 w hr0 hc0 hp
 generalize idxP p l0 = r at hcon ⊢
 have HC:=ak hcon
 clear hcon hp hr0
 go_enter Try.func94,Try.ntmps94
 go_wp2_with (go_at_call 116;refine HC.out.mono ?_;rintro e w' ⟨rfl,hb'⟩)
 go_ret
 exact ⟨rfl,hb'⟩
def lead1_ (V:List Bool) (s:Int) (y:S37):Option Bool:=if y.f0 = s \/ y.f1 = s then (if 0 <= wrap64 (wrap64 (y.f0 + y.f1) - s) /\ wrap64 (wrap64 (y.f0 + y.f1) - s) < (V.length:Int) then some (!rdOf false V (wrap64 (wrap64 (y.f0 + y.f1) - s))) else none) else some false
def leadsF_ (l:List S37) (V:List Bool):List Bool -> Int -> List Int -> Option (List Int)
 | [],_,acc=>some acc
 | b :: bs,s,acc=>if l.all (fun y=>(lead1_ V s y).isSome) = true /\ acc.length < 1000000 then leadsF_ l V bs (wrap64 (s + 1)) (if (b && !l.any (fun y=>(lead1_ V s y).getD false)) = true then acc ++ [s] else acc) else none
def impl_OpenLeads.f (k:Nat) (l0_0:List S37) (l0_1 l0_2:List Bool) (a0_3 a0_4:Int):Option (List Int × Bool):=
 (impl_IsExploration.f k l0_0 l0_1 l0_2 a0_3 a0_4).bind fun t=>if t = true then (leadsF_ l0_0 l0_1 l0_2 0 []).bind fun r=>some (r,true) else some ([],false)
theorem openLeads1_ (gs gx:Nat) (s:Int) (A1:Option Addr) (c1:Nat) (V:List Bool) (y:S37) (r:Bool) (w:World) (hs:w.cell? ⟨gs,0,none⟩ = some (.int .i64 s)) (hx:w.cell? ⟨gx,1,none⟩ = some (.slice A1 V.length c1)) (hV:Kd.C Kd.bool w A1 V.length V) (h:lead1_ V s y = some r) :
  Calls Try.prog 95 (#[.agg #[.int .i64 y.f0,.int .i64 y.f1,.int .i64 y.f2,.int .i64 y.f3,.int .i64 y.f4]] ++ #[.pointer (some ⟨gs,0,none⟩),.pointer (some ⟨gx,0,none⟩)]) w fun e w'=>e = .returned (.bool r) /\ Below w.heap.size w w':=by
 show Calls Try.prog 95 #[.agg #[.int .i64 y.f0,.int .i64 y.f1,.int .i64 y.f2,.int .i64 y.f3,.int .i64 y.f4],.pointer (some ⟨gs,0,none⟩),.pointer (some ⟨gx,0,none⟩)] w _
 have hu2:=Try.underlying30
 have hu3:=Try.underlying37
 have hB:=below_alloc (Below.refl w.heap.size w) (.cells #[.int .i64 y.f0,.int .i64 y.f1,.int .i64 y.f2,.int .i64 y.f3,.int .i64 y.f4] 37)
 have HB:=ak hB
 replace hs:=bc_ hB hs
 replace hx:=bc_ hB hx
 unfold lead1_ at h
 by_cases q:y.f0 = s \/ y.f1 = s
 .
  rw [if_pos q] at h
  by_cases z:0 <= wrap64 (wrap64 (y.f0 + y.f1) - s) /\ wrap64 (wrap64 (y.f0 + y.f1) - s) < (V.length:Int)
  .
   rw [if_pos z] at h
   obtain rfl:=Option.some.inj h
   obtain ⟨ad,e0,hv⟩:=Kd.at_bool hV _ z.1 z.2
   subst e0
   replace hv:=bc_ hB hv
   obtain ⟨z0,z1⟩:=z
   replace z0:=eq_true z0
   replace z1:=eq_true z1
   clear hV hB
   by_cases q0:y.f0 = s
   .
    subst q0
    go_enter Try.func95,Try.ntmps95
    go_wp2
    go_ret
    exact ⟨rfl,HB.out⟩
   .
    obtain rfl:=q.resolve_left q0
    have n0:(y.f0 == y.f1) = false:=beq_eq_false_iff_ne.mpr q0
    have n1:decide (y.f0 = y.f1) = false:=decide_eq_false q0
    go_enter Try.func95,Try.ntmps95
    go_wp2
    go_ret
    exact ⟨rfl,HB.out⟩
  .
   rw [if_neg z] at h
   cases h
 .
  rw [if_neg q] at h
  obtain rfl:=Option.some.inj h
  have q0:¬ y.f0 = s:=fun e=>q (.inl e)
  have q1:¬ y.f1 = s:=fun e=>q (.inr e)
  have n0:(y.f0 == s) = false:=beq_eq_false_iff_ne.mpr q0
  have n1:(y.f1 == s) = false:=beq_eq_false_iff_ne.mpr q1
  have m0:decide (y.f0 = s) = false:=decide_eq_false q0
  have m1:decide (y.f1 = s) = false:=decide_eq_false q1
  clear q hV hB
  go_enter Try.func95,Try.ntmps95
  go_wp2
  go_ret
  exact ⟨rfl,HB.out⟩
theorem impl_OpenLeads.calls (k:Nat) (A0_0:Option Addr) (c0_0:Nat) (l0_0:List (S37)) (A0_1:Option Addr) (c0_1:Nat) (l0_1:List Bool) (A0_2:Option Addr) (c0_2:Nat) (l0_2:List Bool) (a0_3:Int) (a0_4:Int) (r1:List Int) (r2:Bool) (w:World) (hr0_0:Kd.C k37 w A0_0 l0_0.length l0_0) (hc0_0:l0_0.length <= c0_0) (hr0_1:Kd.C Kd.bool w A0_1 l0_1.length l0_1) (hc0_1:l0_1.length <= c0_1) (hr0_2:Kd.C Kd.bool w A0_2 l0_2.length l0_2) (hc0_2:l0_2.length <= c0_2) (h:impl_OpenLeads.f k l0_0 l0_1 l0_2 a0_3 a0_4 = some (r1,r2)) :
  Calls Try.prog 44 #[.agg #[.slice A0_0 l0_0.length c0_0,.slice A0_1 l0_1.length c0_1,.slice A0_2 l0_2.length c0_2,.int .i64 a0_3,.int .i64 a0_4]] w fun e w'=>∃ v0_:Value,e = .returned (.tuple #[v0_,.bool r2]) /\ Kd.R (Kd.int .i64) 3 w' w.heap.size (fun _=>True) v0_ r1 /\ Below w.heap.size w w':=by
 unfold impl_OpenLeads.f at h
 obtain ⟨t,hie,h⟩:=Option.bind_eq_some_iff.mp h
 have hu2:=Try.underlying30
 have HB:=ak (Below.refl w.heap.size w)
 have HR0:=ak hr0_0
 have HC0:=ak hc0_0
 have HR1:=ak hr0_1
 have HC1:=ak hc0_1
 have HR2:=ak hr0_2
 have HC2:=ak hc0_2
 clear hr0_0 hc0_0 hr0_1 hc0_1 hr0_2 hc0_2
 cases t with
 | false=>
  simp only [Bool.false_eq_true,if_false,Option.some.injEq,Prod.mk.injEq] at h
  obtain ⟨rfl,rfl⟩:=h
  go_enter Try.func44,Try.ntmps44
  go_wp2_with (first|((with_reducible refine gate_dst (N:=1) rfl ?_);refine box_event ?hg (N:=1) ?hd (cs:=#[.slice A0_0 l0_0.length c0_0,.slice A0_1 l0_1.length c0_1,.slice A0_2 l0_2.length c0_2,.int .i64 a0_3,.int .i64 a0_4]) (t:=30) ?hr ?_;(case hd=>rfl);(case hg=>rfl);(case hr=>first|(go_simp;done)|(go_simp;rfl));intro gb hg w2 hbox hb;have BK:=ak hbox;have GE:=ak (bz_ hg HB.out);replace HB:=ak (below_step HB.out hb);clear hb hbox hg;obtain ⟨hcz0,hcz1,hcz2,hcz3,hcz4⟩:=cz5_ BK.out)|((with_reducible refine gate_callee (f:=18) rfl ?_);refine ga_ (some 9) Try.func18 #[.agg #[.slice A0_0 l0_0.length c0_0,.slice A0_1 l0_1.length c0_1,.slice A0_2 l0_2.length c0_2,.int .i64 a0_3,.int .i64 a0_4]] ?_;refine (impl_IsExploration.calls k _ _ l0_0 _ _ l0_1 _ _ l0_2 a0_3 a0_4 false _ (Kd.C_below HR0.out HB.out) HC0.out (Kd.C_below HR1.out HB.out) HC1.out (Kd.C_below HR2.out HB.out) HC2.out hie).mono ?_;rintro e w6 ⟨rfl,hb⟩;refine ⟨_,rfl,?_⟩;clear hcz0 hcz1 hcz2 hcz3 hcz4;replace BK:=ak (bb_ BK.out hb);replace HB:=ak (below_step HB.out hb);clear hb))
  go_ret2
  exact ⟨_,rr_,Kd.R_nil _ _ _ _ _,HB.out⟩
 | true=>
  simp only [if_true] at h
  obtain ⟨r,hr,h⟩:=Option.bind_eq_some_iff.mp h
  simp only [Option.some.injEq,Prod.mk.injEq] at h
  obtain ⟨rfl,rfl⟩:=h
  have HA0:=ak hr
  clear hr
  have hL2:l0_2.length <= 9223372036854775807:=HR2.out.2.1
  go_enter Try.func44,Try.ntmps44
  go_wp2_with (first|((with_reducible refine gate_dst (N:=1) rfl ?_);refine box_event ?hg (N:=1) ?hd (cs:=#[.slice A0_0 l0_0.length c0_0,.slice A0_1 l0_1.length c0_1,.slice A0_2 l0_2.length c0_2,.int .i64 a0_3,.int .i64 a0_4]) (t:=30) ?hr ?_;(case hd=>rfl);(case hg=>rfl);(case hr=>first|(go_simp;done)|(go_simp;rfl));intro gb hg w2 hbox hb;have BK:=ak hbox;have GE:=ak (bz_ hg HB.out);replace HB:=ak (below_step HB.out hb);clear hb hbox hg;obtain ⟨hcz0,hcz1,hcz2,hcz3,hcz4⟩:=cz5_ BK.out)|((with_reducible refine gate_callee (f:=18) rfl ?_);refine ga_ (some 9) Try.func18 #[.agg #[.slice A0_0 l0_0.length c0_0,.slice A0_1 l0_1.length c0_1,.slice A0_2 l0_2.length c0_2,.int .i64 a0_3,.int .i64 a0_4]] ?_;refine (impl_IsExploration.calls k _ _ l0_0 _ _ l0_1 _ _ l0_2 a0_3 a0_4 true _ (Kd.C_below HR0.out HB.out) HC0.out (Kd.C_below HR1.out HB.out) HC1.out (Kd.C_below HR2.out HB.out) HC2.out hie).mono ?_;rintro e w6 ⟨rfl,hb⟩;refine ⟨_,rfl,?_⟩;clear hcz0 hcz1 hcz2 hcz3 hcz4;replace BK:=ak (bb_ BK.out hb);replace HB:=ak (below_step HB.out hb);clear hb;obtain ⟨hcz0,hcz1,hcz2,hcz3,hcz4⟩:=cz5_ BK.out))
  clear hcz0 hcz1 hcz2 hcz3 hcz4
  go_loopg [4,14] l0_2.length (fun gg v4 v14 wr=>∃ (kk:Nat) (acc:List Int),kk <= l0_2.length /\ l0_2.length - kk <= gg /\ v14 = .int .i64 kk /\ Aside0 (leadsF_ l0_0 l0_1 (l0_2.drop kk) (kk:Int) acc = some r) /\ Aside0 (Kd.R (Kd.int .i64) 3 wr w.heap.size (fun _=>True) v4 acc) /\ Aside0 (wr.heap[gb]? = some (.cells #[.slice A0_0 l0_0.length c0_0,.slice A0_1 l0_1.length c0_1,.slice A0_2 l0_2.length c0_2,.int .i64 a0_3,.int .i64 a0_4] 30 (0,0))) /\ Aside0 (Below w.heap.size w wr))
  case atStart=>exact ⟨0,[],Nat.zero_le _,by omega,rfl,HA0,⟨Kd.R_nil _ _ _ _ _⟩,BK,HB⟩
  case round=>
   clear BK HB
   obtain ⟨kk,acc,hkk,hgg,rfl,HA,HO,BK,BW⟩:=hrel
   by_cases hlt:kk < l0_2.length
   .
    have hltz:(kk:Int) < (l0_2.length:Int):=by omega
    have hk0:(0:Int) <= (kk:Int):=by omega
    have hA:=HA.out
    have ed:l0_2.drop kk = rdOf false l0_2 (kk:Int) :: l0_2.drop (kk + 1):=by
     rw [List.drop_eq_getElem_cons hlt]
     unfold rdOf
     rw [Int.toNat_natCast,List.getD_eq_getElem?_getD,List.getElem?_eq_getElem hlt]
     rfl
    rw [ed] at hA
    unfold leadsF_ at hA
    by_cases hz:l0_0.all (fun y=>(lead1_ l0_1 (kk:Int) y).isSome) = true /\ acc.length < 1000000
    .
     rw [if_pos hz] at hA
     have ALL:=ak hz.1
     have HL:=ak hz.2
     have hw1:wrap64 ((kk:Int) + 1) = ((kk + 1:Nat):Int):=by
      unfold wrap64
      omega
     rw [hw1] at hA
     obtain ⟨ad,e0,hx0⟩:=Kd.at_bool HR2.out (kk:Int) hk0 hltz
     subst e0
     replace hx0:=bc_ BW.out hx0
     rw [Int.toNat_natCast] at hx0
     have HG:=ak hgg
     clear HA ed hz hgg
     generalize rdOf false l0_2 (kk:Int) = bv at hA hx0
     obtain ⟨an,hany⟩:∃ an,l0_0.any (fun y=>(lead1_ l0_1 (kk:Int) y).getD false) = an:=⟨_,rfl⟩
     rw [hany] at hA
     have ANY:=ak hany
     clear hany
     obtain ⟨hcz0,hcz1,hcz2,hcz3,hcz4⟩:=cz5_ BK.out
     cases bv with
     | false=>
      cases an with
      | false=>
       simp only [Bool.false_and,Bool.true_and,Bool.not_true,Bool.not_false,Bool.and_true,Bool.and_false,Bool.false_eq_true,if_false,if_true] at hA
       have HA':=ak hA
       clear hA hcz0 hcz1 hcz2 hcz3 hcz4
       go_wp2_with (first|((with_reducible refine gate_dst (N:=5) rfl ?_);refine box_event ?hg (N:=5) ?hd (cs:=#[.int .i64 0]) (t:=3) ?hr ?_;(case hd=>rfl);(case hg=>rfl);(case hr=>first|(go_simp;done)|(go_simp;rfl));intro gs hg w5 hbox hb;have BS:=ak hbox;have GS:=ak (bz_ hg BW.out);have HO5:=ak (Kd.R_below (Kd.R_mono (ok':=fun k=>k ≠ gs) (Kd.R_bound HO.out) (fun k hk=>by rw [hg];exact Nat.ne_of_lt hk.2.2.1)) hb);have hnb:gs ≠ gb:=ng_ hg BK.out;have hnc:gb ≠ gs:=nl_ hg BK.out;have BK5:=ak (bb_ BK.out hb);have BW5:=ak (below_step BW.out hb);clear hb hbox hg;have hcs:w5.cell? ⟨gs,0,none⟩ = some (.int .i64 0):=(blk_cell BS.out 0).trans rfl;have hfs:=blk_frozen BS.out 0;obtain ⟨hcz0,hcz1,hcz2,hcz3,hcz4⟩:=cz5_ BK5.out)|(go_at_call 94;refine (cont_Leg.calls (fun y=>(lead1_ l0_1 (kk:Int) y).getD false) 95 #[.pointer (some ⟨gs,0,none⟩),.pointer (some ⟨gb,0,none⟩)] (fun _ _=>rfl) A0_0 c0_0 l0_0 (w5.setCell ⟨gs,0,none⟩ (.int .i64 (kk:Int))) (Kd.C_below HR0.out (below_set BW5.out GS.out)) HC0.out ?cl).mono ?_;(case cl=>(intro W' y hy hW';obtain ⟨b_,hb_⟩:=Option.isSome_iff_exists.1 (List.all_eq_true.1 ALL.out y hy);(rw [show (lead1_ l0_1 (kk:Int) y).getD false = b_ from by rw [hb_];rfl]);refine (openLeads1_ gs gb (kk:Int) A0_1 c0_1 l0_1 y b_ W' ((blk_cell (blk_below (blk_put BS.out 0 _ rfl) hW') 0).trans rfl) ((blk_cell (blk_below (blk_far BK5.out hnc _) hW') 1).trans rfl) (Kd.C_below HR1.out (below_step (below_set BW5.out GS.out) hW')) hb_).mono ?_;rintro e w'' ⟨rfl,hb2⟩;exact ⟨rfl,below_step hW' hb2⟩));rw [ANY.out];rintro e w7 ⟨rfl,hb7⟩;clear hcs hfs hcz0 hcz1 hcz2 hcz3 hcz4;have BK7:=ak (bb_ (blk_far BK5.out hnc _) hb7);have BS7:=ak (bb_ (blk_put (cs':=#[.int .i64 (kk:Int)]) BS.out 0 _ rfl) hb7);have BW7:=ak (below_step (below_set BW5.out GS.out) hb7);have HO7:=ak (Kd.R_mono (ok':=fun _=>True) (Kd.R_below (Kd.R_far (p:=⟨gs,0,none⟩) HO5.out (fun k hk=>hk) (.int .i64 (kk:Int))) hb7) (fun _ _=>trivial));clear hb7;have hcs:w7.cell? ⟨gs,0,none⟩ = some (.int .i64 (kk:Int)):=(blk_cell BS7.out 0).trans rfl))
       go_roundg (l0_2.length - (kk + 1))
       case measure=>have:=HG.out;omega
       case rel=>exact ⟨kk + 1,acc,by omega,by omega,by go_num,HA',HO7,BK7,BW7⟩
      | true=>
       simp only [Bool.false_and,Bool.true_and,Bool.not_true,Bool.not_false,Bool.and_true,Bool.and_false,Bool.false_eq_true,if_false,if_true] at hA
       have HA':=ak hA
       clear hA hcz0 hcz1 hcz2 hcz3 hcz4
       go_wp2_with (first|((with_reducible refine gate_dst (N:=5) rfl ?_);refine box_event ?hg (N:=5) ?hd (cs:=#[.int .i64 0]) (t:=3) ?hr ?_;(case hd=>rfl);(case hg=>rfl);(case hr=>first|(go_simp;done)|(go_simp;rfl));intro gs hg w5 hbox hb;have BS:=ak hbox;have GS:=ak (bz_ hg BW.out);have HO5:=ak (Kd.R_below (Kd.R_mono (ok':=fun k=>k ≠ gs) (Kd.R_bound HO.out) (fun k hk=>by rw [hg];exact Nat.ne_of_lt hk.2.2.1)) hb);have hnb:gs ≠ gb:=ng_ hg BK.out;have hnc:gb ≠ gs:=nl_ hg BK.out;have BK5:=ak (bb_ BK.out hb);have BW5:=ak (below_step BW.out hb);clear hb hbox hg;have hcs:w5.cell? ⟨gs,0,none⟩ = some (.int .i64 0):=(blk_cell BS.out 0).trans rfl;have hfs:=blk_frozen BS.out 0;obtain ⟨hcz0,hcz1,hcz2,hcz3,hcz4⟩:=cz5_ BK5.out)|(go_at_call 94;refine (cont_Leg.calls (fun y=>(lead1_ l0_1 (kk:Int) y).getD false) 95 #[.pointer (some ⟨gs,0,none⟩),.pointer (some ⟨gb,0,none⟩)] (fun _ _=>rfl) A0_0 c0_0 l0_0 (w5.setCell ⟨gs,0,none⟩ (.int .i64 (kk:Int))) (Kd.C_below HR0.out (below_set BW5.out GS.out)) HC0.out ?cl).mono ?_;(case cl=>(intro W' y hy hW';obtain ⟨b_,hb_⟩:=Option.isSome_iff_exists.1 (List.all_eq_true.1 ALL.out y hy);(rw [show (lead1_ l0_1 (kk:Int) y).getD false = b_ from by rw [hb_];rfl]);refine (openLeads1_ gs gb (kk:Int) A0_1 c0_1 l0_1 y b_ W' ((blk_cell (blk_below (blk_put BS.out 0 _ rfl) hW') 0).trans rfl) ((blk_cell (blk_below (blk_far BK5.out hnc _) hW') 1).trans rfl) (Kd.C_below HR1.out (below_step (below_set BW5.out GS.out) hW')) hb_).mono ?_;rintro e w'' ⟨rfl,hb2⟩;exact ⟨rfl,below_step hW' hb2⟩));rw [ANY.out];rintro e w7 ⟨rfl,hb7⟩;clear hcs hfs hcz0 hcz1 hcz2 hcz3 hcz4;have BK7:=ak (bb_ (blk_far BK5.out hnc _) hb7);have BS7:=ak (bb_ (blk_put (cs':=#[.int .i64 (kk:Int)]) BS.out 0 _ rfl) hb7);have BW7:=ak (below_step (below_set BW5.out GS.out) hb7);have HO7:=ak (Kd.R_mono (ok':=fun _=>True) (Kd.R_below (Kd.R_far (p:=⟨gs,0,none⟩) HO5.out (fun k hk=>hk) (.int .i64 (kk:Int))) hb7) (fun _ _=>trivial));clear hb7;have hcs:w7.cell? ⟨gs,0,none⟩ = some (.int .i64 (kk:Int)):=(blk_cell BS7.out 0).trans rfl))
       go_roundg (l0_2.length - (kk + 1))
       case measure=>have:=HG.out;omega
       case rel=>exact ⟨kk + 1,acc,by omega,by omega,by go_num,HA',HO7,BK7,BW7⟩
     | true=>
      cases an with
      | false=>
       simp only [Bool.false_and,Bool.true_and,Bool.not_true,Bool.not_false,Bool.and_true,Bool.and_false,Bool.false_eq_true,if_false,if_true] at hA
       have HA':=ak hA
       clear hA hcz0 hcz1 hcz2 hcz3 hcz4
       go_wp2_with (first|((with_reducible refine gate_dst (N:=5) rfl ?_);refine box_event ?hg (N:=5) ?hd (cs:=#[.int .i64 0]) (t:=3) ?hr ?_;(case hd=>rfl);(case hg=>rfl);(case hr=>first|(go_simp;done)|(go_simp;rfl));intro gs hg w5 hbox hb;have BS:=ak hbox;have GS:=ak (bz_ hg BW.out);have HO5:=ak (Kd.R_below (Kd.R_mono (ok':=fun k=>k ≠ gs) (Kd.R_bound HO.out) (fun k hk=>by rw [hg];exact Nat.ne_of_lt hk.2.2.1)) hb);have hnb:gs ≠ gb:=ng_ hg BK.out;have hnc:gb ≠ gs:=nl_ hg BK.out;have BK5:=ak (bb_ BK.out hb);have BW5:=ak (below_step BW.out hb);clear hb hbox hg;have hcs:w5.cell? ⟨gs,0,none⟩ = some (.int .i64 0):=(blk_cell BS.out 0).trans rfl;have hfs:=blk_frozen BS.out 0;obtain ⟨hcz0,hcz1,hcz2,hcz3,hcz4⟩:=cz5_ BK5.out)|(go_at_call 94;refine (cont_Leg.calls (fun y=>(lead1_ l0_1 (kk:Int) y).getD false) 95 #[.pointer (some ⟨gs,0,none⟩),.pointer (some ⟨gb,0,none⟩)] (fun _ _=>rfl) A0_0 c0_0 l0_0 (w5.setCell ⟨gs,0,none⟩ (.int .i64 (kk:Int))) (Kd.C_below HR0.out (below_set BW5.out GS.out)) HC0.out ?cl).mono ?_;(case cl=>(intro W' y hy hW';obtain ⟨b_,hb_⟩:=Option.isSome_iff_exists.1 (List.all_eq_true.1 ALL.out y hy);(rw [show (lead1_ l0_1 (kk:Int) y).getD false = b_ from by rw [hb_];rfl]);refine (openLeads1_ gs gb (kk:Int) A0_1 c0_1 l0_1 y b_ W' ((blk_cell (blk_below (blk_put BS.out 0 _ rfl) hW') 0).trans rfl) ((blk_cell (blk_below (blk_far BK5.out hnc _) hW') 1).trans rfl) (Kd.C_below HR1.out (below_step (below_set BW5.out GS.out) hW')) hb_).mono ?_;rintro e w'' ⟨rfl,hb2⟩;exact ⟨rfl,below_step hW' hb2⟩));rw [ANY.out];rintro e w7 ⟨rfl,hb7⟩;clear hcs hfs hcz0 hcz1 hcz2 hcz3 hcz4;have BK7:=ak (bb_ (blk_far BK5.out hnc _) hb7);have BS7:=ak (bb_ (blk_put (cs':=#[.int .i64 (kk:Int)]) BS.out 0 _ rfl) hb7);have BW7:=ak (below_step (below_set BW5.out GS.out) hb7);have HO7:=ak (Kd.R_mono (ok':=fun _=>True) (Kd.R_below (Kd.R_far (p:=⟨gs,0,none⟩) HO5.out (fun k hk=>hk) (.int .i64 (kk:Int))) hb7) (fun _ _=>trivial));clear hb7;have hcs:w7.cell? ⟨gs,0,none⟩ = some (.int .i64 (kk:Int)):=(blk_cell BS7.out 0).trans rfl)|((with_reducible refine gate_builtin (b:=.append) (xs:=#[.tmp 28,.tmp 30]) rfl ?_);at_builtin;refine Kd.R_append (Kd.int .i64) (w0:=w) w.heap.size rfl (.tmp 28) (.tmp 30) 60 3 (.int .i64 0) 8 rfl Try.underlying60 info3 rfl (by decide) (by omega) u4 acc (kk:Int) [.int .i64 (kk:Int)] (fun _=>True) (fun _=>False) rfl (by first|(go_simp;done)|(go_simp;rfl)) ?aP (fun _ hk=>hk.elim) ?aF ?aO ?aB ?aS ?aL ?_;(case aP=>exact rfl);(case aB=>exact BW7.out);(case aF=>exact (fun _ _=>trivial));(case aO=>exact HO7.out);(case aS=>exact (below_size BW7.out));(case aL=>have:=HL.out;omega);intro v9 w9 ho hb hg hat;have BK9:=ak (blk_grown BK7.out hg (Kd.R_ne HO7.out BK7.out (by decide)));have HO9:=ak ho;have BW9:=ak hb;clear ho hb hg hat))
       go_roundg (l0_2.length - (kk + 1))
       case measure=>have:=HG.out;omega
       case rel=>exact ⟨kk + 1,acc ++ [(kk:Int)],by omega,by omega,by go_num,HA',HO9,BK9,BW9⟩
      | true=>
       simp only [Bool.false_and,Bool.true_and,Bool.not_true,Bool.not_false,Bool.and_true,Bool.and_false,Bool.false_eq_true,if_false,if_true] at hA
       have HA':=ak hA
       clear hA hcz0 hcz1 hcz2 hcz3 hcz4
       go_wp2_with (first|((with_reducible refine gate_dst (N:=5) rfl ?_);refine box_event ?hg (N:=5) ?hd (cs:=#[.int .i64 0]) (t:=3) ?hr ?_;(case hd=>rfl);(case hg=>rfl);(case hr=>first|(go_simp;done)|(go_simp;rfl));intro gs hg w5 hbox hb;have BS:=ak hbox;have GS:=ak (bz_ hg BW.out);have HO5:=ak (Kd.R_below (Kd.R_mono (ok':=fun k=>k ≠ gs) (Kd.R_bound HO.out) (fun k hk=>by rw [hg];exact Nat.ne_of_lt hk.2.2.1)) hb);have hnb:gs ≠ gb:=ng_ hg BK.out;have hnc:gb ≠ gs:=nl_ hg BK.out;have BK5:=ak (bb_ BK.out hb);have BW5:=ak (below_step BW.out hb);clear hb hbox hg;have hcs:w5.cell? ⟨gs,0,none⟩ = some (.int .i64 0):=(blk_cell BS.out 0).trans rfl;have hfs:=blk_frozen BS.out 0;obtain ⟨hcz0,hcz1,hcz2,hcz3,hcz4⟩:=cz5_ BK5.out)|(go_at_call 94;refine (cont_Leg.calls (fun y=>(lead1_ l0_1 (kk:Int) y).getD false) 95 #[.pointer (some ⟨gs,0,none⟩),.pointer (some ⟨gb,0,none⟩)] (fun _ _=>rfl) A0_0 c0_0 l0_0 (w5.setCell ⟨gs,0,none⟩ (.int .i64 (kk:Int))) (Kd.C_below HR0.out (below_set BW5.out GS.out)) HC0.out ?cl).mono ?_;(case cl=>(intro W' y hy hW';obtain ⟨b_,hb_⟩:=Option.isSome_iff_exists.1 (List.all_eq_true.1 ALL.out y hy);(rw [show (lead1_ l0_1 (kk:Int) y).getD false = b_ from by rw [hb_];rfl]);refine (openLeads1_ gs gb (kk:Int) A0_1 c0_1 l0_1 y b_ W' ((blk_cell (blk_below (blk_put BS.out 0 _ rfl) hW') 0).trans rfl) ((blk_cell (blk_below (blk_far BK5.out hnc _) hW') 1).trans rfl) (Kd.C_below HR1.out (below_step (below_set BW5.out GS.out) hW')) hb_).mono ?_;rintro e w'' ⟨rfl,hb2⟩;exact ⟨rfl,below_step hW' hb2⟩));rw [ANY.out];rintro e w7 ⟨rfl,hb7⟩;clear hcs hfs hcz0 hcz1 hcz2 hcz3 hcz4;have BK7:=ak (bb_ (blk_far BK5.out hnc _) hb7);have BS7:=ak (bb_ (blk_put (cs':=#[.int .i64 (kk:Int)]) BS.out 0 _ rfl) hb7);have BW7:=ak (below_step (below_set BW5.out GS.out) hb7);have HO7:=ak (Kd.R_mono (ok':=fun _=>True) (Kd.R_below (Kd.R_far (p:=⟨gs,0,none⟩) HO5.out (fun k hk=>hk) (.int .i64 (kk:Int))) hb7) (fun _ _=>trivial));clear hb7;have hcs:w7.cell? ⟨gs,0,none⟩ = some (.int .i64 (kk:Int)):=(blk_cell BS7.out 0).trans rfl))
       go_roundg (l0_2.length - (kk + 1))
       case measure=>have:=HG.out;omega
       case rel=>exact ⟨kk + 1,acc,by omega,by omega,by go_num,HA',HO7,BK7,BW7⟩
    .
     rw [if_neg hz] at hA
     cases hA
   .
    have hltz:¬ (kk:Int) < (l0_2.length:Int):=by omega
    have hA:=HA.out
    rw [List.drop_of_length_le (by omega)] at hA
    simp only [leadsF_,Option.some.injEq] at hA
    subst hA
    go_wp2
    go_ret2
    exact ⟨_,rr_,HO.out,BW.out⟩
section
variable {w w0:World} {g base:Nat} {t:TypeId}
theorem own_R5 {α:Type} {d:Kd α} {e:Nat} {ok:Nat -> Prop} {v:Value} {xs:List α} {cs:Array Value} (h:d.R e w base ok v xs) (hb:w.heap[g]? = some (.cells cs t (0,0))) (ht:∀ q,q ∈ e :: d.E -> q ≠ t) (a0 a1 a2 a3 a4:Value) :
  d.R e (((((w.setCell ⟨g,0,none⟩ a0).setCell ⟨g,1,none⟩ a1).setCell ⟨g,2,none⟩ a2).setCell ⟨g,3,none⟩ a3).setCell ⟨g,4,none⟩ a4) base ok v xs:=
 Kd.R_mono (Kd.R_far (p:=⟨g,4,none⟩) (Kd.R_far (p:=⟨g,3,none⟩) (Kd.R_far (p:=⟨g,2,none⟩) (Kd.R_far (p:=⟨g,1,none⟩) (Kd.R_far (p:=⟨g,0,none⟩) (Kd.R_types h hb ht) (fun _ hk=>hk.2) a0) (fun _ hk=>hk.2) a1) (fun _ hk=>hk.2) a2) (fun _ hk=>hk.2) a3) (fun _ hk=>hk.2) a4) (fun _ hk=>hk.1)
theorem own_blk5 {b0 b1 b2 b3 b4:Value} (h:w.heap[g]? = some (.cells #[b0,b1,b2,b3,b4] t (0,0))) (a0 a1 a2 a3 a4:Value) :
  (((((w.setCell ⟨g,0,none⟩ a0).setCell ⟨g,1,none⟩ a1).setCell ⟨g,2,none⟩ a2).setCell ⟨g,3,none⟩ a3).setCell ⟨g,4,none⟩ a4).heap[g]? = some (.cells #[a0,a1,a2,a3,a4] t (0,0)):=
 blk_put (cs:=#[a0,a1,a2,a3,b4]) (blk_put (cs:=#[a0,a1,a2,b3,b4]) (blk_put (cs:=#[a0,a1,b2,b3,b4]) (blk_put (cs:=#[a0,b1,b2,b3,b4]) (blk_put (cs:=#[b0,b1,b2,b3,b4]) h 0 _ rfl) 1 _ rfl) 2 _ rfl) 3 _ rfl) 4 _ rfl
end
abbrev RLeg (W:World) (B:Nat) (v:Value) (xs:List S37):Prop:=Kd.R k37 37 W B (fun _=>True) v xs
abbrev RBool (W:World) (B:Nat) (v:Value) (xs:List Bool):Prop:=Kd.R Kd.bool 4 W B (fun _=>True) v xs
def Ap (x y:Value):Prop:=∀ k,x.ownBlock = some k -> some k ≠ y.ownBlock
theorem Ap.symm {x y:Value} (h:Ap x y):Ap y x:=fun k hk e=>h k e.symm hk.symm
theorem Ap.types {α β:Type} {d:Kd α} {d':Kd β} {e e':Nat} {W:World} {B B':Nat} {ok ok':Nat -> Prop} {v v':Value} {xs:List α} {ys:List β} (h:d.R e W B ok v xs) (h':d'.R e' W B' ok' v' ys) (hne:e ≠ e'):Ap v v':=fun k hk he=>by
 obtain ⟨q,hx⟩:=Kd.R_typed h k hk
 obtain ⟨q',hx'⟩:=Kd.R_typed h' k he.symm
 rw [hx] at hx'
 injection hx' with hx'
 injection hx' with _ hx'
 exact hne hx'
theorem Ap.fresh {α:Type} {d:Kd α} {e B:Nat} {W:World} {ok:Nat -> Prop} {v v':Value} {xs:List α} (h:d.R e W B ok v xs) (hn:∃ b,v'.ownBlock = some b /\ W.heap.size <= b):Ap v v':=fun k hk he=>by
 obtain ⟨b,h1,h2⟩:=hn
 have h3:=((Kd.R_bound h).1 k hk).2.2.1
 rw [h1] at he
 injection he with he
 omega
theorem Ap.grown {α:Type} {d:Kd α} {e B:Nat} {W:World} {ok:Nat -> Prop} {x v v':Value} {xs:List α} (h:d.R e W B ok x xs) (hp:Ap x v) (hn:v'.ownBlock = v.ownBlock \/ ∃ b,v'.ownBlock = some b /\ W.heap.size <= b):Ap x v':=by
 rcases hn with e|hn
 .
  exact fun k hk=>by rw [e];exact hp k hk
 .
  exact Ap.fresh h hn
theorem Kd.R_ap {α:Type} {d:Kd α} {e B:Nat} {W W1:World} {ok:Nat -> Prop} {x v:Value} {xs:List α} (h:d.R e W B ok x xs) (hE:d.E = []) (hp:Ap x v) (hg:W.grownBy W1 v.ownBlock):d.R e W1 B ok x xs:=Kd.R_grown2 h hE hg (fun k hk he=>hp k he.symm hk.symm)
theorem blk_ap {α:Type} {d:Kd α} {e B:Nat} {W W1:World} {ok:Nat -> Prop} {v:Value} {xs:List α} {g t:Nat} {cs:Array Value} (h:d.R e W B ok v xs) (hb:W.heap[g]? = some (.cells cs t (0,0))) (ht:e ≠ t) (hg:W.grownBy W1 v.ownBlock):W1.heap[g]? = some (.cells cs t (0,0)):=by
 refine (hg.block g (blk_lt hb) (fun e=>?_)).trans hb
 obtain ⟨q,hx⟩:=Kd.R_typed h g e.symm
 rw [hb] at hx
 injection hx with hx
 injection hx with _ hx
 exact ht hx.symm
structure OwJ (w:World) (g1 g2:Nat) (ar:Array Value) (L:List S37) (V D:List Bool) (a3 a4:Int) (W:World) (c0 c3 c4 c7 c8 c11 c17:Bool) (e0 e1 e2 v0 v1 v2:Value):Prop where
 hB:Below w.heap.size w W
 k1:W.heap[g1]? = some (.cells ar 30 (0,0))
 k2:W.heap[g2]? = some (.cells (bif c17 then #[v0,v1,v2,.int .i64 a3,.int .i64 a4] else #[.slice none 0 0,.slice none 0 0,.slice none 0 0,.int .i64 0,.int .i64 0]) 30 (0,0))
 h0:c0 = true -> c3 = false -> RLeg W w.heap.size e0 []
 h3:c3 = true -> RLeg W w.heap.size v0 L
 h4:c4 = true -> c7 = false -> RBool W w.heap.size e1 []
 h7:c7 = true -> RBool W w.heap.size v1 V
 h8:c8 = true -> c11 = false -> RBool W w.heap.size e2 []
 h11:c11 = true -> RBool W w.heap.size v2 D
 p48:c4 = true -> c8 = true -> c7 = false -> c11 = false -> Ap e1 e2
 p78:c7 = true -> c8 = true -> c11 = false -> Ap v1 e2
 p7b:c7 = true -> c11 = true -> Ap v1 v2
section
variable {w W W':World} {g1 g2:Nat} {ar:Array Value} {L:List S37} {V D:List Bool} {a3 a4:Int} {c0 c3 c4 c7 c8 c11 c17 c:Bool} {e0 e1 e2 v0 v1 v2 z:Value}
theorem OwJ.below (h:OwJ w g1 g2 ar L V D a3 a4 W c0 c3 c4 c7 c8 c11 c17 e0 e1 e2 v0 v1 v2) (hb:Below W.heap.size W W'):OwJ w g1 g2 ar L V D a3 a4 W' c0 c3 c4 c7 c8 c11 c17 e0 e1 e2 v0 v1 v2:=
 ⟨below_step h.hB hb,bb_ h.k1 hb,bb_ h.k2 hb,fun a b=>Kd.R_below (h.h0 a b) hb,fun a=>Kd.R_below (h.h3 a) hb,fun a b=>Kd.R_below (h.h4 a b) hb,fun a=>Kd.R_below (h.h7 a) hb,fun a b=>Kd.R_below (h.h8 a b) hb,fun a=>Kd.R_below (h.h11 a) hb,h.p48,h.p78,h.p7b⟩
theorem OwJ.lit0 (h:OwJ w g1 g2 ar L V D a3 a4 W c0 c3 c4 c7 c8 c11 c17 e0 e1 e2 v0 v1 v2) (hb:Below W.heap.size W W') (hr:RLeg W' w.heap.size z []):OwJ w g1 g2 ar L V D a3 a4 W' c c3 c4 c7 c8 c11 c17 z e1 e2 v0 v1 v2:=by
 have q:=h.below hb
 exact ⟨q.hB,q.k1,q.k2,fun _ _=>hr,q.h3,q.h4,q.h7,q.h8,q.h11,q.p48,q.p78,q.p7b⟩
theorem OwJ.lit4 (h:OwJ w g1 g2 ar L V D a3 a4 W c0 c3 c4 c7 c8 c11 c17 e0 e1 e2 v0 v1 v2) (h7:c7 = false) (hb:Below W.heap.size W W') (hr:RBool W' w.heap.size z []) (hn:∃ b,z.ownBlock = some b /\ W.heap.size <= b):OwJ w g1 g2 ar L V D a3 a4 W' c0 c3 c c7 c8 c11 c17 e0 z e2 v0 v1 v2:=by
 have q:=h.below hb
 exact ⟨q.hB,q.k1,q.k2,q.h0,q.h3,fun _ _=>hr,q.h7,q.h8,q.h11,fun _ a _ b=>(Ap.fresh (h.h8 a b) hn).symm,q.p78,q.p7b⟩
theorem OwJ.lit8 (h:OwJ w g1 g2 ar L V D a3 a4 W c0 c3 c4 c7 c8 c11 c17 e0 e1 e2 v0 v1 v2) (hb:Below W.heap.size W W') (hr:RBool W' w.heap.size z []) (hn:∃ b,z.ownBlock = some b /\ W.heap.size <= b):OwJ w g1 g2 ar L V D a3 a4 W' c0 c3 c4 c7 c c11 c17 e0 e1 z v0 v1 v2:=by
 have q:=h.below hb
 exact ⟨q.hB,q.k1,q.k2,q.h0,q.h3,q.h4,q.h7,fun _ _=>hr,q.h11,fun a _ b _=>Ap.fresh (h.h4 a b) hn,fun a _ _=>Ap.fresh (h.h7 a) hn,q.p7b⟩
theorem OwJ.app3 (h:OwJ w g1 g2 ar L V D a3 a4 W c0 c3 c4 c7 c8 c11 c17 e0 e1 e2 v0 v1 v2) (h0:RLeg W w.heap.size e0 []) (h17:c17 = false) (hB:Below w.heap.size w W') (hr:RLeg W' w.heap.size z L) (hg:W.grownBy W' e0.ownBlock):OwJ w g1 g2 ar L V D a3 a4 W' c0 true c4 c7 c8 c11 c17 e0 e1 e2 z v1 v2:=by
 subst h17
 exact ⟨hB,blk_ap h0 h.k1 (by decide) hg,blk_ap h0 h.k2 (by decide) hg,fun _ b=>absurd b (by decide),fun _=>hr,fun a b=>Kd.R_ap (h.h4 a b) rfl (Ap.types (h.h4 a b) h0 (by decide)) hg,fun a=>Kd.R_ap (h.h7 a) rfl (Ap.types (h.h7 a) h0 (by decide)) hg,fun a b=>Kd.R_ap (h.h8 a b) rfl (Ap.types (h.h8 a b) h0 (by decide)) hg,fun a=>Kd.R_ap (h.h11 a) rfl (Ap.types (h.h11 a) h0 (by decide)) hg,h.p48,h.p78,h.p7b⟩
theorem OwJ.app7 (h:OwJ w g1 g2 ar L V D a3 a4 W c0 c3 c4 c7 c8 c11 c17 e0 e1 e2 v0 v1 v2) (h4:c4 = true) (h7:c7 = false) (h11:c11 = false) (h17:c17 = false) (hB:Below w.heap.size w W') (hr:RBool W' w.heap.size z V) (hg:W.grownBy W' e1.ownBlock) (hn:z.ownBlock = e1.ownBlock \/ ∃ b,z.ownBlock = some b /\ W.heap.size <= b):OwJ w g1 g2 ar L V D a3 a4 W' c0 c3 c4 true c8 c11 c17 e0 e1 e2 v0 z v2:=by
 subst h17
 have q:=h.h4 h4 h7
 exact ⟨hB,blk_ap q h.k1 (by decide) hg,blk_ap q h.k2 (by decide) hg,fun a b=>Kd.R_ap (h.h0 a b) rfl (Ap.types (h.h0 a b) q (by decide)) hg,fun a=>Kd.R_ap (h.h3 a) rfl (Ap.types (h.h3 a) q (by decide)) hg,fun _ b=>absurd b (by decide),fun _=>hr,fun a b=>Kd.R_ap (h.h8 a b) rfl (h.p48 h4 a h7 b).symm hg,fun a=>absurd (h11.symm.trans a) (by decide),fun _ _ b=>absurd b (by decide),fun _ a b=>(Ap.grown (h.h8 a b) (h.p48 h4 a h7 b).symm hn).symm,fun _ a=>absurd (h11.symm.trans a) (by decide)⟩
theorem OwJ.app11 (h:OwJ w g1 g2 ar L V D a3 a4 W c0 c3 c4 c7 c8 c11 c17 e0 e1 e2 v0 v1 v2) (h7:c7 = true) (h8:c8 = true) (h11:c11 = false) (h17:c17 = false) (hB:Below w.heap.size w W') (hr:RBool W' w.heap.size z D) (hg:W.grownBy W' e2.ownBlock) (hn:z.ownBlock = e2.ownBlock \/ ∃ b,z.ownBlock = some b /\ W.heap.size <= b):OwJ w g1 g2 ar L V D a3 a4 W' c0 c3 c4 c7 c8 true c17 e0 e1 e2 v0 v1 z:=by
 subst h17
 have q:=h.h8 h8 h11
 exact ⟨hB,blk_ap q h.k1 (by decide) hg,blk_ap q h.k2 (by decide) hg,fun a b=>Kd.R_ap (h.h0 a b) rfl (Ap.types (h.h0 a b) q (by decide)) hg,fun a=>Kd.R_ap (h.h3 a) rfl (Ap.types (h.h3 a) q (by decide)) hg,fun _ b=>absurd (h7.symm.trans b) (by decide),fun a=>Kd.R_ap (h.h7 a) rfl (h.p78 h7 h8 h11) hg,fun _ b=>absurd b (by decide),fun _=>hr,fun _ _ b=>absurd (h7.symm.trans b) (by decide),fun _ _ b=>absurd b (by decide),fun _ _=>Ap.grown (h.h7 h7) (h.p78 h7 h8 h11) hn⟩
theorem OwJ.store (h:OwJ w g1 g2 ar L V D a3 a4 W c0 c3 c4 c7 c8 c11 c17 e0 e1 e2 v0 v1 v2) (h17:c17 = false) (hg:w.heap.size <= g2) (hne:g1 ≠ g2) (h3:c3 = true) (h7:c7 = true) (h11:c11 = true):OwJ w g1 g2 ar L V D a3 a4 (((((W.setCell ⟨g2,0,none⟩ v0).setCell ⟨g2,1,none⟩ v1).setCell ⟨g2,2,none⟩ v2).setCell ⟨g2,3,none⟩ (.int .i64 a3)).setCell ⟨g2,4,none⟩ (.int .i64 a4)) c0 c3 c4 c7 c8 c11 true e0 e1 e2 v0 v1 v2:=by
 subst h17
 have k:=h.k2
 exact ⟨below_set (below_set (below_set (below_set (below_set h.hB hg) hg) hg) hg) hg,blk_far (p:=⟨g2,4,none⟩) (blk_far (p:=⟨g2,3,none⟩) (blk_far (p:=⟨g2,2,none⟩) (blk_far (p:=⟨g2,1,none⟩) (blk_far (p:=⟨g2,0,none⟩) h.k1 hne _) hne _) hne _) hne _) hne _,own_blk5 k _ _ _ _ _,fun _ b=>absurd (h3.symm.trans b) (by decide),fun a=>own_R5 (h.h3 a) k (by decide) _ _ _ _ _,fun _ b=>absurd (h7.symm.trans b) (by decide),fun a=>own_R5 (h.h7 a) k (by decide) _ _ _ _ _,fun _ b=>absurd (h11.symm.trans b) (by decide),fun a=>own_R5 (h.h11 a) k (by decide) _ _ _ _ _,h.p48,h.p78,h.p7b⟩
end
def spec_l25Own.f (l0_0:List (S37)) (l0_1:List Bool) (l0_2:List Bool) (a0_3:Int) (a0_4:Int):Option ((List (S37)) × List Bool × List Bool × Int × Int):=(some (([]:List (S37)):List (S37))).bind fun y286=>(if y286.length + l0_0.length < 3518437208883 then ((some (([]:List Bool):List Bool)).bind fun y292=>(if y292.length + l0_1.length < 140737488355328 then ((some (([]:List Bool):List Bool)).bind fun y298=>(if y298.length + l0_2.length < 140737488355328 then (some ((y286 ++ l0_0),(y292 ++ l0_1),(y298 ++ l0_2),a0_3,a0_4)) else (none))) else (none))) else (none))
def own1.T:Bool × List (List Nat × List Nat):=(true,[([],[]),([],[]),([1],[1]),([0,2],[0,2]),([],[]),([],[]),([5],[5]),([4,6,3],[4,6]),([],[]),([],[]),([9],[9]),([8,10,7],[8,10]),([],[]),([12],[12]),([],[]),([14],[14]),([3,7,11,13,15],[3,7,11,13,15]),([16,11,0,1,2,3,4,5,6,7,8,9,10,11,12,13,14,15,16],[16])])
def own1.B:List Nat:=[0,0,2,7,0,0,32,127,0,0,512,2047,0,4096,0,16384,65535,131071]
theorem own1.tab:rtab .any (opsOf Try.f84 1) = own1.T:=by kernel_rfl
theorem own1.bits:waitsOk own1.T.2 own1.B = true:=by kernel_rfl
abbrev own1.mkE:Array Bool:=#[fF,fF,fF,fF,fF,fF,fF,fF,fF,fF,fF,fF,fF,fF,fF,fF,fF,fF]
abbrev own1.mk1:Array Bool:=#[fF,tT,fF,fF,fF,fF,fF,fF,fF,fF,fF,fF,fF,fF,fF,fF,fF,fF]
abbrev own1.mk1_5:Array Bool:=#[fF,tT,fF,fF,fF,tT,fF,fF,fF,fF,fF,fF,fF,fF,fF,fF,fF,fF]
abbrev own1.mk1_5_9:Array Bool:=#[fF,tT,fF,fF,fF,tT,fF,fF,fF,tT,fF,fF,fF,fF,fF,fF,fF,fF]
abbrev own1.mk1_5_9_12:Array Bool:=#[fF,tT,fF,fF,fF,tT,fF,fF,fF,tT,fF,fF,tT,fF,fF,fF,fF,fF]
abbrev own1.mk1_5_9_12_14:Array Bool:=#[fF,tT,fF,fF,fF,tT,fF,fF,fF,tT,fF,fF,tT,fF,tT,fF,fF,fF]
set_option maxHeartbeats 64000000 in
set_option maxRecDepth 100000 in
theorem spec_l25Own.calls (A0_0:Option Addr) (c0_0:Nat) (l0_0:List (S37)) (A0_1:Option Addr) (c0_1:Nat) (l0_1:List Bool) (A0_2:Option Addr) (c0_2:Nat) (l0_2:List Bool) (a0_3:Int) (a0_4:Int) (r1:List (S37)) (r2:List Bool) (r3:List Bool) (r4:Int) (r5:Int) (w:World) (hr0_0:Kd.C k37 w A0_0 l0_0.length l0_0) (hc0_0:l0_0.length <= c0_0) (hr0_1:Kd.C Kd.bool w A0_1 l0_1.length l0_1) (hc0_1:l0_1.length <= c0_1) (hr0_2:Kd.C Kd.bool w A0_2 l0_2.length l0_2) (hc0_2:l0_2.length <= c0_2) (h:spec_l25Own.f l0_0 l0_1 l0_2 a0_3 a0_4 = some (r1,r2,r3,r4,r5)) :
  Calls Try.prog 84 #[.agg #[.slice A0_0 l0_0.length c0_0,.slice A0_1 l0_1.length c0_1,.slice A0_2 l0_2.length c0_2,.int .i64 a0_3,.int .i64 a0_4]] w fun e w'=>∃ v0_ v1_ v2_:Value,e = .returned (.agg #[v0_,v1_,v2_,.int .i64 r4,.int .i64 r5]) /\ Kd.R k37 37 w' w.heap.size (fun _=>True) v0_ r1 /\ Kd.R Kd.bool 4 w' w.heap.size (fun k_=>some k_ ≠ (v2_:Value).ownBlock) v1_ r2 /\ Kd.R Kd.bool 4 w' w.heap.size (fun k_=>some k_ ≠ (v1_:Value).ownBlock) v2_ r3 /\ Below w.heap.size w w':=by
 have hu30:=Try.underlying30
 have HR0:=ak hr0_0
 have HC0:=ak hc0_0
 have HR1:=ak hr0_1
 have HC1:=ak hc0_1
 have HR2:=ak hr0_2
 have HC2:=ak hc0_2
 clear hr0_0 hc0_0 hr0_1 hc0_1 hr0_2 hc0_2
 have HB:=ak (Below.refl w.heap.size w)
 unfold spec_l25Own.f at h
 simp only [Option.bind_some,List.length_nil,Nat.zero_add,List.nil_append] at h
 by_cases q0:l0_0.length < 3518437208883
 rotate_left
 .
  rw [if_neg q0] at h
  cases h
 by_cases q1:l0_1.length < 140737488355328
 rotate_left
 .
  rw [if_pos q0,if_neg q1] at h
  cases h
 by_cases q2:l0_2.length < 140737488355328
 rotate_left
 .
  rw [if_pos q0,if_pos q1,if_neg q2] at h
  cases h
 rw [if_pos q0,if_pos q1,if_pos q2] at h
 simp only [Option.some.injEq,Prod.mk.injEq] at h
 obtain ⟨rfl,rfl,rfl,rfl,rfl⟩:=h
 have Q0:=ak q0
 have Q1:=ak q1
 have Q2:=ak q2
 clear q0 q1 q2
 go_enter Try.func84,Try.ntmps84
 try go_wp2_with (first|((with_reducible refine gate_dst (N:=1) rfl ?_);refine box_event ?hg (N:=1) ?hd (cs:=#[.slice A0_0 l0_0.length c0_0,.slice A0_1 l0_1.length c0_1,.slice A0_2 l0_2.length c0_2,.int .i64 a0_3,.int .i64 a0_4]) (t:=30) ?hr ?_;(case hd=>rfl);(case hg=>rfl);(case hr=>first|(go_simp;done)|(go_simp;rfl));intro g1 hg w5 hbox hb;have BK1:=ak hbox;replace HB:=ak (below_step HB.out hb);clear hb hbox hg)|((with_reducible refine gate_dst (N:=2) rfl ?_);refine box_event ?hg (N:=2) ?hd (cs:=#[.slice none 0 0,.slice none 0 0,.slice none 0 0,.int .i64 0,.int .i64 0]) (t:=30) ?hr ?_;(case hd=>rfl);(case hg=>rfl);(case hr=>first|(go_simp;done)|(go_simp;rfl));intro g2 hg w6 hbox hb;have G2:=ak (bz_ hg HB.out);have N12:=ak (nl_ hg BK1.out);have BK2:=ak hbox;replace BK1:=ak (bb_ BK1.out hb);replace HB:=ak (below_step HB.out hb);clear hb hbox hg))
 have HJ:=ak (show OwJ w g1 g2 #[.slice A0_0 l0_0.length c0_0,.slice A0_1 l0_1.length c0_1,.slice A0_2 l0_2.length c0_2,.int .i64 a0_3,.int .i64 a0_4] l0_0 l0_1 l0_2 a0_3 a0_4 w6.drew false false false false false false false (.bool false) (.bool false) (.bool false) (.bool false) (.bool false) (.bool false) from ⟨below_drew HB.out,blk_drew BK1.out,blk_drew BK2.out,fun h_=>absurd h_ (by decide),fun h_=>absurd h_ (by decide),fun h_=>absurd h_ (by decide),fun h_=>absurd h_ (by decide),fun h_=>absurd h_ (by decide),fun h_=>absurd h_ (by decide),fun h_=>absurd h_ (by decide),fun h_=>absurd h_ (by decide),fun h_=>absurd h_ (by decide)⟩)
 clear HB BK1 BK2
 refine start_ (n:=18) (S:=fun w'=>True) (ds:=[]) own1.mkE (by kernel_rfl) rfl rfl trivial (fun hHeld=>?_);refine with_tabW own1.tab own1.bits (fun HT_ HW_=>?_)
 clear hHeld
 generalize w6.drew = wd at HJ ⊢
 refine pz_ HT_ 1 (some 4) own1.mk1 ?_
 refine pz_ HT_ 5 (some 8) own1.mk1_5 ?_
 refine pz_ HT_ 9 (some 12) own1.mk1_5_9 ?_
 refine pz_ HT_ 12 (some 15) own1.mk1_5_9_12 ?_
 refine pz_ HT_ 14 (some 17) own1.mk1_5_9_12_14 ?_
 refine inv_at [0,2,3,4,6,7,8,10,11,13,15,16,17] (fun a0_ b a w'=>∃ (e0 e1 e2 v0 v1 v2 m:Value),a = putSel a0_ b [(0,3,e0),(2,5,.slice A0_0 l0_0.length c0_0),(3,6,v0),(4,7,e1),(6,9,.slice A0_1 l0_1.length c0_1),(7,10,v1),(8,11,e2),(10,13,.slice A0_2 l0_2.length c0_2),(11,14,v2),(13,16,.int .i64 a0_3),(15,18,.int .i64 a0_4),(16,19,m)] /\ (b 16 = true -> m = .agg #[v0,v1,v2,.int .i64 a0_3,.int .i64 a0_4]) /\ OwJ w g1 g2 #[.slice A0_0 l0_0.length c0_0,.slice A0_1 l0_1.length c0_1,.slice A0_2 l0_2.length c0_2,.int .i64 a0_3,.int .i64 a0_4] l0_0 l0_1 l0_2 a0_3 a0_4 w' (b 0) (b 3) (b 4) (b 7) (b 8) (b 11) (b 17) e0 e1 e2 v0 v1 v2) HT_.out HW_.out (by kernel_rfl) (by kernel_rfl) ?_ ?_ ?_
 .
  exact ⟨.bool false,.bool false,.bool false,.bool false,.bool false,.bool false,.bool false,by simp only [putSel,Bool.false_eq_true,if_false],fun h_=>absurd h_ (by decide),HJ.out⟩
 .
  clear HJ
  refine steps_cons ?_ ?_
  .
   rintro b a w' ⟨e0,e1,e2,v0,v1,v2,m,ha,E_,J⟩ hb_ hon hoff
   refine ⟨_,rfl,fun K hK=>?_⟩
   replace ha:=ak ha
   refine Kd.R_lit_step k37 _ 37 ?hg (N:=3) ?hd (xs:=([]:List S37)) (inner:=[]) (ok:=fun _=>True) (okp:=fun _=>True) ?hr ?hp (fun _ hk=>hk) trivial (Below.refl _ _) (Nat.le_refl _) (by simp) ?_;(case hd=>rfl);(case hg=>rfl);(case hr=>first|(go_simp;done)|(go_simp;rfl));(case hp=>exact (Reps.none _ _))
   intro z w7 ho hb hg_ hn_
   refine hK.out _ _ ⟨z,e1,e2,v0,v1,v2,m,(by rw [ha.out];exact putSel_upk 0 hb_ rfl rfl rfl),E_,J.lit0 hb (Kd.R_lower ho (below_size J.hB))⟩
  refine steps_cons ?_ ?_
  .
   rintro b a w' ⟨e0,e1,e2,v0,v1,v2,m,ha,E_,J⟩ hb_ hon hoff
   refine ⟨_,rfl,fun K hK=>?_⟩
   have e4_:a.tmps[4]? = some (.pointer (some ⟨g1,0,none⟩)):=by rw [ha];exact (putSel_off rfl).trans rfl
   replace ha:=ak ha
   have hs_:w'.cell? ⟨g1,0,none⟩ = some (.slice A0_0 l0_0.length c0_0):=(blk_cell J.k1 0).trans rfl
   refine value_ (w1:=w') (v:=.slice A0_0 l0_0.length c0_0) (by rfl) rfl ?_ ?_
   .
    go_simp
    all_goals first|rfl|assumption
   refine hK.out _ _ ⟨e0,e1,e2,v0,v1,v2,m,(by rw [ha.out];exact putSel_upk 1 hb_ rfl rfl rfl),E_,J⟩
  refine steps_cons ?_ ?_
  .
   rintro b a w' ⟨e0,e1,e2,v0,v1,v2,m,ha,E_,J⟩ hb_ hon hoff
   refine ⟨_,rfl,fun K hK=>?_⟩
   have e3_:a.tmps[3]? = some (e0):=by rw [ha];exact putSel_on (e:=(0,3,e0)) 0 rfl rfl (hon 0 (by kernel_rfl)) rfl
   have e5_:a.tmps[5]? = some (.slice A0_0 l0_0.length c0_0):=by rw [ha];exact putSel_on (e:=(2,5,.slice A0_0 l0_0.length c0_0)) 1 rfl rfl (hon 2 (by kernel_rfl)) rfl
   replace ha:=ak ha
   have hq_:=J.h0 (hon 0 (by kernel_rfl)) hb_
   refine Kd.R_append_rows_step k37 (w0:=w) w.heap.size (by rfl) (.tmp 3) (.tmp 5) 28 37 (.agg #[.int .i64 0,.int .i64 0,.int .i64 0,.int .i64 0,.int .i64 0]) 40 rfl Try.underlying28 info37 rfl (by decide) (by omega) e0 [] l0_0 A0_0 l0_0.length c0_0 (fun _=>True) (fun _=>False) (by simp only [Act.eval,Array.getD_eq_getD_getElem?,e3_,Option.getD_some]) (by simp only [Act.eval,Array.getD_eq_getD_getElem?,e5_,Option.getD_some]) hq_ (Kd.C_below HR0.out J.hB) (fun _ _ h=>h) (fun _ h=>h.elim) (fun _ _=>trivial) J.hB (below_size J.hB) (by have:=Q0.out;simp only [List.length_nil];omega) ?_
   intro z w7 ho hb hg_ hn_
   rw [List.nil_append] at ho
   refine hK.out _ _ ⟨e0,e1,e2,z,v1,v2,m,(by rw [ha.out];exact putSel_upk 2 hb_ rfl rfl rfl),(fun h_=>absurd ((hoff 16 (by kernel_rfl)).symm.trans h_) (by decide)),J.app3 hq_ (hoff 17 (by kernel_rfl)) hb ho hg_⟩
  refine steps_cons ?_ ?_
  .
   rintro b a w' ⟨e0,e1,e2,v0,v1,v2,m,ha,E_,J⟩ hb_ hon hoff
   refine ⟨_,rfl,fun K hK=>?_⟩
   replace ha:=ak ha
   refine Kd.R_lit_step Kd.bool _ 4 ?hg (N:=7) ?hd (xs:=([]:List Bool)) (inner:=[]) (ok:=fun _=>True) (okp:=fun _=>True) ?hr ?hp (fun _ hk=>hk) trivial (Below.refl _ _) (Nat.le_refl _) (by simp) ?_;(case hd=>rfl);(case hg=>rfl);(case hr=>first|(go_simp;done)|(go_simp;rfl));(case hp=>exact (Reps.none _ _))
   intro z w7 ho hb hg_ hn_
   refine hK.out _ _ ⟨e0,z,e2,v0,v1,v2,m,(by rw [ha.out];exact putSel_upk 3 hb_ rfl rfl rfl),E_,J.lit4 (hoff 7 (by kernel_rfl)) hb (Kd.R_lower ho (below_size J.hB)) hn_⟩
  refine steps_cons ?_ ?_
  .
   rintro b a w' ⟨e0,e1,e2,v0,v1,v2,m,ha,E_,J⟩ hb_ hon hoff
   refine ⟨_,rfl,fun K hK=>?_⟩
   have e8_:a.tmps[8]? = some (.pointer (some ⟨g1,1,none⟩)):=by rw [ha];exact (putSel_off rfl).trans rfl
   replace ha:=ak ha
   have hs_:w'.cell? ⟨g1,1,none⟩ = some (.slice A0_1 l0_1.length c0_1):=(blk_cell J.k1 1).trans rfl
   refine value_ (w1:=w') (v:=.slice A0_1 l0_1.length c0_1) (by rfl) rfl ?_ ?_
   .
    go_simp
    all_goals first|rfl|assumption
   refine hK.out _ _ ⟨e0,e1,e2,v0,v1,v2,m,(by rw [ha.out];exact putSel_upk 4 hb_ rfl rfl rfl),E_,J⟩
  refine steps_cons ?_ ?_
  .
   rintro b a w' ⟨e0,e1,e2,v0,v1,v2,m,ha,E_,J⟩ hb_ hon hoff
   refine ⟨_,rfl,fun K hK=>?_⟩
   have e7_:a.tmps[7]? = some (e1):=by rw [ha];exact putSel_on (e:=(4,7,e1)) 3 rfl rfl (hon 4 (by kernel_rfl)) rfl
   have e9_:a.tmps[9]? = some (.slice A0_1 l0_1.length c0_1):=by rw [ha];exact putSel_on (e:=(6,9,.slice A0_1 l0_1.length c0_1)) 4 rfl rfl (hon 6 (by kernel_rfl)) rfl
   replace ha:=ak ha
   have hq_:=J.h4 (hon 4 (by kernel_rfl)) hb_
   refine Kd.R_append_rows_step Kd.bool (w0:=w) w.heap.size (by rfl) (.tmp 7) (.tmp 9) 23 4 (.bool false) 1 rfl Try.underlying23 info4 rfl (by decide) (by omega) e1 [] l0_1 A0_1 l0_1.length c0_1 (fun _=>True) (fun _=>False) (by simp only [Act.eval,Array.getD_eq_getD_getElem?,e7_,Option.getD_some]) (by simp only [Act.eval,Array.getD_eq_getD_getElem?,e9_,Option.getD_some]) hq_ (Kd.C_below HR1.out J.hB) (fun _ _ h=>h) (fun _ h=>h.elim) (fun _ _=>trivial) J.hB (below_size J.hB) (by have:=Q1.out;simp only [List.length_nil];omega) ?_
   intro z w7 ho hb hg_ hn_
   rw [List.nil_append] at ho
   refine hK.out _ _ ⟨e0,e1,e2,v0,z,v2,m,(by rw [ha.out];exact putSel_upk 5 hb_ rfl rfl rfl),(fun h_=>absurd ((hoff 16 (by kernel_rfl)).symm.trans h_) (by decide)),J.app7 (hon 4 (by kernel_rfl)) hb_ (hoff 11 (by kernel_rfl)) (hoff 17 (by kernel_rfl)) hb ho hg_ hn_⟩
  refine steps_cons ?_ ?_
  .
   rintro b a w' ⟨e0,e1,e2,v0,v1,v2,m,ha,E_,J⟩ hb_ hon hoff
   refine ⟨_,rfl,fun K hK=>?_⟩
   replace ha:=ak ha
   refine Kd.R_lit_step Kd.bool _ 4 ?hg (N:=11) ?hd (xs:=([]:List Bool)) (inner:=[]) (ok:=fun _=>True) (okp:=fun _=>True) ?hr ?hp (fun _ hk=>hk) trivial (Below.refl _ _) (Nat.le_refl _) (by simp) ?_;(case hd=>rfl);(case hg=>rfl);(case hr=>first|(go_simp;done)|(go_simp;rfl));(case hp=>exact (Reps.none _ _))
   intro z w7 ho hb hg_ hn_
   refine hK.out _ _ ⟨e0,e1,z,v0,v1,v2,m,(by rw [ha.out];exact putSel_upk 6 hb_ rfl rfl rfl),E_,J.lit8 hb (Kd.R_lower ho (below_size J.hB)) hn_⟩
  refine steps_cons ?_ ?_
  .
   rintro b a w' ⟨e0,e1,e2,v0,v1,v2,m,ha,E_,J⟩ hb_ hon hoff
   refine ⟨_,rfl,fun K hK=>?_⟩
   have e12_:a.tmps[12]? = some (.pointer (some ⟨g1,2,none⟩)):=by rw [ha];exact (putSel_off rfl).trans rfl
   replace ha:=ak ha
   have hs_:w'.cell? ⟨g1,2,none⟩ = some (.slice A0_2 l0_2.length c0_2):=(blk_cell J.k1 2).trans rfl
   refine value_ (w1:=w') (v:=.slice A0_2 l0_2.length c0_2) (by rfl) rfl ?_ ?_
   .
    go_simp
    all_goals first|rfl|assumption
   refine hK.out _ _ ⟨e0,e1,e2,v0,v1,v2,m,(by rw [ha.out];exact putSel_upk 7 hb_ rfl rfl rfl),E_,J⟩
  refine steps_cons ?_ ?_
  .
   rintro b a w' ⟨e0,e1,e2,v0,v1,v2,m,ha,E_,J⟩ hb_ hon hoff
   refine ⟨_,rfl,fun K hK=>?_⟩
   have e11_:a.tmps[11]? = some (e2):=by rw [ha];exact putSel_on (e:=(8,11,e2)) 6 rfl rfl (hon 8 (by kernel_rfl)) rfl
   have e13_:a.tmps[13]? = some (.slice A0_2 l0_2.length c0_2):=by rw [ha];exact putSel_on (e:=(10,13,.slice A0_2 l0_2.length c0_2)) 7 rfl rfl (hon 10 (by kernel_rfl)) rfl
   replace ha:=ak ha
   have hq_:=J.h8 (hon 8 (by kernel_rfl)) hb_
   refine Kd.R_append_rows_step Kd.bool (w0:=w) w.heap.size (by rfl) (.tmp 11) (.tmp 13) 23 4 (.bool false) 1 rfl Try.underlying23 info4 rfl (by decide) (by omega) e2 [] l0_2 A0_2 l0_2.length c0_2 (fun _=>True) (fun _=>False) (by simp only [Act.eval,Array.getD_eq_getD_getElem?,e11_,Option.getD_some]) (by simp only [Act.eval,Array.getD_eq_getD_getElem?,e13_,Option.getD_some]) hq_ (Kd.C_below HR2.out J.hB) (fun _ _ h=>h) (fun _ h=>h.elim) (fun _ _=>trivial) J.hB (below_size J.hB) (by have:=Q2.out;simp only [List.length_nil];omega) ?_
   intro z w7 ho hb hg_ hn_
   rw [List.nil_append] at ho
   refine hK.out _ _ ⟨e0,e1,e2,v0,v1,z,m,(by rw [ha.out];exact putSel_upk 8 hb_ rfl rfl rfl),(fun h_=>absurd ((hoff 16 (by kernel_rfl)).symm.trans h_) (by decide)),J.app11 (hon 7 (by kernel_rfl)) (hon 8 (by kernel_rfl)) hb_ (hoff 17 (by kernel_rfl)) hb ho hg_ hn_⟩
  refine steps_cons ?_ ?_
  .
   rintro b a w' ⟨e0,e1,e2,v0,v1,v2,m,ha,E_,J⟩ hb_ hon hoff
   refine ⟨_,rfl,fun K hK=>?_⟩
   have e15_:a.tmps[15]? = some (.pointer (some ⟨g1,3,none⟩)):=by rw [ha];exact (putSel_off rfl).trans rfl
   replace ha:=ak ha
   have hs_:w'.cell? ⟨g1,3,none⟩ = some (.int .i64 a0_3):=(blk_cell J.k1 3).trans rfl
   refine value_ (w1:=w') (v:=.int .i64 a0_3) (by rfl) rfl ?_ ?_
   .
    go_simp
    all_goals first|rfl|assumption
   refine hK.out _ _ ⟨e0,e1,e2,v0,v1,v2,m,(by rw [ha.out];exact putSel_upk 9 hb_ rfl rfl rfl),E_,J⟩
  refine steps_cons ?_ ?_
  .
   rintro b a w' ⟨e0,e1,e2,v0,v1,v2,m,ha,E_,J⟩ hb_ hon hoff
   refine ⟨_,rfl,fun K hK=>?_⟩
   have e17_:a.tmps[17]? = some (.pointer (some ⟨g1,4,none⟩)):=by rw [ha];exact (putSel_off rfl).trans rfl
   replace ha:=ak ha
   have hs_:w'.cell? ⟨g1,4,none⟩ = some (.int .i64 a0_4):=(blk_cell J.k1 4).trans rfl
   refine value_ (w1:=w') (v:=.int .i64 a0_4) (by rfl) rfl ?_ ?_
   .
    go_simp
    all_goals first|rfl|assumption
   refine hK.out _ _ ⟨e0,e1,e2,v0,v1,v2,m,(by rw [ha.out];exact putSel_upk 10 hb_ rfl rfl rfl),E_,J⟩
  refine steps_cons ?_ ?_
  .
   rintro b a w' ⟨e0,e1,e2,v0,v1,v2,m,ha,E_,J⟩ hb_ hon hoff
   refine ⟨_,rfl,fun K hK=>?_⟩
   have e6_:a.tmps[6]? = some (v0):=by rw [ha];exact putSel_on (e:=(3,6,v0)) 2 rfl rfl (hon 3 (by kernel_rfl)) rfl
   have e10_:a.tmps[10]? = some (v1):=by rw [ha];exact putSel_on (e:=(7,10,v1)) 5 rfl rfl (hon 7 (by kernel_rfl)) rfl
   have e14_:a.tmps[14]? = some (v2):=by rw [ha];exact putSel_on (e:=(11,14,v2)) 8 rfl rfl (hon 11 (by kernel_rfl)) rfl
   have e16_:a.tmps[16]? = some (.int .i64 a0_3):=by rw [ha];exact putSel_on (e:=(13,16,.int .i64 a0_3)) 9 rfl rfl (hon 13 (by kernel_rfl)) rfl
   have e18_:a.tmps[18]? = some (.int .i64 a0_4):=by rw [ha];exact putSel_on (e:=(15,18,.int .i64 a0_4)) 10 rfl rfl (hon 15 (by kernel_rfl)) rfl
   replace ha:=ak ha
   obtain ⟨q0,z0,ee⟩:=Kd.R_slice (J.h3 (hon 3 (by kernel_rfl)))
   subst ee
   obtain ⟨q1,z1,ee⟩:=Kd.R_slice (J.h7 (hon 7 (by kernel_rfl)))
   subst ee
   obtain ⟨q2,z2,ee⟩:=Kd.R_slice (J.h11 (hon 11 (by kernel_rfl)))
   subst ee
   refine value_ (w1:=w') (v:=.agg #[.slice q0 l0_0.length z0,.slice q1 l0_1.length z1,.slice q2 l0_2.length z2,.int .i64 a0_3,.int .i64 a0_4]) (by rfl) rfl ?_ ?_
   .
    go_simp
    all_goals first|rfl|assumption
   refine hK.out _ _ ⟨e0,e1,e2,.slice q0 l0_0.length z0,.slice q1 l0_1.length z1,.slice q2 l0_2.length z2,.agg #[.slice q0 l0_0.length z0,.slice q1 l0_1.length z1,.slice q2 l0_2.length z2,.int .i64 a0_3,.int .i64 a0_4],(by rw [ha.out];exact putSel_upk 11 hb_ rfl rfl rfl),(fun _=>rfl),J⟩
  refine steps_cons ?_ ?_
  .
   rintro b a w' ⟨e0,e1,e2,v0,v1,v2,m,ha,E_,J⟩ hb_ hon hoff
   refine ⟨_,rfl,fun K hK=>?_⟩
   have hm_:=E_ (hon 16 (by kernel_rfl))
   subst hm_
   obtain ⟨q0,z0,ee⟩:=Kd.R_slice (J.h3 (hon 3 (by kernel_rfl)))
   subst ee
   obtain ⟨q1,z1,ee⟩:=Kd.R_slice (J.h7 (hon 7 (by kernel_rfl)))
   subst ee
   obtain ⟨q2,z2,ee⟩:=Kd.R_slice (J.h11 (hon 11 (by kernel_rfl)))
   subst ee
   have e19_:a.tmps[19]? = some (.agg #[.slice q0 l0_0.length z0,.slice q1 l0_1.length z1,.slice q2 l0_2.length z2,.int .i64 a0_3,.int .i64 a0_4]):=by rw [ha];exact putSel_on (e:=(16,19,.agg #[.slice q0 l0_0.length z0,.slice q1 l0_1.length z1,.slice q2 l0_2.length z2,.int .i64 a0_3,.int .i64 a0_4])) 11 rfl rfl (hon 16 (by kernel_rfl)) rfl
   have e2_:a.tmps[2]? = some (.pointer (some ⟨g2,0,none⟩)):=by rw [ha];exact (putSel_off rfl).trans rfl
   replace ha:=ak ha
   have k2_:=J.k2
   rw [show b 17 = false from hb_] at k2_
   replace k2_:w'.heap[g2]? = some (.cells #[.slice none 0 0,.slice none 0 0,.slice none 0 0,.int .i64 0,.int .i64 0] 30 (0,0)):=k2_
   obtain ⟨hcz0,hcz1,hcz2,hcz3,hcz4⟩:=cz5_ k2_
   obtain ⟨hfz0,hfz1,hfz2,hfz3,hfz4⟩:=fz5_ k2_
   refine skip_ (w1:=?_) (by rfl) rfl ?_ ?_
   rotate_left
   .
    go_simp
    rfl
   refine hK.out _ _ ⟨e0,e1,e2,.slice q0 l0_0.length z0,.slice q1 l0_1.length z1,.slice q2 l0_2.length z2,.agg #[.slice q0 l0_0.length z0,.slice q1 l0_1.length z1,.slice q2 l0_2.length z2,.int .i64 a0_3,.int .i64 a0_4],(by rw [ha.out];exact (putSel_same rfl).symm),(fun _=>rfl),J.store hb_ G2.out N12.out (hon 3 (by kernel_rfl)) (hon 7 (by kernel_rfl)) (hon 11 (by kernel_rfl))⟩
  exact steps_nil
 .
  skip
  rintro b a wz hall ⟨e0,e1,e2,v0,v1,v2,m,ha,_,J⟩
  clear HJ
  have hb0_:=hall 0 (by kernel_rfl)
  have hb2_:=hall 2 (by kernel_rfl)
  have hb3_:=hall 3 (by kernel_rfl)
  have hb4_:=hall 4 (by kernel_rfl)
  have hb6_:=hall 6 (by kernel_rfl)
  have hb7_:=hall 7 (by kernel_rfl)
  have hb8_:=hall 8 (by kernel_rfl)
  have hb10_:=hall 10 (by kernel_rfl)
  have hb11_:=hall 11 (by kernel_rfl)
  have hb13_:=hall 13 (by kernel_rfl)
  have hb15_:=hall 15 (by kernel_rfl)
  have hb16_:=hall 16 (by kernel_rfl)
  have hb17_:=hall 17 (by kernel_rfl)
  rw [hb0_,hb3_,hb4_,hb7_,hb8_,hb11_,hb17_] at J
  subst ha
  simp only [putSel,hb0_,hb2_,hb3_,hb4_,hb6_,hb7_,hb8_,hb10_,hb11_,hb13_,hb15_,hb16_,hb17_,if_true,Act.put,List.setIfInBounds_toArray,List.set_cons_zero,List.set_cons_succ]
  clear hb0_ hb2_ hb3_ hb4_ hb6_ hb7_ hb8_ hb10_ hb11_ hb13_ hb15_ hb16_ hb17_ hall
  try go_wp2
  refine bodyPost_ret (results_cell_row rfl _ _ g2 30 #[v0,v1,v2,.int .i64 a0_3,.int .i64 a0_4] (0,0) _ rfl J.k2 Try.underlying30 rfl (by kernel_rfl)) rfl ?_
  exact ⟨v0,v1,v2,rr_,J.h3 rfl,⟨fun k_ hk_=>J.p7b rfl rfl k_ hk_,(J.h7 rfl).2⟩,⟨fun k_ hk_=>(J.p7b rfl rfl).symm k_ hk_,(J.h11 rfl).2⟩,J.hB⟩
def spec_l25Go.f (l0_0:List (S37)) (l0_1:List Bool) (l0_2:List Bool) (a0_3:Int) (a0_4:Int) (a1_0:Int) (a1_1:Int) (a1_2:Int) (a1_3:Int) (a1_4:Int) (a2:Int):Option ((List (S37)) × List Bool × List Bool × Int × Int × Bool):=if a1_0 = a0_3 then (if 0 <= (wrap64 ((wrap64 (a1_0 + a1_1)) - a0_3)) then (if (wrap64 ((wrap64 (a1_0 + a1_1)) - a0_3)) < (l0_1.length:Int) then (some (l0_0,(l0_1.set ((wrap64 ((wrap64 (a1_0 + a1_1)) - a0_3)):Int).toNat true),l0_2,wrap64 ((wrap64 (a1_0 + a1_1)) - a0_3),wrap64 (a0_4 - a2),true)) else (none)) else (none)) else (if a1_1 = a0_3 then (if 0 <= (wrap64 ((wrap64 (a1_0 + a1_1)) - a0_3)) then (if (wrap64 ((wrap64 (a1_0 + a1_1)) - a0_3)) < (l0_1.length:Int) then (some (l0_0,(l0_1.set ((wrap64 ((wrap64 (a1_0 + a1_1)) - a0_3)):Int).toNat true),l0_2,wrap64 ((wrap64 (a1_0 + a1_1)) - a0_3),wrap64 (a0_4 - a2),true)) else (none)) else (none)) else (some (l0_0,l0_1,l0_2,a0_3,a0_4,false)))
theorem spec_l25Go.calls (P0_0_:Nat -> Prop) (u9000_:Value) (l0_0:List (S37)) (P0_1_:Nat -> Prop) (u9001_:Value) (l0_1:List Bool) (P0_2_:Nat -> Prop) (u9002_:Value) (l0_2:List Bool) (a0_3:Int) (a0_4:Int) (a1_0:Int) (a1_1:Int) (a1_2:Int) (a1_3:Int) (a1_4:Int) (a2:Int) (r1:List (S37)) (r2:List Bool) (r3:List Bool) (r4:Int) (r5:Int) (r6:Bool) (w0 w:World) (hB:Below w0.heap.size w0 w) (ho0_0:Kd.R k37 37 w w0.heap.size P0_0_ u9000_ l0_0) (ho0_1:Kd.R Kd.bool 4 w w0.heap.size P0_1_ u9001_ l0_1) (hp0_1_0_2:∀ k_,P0_1_ k_ -> ¬ P0_2_ k_) (ho0_2:Kd.R Kd.bool 4 w w0.heap.size P0_2_ u9002_ l0_2) (hp0_2_0_1:∀ k_,P0_2_ k_ -> ¬ P0_1_ k_) (h:spec_l25Go.f l0_0 l0_1 l0_2 a0_3 a0_4 a1_0 a1_1 a1_2 a1_3 a1_4 a2 = some (r1,r2,r3,r4,r5,r6)) :
  Calls Try.prog 107 #[.agg #[u9000_,u9001_,u9002_,.int .i64 a0_3,.int .i64 a0_4],.agg #[.int .i64 a1_0,.int .i64 a1_1,.int .i64 a1_2,.int .i64 a1_3,.int .i64 a1_4],.int .i64 a2] w fun e w'=>∃ v0_ v1_ v2_:Value,e = .returned (.tuple #[.agg #[v0_,v1_,v2_,.int .i64 r4,.int .i64 r5],.bool r6]) /\ Kd.R k37 37 w' w0.heap.size (fun k_=>((P0_0_ k_ \/ P0_1_ k_ \/ P0_2_ k_) \/ w.heap.size <= k_)) v0_ r1 /\ Kd.R Kd.bool 4 w' w0.heap.size (fun k_=>((P0_0_ k_ \/ P0_1_ k_ \/ P0_2_ k_) \/ w.heap.size <= k_) /\ some k_ ≠ (v2_:Value).ownBlock) v1_ r2 /\ Kd.R Kd.bool 4 w' w0.heap.size (fun k_=>((P0_0_ k_ \/ P0_1_ k_ \/ P0_2_ k_) \/ w.heap.size <= k_) /\ some k_ ≠ (v1_:Value).ownBlock) v2_ r3 /\ Below w0.heap.size w0 w' /\ Kept w w' (fun k_=>P0_0_ k_ \/ P0_1_ k_ \/ P0_2_ k_):=by
 have hu30:=Try.underlying30
 have hu37:=Try.underlying37
 have HO0_0:=ak (show Kd.R k37 37 w w0.heap.size (fun k_=>((P0_0_ k_ \/ P0_1_ k_ \/ P0_2_ k_) \/ w.heap.size <= k_)) u9000_ l0_0 from Kd.R_mono ho0_0 (fun k_ hk=>(.inl (.inl hk))))
 have HO0_1:=ak (show Kd.R Kd.bool 4 w w0.heap.size (fun k_=>((P0_0_ k_ \/ P0_1_ k_ \/ P0_2_ k_) \/ w.heap.size <= k_) /\ some k_ ≠ (u9002_:Value).ownBlock) u9001_ l0_1 from Kd.R_mono ho0_1 (fun k_ hk=>⟨(.inl (.inr (.inl hk))),fun e_=>hp0_1_0_2 k_ hk (ho0_2.1 k_ e_.symm)⟩))
 have HO0_2:=ak (show Kd.R Kd.bool 4 w w0.heap.size (fun k_=>((P0_0_ k_ \/ P0_1_ k_ \/ P0_2_ k_) \/ w.heap.size <= k_) /\ some k_ ≠ (u9001_:Value).ownBlock) u9002_ l0_2 from Kd.R_mono ho0_2 (fun k_ hk=>⟨(.inl (.inr (.inr hk))),fun e_=>hp0_2_0_1 k_ hk (ho0_1.1 k_ e_.symm)⟩))
 have HK:=ak (Kept.refl w (fun k_=>P0_0_ k_ \/ P0_1_ k_ \/ P0_2_ k_))
 have HW0:=ak hB.size
 have HB:=ak hB
 clear hB
 have H:(if a1_0 = a0_3 then (if 0 <= (wrap64 ((wrap64 (a1_0 + a1_1)) - a0_3)) then (if (wrap64 ((wrap64 (a1_0 + a1_1)) - a0_3)) < (l0_1.length:Int) then (some (l0_0,(l0_1.set ((wrap64 ((wrap64 (a1_0 + a1_1)) - a0_3)):Int).toNat true),l0_2,wrap64 ((wrap64 (a1_0 + a1_1)) - a0_3),wrap64 (a0_4 - a2),true)) else (none)) else (none)) else (if a1_1 = a0_3 then (if 0 <= (wrap64 ((wrap64 (a1_0 + a1_1)) - a0_3)) then (if (wrap64 ((wrap64 (a1_0 + a1_1)) - a0_3)) < (l0_1.length:Int) then (some (l0_0,(l0_1.set ((wrap64 ((wrap64 (a1_0 + a1_1)) - a0_3)):Int).toNat true),l0_2,wrap64 ((wrap64 (a1_0 + a1_1)) - a0_3),wrap64 (a0_4 - a2),true)) else (none)) else (none)) else (some (l0_0,l0_1,l0_2,a0_3,a0_4,false)))) = some (r1,r2,r3,r4,r5,r6):=h
 clear h
 by_cases c4:a1_0 = a0_3
 .
  rw [if_pos c4] at H
  have c4b0:(a1_0 == a0_3) = true:=beq_iff_eq.mpr c4
  have c4b1:(a1_0 != a0_3) = false:=bne_eq_false_iff_eq.mpr c4
  clear c4
  obtain ⟨ji5,hji5⟩:∃ j_:Int,(wrap64 ((wrap64 (a1_0 + a1_1)) - a0_3)) = j_:=⟨_,rfl⟩
  replace H:(if 0 <= (ji5) then (if (ji5) < (l0_1.length:Int) then (some (l0_0,(l0_1.set ((ji5):Int).toNat true),l0_2,ji5,wrap64 (a0_4 - a2),true)) else (none)) else (none)) = some (r1,r2,r3,r4,r5,r6):=by first|(rw [hji5] at H;exact H)|(simp only [hji5] at H ⊢;exact H)
  have hji5w:(IntKind.i64.wrap ((wrap64 (a1_0 + a1_1)) - a0_3)) = ji5:=(i64_w _).trans hji5
  by_cases c6:0 <= (ji5)
  .
   rw [if_pos c6] at H
   have c6b0:decide (0 <= (ji5)) = true:=decide_eq_true c6
   clear c6
   by_cases c7:(ji5) < (l0_1.length:Int)
   .
    rw [if_pos c7] at H
    have c7b0:decide ((ji5) < (l0_1.length:Int)) = true:=decide_eq_true c7
    clear c7
    obtain ⟨y255,hy255⟩:∃ y_:List Bool,y_ = (l0_1.set ((ji5):Int).toNat true):=⟨_,rfl⟩
    replace H:(some (l0_0,y255,l0_2,ji5,wrap64 (a0_4 - a2),true)) = some (r1,r2,r3,r4,r5,r6):=by first|(rw [hy255];with_reducible exact H)|(have H2_:=(Option.bind_some _ _).symm.trans H;rw [hy255];with_reducible exact H2_)|(have H2_:=(Option.bind_some _ _).symm.trans H;with_reducible exact H2_)|with_reducible exact H|(rw [hy255];exact H)|exact H
    have Ny255:=ak hy255
    clear hy255
    simp only [Option.some.injEq,Prod.mk.injEq] at H
    obtain ⟨rfl,rfl,rfl,rfl,rfl,rfl⟩:=H
    obtain ⟨Ao9,co9,eo9⟩:=Kd.R_slice HO0_0.out
    subst eo9
    obtain ⟨Ao10,co10,eo10⟩:=Kd.R_slice HO0_1.out
    subst eo10
    obtain ⟨Ao11,co11,eo11⟩:=Kd.R_slice HO0_2.out
    subst eo11
    go_enter Try.func107,Try.ntmps107
    go_wp2_with (first|((with_reducible refine gate_dst (N:=3) rfl ?_);refine box_event ?hg (N:=3) ?hd (cs:=#[.slice Ao9 l0_0.length co9,.slice Ao10 l0_1.length co10,.slice Ao11 l0_2.length co11,.int .i64 a0_3,.int .i64 a0_4]) (t:=30) ?hr ?_;(case hd=>rfl);(case hg=>rfl);(case hr=>first|(go_simp;done)|(go_simp;rfl));intro gb252 hg w12 hbox hb;replace HO0_0:=ak (Kd.R_below (kr_ HO0_0.out) hb);replace HO0_1:=ak (Kd.R_below (kr_ HO0_1.out) hb);replace HO0_2:=ak (Kd.R_below (kr_ HO0_2.out) hb);have BK252:=ak (hbox);have GW252:=ak ((by rw [hg];exact (by first|exact HK.out.1|exact (show Kept w _ (fun k_=>P0_0_ k_ \/ P0_1_ k_ \/ P0_2_ k_) from kt_ HK.out).1):w.heap.size <= gb252));replace HK:=ak (Kept.below (S:=(fun k_=>P0_0_ k_ \/ P0_1_ k_ \/ P0_2_ k_)) (kt_ HK.out) hb);have GE252:=ak ((by rw [hg];exact (below_size (lb0_ HB.out)):w0.heap.size <= gb252));replace HB:=ak (below_step (lb0_ HB.out) hb);clear hb hbox hg)|((with_reducible refine gate_dst (N:=4) rfl ?_);refine box_event ?hg (N:=4) ?hd (cs:=#[.int .i64 a1_0,.int .i64 a1_1,.int .i64 a1_2,.int .i64 a1_3,.int .i64 a1_4]) (t:=37) ?hr ?_;(case hd=>rfl);(case hg=>rfl);(case hr=>first|(go_simp;done)|(go_simp;rfl));intro gb253 hg w13 hbox hb;replace HO0_0:=ak (Kd.R_below (Kd.R_elderB (kr_ HO0_0.out) gb253 (Nat.le_of_eq hg.symm)) hb);replace HO0_1:=ak (Kd.R_below (kr_ HO0_1.out) hb);replace HO0_2:=ak (Kd.R_below (kr_ HO0_2.out) hb);have BK253:=ak (hbox);have GW253:=ak ((by rw [hg];exact (by first|exact HK.out.1|exact (show Kept w _ (fun k_=>P0_0_ k_ \/ P0_1_ k_ \/ P0_2_ k_) from by repeat (first|(with_reducible first|exact HK.out|apply Kept.alloc|apply Kept.drewN|apply Kept.drew|refine Kept.setCell ?_ (.inr GW252.out) _)|exact HK.out)).1):w.heap.size <= gb253));replace HK:=ak (Kept.below (S:=(fun k_=>P0_0_ k_ \/ P0_1_ k_ \/ P0_2_ k_)) (by repeat (first|(with_reducible first|exact HK.out|apply Kept.alloc|apply Kept.drewN|apply Kept.drew|refine Kept.setCell ?_ (.inr GW252.out) _)|exact HK.out)) hb);have GE253:=ak ((by rw [hg];exact (below_size (lb1_ HB.out GE252.out)):w0.heap.size <= gb253));replace HB:=ak (below_step (lb1_ HB.out GE252.out) hb);have NB252_253:=ak (nl_ hg BK252.out);have NB253_252:=ak (ng_ hg BK252.out);replace BK252:=ak (bb_ (bk_ BK252.out) hb);clear hb hbox hg)|((with_reducible refine gate_dst (N:=6) rfl ?_);refine box_event ?hg (N:=6) ?hd (cs:=#[.slice none 0 0,.slice none 0 0,.slice none 0 0,.int .i64 0,.int .i64 0]) (t:=30) ?hr ?_;(case hd=>rfl);(case hg=>rfl);(case hr=>first|(go_simp;done)|(go_simp;rfl));intro gb254 hg w14 hbox hb;replace HO0_0:=ak (Kd.R_below (kr_ HO0_0.out) hb);replace HO0_1:=ak (Kd.R_below (kr_ HO0_1.out) hb);replace HO0_2:=ak (Kd.R_below (kr_ HO0_2.out) hb);have BK254:=ak (hbox);have GW254:=ak ((by rw [hg];exact (by first|exact HK.out.1|exact (show Kept w _ (fun k_=>P0_0_ k_ \/ P0_1_ k_ \/ P0_2_ k_) from by repeat (first|(with_reducible first|exact HK.out|apply Kept.alloc|apply Kept.drewN|apply Kept.drew|refine Kept.setCell ?_ (.inr GW252.out) _|refine Kept.setCell ?_ (.inr GW253.out) _)|exact HK.out)).1):w.heap.size <= gb254));replace HK:=ak (Kept.below (S:=(fun k_=>P0_0_ k_ \/ P0_1_ k_ \/ P0_2_ k_)) (by repeat (first|(with_reducible first|exact HK.out|apply Kept.alloc|apply Kept.drewN|apply Kept.drew|refine Kept.setCell ?_ (.inr GW252.out) _|refine Kept.setCell ?_ (.inr GW253.out) _)|exact HK.out)) hb);have GE254:=ak ((by rw [hg];exact (below_size (lb2_ HB.out GE252.out GE253.out)):w0.heap.size <= gb254));replace HB:=ak (below_step (lb2_ HB.out GE252.out GE253.out) hb);have NB252_254:=ak (nl_ hg BK252.out);have NB254_252:=ak (ng_ hg BK252.out);replace BK252:=ak (bb_ (bk_ BK252.out) hb);have NB253_254:=ak (nl_ hg BK253.out);have NB254_253:=ak (ng_ hg BK253.out);replace BK253:=ak (bb_ (bk_ BK253.out) hb);clear hb hbox hg;have hnb15:=NB253_252.out;have hnc15:=NB252_253.out;have hnb16:=NB253_254.out;have hnc16:=NB254_253.out;obtain ⟨hcz17_0,hcz17_1,hcz17_2,hcz17_3,hcz17_4⟩:=cz5_ BK253.out;obtain ⟨hfz17_0,hfz17_1,hfz17_2,hfz17_3,hfz17_4⟩:=fz5_ BK253.out;have hnb18:=NB252_254.out;have hnc18:=NB254_252.out;obtain ⟨hcz19_0,hcz19_1,hcz19_2,hcz19_3,hcz19_4⟩:=cz5_ BK252.out;obtain ⟨hfz19_0,hfz19_1,hfz19_2,hfz19_3,hfz19_4⟩:=fz5_ BK252.out)|((with_reducible refine gate_store (t:=3) (p:=29) rfl ?_);refine store_event (t:=3) (p:=29) (v:=?vo_w20) (w1:=(w14.setCell ⟨gb252,3,none⟩ (.int .i64 ji5))) ?hg ?ho ?hn ?hr ?_;(case ho=>rfl);(case hg=>rfl);(case hn=>rfl);(case hr=>first|(go_simp;done)|(go_simp;rfl));intro w20 hw;have n0_:Aside0 (Kd.R k37 37 w20 w0.heap.size (fun k_=>((P0_0_ k_ \/ P0_1_ k_ \/ P0_2_ k_) \/ w.heap.size <= k_) /\ k_ ≠ gb253) (.slice Ao9 l0_0.length co9) l0_0):=⟨(by rw [hw];exact (by (with_reducible repeat (first|apply Kd.R_alloc|apply Kd.R_drewN|apply Kd.R_drew));exact Kd.R_mono (Kd.R_far (p:=⟨gb252,3,none⟩) (Kd.R_types HO0_0.out BK252.out (by decide)) (fun _ hk=>hk.2) (.int .i64 ji5)) (fun _ hk=>⟨hk.1.1,hk.1.2⟩)))⟩;have n1_:Aside0 (Kd.R Kd.bool 4 w20 w0.heap.size (fun k_=>((P0_0_ k_ \/ P0_1_ k_ \/ P0_2_ k_) \/ w.heap.size <= k_) /\ some k_ ≠ (.slice Ao11 l0_2.length co11:Value).ownBlock) (.slice Ao10 l0_1.length co10) l0_1):=⟨(by rw [hw];exact (by (with_reducible repeat (first|apply Kd.R_alloc|apply Kd.R_drewN|apply Kd.R_drew));exact Kd.R_mono (Kd.R_far (p:=⟨gb252,3,none⟩) (Kd.R_types HO0_1.out BK252.out (by decide)) (fun _ hk=>hk.2) (.int .i64 ji5)) (fun _ hk=>⟨hk.1.1,hk.1.2⟩)))⟩;have n2_:Aside0 (Kd.R Kd.bool 4 w20 w0.heap.size (fun k_=>((P0_0_ k_ \/ P0_1_ k_ \/ P0_2_ k_) \/ w.heap.size <= k_) /\ some k_ ≠ (.slice Ao10 l0_1.length co10:Value).ownBlock) (.slice Ao11 l0_2.length co11) l0_2):=⟨(by rw [hw];exact (by (with_reducible repeat (first|apply Kd.R_alloc|apply Kd.R_drewN|apply Kd.R_drew));exact Kd.R_mono (Kd.R_far (p:=⟨gb252,3,none⟩) (Kd.R_types HO0_2.out BK252.out (by decide)) (fun _ hk=>hk.2) (.int .i64 ji5)) (fun _ hk=>⟨hk.1.1,hk.1.2⟩)))⟩;have n3_:Aside0 (w20.heap[gb252]? = some (.cells #[.slice Ao9 l0_0.length co9,.slice Ao10 l0_1.length co10,.slice Ao11 l0_2.length co11,.int .i64 ji5,.int .i64 a0_4] 30 (0,0))):=⟨(by rw [hw];exact (by (with_reducible repeat (first|refine blk_drewN ?_ _|refine blk_drew ?_|refine blk_alloc ?_ _));refine blk_put (cs:=#[.slice Ao9 l0_0.length co9,.slice Ao10 l0_1.length co10,.slice Ao11 l0_2.length co11,.int .i64 a0_3,.int .i64 a0_4]) ?_ 3 _ rfl;(with_reducible repeat (first|refine blk_drewN ?_ _|refine blk_drew ?_|refine blk_alloc ?_ _));exact BK252.out))⟩;have n4_:Aside0 (w20.heap[gb253]? = some (.cells #[.int .i64 a1_0,.int .i64 a1_1,.int .i64 a1_2,.int .i64 a1_3,.int .i64 a1_4] 37 (0,0))):=⟨(by rw [hw];exact (by exact (blk_far BK253.out NB253_252.out _)))⟩;have n5_:Aside0 (w20.heap[gb254]? = some (.cells #[.slice none 0 0,.slice none 0 0,.slice none 0 0,.int .i64 0,.int .i64 0] 30 (0,0))):=⟨(by rw [hw];exact (by exact (blk_far BK254.out NB254_252.out _)))⟩;have n6_:Aside0 (Kept w w20 (fun k_=>P0_0_ k_ \/ P0_1_ k_ \/ P0_2_ k_)):=⟨(by rw [hw];exact (by repeat (first|(with_reducible first|exact HK.out|apply Kept.alloc|apply Kept.drewN|apply Kept.drew|refine Kept.setCell ?_ (.inr GW252.out) _|refine Kept.setCell ?_ (.inr GW253.out) _|refine Kept.setCell ?_ (.inr GW254.out) _)|exact HK.out)))⟩;have n7_:Aside0 (Below w0.heap.size w0 w20):=⟨(by rw [hw];exact (lb3_ HB.out GE252.out GE253.out GE254.out))⟩;clear hw;clear HO0_0;clear HO0_1;clear HO0_2;clear BK252;clear BK253;clear BK254;clear HK;clear HB;have HO0_0:=n0_;have HO0_1:=n1_;have HO0_2:=n2_;have BK252:=n3_;have BK253:=n4_;have BK254:=n5_;have HK:=n6_;have HB:=n7_;clear n0_ n1_ n2_ n3_ n4_ n5_ n6_ n7_;obtain ⟨hcz21_0,hcz21_1,hcz21_2,hcz21_3,hcz21_4⟩:=cz5_ BK252.out;obtain ⟨hfz21_0,hfz21_1,hfz21_2,hfz21_3,hfz21_4⟩:=fz5_ BK252.out;have p8:0 <= ((ji5):Int):=dt_;have q8:((ji5):Int) < ((l0_1.length:Int):Int):=dt_;obtain ⟨go8,co8,eo8,gb8,gl8,cl8,HG8⟩:=Kd.R_form HO0_1.out (by omega);(first|cases eo8|(injection eo8 with ea_ en_ ec_;(first|subst ea_|(injection ea_ with ea_;subst ea_));subst ec_;clear en_));have GB8:=ak gb8;have GG8:=ak HG8;clear gb8 gl8 HG8;have HMgo8:=ak (show ((P0_0_ go8 \/ P0_1_ go8 \/ P0_2_ go8) \/ w.heap.size <= go8) from (HO0_1.out.1 _ rfl).1);obtain ⟨hx8_0,hf8_0⟩:=Kd.R_celln false HO0_1.out ((ji5):Int) p8 q8;replace p8:=eq_true p8;replace q8:=eq_true q8;obtain ⟨hy22_,hz22_⟩:=Kd.R_celln false HO0_1.out ((ji5):Int) (dt_) (dt_);have HP22:=Kd.R_putg HO0_1.out ((ji5):Int) true)|((with_reducible refine gate_store (t:=4) (p:=34) rfl ?_);refine store_event (t:=4) (p:=34) (v:=?vo_w23) (w1:=(w20.setCell ⟨go8,((ji5):Int).toNat,none⟩ (.bool true))) ?hg ?ho ?hn ?hr ?_;(case ho=>rfl);(case hg=>rfl);(case hn=>rfl);(case hr=>first|(go_simp;done)|(go_simp;rfl));intro w23 hw;have hg:w20.grownBy w23 (some go8):=(by rw [hw];exact HP22.2);have hp_:Kd.R Kd.bool 4 w23 w0.heap.size (fun k_=>((P0_0_ k_ \/ P0_1_ k_ \/ P0_2_ k_) \/ w.heap.size <= k_) /\ some k_ ≠ (.slice Ao11 l0_2.length co11:Value).ownBlock) (.slice (some ⟨go8,0,none⟩) l0_1.length co10) y255:=(by rw [hw,Ny255.out];exact HP22.1);clear HP22;replace HO0_0:=ak (Kd.R_over' (v:=(.slice (some ⟨go8,0,none⟩) l0_1.length co10)) (kr_ HO0_0.out) (Kd.R_typed HO0_1.out) (by decide) hg);replace HO0_2:=ak (Kd.R_after (v:=(.slice (some ⟨go8,0,none⟩) l0_1.length co10)) (v1:=(.slice (some ⟨go8,0,none⟩) l0_1.length co10)) (ok:=(fun k_=>((P0_0_ k_ \/ P0_1_ k_ \/ P0_2_ k_) \/ w.heap.size <= k_))) (kr_ HO0_2.out) hg (.inl rfl));replace BK252:=ak (blk_grown (g:=gb252) (o:=.cells #[.slice Ao9 l0_0.length co9,.slice (some ⟨go8,0,none⟩) l0_1.length co10,.slice Ao11 l0_2.length co11,.int .i64 ji5,.int .i64 a0_4] 30 (0,0)) (bk_ BK252.out) hg (Kd.R_ne HO0_1.out BK252.out (by decide)));replace BK253:=ak (blk_grown (g:=gb253) (o:=.cells #[.int .i64 a1_0,.int .i64 a1_1,.int .i64 a1_2,.int .i64 a1_3,.int .i64 a1_4] 37 (0,0)) (bk_ BK253.out) hg (Kd.R_ne HO0_1.out BK253.out (by decide)));replace BK254:=ak (blk_grown (g:=gb254) (o:=.cells #[.slice none 0 0,.slice none 0 0,.slice none 0 0,.int .i64 0,.int .i64 0] 30 (0,0)) (bk_ BK254.out) hg (Kd.R_ne HO0_1.out BK254.out (by decide)));replace HB:=ak ((by rw [hw];exact below_set (HB.out) GB8.out:Below w0.heap.size w0 w23));replace HK:=ak (Kept.of_grown (S:=(fun k_=>P0_0_ k_ \/ P0_1_ k_ \/ P0_2_ k_)) hg (by repeat (first|(with_reducible first|exact HK.out|apply Kept.alloc|apply Kept.drewN|apply Kept.drew|refine Kept.setCell ?_ (.inr GW252.out) _|refine Kept.setCell ?_ (.inr GW253.out) _|refine Kept.setCell ?_ (.inr GW254.out) _)|exact HK.out)) (fun k_ e_=>(HO0_1.out.1 k_ e_).1));replace HO0_1:=ak (hp_);clear hg hw hp_;obtain ⟨hcz24_0,hcz24_1,hcz24_2,hcz24_3,hcz24_4⟩:=cz5_ BK252.out;obtain ⟨hfz24_0,hfz24_1,hfz24_2,hfz24_3,hfz24_4⟩:=fz5_ BK252.out;obtain ⟨hcz25_0,hcz25_1,hcz25_2,hcz25_3,hcz25_4⟩:=cz5_ BK254.out;obtain ⟨hfz25_0,hfz25_1,hfz25_2,hfz25_3,hfz25_4⟩:=fz5_ BK254.out))
    refine bodyPost_ret (results_ct rfl _ _ gb254 30 #[.slice Ao9 l0_0.length co9,.slice (some ⟨go8,0,none⟩) l0_1.length co10,.slice Ao11 l0_2.length co11,.int .i64 ji5,.int .i64 (wrap64 (a0_4 - a2))] (0,0) _ rfl (by (with_reducible repeat (first|refine blk_drewN ?_ _|refine blk_drew ?_|refine blk_alloc ?_ _));refine blk_put (cs:=#[.slice Ao9 l0_0.length co9,.slice (some ⟨go8,0,none⟩) l0_1.length co10,.slice Ao11 l0_2.length co11,.int .i64 ji5,.int .i64 0]) ?_ 4 _ rfl;(with_reducible repeat (first|refine blk_drewN ?_ _|refine blk_drew ?_|refine blk_alloc ?_ _));refine blk_put (cs:=#[.slice Ao9 l0_0.length co9,.slice (some ⟨go8,0,none⟩) l0_1.length co10,.slice Ao11 l0_2.length co11,.int .i64 0,.int .i64 0]) ?_ 3 _ rfl;(with_reducible repeat (first|refine blk_drewN ?_ _|refine blk_drew ?_|refine blk_alloc ?_ _));refine blk_put (cs:=#[.slice Ao9 l0_0.length co9,.slice (some ⟨go8,0,none⟩) l0_1.length co10,.slice none 0 0,.int .i64 0,.int .i64 0]) ?_ 2 _ rfl;(with_reducible repeat (first|refine blk_drewN ?_ _|refine blk_drew ?_|refine blk_alloc ?_ _));refine blk_put (cs:=#[.slice Ao9 l0_0.length co9,.slice none 0 0,.slice none 0 0,.int .i64 0,.int .i64 0]) ?_ 1 _ rfl;(with_reducible repeat (first|refine blk_drewN ?_ _|refine blk_drew ?_|refine blk_alloc ?_ _));refine blk_put (cs:=#[.slice none 0 0,.slice none 0 0,.slice none 0 0,.int .i64 0,.int .i64 0]) ?_ 0 _ rfl;(with_reducible repeat (first|refine blk_drewN ?_ _|refine blk_drew ?_|refine blk_alloc ?_ _));refine blk_far ?_ NB254_252.out _;(with_reducible repeat (first|refine blk_drewN ?_ _|refine blk_drew ?_|refine blk_alloc ?_ _));exact BK254.out) Try.underlying30 rfl (by kernel_rfl)) rfl ?_
    exact ⟨_,_,_,by first|rfl|(simp [errW_none,errW_some] <;> rfl)|(simp only [<- hji5];first|rfl|(simp [errW_none,errW_some] <;> rfl))|(simp [*,errW_none,errW_some] <;> rfl),by (with_reducible repeat (first|apply Kd.R_alloc|apply Kd.R_drewN|apply Kd.R_drew));exact Kd.R_mono (Kd.R_far (p:=⟨gb254,4,none⟩) (Kd.R_far (p:=⟨gb254,3,none⟩) (Kd.R_far (p:=⟨gb254,2,none⟩) (Kd.R_far (p:=⟨gb254,1,none⟩) (Kd.R_far (p:=⟨gb254,0,none⟩) (Kd.R_far (p:=⟨gb252,4,none⟩) (Kd.R_types (Kd.R_types HO0_0.out BK252.out (by decide)) BK254.out (by decide)) (fun _ hk=>hk.1.2) (.int .i64 (wrap64 (a0_4 - a2)))) (fun _ hk=>hk.2) (.slice Ao9 l0_0.length co9)) (fun _ hk=>hk.2) (.slice (some ⟨go8,0,none⟩) l0_1.length co10)) (fun _ hk=>hk.2) (.slice Ao11 l0_2.length co11)) (fun _ hk=>hk.2) (.int .i64 ji5)) (fun _ hk=>hk.2) (.int .i64 (wrap64 (a0_4 - a2)))) (fun _ hk=>hk.1.1.1),by (with_reducible repeat (first|apply Kd.R_alloc|apply Kd.R_drewN|apply Kd.R_drew));exact Kd.R_mono (Kd.R_far (p:=⟨gb254,4,none⟩) (Kd.R_far (p:=⟨gb254,3,none⟩) (Kd.R_far (p:=⟨gb254,2,none⟩) (Kd.R_far (p:=⟨gb254,1,none⟩) (Kd.R_far (p:=⟨gb254,0,none⟩) (Kd.R_far (p:=⟨gb252,4,none⟩) (Kd.R_types (Kd.R_types HO0_1.out BK252.out (by decide)) BK254.out (by decide)) (fun _ hk=>hk.1.2) (.int .i64 (wrap64 (a0_4 - a2)))) (fun _ hk=>hk.2) (.slice Ao9 l0_0.length co9)) (fun _ hk=>hk.2) (.slice (some ⟨go8,0,none⟩) l0_1.length co10)) (fun _ hk=>hk.2) (.slice Ao11 l0_2.length co11)) (fun _ hk=>hk.2) (.int .i64 ji5)) (fun _ hk=>hk.2) (.int .i64 (wrap64 (a0_4 - a2)))) (fun _ hk=>⟨hk.1.1.1,hk.1.1.2⟩),by (with_reducible repeat (first|apply Kd.R_alloc|apply Kd.R_drewN|apply Kd.R_drew));exact Kd.R_mono (Kd.R_far (p:=⟨gb254,4,none⟩) (Kd.R_far (p:=⟨gb254,3,none⟩) (Kd.R_far (p:=⟨gb254,2,none⟩) (Kd.R_far (p:=⟨gb254,1,none⟩) (Kd.R_far (p:=⟨gb254,0,none⟩) (Kd.R_far (p:=⟨gb252,4,none⟩) (Kd.R_types (Kd.R_types HO0_2.out BK252.out (by decide)) BK254.out (by decide)) (fun _ hk=>hk.1.2) (.int .i64 (wrap64 (a0_4 - a2)))) (fun _ hk=>hk.2) (.slice Ao9 l0_0.length co9)) (fun _ hk=>hk.2) (.slice (some ⟨go8,0,none⟩) l0_1.length co10)) (fun _ hk=>hk.2) (.slice Ao11 l0_2.length co11)) (fun _ hk=>hk.2) (.int .i64 ji5)) (fun _ hk=>hk.2) (.int .i64 (wrap64 (a0_4 - a2)))) (fun _ hk=>⟨hk.1.1.1,hk.1.1.2⟩),lb3_ HB.out GE252.out GE253.out GE254.out,by repeat (first|(with_reducible first|exact HK.out|apply Kept.alloc|apply Kept.drewN|apply Kept.drew|refine Kept.setCell ?_ (.inr GW252.out) _|refine Kept.setCell ?_ (.inr GW253.out) _|refine Kept.setCell ?_ (.inr GW254.out) _)|exact HK.out)⟩
   .
    rw [if_neg c7] at H
    exact absurd H (by simp)
  .
   rw [if_neg c6] at H
   exact absurd H (by simp)
 .
  rw [if_neg c4] at H
  have c4b0:(a1_0 == a0_3) = false:=beq_eq_false_iff_ne.mpr c4
  have c4b1:(a1_0 != a0_3) = true:=bne_iff_ne.mpr c4
  by_cases c26:a1_1 = a0_3
  .
   rw [if_pos c26] at H
   have c26b0:(a1_1 == a0_3) = true:=beq_iff_eq.mpr c26
   have c26b1:(a1_1 != a0_3) = false:=bne_eq_false_iff_eq.mpr c26
   clear c26
   obtain ⟨ji27,hji27⟩:∃ j_:Int,(wrap64 ((wrap64 (a1_0 + a1_1)) - a0_3)) = j_:=⟨_,rfl⟩
   replace H:(if 0 <= (ji27) then (if (ji27) < (l0_1.length:Int) then (some (l0_0,(l0_1.set ((ji27):Int).toNat true),l0_2,ji27,wrap64 (a0_4 - a2),true)) else (none)) else (none)) = some (r1,r2,r3,r4,r5,r6):=by first|(rw [hji27] at H;exact H)|(simp only [hji27] at H ⊢;exact H)
   have hji27w:(IntKind.i64.wrap ((wrap64 (a1_0 + a1_1)) - a0_3)) = ji27:=(i64_w _).trans hji27
   by_cases c28:0 <= (ji27)
   .
    rw [if_pos c28] at H
    have c28b0:decide (0 <= (ji27)) = true:=decide_eq_true c28
    clear c28
    by_cases c29:(ji27) < (l0_1.length:Int)
    .
     rw [if_pos c29] at H
     have c29b0:decide ((ji27) < (l0_1.length:Int)) = true:=decide_eq_true c29
     clear c29
     obtain ⟨y256,hy256⟩:∃ y_:List Bool,y_ = (l0_1.set ((ji27):Int).toNat true):=⟨_,rfl⟩
     replace H:(some (l0_0,y256,l0_2,ji27,wrap64 (a0_4 - a2),true)) = some (r1,r2,r3,r4,r5,r6):=by first|(rw [hy256];with_reducible exact H)|(have H2_:=(Option.bind_some _ _).symm.trans H;rw [hy256];with_reducible exact H2_)|(have H2_:=(Option.bind_some _ _).symm.trans H;with_reducible exact H2_)|with_reducible exact H|(rw [hy256];exact H)|exact H
     have Ny256:=ak hy256
     clear hy256
     simp only [Option.some.injEq,Prod.mk.injEq] at H
     obtain ⟨rfl,rfl,rfl,rfl,rfl,rfl⟩:=H
     obtain ⟨Ao31,co31,eo31⟩:=Kd.R_slice HO0_0.out
     subst eo31
     obtain ⟨Ao32,co32,eo32⟩:=Kd.R_slice HO0_1.out
     subst eo32
     obtain ⟨Ao33,co33,eo33⟩:=Kd.R_slice HO0_2.out
     subst eo33
     go_enter Try.func107,Try.ntmps107
     go_wp2_with (first|((with_reducible refine gate_dst (N:=3) rfl ?_);refine box_event ?hg (N:=3) ?hd (cs:=#[.slice Ao31 l0_0.length co31,.slice Ao32 l0_1.length co32,.slice Ao33 l0_2.length co33,.int .i64 a0_3,.int .i64 a0_4]) (t:=30) ?hr ?_;(case hd=>rfl);(case hg=>rfl);(case hr=>first|(go_simp;done)|(go_simp;rfl));intro gb252 hg w34 hbox hb;replace HO0_0:=ak (Kd.R_below (kr_ HO0_0.out) hb);replace HO0_1:=ak (Kd.R_below (kr_ HO0_1.out) hb);replace HO0_2:=ak (Kd.R_below (kr_ HO0_2.out) hb);have BK252:=ak (hbox);have GW252:=ak ((by rw [hg];exact (by first|exact HK.out.1|exact (show Kept w _ (fun k_=>P0_0_ k_ \/ P0_1_ k_ \/ P0_2_ k_) from kt_ HK.out).1):w.heap.size <= gb252));replace HK:=ak (Kept.below (S:=(fun k_=>P0_0_ k_ \/ P0_1_ k_ \/ P0_2_ k_)) (kt_ HK.out) hb);have GE252:=ak ((by rw [hg];exact (below_size (lb0_ HB.out)):w0.heap.size <= gb252));replace HB:=ak (below_step (lb0_ HB.out) hb);clear hb hbox hg)|((with_reducible refine gate_dst (N:=4) rfl ?_);refine box_event ?hg (N:=4) ?hd (cs:=#[.int .i64 a1_0,.int .i64 a1_1,.int .i64 a1_2,.int .i64 a1_3,.int .i64 a1_4]) (t:=37) ?hr ?_;(case hd=>rfl);(case hg=>rfl);(case hr=>first|(go_simp;done)|(go_simp;rfl));intro gb253 hg w35 hbox hb;replace HO0_0:=ak (Kd.R_below (Kd.R_elderB (kr_ HO0_0.out) gb253 (Nat.le_of_eq hg.symm)) hb);replace HO0_1:=ak (Kd.R_below (kr_ HO0_1.out) hb);replace HO0_2:=ak (Kd.R_below (kr_ HO0_2.out) hb);have BK253:=ak (hbox);have GW253:=ak ((by rw [hg];exact (by first|exact HK.out.1|exact (show Kept w _ (fun k_=>P0_0_ k_ \/ P0_1_ k_ \/ P0_2_ k_) from by repeat (first|(with_reducible first|exact HK.out|apply Kept.alloc|apply Kept.drewN|apply Kept.drew|refine Kept.setCell ?_ (.inr GW252.out) _)|exact HK.out)).1):w.heap.size <= gb253));replace HK:=ak (Kept.below (S:=(fun k_=>P0_0_ k_ \/ P0_1_ k_ \/ P0_2_ k_)) (by repeat (first|(with_reducible first|exact HK.out|apply Kept.alloc|apply Kept.drewN|apply Kept.drew|refine Kept.setCell ?_ (.inr GW252.out) _)|exact HK.out)) hb);have GE253:=ak ((by rw [hg];exact (below_size (lb1_ HB.out GE252.out)):w0.heap.size <= gb253));replace HB:=ak (below_step (lb1_ HB.out GE252.out) hb);have NB252_253:=ak (nl_ hg BK252.out);have NB253_252:=ak (ng_ hg BK252.out);replace BK252:=ak (bb_ (bk_ BK252.out) hb);clear hb hbox hg)|((with_reducible refine gate_dst (N:=6) rfl ?_);refine box_event ?hg (N:=6) ?hd (cs:=#[.slice none 0 0,.slice none 0 0,.slice none 0 0,.int .i64 0,.int .i64 0]) (t:=30) ?hr ?_;(case hd=>rfl);(case hg=>rfl);(case hr=>first|(go_simp;done)|(go_simp;rfl));intro gb254 hg w36 hbox hb;replace HO0_0:=ak (Kd.R_below (kr_ HO0_0.out) hb);replace HO0_1:=ak (Kd.R_below (kr_ HO0_1.out) hb);replace HO0_2:=ak (Kd.R_below (kr_ HO0_2.out) hb);have BK254:=ak (hbox);have GW254:=ak ((by rw [hg];exact (by first|exact HK.out.1|exact (show Kept w _ (fun k_=>P0_0_ k_ \/ P0_1_ k_ \/ P0_2_ k_) from by repeat (first|(with_reducible first|exact HK.out|apply Kept.alloc|apply Kept.drewN|apply Kept.drew|refine Kept.setCell ?_ (.inr GW252.out) _|refine Kept.setCell ?_ (.inr GW253.out) _)|exact HK.out)).1):w.heap.size <= gb254));replace HK:=ak (Kept.below (S:=(fun k_=>P0_0_ k_ \/ P0_1_ k_ \/ P0_2_ k_)) (by repeat (first|(with_reducible first|exact HK.out|apply Kept.alloc|apply Kept.drewN|apply Kept.drew|refine Kept.setCell ?_ (.inr GW252.out) _|refine Kept.setCell ?_ (.inr GW253.out) _)|exact HK.out)) hb);have GE254:=ak ((by rw [hg];exact (below_size (lb2_ HB.out GE252.out GE253.out)):w0.heap.size <= gb254));replace HB:=ak (below_step (lb2_ HB.out GE252.out GE253.out) hb);have NB252_254:=ak (nl_ hg BK252.out);have NB254_252:=ak (ng_ hg BK252.out);replace BK252:=ak (bb_ (bk_ BK252.out) hb);have NB253_254:=ak (nl_ hg BK253.out);have NB254_253:=ak (ng_ hg BK253.out);replace BK253:=ak (bb_ (bk_ BK253.out) hb);clear hb hbox hg;have hnb37:=NB253_252.out;have hnc37:=NB252_253.out;have hnb38:=NB253_254.out;have hnc38:=NB254_253.out;obtain ⟨hcz39_0,hcz39_1,hcz39_2,hcz39_3,hcz39_4⟩:=cz5_ BK253.out;obtain ⟨hfz39_0,hfz39_1,hfz39_2,hfz39_3,hfz39_4⟩:=fz5_ BK253.out;have hnb40:=NB252_254.out;have hnc40:=NB254_252.out;obtain ⟨hcz41_0,hcz41_1,hcz41_2,hcz41_3,hcz41_4⟩:=cz5_ BK252.out;obtain ⟨hfz41_0,hfz41_1,hfz41_2,hfz41_3,hfz41_4⟩:=fz5_ BK252.out)|((with_reducible refine gate_store (t:=3) (p:=29) rfl ?_);refine store_event (t:=3) (p:=29) (v:=?vo_w42) (w1:=(w36.setCell ⟨gb252,3,none⟩ (.int .i64 ji27))) ?hg ?ho ?hn ?hr ?_;(case ho=>rfl);(case hg=>rfl);(case hn=>rfl);(case hr=>first|(go_simp;done)|(go_simp;rfl));intro w42 hw;have n0_:Aside0 (Kd.R k37 37 w42 w0.heap.size (fun k_=>((P0_0_ k_ \/ P0_1_ k_ \/ P0_2_ k_) \/ w.heap.size <= k_) /\ k_ ≠ gb253) (.slice Ao31 l0_0.length co31) l0_0):=⟨(by rw [hw];exact (by (with_reducible repeat (first|apply Kd.R_alloc|apply Kd.R_drewN|apply Kd.R_drew));exact Kd.R_mono (Kd.R_far (p:=⟨gb252,3,none⟩) (Kd.R_types HO0_0.out BK252.out (by decide)) (fun _ hk=>hk.2) (.int .i64 ji27)) (fun _ hk=>⟨hk.1.1,hk.1.2⟩)))⟩;have n1_:Aside0 (Kd.R Kd.bool 4 w42 w0.heap.size (fun k_=>((P0_0_ k_ \/ P0_1_ k_ \/ P0_2_ k_) \/ w.heap.size <= k_) /\ some k_ ≠ (.slice Ao33 l0_2.length co33:Value).ownBlock) (.slice Ao32 l0_1.length co32) l0_1):=⟨(by rw [hw];exact (by (with_reducible repeat (first|apply Kd.R_alloc|apply Kd.R_drewN|apply Kd.R_drew));exact Kd.R_mono (Kd.R_far (p:=⟨gb252,3,none⟩) (Kd.R_types HO0_1.out BK252.out (by decide)) (fun _ hk=>hk.2) (.int .i64 ji27)) (fun _ hk=>⟨hk.1.1,hk.1.2⟩)))⟩;have n2_:Aside0 (Kd.R Kd.bool 4 w42 w0.heap.size (fun k_=>((P0_0_ k_ \/ P0_1_ k_ \/ P0_2_ k_) \/ w.heap.size <= k_) /\ some k_ ≠ (.slice Ao32 l0_1.length co32:Value).ownBlock) (.slice Ao33 l0_2.length co33) l0_2):=⟨(by rw [hw];exact (by (with_reducible repeat (first|apply Kd.R_alloc|apply Kd.R_drewN|apply Kd.R_drew));exact Kd.R_mono (Kd.R_far (p:=⟨gb252,3,none⟩) (Kd.R_types HO0_2.out BK252.out (by decide)) (fun _ hk=>hk.2) (.int .i64 ji27)) (fun _ hk=>⟨hk.1.1,hk.1.2⟩)))⟩;have n3_:Aside0 (w42.heap[gb252]? = some (.cells #[.slice Ao31 l0_0.length co31,.slice Ao32 l0_1.length co32,.slice Ao33 l0_2.length co33,.int .i64 ji27,.int .i64 a0_4] 30 (0,0))):=⟨(by rw [hw];exact (by (with_reducible repeat (first|refine blk_drewN ?_ _|refine blk_drew ?_|refine blk_alloc ?_ _));refine blk_put (cs:=#[.slice Ao31 l0_0.length co31,.slice Ao32 l0_1.length co32,.slice Ao33 l0_2.length co33,.int .i64 a0_3,.int .i64 a0_4]) ?_ 3 _ rfl;(with_reducible repeat (first|refine blk_drewN ?_ _|refine blk_drew ?_|refine blk_alloc ?_ _));exact BK252.out))⟩;have n4_:Aside0 (w42.heap[gb253]? = some (.cells #[.int .i64 a1_0,.int .i64 a1_1,.int .i64 a1_2,.int .i64 a1_3,.int .i64 a1_4] 37 (0,0))):=⟨(by rw [hw];exact (by exact (blk_far BK253.out NB253_252.out _)))⟩;have n5_:Aside0 (w42.heap[gb254]? = some (.cells #[.slice none 0 0,.slice none 0 0,.slice none 0 0,.int .i64 0,.int .i64 0] 30 (0,0))):=⟨(by rw [hw];exact (by exact (blk_far BK254.out NB254_252.out _)))⟩;have n6_:Aside0 (Kept w w42 (fun k_=>P0_0_ k_ \/ P0_1_ k_ \/ P0_2_ k_)):=⟨(by rw [hw];exact (by repeat (first|(with_reducible first|exact HK.out|apply Kept.alloc|apply Kept.drewN|apply Kept.drew|refine Kept.setCell ?_ (.inr GW252.out) _|refine Kept.setCell ?_ (.inr GW253.out) _|refine Kept.setCell ?_ (.inr GW254.out) _)|exact HK.out)))⟩;have n7_:Aside0 (Below w0.heap.size w0 w42):=⟨(by rw [hw];exact (lb3_ HB.out GE252.out GE253.out GE254.out))⟩;clear hw;clear HO0_0;clear HO0_1;clear HO0_2;clear BK252;clear BK253;clear BK254;clear HK;clear HB;have HO0_0:=n0_;have HO0_1:=n1_;have HO0_2:=n2_;have BK252:=n3_;have BK253:=n4_;have BK254:=n5_;have HK:=n6_;have HB:=n7_;clear n0_ n1_ n2_ n3_ n4_ n5_ n6_ n7_;obtain ⟨hcz43_0,hcz43_1,hcz43_2,hcz43_3,hcz43_4⟩:=cz5_ BK252.out;obtain ⟨hfz43_0,hfz43_1,hfz43_2,hfz43_3,hfz43_4⟩:=fz5_ BK252.out;have p30:0 <= ((ji27):Int):=dt_;have q30:((ji27):Int) < ((l0_1.length:Int):Int):=dt_;obtain ⟨go30,co30,eo30,gb30,gl30,cl30,HG30⟩:=Kd.R_form HO0_1.out (by omega);(first|cases eo30|(injection eo30 with ea_ en_ ec_;(first|subst ea_|(injection ea_ with ea_;subst ea_));subst ec_;clear en_));have GB30:=ak gb30;have GG30:=ak HG30;clear gb30 gl30 HG30;have HMgo30:=ak (show ((P0_0_ go30 \/ P0_1_ go30 \/ P0_2_ go30) \/ w.heap.size <= go30) from (HO0_1.out.1 _ rfl).1);obtain ⟨hx30_0,hf30_0⟩:=Kd.R_celln false HO0_1.out ((ji27):Int) p30 q30;replace p30:=eq_true p30;replace q30:=eq_true q30;obtain ⟨hy44_,hz44_⟩:=Kd.R_celln false HO0_1.out ((ji27):Int) (dt_) (dt_);have HP44:=Kd.R_putg HO0_1.out ((ji27):Int) true)|((with_reducible refine gate_store (t:=4) (p:=34) rfl ?_);refine store_event (t:=4) (p:=34) (v:=?vo_w45) (w1:=(w42.setCell ⟨go30,((ji27):Int).toNat,none⟩ (.bool true))) ?hg ?ho ?hn ?hr ?_;(case ho=>rfl);(case hg=>rfl);(case hn=>rfl);(case hr=>first|(go_simp;done)|(go_simp;rfl));intro w45 hw;have hg:w42.grownBy w45 (some go30):=(by rw [hw];exact HP44.2);have hp_:Kd.R Kd.bool 4 w45 w0.heap.size (fun k_=>((P0_0_ k_ \/ P0_1_ k_ \/ P0_2_ k_) \/ w.heap.size <= k_) /\ some k_ ≠ (.slice Ao33 l0_2.length co33:Value).ownBlock) (.slice (some ⟨go30,0,none⟩) l0_1.length co32) y256:=(by rw [hw,Ny256.out];exact HP44.1);clear HP44;replace HO0_0:=ak (Kd.R_over' (v:=(.slice (some ⟨go30,0,none⟩) l0_1.length co32)) (kr_ HO0_0.out) (Kd.R_typed HO0_1.out) (by decide) hg);replace HO0_2:=ak (Kd.R_after (v:=(.slice (some ⟨go30,0,none⟩) l0_1.length co32)) (v1:=(.slice (some ⟨go30,0,none⟩) l0_1.length co32)) (ok:=(fun k_=>((P0_0_ k_ \/ P0_1_ k_ \/ P0_2_ k_) \/ w.heap.size <= k_))) (kr_ HO0_2.out) hg (.inl rfl));replace BK252:=ak (blk_grown (g:=gb252) (o:=.cells #[.slice Ao31 l0_0.length co31,.slice (some ⟨go30,0,none⟩) l0_1.length co32,.slice Ao33 l0_2.length co33,.int .i64 ji27,.int .i64 a0_4] 30 (0,0)) (bk_ BK252.out) hg (Kd.R_ne HO0_1.out BK252.out (by decide)));replace BK253:=ak (blk_grown (g:=gb253) (o:=.cells #[.int .i64 a1_0,.int .i64 a1_1,.int .i64 a1_2,.int .i64 a1_3,.int .i64 a1_4] 37 (0,0)) (bk_ BK253.out) hg (Kd.R_ne HO0_1.out BK253.out (by decide)));replace BK254:=ak (blk_grown (g:=gb254) (o:=.cells #[.slice none 0 0,.slice none 0 0,.slice none 0 0,.int .i64 0,.int .i64 0] 30 (0,0)) (bk_ BK254.out) hg (Kd.R_ne HO0_1.out BK254.out (by decide)));replace HB:=ak ((by rw [hw];exact below_set (HB.out) GB30.out:Below w0.heap.size w0 w45));replace HK:=ak (Kept.of_grown (S:=(fun k_=>P0_0_ k_ \/ P0_1_ k_ \/ P0_2_ k_)) hg (by repeat (first|(with_reducible first|exact HK.out|apply Kept.alloc|apply Kept.drewN|apply Kept.drew|refine Kept.setCell ?_ (.inr GW252.out) _|refine Kept.setCell ?_ (.inr GW253.out) _|refine Kept.setCell ?_ (.inr GW254.out) _)|exact HK.out)) (fun k_ e_=>(HO0_1.out.1 k_ e_).1));replace HO0_1:=ak (hp_);clear hg hw hp_;obtain ⟨hcz46_0,hcz46_1,hcz46_2,hcz46_3,hcz46_4⟩:=cz5_ BK252.out;obtain ⟨hfz46_0,hfz46_1,hfz46_2,hfz46_3,hfz46_4⟩:=fz5_ BK252.out;obtain ⟨hcz47_0,hcz47_1,hcz47_2,hcz47_3,hcz47_4⟩:=cz5_ BK254.out;obtain ⟨hfz47_0,hfz47_1,hfz47_2,hfz47_3,hfz47_4⟩:=fz5_ BK254.out))
     refine bodyPost_ret (results_ct rfl _ _ gb254 30 #[.slice Ao31 l0_0.length co31,.slice (some ⟨go30,0,none⟩) l0_1.length co32,.slice Ao33 l0_2.length co33,.int .i64 ji27,.int .i64 (wrap64 (a0_4 - a2))] (0,0) _ rfl (by (with_reducible repeat (first|refine blk_drewN ?_ _|refine blk_drew ?_|refine blk_alloc ?_ _));refine blk_put (cs:=#[.slice Ao31 l0_0.length co31,.slice (some ⟨go30,0,none⟩) l0_1.length co32,.slice Ao33 l0_2.length co33,.int .i64 ji27,.int .i64 0]) ?_ 4 _ rfl;(with_reducible repeat (first|refine blk_drewN ?_ _|refine blk_drew ?_|refine blk_alloc ?_ _));refine blk_put (cs:=#[.slice Ao31 l0_0.length co31,.slice (some ⟨go30,0,none⟩) l0_1.length co32,.slice Ao33 l0_2.length co33,.int .i64 0,.int .i64 0]) ?_ 3 _ rfl;(with_reducible repeat (first|refine blk_drewN ?_ _|refine blk_drew ?_|refine blk_alloc ?_ _));refine blk_put (cs:=#[.slice Ao31 l0_0.length co31,.slice (some ⟨go30,0,none⟩) l0_1.length co32,.slice none 0 0,.int .i64 0,.int .i64 0]) ?_ 2 _ rfl;(with_reducible repeat (first|refine blk_drewN ?_ _|refine blk_drew ?_|refine blk_alloc ?_ _));refine blk_put (cs:=#[.slice Ao31 l0_0.length co31,.slice none 0 0,.slice none 0 0,.int .i64 0,.int .i64 0]) ?_ 1 _ rfl;(with_reducible repeat (first|refine blk_drewN ?_ _|refine blk_drew ?_|refine blk_alloc ?_ _));refine blk_put (cs:=#[.slice none 0 0,.slice none 0 0,.slice none 0 0,.int .i64 0,.int .i64 0]) ?_ 0 _ rfl;(with_reducible repeat (first|refine blk_drewN ?_ _|refine blk_drew ?_|refine blk_alloc ?_ _));refine blk_far ?_ NB254_252.out _;(with_reducible repeat (first|refine blk_drewN ?_ _|refine blk_drew ?_|refine blk_alloc ?_ _));exact BK254.out) Try.underlying30 rfl (by kernel_rfl)) rfl ?_
     exact ⟨_,_,_,by first|rfl|(simp [errW_none,errW_some] <;> rfl)|(simp only [<- hji27];first|rfl|(simp [errW_none,errW_some] <;> rfl))|(simp [*,errW_none,errW_some] <;> rfl),by (with_reducible repeat (first|apply Kd.R_alloc|apply Kd.R_drewN|apply Kd.R_drew));exact Kd.R_mono (Kd.R_far (p:=⟨gb254,4,none⟩) (Kd.R_far (p:=⟨gb254,3,none⟩) (Kd.R_far (p:=⟨gb254,2,none⟩) (Kd.R_far (p:=⟨gb254,1,none⟩) (Kd.R_far (p:=⟨gb254,0,none⟩) (Kd.R_far (p:=⟨gb252,4,none⟩) (Kd.R_types (Kd.R_types HO0_0.out BK252.out (by decide)) BK254.out (by decide)) (fun _ hk=>hk.1.2) (.int .i64 (wrap64 (a0_4 - a2)))) (fun _ hk=>hk.2) (.slice Ao31 l0_0.length co31)) (fun _ hk=>hk.2) (.slice (some ⟨go30,0,none⟩) l0_1.length co32)) (fun _ hk=>hk.2) (.slice Ao33 l0_2.length co33)) (fun _ hk=>hk.2) (.int .i64 ji27)) (fun _ hk=>hk.2) (.int .i64 (wrap64 (a0_4 - a2)))) (fun _ hk=>hk.1.1.1),by (with_reducible repeat (first|apply Kd.R_alloc|apply Kd.R_drewN|apply Kd.R_drew));exact Kd.R_mono (Kd.R_far (p:=⟨gb254,4,none⟩) (Kd.R_far (p:=⟨gb254,3,none⟩) (Kd.R_far (p:=⟨gb254,2,none⟩) (Kd.R_far (p:=⟨gb254,1,none⟩) (Kd.R_far (p:=⟨gb254,0,none⟩) (Kd.R_far (p:=⟨gb252,4,none⟩) (Kd.R_types (Kd.R_types HO0_1.out BK252.out (by decide)) BK254.out (by decide)) (fun _ hk=>hk.1.2) (.int .i64 (wrap64 (a0_4 - a2)))) (fun _ hk=>hk.2) (.slice Ao31 l0_0.length co31)) (fun _ hk=>hk.2) (.slice (some ⟨go30,0,none⟩) l0_1.length co32)) (fun _ hk=>hk.2) (.slice Ao33 l0_2.length co33)) (fun _ hk=>hk.2) (.int .i64 ji27)) (fun _ hk=>hk.2) (.int .i64 (wrap64 (a0_4 - a2)))) (fun _ hk=>⟨hk.1.1.1,hk.1.1.2⟩),by (with_reducible repeat (first|apply Kd.R_alloc|apply Kd.R_drewN|apply Kd.R_drew));exact Kd.R_mono (Kd.R_far (p:=⟨gb254,4,none⟩) (Kd.R_far (p:=⟨gb254,3,none⟩) (Kd.R_far (p:=⟨gb254,2,none⟩) (Kd.R_far (p:=⟨gb254,1,none⟩) (Kd.R_far (p:=⟨gb254,0,none⟩) (Kd.R_far (p:=⟨gb252,4,none⟩) (Kd.R_types (Kd.R_types HO0_2.out BK252.out (by decide)) BK254.out (by decide)) (fun _ hk=>hk.1.2) (.int .i64 (wrap64 (a0_4 - a2)))) (fun _ hk=>hk.2) (.slice Ao31 l0_0.length co31)) (fun _ hk=>hk.2) (.slice (some ⟨go30,0,none⟩) l0_1.length co32)) (fun _ hk=>hk.2) (.slice Ao33 l0_2.length co33)) (fun _ hk=>hk.2) (.int .i64 ji27)) (fun _ hk=>hk.2) (.int .i64 (wrap64 (a0_4 - a2)))) (fun _ hk=>⟨hk.1.1.1,hk.1.1.2⟩),lb3_ HB.out GE252.out GE253.out GE254.out,by repeat (first|(with_reducible first|exact HK.out|apply Kept.alloc|apply Kept.drewN|apply Kept.drew|refine Kept.setCell ?_ (.inr GW252.out) _|refine Kept.setCell ?_ (.inr GW253.out) _|refine Kept.setCell ?_ (.inr GW254.out) _)|exact HK.out)⟩
    .
     rw [if_neg c29] at H
     exact absurd H (by simp)
   .
    rw [if_neg c28] at H
    exact absurd H (by simp)
  .
   rw [if_neg c26] at H
   have c26b0:(a1_1 == a0_3) = false:=beq_eq_false_iff_ne.mpr c26
   have c26b1:(a1_1 != a0_3) = true:=bne_iff_ne.mpr c26
   simp only [Option.some.injEq,Prod.mk.injEq] at H
   obtain ⟨rfl,rfl,rfl,rfl,rfl,rfl⟩:=H
   obtain ⟨Ao48,co48,eo48⟩:=Kd.R_slice HO0_0.out
   subst eo48
   obtain ⟨Ao49,co49,eo49⟩:=Kd.R_slice HO0_1.out
   subst eo49
   obtain ⟨Ao50,co50,eo50⟩:=Kd.R_slice HO0_2.out
   subst eo50
   go_enter Try.func107,Try.ntmps107
   go_wp2_with (first|((with_reducible refine gate_dst (N:=3) rfl ?_);refine box_event ?hg (N:=3) ?hd (cs:=#[.slice Ao48 l0_0.length co48,.slice Ao49 l0_1.length co49,.slice Ao50 l0_2.length co50,.int .i64 a0_3,.int .i64 a0_4]) (t:=30) ?hr ?_;(case hd=>rfl);(case hg=>rfl);(case hr=>first|(go_simp;done)|(go_simp;rfl));intro gb252 hg w51 hbox hb;replace HO0_0:=ak (Kd.R_below (kr_ HO0_0.out) hb);replace HO0_1:=ak (Kd.R_below (kr_ HO0_1.out) hb);replace HO0_2:=ak (Kd.R_below (kr_ HO0_2.out) hb);have BK252:=ak (hbox);have GW252:=ak ((by rw [hg];exact (by first|exact HK.out.1|exact (show Kept w _ (fun k_=>P0_0_ k_ \/ P0_1_ k_ \/ P0_2_ k_) from kt_ HK.out).1):w.heap.size <= gb252));replace HK:=ak (Kept.below (S:=(fun k_=>P0_0_ k_ \/ P0_1_ k_ \/ P0_2_ k_)) (kt_ HK.out) hb);have GE252:=ak ((by rw [hg];exact (below_size (lb0_ HB.out)):w0.heap.size <= gb252));replace HB:=ak (below_step (lb0_ HB.out) hb);clear hb hbox hg)|((with_reducible refine gate_dst (N:=4) rfl ?_);refine box_event ?hg (N:=4) ?hd (cs:=#[.int .i64 a1_0,.int .i64 a1_1,.int .i64 a1_2,.int .i64 a1_3,.int .i64 a1_4]) (t:=37) ?hr ?_;(case hd=>rfl);(case hg=>rfl);(case hr=>first|(go_simp;done)|(go_simp;rfl));intro gb253 hg w52 hbox hb;replace HO0_0:=ak (Kd.R_below (Kd.R_elderB (kr_ HO0_0.out) gb253 (Nat.le_of_eq hg.symm)) hb);replace HO0_1:=ak (Kd.R_below (kr_ HO0_1.out) hb);replace HO0_2:=ak (Kd.R_below (kr_ HO0_2.out) hb);have BK253:=ak (hbox);have GW253:=ak ((by rw [hg];exact (by first|exact HK.out.1|exact (show Kept w _ (fun k_=>P0_0_ k_ \/ P0_1_ k_ \/ P0_2_ k_) from by repeat (first|(with_reducible first|exact HK.out|apply Kept.alloc|apply Kept.drewN|apply Kept.drew|refine Kept.setCell ?_ (.inr GW252.out) _)|exact HK.out)).1):w.heap.size <= gb253));replace HK:=ak (Kept.below (S:=(fun k_=>P0_0_ k_ \/ P0_1_ k_ \/ P0_2_ k_)) (by repeat (first|(with_reducible first|exact HK.out|apply Kept.alloc|apply Kept.drewN|apply Kept.drew|refine Kept.setCell ?_ (.inr GW252.out) _)|exact HK.out)) hb);have GE253:=ak ((by rw [hg];exact (below_size (lb1_ HB.out GE252.out)):w0.heap.size <= gb253));replace HB:=ak (below_step (lb1_ HB.out GE252.out) hb);have NB252_253:=ak (nl_ hg BK252.out);have NB253_252:=ak (ng_ hg BK252.out);replace BK252:=ak (bb_ (bk_ BK252.out) hb);clear hb hbox hg)|((with_reducible refine gate_dst (N:=6) rfl ?_);refine box_event ?hg (N:=6) ?hd (cs:=#[.slice none 0 0,.slice none 0 0,.slice none 0 0,.int .i64 0,.int .i64 0]) (t:=30) ?hr ?_;(case hd=>rfl);(case hg=>rfl);(case hr=>first|(go_simp;done)|(go_simp;rfl));intro gb254 hg w53 hbox hb;replace HO0_0:=ak (Kd.R_below (kr_ HO0_0.out) hb);replace HO0_1:=ak (Kd.R_below (kr_ HO0_1.out) hb);replace HO0_2:=ak (Kd.R_below (kr_ HO0_2.out) hb);have BK254:=ak (hbox);have GW254:=ak ((by rw [hg];exact (by first|exact HK.out.1|exact (show Kept w _ (fun k_=>P0_0_ k_ \/ P0_1_ k_ \/ P0_2_ k_) from by repeat (first|(with_reducible first|exact HK.out|apply Kept.alloc|apply Kept.drewN|apply Kept.drew|refine Kept.setCell ?_ (.inr GW252.out) _|refine Kept.setCell ?_ (.inr GW253.out) _)|exact HK.out)).1):w.heap.size <= gb254));replace HK:=ak (Kept.below (S:=(fun k_=>P0_0_ k_ \/ P0_1_ k_ \/ P0_2_ k_)) (by repeat (first|(with_reducible first|exact HK.out|apply Kept.alloc|apply Kept.drewN|apply Kept.drew|refine Kept.setCell ?_ (.inr GW252.out) _|refine Kept.setCell ?_ (.inr GW253.out) _)|exact HK.out)) hb);have GE254:=ak ((by rw [hg];exact (below_size (lb2_ HB.out GE252.out GE253.out)):w0.heap.size <= gb254));replace HB:=ak (below_step (lb2_ HB.out GE252.out GE253.out) hb);have NB252_254:=ak (nl_ hg BK252.out);have NB254_252:=ak (ng_ hg BK252.out);replace BK252:=ak (bb_ (bk_ BK252.out) hb);have NB253_254:=ak (nl_ hg BK253.out);have NB254_253:=ak (ng_ hg BK253.out);replace BK253:=ak (bb_ (bk_ BK253.out) hb);clear hb hbox hg;have hnb54:=NB253_252.out;have hnc54:=NB252_253.out;have hnb55:=NB253_254.out;have hnc55:=NB254_253.out;obtain ⟨hcz56_0,hcz56_1,hcz56_2,hcz56_3,hcz56_4⟩:=cz5_ BK253.out;obtain ⟨hfz56_0,hfz56_1,hfz56_2,hfz56_3,hfz56_4⟩:=fz5_ BK253.out;have hnb57:=NB252_254.out;have hnc57:=NB254_252.out;obtain ⟨hcz58_0,hcz58_1,hcz58_2,hcz58_3,hcz58_4⟩:=cz5_ BK252.out;obtain ⟨hfz58_0,hfz58_1,hfz58_2,hfz58_3,hfz58_4⟩:=fz5_ BK252.out;obtain ⟨hcz59_0,hcz59_1,hcz59_2,hcz59_3,hcz59_4⟩:=cz5_ BK254.out;obtain ⟨hfz59_0,hfz59_1,hfz59_2,hfz59_3,hfz59_4⟩:=fz5_ BK254.out))
   refine bodyPost_ret (results_ct rfl _ _ gb254 30 #[.slice Ao48 l0_0.length co48,.slice Ao49 l0_1.length co49,.slice Ao50 l0_2.length co50,.int .i64 a0_3,.int .i64 a0_4] (0,0) _ rfl (by (with_reducible repeat (first|refine blk_drewN ?_ _|refine blk_drew ?_|refine blk_alloc ?_ _));refine blk_put (cs:=#[.slice Ao48 l0_0.length co48,.slice Ao49 l0_1.length co49,.slice Ao50 l0_2.length co50,.int .i64 a0_3,.int .i64 0]) ?_ 4 _ rfl;(with_reducible repeat (first|refine blk_drewN ?_ _|refine blk_drew ?_|refine blk_alloc ?_ _));refine blk_put (cs:=#[.slice Ao48 l0_0.length co48,.slice Ao49 l0_1.length co49,.slice Ao50 l0_2.length co50,.int .i64 0,.int .i64 0]) ?_ 3 _ rfl;(with_reducible repeat (first|refine blk_drewN ?_ _|refine blk_drew ?_|refine blk_alloc ?_ _));refine blk_put (cs:=#[.slice Ao48 l0_0.length co48,.slice Ao49 l0_1.length co49,.slice none 0 0,.int .i64 0,.int .i64 0]) ?_ 2 _ rfl;(with_reducible repeat (first|refine blk_drewN ?_ _|refine blk_drew ?_|refine blk_alloc ?_ _));refine blk_put (cs:=#[.slice Ao48 l0_0.length co48,.slice none 0 0,.slice none 0 0,.int .i64 0,.int .i64 0]) ?_ 1 _ rfl;(with_reducible repeat (first|refine blk_drewN ?_ _|refine blk_drew ?_|refine blk_alloc ?_ _));refine blk_put (cs:=#[.slice none 0 0,.slice none 0 0,.slice none 0 0,.int .i64 0,.int .i64 0]) ?_ 0 _ rfl;(with_reducible repeat (first|refine blk_drewN ?_ _|refine blk_drew ?_|refine blk_alloc ?_ _));exact BK254.out) Try.underlying30 rfl (by kernel_rfl)) rfl ?_
   exact ⟨_,_,_,rr_,by (with_reducible repeat (first|apply Kd.R_alloc|apply Kd.R_drewN|apply Kd.R_drew));exact Kd.R_mono (r5_ HO0_0.out BK254.out (by decide) _ _ _ _ _) (fun _ hk=>hk.1),by (with_reducible repeat (first|apply Kd.R_alloc|apply Kd.R_drewN|apply Kd.R_drew));exact Kd.R_mono (Kd.R_far (p:=⟨gb254,4,none⟩) (Kd.R_far (p:=⟨gb254,3,none⟩) (Kd.R_far (p:=⟨gb254,2,none⟩) (Kd.R_far (p:=⟨gb254,1,none⟩) (Kd.R_far (p:=⟨gb254,0,none⟩) (Kd.R_types HO0_1.out BK254.out (by decide)) (fun _ hk=>hk.2) (.slice Ao48 l0_0.length co48)) (fun _ hk=>hk.2) (.slice Ao49 l0_1.length co49)) (fun _ hk=>hk.2) (.slice Ao50 l0_2.length co50)) (fun _ hk=>hk.2) (.int .i64 a0_3)) (fun _ hk=>hk.2) (.int .i64 a0_4)) (fun _ hk=>⟨hk.1.1,hk.1.2⟩),by (with_reducible repeat (first|apply Kd.R_alloc|apply Kd.R_drewN|apply Kd.R_drew));exact Kd.R_mono (Kd.R_far (p:=⟨gb254,4,none⟩) (Kd.R_far (p:=⟨gb254,3,none⟩) (Kd.R_far (p:=⟨gb254,2,none⟩) (Kd.R_far (p:=⟨gb254,1,none⟩) (Kd.R_far (p:=⟨gb254,0,none⟩) (Kd.R_types HO0_2.out BK254.out (by decide)) (fun _ hk=>hk.2) (.slice Ao48 l0_0.length co48)) (fun _ hk=>hk.2) (.slice Ao49 l0_1.length co49)) (fun _ hk=>hk.2) (.slice Ao50 l0_2.length co50)) (fun _ hk=>hk.2) (.int .i64 a0_3)) (fun _ hk=>hk.2) (.int .i64 a0_4)) (fun _ hk=>⟨hk.1.1,hk.1.2⟩),lb3_ HB.out GE252.out GE253.out GE254.out,by repeat (first|(with_reducible first|exact HK.out|apply Kept.alloc|apply Kept.drewN|apply Kept.drew|refine Kept.setCell ?_ (.inr GW252.out) _|refine Kept.setCell ?_ (.inr GW253.out) _|refine Kept.setCell ?_ (.inr GW254.out) _)|exact HK.out)⟩
structure MkS (w:World) (g2 g3 g4 g6:Nat) (ar aw:Array Value) (W:World) (u0 u1 u2:Value) (L:List S37) (V D:List Bool) (p t:Int):Prop where
 ex:ExS W w.heap.size g6 u0 u1 u2 L V D p t
 k2:W.heap[g2]? = some (.cells ar 30 (0,0))
 k3:W.heap[g3]? = some (.cells aw 39 (0,0))
 k4:W.heap[g4]? = some (.cells #[.slice none 0 0,.slice none 0 0,.slice none 0 0,.int .i64 0,.int .i64 0] 30 (0,0))
 hB:Below w.heap.size w W
 n2:g2 ≠ g6
 n3:g3 ≠ g6
 n4:g4 ≠ g6
section
variable {w W W':World} {g2 g3 g4 g6:Nat} {ar aw:Array Value} {u0 u1 u2:Value} {L:List S37} {V D:List Bool} {p t:Int}
theorem MkS.below (h:MkS w g2 g3 g4 g6 ar aw W u0 u1 u2 L V D p t) (hb:Below W.heap.size W W'):MkS w g2 g3 g4 g6 ar aw W' u0 u1 u2 L V D p t:=
 ⟨h.ex.below hb,bb_ h.k2 hb,bb_ h.k3 hb,bb_ h.k4 hb,below_step h.hB hb,h.n2,h.n3,h.n4⟩
theorem MkS.light (h:MkS w g2 g3 g4 g6 ar aw W u0 u1 u2 L V D p t) (t':Int):MkS w g2 g3 g4 g6 ar aw (W.setCell ⟨g6,4,none⟩ (.int .i64 t')) u0 u1 u2 L V D p t':=
 ⟨h.ex.put4 t',blk_far (p:=⟨g6,4,none⟩) h.k2 h.n2 _,blk_far (p:=⟨g6,4,none⟩) h.k3 h.n3 _,blk_far (p:=⟨g6,4,none⟩) h.k4 h.n4 _,below_set (j:=4) h.hB h.ex.gb,h.n2,h.n3,h.n4⟩
theorem MkS.lead {gv cap:Nat} (h:MkS w g2 g3 g4 g6 ar aw W u0 u1 (.slice (some ⟨gv,0,none⟩) D.length cap) L V D p t) (i:Int) (x:Bool):MkS w g2 g3 g4 g6 ar aw (W.setCell ⟨gv,i.toNat,none⟩ (.bool x)) u0 u1 (.slice (some ⟨gv,0,none⟩) D.length cap) L V (D.set i.toNat x) p t:=by
 have hty:∀ {g t':Nat} {cs:Array Value},W.heap[g]? = some (.cells cs t' (0,0)) -> 4 ≠ t' -> g ≠ gv:=fun {g t' cs} hb ht e=>by
  obtain ⟨q,hx⟩:=Kd.R_typed h.ex.rD gv rfl
  rw [<- e,hb] at hx
  injection hx with hx
  injection hx with _ hx
  exact ht hx.symm
 exact ⟨h.ex.putD i x,blk_far (p:=⟨gv,i.toNat,none⟩) h.k2 (hty h.k2 (by decide)) _,blk_far (p:=⟨gv,i.toNat,none⟩) h.k3 (hty h.k3 (by decide)) _,blk_far (p:=⟨gv,i.toNat,none⟩) h.k4 (hty h.k4 (by decide)) _,below_set (j:=i.toNat) h.hB ((Kd.R_bound h.ex.rD).1 gv rfl).2.1,h.n2,h.n3,h.n4⟩
theorem MkS.app (h:MkS w g2 g3 g4 g6 ar aw W u0 u1 u2 L V D p t) {z:Value} {L':List S37} (hB:Below w.heap.size w W') (hr:Kd.R k37 37 W' w.heap.size (fun _=>True) z L') (hg:W.grownBy W' u0.ownBlock) :
  W'.heap[g6]? = some (.cells #[u0,u1,u2,.int .i64 p,.int .i64 t] 30 (0,0)) /\ MkS w g2 g3 g4 g6 ar aw (W'.setCell ⟨g6,0,none⟩ z) z u1 u2 L' V D p t:=by
 have q:=blk_ap h.ex.rL h.ex.blk (by decide) hg
 have f1:∀ {α:Type} {d:Kd α} {e:Nat} {ok:Nat -> Prop} {v:Value} {xs:List α},d.R e W' w.heap.size ok v xs -> (∀ x,x ∈ e :: d.E -> x ≠ 30) -> d.R e (W'.setCell ⟨g6,0,none⟩ z) w.heap.size ok v xs:=fun hr ht=>Kd.R_mono (Kd.R_far (p:=⟨g6,0,none⟩) (Kd.R_types hr q ht) (fun _ hk=>hk.2) z) (fun _ hk=>hk.1)
 exact ⟨q,⟨blk_put q 0 _ rfl,h.ex.gb,f1 hr (by decide),f1 (Kd.R_ap h.ex.rV rfl (Ap.types h.ex.rV h.ex.rL (by decide)) hg) (by decide),f1 (Kd.R_ap h.ex.rD rfl (Ap.types h.ex.rD h.ex.rL (by decide)) hg) (by decide)⟩,blk_far (p:=⟨g6,0,none⟩) (blk_ap h.ex.rL h.k2 (by decide) hg) h.n2 _,blk_far (p:=⟨g6,0,none⟩) (blk_ap h.ex.rL h.k3 (by decide) hg) h.n3 _,blk_far (p:=⟨g6,0,none⟩) (blk_ap h.ex.rL h.k4 (by decide) hg) h.n4 _,below_set (j:=0) hB h.ex.gb,h.n2,h.n3,h.n4⟩
theorem goX_ (h:MkS w g2 g3 g4 g6 ar aw W u0 u1 u2 L V D p t) {a b tp c s m:Int} {r1:List S37} {r2 r3:List Bool} {r4 r5:Int} {r6:Bool} (hf:spec_l25Go.f L V D p t a b tp c s m = some (r1,r2,r3,r4,r5,r6)) :
  Calls Try.prog 107 #[.agg #[u0,u1,u2,.int .i64 p,.int .i64 t],.agg #[.int .i64 a,.int .i64 b,.int .i64 tp,.int .i64 c,.int .i64 s],.int .i64 m] W fun e W'=>∃ (A0 A1 A2:Option Addr) (c0 c1 c2:Nat),e = .returned (.tuple #[.agg #[.slice A0 r1.length c0,.slice A1 r2.length c1,.slice A2 r3.length c2,.int .i64 r4,.int .i64 r5],.bool r6]) /\ W'.heap[g6]? = some (.cells #[u0,u1,u2,.int .i64 p,.int .i64 t] 30 (0,0)) /\ MkS w g2 g3 g4 g6 ar aw (((((W'.setCell ⟨g6,0,none⟩ (.slice A0 r1.length c0)).setCell ⟨g6,1,none⟩ (.slice A1 r2.length c1)).setCell ⟨g6,2,none⟩ (.slice A2 r3.length c2)).setCell ⟨g6,3,none⟩ (.int .i64 r4)).setCell ⟨g6,4,none⟩ (.int .i64 r5)) (.slice A0 r1.length c0) (.slice A1 r2.length c1) (.slice A2 r3.length c2) r1 r2 r3 r4 r5:=by
 refine (spec_l25Go.calls (fun q=>some q = u0.ownBlock) u0 L (fun q=>some q = u1.ownBlock) u1 V (fun q=>some q = u2.ownBlock) u2 D p t a b tp c s m r1 r2 r3 r4 r5 r6 w W h.hB (Kd.R_tight rfl h.ex.rL) (Kd.R_tight rfl h.ex.rV) (fun q hq=>h.ex.rV.1 q hq.symm) (Kd.R_tight rfl h.ex.rD) (fun q hq=>h.ex.rD.1 q hq.symm) hf).mono ?_
 rintro e W' ⟨z0,z1,z2,rfl,h0,h1,h2,hb,hk⟩
 have far:∀ {g t':Nat} {cs:Array Value},W.heap[g]? = some (.cells cs t' (0,0)) -> 37 ≠ t' -> 4 ≠ t' -> W'.heap[g]? = some (.cells cs t' (0,0)):=fun {g t' cs} hb e1 e2=>by
  refine (hk.2 g (blk_lt hb) (fun hs=>?_)).trans hb
  have no:∀ {α:Type} {d:Kd α} {e:Nat} {ok:Nat -> Prop} {v:Value} {xs:List α},d.R e W w.heap.size ok v xs -> e ≠ t' -> some g ≠ v.ownBlock:=fun hr hne e=>by
   obtain ⟨q,hx⟩:=Kd.R_typed hr g e.symm
   rw [hb] at hx
   injection hx with hx
   injection hx with _ hx
   exact hne hx.symm
  exact hs.elim (no h.ex.rL e1) (fun hs=>hs.elim (no h.ex.rV e2) (no h.ex.rD e2))
 obtain ⟨A0,c0,rfl⟩:=Kd.R_slice h0
 obtain ⟨A1,c1,rfl⟩:=Kd.R_slice h1
 obtain ⟨A2,c2,rfl⟩:=Kd.R_slice h2
 have q:=far h.ex.blk (by decide) (by decide)
 have f5:∀ {g t':Nat} {cs:Array Value},W'.heap[g]? = some (.cells cs t' (0,0)) -> g ≠ g6 -> (((((W'.setCell ⟨g6,0,none⟩ (.slice A0 r1.length c0)).setCell ⟨g6,1,none⟩ (.slice A1 r2.length c1)).setCell ⟨g6,2,none⟩ (.slice A2 r3.length c2)).setCell ⟨g6,3,none⟩ (.int .i64 r4)).setCell ⟨g6,4,none⟩ (.int .i64 r5)).heap[g]? = some (.cells cs t' (0,0)):=fun hb hne=>blk_far (p:=⟨g6,4,none⟩) (blk_far (p:=⟨g6,3,none⟩) (blk_far (p:=⟨g6,2,none⟩) (blk_far (p:=⟨g6,1,none⟩) (blk_far (p:=⟨g6,0,none⟩) hb hne _) hne _) hne _) hne _) hne _
 exact ⟨A0,A1,A2,c0,c1,c2,rfl,q,⟨own_blk5 q _ _ _ _ _,h.ex.gb,Kd.R_mono (own_R5 h0 q (by decide) _ _ _ _ _) (fun _ _=>trivial),Kd.R_mono (own_R5 h1 q (by decide) _ _ _ _ _) (fun _ hk=>hk.2),Kd.R_mono (own_R5 h2 q (by decide) _ _ _ _ _) (fun _ hk=>hk.2)⟩,f5 (far h.k2 (by decide) (by decide)) h.n2,f5 (far h.k3 (by decide) (by decide)) h.n3,f5 (far h.k4 (by decide) (by decide)) h.n4,below_set (below_set (below_set (below_set (below_set hb h.ex.gb) h.ex.gb) h.ex.gb) h.ex.gb) h.ex.gb,h.n2,h.n3,h.n4⟩
end
def spec_l25Make.f (k:Nat) (l0_0:List (S37)) (l0_1:List Bool) (l0_2:List Bool) (a0_3:Int) (a0_4:Int) (a1_0:Int) (a1_1:Int) (a1_2:Int) (a1_3:Int) (a1_4:Int) (a1_5:Int) (a1_6:Int):Option ((List (S37)) × List Bool × List Bool × Int × Int × Bool):=(spec_l25Own.f l0_0 l0_1 l0_2 a0_3 a0_4).bind fun bt312=>(if a1_0 = 1 then (if 0 <= a1_1 then (if a1_1 < (l0_0.length:Int) then ((spec_l25Go.f bt312.1 bt312.2.1 bt312.2.2.1 bt312.2.2.2.1 bt312.2.2.2.2 ((rd_T37 l0_0 a1_1).f0) ((rd_T37 l0_0 a1_1).f1) ((rd_T37 l0_0 a1_1).f2) ((rd_T37 l0_0 a1_1).f3) ((rd_T37 l0_0 a1_1).f4) ((rd_T37 l0_0 a1_1).f2)).bind fun bt326=>(if bt326.2.2.2.2.2 = true then ((spec_l25Good.f k bt326.1 bt326.2.1 bt326.2.2.1 bt326.2.2.2.1 bt326.2.2.2.2.1).bind fun t338=>(some (bt326.1,bt326.2.1,bt326.2.2.1,bt326.2.2.2.1,bt326.2.2.2.2.1,t338))) else (some (bt326.1,bt326.2.1,bt326.2.2.1,bt326.2.2.2.1,bt326.2.2.2.2.1,false)))) else (none)) else (none)) else (if a1_0 = 2 then (if bt312.1.length < 3518437208883 then ((spec_l25Go.f (bt312.1 ++ [(⟨a1_2,a1_3,a1_4,a1_5,a1_6⟩:S37)]) bt312.2.1 bt312.2.2.1 bt312.2.2.2.1 bt312.2.2.2.2 a1_2 a1_3 a1_4 a1_5 a1_6 (wrap64 (3 * a1_4))).bind fun bt342=>(if a1_2 = a0_3 then ((spec_l25Good.f k bt342.1 bt342.2.1 bt342.2.2.1 bt342.2.2.2.1 bt342.2.2.2.2.1).bind fun t354=>(some (bt342.1,bt342.2.1,bt342.2.2.1,bt342.2.2.2.1,bt342.2.2.2.2.1,t354))) else (some (bt342.1,bt342.2.1,bt342.2.2.1,bt342.2.2.2.1,bt342.2.2.2.2.1,false)))) else (none)) else (if a1_0 = 3 then (if 0 <= a0_3 then (if a0_3 < (l0_2.length:Int) then (if a0_3 < (bt312.2.2.1.length:Int) then ((some (bt312.2.2.1.set (a0_3:Int).toNat true:List Bool)).bind fun y356=>(if rdOf false l0_2 a0_3 = true then (some (bt312.1,bt312.2.1,y356,bt312.2.2.2.1,bt312.2.2.2.2,false)) else ((spec_l25Good.f k bt312.1 bt312.2.1 y356 bt312.2.2.2.1 bt312.2.2.2.2).bind fun t357=>(some (bt312.1,bt312.2.1,y356,bt312.2.2.2.1,bt312.2.2.2.2,t357))))) else (none)) else (none)) else (none)) else (if a0_3 = 0 then ((spec_l25Good.f k bt312.1 bt312.2.1 bt312.2.2.1 bt312.2.2.2.1 (wrap64 (a0_4 + a1_1))).bind fun t358=>(some (bt312.1,bt312.2.1,bt312.2.2.1,bt312.2.2.2.1,wrap64 (a0_4 + a1_1),t358))) else (some (bt312.1,bt312.2.1,bt312.2.2.1,bt312.2.2.2.1,wrap64 (a0_4 + a1_1),false))))))
theorem spec_l25Make.mono:∀ a0 a1 a2 a3 a4 a5 a6 a7 a8 a9 a10 a11 k,LeO (spec_l25Make.f k a0 a1 a2 a3 a4 a5 a6 a7 a8 a9 a10 a11) (spec_l25Make.f (k + 1) a0 a1 a2 a3 a4 a5 a6 a7 a8 a9 a10 a11):=by
 intro a0 a1 a2 a3 a4 a5 a6 a7 a8 a9 a10 a11 k
 unfold spec_l25Make.f
 repeat' first
   | (with_reducible exact spec_l25Good.mono _ _ _ _ _ _)
   | (with_reducible exact LeO.refl _)
   | (with_reducible exact LeO.none _)
   | (with_reducible refine LeO.ite ?_ ?_)
   | (with_reducible refine LeO.bind ?_ (fun _=>?_))
   | exact spec_l25Good.mono _ _ _ _ _ _
   | exact LeO.none _
   | refine LeO.ite ?_ ?_
   | refine LeO.bind ?_ (fun _=>?_)
def mk7.T:Bool × List (List Nat × List Nat):=(true,[([],[]),([],[]),([1],[1]),([],[]),([3],[3]),([2,4],[2,4]),([5],[5]),([],[]),([7],[7]),([],[]),([9],[9]),([8,10],[8,10]),([11],[11]),([12],[12]),([0,6,13],[0,6,13]),([14],[14]),([15],[15]),([15],[15]),([16,14,0,1,2,3,4,5,6,7,8,9,10,11,12,13,14,15,16],[16]),([17,18,0,1,2,3,4,5,6,7,8,9,10,11,12,13,14,15,16,17,18],[17])])
def mk7.B:List Nat:=[0,0,2,0,8,30,62,0,128,0,512,1920,3968,8064,16383,32767,65535,65535,131071,524287]
theorem mk7.tab:rtab .any (opsOf Try.f78 7) = mk7.T:=by kernel_rfl
theorem mk7.bits:waitsOk mk7.T.2 mk7.B = true:=by kernel_rfl
abbrev mk7.mk0:Array Bool:=#[fF,fF,fF,fF,fF,fF,fF,fF,fF,fF,fF,fF,fF,fF,fF,fF,fF,fF,fF,fF]
abbrev mk7.mk1:Array Bool:=#[fF,tT,fF,fF,fF,fF,fF,fF,fF,fF,fF,fF,fF,fF,fF,fF,fF,fF,fF,fF]
abbrev mk7.mk2:Array Bool:=#[fF,tT,fF,tT,fF,fF,fF,fF,fF,fF,fF,fF,fF,fF,fF,fF,fF,fF,fF,fF]
abbrev mk7.mk3:Array Bool:=#[fF,tT,fF,tT,fF,fF,fF,tT,fF,fF,fF,fF,fF,fF,fF,fF,fF,fF,fF,fF]
abbrev mk7.mk4:Array Bool:=#[fF,tT,fF,tT,fF,fF,fF,tT,fF,tT,fF,fF,fF,fF,fF,fF,fF,fF,fF,fF]
abbrev mk7.mk5:Array Bool:=#[tT,tT,fF,tT,fF,fF,fF,tT,fF,tT,fF,fF,fF,fF,fF,fF,fF,fF,fF,fF]
abbrev mk7.mk6:Array Bool:=#[tT,tT,tT,tT,fF,fF,fF,tT,fF,tT,fF,fF,fF,fF,fF,fF,fF,fF,fF,fF]
abbrev mk7.mk7:Array Bool:=#[tT,tT,tT,tT,tT,fF,fF,tT,fF,tT,fF,fF,fF,fF,fF,fF,fF,fF,fF,fF]
abbrev mk7.mk8:Array Bool:=#[tT,tT,tT,tT,tT,tT,fF,tT,fF,tT,fF,fF,fF,fF,fF,fF,fF,fF,fF,fF]
abbrev mk7.mk9:Array Bool:=#[tT,tT,tT,tT,tT,tT,tT,tT,fF,tT,fF,fF,fF,fF,fF,fF,fF,fF,fF,fF]
abbrev mk7.mk10:Array Bool:=#[tT,tT,tT,tT,tT,tT,tT,tT,tT,tT,fF,fF,fF,fF,fF,fF,fF,fF,fF,fF]
abbrev mk7.mk11:Array Bool:=#[tT,tT,tT,tT,tT,tT,tT,tT,tT,tT,tT,fF,fF,fF,fF,fF,fF,fF,fF,fF]
abbrev mk7.mk12:Array Bool:=#[tT,tT,tT,tT,tT,tT,tT,tT,tT,tT,tT,tT,fF,fF,fF,fF,fF,fF,fF,fF]
abbrev mk7.mk13:Array Bool:=#[tT,tT,tT,tT,tT,tT,tT,tT,tT,tT,tT,tT,tT,fF,fF,fF,fF,fF,fF,fF]
abbrev mk7.mk14:Array Bool:=#[tT,tT,tT,tT,tT,tT,tT,tT,tT,tT,tT,tT,tT,tT,fF,fF,fF,fF,fF,fF]
abbrev mk7.mk15:Array Bool:=#[tT,tT,tT,tT,tT,tT,tT,tT,tT,tT,tT,tT,tT,tT,tT,fF,fF,fF,fF,fF]
abbrev mk7.mk16:Array Bool:=#[tT,tT,tT,tT,tT,tT,tT,tT,tT,tT,tT,tT,tT,tT,tT,tT,fF,fF,fF,fF]
abbrev mk7.mk17:Array Bool:=#[tT,tT,tT,tT,tT,tT,tT,tT,tT,tT,tT,tT,tT,tT,tT,tT,tT,fF,fF,fF]
abbrev mk7.mk18:Array Bool:=#[tT,tT,tT,tT,tT,tT,tT,tT,tT,tT,tT,tT,tT,tT,tT,tT,tT,tT,fF,fF]
abbrev mk7.mk19:Array Bool:=#[tT,tT,tT,tT,tT,tT,tT,tT,tT,tT,tT,tT,tT,tT,tT,tT,tT,tT,tT,fF]
abbrev mk7.mk20:Array Bool:=#[tT,tT,tT,tT,tT,tT,tT,tT,tT,tT,tT,tT,tT,tT,tT,tT,tT,tT,tT,tT]
def mk15.T:Bool × List (List Nat × List Nat):=(true,[([],[]),([],[]),([1],[1]),([2],[2]),([3,2,2],[2,3]),([2,4],[2,4]),([0,4,0],[0]),([5,6,0,1,2,3,4,5,6],[5])])
def mk15.B:List Nat:=[0,0,2,6,14,30,31,127]
theorem mk15.tab:rtab .any (opsOf Try.f78 15) = mk15.T:=by kernel_rfl
theorem mk15.bits:waitsOk mk15.T.2 mk15.B = true:=by kernel_rfl
abbrev mk15.mk0:Array Bool:=#[fF,fF,fF,fF,fF,fF,fF,fF]
abbrev mk15.mk1:Array Bool:=#[fF,tT,fF,fF,fF,fF,fF,fF]
abbrev mk15.mk2:Array Bool:=#[fF,tT,tT,fF,fF,fF,fF,fF]
abbrev mk15.mk3:Array Bool:=#[tT,tT,tT,fF,fF,fF,fF,fF]
abbrev mk15.mk4:Array Bool:=#[tT,tT,tT,tT,fF,fF,fF,fF]
abbrev mk15.mk5:Array Bool:=#[tT,tT,tT,tT,tT,fF,fF,fF]
abbrev mk15.mk6:Array Bool:=#[tT,tT,tT,tT,tT,tT,fF,fF]
abbrev mk15.mk7:Array Bool:=#[tT,tT,tT,tT,tT,tT,tT,fF]
abbrev mk15.mk8:Array Bool:=#[tT,tT,tT,tT,tT,tT,tT,tT]
set_option maxHeartbeats 64000000 in
set_option maxRecDepth 100000 in
theorem spec_l25Make.calls (k:Nat) (A0_0:Option Addr) (c0_0:Nat) (l0_0:List (S37)) (A0_1:Option Addr) (c0_1:Nat) (l0_1:List Bool) (A0_2:Option Addr) (c0_2:Nat) (l0_2:List Bool) (a0_3:Int) (a0_4:Int) (a1_0:Int) (a1_1:Int) (a1_2:Int) (a1_3:Int) (a1_4:Int) (a1_5:Int) (a1_6:Int) (r1:List (S37)) (r2:List Bool) (r3:List Bool) (r4:Int) (r5:Int) (r6:Bool) (w:World) (hr0_0:Kd.C k37 w A0_0 l0_0.length l0_0) (hc0_0:l0_0.length <= c0_0) (hr0_1:Kd.C Kd.bool w A0_1 l0_1.length l0_1) (hc0_1:l0_1.length <= c0_1) (hr0_2:Kd.C Kd.bool w A0_2 l0_2.length l0_2) (hc0_2:l0_2.length <= c0_2) (h:spec_l25Make.f k l0_0 l0_1 l0_2 a0_3 a0_4 a1_0 a1_1 a1_2 a1_3 a1_4 a1_5 a1_6 = some (r1,r2,r3,r4,r5,r6)) :
  Calls Try.prog 78 #[.agg #[.slice A0_0 l0_0.length c0_0,.slice A0_1 l0_1.length c0_1,.slice A0_2 l0_2.length c0_2,.int .i64 a0_3,.int .i64 a0_4],.agg #[.int .i64 a1_0,.int .i64 a1_1,.int .i64 a1_2,.int .i64 a1_3,.int .i64 a1_4,.int .i64 a1_5,.int .i64 a1_6]] w fun e w'=>∃ v0_ v1_ v2_:Value,e = .returned (.tuple #[.agg #[v0_,v1_,v2_,.int .i64 r4,.int .i64 r5],.bool r6]) /\ Kd.R k37 37 w' w.heap.size (fun _=>True) v0_ r1 /\ Kd.R Kd.bool 4 w' w.heap.size (fun k_=>some k_ ≠ (v2_:Value).ownBlock) v1_ r2 /\ Kd.R Kd.bool 4 w' w.heap.size (fun k_=>some k_ ≠ (v1_:Value).ownBlock) v2_ r3 /\ Below w.heap.size w w':=by
 have hu30:=Try.underlying30
 have hu39:=Try.underlying39
 have hu37:=Try.underlying37
 have hu28:=Try.underlying28
 have hu23:=Try.underlying23
 have HR0:=ak hr0_0
 have HC0:=ak hc0_0
 have HR1:=ak hr0_1
 have HC1:=ak hc0_1
 have HR2:=ak hr0_2
 have HC2:=ak hc0_2
 clear hr0_0 hc0_0 hr0_1 hc0_1 hr0_2 hc0_2
 have HB:=ak (Below.refl w.heap.size w)
 unfold spec_l25Make.f at h
 replace h:=Option.bind_eq_some_iff.mp h
 obtain ⟨⟨L,V,D,p,t⟩,a1,h⟩:=h
 have A1:=ak a1
 simp only at h
 clear a1
 have HF:=ak h
 clear h
 go_enter Try.func78,Try.ntmps78
 go_upto_block 0 with (first|((with_reducible refine gate_dst (N:=2) rfl ?_);refine box_event ?hg (N:=2) ?hd (cs:=#[.slice A0_0 l0_0.length c0_0,.slice A0_1 l0_1.length c0_1,.slice A0_2 l0_2.length c0_2,.int .i64 a0_3,.int .i64 a0_4]) (t:=30) ?hr ?_;(case hd=>rfl);(case hg=>rfl);(case hr=>first|(go_simp;done)|(go_simp;rfl));intro g2 hg w5 hbox hb;have BK2:=ak hbox;replace HB:=ak (below_step HB.out hb);clear hb hbox hg)|((with_reducible refine gate_dst (N:=3) rfl ?_);refine box_event ?hg (N:=3) ?hd (cs:=#[.int .i64 a1_0,.int .i64 a1_1,.int .i64 a1_2,.int .i64 a1_3,.int .i64 a1_4,.int .i64 a1_5,.int .i64 a1_6]) (t:=39) ?hr ?_;(case hd=>rfl);(case hg=>rfl);(case hr=>first|(go_simp;done)|(go_simp;rfl));intro g3 hg w6 hbox hb;have BK3:=ak hbox;replace BK2:=ak (bb_ BK2.out hb);replace HB:=ak (below_step HB.out hb);clear hb hbox hg)|((with_reducible refine gate_dst (N:=4) rfl ?_);refine box_event ?hg (N:=4) ?hd (cs:=#[.slice none 0 0,.slice none 0 0,.slice none 0 0,.int .i64 0,.int .i64 0]) (t:=30) ?hr ?_;(case hd=>rfl);(case hg=>rfl);(case hr=>first|(go_simp;done)|(go_simp;rfl));intro g4 hg w7 hbox hb;have BK4:=ak hbox;have G4:=ak (bz_ hg HB.out);have N24:=ak (nl_ hg BK2.out);replace BK2:=ak (bb_ BK2.out hb);replace BK3:=ak (bb_ BK3.out hb);replace HB:=ak (below_step HB.out hb);clear hb hbox hg;obtain ⟨hcz0,hcz1,hcz2,hcz3,hcz4⟩:=cz5_ BK2.out;obtain ⟨hfz0,hfz1,hfz2,hfz3,hfz4⟩:=fz5_ BK2.out)|((with_reducible refine gate_callee (f:=84) rfl ?_);refine ga_ (some 9) Try.func84 #[.agg #[.slice A0_0 l0_0.length c0_0,.slice A0_1 l0_1.length c0_1,.slice A0_2 l0_2.length c0_2,.int .i64 a0_3,.int .i64 a0_4]] ?_;refine (spec_l25Own.calls _ _ l0_0 _ _ l0_1 _ _ l0_2 a0_3 a0_4 L V D p t _ (Kd.C_below HR0.out HB.out) HC0.out (Kd.C_below HR1.out HB.out) HC1.out (Kd.C_below HR2.out HB.out) HC2.out A1.out).mono ?_;rintro e w8 ⟨z0,z1,z2,rfl,h0,h1,h2,hb⟩;refine ⟨_,rfl,?_⟩;obtain ⟨Ad,cd,ee⟩:=Kd.R_slice h0;subst ee;obtain ⟨Ae,ce,ee⟩:=Kd.R_slice h1;subst ee;obtain ⟨Af,cf,ee⟩:=Kd.R_slice h2;subst ee;have HO0:=ak (Kd.R_lower h0 (below_size HB.out));have HO1:=ak (Kd.R_lower h1 (below_size HB.out));have HO2:=ak (Kd.R_lower h2 (below_size HB.out));replace BK2:=ak (bb_ BK2.out hb);replace BK3:=ak (bb_ BK3.out hb);replace BK4:=ak (bb_ BK4.out hb);replace HB:=ak (below_step HB.out hb);clear hb h0 h1 h2;clear hcz0 hfz0 hcz1 hfz1 hcz2 hfz2 hcz3 hfz3 hcz4 hfz4)|((with_reducible refine gate_dst (N:=6) rfl ?_);refine box_event ?hg (N:=6) ?hd (cs:=#[.slice none 0 0,.slice none 0 0,.slice none 0 0,.int .i64 0,.int .i64 0]) (t:=30) ?hr ?_;(case hd=>rfl);(case hg=>rfl);(case hr=>first|(go_simp;done)|(go_simp;rfl));intro g6 hg w9 hbox hb;have BK6:=ak hbox;have G6:=ak (bz_ hg HB.out);have N2:=ak (nl_ hg BK2.out);have N3:=ak (nl_ hg BK3.out);have N4:=ak (nl_ hg BK4.out);replace BK2:=ak (bb_ BK2.out hb);replace BK3:=ak (bb_ BK3.out hb);replace BK4:=ak (bb_ BK4.out hb);replace HO0:=ak (Kd.R_below HO0.out hb);replace HO1:=ak (Kd.R_below HO1.out hb);replace HO2:=ak (Kd.R_below HO2.out hb);replace HB:=ak (below_step HB.out hb);clear hb hbox hg;have hcx:w9.cell? ⟨g3,0,none⟩ = some (.int .i64 a1_0):=(blk_cell BK3.out 0).trans rfl;have hnb:=N3.out;have hnc:=N3.out.symm;obtain ⟨hcz0,hcz1,hcz2,hcz3,hcz4⟩:=cz5_ BK6.out;obtain ⟨hfz0,hfz1,hfz2,hfz3,hfz4⟩:=fz5_ BK6.out))
 clear hcz0 hfz0 hcz1 hfz1 hcz2 hfz2 hcz3 hfz3 hcz4 hfz4 hcx hnb hnc
 (try simp only [Act.put,List.setIfInBounds_toArray,List.set_cons_zero,List.set_cons_succ])
 have HM:Aside0 (MkS w g2 g3 g4 g6 #[.slice A0_0 l0_0.length c0_0,.slice A0_1 l0_1.length c0_1,.slice A0_2 l0_2.length c0_2,.int .i64 a0_3,.int .i64 a0_4] #[.int .i64 a1_0,.int .i64 a1_1,.int .i64 a1_2,.int .i64 a1_3,.int .i64 a1_4,.int .i64 a1_5,.int .i64 a1_6] (((((w9.setCell ⟨g6,0,none⟩ (.slice Ad L.length cd)).setCell ⟨g6,1,none⟩ (.slice Ae V.length ce)).setCell ⟨g6,2,none⟩ (.slice Af D.length cf)).setCell ⟨g6,3,none⟩ (.int .i64 p)).setCell ⟨g6,4,none⟩ (.int .i64 t)) (.slice Ad L.length cd) (.slice Ae V.length ce) (.slice Af D.length cf) L V D p t):=⟨⟨own_blk5 BK6.out (.slice Ad L.length cd) (.slice Ae V.length ce) (.slice Af D.length cf) (.int .i64 p) (.int .i64 t),G6.out,own_R5 HO0.out BK6.out (by decide) (.slice Ad L.length cd) (.slice Ae V.length ce) (.slice Af D.length cf) (.int .i64 p) (.int .i64 t),own_R5 HO1.out BK6.out (by decide) (.slice Ad L.length cd) (.slice Ae V.length ce) (.slice Af D.length cf) (.int .i64 p) (.int .i64 t),own_R5 HO2.out BK6.out (by decide) (.slice Ad L.length cd) (.slice Ae V.length ce) (.slice Af D.length cf) (.int .i64 p) (.int .i64 t)⟩,blk_far (p:=⟨g6,4,none⟩) (blk_far (p:=⟨g6,3,none⟩) (blk_far (p:=⟨g6,2,none⟩) (blk_far (p:=⟨g6,1,none⟩) (blk_far (p:=⟨g6,0,none⟩) BK2.out N2.out (.slice Ad L.length cd)) N2.out (.slice Ae V.length ce)) N2.out (.slice Af D.length cf)) N2.out (.int .i64 p)) N2.out (.int .i64 t),blk_far (p:=⟨g6,4,none⟩) (blk_far (p:=⟨g6,3,none⟩) (blk_far (p:=⟨g6,2,none⟩) (blk_far (p:=⟨g6,1,none⟩) (blk_far (p:=⟨g6,0,none⟩) BK3.out N3.out (.slice Ad L.length cd)) N3.out (.slice Ae V.length ce)) N3.out (.slice Af D.length cf)) N3.out (.int .i64 p)) N3.out (.int .i64 t),blk_far (p:=⟨g6,4,none⟩) (blk_far (p:=⟨g6,3,none⟩) (blk_far (p:=⟨g6,2,none⟩) (blk_far (p:=⟨g6,1,none⟩) (blk_far (p:=⟨g6,0,none⟩) BK4.out N4.out (.slice Ad L.length cd)) N4.out (.slice Ae V.length ce)) N4.out (.slice Af D.length cf)) N4.out (.int .i64 p)) N4.out (.int .i64 t),below_set (below_set (below_set (below_set (below_set HB.out G6.out) G6.out) G6.out) G6.out) G6.out,N2.out,N3.out,N4.out⟩
 clear BK2 BK3 BK4 BK6 HO0 HO1 HO2 HB G6 N2 N3 N4
 generalize (((((w9.setCell ⟨g6,0,none⟩ (.slice Ad L.length cd)).setCell ⟨g6,1,none⟩ (.slice Ae V.length ce)).setCell ⟨g6,2,none⟩ (.slice Af D.length cf)).setCell ⟨g6,3,none⟩ (.int .i64 p)).setCell ⟨g6,4,none⟩ (.int .i64 t)) = wa at HM ⊢
 have G4':=G4
 go_cut [7] (fun v7 wc=>∃ (ok:Bool) (u0 u1 u2:Value) (L':List S37) (V' D':List Bool) (p' t':Int),v7 = .bool ok /\ Aside0 (MkS w g2 g3 g4 g6 #[.slice A0_0 l0_0.length c0_0,.slice A0_1 l0_1.length c0_1,.slice A0_2 l0_2.length c0_2,.int .i64 a0_3,.int .i64 a0_4] #[.int .i64 a1_0,.int .i64 a1_1,.int .i64 a1_2,.int .i64 a1_3,.int .i64 a1_4,.int .i64 a1_5,.int .i64 a1_6] wc u0 u1 u2 L' V' D' p' t') /\ Aside0 ((if ok = true then (spec_l25Good.f k L' V' D' p' t').bind fun x=>some (L',V',D',p',t',x) else some (L',V',D',p',t',false)) = some (r1,r2,r3,r4,r5,r6)))
 case first=>
  have h:=HF.out
  clear HF G4' A1
  by_cases k1:a1_0 = 1
  .
   subst k1
   rw [if_pos rfl] at h
   by_cases i0:0 <= a1_1
   rotate_left
   .
    rw [if_neg i0] at h
    cases h
   rw [if_pos i0] at h
   by_cases i1:a1_1 < (l0_0.length:Int)
   rotate_left
   .
    rw [if_neg i1] at h
    cases h
   rw [if_pos i1] at h
   replace h:=Option.bind_eq_some_iff.mp h
   obtain ⟨⟨L',V',D',p',t',ok⟩,a2,h⟩:=h
   simp only at h
   have A2:=ak a2
   have HH:=ak h
   clear a2 h
   obtain ⟨ad,ee,y0,y1,y2,y3,y4⟩:=at_T37 HR0.out a1_1 i0 i1
   subst ee
   have Y0:=ak (bc_ HM.out.hB y0)
   have Y1:=ak (bc_ HM.out.hB y1)
   have Y2:=ak (bc_ HM.out.hB y2)
   have Y3:=ak (bc_ HM.out.hB y3)
   have Y4:=ak (bc_ HM.out.hB y4)
   have q0:(0 <= a1_1) = True:=eq_true i0
   have q1:(a1_1 < (l0_0.length:Int)) = True:=eq_true i1
   have q0':decide (0 <= a1_1) = true:=decide_eq_true i0
   have q1':decide (a1_1 < (l0_0.length:Int)) = true:=decide_eq_true i1
   clear y0 y1 y2 y3 y4 i0 i1
   go_wp2_with fail
   replace HM:=ak (HM.out.below (below_drew (Below.refl _ wa)))
   replace Y0:=ak (bc_ (below_drew (Below.refl _ wa)) Y0.out)
   replace Y1:=ak (bc_ (below_drew (Below.refl _ wa)) Y1.out)
   replace Y2:=ak (bc_ (below_drew (Below.refl _ wa)) Y2.out)
   replace Y3:=ak (bc_ (below_drew (Below.refl _ wa)) Y3.out)
   replace Y4:=ak (bc_ (below_drew (Below.refl _ wa)) Y4.out)
   refine start_ (n:=20) (S:=fun w'=>w'.cell? ⟨g6,0,none⟩ = some (.slice Ad L.length cd) /\ w'.cell? ⟨g6,1,none⟩ = some (.slice Ae V.length ce) /\ w'.cell? ⟨g6,2,none⟩ = some (.slice Af D.length cf) /\ w'.cell? ⟨g6,3,none⟩ = some (.int .i64 p) /\ w'.cell? ⟨g6,4,none⟩ = some (.int .i64 t) /\ w'.cell? ⟨g2,0,none⟩ = some (.slice (some ad) l0_0.length c0_0) /\ w'.cell? ⟨g3,1,none⟩ = some (.int .i64 a1_1) /\ w'.cell? (ad.add (a1_1.toNat * 5)) = some (.int .i64 (rd_T37 l0_0 a1_1).f0) /\ w'.cell? ⟨(ad.add (a1_1.toNat * 5)).block,(ad.add (a1_1.toNat * 5)).off + 1,none⟩ = some (.int .i64 (rd_T37 l0_0 a1_1).f1) /\ w'.cell? ⟨(ad.add (a1_1.toNat * 5)).block,(ad.add (a1_1.toNat * 5)).off + 2,none⟩ = some (.int .i64 (rd_T37 l0_0 a1_1).f2) /\ w'.cell? ⟨(ad.add (a1_1.toNat * 5)).block,(ad.add (a1_1.toNat * 5)).off + 3,none⟩ = some (.int .i64 (rd_T37 l0_0 a1_1).f3) /\ w'.cell? ⟨(ad.add (a1_1.toNat * 5)).block,(ad.add (a1_1.toNat * 5)).off + 4,none⟩ = some (.int .i64 (rd_T37 l0_0 a1_1).f4)) (ds:=[14,18]) mk7.mk0 (by kernel_rfl) rfl rfl ⟨(blk_cell HM.out.ex.blk 0).trans rfl,(blk_cell HM.out.ex.blk 1).trans rfl,(blk_cell HM.out.ex.blk 2).trans rfl,(blk_cell HM.out.ex.blk 3).trans rfl,(blk_cell HM.out.ex.blk 4).trans rfl,(blk_cell HM.out.k2 0).trans rfl,(blk_cell HM.out.k3 1).trans rfl,Y0.out,Y1.out,Y2.out,Y3.out,Y4.out⟩ (fun hHeld=>?_);refine with_tabW mk7.tab mk7.bits (fun HT_ HW_=>?_)
   generalize wa.drew = wb at HM Y0 Y1 Y2 Y3 Y4 hHeld ⊢
   refine pz_ HT_ 1 (some 25) mk7.mk1 ?_
   refine pz_ HT_ 3 (some 27) mk7.mk2 ?_
   refine pz_ HT_ 7 (some 31) mk7.mk3 ?_
   refine pz_ HT_ 9 (some 33) mk7.mk4 ?_
   refine tk_ HT_ HW_ hHeld 0 (some 24) mk7.mk5 ?_
   refine tk_ HT_ HW_ hHeld 2 (some 26) mk7.mk6 ?_
   refine tk_ HT_ HW_ hHeld 4 (some 28) mk7.mk7 ?_
   refine pz_ HT_ 5 (some 29) mk7.mk8 ?_
   refine tk_ HT_ HW_ hHeld 6 (some 30) mk7.mk9 ?_
   refine tk_ HT_ HW_ hHeld 8 (some 32) mk7.mk10 ?_
   refine tk_ HT_ HW_ hHeld 10 (some 34) mk7.mk11 ?_
   refine pz_ HT_ 11 (some 35) mk7.mk12 ?_
   refine pz_ HT_ 12 (some 36) mk7.mk13 ?_
   refine tk_ HT_ HW_ hHeld 13 (some 37) mk7.mk14 ?_
   refine last_ (i:=14) (N:=some 38) mk7.mk15 rfl rfl (one_of HT_.out (by kernel_rfl)) (by decide) (fun K hK=>?_)
   refine gs_ Try.func107 #[.agg #[.slice Ad L.length cd,.slice Ae V.length ce,.slice Af D.length cf,.int .i64 p,.int .i64 t],.agg #[.int .i64 (rd_T37 l0_0 a1_1).f0,.int .i64 (rd_T37 l0_0 a1_1).f1,.int .i64 (rd_T37 l0_0 a1_1).f2,.int .i64 (rd_T37 l0_0 a1_1).f3,.int .i64 (rd_T37 l0_0 a1_1).f4],.int .i64 (rd_T37 l0_0 a1_1).f2] ?_
   refine (goX_ HM.out A2.out).mono ?_
   rintro e w1 ⟨B0,B1,B2,d0,d1,d2,rfl,hq,hm⟩
   refine ⟨_,rfl,?_⟩
   replace HM:=ak hm
   have HQ:=ak hq
   clear hm hq
   refine hK.out _ _ ?_
   clear hK K
   refine na_ ?_
   refine pz_ HT_ 15 (some 23) mk7.mk16 ?_
   refine pz_ HT_ 16 (some 39) mk7.mk17 ?_
   refine pz_ HT_ 17 (some 40) mk7.mk18 ?_
   refine last_ (i:=18) (N:=none) mk7.mk19 rfl rfl (one_of HT_.out (by kernel_rfl)) (by decide) (fun K hK=>?_)
   obtain ⟨hcz0,hcz1,hcz2,hcz3,hcz4⟩:=cz5_ HQ.out;obtain ⟨hfz0,hfz1,hfz2,hfz3,hfz4⟩:=fz5_ HQ.out
   refine skip_ (w1:=?_) (by rfl) rfl ?_ ?_
   rotate_left
   .
    go_simp
    rfl
   refine hK.out _ _ ?_
   clear hK K
   clear hcz0 hfz0 hcz1 hfz1 hcz2 hfz2 hcz3 hfz3 hcz4 hfz4
   refine pz_ HT_ 19 (some 7) mk7.mk20 ?_
   refine done_ (done_of HT_.out (by kernel_rfl)) ?_
   try go_wp2_with fail
   go_meet
   case rel=>exact ⟨ok,_,_,_,L',V',D',p',t',rfl,HM,HH⟩
  rw [if_neg k1] at h
  by_cases k2:a1_0 = 2
  .
   subst k2
   rw [if_pos rfl] at h
   by_cases i0:L.length < 3518437208883
   rotate_left
   .
    rw [if_neg i0] at h
    cases h
   rw [if_pos i0] at h
   replace h:=Option.bind_eq_some_iff.mp h
   obtain ⟨⟨L',V',D',p',t',ok⟩,a2,h⟩:=h
   simp only at h
   have h':(if (a1_2 == a0_3) = true then (spec_l25Good.f k L' V' D' p' t').bind fun x=>some (L',V',D',p',t',x) else some (L',V',D',p',t',false)) = some (r1,r2,r3,r4,r5,r6):=by simpa only [beq_iff_eq] using h
   obtain ⟨L2,hL2⟩:∃ x,x = L ++ [(⟨a1_2,a1_3,a1_4,a1_5,a1_6⟩:S37)]:=⟨_,rfl⟩
   rw [<- hL2] at a2
   have NL2:=ak hL2
   clear hL2
   have A2:=ak a2
   have HH:=ak h'
   have I0:=ak i0
   clear a2 h h' i0 k1
   obtain ⟨hcza0,hcza1,hcza2,hcza3,hcza4,hcza5,hcza6⟩:=cz7_ HM.out.k3;obtain ⟨hfza0,hfza1,hfza2,hfza3,hfza4,hfza5,hfza6⟩:=fz7_ HM.out.k3
   obtain ⟨hczb0,hczb1,hczb2,hczb3,hczb4⟩:=cz5_ HM.out.ex.blk;obtain ⟨hfzb0,hfzb1,hfzb2,hfzb3,hfzb4⟩:=fz5_ HM.out.ex.blk
   go_wp2_with (first|((with_reducible refine gate_builtin (b:=.append) (xs:=#[.tmp 44,.tmp 47]) rfl ?_);at_builtin;refine Kd.R_append k37 (w0:=w) w.heap.size rfl (.tmp 44) (.tmp 47) 28 37 (.agg #[(.int .i64 0),(.int .i64 0),(.int .i64 0),(.int .i64 0),(.int .i64 0)]) 40 rfl Try.underlying28 info37 rfl (by decide) (by omega) (.slice Ad L.length cd) L (⟨a1_2,a1_3,a1_4,a1_5,a1_6⟩:S37) [.int .i64 a1_2,.int .i64 a1_3,.int .i64 a1_4,.int .i64 a1_5,.int .i64 a1_6] (fun _=>True) (fun _=>False) rfl (by first|(go_simp;done)|(go_simp;rfl)) (k37_mkM _ _ _ (⟨a1_2,a1_3,a1_4,a1_5,a1_6⟩:S37)) (fun _ hk=>hk.elim) (fun _ _=>trivial) HM.out.ex.rL HM.out.hB (below_size HM.out.hB) (by have:=I0.out;omega) ?_;intro z w1 ho hb hg hat;rw [<- NL2.out] at ho;obtain ⟨hq,hm⟩:=MkS.app HM.out hb ho hg;have hk3:=blk_ap HM.out.ex.rL HM.out.k3 (by decide) hg;have hk2:=blk_ap HM.out.ex.rL HM.out.k2 (by decide) hg;obtain ⟨B0,d0,ee⟩:=Kd.R_slice ho;subst ee;replace HM:=ak hm;have HQ:=ak hq;clear hm hq ho hb hg hat hcza0 hfza0 hcza1 hfza1 hcza2 hfza2 hcza3 hfza3 hcza4 hfza4 hcza5 hfza5 hcza6 hfza6 hczb0 hfzb0 hczb1 hfzb1 hczb2 hfzb2 hczb3 hfzb3 hczb4 hfzb4;obtain ⟨hcz0,hcz1,hcz2,hcz3,hcz4⟩:=cz5_ HQ.out;obtain ⟨hfz0,hfz1,hfz2,hfz3,hfz4⟩:=fz5_ HQ.out;obtain ⟨hcza0,hcza1,hcza2,hcza3,hcza4,hcza5,hcza6⟩:=cz7_ hk3;obtain ⟨hfza0,hfza1,hfza2,hfza3,hfza4,hfza5,hfza6⟩:=fz7_ hk3;have x2:w1.cell? ⟨g2,3,none⟩ = some (.int .i64 a0_3):=(blk_cell hk2 3).trans rfl;have hnb2:=HM.out.n2;have hnc2:=HM.out.n2.symm;have hnb3:=HM.out.n3;have hnc3:=HM.out.n3.symm)|((with_reducible refine gate_callee (f:=107) rfl ?_);refine ga_ (some 64) Try.func107 #[.agg #[.slice B0 L2.length d0,.slice Ae V.length ce,.slice Af D.length cf,.int .i64 p,.int .i64 t],.agg #[.int .i64 a1_2,.int .i64 a1_3,.int .i64 a1_4,.int .i64 a1_5,.int .i64 a1_6],.int .i64 (wrap64 (3 * a1_4))] ?_;refine (goX_ HM.out A2.out).mono ?_;rintro e w2 ⟨B0,B1,B2,d0,d1,d2,rfl,hq,hm⟩;refine ⟨_,rfl,?_⟩;replace HM:=ak hm;have HQ:=ak hq;clear hm hq x2 hk2 hk3 hnb2 hnc2 hnb3 hnc3 hcza0 hfza0 hcza1 hfza1 hcza2 hfza2 hcza3 hfza3 hcza4 hfza4 hcza5 hfza5 hcza6 hfza6 hcz0 hfz0 hcz1 hfz1 hcz2 hfz2 hcz3 hfz3 hcz4 hfz4;obtain ⟨hcz0,hcz1,hcz2,hcz3,hcz4⟩:=cz5_ HQ.out;obtain ⟨hfz0,hfz1,hfz2,hfz3,hfz4⟩:=fz5_ HQ.out))
   go_meet
   case rel=>exact ⟨(a1_2 == a0_3),_,_,_,L',V',D',p',t',rfl,HM,HH⟩
  rw [if_neg k2] at h
  by_cases k3:a1_0 = 3
  .
   subst k3
   rw [if_pos rfl] at h
   by_cases i0:0 <= a0_3
   rotate_left
   .
    rw [if_neg i0] at h
    cases h
   rw [if_pos i0] at h
   by_cases i1:a0_3 < (l0_2.length:Int)
   rotate_left
   .
    rw [if_neg i1] at h
    cases h
   rw [if_pos i1] at h
   by_cases i2:a0_3 < (D.length:Int)
   rotate_left
   .
    rw [if_neg i2] at h
    cases h
   rw [if_pos i2] at h
   simp only [Option.bind_some] at h
   have h':(if (!(rdOf false l0_2 a0_3)) = true then (spec_l25Good.f k L V (D.set a0_3.toNat true) p t).bind fun x=>some (L,V,D.set a0_3.toNat true,p,t,x) else some (L,V,D.set a0_3.toNat true,p,t,false)) = some (r1,r2,r3,r4,r5,r6):=by
    cases hx:rdOf false l0_2 a0_3
    .
     rw [hx,if_neg (by decide)] at h
     rw [if_pos (by decide)]
     exact h
    .
     rw [hx,if_pos rfl] at h
     rw [if_neg (by decide)]
     exact h
   have HH:=ak h'
   clear h h' k1 k2
   obtain ⟨ad,ee,y0⟩:=Kd.at_bool HR2.out a0_3 i0 i1
   subst ee
   replace y0:=bc_ HM.out.hB y0
   obtain ⟨gv,cap,eo,_⟩:=own_block_ HM.out.ex.rD (by omega)
   injection eo with eo1 eo2 eo3
   clear eo2
   subst eo1
   subst eo3
   obtain ⟨y1,z1⟩:=Kd.R_celln false HM.out.ex.rD a0_3 i0 i2
   have q0:(0 <= a0_3) = True:=eq_true i0
   have q1:(a0_3 < (l0_2.length:Int)) = True:=eq_true i1
   have q2:(a0_3 < (D.length:Int)) = True:=eq_true i2
   have q0':decide (0 <= a0_3) = true:=decide_eq_true i0
   have q1':decide (a0_3 < (l0_2.length:Int)) = true:=decide_eq_true i1
   have q2':decide (a0_3 < (D.length:Int)) = true:=decide_eq_true i2
   clear i0 i1 i2
   have x2:wa.cell? ⟨g2,2,none⟩ = some (.slice (some ad) l0_2.length c0_2):=(blk_cell HM.out.k2 2).trans rfl
   have x4:wa.cell? ⟨g2,3,none⟩ = some (.int .i64 a0_3):=(blk_cell HM.out.k2 3).trans rfl
   have x6:wa.cell? ⟨g6,2,none⟩ = some (.slice (some ⟨gv,0,none⟩) D.length cf):=(blk_cell HM.out.ex.blk 2).trans rfl
   go_wp2_with fail
   go_meet
   case rel=>exact ⟨(!(rdOf false l0_2 a0_3)),_,_,_,L,V,D.set a0_3.toNat true,p,t,rfl,⟨HM.out.lead a0_3 true⟩,HH⟩
  rw [if_neg k3] at h
  have h':(if (a0_3 == 0) = true then (spec_l25Good.f k L V D p (wrap64 (a0_4 + a1_1))).bind fun x=>some (L,V,D,p,wrap64 (a0_4 + a1_1),x) else some (L,V,D,p,wrap64 (a0_4 + a1_1),false)) = some (r1,r2,r3,r4,r5,r6):=by simpa only [beq_iff_eq] using h
  have HH:=ak h'
  have n1:(a1_0 == 1) = false:=beq_eq_false_iff_ne.mpr k1
  have n2:(a1_0 == 2) = false:=beq_eq_false_iff_ne.mpr k2
  have n3:(a1_0 == 3) = false:=beq_eq_false_iff_ne.mpr k3
  clear h h' k1 k2 k3
  have x4:wa.cell? ⟨g3,1,none⟩ = some (.int .i64 a1_1):=(blk_cell HM.out.k3 1).trans rfl
  have x2:wa.cell? ⟨g2,3,none⟩ = some (.int .i64 a0_3):=(blk_cell HM.out.k2 3).trans rfl
  have x5:wa.cell? ⟨g2,4,none⟩ = some (.int .i64 a0_4):=(blk_cell HM.out.k2 4).trans rfl
  have x6:wa.cell? ⟨g6,4,none⟩ = some (.int .i64 t):=(blk_cell HM.out.ex.blk 4).trans rfl
  have z6:=blk_frozen HM.out.ex.blk 4
  go_wp2_with fail
  go_meet
  case rel=>exact ⟨(a0_3 == 0),_,_,_,L,V,D,p,wrap64 (a0_4 + a1_1),rfl,⟨HM.out.light (wrap64 (a0_4 + a1_1))⟩,HH⟩
 case rest=>
  clear HF HM A1 G4'
  obtain ⟨ok,u0,u1,u2,L',V',D',p',t',rfl,HM,HH⟩:=hcut
  obtain ⟨Aj,cj,ee⟩:=Kd.R_slice HM.out.ex.rL
  subst ee
  obtain ⟨Ak,ck,ee⟩:=Kd.R_slice HM.out.ex.rV
  subst ee
  obtain ⟨Al,cl,ee⟩:=Kd.R_slice HM.out.ex.rD
  subst ee
  have h:=HH.out
  clear HH
  cases ok with
  | false=>
   rw [if_neg (by decide)] at h
   simp only [Option.some.injEq,Prod.mk.injEq] at h
   obtain ⟨rfl,rfl,rfl,rfl,rfl,rfl⟩:=h
   go_wp2_with fail
   replace HM:=ak (HM.out.below (below_drew (Below.refl _ wc)))
   refine start_ (n:=8) (S:=fun w'=>w'.cell? ⟨g6,0,none⟩ = some (.slice Aj L'.length cj) /\ w'.cell? ⟨g6,1,none⟩ = some (.slice Ak V'.length ck) /\ w'.cell? ⟨g6,2,none⟩ = some (.slice Al D'.length cl) /\ w'.cell? ⟨g6,3,none⟩ = some (.int .i64 p') /\ w'.cell? ⟨g6,4,none⟩ = some (.int .i64 t')) (ds:=[6]) mk15.mk0 (by kernel_rfl) rfl rfl ⟨(blk_cell HM.out.ex.blk 0).trans rfl,(blk_cell HM.out.ex.blk 1).trans rfl,(blk_cell HM.out.ex.blk 2).trans rfl,(blk_cell HM.out.ex.blk 3).trans rfl,(blk_cell HM.out.ex.blk 4).trans rfl⟩ (fun hHeld=>?_);refine with_tabW mk15.tab mk15.bits (fun HT_ HW_=>?_)
   generalize wc.drew = wd at HM hHeld ⊢
   refine pz_ HT_ 1 (some 82) mk15.mk1 ?_
   refine pz_ HT_ 2 (some 83) mk15.mk2 ?_
   refine tk_ HT_ HW_ hHeld 0 (some 81) mk15.mk3 ?_
   refine pu_ HT_ 3 (some 84) mk15.mk4 ?_
   refine pu_ HT_ 4 (some 85) mk15.mk5 ?_
   refine pz_ HT_ 5 (some 86) mk15.mk6 ?_
   refine last_ (i:=6) (N:=none) mk15.mk7 rfl rfl (one_of HT_.out (by kernel_rfl)) (by decide) (fun K hK=>?_)
   obtain ⟨hcz0,hcz1,hcz2,hcz3,hcz4⟩:=cz5_ HM.out.k4;obtain ⟨hfz0,hfz1,hfz2,hfz3,hfz4⟩:=fz5_ HM.out.k4
   refine skip_ (w1:=?_) (by rfl) rfl ?_ ?_
   rotate_left
   .
    go_simp
    rfl
   refine hK.out _ _ ?_
   clear hK K
   clear hcz0 hfz0 hcz1 hfz1 hcz2 hfz2 hcz3 hfz3 hcz4 hfz4
   refine pz_ HT_ 7 (some 5) mk15.mk8 ?_
   refine done_ (done_of HT_.out (by kernel_rfl)) ?_
   go_wp2_with fail
   refine bodyPost_ret (results_ct rfl _ _ g4 30 #[.slice Aj L'.length cj,.slice Ak V'.length ck,.slice Al D'.length cl,.int .i64 p',.int .i64 t'] (0,0) _ rfl (own_blk5 HM.out.k4 (.slice Aj L'.length cj) (.slice Ak V'.length ck) (.slice Al D'.length cl) (.int .i64 p') (.int .i64 t')) Try.underlying30 rfl (by kernel_rfl)) rfl ?_
   exact ⟨_,_,_,rr_,own_R5 HM.out.ex.rL HM.out.k4 (by decide) (.slice Aj L'.length cj) (.slice Ak V'.length ck) (.slice Al D'.length cl) (.int .i64 p') (.int .i64 t'),own_R5 HM.out.ex.rV HM.out.k4 (by decide) (.slice Aj L'.length cj) (.slice Ak V'.length ck) (.slice Al D'.length cl) (.int .i64 p') (.int .i64 t'),own_R5 HM.out.ex.rD HM.out.k4 (by decide) (.slice Aj L'.length cj) (.slice Ak V'.length ck) (.slice Al D'.length cl) (.int .i64 p') (.int .i64 t'),below_set (below_set (below_set (below_set (below_set HM.out.hB G4.out) G4.out) G4.out) G4.out) G4.out⟩
  | true=>
   rw [if_pos rfl] at h
   replace h:=Option.bind_eq_some_iff.mp h
   obtain ⟨q,a2,h⟩:=h
   have A2:=ak a2
   clear a2
   simp only [Option.some.injEq,Prod.mk.injEq] at h
   obtain ⟨rfl,rfl,rfl,rfl,rfl,rfl⟩:=h
   go_wp2_with fail
   replace HM:=ak (HM.out.below (below_drew (Below.refl _ wc)))
   refine start_ (n:=8) (S:=fun w'=>w'.cell? ⟨g6,0,none⟩ = some (.slice Aj L'.length cj) /\ w'.cell? ⟨g6,1,none⟩ = some (.slice Ak V'.length ck) /\ w'.cell? ⟨g6,2,none⟩ = some (.slice Al D'.length cl) /\ w'.cell? ⟨g6,3,none⟩ = some (.int .i64 p') /\ w'.cell? ⟨g6,4,none⟩ = some (.int .i64 t')) (ds:=[6]) mk15.mk0 (by kernel_rfl) rfl rfl ⟨(blk_cell HM.out.ex.blk 0).trans rfl,(blk_cell HM.out.ex.blk 1).trans rfl,(blk_cell HM.out.ex.blk 2).trans rfl,(blk_cell HM.out.ex.blk 3).trans rfl,(blk_cell HM.out.ex.blk 4).trans rfl⟩ (fun hHeld=>?_);refine with_tabW mk15.tab mk15.bits (fun HT_ HW_=>?_)
   generalize wc.drew = wd at HM hHeld ⊢
   refine pz_ HT_ 1 (some 82) mk15.mk1 ?_
   refine pz_ HT_ 2 (some 83) mk15.mk2 ?_
   refine tk_ HT_ HW_ hHeld 0 (some 81) mk15.mk3 ?_
   refine tk_ HT_ HW_ hHeld 3 (some 84) mk15.mk4 ?_
   refine one_ (i:=4) (N:=some 85) mk15.mk5 rfl rfl (one_of HT_.out (by kernel_rfl)) (by decide) (fun K hK=>?_)
   refine gs_ Try.func67 #[.agg #[.slice Aj L'.length cj,.slice Ak V'.length ck,.slice Al D'.length cl,.int .i64 p',.int .i64 t']] ?_
   refine (spec_l25Good.calls k _ _ L' _ _ V' _ _ D' p' t' q _ (Kd.R_reads' HM.out.ex.rL).2.2 (Kd.R_reads' HM.out.ex.rL).2.1 (Kd.R_reads' HM.out.ex.rV).2.2 (Kd.R_reads' HM.out.ex.rV).2.1 (Kd.R_reads' HM.out.ex.rD).2.2 (Kd.R_reads' HM.out.ex.rD).2.1 A2.out).mono ?_
   rintro e we ⟨rfl,hb⟩
   refine ⟨_,rfl,?_⟩
   replace HM:=ak (HM.out.below hb)
   clear hb
   refine hK.out _ _ ⟨(blk_cell HM.out.ex.blk 0).trans rfl,(blk_cell HM.out.ex.blk 1).trans rfl,(blk_cell HM.out.ex.blk 2).trans rfl,(blk_cell HM.out.ex.blk 3).trans rfl,(blk_cell HM.out.ex.blk 4).trans rfl⟩ (fun hHeld=>?_)
   clear hK K
   refine na_ ?_
   refine pz_ HT_ 5 (some 86) mk15.mk6 ?_
   refine last_ (i:=6) (N:=none) mk15.mk7 rfl rfl (one_of HT_.out (by kernel_rfl)) (by decide) (fun K hK=>?_)
   obtain ⟨hcz0,hcz1,hcz2,hcz3,hcz4⟩:=cz5_ HM.out.k4;obtain ⟨hfz0,hfz1,hfz2,hfz3,hfz4⟩:=fz5_ HM.out.k4
   refine skip_ (w1:=?_) (by rfl) rfl ?_ ?_
   rotate_left
   .
    go_simp
    rfl
   refine hK.out _ _ ?_
   clear hK K
   clear hcz0 hfz0 hcz1 hfz1 hcz2 hfz2 hcz3 hfz3 hcz4 hfz4
   refine pz_ HT_ 7 (some 5) mk15.mk8 ?_
   refine done_ (done_of HT_.out (by kernel_rfl)) ?_
   go_wp2_with fail
   refine bodyPost_ret (results_ct rfl _ _ g4 30 #[.slice Aj L'.length cj,.slice Ak V'.length ck,.slice Al D'.length cl,.int .i64 p',.int .i64 t'] (0,0) _ rfl (own_blk5 HM.out.k4 (.slice Aj L'.length cj) (.slice Ak V'.length ck) (.slice Al D'.length cl) (.int .i64 p') (.int .i64 t')) Try.underlying30 rfl (by kernel_rfl)) rfl ?_
   exact ⟨_,_,_,rr_,own_R5 HM.out.ex.rL HM.out.k4 (by decide) (.slice Aj L'.length cj) (.slice Ak V'.length ck) (.slice Al D'.length cl) (.int .i64 p') (.int .i64 t'),own_R5 HM.out.ex.rV HM.out.k4 (by decide) (.slice Aj L'.length cj) (.slice Ak V'.length ck) (.slice Al D'.length cl) (.int .i64 p') (.int .i64 t'),own_R5 HM.out.ex.rD HM.out.k4 (by decide) (.slice Aj L'.length cj) (.slice Ak V'.length ck) (.slice Al D'.length cl) (.int .i64 p') (.int .i64 t'),below_set (below_set (below_set (below_set (below_set HM.out.hB G4.out) G4.out) G4.out) G4.out) G4.out⟩
end Go.Proofs.Ythmjimboajmhmaa.Pr

namespace Go.Proofs.Ythmjimboajmhmaa.Pr
open Go.RowKit Go.Proofs.YthmjimboajmhmaaW.PrintWords Go.Proofs.YthmjimboajmhmaaW.PrintLast Go.Proofs.YthmjimboajmhmaaW.PrintMore
set_option linter.unusedVariables false
set_option linter.unusedSimpArgs false
theorem kg_ {α:Type} {d:Kd α} {e base g t:Nat} {w w1:World} {ok:Nat -> Prop} {v:Value} {xs:List α} {cs:Array Value} (h:d.R e w base ok v xs) (B:w.heap[g]? = some (.cells cs t (0,0))) (ht:∀ q,q ∈ e :: d.E -> q ≠ t:=by decide) (hh:d.R e w base (fun k=>ok k /\ k ≠ g) v xs -> d.R e w1 base (fun k=>ok k /\ k ≠ g) v xs:=by intro h_;(repeat (with_reducible first|exact h_|apply Kd.R_alloc|apply Kd.R_drewN|apply Kd.R_drew|refine Kd.R_far ?_ (fun _ hk=>hk.2) _))):d.R e w1 base ok v xs:=Kd.R_mono (hh (Kd.R_types h B ht)) (fun _ h_=>h_.1)
end Go.Proofs.Ythmjimboajmhmaa.Pr

namespace Go.Proofs.Ythmjimboajmhmaa.Pr
open Go.RowKit Go.Proofs.YthmjimboajmhmaaW.PrintWords Go.Proofs.YthmjimboajmhmaaW.PrintLast Go.Proofs.YthmjimboajmhmaaW.PrintMore
attribute [local go_sem] max2_int min2_int max_two min_two max_three min_three max_four min_four   -- for this text's walks alone
set_option linter.unusedVariables false
set_option linter.unusedSimpArgs false
def spec_NextLegs.l0:Nat -> List Int -> Int -> List (S37) -> List Bool -> List Bool -> Int -> Int -> Option (List Int × Bool)
 | 0,_,_,_,_,_,_,_=>none
 | k + 1,x4,x5,x1239000,x1239001,x1239002,x1239003,x1239004=>if x5 < (x1239000.length:Int) then ((spec_l25Make.f k x1239000 x1239001 x1239002 x1239003 x1239004 1 x5 0 0 0 0 0).bind fun bt1243=>(if bt1243.2.2.2.2.2 = true then (if x4.length < 17592186044416 then (spec_NextLegs.l0 k (x4 ++ [x5]) (wrap64 (x5 + 1)) x1239000 x1239001 x1239002 x1239003 x1239004) else (none)) else (spec_NextLegs.l0 k x4 (wrap64 (x5 + 1)) x1239000 x1239001 x1239002 x1239003 x1239004))) else (some (x4,true))
def spec_NextLegs.f (k:Nat) (l0_0:List (S37)) (l0_1:List Bool) (l0_2:List Bool) (a0_3:Int) (a0_4:Int):Option (List Int × Bool):=(some (([]:List Int):List Int)).bind fun y1239=>((spec_l25Good.f k l0_0 l0_1 l0_2 a0_3 a0_4).bind fun t1242=>(if t1242 = true then (spec_NextLegs.l0 k y1239 0 l0_0 l0_1 l0_2 a0_3 a0_4) else (some (y1239,false))))
theorem spec_NextLegs.calls (k:Nat) (A0_0:Option Addr) (c0_0:Nat) (l0_0:List (S37)) (A0_1:Option Addr) (c0_1:Nat) (l0_1:List Bool) (A0_2:Option Addr) (c0_2:Nat) (l0_2:List Bool) (a0_3:Int) (a0_4:Int) (r1:List Int) (r2:Bool) (w:World) (hr0_0:Kd.C k37 w A0_0 l0_0.length l0_0) (hc0_0:l0_0.length <= c0_0) (hr0_1:Kd.C Kd.bool w A0_1 l0_1.length l0_1) (hc0_1:l0_1.length <= c0_1) (hr0_2:Kd.C Kd.bool w A0_2 l0_2.length l0_2) (hc0_2:l0_2.length <= c0_2) (h:spec_NextLegs.f k l0_0 l0_1 l0_2 a0_3 a0_4 = some (r1,r2)) :
  Calls Try.prog 48 #[.agg #[.slice A0_0 l0_0.length c0_0,.slice A0_1 l0_1.length c0_1,.slice A0_2 l0_2.length c0_2,.int .i64 a0_3,.int .i64 a0_4]] w fun e w'=>∃ v0_:Value,e = .returned (.tuple #[v0_,.bool r2]) /\ Kd.R (Kd.int .i64) 3 w' w.heap.size (fun _=>True) v0_ r1 /\ Below w.heap.size w w':=by
 have hu30:=Try.underlying30
 have hu39:=Try.underlying39
 have HR0_0:=ak hr0_0
 have HC0_0:=ak hc0_0
 clear hr0_0 hc0_0
 have HR0_1:=ak hr0_1
 have HC0_1:=ak hc0_1
 clear hr0_1 hc0_1
 have HR0_2:=ak hr0_2
 have HC0_2:=ak hc0_2
 clear hr0_2 hc0_2
 have HB:=ak (Below.refl w.heap.size w)
 have H:((some (([]:List Int):List Int)).bind fun y1239=>((spec_l25Good.f k l0_0 l0_1 l0_2 a0_3 a0_4).bind fun t1242=>(if t1242 = true then (spec_NextLegs.l0 k y1239 0 l0_0 l0_1 l0_2 a0_3 a0_4) else (some (y1239,false))))) = some (r1,r2):=h
 clear h
 obtain ⟨y1239,hy1239⟩:∃ y_:List Int,y_ = (([]:List Int)):=⟨_,rfl⟩
 replace H:((spec_l25Good.f k l0_0 l0_1 l0_2 a0_3 a0_4).bind fun t1242=>(if t1242 = true then (spec_NextLegs.l0 k y1239 0 l0_0 l0_1 l0_2 a0_3 a0_4) else (some (y1239,false)))) = some (r1,r2):=by first|(rw [hy1239];with_reducible exact H)|(have H2_:=(Option.bind_some _ _).symm.trans H;rw [hy1239];with_reducible exact H2_)|(have H2_:=(Option.bind_some _ _).symm.trans H;with_reducible exact H2_)|with_reducible exact H|(rw [hy1239];exact H)|exact H
 have Ny1239:=ak hy1239
 clear hy1239
 replace H:=Option.bind_eq_some_iff.mp H
 obtain ⟨t1242,A20,H⟩:=H
 replace H:(if t1242 = true then (spec_NextLegs.l0 k y1239 0 l0_0 l0_1 l0_2 a0_3 a0_4) else (some (y1239,false))) = some (r1,r2):=H
 have A2:=ak A20
 clear A20
 by_cases c3:t1242 = true
 .
  subst c3
  have H1:(spec_NextLegs.l0 k y1239 0 l0_0 l0_1 l0_2 a0_3 a0_4) = some (r1,r2):=by rw [if_pos rfl] at H;exact H
  clear H
  have H:=H1
  clear H1
  have H':=ak H
  clear H
  go_enter Try.func48,Try.ntmps48
  go_wp2_with (first|((with_reducible refine gate_dst (N:=1) rfl ?_);refine box_event ?hg (N:=1) ?hd (cs:=#[.slice A0_0 l0_0.length c0_0,.slice A0_1 l0_1.length c0_1,.slice A0_2 l0_2.length c0_2,.int .i64 a0_3,.int .i64 a0_4]) (t:=30) ?hr ?_;(case hd=>rfl);(case hg=>rfl);(case hr=>first|(go_simp;done)|(go_simp;rfl));intro gb1238 hg w4 hbox hb;have BK1238:=ak (hbox);have GW1238:=ak ((bz_ hg (lb0_ HB.out)));have GE1238:=ak ((bz_ hg (lb0_ HB.out)));replace HB:=ak (below_step (lb0_ HB.out) hb);clear hb hbox hg)|((with_reducible refine gate_dst (N:=8) rfl ?_);refine Kd.R_lit (Kd.int .i64) _ 3 ?hg (N:=8) ?hd (xs:=([]:List Int)) (inner:=[]) (ok:=fun _=>True) (okp:=fun _=>True) ?hr ?hp (fun _ hk=>hk) trivial (Below.refl _ _) (Nat.le_refl _) (by simp) ?_;(case hd=>rfl);(case hg=>rfl);(case hr=>first|(go_simp;done)|(go_simp;rfl));(case hp=>exact (Reps.none _ _));intro v1240 w5 ho6 hb hg_ hnew_;clear hg_ hnew_;replace ho6:=ry_ Ny1239.out ho6;have HO1241:=ak (Kd.R_lower ho6 (below_size (lb1_ HB.out GE1238.out)));replace BK1238:=ak (bb_ (bk_ BK1238.out) hb);replace HB:=ak (below_step (lb1_ HB.out GE1238.out) hb);clear hb ho6;obtain ⟨hcz7_0,hcz7_1,hcz7_2,hcz7_3,hcz7_4⟩:=cz5_ BK1238.out;obtain ⟨hfz7_0,hfz7_1,hfz7_2,hfz7_3,hfz7_4⟩:=fz5_ BK1238.out)|((with_reducible refine gate_callee (f:=67) rfl ?_);refine ga_ (some 10) Try.func67 #[.agg #[.slice A0_0 l0_0.length c0_0,.slice A0_1 l0_1.length c0_1,.slice A0_2 l0_2.length c0_2,.int .i64 a0_3,.int .i64 a0_4]] ?_;(with_reducible refine (spec_l25Good.calls k _ _ l0_0 _ _ l0_1 _ _ l0_2 a0_3 a0_4 true _ ?side1 ?side2 ?side3 ?side4 ?side5 ?side6 A2.out).mono ?_);(case side1=>exact kc_ (Kd.C_below HR0_0.out HB.out));(case side2=>exact HC0_0.out);(case side3=>exact kc_ (Kd.C_below HR0_1.out HB.out));(case side4=>exact HC0_1.out);(case side5=>exact kc_ (Kd.C_below HR0_2.out HB.out));(case side6=>exact HC0_2.out);rintro e w8 ⟨rfl,hb⟩;refine ⟨_,rfl,?_⟩;replace HO1241:=ak (Kd.R_below (kr_ HO1241.out) hb);replace BK1238:=ak (bb_ (bk_ BK1238.out) hb);replace HB:=ak (below_step (lb1_ HB.out GE1238.out) hb);(try clear hb);(try clear hb2);(try clear hk);(try clear hi)))
  go_loopg [4,5] k (fun kq v4 v5 w'=>∃ (x4_1:List Int) (x5_1:Int),v5 = .int .i64 x5_1 /\ Aside0 (spec_NextLegs.l0 kq x4_1 x5_1 l0_0 l0_1 l0_2 a0_3 a0_4 = some (r1,r2)) /\ Aside0 (kq <= k) /\ Aside0 (Kd.R (Kd.int .i64) 3 w' w.heap.size (fun _=>True) v4 x4_1) /\ Aside0 (w'.heap[gb1238]? = some (.cells #[(.slice A0_0 l0_0.length c0_0),(.slice A0_1 l0_1.length c0_1),(.slice A0_2 l0_2.length c0_2),.int .i64 a0_3,.int .i64 a0_4] 30 (0,0))) /\ Aside0 (Below w.heap.size w w'))
  case atStart=>exact ⟨(y1239),(0),(by first|rfl|(simp;done)|(simp [*];done)),H',⟨Nat.le_refl _⟩,⟨kr_ HO1241.out⟩,⟨bk_ BK1238.out⟩,⟨lb1_ HB.out GE1238.out⟩⟩
  case round=>
   clear H'
   try clear p2
   try clear c3
   try clear c4
   try clear c6
   try clear hcz7_0 hcz7_1 hcz7_2 hcz7_3 hcz7_4
   try clear hfz7_0 hfz7_1 hfz7_2 hfz7_3 hfz7_4
   obtain ⟨x4_1,x5_1,rfl,HA,HK1,HO_4,BK1238,HB⟩:=hrel
   cases gk with
   | zero=>exact absurd HA.out (by simp [spec_NextLegs.l0])
   | succ k1=>
    have H:=HA.out
    clear HA
    simp only [spec_NextLegs.l0] at H
    by_cases c9:x5_1 < (l0_0.length:Int)
    .
     rw [if_pos c9] at H
     have c9b0:decide (x5_1 < (l0_0.length:Int)) = true:=decide_eq_true c9
     clear c9
     replace H:=Option.bind_eq_some_iff.mp H
     obtain ⟨⟨t1243,t1246,t1249,t1252,t1253,t1254⟩,A100,H⟩:=H
     replace H:(if t1254 = true then (if x4_1.length < 17592186044416 then (spec_NextLegs.l0 k1 (x4_1 ++ [x5_1]) (wrap64 (x5_1 + 1)) l0_0 l0_1 l0_2 a0_3 a0_4) else (none)) else (spec_NextLegs.l0 k1 x4_1 (wrap64 (x5_1 + 1)) l0_0 l0_1 l0_2 a0_3 a0_4)) = some (r1,r2):=H
     have A10:=ak A100
     clear A100
     by_cases c11:t1254 = true
     .
      subst c11
      have H1:(if x4_1.length < 17592186044416 then (spec_NextLegs.l0 k1 (x4_1 ++ [x5_1]) (wrap64 (x5_1 + 1)) l0_0 l0_1 l0_2 a0_3 a0_4) else (none)) = some (r1,r2):=by rw [if_pos rfl] at H;exact H
      clear H
      have H:=H1
      clear H1
      by_cases c12:x4_1.length < 17592186044416
      .
       rw [if_pos c12] at H
       have LMc12:=ak c12
       clear c12
       obtain ⟨y1256,hy1256⟩:∃ y_:List Int,y_ = (x4_1 ++ [x5_1]):=⟨_,rfl⟩
       replace H:(spec_NextLegs.l0 k1 y1256 (wrap64 (x5_1 + 1)) l0_0 l0_1 l0_2 a0_3 a0_4) = some (r1,r2):=by first|(rw [hy1256];with_reducible exact H)|(have H2_:=(Option.bind_some _ _).symm.trans H;rw [hy1256];with_reducible exact H2_)|(have H2_:=(Option.bind_some _ _).symm.trans H;with_reducible exact H2_)|with_reducible exact H|(rw [hy1256];exact H)|exact H
       have Ny1256:=ak hy1256
       clear hy1256
       have H':=ak H
       clear H
       obtain ⟨hcz13_0,hcz13_1,hcz13_2,hcz13_3,hcz13_4⟩:=cz5_ BK1238.out
       obtain ⟨hfz13_0,hfz13_1,hfz13_2,hfz13_3,hfz13_4⟩:=fz5_ BK1238.out
       go_wp2_with (first|((with_reducible refine gate_callee (f:=78) rfl ?_);refine ga_ (some 24) Try.func78 #[.agg #[.slice A0_0 l0_0.length c0_0,.slice A0_1 l0_1.length c0_1,.slice A0_2 l0_2.length c0_2,.int .i64 a0_3,.int .i64 a0_4],.agg #[.int .i64 1,.int .i64 x5_1,.int .i64 0,.int .i64 0,.int .i64 0,.int .i64 0,.int .i64 0]] ?_;(with_reducible refine (spec_l25Make.calls k1 _ _ l0_0 _ _ l0_1 _ _ l0_2 a0_3 a0_4 1 x5_1 0 0 0 0 0 t1243 t1246 t1249 t1252 t1253 true _ ?side1 ?side2 ?side3 ?side4 ?side5 ?side6 A10.out).mono ?_);(case side1=>exact kc_ (Kd.C_below HR0_0.out HB.out));(case side2=>exact HC0_0.out);(case side3=>exact kc_ (Kd.C_below HR0_1.out HB.out));(case side4=>exact HC0_1.out);(case side5=>exact kc_ (Kd.C_below HR0_2.out HB.out));(case side6=>exact HC0_2.out);rintro e w14 ⟨v1244,v1247,v1250,rfl,ho0,ho1,ho2,hb⟩;refine ⟨_,rfl,?_⟩;replace HO_4:=ak (Kd.R_below (kr_ HO_4.out) hb);have HO1245:=ak (Kd.R_lower ho0 (below_size (lb1_ HB.out GE1238.out)));have HO1248:=ak (Kd.R_lower ho1 (below_size (lb1_ HB.out GE1238.out)));have HO1251:=ak (Kd.R_lower ho2 (below_size (lb1_ HB.out GE1238.out)));replace BK1238:=ak (bb_ (bk_ BK1238.out) hb);replace HB:=ak (below_step (lb1_ HB.out GE1238.out) hb);(try clear hb);(try clear hb2);(try clear hk);(try clear hi);(try clear ho0);(try clear ho1);(try clear ho2))|((with_reducible refine gate_dst (N:=6) rfl ?_);refine box_event ?hg (N:=6) ?hd (cs:=#[.slice none 0 0,.slice none 0 0,.slice none 0 0,.int .i64 0,.int .i64 0]) (t:=30) ?hr ?_;(case hd=>rfl);(case hg=>rfl);(case hr=>first|(go_simp;done)|(go_simp;rfl));intro gb1255 hg w15 hbox hb;replace HO_4:=ak (Kd.R_below (kr_ HO_4.out) hb);replace HO1245:=ak (Kd.R_below (kr_ HO1245.out) hb);replace HO1248:=ak (Kd.R_below (kr_ HO1248.out) hb);replace HO1251:=ak (Kd.R_below (kr_ HO1251.out) hb);have BK1255:=ak (hbox);have GW1255:=ak ((bz_ hg (lb1_ HB.out GE1238.out)));have GE1255:=ak ((bz_ hg (lb1_ HB.out GE1238.out)));replace HB:=ak (below_step (lb1_ HB.out GE1238.out) hb);have NB1238_1255:=ak (nl_ hg BK1238.out);have NB1255_1238:=ak (ng_ hg BK1238.out);replace BK1238:=ak (bb_ (bk_ BK1238.out) hb);clear hb hbox hg;obtain ⟨Ao16,co16,eo16⟩:=Kd.R_slice HO1245.out;subst eo16;have hnb17:=NB1255_1238.out;have hnc17:=NB1238_1255.out;obtain ⟨hcz18_0,hcz18_1,hcz18_2,hcz18_3,hcz18_4⟩:=cz5_ BK1255.out;obtain ⟨hfz18_0,hfz18_1,hfz18_2,hfz18_3,hfz18_4⟩:=fz5_ BK1255.out;obtain ⟨Ao19,co19,eo19⟩:=Kd.R_slice HO1248.out;subst eo19;obtain ⟨Ao20,co20,eo20⟩:=Kd.R_slice HO1251.out;subst eo20)|((with_reducible refine gate_builtin (b:=.append) (xs:=#[.tmp 28,.tmp 30]) rfl ?_);at_builtin;refine Kd.R_append (Kd.int .i64) (w0:=w) w.heap.size rfl (.tmp 28) (.tmp 30) 60 3 (.int .i64 0) 8 rfl Try.underlying60 info3 rfl (by decide) (by omega) u4 x4_1 x5_1 [.int .i64 x5_1] (fun _=>True) (fun _=>False) rfl (by first|(go_simp;done)|(go_simp;rfl)) ?aP (fun _ hk=>hk.elim) ?aF ?aO ?aB ?aS ?aL ?_;(case aP=>exact rfl);(case aB=>exact (lb2_ HB.out GE1238.out GE1255.out));(case aF=>exact (fun _ _=>trivial));(case aO=>exact (by (with_reducible repeat (first|apply Kd.R_alloc|apply Kd.R_drewN|apply Kd.R_drew));exact Kd.R_mono (r5_ HO_4.out BK1255.out (by decide) _ _ _ _ _) (fun _ hk=>trivial)));(case aS=>exact (below_size (lb2_ HB.out GE1238.out GE1255.out)));(case aL=>have:=LMc12.out;omega);intro v1257 w21 ho hb hg hat;rw [<- Ny1256.out] at ho;replace BK1238:=ak (blk_grown (g:=gb1238) (o:=.cells #[.slice A0_0 l0_0.length c0_0,.slice A0_1 l0_1.length c0_1,.slice A0_2 l0_2.length c0_2,.int .i64 a0_3,.int .i64 a0_4] 30 (0,0)) (by (with_reducible repeat (first|refine blk_drewN ?_ _|refine blk_drew ?_|refine blk_alloc ?_ _));exact (f5_ BK1238.out NB1238_1255.out _ _ _ _ _)) hg (Kd.R_ne HO_4.out BK1238.out (by decide)));replace HO1245:=ak (Kd.R_over' (kg_ HO1245.out BK1255.out) (Kd.R_typed (kg_ HO_4.out BK1255.out)) (by decide) hg);replace HO1248:=ak (Kd.R_over' (kg_ HO1248.out BK1255.out) (Kd.R_typed (kg_ HO_4.out BK1255.out)) (by decide) hg);replace HO1251:=ak (Kd.R_over' (kg_ HO1251.out BK1255.out) (Kd.R_typed (kg_ HO_4.out BK1255.out)) (by decide) hg);replace BK1255:=ak (blk_grown (g:=gb1255) (o:=.cells #[.slice Ao16 t1243.length co16,.slice Ao19 t1246.length co19,.slice Ao20 t1249.length co20,.int .i64 t1252,.int .i64 t1253] 30 (0,0)) (by (with_reducible repeat (first|refine blk_drewN ?_ _|refine blk_drew ?_|refine blk_alloc ?_ _));exact (p5_ BK1255.out _ _ _ _ _)) hg (Kd.R_ne HO_4.out BK1255.out (by decide)));replace HB:=ak (hb);have HO1258:=ak (ho);clear HO_4;clear ho hb hg hat))
       go_roundg k1
       case measure=>have:=HK1.out;omega
       case rel=>exact ⟨(y1256),(wrap64 (x5_1 + 1)),(by first|rfl|(simp;done)|(simp [*];done)),H',⟨by have:=HK1.out;omega⟩,⟨kr_ HO1258.out⟩,⟨bk_ BK1238.out⟩,⟨lb2_ HB.out GE1238.out GE1255.out⟩⟩
      .
       rw [if_neg c12] at H
       exact absurd H (by simp)
     .
      replace c11:=Bool.eq_false_iff.mpr c11
      subst c11
      have H1:(spec_NextLegs.l0 k1 x4_1 (wrap64 (x5_1 + 1)) l0_0 l0_1 l0_2 a0_3 a0_4) = some (r1,r2):=by rw [if_neg (show ¬ (false = true) by decide)] at H;exact H
      clear H
      have H:=H1
      clear H1
      have H':=ak H
      clear H
      obtain ⟨hcz22_0,hcz22_1,hcz22_2,hcz22_3,hcz22_4⟩:=cz5_ BK1238.out
      obtain ⟨hfz22_0,hfz22_1,hfz22_2,hfz22_3,hfz22_4⟩:=fz5_ BK1238.out
      go_wp2_with (first|((with_reducible refine gate_callee (f:=78) rfl ?_);refine ga_ (some 24) Try.func78 #[.agg #[.slice A0_0 l0_0.length c0_0,.slice A0_1 l0_1.length c0_1,.slice A0_2 l0_2.length c0_2,.int .i64 a0_3,.int .i64 a0_4],.agg #[.int .i64 1,.int .i64 x5_1,.int .i64 0,.int .i64 0,.int .i64 0,.int .i64 0,.int .i64 0]] ?_;(with_reducible refine (spec_l25Make.calls k1 _ _ l0_0 _ _ l0_1 _ _ l0_2 a0_3 a0_4 1 x5_1 0 0 0 0 0 t1243 t1246 t1249 t1252 t1253 false _ ?side1 ?side2 ?side3 ?side4 ?side5 ?side6 A10.out).mono ?_);(case side1=>exact kc_ (Kd.C_below HR0_0.out HB.out));(case side2=>exact HC0_0.out);(case side3=>exact kc_ (Kd.C_below HR0_1.out HB.out));(case side4=>exact HC0_1.out);(case side5=>exact kc_ (Kd.C_below HR0_2.out HB.out));(case side6=>exact HC0_2.out);rintro e w23 ⟨v1244,v1247,v1250,rfl,ho0,ho1,ho2,hb⟩;refine ⟨_,rfl,?_⟩;replace HO_4:=ak (Kd.R_below (kr_ HO_4.out) hb);have HO1245:=ak (Kd.R_lower ho0 (below_size (lb1_ HB.out GE1238.out)));have HO1248:=ak (Kd.R_lower ho1 (below_size (lb1_ HB.out GE1238.out)));have HO1251:=ak (Kd.R_lower ho2 (below_size (lb1_ HB.out GE1238.out)));replace BK1238:=ak (bb_ (bk_ BK1238.out) hb);replace HB:=ak (below_step (lb1_ HB.out GE1238.out) hb);(try clear hb);(try clear hb2);(try clear hk);(try clear hi);(try clear ho0);(try clear ho1);(try clear ho2))|((with_reducible refine gate_dst (N:=6) rfl ?_);refine box_event ?hg (N:=6) ?hd (cs:=#[.slice none 0 0,.slice none 0 0,.slice none 0 0,.int .i64 0,.int .i64 0]) (t:=30) ?hr ?_;(case hd=>rfl);(case hg=>rfl);(case hr=>first|(go_simp;done)|(go_simp;rfl));intro gb1255 hg w24 hbox hb;replace HO_4:=ak (Kd.R_below (kr_ HO_4.out) hb);replace HO1245:=ak (Kd.R_below (kr_ HO1245.out) hb);replace HO1248:=ak (Kd.R_below (kr_ HO1248.out) hb);replace HO1251:=ak (Kd.R_below (kr_ HO1251.out) hb);have BK1255:=ak (hbox);have GW1255:=ak ((bz_ hg (lb1_ HB.out GE1238.out)));have GE1255:=ak ((bz_ hg (lb1_ HB.out GE1238.out)));replace HB:=ak (below_step (lb1_ HB.out GE1238.out) hb);have NB1238_1255:=ak (nl_ hg BK1238.out);have NB1255_1238:=ak (ng_ hg BK1238.out);replace BK1238:=ak (bb_ (bk_ BK1238.out) hb);clear hb hbox hg;obtain ⟨Ao25,co25,eo25⟩:=Kd.R_slice HO1245.out;subst eo25;have hnb26:=NB1255_1238.out;have hnc26:=NB1238_1255.out;obtain ⟨hcz27_0,hcz27_1,hcz27_2,hcz27_3,hcz27_4⟩:=cz5_ BK1255.out;obtain ⟨hfz27_0,hfz27_1,hfz27_2,hfz27_3,hfz27_4⟩:=fz5_ BK1255.out;obtain ⟨Ao28,co28,eo28⟩:=Kd.R_slice HO1248.out;subst eo28;obtain ⟨Ao29,co29,eo29⟩:=Kd.R_slice HO1251.out;subst eo29))
      go_roundg k1
      case measure=>have:=HK1.out;omega
      case rel=>exact ⟨(x4_1),(wrap64 (x5_1 + 1)),(by first|rfl|(simp;done)|(simp [*];done)),H',⟨by have:=HK1.out;omega⟩,⟨by (with_reducible repeat (first|apply Kd.R_alloc|apply Kd.R_drewN|apply Kd.R_drew));exact Kd.R_mono (r5_ HO_4.out BK1255.out (by decide) _ _ _ _ _) (fun _ hk=>trivial)⟩,⟨by (with_reducible repeat (first|refine blk_drewN ?_ _|refine blk_drew ?_|refine blk_alloc ?_ _));exact (f5_ BK1238.out NB1238_1255.out _ _ _ _ _)⟩,⟨lb2_ HB.out GE1238.out GE1255.out⟩⟩
    .
     rw [if_neg c9] at H
     have c9b0:decide (x5_1 < (l0_0.length:Int)) = false:=decide_eq_false c9
     clear c9
     simp only [Option.some.injEq,Prod.mk.injEq] at H
     obtain ⟨rfl,rfl⟩:=H
     obtain ⟨hcz30_0,hcz30_1,hcz30_2,hcz30_3,hcz30_4⟩:=cz5_ BK1238.out
     obtain ⟨hfz30_0,hfz30_1,hfz30_2,hfz30_3,hfz30_4⟩:=fz5_ BK1238.out
     go_wp2
     go_ret2
     exact ⟨_,rr_,kr_ HO_4.out,lb1_ HB.out GE1238.out⟩
 .
  replace c3:=Bool.eq_false_iff.mpr c3
  subst c3
  have H1:(some (y1239,false)) = some (r1,r2):=by rw [if_neg (show ¬ (false = true) by decide)] at H;exact H
  clear H
  have H:=H1
  clear H1
  simp only [Option.some.injEq,Prod.mk.injEq] at H
  obtain ⟨rfl,rfl⟩:=H
  go_enter Try.func48,Try.ntmps48
  go_wp2_with (first|((with_reducible refine gate_dst (N:=1) rfl ?_);refine box_event ?hg (N:=1) ?hd (cs:=#[.slice A0_0 l0_0.length c0_0,.slice A0_1 l0_1.length c0_1,.slice A0_2 l0_2.length c0_2,.int .i64 a0_3,.int .i64 a0_4]) (t:=30) ?hr ?_;(case hd=>rfl);(case hg=>rfl);(case hr=>first|(go_simp;done)|(go_simp;rfl));intro gb1238 hg w31 hbox hb;have BK1238:=ak (hbox);have GW1238:=ak ((bz_ hg (lb0_ HB.out)));have GE1238:=ak ((bz_ hg (lb0_ HB.out)));replace HB:=ak (below_step (lb0_ HB.out) hb);clear hb hbox hg)|((with_reducible refine gate_dst (N:=8) rfl ?_);refine Kd.R_lit (Kd.int .i64) _ 3 ?hg (N:=8) ?hd (xs:=([]:List Int)) (inner:=[]) (ok:=fun _=>True) (okp:=fun _=>True) ?hr ?hp (fun _ hk=>hk) trivial (Below.refl _ _) (Nat.le_refl _) (by simp) ?_;(case hd=>rfl);(case hg=>rfl);(case hr=>first|(go_simp;done)|(go_simp;rfl));(case hp=>exact (Reps.none _ _));intro v1240 w32 ho33 hb hg_ hnew_;clear hg_ hnew_;replace ho33:=ry_ Ny1239.out ho33;have HO1241:=ak (Kd.R_lower ho33 (below_size (lb1_ HB.out GE1238.out)));replace BK1238:=ak (bb_ (bk_ BK1238.out) hb);replace HB:=ak (below_step (lb1_ HB.out GE1238.out) hb);clear hb ho33;obtain ⟨hcz34_0,hcz34_1,hcz34_2,hcz34_3,hcz34_4⟩:=cz5_ BK1238.out;obtain ⟨hfz34_0,hfz34_1,hfz34_2,hfz34_3,hfz34_4⟩:=fz5_ BK1238.out)|((with_reducible refine gate_callee (f:=67) rfl ?_);refine ga_ (some 10) Try.func67 #[.agg #[.slice A0_0 l0_0.length c0_0,.slice A0_1 l0_1.length c0_1,.slice A0_2 l0_2.length c0_2,.int .i64 a0_3,.int .i64 a0_4]] ?_;(with_reducible refine (spec_l25Good.calls k _ _ l0_0 _ _ l0_1 _ _ l0_2 a0_3 a0_4 false _ ?side1 ?side2 ?side3 ?side4 ?side5 ?side6 A2.out).mono ?_);(case side1=>exact kc_ (Kd.C_below HR0_0.out HB.out));(case side2=>exact HC0_0.out);(case side3=>exact kc_ (Kd.C_below HR0_1.out HB.out));(case side4=>exact HC0_1.out);(case side5=>exact kc_ (Kd.C_below HR0_2.out HB.out));(case side6=>exact HC0_2.out);rintro e w35 ⟨rfl,hb⟩;refine ⟨_,rfl,?_⟩;replace HO1241:=ak (Kd.R_below (kr_ HO1241.out) hb);replace BK1238:=ak (bb_ (bk_ BK1238.out) hb);replace HB:=ak (below_step (lb1_ HB.out GE1238.out) hb);(try clear hb);(try clear hb2);(try clear hk);(try clear hi)))
  go_ret2
  exact ⟨_,rr_,kr_ HO1241.out,lb1_ HB.out GE1238.out⟩
end Go.Proofs.Ythmjimboajmhmaa.Pr

