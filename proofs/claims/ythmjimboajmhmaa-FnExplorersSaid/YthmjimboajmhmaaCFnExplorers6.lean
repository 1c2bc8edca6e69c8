/-
What is proved: parts of the law FnExplorers: what the functions that it reaches compute, and the plain law.
Conditions: those of each theorem.
-/
import Derived.Test.YthmjimboajmhmaaCFnExplorers5
namespace Go.Proofs.Ythmjimboajmhmaa.Pr
open Go.RowKit Go.Proofs.Ythmjimboajmhmaa.Pr.Pure Go.Proofs.YthmjimboajmhmaaW.PrintWords Go.Proofs.YthmjimboajmhmaaW.PrintLast Go.Proofs.YthmjimboajmhmaaW.PrintMore
set_option linter.unusedVariables false
set_option linter.unusedSimpArgs false
def laws_FnExplorers.f (k:Nat) (l:List Int):Option Bool:=if l.all (fun v=>decide (0 <= v) && decide (v <= 255)) = true then some true else none
set_option maxHeartbeats 64000000 in
set_option maxRecDepth 100000 in
theorem laws_FnExplorers.calls (k:Nat) (A:Option Addr) (c:Nat) (l:List Int) (r:Bool) (w:World) (hr:Kd.C (Kd.int .u8) w A l.length l) (hc:l.length <= c) (h:laws_FnExplorers.f k l = some r) :
  Calls Try.prog 13 #[.slice A l.length c] w fun e w'=>e = .returned (.bool r) /\ Below w.heap.size w w':=by
 have hx:BytesE l:=fun v hv=>by
  unfold laws_FnExplorers.f at h
  split at h
  .
   rename_i q
   have h1:=List.all_eq_true.mp q v hv
   simp only [Bool.and_eq_true,decide_eq_true_eq] at h1
   exact h1
  .
   cases h
 obtain rfl:r = true:=by
  unfold laws_FnExplorers.f at h
  split at h
  .
   injection h with h
   exact h.symm
  .
   cases h
 clear h
 have hu30:=Try.underlying30
 have hu37:=Try.underlying37
 have hu39:=Try.underlying39
 have hu28:=Try.underlying28
 have hu23:=Try.underlying23
 have HB:=ak (Below.refl w.heap.size w)
 obtain ⟨bb,hbig⟩:∃ bb,laws_vBig.f l = some bb:=⟨_,rfl⟩
 go_enter Try.func13,Try.ntmps13
 cases bb with
 | true=>
  go_wp2_with (go_at_call 20;refine (laws_vBig.calls _ _ l true _ hr hc hbig).mono ?_;rintro e w' ⟨rfl,⟨nd,rfl⟩⟩;replace HB:=ak (pw_below_drewN HB.out nd))
  go_ret
  exact ⟨rfl,HB.out⟩
 | false=>
  go_upto_region 3 with (go_at_call 20;refine (laws_vBig.calls _ _ l false _ hr hc hbig).mono ?_;rintro e w' ⟨rfl,⟨nd,rfl⟩⟩;replace HB:=ak (pw_below_drewN HB.out nd);generalize w.drewN nd = wv at HB ⊢)
  clear hbig
  go_upto_region 4 with (first|((with_reducible refine gate_callee (f:=55) rfl ?_);refine ga_ (some 34) Try.func55 #[.slice A l.length c] ?_;refine (drawNextE hx (Kd.C_below hr HB.out) hc).mono ?_;rintro e wa ⟨A0,A1,A2,c0,c1,c2,L,V,D,P,T,rfl,hX,hb⟩;refine ⟨_,rfl,?_⟩;have HX:=ak (hX.lower (below_size HB.out));replace HB:=ak (below_step HB.out hb);clear hX hb)|((with_reducible refine gate_dst (N:=3) rfl ?_);refine box_event ?hg (N:=3) ?hd (cs:=#[.slice none 0 0,.slice none 0 0,.slice none 0 0,.int .i64 0,.int .i64 0]) (t:=30) ?hr ?_;(case hd=>rfl);(case hg=>rfl);(case hr=>first|(go_simp;done)|(go_simp;rfl));intro q3 hg wb hbox hb;have Gq3:=ak (show w.heap.size <= q3 from by rw [hg];exact below_size HB.out);have Bq3:=ak hbox;replace HX:=ak (HX.out.below hb);replace HB:=ak (below_step HB.out hb);clear hb hbox hg;obtain ⟨hcz0,hcz1,hcz2,hcz3,hcz4⟩:=cz5_ Bq3.out;obtain ⟨hfz0,hfz1,hfz2,hfz3,hfz4⟩:=fz5_ Bq3.out)|((with_reducible refine gate_store (t:=30) (p:=3) rfl ?_);refine store_event (t:=30) (p:=3) (v:=?vo3_) (w1:=(((((wb.setCell ⟨q3,0,none⟩ (.slice A0 L.length c0)).setCell ⟨q3,1,none⟩ (.slice A1 V.length c1)).setCell ⟨q3,2,none⟩ (.slice A2 D.length c2)).setCell ⟨q3,3,none⟩ (.int .i64 P)).setCell ⟨q3,4,none⟩ (.int .i64 T))) ?hg ?ho ?hn ?hr ?_;(case ho=>rfl);(case hg=>rfl);(case hn=>rfl);(case hr=>first|(go_simp;done)|(go_simp;rfl));intro wc hw;clear hcz0 hcz1 hcz2 hcz3 hcz4 hfz0 hfz1 hfz2 hfz3 hfz4;have n0_:=HX.out.sets Bq3.out (.slice A0 L.length c0) (.slice A1 V.length c1) (.slice A2 D.length c2) (.int .i64 P) (.int .i64 T);rw [<- hw] at n0_;have n1_:=own_blk5 Bq3.out (.slice A0 L.length c0) (.slice A1 V.length c1) (.slice A2 D.length c2) (.int .i64 P) (.int .i64 T);rw [<- hw] at n1_;have n2_:Below w.heap.size w (((((wb.setCell ⟨q3,0,none⟩ (.slice A0 L.length c0)).setCell ⟨q3,1,none⟩ (.slice A1 V.length c1)).setCell ⟨q3,2,none⟩ (.slice A2 D.length c2)).setCell ⟨q3,3,none⟩ (.int .i64 P)).setCell ⟨q3,4,none⟩ (.int .i64 T)):=below_set (below_set (below_set (below_set (below_set HB.out Gq3.out) Gq3.out) Gq3.out) Gq3.out) Gq3.out;rw [<- hw] at n2_;clear hw HX Bq3 HB;have HX:=ak n0_;have Bq3:=ak n1_;have HB:=ak n2_;clear n0_ n1_ n2_;obtain ⟨hcz0,hcz1,hcz2,hcz3,hcz4⟩:=cz5_ Bq3.out;obtain ⟨hfz0,hfz1,hfz2,hfz3,hfz4⟩:=fz5_ Bq3.out))
  obtain ⟨r,b,g1,g2,hlr,hnx⟩:=next_law L (by have:=HX.out.nL;omega) V D P T
  have HG1:=ak g1
  have HG2:=ak g2
  have HLR:=ak hlr
  have HNX:=ak hnx
  clear g1 g2 hlr hnx
  have nb:(b != b) = false:=bne_self_eq_false b
  go_upto_region 8 with (first|((with_reducible refine gate_callee (f:=49) rfl ?_);refine ga_ (some 37) Try.func49 #[.agg #[.slice A0 L.length c0,.slice A1 V.length c1,.slice A2 D.length c2,.int .i64 P,.int .i64 T]] ?_;refine (impl_NextLegs.calls 1000500 _ _ L _ _ V _ _ D P T r b _ (Kd.R_reads' HX.out.rL).2.2 (Kd.R_reads' HX.out.rL).2.1 (Kd.R_reads' HX.out.rV).2.2 (Kd.R_reads' HX.out.rV).2.1 (Kd.R_reads' HX.out.rD).2.2 (Kd.R_reads' HX.out.rD).2.1 HG2.out).mono ?_;rintro e wd ⟨v_,rfl,ho,hb⟩;refine ⟨_,rfl,?_⟩;obtain ⟨A4,cA4,ee_⟩:=Kd.R_slice ho;subst ee_;clear hcz0 hcz1 hcz2 hcz3 hcz4 hfz0 hfz1 hfz2 hfz3 hfz4;have R4:=ak (Kd.R_lower ho (below_size HB.out));replace HX:=ak (HX.out.below hb);replace Bq3:=ak (bb_ Bq3.out hb);replace HB:=ak (below_step HB.out hb);clear ho hb;obtain ⟨hcz0,hcz1,hcz2,hcz3,hcz4⟩:=cz5_ Bq3.out;obtain ⟨hfz0,hfz1,hfz2,hfz3,hfz4⟩:=fz5_ Bq3.out)|((with_reducible refine gate_callee (f:=48) rfl ?_);refine ga_ (some 42) Try.func48 #[.agg #[.slice A0 L.length c0,.slice A1 V.length c1,.slice A2 D.length c2,.int .i64 P,.int .i64 T]] ?_;refine (spec_NextLegs.calls 1000500 _ _ L _ _ V _ _ D P T r b _ (Kd.R_reads' HX.out.rL).2.2 (Kd.R_reads' HX.out.rL).2.1 (Kd.R_reads' HX.out.rV).2.2 (Kd.R_reads' HX.out.rV).2.1 (Kd.R_reads' HX.out.rD).2.2 (Kd.R_reads' HX.out.rD).2.1 HG1.out).mono ?_;rintro e we ⟨v_,rfl,ho,hb⟩;refine ⟨_,rfl,?_⟩;obtain ⟨A6,cA6,ee_⟩:=Kd.R_slice ho;subst ee_;clear hcz0 hcz1 hcz2 hcz3 hcz4 hfz0 hfz1 hfz2 hfz3 hfz4;have R6:=ak (Kd.R_lower ho (below_size HB.out));replace HX:=ak (HX.out.below hb);replace Bq3:=ak (bb_ Bq3.out hb);replace R4:=ak (Kd.R_below R4.out hb);replace HB:=ak (below_step HB.out hb);clear ho hb;obtain ⟨hcz0,hcz1,hcz2,hcz3,hcz4⟩:=cz5_ Bq3.out;obtain ⟨hfz0,hfz1,hfz2,hfz3,hfz4⟩:=fz5_ Bq3.out)|(go_at_call 56;refine (laws_vInts.calls 1000500 _ _ r _ _ r true _ (Kd.R_reads' R4.out).2.2 (Kd.R_reads' R4.out).2.1 (Kd.R_reads' R6.out).2.2 (Kd.R_reads' R6.out).2.1 (vInts_eq (by have:=HLR.out;omega))).mono ?_;rintro e w' ⟨rfl,⟨nd,rfl⟩⟩;have hb:=pw_below_drewN (Below.refl we.heap.size we) nd;clear hcz0 hcz1 hcz2 hcz3 hcz4 hfz0 hfz1 hfz2 hfz3 hfz4;replace HX:=ak (HX.out.below hb);replace Bq3:=ak (bb_ Bq3.out hb);replace R4:=ak (Kd.R_below R4.out hb);replace HB:=ak (below_step HB.out hb);clear hb;generalize we.drewN nd = wf at HB HX Bq3 R4 ⊢;obtain ⟨hcz0,hcz1,hcz2,hcz3,hcz4⟩:=cz5_ Bq3.out;obtain ⟨hfz0,hfz1,hfz2,hfz3,hfz4⟩:=fz5_ Bq3.out))
  clear hcz0 hcz1 hcz2 hcz3 hcz4 hfz0 hfz1 hfz2 hfz3 hfz4
  clear nb HG1 HG2
  go_upto_block 0 with fail
  (try simp only [Act.put,List.setIfInBounds_toArray,List.set_cons_zero,List.set_cons_succ])
  go_cut [] (fun wc_=>Aside0 (Below w.heap.size w wc_))
  case first=>
   go_wp2_with fail
   go_loopg [8] L.length (fun n v8 wc_=>∃ i:Int,v8 = .int .i64 i /\ Aside0 (0 <= i /\ i + n = L.length) /\ Aside0 (Below w.heap.size w wc_) /\ Aside0 (XRow wc_ w.heap.size A0 A1 A2 c0 c1 c2 L V D) /\ Aside0 (wc_.heap[q3]? = some (.cells #[.slice A0 L.length c0,.slice A1 V.length c1,.slice A2 D.length c2,.int .i64 P,.int .i64 T] 30 (0,0))) /\ Aside0 (Kd.R (Kd.int .i64) 3 wc_ w.heap.size (fun _=>True) (.slice A4 r.length cA4) r))
   case atStart=>exact ⟨0,rfl,⟨by omega⟩,HB,HX,Bq3,R4⟩
   case round=>
    clear HB HX Bq3 R4
    obtain ⟨i,rfl,Hi,HB,HX,Bq3,R4⟩:=hrel
    obtain ⟨hcz0,hcz1,hcz2,hcz3,hcz4⟩:=cz5_ Bq3.out;obtain ⟨hfz0,hfz1,hfz2,hfz3,hfz4⟩:=fz5_ Bq3.out
    have i0:0 <= i:=Hi.out.1
    by_cases hi:i < (L.length:Int)
    rotate_left
    .
     have qi:decide (i < (L.length:Int)) = false:=decide_eq_false hi
     go_wp2_with fail
     go_meet
     case rel=>exact HB
    have qi:decide (i < (L.length:Int)) = true:=decide_eq_true hi
    cases b with
    | false=>
     go_wp2_with fail
     go_meet
     case rel=>exact HB
    | true=>
     obtain ⟨L',V',D',P',T',q,hW,hv,hT⟩:=HNX.out rfl i i0 hi
     replace hi:=ak hi
     have HW:=ak hW
     have HV:=ak hv
     have HT:=ak hT
     clear hW hv hT
     go_upto_region 12 with (first|((with_reducible refine gate_callee (f:=22) rfl ?_);refine ga_ (some 68) Try.func22 #[.agg #[.slice A0 L.length c0,.slice A1 V.length c1,.slice A2 D.length c2,.int .i64 P,.int .i64 T],.agg #[.int .i64 1,.int .i64 i,.int .i64 0,.int .i64 0,.int .i64 0,.int .i64 0,.int .i64 0]] ?_;refine (impl_WalkOn.calls 1000500 _ _ L _ _ V _ _ D P T 1 i 0 0 0 0 0 L' V' D' P' T' q _ (Kd.R_reads' HX.out.rL).2.2 (Kd.R_reads' HX.out.rL).2.1 (Kd.R_reads' HX.out.rV).2.2 (Kd.R_reads' HX.out.rV).2.1 (Kd.R_reads' HX.out.rD).2.2 (Kd.R_reads' HX.out.rD).2.1 HW.out).mono ?_;rintro e wh ⟨u0,u1,u2,rfl,o0,o1,o2,hb⟩;refine ⟨_,rfl,?_⟩;obtain ⟨B0,d0,e_⟩:=Kd.R_slice o0;subst e_;obtain ⟨B1,d1,e_⟩:=Kd.R_slice o1;subst e_;obtain ⟨B2,d2,e_⟩:=Kd.R_slice o2;subst e_;clear o0 o1 o2;clear hcz0 hcz1 hcz2 hcz3 hcz4 hfz0 hfz1 hfz2 hfz3 hfz4;replace HX:=ak (HX.out.below hb);replace Bq3:=ak (bb_ Bq3.out hb);replace R4:=ak (Kd.R_below R4.out hb);replace HB:=ak (below_step HB.out hb);clear hb;obtain ⟨hcz0,hcz1,hcz2,hcz3,hcz4⟩:=cz5_ Bq3.out;obtain ⟨hfz0,hfz1,hfz2,hfz3,hfz4⟩:=fz5_ Bq3.out)|((with_reducible refine gate_dst (N:=9) rfl ?_);refine box_event ?hg (N:=9) ?hd (cs:=#[.slice none 0 0,.slice none 0 0,.slice none 0 0,.int .i64 0,.int .i64 0]) (t:=30) ?hr ?_;(case hd=>rfl);(case hg=>rfl);(case hr=>first|(go_simp;done)|(go_simp;rfl));intro q9 hg wj hbox hb;have Gq9:=ak (show w.heap.size <= q9 from by rw [hg];exact below_size HB.out);have Nq3_q9:=ak (nl_ hg Bq3.out);have Bq9:=ak hbox;replace HX:=ak (HX.out.below hb);replace Bq3:=ak (bb_ Bq3.out hb);replace R4:=ak (Kd.R_below R4.out hb);replace HB:=ak (below_step HB.out hb);clear hb hbox hg;clear hcz0 hcz1 hcz2 hcz3 hcz4 hfz0 hfz1 hfz2 hfz3 hfz4;obtain ⟨hcz0,hcz1,hcz2,hcz3,hcz4⟩:=cz5_ Bq3.out;obtain ⟨hfz0,hfz1,hfz2,hfz3,hfz4⟩:=fz5_ Bq3.out;obtain ⟨hczy0,hczy1,hczy2,hczy3,hczy4⟩:=cz5_ Bq9.out;obtain ⟨hfzy0,hfzy1,hfzy2,hfzy3,hfzy4⟩:=fz5_ Bq9.out)|((with_reducible refine gate_store (t:=30) (p:=9) rfl ?_);refine store_event (t:=30) (p:=9) (v:=?vz_) (w1:=(((((wj.setCell ⟨q9,0,none⟩ (.slice B0 L'.length d0)).setCell ⟨q9,1,none⟩ (.slice B1 V'.length d1)).setCell ⟨q9,2,none⟩ (.slice B2 D'.length d2)).setCell ⟨q9,3,none⟩ (.int .i64 P')).setCell ⟨q9,4,none⟩ (.int .i64 T'))) ?hg ?ho ?hn ?hr ?_;(case ho=>rfl);(case hg=>rfl);(case hn=>rfl);(case hr=>first|(go_simp;done)|(go_simp;rfl));intro wk hw;clear hcz0 hcz1 hcz2 hcz3 hcz4 hfz0 hfz1 hfz2 hfz3 hfz4;clear hczy0 hczy1 hczy2 hczy3 hczy4 hfzy0 hfzy1 hfzy2 hfzy3 hfzy4;have n0_:=HX.out.sets Bq9.out (.slice B0 L'.length d0) (.slice B1 V'.length d1) (.slice B2 D'.length d2) (.int .i64 P') (.int .i64 T');rw [<- hw] at n0_;have n1_:=own_blk5 Bq9.out (.slice B0 L'.length d0) (.slice B1 V'.length d1) (.slice B2 D'.length d2) (.int .i64 P') (.int .i64 T');rw [<- hw] at n1_;have n2_:Below w.heap.size w (((((wj.setCell ⟨q9,0,none⟩ (.slice B0 L'.length d0)).setCell ⟨q9,1,none⟩ (.slice B1 V'.length d1)).setCell ⟨q9,2,none⟩ (.slice B2 D'.length d2)).setCell ⟨q9,3,none⟩ (.int .i64 P')).setCell ⟨q9,4,none⟩ (.int .i64 T')):=below_set (below_set (below_set (below_set (below_set HB.out Gq9.out) Gq9.out) Gq9.out) Gq9.out) Gq9.out;rw [<- hw] at n2_;have n3_:=farN5_ Bq3.out Nq3_q9.out (.slice B0 L'.length d0) (.slice B1 V'.length d1) (.slice B2 D'.length d2) (.int .i64 P') (.int .i64 T');rw [<- hw] at n3_;have n4_:=own_R5 R4.out Bq9.out (by decide) (.slice B0 L'.length d0) (.slice B1 V'.length d1) (.slice B2 D'.length d2) (.int .i64 P') (.int .i64 T');rw [<- hw] at n4_;clear hw HX Bq9 HB Bq3 R4;have HX:=ak n0_;have Bq9:=ak n1_;have HB:=ak n2_;have Bq3:=ak n3_;have R4:=ak n4_;clear n0_ n1_ n2_ n3_ n4_))
     obtain ⟨ad,e0,x0,x1,x2,x3,x4⟩:=at_T37 (Kd.R_reads' HX.out.rL).2.2 i i0 hi.out
     cases e0
     obtain ⟨hcz0,hcz1,hcz2,hcz3,hcz4⟩:=cz5_ Bq3.out;obtain ⟨hfz0,hfz1,hfz2,hfz3,hfz4⟩:=fz5_ Bq3.out
     obtain ⟨hczy0,hczy1,hczy2,hczy3,hczy4⟩:=cz5_ Bq9.out;obtain ⟨hfzy0,hfzy1,hfzy2,hfzy3,hfzy4⟩:=fz5_ Bq9.out
     have p1:(0 <= i) = True:=eq_true i0
     have p2:(i < (L.length:Int)) = True:=eq_true hi.out
     clear i0
     have nt:q = true -> (T' != wrap64 (T - (rd_T37 L i).f2)) = false:=fun hq=>by rw [HT.out hq];exact bne_self_eq_false _
     have nqq:(q != q) = false:=bne_self_eq_false q
     clear HT HW qi
     cases q with
     | true=>
      replace nt:=nt rfl
      go_quiet (first|(go_at_call 57;(with_reducible refine (laws_vHas.calls 1000500 _ _ r i _ _ ?side1 ?side2 HV.out).mono ?_);(case side1=>exact kc_ (Kd.R_reads' R4.out).2.2);(case side2=>exact (Kd.R_reads' R4.out).2.1);rintro e w' ⟨rfl,⟨nd,rfl⟩⟩;(try first|exact ⟨rfl,_,World.drewN_drewN _ _ _⟩|exact ⟨rfl,_,Eq.trans (World.drewN_drewN _ _ _) (congrArg (World.drewN _) (Nat.add_assoc _ _ _))⟩)))
      have hb:=below_at (Eq.refl (wk.drewN nq)) (Below.refl wk.heap.size wk)
      replace HX:=ak (HX.out.below hb)
      replace Bq3:=ak (bb_ Bq3.out hb)
      replace R4:=ak (Kd.R_below R4.out hb)
      replace HB:=ak (below_step HB.out hb)
      clear hb hcz0 hcz1 hcz2 hcz3 hcz4 hfz0 hfz1 hfz2 hfz3 hfz4 hczy0 hczy1 hczy2 hczy3 hczy4 hfzy0 hfzy1 hfzy2 hfzy3 hfzy4 x0 x1 x2 x3 x4 Bq9
      generalize wk.drewN nq = wm at HX Bq3 R4 HB ⊢
      go_wp2_with fail
      cases gk with
      | zero=>have h1:=Hi.out;have h2:=hi.out;omega
      | succ gk=>
       go_roundg gk
       case measure=>omega
       case rel=>exact ⟨i + 1,(by first|rfl|(have h1:=HX.out.nL;have h2:=hi.out;have h3:=Hi.out;rw [w64 (by omega) (by omega)])),⟨by have h1:=Hi.out;omega⟩,HB,HX,Bq3,R4⟩
     | false=>
      clear nt
      go_quiet (first|(go_at_call 57;(with_reducible refine (laws_vHas.calls 1000500 _ _ r i _ _ ?side1 ?side2 HV.out).mono ?_);(case side1=>exact kc_ (Kd.R_reads' R4.out).2.2);(case side2=>exact (Kd.R_reads' R4.out).2.1);rintro e w' ⟨rfl,⟨nd,rfl⟩⟩;(try first|exact ⟨rfl,_,World.drewN_drewN _ _ _⟩|exact ⟨rfl,_,Eq.trans (World.drewN_drewN _ _ _) (congrArg (World.drewN _) (Nat.add_assoc _ _ _))⟩)))
      have hb:=below_at (Eq.refl (wk.drewN nq)) (Below.refl wk.heap.size wk)
      replace HX:=ak (HX.out.below hb)
      replace Bq3:=ak (bb_ Bq3.out hb)
      replace R4:=ak (Kd.R_below R4.out hb)
      replace HB:=ak (below_step HB.out hb)
      clear hb hcz0 hcz1 hcz2 hcz3 hcz4 hfz0 hfz1 hfz2 hfz3 hfz4 hczy0 hczy1 hczy2 hczy3 hczy4 hfzy0 hfzy1 hfzy2 hfzy3 hfzy4 x0 x1 x2 x3 x4 Bq9
      generalize wk.drewN nq = wm at HX Bq3 R4 HB ⊢
      go_wp2_with fail
      cases gk with
      | zero=>have h1:=Hi.out;have h2:=hi.out;omega
      | succ gk=>
       go_roundg gk
       case measure=>omega
       case rel=>exact ⟨i + 1,(by first|rfl|(have h1:=HX.out.nL;have h2:=hi.out;have h3:=Hi.out;rw [w64 (by omega) (by omega)])),⟨by have h1:=Hi.out;omega⟩,HB,HX,Bq3,R4⟩
  case rest=>
   clear HB HX Bq3 R4 HNX HLR Gq3
   have HB:=hcut
   clear hcut
   go_upto_region 15 with (first|((with_reducible refine gate_callee (f:=58) rfl ?_);refine ga_ (some 94) Try.func58 #[.slice A l.length c] ?_;refine (drawOpenE hx (Kd.C_below hr HB.out) hc).mono ?_;rintro e wa ⟨A0,A1,A2,c0,c1,c2,L,V,D,P,T,rfl,hX,hb⟩;refine ⟨_,rfl,?_⟩;have HX:=ak (hX.lower (below_size HB.out));replace HB:=ak (below_step HB.out hb);clear hX hb)|((with_reducible refine gate_dst (N:=11) rfl ?_);refine box_event ?hg (N:=11) ?hd (cs:=#[.slice none 0 0,.slice none 0 0,.slice none 0 0,.int .i64 0,.int .i64 0]) (t:=30) ?hr ?_;(case hd=>rfl);(case hg=>rfl);(case hr=>first|(go_simp;done)|(go_simp;rfl));intro q11 hg wb hbox hb;have Gq11:=ak (show w.heap.size <= q11 from by rw [hg];exact below_size HB.out);have Bq11:=ak hbox;replace HX:=ak (HX.out.below hb);replace HB:=ak (below_step HB.out hb);clear hb hbox hg;obtain ⟨hcz0,hcz1,hcz2,hcz3,hcz4⟩:=cz5_ Bq11.out;obtain ⟨hfz0,hfz1,hfz2,hfz3,hfz4⟩:=fz5_ Bq11.out)|((with_reducible refine gate_store (t:=30) (p:=11) rfl ?_);refine store_event (t:=30) (p:=11) (v:=?vo11_) (w1:=(((((wb.setCell ⟨q11,0,none⟩ (.slice A0 L.length c0)).setCell ⟨q11,1,none⟩ (.slice A1 V.length c1)).setCell ⟨q11,2,none⟩ (.slice A2 D.length c2)).setCell ⟨q11,3,none⟩ (.int .i64 P)).setCell ⟨q11,4,none⟩ (.int .i64 T))) ?hg ?ho ?hn ?hr ?_;(case ho=>rfl);(case hg=>rfl);(case hn=>rfl);(case hr=>first|(go_simp;done)|(go_simp;rfl));intro wd hw;clear hcz0 hcz1 hcz2 hcz3 hcz4 hfz0 hfz1 hfz2 hfz3 hfz4;have n0_:=HX.out.sets Bq11.out (.slice A0 L.length c0) (.slice A1 V.length c1) (.slice A2 D.length c2) (.int .i64 P) (.int .i64 T);rw [<- hw] at n0_;have n1_:=own_blk5 Bq11.out (.slice A0 L.length c0) (.slice A1 V.length c1) (.slice A2 D.length c2) (.int .i64 P) (.int .i64 T);rw [<- hw] at n1_;have n2_:Below w.heap.size w (((((wb.setCell ⟨q11,0,none⟩ (.slice A0 L.length c0)).setCell ⟨q11,1,none⟩ (.slice A1 V.length c1)).setCell ⟨q11,2,none⟩ (.slice A2 D.length c2)).setCell ⟨q11,3,none⟩ (.int .i64 P)).setCell ⟨q11,4,none⟩ (.int .i64 T)):=below_set (below_set (below_set (below_set (below_set HB.out Gq11.out) Gq11.out) Gq11.out) Gq11.out) Gq11.out;rw [<- hw] at n2_;clear hw HX Bq11 HB;have HX:=ak n0_;have Bq11:=ak n1_;have HB:=ak n2_;clear n0_ n1_ n2_;obtain ⟨hcz0,hcz1,hcz2,hcz3,hcz4⟩:=cz5_ Bq11.out;obtain ⟨hfz0,hfz1,hfz2,hfz3,hfz4⟩:=fz5_ Bq11.out))
   obtain ⟨r,b,g1,g2,hlr,hmm⟩:=open_law L (by have:=HX.out.nL;omega) V D (by have:=HX.out.nD;omega) P T
   have HG1:=ak g1
   have HG2:=ak g2
   have HLR:=ak hlr
   have HM:=ak hmm
   clear g1 g2 hlr hmm
   have nb:(b != b) = false:=bne_self_eq_false b
   go_upto_region 19 with (first|((with_reducible refine gate_callee (f:=44) rfl ?_);refine ga_ (some 97) Try.func44 #[.agg #[.slice A0 L.length c0,.slice A1 V.length c1,.slice A2 D.length c2,.int .i64 P,.int .i64 T]] ?_;refine (impl_OpenLeads.calls 1000500 _ _ L _ _ V _ _ D P T r b _ (Kd.R_reads' HX.out.rL).2.2 (Kd.R_reads' HX.out.rL).2.1 (Kd.R_reads' HX.out.rV).2.2 (Kd.R_reads' HX.out.rV).2.1 (Kd.R_reads' HX.out.rD).2.2 (Kd.R_reads' HX.out.rD).2.1 HG2.out).mono ?_;rintro e we ⟨v_,rfl,ho,hb⟩;refine ⟨_,rfl,?_⟩;obtain ⟨A12,cA12,ee_⟩:=Kd.R_slice ho;subst ee_;clear hcz0 hcz1 hcz2 hcz3 hcz4 hfz0 hfz1 hfz2 hfz3 hfz4;have R12:=ak (Kd.R_lower ho (below_size HB.out));replace HX:=ak (HX.out.below hb);replace Bq11:=ak (bb_ Bq11.out hb);replace HB:=ak (below_step HB.out hb);clear ho hb;obtain ⟨hcz0,hcz1,hcz2,hcz3,hcz4⟩:=cz5_ Bq11.out;obtain ⟨hfz0,hfz1,hfz2,hfz3,hfz4⟩:=fz5_ Bq11.out)|((with_reducible refine gate_callee (f:=43) rfl ?_);refine ga_ (some 102) Try.func43 #[.agg #[.slice A0 L.length c0,.slice A1 V.length c1,.slice A2 D.length c2,.int .i64 P,.int .i64 T]] ?_;refine (spec_OpenLeads.calls 1000500 _ _ L _ _ V _ _ D P T r b _ (Kd.R_reads' HX.out.rL).2.2 (Kd.R_reads' HX.out.rL).2.1 (Kd.R_reads' HX.out.rV).2.2 (Kd.R_reads' HX.out.rV).2.1 (Kd.R_reads' HX.out.rD).2.2 (Kd.R_reads' HX.out.rD).2.1 HG1.out).mono ?_;rintro e wf ⟨v_,rfl,ho,hb⟩;refine ⟨_,rfl,?_⟩;obtain ⟨A14,cA14,ee_⟩:=Kd.R_slice ho;subst ee_;clear hcz0 hcz1 hcz2 hcz3 hcz4 hfz0 hfz1 hfz2 hfz3 hfz4;have R14:=ak (Kd.R_lower ho (below_size HB.out));replace HX:=ak (HX.out.below hb);replace Bq11:=ak (bb_ Bq11.out hb);replace R12:=ak (Kd.R_below R12.out hb);replace HB:=ak (below_step HB.out hb);clear ho hb;obtain ⟨hcz0,hcz1,hcz2,hcz3,hcz4⟩:=cz5_ Bq11.out;obtain ⟨hfz0,hfz1,hfz2,hfz3,hfz4⟩:=fz5_ Bq11.out)|(go_at_call 56;refine (laws_vInts.calls 1000500 _ _ r _ _ r true _ (Kd.R_reads' R12.out).2.2 (Kd.R_reads' R12.out).2.1 (Kd.R_reads' R14.out).2.2 (Kd.R_reads' R14.out).2.1 (vInts_eq (by have:=HLR.out;omega))).mono ?_;rintro e w' ⟨rfl,⟨nd,rfl⟩⟩;have hb:=pw_below_drewN (Below.refl wf.heap.size wf) nd;clear hcz0 hcz1 hcz2 hcz3 hcz4 hfz0 hfz1 hfz2 hfz3 hfz4;replace HX:=ak (HX.out.below hb);replace Bq11:=ak (bb_ Bq11.out hb);replace R12:=ak (Kd.R_below R12.out hb);replace HB:=ak (below_step HB.out hb);clear hb;generalize wf.drewN nd = wg at HB HX Bq11 R12 ⊢;obtain ⟨hcz0,hcz1,hcz2,hcz3,hcz4⟩:=cz5_ Bq11.out;obtain ⟨hfz0,hfz1,hfz2,hfz3,hfz4⟩:=fz5_ Bq11.out))
   clear hcz0 hcz1 hcz2 hcz3 hcz4 hfz0 hfz1 hfz2 hfz3 hfz4
   clear nb HG1 HG2
   go_upto_block 2 with fail
   (try simp only [Act.put,List.setIfInBounds_toArray,List.set_cons_zero,List.set_cons_succ])
   go_cut [] (fun wc_=>Aside0 (Below w.heap.size w wc_))
   case first=>
    go_wp2_with fail
    go_loopg [16] r.length (fun n v16 wc_=>∃ i:Int,v16 = .int .i64 i /\ Aside0 (0 <= i /\ i + n = r.length) /\ Aside0 (Below w.heap.size w wc_) /\ Aside0 (XRow wc_ w.heap.size A0 A1 A2 c0 c1 c2 L V D) /\ Aside0 (wc_.heap[q11]? = some (.cells #[.slice A0 L.length c0,.slice A1 V.length c1,.slice A2 D.length c2,.int .i64 P,.int .i64 T] 30 (0,0))) /\ Aside0 (Kd.R (Kd.int .i64) 3 wc_ w.heap.size (fun _=>True) (.slice A12 r.length cA12) r))
    case atStart=>exact ⟨0,rfl,⟨by omega⟩,HB,HX,Bq11,R12⟩
    case round=>
     clear HB HX Bq11 R12
     obtain ⟨i,rfl,Hi,HB,HX,Bq11,R12⟩:=hrel
     have i0:0 <= i:=Hi.out.1
     by_cases hi:i < (r.length:Int)
     rotate_left
     .
      have qi:decide (i < (r.length:Int)) = false:=decide_eq_false hi
      go_wp2_with fail
      go_meet
      case rel=>exact HB
     have qi:decide (i < (r.length:Int)) = true:=decide_eq_true hi
     go_upto_region 22 with fail
     clear qi
     obtain ⟨ad,e0,x0⟩:=Kd.at_int (Kd.R_reads' R12.out).2.2 i i0 hi
     cases e0
     have hy:=HM.out (rd r i) (rdI_mem r i0 hi)
     have H0:=ak hy
     clear hy
     have p1:(0 <= i) = True:=eq_true i0
     have p2:(i < (r.length:Int)) = True:=eq_true hi
     replace hi:=ak hi
     clear i0
     obtain ⟨ad2,e1,x1⟩:=Kd.at_bool (Kd.R_reads' HX.out.rD).2.2 (rd r i) H0.out.1 H0.out.2.1
     cases e1
     rw [H0.out.2.2] at x1
     generalize rd r i = y at H0 x0 x1
     have n1:decide (y < 0) = false:=decide_eq_false (by have:=H0.out.1;omega)
     have n2:decide (y >= (D.length:Int)) = false:=decide_eq_false (by have:=H0.out.2.1;omega)
     have n2':decide ((D.length:Int) <= y) = false:=decide_eq_false (by have:=H0.out.2.1;omega)
     have p3:(0 <= y) = True:=eq_true H0.out.1
     have p4:(y < (D.length:Int)) = True:=eq_true H0.out.2.1
     obtain ⟨hcz0,hcz1,hcz2,hcz3,hcz4⟩:=cz5_ Bq11.out;obtain ⟨hfz0,hfz1,hfz2,hfz3,hfz4⟩:=fz5_ Bq11.out
     go_quiet (fail)
     have hb:=below_at (Eq.refl (wr.drewN nq)) (Below.refl wr.heap.size wr)
     replace HX:=ak (HX.out.below hb)
     replace Bq11:=ak (bb_ Bq11.out hb)
     replace R12:=ak (Kd.R_below R12.out hb)
     replace HB:=ak (below_step HB.out hb)
     clear hb x0 x1 hcz0 hcz1 hcz2 hcz3 hcz4 hfz0 hfz1 hfz2 hfz3 hfz4
     generalize wr.drewN nq = wm at HX Bq11 R12 HB ⊢
     go_wp2_with fail
     cases gk with
     | zero=>have h1:=Hi.out;have h2:=hi.out;omega
     | succ gk=>
      go_roundg gk
      case measure=>omega
      case rel=>exact ⟨i + 1,(by first|rfl|(have h1:=HLR.out;have h2:=hi.out;have h3:=Hi.out;rw [w64 (by omega) (by omega)])),⟨by have h1:=Hi.out;omega⟩,HB,HX,Bq11,R12⟩
   case rest=>
    clear HB HX Bq11 R12 HM HLR Gq11
    have HB:=hcut
    clear hcut
    go_upto_region 25 with (first|((with_reducible refine gate_callee (f:=59) rfl ?_);refine ga_ (some 147) Try.func59 #[.slice A l.length c] ?_;refine (drawOutE hx (Kd.C_below hr HB.out) hc).mono ?_;rintro e wa ⟨A0,A1,A2,c0,c1,c2,L,V,D,P,T,rfl,hX,hb⟩;refine ⟨_,rfl,?_⟩;have HX:=ak (hX.lower (below_size HB.out));replace HB:=ak (below_step HB.out hb);clear hX hb)|((with_reducible refine gate_dst (N:=17) rfl ?_);refine box_event ?hg (N:=17) ?hd (cs:=#[.slice none 0 0,.slice none 0 0,.slice none 0 0,.int .i64 0,.int .i64 0]) (t:=30) ?hr ?_;(case hd=>rfl);(case hg=>rfl);(case hr=>first|(go_simp;done)|(go_simp;rfl));intro q17 hg wb hbox hb;have Gq17:=ak (show w.heap.size <= q17 from by rw [hg];exact below_size HB.out);have Bq17:=ak hbox;replace HX:=ak (HX.out.below hb);replace HB:=ak (below_step HB.out hb);clear hb hbox hg;obtain ⟨hcz0,hcz1,hcz2,hcz3,hcz4⟩:=cz5_ Bq17.out;obtain ⟨hfz0,hfz1,hfz2,hfz3,hfz4⟩:=fz5_ Bq17.out)|((with_reducible refine gate_store (t:=30) (p:=17) rfl ?_);refine store_event (t:=30) (p:=17) (v:=?vo17_) (w1:=(((((wb.setCell ⟨q17,0,none⟩ (.slice A0 L.length c0)).setCell ⟨q17,1,none⟩ (.slice A1 V.length c1)).setCell ⟨q17,2,none⟩ (.slice A2 D.length c2)).setCell ⟨q17,3,none⟩ (.int .i64 P)).setCell ⟨q17,4,none⟩ (.int .i64 T))) ?hg ?ho ?hn ?hr ?_;(case ho=>rfl);(case hg=>rfl);(case hn=>rfl);(case hr=>first|(go_simp;done)|(go_simp;rfl));intro wd hw;clear hcz0 hcz1 hcz2 hcz3 hcz4 hfz0 hfz1 hfz2 hfz3 hfz4;have n0_:=HX.out.sets Bq17.out (.slice A0 L.length c0) (.slice A1 V.length c1) (.slice A2 D.length c2) (.int .i64 P) (.int .i64 T);rw [<- hw] at n0_;have n1_:=own_blk5 Bq17.out (.slice A0 L.length c0) (.slice A1 V.length c1) (.slice A2 D.length c2) (.int .i64 P) (.int .i64 T);rw [<- hw] at n1_;have n2_:Below w.heap.size w (((((wb.setCell ⟨q17,0,none⟩ (.slice A0 L.length c0)).setCell ⟨q17,1,none⟩ (.slice A1 V.length c1)).setCell ⟨q17,2,none⟩ (.slice A2 D.length c2)).setCell ⟨q17,3,none⟩ (.int .i64 P)).setCell ⟨q17,4,none⟩ (.int .i64 T)):=below_set (below_set (below_set (below_set (below_set HB.out Gq17.out) Gq17.out) Gq17.out) Gq17.out) Gq17.out;rw [<- hw] at n2_;clear hw HX Bq17 HB;have HX:=ak n0_;have Bq17:=ak n1_;have HB:=ak n2_;clear n0_ n1_ n2_;obtain ⟨hcz0,hcz1,hcz2,hcz3,hcz4⟩:=cz5_ Bq17.out;obtain ⟨hfz0,hfz1,hfz2,hfz3,hfz4⟩:=fz5_ Bq17.out))
    obtain ⟨r,s,b,g1,g2,g3,g4⟩:=out_law L (by have:=HX.out.nL;omega) V D P T
    have HG1:=ak g1
    have HG2:=ak g2
    have HG3:=ak g3
    have HG4:=ak g4
    clear g1 g2 g3 g4
    have nb:(b != b) = false:=bne_self_eq_false b
    have nr:(r != r) = false:=bne_self_eq_false r
    have ns:(s != s) = false:=bne_self_eq_false s
    go_upto_region 33 with (first|((with_reducible refine gate_callee (f:=26) rfl ?_);refine ga_ (some 150) Try.func26 #[.agg #[.slice A0 L.length c0,.slice A1 V.length c1,.slice A2 D.length c2,.int .i64 P,.int .i64 T]] ?_;refine (impl_WayOut.calls 1000500 _ _ L _ _ V _ _ D P T r b _ (Kd.R_reads' HX.out.rL).2.2 (Kd.R_reads' HX.out.rL).2.1 (Kd.R_reads' HX.out.rV).2.2 (Kd.R_reads' HX.out.rV).2.1 (Kd.R_reads' HX.out.rD).2.2 (Kd.R_reads' HX.out.rD).2.1 HG2.out).mono ?_;rintro e we ⟨rfl,hb⟩;refine ⟨_,rfl,?_⟩;clear hcz0 hcz1 hcz2 hcz3 hcz4 hfz0 hfz1 hfz2 hfz3 hfz4;replace HX:=ak (HX.out.below hb);replace Bq17:=ak (bb_ Bq17.out hb);replace HB:=ak (below_step HB.out hb);clear hb;obtain ⟨hcz0,hcz1,hcz2,hcz3,hcz4⟩:=cz5_ Bq17.out;obtain ⟨hfz0,hfz1,hfz2,hfz3,hfz4⟩:=fz5_ Bq17.out)|((with_reducible refine gate_callee (f:=34) rfl ?_);refine ga_ (some 155) Try.func34 #[.agg #[.slice A0 L.length c0,.slice A1 V.length c1,.slice A2 D.length c2,.int .i64 P,.int .i64 T]] ?_;refine (spec_WayOut.calls 1000500 _ _ L _ _ V _ _ D P T r b _ (Kd.R_reads' HX.out.rL).2.2 (Kd.R_reads' HX.out.rL).2.1 (Kd.R_reads' HX.out.rV).2.2 (Kd.R_reads' HX.out.rV).2.1 (Kd.R_reads' HX.out.rD).2.2 (Kd.R_reads' HX.out.rD).2.1 HG1.out).mono ?_;rintro e wf ⟨rfl,hb⟩;refine ⟨_,rfl,?_⟩;clear hcz0 hcz1 hcz2 hcz3 hcz4 hfz0 hfz1 hfz2 hfz3 hfz4;replace HX:=ak (HX.out.below hb);replace Bq17:=ak (bb_ Bq17.out hb);replace HB:=ak (below_step HB.out hb);clear hb;obtain ⟨hcz0,hcz1,hcz2,hcz3,hcz4⟩:=cz5_ Bq17.out;obtain ⟨hfz0,hfz1,hfz2,hfz3,hfz4⟩:=fz5_ Bq17.out)|((with_reducible refine gate_callee (f:=25) rfl ?_);refine ga_ (some 168) Try.func25 #[.agg #[.slice A0 L.length c0,.slice A1 V.length c1,.slice A2 D.length c2,.int .i64 P,.int .i64 T]] ?_;refine (impl_SpareLight.calls 1000500 _ _ L _ _ V _ _ D P T s b _ (Kd.R_reads' HX.out.rL).2.2 (Kd.R_reads' HX.out.rL).2.1 (Kd.R_reads' HX.out.rV).2.2 (Kd.R_reads' HX.out.rV).2.1 (Kd.R_reads' HX.out.rD).2.2 (Kd.R_reads' HX.out.rD).2.1 HG4.out).mono ?_;rintro e wg ⟨rfl,hb⟩;refine ⟨_,rfl,?_⟩;clear hcz0 hcz1 hcz2 hcz3 hcz4 hfz0 hfz1 hfz2 hfz3 hfz4;replace HX:=ak (HX.out.below hb);replace Bq17:=ak (bb_ Bq17.out hb);replace HB:=ak (below_step HB.out hb);clear hb;obtain ⟨hcz0,hcz1,hcz2,hcz3,hcz4⟩:=cz5_ Bq17.out;obtain ⟨hfz0,hfz1,hfz2,hfz3,hfz4⟩:=fz5_ Bq17.out)|((with_reducible refine gate_callee (f:=35) rfl ?_);refine ga_ (some 173) Try.func35 #[.agg #[.slice A0 L.length c0,.slice A1 V.length c1,.slice A2 D.length c2,.int .i64 P,.int .i64 T]] ?_;refine (spec_SpareLight.calls 1000500 _ _ L _ _ V _ _ D P T s b _ (Kd.R_reads' HX.out.rL).2.2 (Kd.R_reads' HX.out.rL).2.1 (Kd.R_reads' HX.out.rV).2.2 (Kd.R_reads' HX.out.rV).2.1 (Kd.R_reads' HX.out.rD).2.2 (Kd.R_reads' HX.out.rD).2.1 HG3.out).mono ?_;rintro e wh ⟨rfl,hb⟩;refine ⟨_,rfl,?_⟩;clear hcz0 hcz1 hcz2 hcz3 hcz4 hfz0 hfz1 hfz2 hfz3 hfz4;replace HX:=ak (HX.out.below hb);replace Bq17:=ak (bb_ Bq17.out hb);replace HB:=ak (below_step HB.out hb);clear hb;obtain ⟨hcz0,hcz1,hcz2,hcz3,hcz4⟩:=cz5_ Bq17.out;obtain ⟨hfz0,hfz1,hfz2,hfz3,hfz4⟩:=fz5_ Bq17.out))
    clear HX Bq17 HG1 HG2 HG3 HG4 nb nr ns Gq17
    clear hcz0 hcz1 hcz2 hcz3 hcz4 hfz0 hfz1 hfz2 hfz3 hfz4
    go_upto_region 34 with (first|((with_reducible refine gate_callee (f:=60) rfl ?_);refine ga_ (some 190) Try.func60 #[.slice A l.length c] ?_;refine (drawLengthE hx (Kd.C_below hr HB.out) hc).mono ?_;rintro e wa ⟨A0,A1,A2,c0,c1,c2,L,V,D,P,T,rfl,hX,hb⟩;refine ⟨_,rfl,?_⟩;have HX:=ak (hX.lower (below_size HB.out));replace HB:=ak (below_step HB.out hb);clear hX hb)|((with_reducible refine gate_dst (N:=26) rfl ?_);refine box_event ?hg (N:=26) ?hd (cs:=#[.slice none 0 0,.slice none 0 0,.slice none 0 0,.int .i64 0,.int .i64 0]) (t:=30) ?hr ?_;(case hd=>rfl);(case hg=>rfl);(case hr=>first|(go_simp;done)|(go_simp;rfl));intro q26 hg wb hbox hb;have Gq26:=ak (show w.heap.size <= q26 from by rw [hg];exact below_size HB.out);have Bq26:=ak hbox;replace HX:=ak (HX.out.below hb);replace HB:=ak (below_step HB.out hb);clear hb hbox hg;obtain ⟨hcz0,hcz1,hcz2,hcz3,hcz4⟩:=cz5_ Bq26.out;obtain ⟨hfz0,hfz1,hfz2,hfz3,hfz4⟩:=fz5_ Bq26.out)|((with_reducible refine gate_store (t:=30) (p:=26) rfl ?_);refine store_event (t:=30) (p:=26) (v:=?vo26_) (w1:=(((((wb.setCell ⟨q26,0,none⟩ (.slice A0 L.length c0)).setCell ⟨q26,1,none⟩ (.slice A1 V.length c1)).setCell ⟨q26,2,none⟩ (.slice A2 D.length c2)).setCell ⟨q26,3,none⟩ (.int .i64 P)).setCell ⟨q26,4,none⟩ (.int .i64 T))) ?hg ?ho ?hn ?hr ?_;(case ho=>rfl);(case hg=>rfl);(case hn=>rfl);(case hr=>first|(go_simp;done)|(go_simp;rfl));intro wd hw;clear hcz0 hcz1 hcz2 hcz3 hcz4 hfz0 hfz1 hfz2 hfz3 hfz4;have n0_:=HX.out.sets Bq26.out (.slice A0 L.length c0) (.slice A1 V.length c1) (.slice A2 D.length c2) (.int .i64 P) (.int .i64 T);rw [<- hw] at n0_;have n1_:=own_blk5 Bq26.out (.slice A0 L.length c0) (.slice A1 V.length c1) (.slice A2 D.length c2) (.int .i64 P) (.int .i64 T);rw [<- hw] at n1_;have n2_:Below w.heap.size w (((((wb.setCell ⟨q26,0,none⟩ (.slice A0 L.length c0)).setCell ⟨q26,1,none⟩ (.slice A1 V.length c1)).setCell ⟨q26,2,none⟩ (.slice A2 D.length c2)).setCell ⟨q26,3,none⟩ (.int .i64 P)).setCell ⟨q26,4,none⟩ (.int .i64 T)):=below_set (below_set (below_set (below_set (below_set HB.out Gq26.out) Gq26.out) Gq26.out) Gq26.out) Gq26.out;rw [<- hw] at n2_;clear hw HX Bq26 HB;have HX:=ak n0_;have Bq26:=ak n1_;have HB:=ak n2_;clear n0_ n1_ n2_;obtain ⟨hcz0,hcz1,hcz2,hcz3,hcz4⟩:=cz5_ Bq26.out;obtain ⟨hfz0,hfz1,hfz2,hfz3,hfz4⟩:=fz5_ Bq26.out))
    obtain ⟨r,b,g1,g2⟩:=visitedLength_both L (by have:=HX.out.nL;omega) V D P T (k:=1000500) (by have:=HX.out.nL;omega)
    have HG1:=ak g1
    have HG2:=ak g2
    clear g1 g2
    have eb:(b == b) = true:=beq_self_eq_true b
    have er:(r == r) = true:=beq_self_eq_true r
    go_wp2_with (first|((with_reducible refine gate_callee (f:=27) rfl ?_);refine ga_ (some 193) Try.func27 #[.agg #[.slice A0 L.length c0,.slice A1 V.length c1,.slice A2 D.length c2,.int .i64 P,.int .i64 T]] ?_;refine (impl_VisitedLength.calls 1000500 _ _ L _ _ V _ _ D P T r b _ (Kd.R_reads' HX.out.rL).2.2 (Kd.R_reads' HX.out.rL).2.1 (Kd.R_reads' HX.out.rV).2.2 (Kd.R_reads' HX.out.rV).2.1 (Kd.R_reads' HX.out.rD).2.2 (Kd.R_reads' HX.out.rD).2.1 HG2.out).mono ?_;rintro e we ⟨rfl,hb⟩;refine ⟨_,rfl,?_⟩;clear hcz0 hcz1 hcz2 hcz3 hcz4 hfz0 hfz1 hfz2 hfz3 hfz4;replace HX:=ak (HX.out.below hb);replace Bq26:=ak (bb_ Bq26.out hb);replace HB:=ak (below_step HB.out hb);clear hb;obtain ⟨hcz0,hcz1,hcz2,hcz3,hcz4⟩:=cz5_ Bq26.out;obtain ⟨hfz0,hfz1,hfz2,hfz3,hfz4⟩:=fz5_ Bq26.out)|((with_reducible refine gate_callee (f:=36) rfl ?_);refine ga_ (some 198) Try.func36 #[.agg #[.slice A0 L.length c0,.slice A1 V.length c1,.slice A2 D.length c2,.int .i64 P,.int .i64 T]] ?_;refine (spec_VisitedLength.calls 1000500 _ _ L _ _ V _ _ D P T r b _ (Kd.R_reads' HX.out.rL).2.2 (Kd.R_reads' HX.out.rL).2.1 (Kd.R_reads' HX.out.rV).2.2 (Kd.R_reads' HX.out.rV).2.1 (Kd.R_reads' HX.out.rD).2.2 (Kd.R_reads' HX.out.rD).2.1 HG1.out).mono ?_;rintro e wf ⟨rfl,hb⟩;refine ⟨_,rfl,?_⟩;clear hcz0 hcz1 hcz2 hcz3 hcz4 hfz0 hfz1 hfz2 hfz3 hfz4;replace HX:=ak (HX.out.below hb);replace Bq26:=ak (bb_ Bq26.out hb);replace HB:=ak (below_step HB.out hb);clear hb;obtain ⟨hcz0,hcz1,hcz2,hcz3,hcz4⟩:=cz5_ Bq26.out;obtain ⟨hfz0,hfz1,hfz2,hfz3,hfz4⟩:=fz5_ Bq26.out))
    go_ret
    exact ⟨rfl,HB.out⟩
end Go.Proofs.Ythmjimboajmhmaa.Pr

namespace Go.Proofs.Ythmjimboajmhmaa.Pr
open Go.RowKit Go.Proofs.YthmjimboajmhmaaW.PrintWords Go.Proofs.YthmjimboajmhmaaW.PrintLast Go.Proofs.YthmjimboajmhmaaW.Opens
set_option linter.unusedVariables false
def wfL5 (l:List Int):Prop:=l.length <= maxLen /\ l.length * 1 <= 140737488351232 /\ ∀ y ∈ l,(Lit.int .u8 y).wf = true
theorem opnL34:Opn Try.prog 34 (Kd.slice 5 (Kd.int .u8)) wfL5:=Opn.slice (0:Int) (by kernel_rfl) Try.underlying34 (by kernel_rfl) (Opn.int (by kernel_rfl) Try.underlying5)
def FnExplorers.Pure:Prop:=∀ (x0:(List Int)),wfL5 x0 -> ∃ k,laws_FnExplorers.f k x0 = some true
end Go.Proofs.Ythmjimboajmhmaa.Pr

namespace Go.Proofs.Ythmjimboajmhmaa.Pr.Pure
open Go.RowKit Go.Proofs.YthmjimboajmhmaaW.PrintWords Go.Proofs.YthmjimboajmhmaaW.PrintLast Go.Proofs.YthmjimboajmhmaaW.PrintMore Go.Proofs.YthmjimboajmhmaaW.Opens
set_option linter.unusedVariables false
set_option linter.unusedSimpArgs false
theorem FnExplorers:FnExplorers.Pure:=by
 intro l0 hw
 have hc':∀ x,x ∈ l0 -> 0 <= x /\ x <= 255:=fun x hx=>by
  have h:=hw.2.2 x hx
  simp [Lit.wf,IntKind.min,IntKind.max,IntKind.signed,IntKind.bits] at h
  omega
 refine ⟨0,?_⟩
 unfold laws_FnExplorers.f
 rw [if_pos]
 rw [List.all_eq_true]
 intro x hx
 simp only [Bool.and_eq_true,decide_eq_true_eq]
 exact hc' x hx
end Go.Proofs.Ythmjimboajmhmaa.Pr.Pure

