/-
What is proved: parts of the law FnExplorations: what the functions that it reaches compute, and the plain law.
Conditions: those of each theorem.
-/
import Derived.ChangeArms
import Derived.ChangeSlices
import Derived.Deep.RegionLaw
import Derived.Deep.Slices
import Derived.Laws.CopyOwn
import Derived.Laws.Cover1
import Derived.Laws.IdiomStrings
import Derived.RowKit
import Derived.Shelf.Abstract
import Derived.SizedLaws
import Derived.StillTailTactics
import Derived.WideShapes
import Derived.Test.YthmjimboajmhmaaCFnExplorations4
set_option maxHeartbeats 8000000
set_option maxRecDepth 100000
namespace Go.Proofs.Ythmjimboajmhmaa.Pr
open Go.RowKit Go.Proofs.YthmjimboajmhmaaW.PrintWords Go.Proofs.YthmjimboajmhmaaW.PrintLast Go.Proofs.YthmjimboajmhmaaW.PrintMore
attribute [local go_sem] zF zJ zI zM zH zL zG zK   -- for this text's walks alone
set_option linter.unusedVariables false
set_option linter.unusedSimpArgs false
mutual
def iW.j0:Nat->Int->Int->Bool->Option (Int×Bool)
 | 0,_,_,_=>none
 | k+1,x0,x1,x24=>if x24=true then (some (0,false)) else (iW.l0 k x0 x1 0 1)
def iW.l0:Nat->Int->Int->Int->Int->Option (Int×Bool)
 | 0,_,_,_,_=>none
 | k+1,x0,x1,x6,x7=>if x7<=90 then (iW.l1 k x0 x1 x6 x7 1) else (some (x6,true))
def iW.l1:Nat->Int->Int->Int->Int->Int->Option (Int×Bool)
 | 0,_,_,_,_,_=>none
 | k+1,x0,x1,x6,x7,x8=>if x8 >= (-1) then ((o8.f x7).bind fun t426=>((ni.f (wrap64 (x8*x7))).bind fun t427=>((o8.f x6).bind fun t428=>((ni.f x6).bind fun t429=>(if (wrap64 ((wrap64 (x0*t426))+(wrap64 (x1*t427)))) > (wrap64 ((wrap64 (x0*t428))+(wrap64 (x1*t429)))) then (iW.l1 k x0 x1 (wrap64 (x8*x7)) x7 (wrap64 (x8 - 2))) else (iW.l1 k x0 x1 x6 x7 (wrap64 (x8 - 2)))))))) else (iW.l0 k x0 x1 x6 (wrap64 (x7+1)))
end
def iW.f (k:Nat)(a0:Int)(a1:Int):Option (Int×Bool):=(jF.f a0 0 100000).bind fun t424=>(if t424=true then ((lY.f a1).bind fun t425=>(if t425=true then (if a0=0 then (iW.j0 k a0 a1 (a1==0)) else (iW.j0 k a0 a1 false)) else (iW.j0 k a0 a1 true))) else (iW.j0 k a0 a1 true))
theorem iW.calls (k:Nat)(a0:Int)(a1:Int)(r1:Int)(r2:Bool)(w:World)(h:iW.f k a0 a1=some (r1,r2)) :
  Calls Try.prog 115 #[.int .i64 a0,.int .i64 a1] w fun e w'=>e=.returned (.tuple #[.int .i64 r1,.bool r2])/\Below w.heap.size w w':=by
 have HB:=ak (Below.refl w.heap.size w);have H:((jF.f a0 0 100000).bind fun t424=>(if t424=true then ((lY.f a1).bind fun t425=>(if t425=true then (if a0=0 then (iW.j0 k a0 a1 (a1==0)) else (iW.j0 k a0 a1 false)) else (iW.j0 k a0 a1 true))) else (iW.j0 k a0 a1 true)))=some (r1,r2):=h;clear h;have vM:=ak H;clear H
 go_enter Try.func115,Try.ntmps115
 go_upto_region 1 with (fail)
 go_cut [24] (fun v24 wc=>∃ (kq:Nat) (Zg:Bool),v24=.bool Zg/\Aside0 (iW.j0 kq a0 a1 Zg=some (r1,r2))/\Aside0 (kq<=k)/\Aside0 (Below w.heap.size w wc))
 case first=>
  have H:=vM.out;clear vM;replace H:=Option.bind_eq_some_iff.mp H;obtain⟨t424,nY,H⟩:=H;replace H:(if t424=true then ((lY.f a1).bind fun t425=>(if t425=true then (if a0=0 then (iW.j0 k a0 a1 (a1==0)) else (iW.j0 k a0 a1 false)) else (iW.j0 k a0 a1 true))) else (iW.j0 k a0 a1 true))=some (r1,r2):=H;have A4:=ak nY;clear nY;by_cases c5:t424=true
  .
   subst c5
   have H1:((lY.f a1).bind fun t425=>(if t425=true then (if a0=0 then (iW.j0 k a0 a1 (a1==0)) else (iW.j0 k a0 a1 false)) else (iW.j0 k a0 a1 true)))=some (r1,r2):=by rw[if_pos rfl] at H;exact H
   clear H;have H:=H1;clear H1;replace H:=Option.bind_eq_some_iff.mp H;obtain⟨t425,w_,H⟩:=H;replace H:(if t425=true then (if a0=0 then (iW.j0 k a0 a1 (a1==0)) else (iW.j0 k a0 a1 false)) else (iW.j0 k a0 a1 true))=some (r1,r2):=H;have A6:=ak w_;clear w_;by_cases c7:t425=true
   .
    subst c7
    have H1:(if a0=0 then (iW.j0 k a0 a1 (a1==0)) else (iW.j0 k a0 a1 false))=some (r1,r2):=by rw[if_pos rfl] at H;exact H
    clear H;have H:=H1;clear H1;by_cases c8:a0=0
    .
     rw[if_pos c8] at H;have wP:(a0==0)=true:=beq_iff_eq.mpr c8;have Ko:(a0 != 0)=false:=bne_eq_false_iff_eq.mpr c8;clear c8
     (first|rw[wP]|(simp only[nM,pO];rw[wP])|skip)
     have H':=ak H;clear H
     go_wp2_with (first|((with_reducible refine bZ (f:=101) rfl ?_);refine bY (some 10) Try.func101 #[.int .i64 a0,.int .i64 0,.int .i64 100000] ?_;(with_reducible refine(jF.calls a0 0 100000 true _ A4.out).mono ?_);rintro e w' ⟨rfl,⟨nd,rfl⟩⟩;refine⟨_,rfl,?_⟩)|(go_at_call 124;(with_reducible refine(lY.calls a1 true _ A6.out).mono ?_);rintro e w' ⟨rfl,⟨nd,rfl⟩⟩))
     go_meet
     case rel=>exact⟨_,((a1==0)),(by first|rfl|(simp;done)|(simp[*];done)),H',⟨by first|omega|exact Nat.le_refl _⟩,⟨bF HB.out⟩⟩
    .
     rw[if_neg c8] at H;have wP:(a0==0)=false:=beq_eq_false_iff_ne.mpr c8;have Ko:(a0 != 0)=true:=bne_iff_ne.mpr c8
     (first|rw[wP]|(simp only[nM,pO];rw[wP])|skip)
     have H':=ak H;clear H
     go_wp2_with (first|((with_reducible refine bZ (f:=101) rfl ?_);refine bY (some 10) Try.func101 #[.int .i64 a0,.int .i64 0,.int .i64 100000] ?_;(with_reducible refine(jF.calls a0 0 100000 true _ A4.out).mono ?_);rintro e w' ⟨rfl,⟨nd,rfl⟩⟩;refine⟨_,rfl,?_⟩)|(go_at_call 124;(with_reducible refine(lY.calls a1 true _ A6.out).mono ?_);rintro e w' ⟨rfl,⟨nd,rfl⟩⟩))
     go_meet
     case rel=>exact⟨_,(false),(by first|rfl|(simp;done)|(simp[*];done)),H',⟨by first|omega|exact Nat.le_refl _⟩,⟨bF HB.out⟩⟩
   .
    replace c7:=Bool.eq_false_iff.mpr c7;subst c7
    have H1:(iW.j0 k a0 a1 true)=some (r1,r2):=by rw[if_neg (show ¬ (false=true) by decide)] at H;exact H
    clear H;have H:=H1;clear H1;have H':=ak H;clear H
    go_wp2_with (first|((with_reducible refine bZ (f:=101) rfl ?_);refine bY (some 10) Try.func101 #[.int .i64 a0,.int .i64 0,.int .i64 100000] ?_;(with_reducible refine(jF.calls a0 0 100000 true _ A4.out).mono ?_);rintro e w' ⟨rfl,⟨nd,rfl⟩⟩;refine⟨_,rfl,?_⟩)|(go_at_call 124;(with_reducible refine(lY.calls a1 false _ A6.out).mono ?_);rintro e w' ⟨rfl,⟨nd,rfl⟩⟩))
    go_meet
    case rel=>exact⟨_,(true),(by first|rfl|(simp;done)|(simp[*];done)),H',⟨by first|omega|exact Nat.le_refl _⟩,⟨bF HB.out⟩⟩
  .
   replace c5:=Bool.eq_false_iff.mpr c5;subst c5
   have H1:(iW.j0 k a0 a1 true)=some (r1,r2):=by rw[if_neg (show ¬ (false=true) by decide)] at H;exact H
   clear H;have H:=H1;clear H1;have H':=ak H;clear H
   go_wp2_with (first|((with_reducible refine bZ (f:=101) rfl ?_);refine bY (some 10) Try.func101 #[.int .i64 a0,.int .i64 0,.int .i64 100000] ?_;(with_reducible refine(jF.calls a0 0 100000 false _ A4.out).mono ?_);rintro e w' ⟨rfl,⟨nd,rfl⟩⟩;refine⟨_,rfl,?_⟩))
   go_meet
   case rel=>exact⟨_,(true),(by first|rfl|(simp;done)|(simp[*];done)),H',⟨by first|omega|exact Nat.le_refl _⟩,⟨bF HB.out⟩⟩
 case rest=>
  clear vM
  try clear c1
  try clear p2
  try clear c5
  try clear c7
  try clear c8
  try clear wP
  try clear Ko
  obtain⟨kq,Zg,rfl,HA,HJ2,HB⟩:=hcut
  cases kq with
  | zero=>exact absurd HA.out (by simp[iW.j0])
  | succ uI=>
   have H:=HA.out;clear HA;simp only[iW.j0] at H;by_cases c9:Zg=true
   .
    subst c9
    have H1:(some (0,false))=some (r1,r2):=by rw[if_pos rfl] at H;exact H
    clear H;have H:=H1;clear H1;simp only[Option.some.injEq,Prod.mk.injEq] at H;obtain⟨rfl,rfl⟩:=H
    go_wp2
    go_ret2
    exact⟨fO,bF HB.out⟩
   .
    replace c9:=Bool.eq_false_iff.mpr c9;subst c9
    have H1:(iW.l0 uI a0 a1 0 1)=some (r1,r2):=by rw[if_neg (show ¬ (false=true) by decide)] at H;exact H
    clear H;have H:=H1;clear H1;have H':=ak H;clear H
    go_wp2
    go_loopg [6,7] uI (fun kq v6 v7 w'=>∃ (rM:Int) (jk:Int),v6=.int .i64 rM/\v7=.int .i64 jk/\Aside0 (iW.l0 kq a0 a1 rM jk=some (r1,r2))/\Aside0 (kq<=uI)/\Aside0 (Below w.heap.size w w'))
    case atStart=>exact⟨(0),(1),(by first|rfl|(simp;done)|(simp[*];done)),(by first|rfl|(simp;done)|(simp[*];done)),H',⟨Nat.le_refl _⟩,⟨bF HB.out⟩⟩
    case round=>
     clear H'
     try clear c1
     try clear p2
     try clear c5
     try clear c7
     try clear c8
     try clear wP
     try clear Ko
     try clear c9
     try clear p2
     obtain⟨rM,jk,rfl,rfl,HA,nI,HB⟩:=hrel
     cases gk with
     | zero=>exact absurd HA.out (by simp[iW.l0])
     | succ k2=>
      have H:=HA.out;clear HA;simp only[iW.l0] at H;by_cases c10:jk<=90
      .
       rw[if_pos c10] at H;have Qj:decide (jk<=90)=true:=decide_eq_true c10;clear c10;have H':=ak H;clear H
       go_wp2
       go_loopg [6,8] k2 (fun kq v6 v8 w'=>∃ (uw:Int) (rP:Int),v6=.int .i64 uw/\v8=.int .i64 rP/\Aside0 (iW.l1 kq a0 a1 uw jk rP=some (r1,r2))/\Aside0 (kq<=k2)/\Aside0 (Below w.heap.size w w'))
       case atStart=>exact⟨(rM),(1),(by first|rfl|(simp;done)|(simp[*];done)),(by first|rfl|(simp;done)|(simp[*];done)),H',⟨Nat.le_refl _⟩,⟨bF HB.out⟩⟩
       case round=>
        clear H'
        try clear c1
        try clear p2
        try clear c5
        try clear c7
        try clear c8
        try clear wP
        try clear Ko
        try clear c9
        try clear c10
        try clear Qj
        try clear p2
        obtain⟨uw,rP,rfl,rfl,HA,P6,HB⟩:=hrel
        cases gk with
        | zero=>exact absurd HA.out (by simp[iW.l1])
        | succ k3=>
         have H:=HA.out;clear HA;simp only[iW.l1] at H;by_cases c11:rP >= (-1)
         .
          rw[if_pos c11] at H;have XB:decide ((-1)<=rP)=true:=decide_eq_true c11;clear c11;replace H:=Option.bind_eq_some_iff.mp H;obtain⟨t426,Sz,H⟩:=H;replace H:((ni.f (wrap64 (rP*jk))).bind fun t427=>((o8.f uw).bind fun t428=>((ni.f uw).bind fun t429=>(if (wrap64 ((wrap64 (a0*t426))+(wrap64 (a1*t427)))) > (wrap64 ((wrap64 (a0*t428))+(wrap64 (a1*t429)))) then (iW.l1 k3 a0 a1 (wrap64 (rP*jk)) jk (wrap64 (rP - 2))) else (iW.l1 k3 a0 a1 uw jk (wrap64 (rP - 2)))))))=some (r1,r2):=H;have Sv:=ak Sz;clear Sz;replace H:=Option.bind_eq_some_iff.mp H;obtain⟨t427,D8,H⟩:=H;replace H:((o8.f uw).bind fun t428=>((ni.f uw).bind fun t429=>(if (wrap64 ((wrap64 (a0*t426))+(wrap64 (a1*t427)))) > (wrap64 ((wrap64 (a0*t428))+(wrap64 (a1*t429)))) then (iW.l1 k3 a0 a1 (wrap64 (rP*jk)) jk (wrap64 (rP - 2))) else (iW.l1 k3 a0 a1 uw jk (wrap64 (rP - 2))))))=some (r1,r2):=H;have Ik:=ak D8;clear D8;replace H:=Option.bind_eq_some_iff.mp H;obtain⟨t428,SB,H⟩:=H;replace H:((ni.f uw).bind fun t429=>(if (wrap64 ((wrap64 (a0*t426))+(wrap64 (a1*t427)))) > (wrap64 ((wrap64 (a0*t428))+(wrap64 (a1*t429)))) then (iW.l1 k3 a0 a1 (wrap64 (rP*jk)) jk (wrap64 (rP - 2))) else (iW.l1 k3 a0 a1 uw jk (wrap64 (rP - 2)))))=some (r1,r2):=H;have SA:=ak SB;clear SB;replace H:=Option.bind_eq_some_iff.mp H;obtain⟨t429,qfl,H⟩:=H;replace H:(if (wrap64 ((wrap64 (a0*t426))+(wrap64 (a1*t427)))) > (wrap64 ((wrap64 (a0*t428))+(wrap64 (a1*t429)))) then (iW.l1 k3 a0 a1 (wrap64 (rP*jk)) jk (wrap64 (rP - 2))) else (iW.l1 k3 a0 a1 uw jk (wrap64 (rP - 2))))=some (r1,r2):=H;have A15:=ak qfl;clear qfl;by_cases c16:(wrap64 ((wrap64 (a0*t426))+(wrap64 (a1*t427)))) > (wrap64 ((wrap64 (a0*t428))+(wrap64 (a1*t429))))
          .
           rw[if_pos c16] at H;have Um:decide ((wrap64 ((wrap64 (a0*t428))+(wrap64 (a1*t429))))<(wrap64 ((wrap64 (a0*t426))+(wrap64 (a1*t427)))))=true:=decide_eq_true c16;clear c16;have H':=ak H;clear H
           go_wp2_with (first|((with_reducible refine bZ (f:=122) rfl ?_);refine bY (some 35) Try.func122 #[.int .i64 jk] ?_;(with_reducible refine(o8.calls jk t426 _ Sv.out).mono ?_);rintro e Px ⟨rfl,hb⟩;refine⟨_,rfl,?_⟩;replace HB:=ak (aU (bF HB.out) hb);(try clear hb);(try clear hb2);(try clear hk);(try clear hi))|((with_reducible refine bZ (f:=123) rfl ?_);refine bY (some 41) Try.func123 #[.int .i64 (wrap64 (rP*jk))] ?_;(with_reducible refine(ni.calls (wrap64 (rP*jk)) t427 _ Ik.out).mono ?_);rintro e Ws ⟨rfl,hb⟩;refine⟨_,rfl,?_⟩;replace HB:=ak (aU (bF HB.out) hb);(try clear hb);(try clear hb2);(try clear hk);(try clear hi))|((with_reducible refine bZ (f:=122) rfl ?_);refine bY (some 46) Try.func122 #[.int .i64 uw] ?_;(with_reducible refine(o8.calls uw t428 _ SA.out).mono ?_);rintro e w19 ⟨rfl,hb⟩;refine⟨_,rfl,?_⟩;replace HB:=ak (aU (bF HB.out) hb);(try clear hb);(try clear hb2);(try clear hk);(try clear hi))|((with_reducible refine bZ (f:=123) rfl ?_);refine bY (some 50) Try.func123 #[.int .i64 uw] ?_;(with_reducible refine(ni.calls uw t429 _ A15.out).mono ?_);rintro e yc ⟨rfl,hb⟩;refine⟨_,rfl,?_⟩;replace HB:=ak (aU (bF HB.out) hb);(try clear hb);(try clear hb2);(try clear hk);(try clear hi)))
           go_roundg k3
           case measure=>have:=HJ2.out;have:=nI.out;have:=P6.out;omega
           case rel=>exact⟨(wrap64 (rP*jk)),(wrap64 (rP - 2)),(by first|rfl|(simp;done)|(simp[*];done)),(by first|rfl|(simp;done)|(simp[*];done)),H',⟨by have:=HJ2.out;have:=nI.out;have:=P6.out;omega⟩,⟨bF HB.out⟩⟩
          .
           rw[if_neg c16] at H;have Um:decide ((wrap64 ((wrap64 (a0*t428))+(wrap64 (a1*t429))))<(wrap64 ((wrap64 (a0*t426))+(wrap64 (a1*t427)))))=false:=decide_eq_false c16;clear c16;have H':=ak H;clear H
           go_wp2_with (first|((with_reducible refine bZ (f:=122) rfl ?_);refine bY (some 35) Try.func122 #[.int .i64 jk] ?_;(with_reducible refine(o8.calls jk t426 _ Sv.out).mono ?_);rintro e Jw ⟨rfl,hb⟩;refine⟨_,rfl,?_⟩;replace HB:=ak (aU (bF HB.out) hb);(try clear hb);(try clear hb2);(try clear hk);(try clear hi))|((with_reducible refine bZ (f:=123) rfl ?_);refine bY (some 41) Try.func123 #[.int .i64 (wrap64 (rP*jk))] ?_;(with_reducible refine(ni.calls (wrap64 (rP*jk)) t427 _ Ik.out).mono ?_);rintro e Y6 ⟨rfl,hb⟩;refine⟨_,rfl,?_⟩;replace HB:=ak (aU (bF HB.out) hb);(try clear hb);(try clear hb2);(try clear hk);(try clear hi))|((with_reducible refine bZ (f:=122) rfl ?_);refine bY (some 46) Try.func122 #[.int .i64 uw] ?_;(with_reducible refine(o8.calls uw t428 _ SA.out).mono ?_);rintro e Py ⟨rfl,hb⟩;refine⟨_,rfl,?_⟩;replace HB:=ak (aU (bF HB.out) hb);(try clear hb);(try clear hb2);(try clear hk);(try clear hi))|((with_reducible refine bZ (f:=123) rfl ?_);refine bY (some 50) Try.func123 #[.int .i64 uw] ?_;(with_reducible refine(ni.calls uw t429 _ A15.out).mono ?_);rintro e w24 ⟨rfl,hb⟩;refine⟨_,rfl,?_⟩;replace HB:=ak (aU (bF HB.out) hb);(try clear hb);(try clear hb2);(try clear hk);(try clear hi)))
           go_roundg k3
           case measure=>have:=HJ2.out;have:=nI.out;have:=P6.out;omega
           case rel=>exact⟨(uw),(wrap64 (rP - 2)),(by first|rfl|(simp;done)|(simp[*];done)),(by first|rfl|(simp;done)|(simp[*];done)),H',⟨by have:=HJ2.out;have:=nI.out;have:=P6.out;omega⟩,⟨bF HB.out⟩⟩
         .
          rw[if_neg c11] at H;have XB:decide ((-1)<=rP)=false:=decide_eq_false c11;clear c11;have H':=ak H;clear H
          go_wp2
          go_roundg k3
          case measure=>have:=HJ2.out;have:=nI.out;have:=P6.out;omega
          case rel=>exact⟨(uw),(wrap64 (jk+1)),(by first|rfl|(simp;done)|(simp[*];done)),(by first|rfl|(simp;done)|(simp[*];done)),H',⟨by have:=HJ2.out;have:=nI.out;have:=P6.out;omega⟩,⟨bF HB.out⟩⟩
      .
       rw[if_neg c10] at H;have Qj:decide (jk<=90)=false:=decide_eq_false c10;clear c10;simp only[Option.some.injEq,Prod.mk.injEq] at H;obtain⟨rfl,rfl⟩:=H
       go_wp2
       go_ret2
       exact⟨fO,bF HB.out⟩
def FQ.f (jD:List Int)(iM:Int)(mZ:Int)(a1:Int):Option (Int×Int×Int):=if a1<=1 then (some (0,iM,mZ)) else ((DY.f jD iM mZ).bind fun Cj=>(if a1 > 200 then ((DY.f jD Cj.2.1 Cj.2.2).bind fun En=>(if a1=0 then (none) else (some (Int.tmod (wrap64 ((wrap64 (Cj.1*256))+En.1)) a1,En.2.1,En.2.2)))) else (if a1=0 then (none) else (some (Int.tmod Cj.1 a1,Cj.2.1,Cj.2.2)))))
theorem FQ.calls (g:Nat)(jD:List Int)(iM:Int)(mZ:Int)(a1:Int)(r1:Int)(r2:Int)(r3:Int)(w0 w:World)(hI:gW w0 w g jD iM mZ)(hB:Below w0.heap.size w0 w)(h:FQ.f jD iM mZ a1=some (r1,r2,r3)) :
  Calls Try.prog 81 #[.pointer (some ⟨g,0,none⟩),.int .i64 a1] w fun e w'=>e=.returned (.int .i64 r1)/\gW w0 w' g jD r2 r3/\Below w0.heap.size w0 w'/\gJ w w' g none:=by
 have HI0:=ak hI;have HK:=ak (gJ.refl w g none);have HL:=ak hB.size;clear hI;have HW0:=ak hB.size;have HB:=ak hB;clear hB;have H:(if a1<=1 then (some (0,iM,mZ)) else ((DY.f jD iM mZ).bind fun Cj=>(if a1 > 200 then ((DY.f jD Cj.2.1 Cj.2.2).bind fun En=>(if a1=0 then (none) else (some (Int.tmod (wrap64 ((wrap64 (Cj.1*256))+En.1)) a1,En.2.1,En.2.2)))) else (if a1=0 then (none) else (some (Int.tmod Cj.1 a1,Cj.2.1,Cj.2.2))))))=some (r1,r2,r3):=h;clear h;by_cases c3:a1<=1
 .
  rw[if_pos c3] at H;have xO:decide (a1<=1)=true:=decide_eq_true c3;clear c3;simp only[Option.some.injEq,Prod.mk.injEq] at H;obtain⟨rfl,rfl,rfl⟩:=H
  go_enter Try.func81,Try.ntmps81
  go_wp2
  go_ret;exact⟨fO,Bz HI0.out,bU HB.out (gW.ge HI0.out),BD HK.out⟩
 .
  rw[if_neg c3] at H;have xO:decide (a1<=1)=false:=decide_eq_false c3;clear c3;replace H:=Option.bind_eq_some_iff.mp H;obtain⟨⟨t276,t277,t278⟩,nY,H⟩:=H;replace H:(if a1 > 200 then ((DY.f jD t277 t278).bind fun En=>(if a1=0 then (none) else (some (Int.tmod (wrap64 ((wrap64 (t276*256))+En.1)) a1,En.2.1,En.2.2)))) else (if a1=0 then (none) else (some (Int.tmod t276 a1,t277,t278))))=some (r1,r2,r3):=H;have A4:=ak nY;clear nY;by_cases c5:a1 > 200
  .
   rw[if_pos c5] at H;have Ql:decide (200<a1)=true:=decide_eq_true c5;clear c5;replace H:=Option.bind_eq_some_iff.mp H;obtain⟨⟨t279,t280,t281⟩,w_,H⟩:=H;replace H:(if a1=0 then (none) else (some (Int.tmod (wrap64 ((wrap64 (t276*256))+t279)) a1,t280,t281)))=some (r1,r2,r3):=H;have A6:=ak w_;clear w_;by_cases c7:a1=0
   .
    rw[if_pos c7] at H;exact absurd H (by simp)
   .
    rw[if_neg c7] at H;have Cm:(a1==0)=false:=beq_eq_false_iff_ne.mpr c7;have J_:(a1 != 0)=true:=bne_iff_ne.mpr c7;simp only[Option.some.injEq,Prod.mk.injEq] at H;obtain⟨rfl,rfl,rfl⟩:=H
    go_enter Try.func81,Try.ntmps81
    go_wp2_with (first|((with_reducible refine bZ (f:=108) rfl ?_);refine bY (some 9) Try.func108 #[.pointer (some ⟨g,0,none⟩)] ?_;(with_reducible refine(DY.calls g jD iM mZ t276 t277 t278 w0 _ ?eH ?eP A4.out).mono ?_);(case eH=>exact Bz HI0.out);(case eP=>exact bU HB.out (gW.ge HI0.out));rintro e w8 ⟨rfl,hi,hb,hk⟩;refine⟨_,rfl,?_⟩;replace HK:=ak (gJ.trans (BD HK.out) hk (.inl rfl));replace HB:=ak (hb);replace HI0:=ak (hi);(try clear hb);(try clear hb2);(try clear hk);(try clear hi))|((with_reducible refine bZ (f:=108) rfl ?_);refine bY (some 15) Try.func108 #[.pointer (some ⟨g,0,none⟩)] ?_;(with_reducible refine(DY.calls g jD t277 t278 t279 t280 t281 w0 _ ?eH ?eP A6.out).mono ?_);(case eH=>exact Bz HI0.out);(case eP=>exact bU HB.out (gW.ge HI0.out));rintro e w9 ⟨rfl,hi,hb,hk⟩;refine⟨_,rfl,?_⟩;replace HK:=ak (gJ.trans (BD HK.out) hk (.inl rfl));replace HB:=ak (hb);replace HI0:=ak (hi);(try clear hb);(try clear hb2);(try clear hk);(try clear hi)))
    go_ret;exact⟨fO,Bz HI0.out,bU HB.out (gW.ge HI0.out),BD HK.out⟩
  .
   rw[if_neg c5] at H;have Ql:decide (200<a1)=false:=decide_eq_false c5;clear c5;by_cases c10:a1=0
   .
    rw[if_pos c10] at H;exact absurd H (by simp)
   .
    rw[if_neg c10] at H;have Qj:(a1==0)=false:=beq_eq_false_iff_ne.mpr c10;have qEo:(a1 != 0)=true:=bne_iff_ne.mpr c10;simp only[Option.some.injEq,Prod.mk.injEq] at H;obtain⟨rfl,rfl,rfl⟩:=H
    go_enter Try.func81,Try.ntmps81
    go_wp2_with (first|((with_reducible refine bZ (f:=108) rfl ?_);refine bY (some 9) Try.func108 #[.pointer (some ⟨g,0,none⟩)] ?_;(with_reducible refine(DY.calls g jD iM mZ t276 t277 t278 w0 _ ?eH ?eP A4.out).mono ?_);(case eH=>exact Bz HI0.out);(case eP=>exact bU HB.out (gW.ge HI0.out));rintro e Pv ⟨rfl,hi,hb,hk⟩;refine⟨_,rfl,?_⟩;replace HK:=ak (gJ.trans (BD HK.out) hk (.inl rfl));replace HB:=ak (hb);replace HI0:=ak (hi);(try clear hb);(try clear hb2);(try clear hk);(try clear hi)))
    go_ret;exact⟨fO,Bz HI0.out,bU HB.out (gW.ge HI0.out),BD HK.out⟩
def Wp.f (jD:List Int)(iM:Int)(mZ:Int)(a1:Int):Option (Bool×Int×Int):=(FQ.f jD iM mZ a1).bind fun Na=>(some ((Na.1==0),Na.2.1,Na.2.2))
theorem Wp.calls (g:Nat)(jD:List Int)(iM:Int)(mZ:Int)(a1:Int)(r1:Bool)(r2:Int)(r3:Int)(w0 w:World)(hI:gW w0 w g jD iM mZ)(hB:Below w0.heap.size w0 w)(h:Wp.f jD iM mZ a1=some (r1,r2,r3)) :
  Calls Try.prog 82 #[.pointer (some ⟨g,0,none⟩),.int .i64 a1] w fun e w'=>e=.returned (.bool r1)/\gW w0 w' g jD r2 r3/\Below w0.heap.size w0 w'/\gJ w w' g none:=by
 have HI0:=ak hI;have HK:=ak (gJ.refl w g none);have HL:=ak hB.size;clear hI;have HW0:=ak hB.size;have HB:=ak hB;clear hB;have H:((FQ.f jD iM mZ a1).bind fun Na=>(some ((Na.1==0),Na.2.1,Na.2.2)))=some (r1,r2,r3):=h;clear h;replace H:=Option.bind_eq_some_iff.mp H;obtain⟨⟨t282,t283,t284⟩,qN,H⟩:=H;replace H:(some ((t282==0),t283,t284))=some (r1,r2,r3):=H;have A3:=ak qN;clear qN;simp only[Option.some.injEq,Prod.mk.injEq] at H;obtain⟨rfl,rfl,rfl⟩:=H
 go_enter Try.func82,Try.ntmps82
 go_wp2_with (first|((with_reducible refine bZ (f:=81) rfl ?_);refine bY (some 7) Try.func81 #[.pointer (some ⟨g,0,none⟩),.int .i64 a1] ?_;(with_reducible refine(FQ.calls g jD iM mZ a1 t282 t283 t284 w0 _ ?eH ?eP A3.out).mono ?_);(case eH=>exact Bz HI0.out);(case eP=>exact bU HB.out (gW.ge HI0.out));rintro e w4 ⟨rfl,hi,hb,hk⟩;refine⟨_,rfl,?_⟩;replace HK:=ak (gJ.trans (BD HK.out) hk (.inl rfl));replace HB:=ak (hb);replace HI0:=ak (hi);(try clear hb);(try clear hb2);(try clear hk);(try clear hi)))
 go_ret;exact⟨fO,Bz HI0.out,bU HB.out (gW.ge HI0.out),BD HK.out⟩
def Wn.f (jD:List Int)(iM:Int)(mZ:Int)(l1:List Int):Option (Int×Int×Int):=(FQ.f jD iM mZ (l1.length:Int)).bind fun Eo=>(if 0<=Eo.1 then (if Eo.1<(l1.length:Int) then (some (rd l1 Eo.1,Eo.2.1,Eo.2.2)) else (none)) else (none))
theorem Wn.calls (g:Nat)(jD:List Int)(iM:Int)(mZ:Int)(A1:Option Addr)(c1:Nat)(l1:List Int)(r1:Int)(r2:Int)(r3:Int)(w0 w:World)(hI:gW w0 w g jD iM mZ)(hB:Below w0.heap.size w0 w)(hr1:Kd.C (Kd.int .i64) w A1 l1.length l1)(hc1:l1.length<=c1)(hf1:∀ ad,A1=some ad->0<l1.length->ad.block≠g)(h:Wn.f jD iM mZ l1=some (r1,r2,r3)) :
  Calls Try.prog 86 #[.pointer (some ⟨g,0,none⟩),.slice A1 l1.length c1] w fun e w'=>e=.returned (.int .i64 r1)/\gW w0 w' g jD r2 r3/\Below w0.heap.size w0 w'/\gJ w w' g none:=by
 have HR1:=ak hr1;have BX:=ak hc1;clear hr1 hc1;have HI0:=ak hI;have HK:=ak (gJ.refl w g none);have HL:=ak hB.size;clear hI;have HW0:=ak hB.size;have HB:=ak hB;clear hB;have H:((FQ.f jD iM mZ (l1.length:Int)).bind fun Eo=>(if 0<=Eo.1 then (if Eo.1<(l1.length:Int) then (some (rd l1 Eo.1,Eo.2.1,Eo.2.2)) else (none)) else (none)))=some (r1,r2,r3):=h;clear h;replace H:=Option.bind_eq_some_iff.mp H;obtain⟨⟨t285,t286,t287⟩,qN,H⟩:=H;replace H:(if 0<=t285 then (if t285<(l1.length:Int) then (some (rd l1 t285,t286,t287)) else (none)) else (none))=some (r1,r2,r3):=H;have A3:=ak qN;clear qN;by_cases c4:0<=t285
 .
  rw[if_pos c4] at H;have Aw:decide (0<=t285)=true:=decide_eq_true c4;clear c4;by_cases c5:t285<(l1.length:Int)
  .
   rw[if_pos c5] at H;have Ql:decide (t285<(l1.length:Int))=true:=decide_eq_true c5;clear c5;simp only[Option.some.injEq,Prod.mk.injEq] at H;obtain⟨rfl,rfl,rfl⟩:=H
   go_enter Try.func86,Try.ntmps86
   go_wp2_with (first|((with_reducible refine bZ (f:=81) rfl ?_);refine bY (some 9) Try.func81 #[.pointer (some ⟨g,0,none⟩),.int .i64 (l1.length:Int)] ?_;(with_reducible refine(FQ.calls g jD iM mZ (l1.length:Int) t285 t286 t287 w0 _ ?eH ?eP A3.out).mono ?_);(case eH=>exact Bz HI0.out);(case eP=>exact bU HB.out (gW.ge HI0.out));rintro e w6 ⟨rfl,hi,hb,hk⟩;refine⟨_,rfl,?_⟩;replace HK:=ak (gJ.trans (BD HK.out) hk (.inl rfl));replace HB:=ak (hb);replace HI0:=ak (hi);(try clear hb);(try clear hb2);(try clear hk);(try clear hi);have qd1:0<=(t285:Int):=d_;have qeh:t285<(l1.length:Int):=d_;obtain⟨qqd,e288,qmn⟩:=Kd.Au HR1.out t285 qd1 qeh;cases e288;replace qmn:=qdm HK.out qmn (by first|(rw[add_block];exact hf1 _ rfl (by omega))|exact hf1 _ rfl (by omega)|exact hf1 qqd rfl (by omega));replace qd1:=eq_true qd1;replace qeh:=eq_true qeh))
   go_ret;exact⟨fO,Bz HI0.out,bU HB.out (gW.ge HI0.out),BD HK.out⟩
  .
   rw[if_neg c5] at H;exact absurd H (by simp)
 .
  rw[if_neg c4] at H;exact absurd H (by simp)
end Go.Proofs.Ythmjimboajmhmaa.Pr

namespace Go.Proofs.Ythmjimboajmhmaa.Pr.Pure
open Go.RowKit Go.Proofs.YthmjimboajmhmaaW.PrintWords Go.Proofs.YthmjimboajmhmaaW.PrintLast Go.Proofs.YthmjimboajmhmaaW.PrintMore
set_option linter.unusedVariables false
set_option linter.unusedSimpArgs false
def FAR:Int:=1073741824
structure sN where
 a:Int
 b:Int
 t:Int
def step1 (D:List Int)(a b t:Int):List Int:=if rd D a+t<rd D b then D.set b.toNat (rd D a+t) else D
def o7 (A:List sN)(D:List Int):List Int:=A.foldl (fun D e=>step1 D e.a e.b e.t) D
def it (A:List sN):Nat->List Int->List Int
 | 0,D=>D
 | k+1,D=>o7 A (it A k D)
def jI (i:Int):Prop:=0<=i/\i<8
def Dl (A:List sN):Prop:=∀ e,e∈A->jI e.a/\jI e.b/\1<=e.t/\e.t<=500
theorem qnk {D:List Int}(hl:D.length=8) {b i:Int}(hb:jI b)(hi:jI i)(x:Int):rd (D.set b.toNat x) i=if i=b then x else rd D i:=by
 unfold rd;obtain⟨hb0,hb1⟩:=hb;obtain⟨hi0,hi1⟩:=hi;rw[List.getD_eq_getElem?_getD,List.getD_eq_getElem?_getD];by_cases e:i=b
 .
  subst e;rw[if_pos rfl,List.getElem?_set_self (by omega)];rfl
 .
  rw[if_neg e,List.getElem?_set_ne (by omega)]
theorem EZ (D:List Int)(a b t:Int):(step1 D a b t).length=D.length:=by
 unfold step1
 split
 .
  rw[List.length_set]
 .
  rfl
theorem qdq (A:List sN):∀ D:List Int,(o7 A D).length=D.length:=by
 induction A with
 | nil=>intro D;rfl
 | cons e A ih=>
  intro D
  show (o7 A (step1 D e.a e.b e.t)).length=_
  rw[ih,EZ]
theorem wX {D:List Int}(hl:D.length=8) {a b i:Int}(hb:jI b)(hi:jI i)(t:Int):rd (step1 D a b t) i=if i=b/\rd D a+t<rd D b then rd D a+t else rd D i:=by
 unfold step1;by_cases h:rd D a+t<rd D b
 .
  rw[if_pos h,qnk hl hb hi];by_cases e:i=b
  .
   rw[if_pos e,if_pos ⟨e,h⟩]
  .
   rw[if_neg e,if_neg (fun z=>e z.1)]
 .
  rw[if_neg h,if_neg (fun z=>h z.2)]
theorem LX {D:List Int}(hl:D.length=8) {a b i:Int}(hb:jI b)(hi:jI i)(t:Int):rd (step1 D a b t) i<=rd D i:=by
 rw[wX hl hb hi]
 split
 .
  rename_i h;obtain⟨rfl,h⟩:=h;omega
 .
  omega
theorem Ph (A:List sN)(hA:Dl A):∀ (D:List Int),D.length=8->∀ i,jI i->rd (o7 A D) i<=rd D i:=by
 induction A with
 | nil=>intro D _ i _;exact Int.le_refl _
 | cons e A ih=>
  intro D hl i hi;have h1:=ih (fun x hx=>hA x (List.mem_cons_of_mem _ hx)) (step1 D e.a e.b e.t) (by rw[EZ,hl]) i hi;have h2:=LX (a:=e.a) (t:=e.t) hl (hA e List.mem_cons_self).2.1 hi;exact Int.le_trans h1 h2
theorem qA5 (A:List sN)(hA:Dl A):∀ (D:List Int),D.length=8->∀ e,e∈A->rd (o7 A D) e.b<=rd D e.a+e.t:=by
 induction A with
 | nil=>intro D _ e he;cases he
 | cons x A ih=>
  intro D hl e he
  have hA':Dl A:=fun x hx=>hA x (List.mem_cons_of_mem _ hx)
  have hx:=hA x List.mem_cons_self
  have hl':(step1 D x.a x.b x.t).length=8:=by rw[EZ,hl]
  show rd (o7 A (step1 D x.a x.b x.t)) e.b<=_
  rcases List.mem_cons.1 he with rfl|he'
  .
   have h1:=Ph A hA' _ hl' e.b hx.2.1;rw[wX hl hx.2.1 hx.2.1] at h1
   split at h1
   .
    exact h1
   .
    rename_i h
    have:¬ (rd D e.a+e.t<rd D e.b):=fun z=>h ⟨rfl,z⟩
    omega
  .
   have h1:=ih hA' _ hl' e he';have h2:=LX (a:=x.a) (t:=x.t) hl hx.2.1 (hA e he).1;omega
structure Inv (A:List sN)(D:List Int):Prop where
 len:D.length=8
 lo:∀ i,jI i->0<=rd D i
 hi:∀ i,jI i->rd D i<=FAR
 zero:rd D 0=0
 tight:∀ v,jI v->v≠0->rd D v<FAR->∃ e,e∈A/\e.b=v/\rd D e.a+e.t<=rd D v
theorem qBm {A:List sN}(hA:Dl A) {D:List Int}(h:Inv A D) {e:sN}(he:e∈A):Inv A (step1 D e.a e.b e.t):=by
 obtain⟨ha,hb,ht,ht'⟩:=hA e he
 have hz:jI 0:=⟨by omega,by omega⟩
 have la:=h.lo e.a ha
 have hle:=fun i hi=>LX (a:=e.a) (t:=e.t) h.len hb (i:=i) hi
 refine⟨by rw[EZ,h.len],fun i hi=>?_,fun i hi=>Int.le_trans (hle i hi) (h.hi i hi),?_,fun v hv hv0 hf=>?_⟩
 .
  rw[wX h.len hb hi]
  split
  .
   omega
  .
   exact h.lo i hi
 .
  rw[wX h.len hb hz]
  split
  .
   rename_i z;obtain⟨z1,z2⟩:=z;rw[<- z1,h.zero] at z2;omega
  .
   exact h.zero
 .
  by_cases hc:v=e.b/\rd D e.a+e.t<rd D e.b
  .
   refine⟨e,he,hc.1.symm,?_⟩;have:=hle e.a ha;have h2:=wX (a:=e.a) (t:=e.t) h.len hb hv;rw[if_pos hc] at h2;omega
  .
   have h2:=wX (a:=e.a) (t:=e.t) h.len hb hv;rw[if_neg hc] at h2;rw[h2] at hf ⊢;obtain⟨x,hx,hxb,hxl⟩:=h.tight v hv hv0 hf;exact⟨x,hx,hxb,by have:=hle x.a (hA x hx).1;omega⟩
theorem qA6 {A:List sN}(hA:Dl A)(B:List sN):(∀ e,e∈B->e∈A)->∀ D,Inv A D->Inv A (o7 B D):=by
 induction B with
 | nil=>intro _ D h;exact h
 | cons e B ih=>
  intro hB D h;exact ih (fun x hx=>hB x (List.mem_cons_of_mem _ hx)) _ (qBm hA h (hB e List.mem_cons_self))
theorem qep {A:List sN}(hA:Dl A) {D:List Int}(h:Inv A D):Inv A (o7 A D):=qA6 hA A (fun _ he=>he) D h
theorem BA {A:List sN}(hA:Dl A) {D:List Int}(h:Inv A D):∀ k,Inv A (it A k D)
 | 0=>h
 | k+1=>qep hA (BA hA h k)
theorem XF {i:Int}(h:jI i):i=0\/i=1\/i=2\/i=3\/i=4\/i=5\/i=6\/i=7:=by
 obtain⟨h1,h2⟩:=h;omega
theorem X0 {D E:List Int}(hD:D.length=8)(hE:E.length=8)(h:∀ i,jI i->rd D i=rd E i):D=E:=by
 apply List.ext_getElem (by omega);intro i h1 h2;have:=h (i:Int) ⟨by omega,by omega⟩;unfold rd at this;rw[Int.toNat_natCast,List.getD_eq_getElem?_getD,List.getD_eq_getElem?_getD,List.getElem?_eq_getElem h1,List.getElem?_eq_getElem h2] at this;exact this
def zU (D:List Int):Int:=rd D 0+rd D 1+rd D 2+rd D 3+rd D 4+rd D 5+rd D 6+rd D 7
theorem VY {D E:List Int}(hD:D.length=8)(hE:E.length=8)(h:∀ i,jI i->rd E i<=rd D i):E=D\/zU E<zU D:=by
 by_cases hq:∀ i,jI i->rd E i=rd D i
 .
  exact .inl (X0 hE hD hq)
 .
  right
  obtain⟨i,hi⟩:=Classical.not_forall.1 hq;obtain⟨Yq,hne⟩:=Classical.not_imp.1 hi
  have hlt:rd E i<rd D i:=by have:=h i Yq;omega
  have h0:=h 0 ⟨by omega,by omega⟩;have h1:=h 1 ⟨by omega,by omega⟩;have h2:=h 2 ⟨by omega,by omega⟩;have h3:=h 3 ⟨by omega,by omega⟩;have h4:=h 4 ⟨by omega,by omega⟩;have h5:=h 5 ⟨by omega,by omega⟩;have h6:=h 6 ⟨by omega,by omega⟩;have h7:=h 7 ⟨by omega,by omega⟩;unfold zU
  rcases XF Yq with rfl|rfl|rfl|rfl|rfl|rfl|rfl|rfl <;> omega
theorem qnx {A:List sN}{D:List Int}(h:Inv A D):0<=zU D:=by
 have h0:=h.lo 0 ⟨by omega,by omega⟩;have h1:=h.lo 1 ⟨by omega,by omega⟩;have h2:=h.lo 2 ⟨by omega,by omega⟩;have h3:=h.lo 3 ⟨by omega,by omega⟩;have h4:=h.lo 4 ⟨by omega,by omega⟩;have h5:=h.lo 5 ⟨by omega,by omega⟩;have h6:=h.lo 6 ⟨by omega,by omega⟩;have h7:=h.lo 7 ⟨by omega,by omega⟩;unfold zU;omega
theorem qmv (A:List sN):∀ (k:Nat)(D:List Int),it A (k+1) D=it A k (o7 A D)
 | 0,D=>rfl
 | k+1,D=>by
  show o7 A (it A (k+1) D)=o7 A (it A k (o7 A D))
  rw[qmv A k D]
theorem qsx {A:List sN}(hA:Dl A)(n:Nat):∀ D,Inv A D->zU D<=n->∃ N,o7 A (it A N D)=it A N D:=by
 induction n with
 | zero=>
  intro D h hs
  rcases VY h.len (by rw[qdq,h.len]) (Ph A hA D h.len) with e|e
  .
   exact⟨0,e⟩
  .
   have:=qnx (qep hA h);omega
 | succ n ih=>
  intro D h hs
  rcases VY h.len (by rw[qdq,h.len]) (Ph A hA D h.len) with e|e
  .
   exact⟨0,e⟩
  .
   obtain⟨N,hN⟩:=ih (o7 A D) (qep hA h) (by omega);refine⟨N+1,?_⟩;rw[qmv];exact hN
theorem qdl {A:List sN}{D:List Int}(h:o7 A D=D):∀ k,it A k D=D
 | 0=>rfl
 | k+1=>by
  show o7 A (it A k D)=D
  rw[qdl h k,h]
theorem qdk (A:List sN)(D:List Int)(j:Nat):∀ k,it A (j+k) D=it A k (it A j D)
 | 0=>rfl
 | k+1=>by
  show o7 A (it A (j+k) D)=o7 A (it A k (it A j D))
  rw[qdk A D j k]
theorem qmu {A:List sN}(hA:Dl A) {D:List Int}(h:Inv A D)(j:Nat):∀ k i,jI i->rd (it A (j+k) D) i<=rd (it A j D) i
 | 0,i,hi=>Int.le_refl _
 | k+1,i,hi=>Int.le_trans (Ph A hA _ (BA hA h (j+k)).len i hi) (qmu hA h j k i hi)
def cnt (d:List Int)(i v:Int):Nat:=if rd d i<rd d v then 1 else 0
theorem cnt_mono (d:List Int) {u v:Int}(h:rd d u<rd d v)(i:Int):cnt d i u<=cnt d i v:=by
 unfold cnt
 split <;> split <;> omega
theorem cnt_le (d:List Int)(i v:Int):cnt d i v<=1:=by
 unfold cnt
 split <;> omega
theorem qgy (d:List Int)(v:Int):cnt d v v=0:=by
 unfold cnt;rw[if_neg (by omega)]
theorem qro (d:List Int) {u v:Int}(h:rd d u<rd d v):cnt d u v=1:=by
 unfold cnt;rw[if_pos h]
def rank (d:List Int)(v:Int):Nat:=cnt d 0 v+cnt d 1 v+cnt d 2 v+cnt d 3 v+cnt d 4 v+cnt d 5 v+cnt d 6 v+cnt d 7 v
theorem qni (d:List Int) {u v:Int}(hu:jI u)(h:rd d u<rd d v):rank d u<rank d v:=by
 have m:=cnt_mono d h;have m0:=m 0;have m1:=m 1;have m2:=m 2;have m3:=m 3;have m4:=m 4;have m5:=m 5;have m6:=m 6;have m7:=m 7;have s:=qgy d u;have y:=qro d h;clear m h;unfold rank
 rcases XF hu with rfl|rfl|rfl|rfl|rfl|rfl|rfl|rfl <;> omega
theorem qAs (d:List Int) {v:Int}(hv:jI v):rank d v<=7:=by
 have m:=fun i=>cnt_le d i v
 have m0:=m 0;have m1:=m 1;have m2:=m 2;have m3:=m 3;have m4:=m 4;have m5:=m 5;have m6:=m 6;have m7:=m 7;have s:=qgy d v;clear m;unfold rank
 rcases XF hv with rfl|rfl|rfl|rfl|rfl|rfl|rfl|rfl <;> omega
def D0:List Int:=[0,FAR,FAR,FAR,FAR,FAR,FAR,FAR]
theorem SQ {v:Int}(hv:jI v)(h0:v≠0):rd D0 v=FAR:=by
 rcases XF hv with rfl|rfl|rfl|rfl|rfl|rfl|rfl|rfl
 .
  exact absurd rfl h0
 all_goals rfl
theorem yQ (A:List sN):Inv A D0:=by
 refine⟨rfl,fun i hi=>?_,fun i hi=>?_,rfl,fun v hv h0 hf=>?_⟩
 .
  by_cases h:i=0
  .
   rw[h];decide
  .
   rw[SQ hi h];decide
 .
  by_cases h:i=0
  .
   rw[h];decide
  .
   rw[SQ hi h];decide
 .
  rw[SQ hv h0] at hf;omega
theorem qzb {A:List sN}(hA:Dl A) {d:List Int}(hd:Inv A d)(hle:∀ k i,jI i->rd d i<=rd (it A k D0) i):∀ (k:Nat)(v:Int),jI v->rank d v<=k->rd (it A k D0) v=rd d v:=by
 intro k
 induction k with
 | zero=>
  intro v hv hr;by_cases h0:v=0
  .
   rw[h0,hd.zero];rfl
  .
   show rd D0 v=_
   rw[SQ hv h0];have h1:=hd.hi v hv;by_cases hf:rd d v<FAR
   .
    obtain⟨e,he,rfl,hl⟩:=hd.tight v hv h0 hf;obtain⟨ha,hb,ht,_⟩:=hA e he;have:=qni d ha (show rd d e.a<rd d e.b by omega);omega
   .
    omega
 | succ k ih=>
  intro v hv hr;have h1:=hle (k+1) v hv;have h2:=(BA hA (yQ A) (k+1)).hi v hv;by_cases h0:v=0
  .
   rw[h0,hd.zero,(BA hA (yQ A) (k+1)).zero]
  .
   by_cases hf:rd d v<FAR
   .
    obtain⟨e,he,rfl,hl⟩:=hd.tight v hv h0 hf;obtain⟨ha,hb,ht,_⟩:=hA e he;have h3:=qni d ha (show rd d e.a<rd d e.b by omega);have h4:=ih e.a ha (by omega);have h5:=qA5 A hA _ (BA hA (yQ A) k).len e he;have h6:rd (it A (k+1) D0) e.b<=rd (it A k D0) e.a+e.t:=h5;omega
   .
    have:=hd.hi v hv;omega
theorem qho {A:List sN}(hA:Dl A):o7 A (it A 7 D0)=it A 7 D0:=by
 obtain⟨N,hN⟩:=qsx hA (zU D0).toNat D0 (yQ A) (by have:=qnx (yQ A);omega);have hi:=BA hA (yQ A) N
 have hle:∀ k i,jI i->rd (it A N D0) i<=rd (it A k D0) i:=by
  intro k i Yq
  rcases Nat.le_total k N with h|h
  .
   have:=qmu hA (yQ A) k (N - k) i Yq
   rwa [show k+(N - k)=N by omega] at this
  .
   have:=qdk A D0 N (k - N);rw[show N+(k - N)=k by omega,qdl hN] at this;rw[this];exact Int.le_refl _
 have e:it A 7 D0=it A N D0:=X0 (BA hA (yQ A) 7).len hi.len (fun i h8=>qzb hA hi hle 7 i h8 (qAs _ h8));rw[e,hN]
def dec (x:Int):Int:=if x=FAR then -1 else x
def Bd (c:Int)(D:List Int):Prop:=∀ i,jI i->rd D i=FAR\/rd D i<=c
theorem Bd.mono {c c':Int}{D:List Int}(h:Bd c D)(hc:c<=c'):Bd c' D:=fun i hi=>by
 rcases h i hi with h|h
 .
  exact .inl h
 .
  exact .inr (by omega)
theorem qnw {c:Int}{D:List Int}(hl:D.length=8)(h:Bd c D) {a b t:Int}(ha:jI a)(hb:jI b)(ht:t<=500)(hh:∀ i,jI i->rd D i<=FAR)(ht0:0<=t):Bd (c+500) (step1 D a b t):=fun i hi=>by
 rw[wX hl hb hi]
 split
 .
  rename_i z
  rcases h a ha with e|e
  .
   have:=hh b hb;omega
  .
   exact .inr (by omega)
 .
  rcases h i hi with e|e
  .
   exact .inl e
  .
   exact .inr (by omega)
theorem qeo {D:List Int}(hl:D.length=8) {i:Int}(hi:jI i):rd (D.map dec) i=dec (rd D i):=by
 obtain⟨h0,h1⟩:=hi;unfold rd;rw[List.getD_eq_getElem?_getD,List.getD_eq_getElem?_getD,List.getElem?_map,List.getElem?_eq_getElem (by omega)];rfl
theorem qru {x:Int}(h:0<=x)(h':x<=FAR):dec x >= 0 ↔ x<FAR:=by
 unfold dec
 split <;> omega
theorem qzy (D:List Int)(n:Nat)(x:Int)(hx:x≠FAR):(D.map dec).set n x=(D.set n x).map dec:=by
 rw[List.map_set]
 congr 1
 unfold dec;rw[if_neg hx]
theorem qrp {c:Int}{D:List Int}(hl:D.length=8)(hlo:∀ i,jI i->0<=rd D i)(hhi:∀ i,jI i->rd D i<=FAR)(hb:Bd c D)(hc:c+500<FAR) {a b t:Int}(ha:jI a)(hb8:jI b)(ht:1<=t)(ht':t<=500) :
  (rd (D.map dec) a >= 0 ↔ rd D a<FAR)/\(rd D a<FAR->rd (D.map dec) a=rd D a/\(rd (D.map dec) b<0\/rd D a+t<rd (D.map dec) b ↔ rd D a+t<rd D b)/\rd D a+t<FAR)/\(¬ rd D a<FAR->¬ rd D a+t<rd D b):=by
 rw[qeo hl ha,qeo hl hb8];have a0:=hlo a ha;have a1:=hhi a ha;have b0:=hlo b hb8;have b1:=hhi b hb8;have a2:=hb a ha
 unfold FAR at *
 refine⟨qru a0 a1,fun h=>⟨?_,?_,?_⟩,fun h=>by omega⟩
 .
  unfold dec FAR;rw[if_neg (by omega)]
 .
  unfold dec FAR
  split <;> omega
 .
  omega
theorem qAv {D:List Int}(hl:D.length=8) {a b t:Int}(ha:jI a)(hb:jI b)(ht:1<=t):step1 (step1 D b a t) a b t=step1 (step1 D a b t) b a t:=by
 apply X0 (by rw[EZ,EZ,hl]) (by rw[EZ,EZ,hl]);intro i hi
 have l1:(step1 D b a t).length=8:=by rw[EZ,hl]
 have l2:(step1 D a b t).length=8:=by rw[EZ,hl]
 rw[wX l1 hb hi,wX l2 ha hi,wX hl ha ha,wX hl ha hb,wX hl ha hi,wX hl hb hb,wX hl hb ha,wX hl hb hi];by_cases e:a=b
 .
  subst e;simp only[true_and]
 .
  have e':¬ b=a:=fun h=>e h.symm
  simp only[e,e',false_and,if_false,true_and];by_cases c1:rd D b+t<rd D a
  .
   simp only[c1,if_true,and_true]
   have c2:¬ rd D a+t<rd D b:=by omega
   have c3:¬ rd D b+t+t<rd D b:=by omega
   simp only[c2,c3,and_false,if_false,c1,and_true]
  .
   by_cases c2:rd D a+t<rd D b
   .
    have c3:¬ rd D a+t+t<rd D a:=by omega
    simp only[c1,c2,c3,and_false,and_true,if_false,if_true]
   .
    simp only[c1,c2,and_false,if_false]
theorem kW {x:Int}(h1:-9223372036854775808<=x)(h2:x<=9223372036854775807):wrap64 x=x:=by
 unfold wrap64;omega
theorem getD_some {α:Type}(l:List α)(z:α)(i:Nat)(h:i<l.length):l[i]? = some (l.getD i z):=by
 rw[List.getD_eq_getElem?_getD,List.getElem?_eq_getElem h];rfl
theorem Rq (a b c:Int):jF.f a b c=some (decide (b<=a/\a<=c)):=by
 unfold jF.f;by_cases h:a >= b
 .
  rw[if_pos h];simp[show b<=a from h]
 .
  rw[if_neg h];simp[show ¬ b<=a from h]
theorem qe4 (a b c:Int):jZ.f a b c=some (decide (b<=a/\a<=c)):=by
 unfold jZ.f;by_cases h:a >= b
 .
  rw[if_pos h];simp[show b<=a from h]
 .
  rw[if_neg h];simp[show ¬ b<=a from h]
theorem qeu (a:Int):qY.f a=some (decide (0<=a/\a<=7)):=by
 unfold qY.f;rw[Rq];rfl
theorem qms (a:Int):qV.f a=some (decide (0<=a/\a<=7)):=by
 unfold qV.f;rw[qe4];rfl
def JW (x:aN):Prop:=(0<=x.f0/\x.f0<=7)/\(0<=x.f1/\x.f1<=7)/\x.f0≠x.f1/\(1<=x.f2/\x.f2<=500)/\(0<=x.f3/\x.f3<=359)/\(-90<=x.f4/\x.f4<=90)
theorem qdp (x:aN):∃ b,CZ.f x.f0 x.f1 x.f2 x.f3 x.f4=some b/\(b=true ↔ JW x):=by
 unfold CZ.f BI.f JW;simp only[qeu,Rq,Option.bind_some,decide_eq_true_eq];by_cases h1:0<=x.f0/\x.f0<=7
 .
  rw[if_pos h1];by_cases h2:0<=x.f1/\x.f1<=7
  .
   rw[if_pos h2];by_cases h3:x.f0=x.f1
   .
    rw[if_pos h3];exact⟨_,rfl,fun h=>(by cases h),fun h=>absurd h3 h.2.2.1⟩
   .
    rw[if_neg h3];by_cases h4:1<=x.f2/\x.f2<=500
    .
     rw[if_pos h4];by_cases h5:0<=x.f3/\x.f3<=359
     .
      rw[if_pos h5];refine⟨_,rfl,?_⟩;rw[decide_eq_true_eq];exact⟨fun h=>⟨h1,h2,h3,h4,h5,h⟩,fun h=>h.2.2.2.2.2⟩
     .
      rw[if_neg h5];exact⟨_,rfl,fun h=>(by cases h),fun h=>absurd h.2.2.2.2.1 h5⟩
    .
     rw[if_neg h4];exact⟨_,rfl,fun h=>(by cases h),fun h=>absurd h.2.2.2.1 h4⟩
  .
   rw[if_neg h2];exact⟨_,rfl,fun h=>(by cases h),fun h=>absurd h.2.1 h2⟩
 .
  rw[if_neg h1];exact⟨_,rfl,fun h=>(by cases h),fun h=>absurd h.1 h1⟩
theorem qdo (a b c d e:Int):zC.f a b c d e=CZ.f a b c d e:=by
 unfold zC.f CZ.f CU.f BI.f;simp only[qeu,qms,qe4,Rq]
theorem qzk (l:List aN)(hl:l.length<=4611686018427387904)(d:Nat):∀ (k:Nat)(i:Int),0<=i->i+d=l.length->d<k ->
  ∃ b,sK.l0 k l i=some b/\(b=true ↔ (∀ j:Int,i<=j->j<l.length->JW (aj l j))/\l.length<=12):=by
 induction d with
 | zero=>
  intro k i h0 hd hk
  obtain⟨k,rfl⟩:∃ m,k=m+1:=⟨k - 1,by omega⟩
  refine⟨_,by simp only[sK.l0];rw[if_neg (by omega)],?_⟩;rw[decide_eq_true_eq]
  constructor
  .
   intro h;exact⟨fun j h1 h2=>by omega,by omega⟩
  .
   intro h;omega
 | succ d ih=>
  intro k i h0 hd hk
  obtain⟨k,rfl⟩:∃ m,k=m+1:=⟨k - 1,by omega⟩
  obtain⟨b,hb,hiff⟩:=ih k (i+1) (by omega) (by omega) (by omega);obtain⟨x,hx,hxi⟩:=qdp (aj l i);simp only[sK.l0];rw[if_pos (show i<(l.length:Int) by omega),if_pos h0,hx,kW (by omega) (by omega)];simp only[Option.bind_some]
  cases x with
  | false=>
   rw[if_neg (by decide)];exact⟨_,rfl,fun h=>(by cases h),fun h=>(by have:=hxi.2 (h.1 i (by omega) (by omega));cases this)⟩
  | true=>
   rw[if_pos rfl];refine⟨b,hb,?_⟩;rw[hiff];refine⟨fun h=>⟨fun j h1 h2=>?_,h.2⟩,fun h=>⟨fun j h1 h2=>h.1 j (by omega) h2,h.2⟩⟩;by_cases e:j=i
   .
    rw[e];exact hxi.1 rfl
   .
    exact h.1 j (by omega) h2
theorem qm0 (l:List aN):∀ (k:Nat)(i:Int),nN.l0 k l l (l.length:Int) i=sK.l0 k l i
 | 0,i=>by simp only[nN.l0,sK.l0]
 | k+1,i=>by
  simp only[nN.l0,sK.l0,qdo,qm0 l k];by_cases h1:i<(l.length:Int)
  .
   simp only[if_pos h1]
  .
   simp only[if_neg h1]
def usable (v:List Bool)(g:aN):Bool:=fE false v g.f0&&fE false v g.f1
def kK (v:List Bool):List aN->List sN
 | []=>[]
 | g::l=>if usable v g=true then ⟨g.f0,g.f1,g.f2⟩::⟨g.f1,g.f0,g.f2⟩::kK v l else kK v l
def BZ (l:List aN):Prop:=∀ x,x∈l->JW x
theorem qzj {l:List aN}(h:∀ j:Int,0<=j->j<l.length->JW (aj l j)):BZ l:=by
 intro x hx;obtain⟨i,hi,rfl⟩:=List.mem_iff_getElem.1 hx;have:=h (i:Int) (by omega) (by omega)
 have e:aj l (i:Int)=l[i]:=by
  show l.getD (i:Int).toNat _=_
  rw[Int.toNat_natCast,List.getD_eq_getElem?_getD,List.getElem?_eq_getElem hi];rfl
 rwa [e] at this
theorem V9 {l:List aN}{i:Int}(h0:0<=i)(h1:i<l.length):aj l i∈l:=by
 show l.getD i.toNat _∈l
 rw[List.getD_eq_getElem?_getD,List.getElem?_eq_getElem (by omega)];exact List.getElem_mem _
theorem qba (l:List aN)(i:Nat)(h:i<l.length):l.drop i=aj l (i:Int)::l.drop (i+1):=by
 rw[List.drop_eq_getElem_cons h]
 congr 1
 show _=l.getD (i:Int).toNat _
 rw[Int.toNat_natCast,List.getD_eq_getElem?_getD,List.getElem?_eq_getElem h];rfl
theorem IG (v:List Bool)(l:List aN)(h:BZ l):Dl (kK v l):=by
 induction l with
 | nil=>intro e he;cases he
 | cons g l ih=>
  have hg:=h g List.mem_cons_self;have ih:=ih (fun x hx=>h x (List.mem_cons_of_mem _ hx));intro e he;unfold kK at he
  split at he
  .
   rcases List.mem_cons.1 he with rfl|he
   .
    exact⟨⟨hg.1.1,by have:=hg.1.2;show g.f0<8;omega⟩,⟨hg.2.1.1,by have:=hg.2.1.2;show g.f1<8;omega⟩,hg.2.2.2.1⟩
   .
    rcases List.mem_cons.1 he with rfl|he
    .
     exact⟨⟨hg.2.1.1,by have:=hg.2.1.2;show g.f1<8;omega⟩,⟨hg.1.1,by have:=hg.1.2;show g.f0<8;omega⟩,hg.2.2.2.1⟩
    .
     exact ih e he
  .
   exact ih e he
def Qq (D:List Int):Prop:=D.length=8/\(∀ i,jI i->0<=rd D i)/\(∀ i,jI i->rd D i<=FAR)
theorem UE {D:List Int}(h:Qq D) {a b t:Int}(ha:jI a)(hb:jI b)(ht:0<=t):Qq (step1 D a b t):=by
 refine⟨by rw[EZ,h.1],fun i hi=>?_,fun i hi=>Int.le_trans (LX h.1 hb hi t) (h.2.2 i hi)⟩;rw[wX h.1 hb hi];have:=h.2.1 a ha
 split
 .
  omega
 .
  exact h.2.1 i hi
theorem qBc {D:List Int}(h:D.length=8) {b:Int}(hb:jI b):D.set b.toNat (rd D b)=D:=by
 apply X0 (by rw[List.length_set,h]) h;intro i hi;rw[qnk h hb hi]
 split
 .
  rename_i e;rw[e]
 .
  rfl
theorem qm3 {D:List Int}(h:Qq D) {a b t:Int}(ha:jI a)(hb:jI b)(ht:0<=t)(ht':t<=500):D.set b.toNat (mn (rd D b) (wrap64 (rd D a+t)))=step1 D a b t:=by
 have a0:=h.2.1 a ha;have a1:=h.2.2 a ha;unfold FAR at a1;rw[kW (by omega) (by omega)];unfold mn step1;by_cases hc:rd D a+t<rd D b
 .
  rw[if_pos hc,if_pos hc]
 .
  rw[if_neg hc,if_neg hc,qBc h.1 hb]
theorem VT {a:Int}(h0:0<=a)(h1:a<=7):jI a:=⟨h0,by omega⟩
theorem qB8 (l:List aN)(hl:BZ l)(hn:l.length<=12)(v d:List Bool)(hv:v.length=8)(a b r:Int)(n:Nat):∀ (k i:Nat)(D:List Int),i+n=l.length->n<k->Qq D ->
  ∃ k',k<=k'+n+1/\k'<k/\bK.l1 k D r l (l.length:Int) i l v d a b=bK.l0 k' (o7 (kK v (l.drop i)) D) (wrap64 (r+1)) l v d a b:=by
 induction n with
 | zero=>
  intro k i D hi hk hD
  obtain⟨k,rfl⟩:∃ m,k=m+1:=⟨k - 1,by omega⟩
  refine⟨k,by omega,by omega,?_⟩;simp only[bK.l1];rw[if_neg (by omega),List.drop_eq_nil_of_le (by omega)];rfl
 | succ n ih=>
  intro k i D hi hk hD
  obtain⟨k,rfl⟩:∃ m,k=m+1:=⟨k - 1,by omega⟩
  rw[qba l i (by omega)];have hg:=hl _ (V9 (l:=l) (i:=(i:Int)) (by omega) (by omega));generalize hge:aj l (i:Int)=g at hg;have i0:=VT hg.1.1 hg.1.2;have i1:=VT hg.2.1.1 hg.2.1.2;obtain⟨g00,g01⟩:=hg.1;obtain⟨g10,g11⟩:=hg.2.1;obtain⟨ht,ht'⟩:=hg.2.2.2.1;simp only[bK.l1,hge];rw[if_pos (by omega),if_pos (by omega),if_pos (by omega),if_pos (by omega),if_pos (by omega),kW (x:=(i:Int)+1) (by omega) (by omega)];unfold kK usable
  cases h0:fE false v g.f0 with
  | false=>
   rw[if_neg (by decide)];obtain⟨k',h1,h2,h3⟩:=ih k (i+1) D (by omega) (by omega) hD;exact⟨k',by omega,by omega,h3⟩
  | true=>
   rw[if_pos rfl,if_pos (by omega),if_pos (by omega)]
   cases h1:fE false v g.f1 with
   | false=>
    rw[if_neg (by decide)];obtain⟨k',h1,h2,h3⟩:=ih k (i+1) D (by omega) (by omega) hD;exact⟨k',by omega,by omega,h3⟩
   | true=>
    have vZ:=hD.1;rw[if_pos rfl,if_pos (by omega),if_pos (by omega),qm3 hD i1 i0 (by omega) ht'];simp only[Option.bind_some];rw[qm3 (UE hD i1 i0 (by omega)) i0 i1 (by omega) ht',qAv vZ i0 i1 ht];obtain⟨k',h1,h2,h3⟩:=ih k (i+1) (step1 (step1 D g.f0 g.f1 g.f2) g.f1 g.f0 g.f2) (by omega) (by omega) (UE (UE hD i0 i1 (by omega)) i1 i0 (by omega));exact⟨k',by omega,by omega,h3⟩
theorem qB7 (l:List aN)(hl:BZ l)(hn:l.length<=12)(v d:List Bool)(hv:v.length=8)(a b:Int)(ha:jI a)(n:Nat):∀ (k r:Nat),r+n=8->n*16<k ->
  bK.l0 k (it (kK v l) r D0) r l v d a b=some (rd (it (kK v l) 8 D0) a,decide (rd (it (kK v l) 8 D0) a<FAR)):=by
 induction n with
 | zero=>
  intro k r hr hk
  obtain⟨k,rfl⟩:∃ m,k=m+1:=⟨k - 1,by omega⟩
  obtain rfl:r=8:=by omega
  have:=(BA (IG v l hl) (yQ _) 8).len;simp only[bK.l0];rw[if_neg (by decide),if_pos ha.1,if_pos (by have:=ha.2;omega)];rfl
 | succ n ih=>
  intro k r hr hk
  obtain⟨k,rfl⟩:∃ m,k=m+1:=⟨k - 1,by omega⟩
  simp only[bK.l0];rw[if_pos (by omega)];have I:=BA (IG v l hl) (yQ _) r;obtain⟨k',h1,h2,h3⟩:=qB8 l hl hn v d hv a b r l.length k 0 (it (kK v l) r D0) (by omega) (by omega) ⟨I.len,I.lo,I.hi⟩;rw[show ((0:Nat):Int)=0 from rfl] at h3;rw[h3,kW (by omega) (by omega),List.drop_zero];exact ih k' (r+1) (by omega) (by omega)
theorem qe3 {l:List aN}(hl:BZ l)(hn:l.length<=12) {v:List Bool}(d:List Bool)(hv:v.length=8) {a:Int}(b:Int)(ha:jI a) {k:Nat}(hk:200<=k) :
  bK.f k l v d a b=some (rd (it (kK v l) 7 D0) a,decide (rd (it (kK v l) 7 D0) a<FAR)):=by
 have h:=qB7 l hl hn v d hv a b ha 8 k 0 (by omega) (by omega);have e:it (kK v l) 8 D0=it (kK v l) 7 D0:=qho (IG v l hl);rw[e] at h;exact h
def BJ (F:List Int)(a b t:Int):List Int:=if rd F a >= 0/\(rd F b<0\/wrap64 (rd F a+t)<rd F b) then F.set b.toNat (wrap64 (rd F a+t)) else F
def cF (F:List Int)(a b t:Int):Bool:=decide (rd F a >= 0/\(rd F b<0\/wrap64 (rd F a+t)<rd F b))
theorem qAc (l:List aN)(v:List Bool)(p:Int)(F:List Int)(ag:Bool)(i:Int)(h0:0<=i)(hi:i<l.length)(hl:l.length<=12)(hF:F.length=8)(hv:v.length=8)(i0:jI (aj l i).f0)(i1:jI (aj l i).f1)(k:Nat) :
  ∃ k',k<=k'/\k'<=k+1/\fQ.l2 (k+3) l v p F ag i=(if usable v (aj l i)=true then fQ.l2 k' l v p (BJ (BJ F (aj l i).f0 (aj l i).f1 (aj l i).f2) (aj l i).f1 (aj l i).f0 (aj l i).f2) (ag||cF F (aj l i).f0 (aj l i).f1 (aj l i).f2||cF (BJ F (aj l i).f0 (aj l i).f1 (aj l i).f2) (aj l i).f1 (aj l i).f0 (aj l i).f2) (i+1) else fQ.l2 k' l v p F ag (i+1)):=by
 simp only[fQ.l2,kW (x:=i+1) (by omega) (by omega)];generalize hge:aj l i=g at i0 i1;obtain⟨i00,i01⟩:=i0;obtain⟨i10,i11⟩:=i1;rw[if_pos hi,if_pos h0,if_pos i00,if_pos (by omega)];unfold usable
 cases h0':fE false v g.f0 with
 | false=>
  refine⟨k+1,by omega,by omega,?_⟩;rw[if_neg (by decide),if_neg (by simp)];simp only[fQ.j3,if_true,kW (x:=i+1) (by omega) (by omega)]
 | true=>
  rw[if_pos rfl,if_pos i10,if_pos (by omega)]
  cases h1':fE false v g.f1 with
  | false=>
   refine⟨k+1,by omega,by omega,?_⟩;rw[if_neg (by decide)];simp only[fQ.j3,Bool.not_false,if_true,kW (x:=i+1) (by omega) (by omega)]
  | true=>
   refine⟨k,by omega,by omega,?_⟩;rw[if_pos (by decide)]
   have tail:∀ (Y:List Int) (yG:Bool) (m:Int),m=8->(if rd Y g.f1 >= 0 then (if 0<=g.f0 then (if g.f0<m then (if rd Y g.f0<0 then fQ.l2 k l v p (Y.set g.f0.toNat (wrap64 (rd Y g.f1+g.f2))) true (i+1) else (if wrap64 (rd Y g.f1+g.f2)<rd Y g.f0 then fQ.l2 k l v p (Y.set g.f0.toNat (wrap64 (rd Y g.f1+g.f2))) true (i+1) else fQ.l2 k l v p Y yG (i+1))) else none) else none) else fQ.l2 k l v p Y yG (i+1))=fQ.l2 k l v p (BJ Y g.f1 g.f0 g.f2) (yG||cF Y g.f1 g.f0 g.f2) (i+1):=by
    intro Y yG m hY;unfold BJ cF;by_cases c1:rd Y g.f1 >= 0
    .
     rw[if_pos c1,if_pos i00,if_pos (by omega)];by_cases c2:rd Y g.f0<0
     .
      rw[if_pos c2,if_pos ⟨c1,.inl c2⟩,decide_eq_true ⟨c1,.inl c2⟩,Bool.or_true]
     .
      rw[if_neg c2];by_cases c3:wrap64 (rd Y g.f1+g.f2)<rd Y g.f0
      .
       rw[if_pos c3,if_pos ⟨c1,.inr c3⟩,decide_eq_true ⟨c1,.inr c3⟩,Bool.or_true]
      .
       have hn:¬ (rd Y g.f1 >= 0/\(rd Y g.f0<0\/wrap64 (rd Y g.f1+g.f2)<rd Y g.f0)):=fun h=>by rcases h.2 with z|z <;> contradiction
       rw[if_neg c3,if_neg hn,decide_eq_false hn,Bool.or_false]
    .
     have hn:¬ (rd Y g.f1 >= 0/\(rd Y g.f0<0\/wrap64 (rd Y g.f1+g.f2)<rd Y g.f0)):=fun h=>c1 h.1
     rw[if_neg c1,if_neg hn,decide_eq_false hn,Bool.or_false]
   have main:∀ (c:Bool),(c=true->(rd F g.f0 >= 0/\(rd F g.f1<0\/wrap64 (rd F g.f0+g.f2)<rd F g.f1)))->(c=false->¬ (rd F g.f0 >= 0/\(rd F g.f1<0\/wrap64 (rd F g.f0+g.f2)<rd F g.f1)))->fQ.j4 (k+1) l v p F ag i g.f0 g.f1 (wrap64 (rd F g.f0+g.f2)) c=fQ.l2 k l v p (BJ (BJ F g.f0 g.f1 g.f2) g.f1 g.f0 g.f2) (ag||cF F g.f0 g.f1 g.f2||cF (BJ F g.f0 g.f1 g.f2) g.f1 g.f0 g.f2) (i+1):=by
    intro c hc1 hc2;simp only[fQ.j4,hge,kW (x:=i+1) (by omega) (by omega)]
    cases c with
    | true=>
     have hc:=hc1 rfl;rw[if_pos rfl,if_pos i10,if_pos (by omega)];simp only[Option.bind_some];rw[if_pos h0,if_pos hi,tail (F.set g.f1.toNat (wrap64 (rd F g.f0+g.f2))) true (F.length:Int) (by omega)]
     have e:BJ F g.f0 g.f1 g.f2=F.set g.f1.toNat (wrap64 (rd F g.f0+g.f2)):=by
      unfold BJ;rw[if_pos hc]
     have e2:cF F g.f0 g.f1 g.f2=true:=decide_eq_true hc;rw[e,e2,Bool.or_true]
    | false=>
     have hc:=hc2 rfl;rw[if_neg (by decide),if_pos i10,if_pos (by omega),if_pos h0,if_pos hi,tail F ag (F.length:Int) (by omega)]
     have e:BJ F g.f0 g.f1 g.f2=F:=by
      unfold BJ;rw[if_neg hc]
     have e2:cF F g.f0 g.f1 g.f2=false:=decide_eq_false hc;rw[e,e2,Bool.or_false]
   simp only[fQ.j3,hge,Bool.not_true,Bool.false_eq_true,if_false];rw[if_pos i00,if_pos (by omega),if_pos h0,if_pos hi];by_cases c1:rd F g.f0 >= 0
   .
    rw[if_pos c1,if_pos i10,if_pos (by omega)];by_cases c2:rd F g.f1<0
    .
     rw[if_pos c2,main true (fun _=>⟨c1,.inl c2⟩) (fun h=>by cases h)]
    .
     rw[if_neg c2];by_cases c3:wrap64 (rd F g.f0+g.f2)<rd F g.f1
     .
      rw[decide_eq_true c3,main true (fun _=>⟨c1,.inr c3⟩) (fun h=>by cases h)]
     .
      rw[decide_eq_false c3,main false (fun h=>by cases h) (fun _ h=>by rcases h.2 with z|z <;> contradiction)]
   .
    rw[if_neg c1,main false (fun h=>by cases h) (fun _ h=>c1 h.1)]
theorem qnu {c:Int}{D:List Int}(h:Qq D)(hb:Bd c D)(hc:c+500<FAR) {a b t:Int}(ha:jI a)(hb8:jI b)(ht:1<=t)(ht':t<=500) :
  BJ (D.map dec) a b t=(step1 D a b t).map dec/\(cF (D.map dec) a b t=true ↔ rd D a+t<rd D b):=by
 obtain⟨h1,h2,h3⟩:=qrp h.1 h.2.1 h.2.2 hb hc ha hb8 ht ht';have a0:=h.2.1 a ha;unfold BJ cF step1;rw[decide_eq_true_eq];by_cases hf:rd D a<FAR
 .
  obtain⟨e,e2,e3⟩:=h2 hf
  have hw:wrap64 (rd (D.map dec) a+t)=rd D a+t:=by
   rw[e,kW (by omega) (by unfold FAR at e3;omega)]
  have hcnd:(rd (D.map dec) a >= 0/\(rd (D.map dec) b<0\/rd D a+t<rd (D.map dec) b)) ↔ rd D a+t<rd D b:=⟨fun z=>e2.1 z.2,fun z=>⟨h1.2 hf,e2.2 z⟩⟩
  rw[hw];by_cases hlt:rd D a+t<rd D b
  .
   rw[if_pos (hcnd.2 hlt),if_pos hlt,qzy _ _ _ (by omega)];exact⟨rfl,hcnd⟩
  .
   rw[if_neg (fun z=>hlt (hcnd.1 z)),if_neg hlt];exact⟨rfl,hcnd⟩
 .
  have hn:=h3 hf;rw[if_neg (fun z=>hf (h1.1 z.1)),if_neg hn];exact⟨rfl,fun z=>absurd (h1.1 z.1) hf,fun z=>absurd z hn⟩
theorem qm9 (l:List aN)(hl:BZ l)(hn:l.length<=12)(v:List Bool)(hv:v.length=8)(p:Int)(n:Nat):∀ (k i:Nat)(D:List Int)(ag:Bool)(c:Int),i+n=l.length->3*n<k->Qq D->Bd c D->c+1000*n<FAR ->
  ∃ k' yG,k<=k'+3*n+1/\k'<k/\fQ.l2 k l v p (D.map dec) ag i=fQ.l1 k' l v p ((o7 (kK v (l.drop i)) D).map dec) yG/\Bd (c+1000*n) (o7 (kK v (l.drop i)) D)/\(yG=true->ag=true\/zU (o7 (kK v (l.drop i)) D)<zU D)/\(yG=false->ag=false/\o7 (kK v (l.drop i)) D=D):=by
 induction n with
 | zero=>
  intro k i D ag c hi hk hD hb hc
  obtain⟨k,rfl⟩:∃ m,k=m+1:=⟨k - 1,by omega⟩
  refine⟨k,ag,by omega,by omega,?_,?_,fun h=>.inl h,fun h=>⟨h,?_⟩⟩
  .
   simp only[fQ.l2];rw[if_neg (by omega),List.drop_eq_nil_of_le (by omega)];rfl
  .
   rw[List.drop_eq_nil_of_le (by omega)];exact hb.mono (by omega)
  .
   rw[List.drop_eq_nil_of_le (by omega)];rfl
 | succ n ih=>
  intro k i D ag c hi hk hD hb hc
  obtain⟨k,rfl⟩:∃ m,k=m+3:=⟨k - 3,by omega⟩
  have hg:=hl _ (V9 (l:=l) (i:=(i:Int)) (by omega) (by omega));have i0:=VT hg.1.1 hg.1.2;have i1:=VT hg.2.1.1 hg.2.1.2;obtain⟨ht,ht'⟩:=hg.2.2.2.1;obtain⟨k1,hk1,hk2,e⟩:=qAc l v p (D.map dec) ag i (by omega) (by omega) hn (by rw[List.length_map,hD.1]) hv i0 i1 k;rw[qba l i (by omega)];generalize hge:aj l (i:Int)=g at hg i0 i1 ht ht' e;rw[e]
  cases hu:usable v g with
  | false=>
   rw[if_neg (by decide)];obtain⟨k',yG,h1,h2,h3,h4,h5,h6⟩:=ih k1 (i+1) D ag c (by omega) (by omega) hD hb (by omega)
   have ea:kK v (g::l.drop (i+1))=kK v (l.drop (i+1)):=by
    show (if usable v g=true then _ else _)=_
    rw[hu,if_neg (by decide)]
   rw[ea];exact⟨k',yG,by omega,by omega,h3,h4.mono (by omega),h5,h6⟩
  | true=>
   rw[if_pos rfl]
   have ea:∀ E,o7 (kK v (g::l.drop (i+1))) E=o7 (kK v (l.drop (i+1))) (step1 (step1 E g.f0 g.f1 g.f2) g.f1 g.f0 g.f2):=by
    intro E
    show o7 (if usable v g=true then _ else _) _=_
    rw[hu,if_pos rfl];rfl
   rw[ea D];obtain⟨s1,s2⟩:=qnu hD hb (by omega) i0 i1 ht ht';have hD1:=UE hD i0 i1 (t:=g.f2) (by omega);have hb1:=qnw hD.1 hb i0 i1 ht' hD.2.2 (by omega);obtain⟨s3,s4⟩:=qnu hD1 hb1 (by omega) i1 i0 ht ht';have hD2:=UE hD1 i1 i0 (t:=g.f2) (by omega);have hb2:=qnw hD1.1 hb1 i1 i0 ht' hD1.2.2 (by omega);rw[s1,s3]
   have hrest:∀ i,jI i->rd (step1 (step1 D g.f0 g.f1 g.f2) g.f1 g.f0 g.f2) i<=rd D i:=fun j hj=>Int.le_trans (LX hD1.1 i0 hj _) (LX hD.1 i1 hj _)
   have hrnd:∀ j,jI j->rd (o7 (kK v (l.drop (i+1))) (step1 (step1 D g.f0 g.f1 g.f2) g.f1 g.f0 g.f2)) j<=rd D j:=fun j hj=>Int.le_trans (Ph _ (IG v _ (fun x hx=>hl x (List.mem_of_mem_drop hx))) _ hD2.1 j hj) (hrest j hj)
   have hrl:(o7 (kK v (l.drop (i+1))) (step1 (step1 D g.f0 g.f1 g.f2) g.f1 g.f0 g.f2)).length=8:=by rw[qdq,hD2.1]
   have qu6:rd D g.f0+g.f2<rd D g.f1->zU (o7 (kK v (l.drop (i+1))) (step1 (step1 D g.f0 g.f1 g.f2) g.f1 g.f0 g.f2))<zU D:=by
    intro h
    rcases VY hD.1 hrl hrnd with z|z
    .
     exfalso
     have h7:=wX (a:=g.f0) (t:=g.f2) hD.1 i1 i1;rw[if_pos ⟨rfl,h⟩] at h7;have h8:=LX (a:=g.f1) (t:=g.f2) hD1.1 i0 i1;have h9:=Ph (kK v (l.drop (i+1))) (IG v _ (fun x hx=>hl x (List.mem_of_mem_drop hx))) _ hD2.1 g.f1 i1;rw[z] at h9;omega
    .
     exact z
   have qu7:rd (step1 D g.f0 g.f1 g.f2) g.f1+g.f2<rd (step1 D g.f0 g.f1 g.f2) g.f0->zU (o7 (kK v (l.drop (i+1))) (step1 (step1 D g.f0 g.f1 g.f2) g.f1 g.f0 g.f2))<zU D:=by
    intro h
    rcases VY hD.1 hrl hrnd with z|z
    .
     exfalso
     have h7:=wX (a:=g.f1) (t:=g.f2) hD1.1 i0 i0;rw[if_pos ⟨rfl,h⟩] at h7;have h8:=LX (a:=g.f0) (t:=g.f2) hD.1 i1 i0;have h9:=Ph (kK v (l.drop (i+1))) (IG v _ (fun x hx=>hl x (List.mem_of_mem_drop hx))) _ hD2.1 g.f0 i0;rw[z] at h9;omega
    .
     exact z
   obtain⟨k',yG,h1,h2,h3,h4,h5,h6⟩:=ih k1 (i+1) (step1 (step1 D g.f0 g.f1 g.f2) g.f1 g.f0 g.f2) (ag||cF (D.map dec) g.f0 g.f1 g.f2||cF ((step1 D g.f0 g.f1 g.f2).map dec) g.f1 g.f0 g.f2) (c+500+500) (by omega) (by omega) hD2 hb2 (by omega);refine⟨k',yG,by omega,by omega,h3,h4.mono (by omega),fun h=>?_,fun h=>?_⟩
   .
    rcases h5 h with z|z
    .
     rw[Bool.or_eq_true,Bool.or_eq_true] at z
     rcases z with (z|z)|z
     .
      exact .inl z
     .
      exact .inr (qu6 (s2.1 z))
     .
      exact .inr (qu7 (s4.1 z))
    .
     have q:zU (step1 (step1 D g.f0 g.f1 g.f2) g.f1 g.f0 g.f2)<=zU D:=by
      rcases VY hD.1 hD2.1 hrest with q|q
      .
       rw[q];exact Int.le_refl _
      .
       omega
     exact .inr (by omega)
   .
    obtain⟨z1,z2⟩:=h6 h;rw[Bool.or_eq_false_iff,Bool.or_eq_false_iff] at z1;obtain⟨⟨za,zb⟩,zc⟩:=z1;refine⟨za,z2.trans ?_⟩
    have n1:¬ (rd D g.f0+g.f2<rd D g.f1):=fun q=>by rw[s2.2 q] at zb;cases zb
    have e1:step1 D g.f0 g.f1 g.f2=D:=by
     unfold step1;rw[if_neg n1]
    have n2:¬ (rd (step1 D g.f0 g.f1 g.f2) g.f1+g.f2<rd (step1 D g.f0 g.f1 g.f2) g.f0):=fun q=>by rw[s4.2 q] at zc;cases zc
    have e2:step1 (step1 D g.f0 g.f1 g.f2) g.f1 g.f0 g.f2=step1 D g.f0 g.f1 g.f2:=by
     rw[show step1 (step1 D g.f0 g.f1 g.f2) g.f1 g.f0 g.f2=if rd (step1 D g.f0 g.f1 g.f2) g.f1+g.f2<rd (step1 D g.f0 g.f1 g.f2) g.f0 then _ else _ from rfl,if_neg n2]
    rw[e2,e1]
theorem qot (A:List sN):Bd 0 D0:=fun i hi=>by
 by_cases h:i=0
 .
  rw[h];right;decide
 .
  exact .inl (SQ hi h)
theorem qAb (l:List aN)(hl:BZ l)(hn:l.length<=12)(v:List Bool)(hv:v.length=8)(p:Int)(hp:jI p)(n:Nat):∀ (k r:Nat),r+n=7->40*n+40<k->Bd (12000*r) (it (kK v l) r D0) ->
  fQ.l1 k l v p ((it (kK v l) r D0).map dec) true=some (dec (rd (it (kK v l) 7 D0) p)):=by
 have hok:=IG v l hl
 have fin:∀ (k:Nat) (r:Nat),r<=7->it (kK v l) (r+1) D0=it (kK v l) r D0->fQ.l1 (k+1) l v p ((it (kK v l) (r+1) D0).map dec) false=some (dec (rd (it (kK v l) 7 D0) p)):=by
  intro k r hr he;have hlen:=(BA hok (yQ _) r).len
  have e7:it (kK v l) 7 D0=it (kK v l) r D0:=by
   have:=qdk (kK v l) D0 r (7 - r);rw[show r+(7 - r)=7 by omega,qdl he] at this;exact this
  simp only[fQ.l1,Bool.false_eq_true,if_false];have h1:=hp.1;have h2:=hp.2;rw[he,if_pos h1,if_pos (by rw[List.length_map,hlen];exact h2),qeo hlen hp,e7]
 induction n with
 | zero=>
  intro k r hr hk hb
  obtain⟨k,rfl⟩:∃ m,k=m+1:=⟨k - 1,by omega⟩
  have e8:o7 (kK v l) (it (kK v l) r D0)=it (kK v l) r D0:=by
   rw[show r=7 by omega];exact qho hok
  simp only[fQ.l1,if_true];have I:=BA hok (yQ _) r;obtain⟨k',yG,h1,h2,h3,h4,h5,h6⟩:=qm9 l hl hn v hv p l.length k 0 (it (kK v l) r D0) false (12000*r) (by omega) (by omega) ⟨I.len,I.lo,I.hi⟩ hb (by unfold FAR;omega);rw[show ((0:Nat):Int)=0 from rfl,List.drop_zero] at h3;rw[List.drop_zero] at h5 h6;rw[h3]
  cases yG with
  | true=>
   exfalso
   rcases h5 rfl with z|z
   .
    cases z
   .
    rw[e8] at z;omega
  | false=>
   have a1:r<=7:=by clear h3 h4 h5 h6 hb;omega
   have a2:k'=k' - 1+1:=by clear h3 h4 h5 h6 hb;omega
   rw[a2];exact fin (k' - 1) r a1 e8
 | succ n ih=>
  intro k r hr hk hb
  obtain⟨k,rfl⟩:∃ m,k=m+1:=⟨k - 1,by omega⟩
  simp only[fQ.l1,if_true];have I:=BA hok (yQ _) r;obtain⟨k',yG,h1,h2,h3,h4,h5,h6⟩:=qm9 l hl hn v hv p l.length k 0 (it (kK v l) r D0) false (12000*r) (by omega) (by omega) ⟨I.len,I.lo,I.hi⟩ hb (by unfold FAR;omega);rw[show ((0:Nat):Int)=0 from rfl,List.drop_zero] at h3;rw[List.drop_zero] at h4 h5 h6;rw[h3]
  cases yG with
  | true=>
   have hb':Bd (12000*((r+1:Nat):Int)) (it (kK v l) (r+1) D0):=Bd.mono (c:=12000*r+1000*l.length) h4 (by omega)
   have a1:r+1+n=7:=by clear h3 h4 h5 h6 hb' hb;omega
   have a2:40*n+40<k':=by clear h3 h4 h5 h6 hb' hb;omega
   have hq:=ih k' (r+1) a1 a2 hb';exact hq
  | false=>
   have a1:r<=7:=by clear h3 h4 h5 h6 hb;omega
   have a2:k'=k' - 1+1:=by clear h3 h4 h5 h6 hb;omega
   rw[a2];exact fin (k' - 1) r a1 (h6 rfl).2
theorem qAa (l:List aN)(v:List Bool)(p:Int)(n:Nat):∀ (k j:Nat),j+n=8->n<k ->
  ∃ k',k=k'+n+1/\fQ.l0 k l v p (List.replicate j (-1)) j=fQ.l1 k' l v p (D0.map dec) true:=by
 induction n with
 | zero=>
  intro k j hj hk
  obtain⟨k,rfl⟩:∃ m,k=m+1:=⟨k - 1,by omega⟩
  obtain rfl:j=8:=by omega
  refine⟨k,by omega,?_⟩;simp only[fQ.l0];rw[if_neg (by decide),if_pos (by decide)];rfl
 | succ n ih=>
  intro k j hj hk
  obtain⟨k,rfl⟩:∃ m,k=m+1:=⟨k - 1,by omega⟩
  simp only[fQ.l0];rw[if_pos (by omega),if_pos (by rw[List.length_replicate];omega),kW (by omega) (by omega)];obtain⟨k',h1,h2⟩:=ih k (j+1) (by omega) (by omega);refine⟨k',by omega,?_⟩;rw[List.replicate_succ'] at h2;exact h2
theorem qz8 {l:List aN}(hl:BZ l)(hn:l.length<=12) {v:List Bool}(hv:v.length=8) {p:Int}(hp:jI p) {k:Nat}(hk:400<=k) :
  fQ.f k l v p=some (dec (rd (it (kK v l) 7 D0) p)):=by
 obtain⟨k',h1,h2⟩:=qAa l v p 8 k 0 (by omega) (by omega);unfold fQ.f;rw[show ([]:List Int)=List.replicate 0 (-1) from rfl,show (0:Int)=((0:Nat):Int) from rfl,h2];exact qAb l hl hn v hv p hp 7 k' 0 (by omega) (by omega) (qot (kK v l))
def way (l:List aN)(v:List Bool)(p:Int):Int:=rd (it (kK v l) 7 D0) p
theorem qn3 {l:List aN}(hl:BZ l)(v:List Bool) {p:Int}(hp:jI p):0<=way l v p/\way l v p<=FAR:=by
 have I:=BA (IG v l hl) (yQ _) 7;exact⟨I.lo p hp,I.hi p hp⟩
structure sZ (l:List aN)(v d:List Bool)(p t:Int):Prop where
 H8:BZ l
 len:l.length<=12
 hv:v.length=8
 hd:d.length=8
 hp:jI p
 ht:0<=t/\t<=100000
 qdh:way l v p<FAR
 qly:way l v p<=t
 v0:fE false v 0=true
 vp:fE false v p=true
theorem Dz (l:List aN)(hl:l.length<=4611686018427387904)(v d:List Bool)(p t:Int) {k:Nat}(hk:l.length+410<=k) :
  ∃ b,iY.f k l v d p t=some b/\g_.f k l v d p t=some b/\(b=true ↔ sZ l v d p t):=by
 obtain⟨x,hx,hxi⟩:=qzk l hl l.length k 0 (by omega) (by omega) (by omega)
 obtain⟨k,rfl⟩:∃ m,k=m+1:=⟨k - 1,by omega⟩
 have hno:¬ sZ l v d p t->∃ b,some false=some b/\some false=some b/\(b=true ↔ sZ l v d p t):=fun h=>⟨false,rfl,rfl,fun z=>(by cases z),fun z=>absurd z h⟩
 unfold iY.f g_.f sK.f nN.f;rw[qm0,hx];simp only[Option.bind_some,qeu,qms,Rq,qe4]
 cases x with
 | false=>
  simp only[iY.j0,g_.j0,Bool.false_eq_true,if_false,if_true]
  refine hno fun h=>?_
  have:=hxi.2 ⟨fun j h1 h2=>h.H8 _ (V9 h1 h2),h.len⟩;cases this
 | true=>
  obtain⟨hlo,hlen⟩:=hxi.1 rfl;have Yu:=qzj hlo;simp only[if_true,iY.j0,g_.j0];by_cases h1:(v.length:Int)=8
  .
   rw[if_pos h1,if_pos h1];by_cases h2:(d.length:Int)=8
   .
    rw[if_pos h2,if_pos h2];by_cases h3:0<=p/\p<=7
    .
     rw[decide_eq_true h3,if_pos rfl,if_pos rfl];by_cases h4:0<=t/\t<=100000
     .
      have hv8:v.length=8:=by omega
      have YA:=VT h3.1 h3.2;rw[decide_eq_true h4];simp only[Bool.not_true,Bool.false_eq_true,if_false]
      have hvp:(0:Int)<(v.length:Int):=by omega
      simp only[if_pos hvp]
      cases h5:fE false v 0 with
      | false=>
       simp only[Bool.false_eq_true,if_false]
       exact hno fun h=>by have:=h.v0;rw[h5] at this;cases this
      | true=>
       have hpv:p<(v.length:Int):=by omega
       simp only[if_true,if_pos h3.1,if_pos hpv]
       cases h6:fE false v p with
       | false=>
        simp only[Bool.false_eq_true,if_false]
        exact hno fun h=>by have:=h.vp;rw[h6] at this;cases this
       | true=>
        simp only[if_true];rw[qz8 Yu hlen hv8 YA (by omega),qe3 Yu hlen d hv8 t YA (by omega)];simp only[Option.bind_some];obtain⟨w0,w1⟩:=qn3 Yu v YA
        have hex:way l v p<FAR->way l v p<=t->sZ l v d p t:=fun a b=>⟨Yu,hlen,hv8,by omega,YA,h4,a,b,h5,h6⟩
        rw[show rd (it (kK v l) 7 D0) p=way l v p from rfl];by_cases h7:way l v p<FAR
        .
         have e:dec (way l v p)=way l v p:=by
          unfold dec;rw[if_neg (by omega)]
         rw[e,if_pos w0,decide_eq_true h7,if_pos rfl];refine⟨_,rfl,rfl,?_⟩;rw[decide_eq_true_eq];exact⟨fun h=>hex h7 h,fun h=>h.qly⟩
        .
         have e:dec (way l v p) = -1:=by
          unfold dec;rw[if_pos (by omega)]
         rw[e,if_neg (by decide),decide_eq_false h7,if_neg (by decide)]
         exact hno fun h=>h7 h.qdh
     .
      rw[decide_eq_false h4];simp only[Bool.not_false,if_true]
      exact hno fun h=>h4 h.ht
    .
     rw[decide_eq_false h3];simp only[Bool.false_eq_true,if_false,if_true]
     exact hno fun h=>h3 ⟨h.hp.1,by have:=h.hp.2;omega⟩
   .
    rw[if_neg h2,if_neg h2]
    exact hno fun h=>h2 (by have:=h.hd;omega)
  .
   rw[if_neg h1,if_neg h1]
   exact hno fun h=>h1 (by have:=h.hv;omega)
end Go.Proofs.Ythmjimboajmhmaa.Pr.Pure

namespace Go.Proofs.Ythmjimboajmhmaa.Pr.Pure
theorem obs {α β:Type}(a:α)(f:α->Option β):(some a).bind f=f a:=id rfl
end Go.Proofs.Ythmjimboajmhmaa.Pr.Pure

namespace Go.Proofs.Ythmjimboajmhmaa.Pr.Pure
open Go.RowKit Go.Proofs.YthmjimboajmhmaaW.PrintWords Go.Proofs.YthmjimboajmhmaaW.PrintLast Go.Proofs.YthmjimboajmhmaaW.PrintMore Go.Lib
set_option linter.unusedVariables false
theorem Qh (x:Int):0<=Go.bits .and .u64 x 255/\Go.bits .and .u64 x 255<=255:=by
 have h:(BitVec.ofInt IntKind.u64.bits x &&& BitVec.ofInt IntKind.u64.bits 255).toNat<=255:=by
  rw[BitVec.toNat_and];exact Nat.le_trans Nat.and_le_right (by decide)
 have e:Go.bits .and .u64 x 255=IntKind.u64.wrap (((BitVec.ofInt IntKind.u64.bits x &&& BitVec.ofInt IntKind.u64.bits 255).toNat:Nat):Int):=rfl;rw[e];generalize (BitVec.ofInt IntKind.u64.bits x &&& BitVec.ofInt IntKind.u64.bits 255).toNat=n at h
 have e2:IntKind.u64.wrap (n:Int)=(n:Int):=by
  have:IntKind.u64.wrap (n:Int)=(n:Int) % 18446744073709551616:=rfl;omega
 rw[e2];omega
theorem qnj (l:List Int) {i:Int}(h0:0<=i)(h1:i<l.length):rd l i∈l:=by
 unfold rd;rw[List.getD_eq_getElem?_getD,List.getElem?_eq_getElem (by omega)];exact List.getElem_mem _
theorem qm7 {c:List Int}(hc:∀ x,x∈c->0<=x/\x<=255) {p:Int}(h0:0<=p)(h1:p<=1000000000)(s:Int) :
  ∃ r q,DY.f c p s=some (r,p+1,q)/\0<=r/\r<=255:=by
 have hw:wrap64 (p+1)=p+1:=kW (by omega) (by omega);unfold DY.f;rw[hw];by_cases a:p<(c.length:Int)
 .
  have hb:=hc _ (qnj c h0 a);have hv:wrap64 (rd c p)=rd c p:=kW (by omega) (by omega);rw[if_pos a,if_pos h0];by_cases b:p+1<=(c.length:Int)
  .
   rw[if_pos b,hv];exact⟨_,_,rfl,hb.1,hb.2⟩
  .
   rw[if_neg b];refine⟨_,_,rfl,?_⟩;rw[kW (by have:=Qh;exact Int.le_trans (by decide) (this _).1) (Int.le_trans (Qh _).2 (by decide))];exact Qh _
 .
  rw[if_neg a];by_cases b:p+1<=(c.length:Int)
  .
   rw[if_pos b];exact⟨_,_,rfl,by decide,by decide⟩
  .
   rw[if_neg b];refine⟨_,_,rfl,?_⟩;rw[kW (by have:=Qh;exact Int.le_trans (by decide) (this _).1) (Int.le_trans (Qh _).2 (by decide))];exact Qh _
theorem tmod_lt {a n:Int}(h:0<=a)(hn:0<n):0<=Int.tmod a n/\Int.tmod a n<n:=
 ⟨Int.tmod_nonneg _ h,Int.tmod_lt_of_pos _ hn⟩
theorem qd6 {c:List Int}(hc:∀ x,x∈c->0<=x/\x<=255) {p:Int}(h0:0<=p)(h1:p<=900000000)(s:Int) {n:Int}(hn:0<n) :
  ∃ r p1 q,FQ.f c p s n=some (r,p1,q)/\(0<=r/\r<n)/\p<=p1/\p1<=p+2:=by
 unfold FQ.f;by_cases a:n<=1
 .
  rw[if_pos a];exact⟨0,p,s,rfl,⟨by decide,hn⟩,by omega,by omega⟩
 .
  obtain⟨r,q,e,b1,b2⟩:=qm7 hc h0 (by omega) s
  have n0:¬ n=0:=by omega
  rw[if_neg a,e,obs];by_cases d:n > 200
  .
   obtain⟨r2,q2,e2,d1,d2⟩:=qm7 hc (p:=p+1) (by omega) (by omega) q;rw[if_pos d,e2,obs,if_neg n0]
   have hw:wrap64 (wrap64 (r*256)+r2)=r*256+r2:=by
    rw[kW (x:=r*256) (by omega) (by omega),kW (by omega) (by omega)]
   refine⟨_,p+1+1,q2,rfl,?_,by omega,by omega⟩;simp only;rw[hw];exact tmod_lt (by omega) hn
  .
   rw[if_neg d,if_neg n0];exact⟨_,p+1,q,rfl,tmod_lt b1 hn,by omega,by omega⟩
theorem qz6 {c:List Int}(hc:∀ x,x∈c->0<=x/\x<=255) {p:Int}(h0:0<=p)(h1:p<=900000000)(s:Int) {n:Int}(hn:0<n) :
  ∃ b p1 q,Wp.f c p s n=some (b,p1,q)/\p<=p1/\p1<=p+2:=by
 obtain⟨r,p1,q,e,_,a1,a2⟩:=qd6 hc h0 h1 s hn;unfold Wp.f;rw[e,obs];exact⟨_,p1,q,rfl,a1,a2⟩
theorem qqn {c:List Int}(hc:∀ x,x∈c->0<=x/\x<=255) {p:Int}(h0:0<=p)(h1:p<=900000000)(s:Int) {l:List Int}(hl:0<l.length) :
  ∃ r p1 q,Wn.f c p s l=some (r,p1,q)/\r∈l/\p<=p1/\p1<=p+2:=by
 obtain⟨r,p1,q,e,b,a1,a2⟩:=qd6 hc h0 h1 s (n:=(l.length:Int)) (by omega);unfold Wn.f;rw[e,obs,if_pos b.1,if_pos b.2];exact⟨_,p1,q,rfl,qnj l b.1 b.2,a1,a2⟩
end Go.Proofs.Ythmjimboajmhmaa.Pr.Pure

namespace Go.Proofs.Ythmjimboajmhmaa.Pr.Pure
open Go.RowKit Go.Proofs.Ythmjimboajmhmaa.Pr Go.Proofs.YthmjimboajmhmaaW.PrintWords Go.Proofs.YthmjimboajmhmaaW.PrintLast Go.Proofs.YthmjimboajmhmaaW.PrintMore
set_option linter.unusedVariables false
set_option linter.unusedSimpArgs false
def nZ (w0 W:World)(g:Nat)(x:List Int)(b:Int):Prop:=∃ p s,gW w0 W g x p s/\0<=p/\p<=b
def Ee (x:List Int):Prop:=∀ v,v∈x->0<=v/\v<=255
section
variable {w0 W W':World}{g:Nat}{x:List Int}{b c:Int}
theorem nZ.mono (h:nZ w0 W g x b)(hbc:b<=c):nZ w0 W g x c:=by
 obtain⟨p,s,hI,h0,h1⟩:=h;exact⟨p,s,hI,h0,by omega⟩
theorem nZ.below (h:nZ w0 W g x b)(hb:Below W.heap.size W W'):nZ w0 W' g x b:=by
 obtain⟨p,s,hI,h0,h1⟩:=h;exact⟨p,s,gW.below hI hb,h0,h1⟩
theorem nZ.blk (h:nZ w0 W g x b)(hk:gJ W W' g none) {q t:Nat}{cs:Array Value}(hb:W.heap[q]? = some (.cells cs t (0,0)))(ht:96≠t):W'.heap[q]? = some (.cells cs t (0,0)):=by
 obtain⟨p,s,hI,_⟩:=h;exact gJ.blk hk hb (Ne.symm (gW.qm5 hI hb (Ne.symm ht))) (by simp)
theorem nZ.ne (h:nZ w0 W g x b) {q t:Nat}{cs:Array Value}(hb:W.heap[q]? = some (.cells cs t (0,0)))(ht:96≠t):g≠q:=by
 obtain⟨p,s,hI,_⟩:=h;exact gW.qm5 hI hb (Ne.symm ht)
theorem nZ.far (h:nZ w0 W g x b) {q j:Nat}(hne:g≠q)(v:Value):nZ w0 (W.setCell ⟨q,j,none⟩ v) g x b:=by
 obtain⟨p,s,hI,h0,h1⟩:=h;exact⟨p,s,gW.far (p:=⟨q,j,none⟩) hI hne _,h0,h1⟩
theorem nZ.row {α:Type}{d:Kd α}{e B:Nat}{ok:Nat->Prop}{v:Value}{l:List α}(h:nZ w0 W g x b)(hk:gJ W W' g none)(hr:d.R e W B ok v l)(ht:∀ q,q∈e::d.E->q≠96):d.R e W' B ok v l:=by
 obtain⟨p,s,hI,_⟩:=h;exact Kd.dV (Kd.MZ (gW.apart hI hr ht) hk (fun _ h_=>h_.2)) (fun _ h_=>h_.1)
theorem wW (hx:Ee x)(hC:nZ w0 W g x b)(hB:Below w0.heap.size w0 W)(hb:b<=900000000)(n:Int)(hn:0<n) :
  Calls Try.prog 81 #[.pointer (some ⟨g,0,none⟩),.int .i64 n] W fun e W'=>∃ t,e=.returned (.int .i64 t)/\0<=t/\t<n/\nZ w0 W' g x (b+2)/\Below w0.heap.size w0 W'/\gJ W W' g none:=by
 obtain⟨p,s,hI,h0,h1⟩:=hC;obtain⟨r,p1,q,e,⟨r0,r1⟩,p2,p3⟩:=qd6 hx h0 (by omega) s hn;refine(FQ.calls g x p s n r p1 q w0 W hI hB e).mono ?_;rintro e W' ⟨rfl,hi,hb,hk⟩;exact⟨r,rfl,r0,r1,⟨p1,q,hi,by omega,by omega⟩,hb,hk⟩
theorem qdt (hx:Ee x)(hC:nZ w0 W g x b)(hB:Below w0.heap.size w0 W)(hb:b<=900000000)(n:Int)(hn:0<n) :
  Calls Try.prog 82 #[.pointer (some ⟨g,0,none⟩),.int .i64 n] W fun e W'=>∃ t,e=.returned (.bool t)/\nZ w0 W' g x (b+2)/\Below w0.heap.size w0 W'/\gJ W W' g none:=by
 obtain⟨p,s,hI,h0,h1⟩:=hC;obtain⟨r,p1,q,e,p2,p3⟩:=qz6 hx h0 (by omega) s hn;refine(Wp.calls g x p s n r p1 q w0 W hI hB e).mono ?_;rintro e W' ⟨rfl,hi,hb,hk⟩;exact⟨r,rfl,⟨p1,q,hi,by omega,by omega⟩,hb,hk⟩
theorem yH (hx:Ee x)(hC:nZ w0 W g x b)(hB:Below w0.heap.size w0 W)(hb:b<=900000000) {A:Option Addr}{cp B:Nat}{ok:Nat->Prop}{l:List Int}(hl:0<l.length)(hr:(Kd.int .i64).R 3 W B ok (.slice A l.length cp) l) :
  Calls Try.prog 86 #[.pointer (some ⟨g,0,none⟩),.slice A l.length cp] W fun e W'=>∃ t,e=.returned (.int .i64 t)/\t∈l/\nZ w0 W' g x (b+2)/\Below w0.heap.size w0 W'/\gJ W W' g none:=by
 obtain⟨p,s,hI,h0,h1⟩:=hC;obtain⟨r,p1,q,e,hm,p2,p3⟩:=qqn hx h0 (by omega) s hl;refine(Wn.calls g x p s _ _ l r p1 q w0 W hI hB (Kd.aT hr).2.2 (Kd.aT hr).2.1 (fun ad e1 e2=>qsz (gW.own_ne hI hr (by decide)) ad e1 e2) e).mono ?_;rintro e W' ⟨rfl,hi,hb,hk⟩;exact⟨r,rfl,hm,⟨p1,q,hi,by omega,by omega⟩,hb,hk⟩
end
theorem xZ (W:World)(B:Nat)(ok:Nat->Prop):∀ xs:List Int,bW ((Kd.int .i64).M W B ok) (Kd.int .i64).sz xs (xs.map fun z=>(.int .i64 z:Value))
 | []=>bW.none _ _
 | z::xs=>bW.one (show (Kd.int .i64).M W B ok z [.int .i64 z] from rfl) (xZ W B ok xs)
structure jH (w0 w W:World)(g:Nat)(x:List Int)(b:Int):Prop where
 cur:nZ w0 W g x b
 hB:Below w0.heap.size w0 W
 hK:gJ w W g none
 hw:w0.heap.size<=w.heap.size
section
variable {w0 w W W':World}{g:Nat}{x:List Int}{b c:Int}
theorem jH.call (h:jH w0 w W g x b)(hc:nZ w0 W' g x c)(hb:Below w0.heap.size w0 W')(hk:gJ W W' g none):jH w0 w W' g x c:=⟨hc,hb,gJ.trans h.hK hk (.inl rfl),h.hw⟩
theorem jH.below (h:jH w0 w W g x b)(hb:Below W.heap.size W W'):jH w0 w W' g x b:=⟨h.cur.below hb,aU h.hB hb,gJ.trans h.hK (gJ.of_below hb g none) (.inl rfl),h.hw⟩
theorem jH.far (h:jH w0 w W g x b) {q t:Nat}{cs:Array Value}(hb:W.heap[q]? = some (.cells cs t (0,0)))(ht:96≠t)(hq:w.heap.size<=q)(j:Nat)(v:Value):jH w0 w (W.setCell ⟨q,j,none⟩ v) g x b:=
 ⟨h.cur.far (h.cur.ne hb ht) v,aK h.hB (Nat.le_trans h.hw hq),wV h.hK hq v,h.hw⟩
theorem jH.mono (h:jH w0 w W g x b)(hbc:b<=c):jH w0 w W g x c:=⟨h.cur.mono hbc,h.hB,h.hK,h.hw⟩
theorem jH.size (h:jH w0 w W g x b):w.heap.size<=W.heap.size:=h.hK.1
end
theorem V8 {W:World}{q t:Nat}{b0 b1 b2 b3 b4:Value}(h:W.heap[q]? = some (.cells #[b0,b1,b2,b3,b4] t (0,0)))(a0 a1 a2 a3 a4:Value):(((((W.setCell ⟨q,0,none⟩ (a0)).setCell ⟨q,1,none⟩ (a1)).setCell ⟨q,2,none⟩ (a2)).setCell ⟨q,3,none⟩ (a3)).setCell ⟨q,4,none⟩ (a4)).heap[q]? = some (.cells #[a0,a1,a2,a3,a4] t (0,0)):=(dG (cs:=#[a0,a1,a2,a3,b4]) (dG (cs:=#[a0,a1,a2,b3,b4]) (dG (cs:=#[a0,a1,b2,b3,b4]) (dG (cs:=#[a0,b1,b2,b3,b4]) (dG (cs:=#[b0,b1,b2,b3,b4]) h 0 _ rfl) 1 _ rfl) 2 _ rfl) 3 _ rfl) 4 _ rfl)
theorem oW {W:World}{q p t:Nat}{cs:Array Value}(h:W.heap[p]? = some (.cells cs t (0,0)))(hne:p≠q)(a0 a1 a2 a3 a4:Value):(((((W.setCell ⟨q,0,none⟩ (a0)).setCell ⟨q,1,none⟩ (a1)).setCell ⟨q,2,none⟩ (a2)).setCell ⟨q,3,none⟩ (a3)).setCell ⟨q,4,none⟩ (a4)).heap[p]? = some (.cells cs t (0,0)):=(eU (p:=⟨q,4,none⟩) (eU (p:=⟨q,3,none⟩) (eU (p:=⟨q,2,none⟩) (eU (p:=⟨q,1,none⟩) (eU (p:=⟨q,0,none⟩) h hne _) hne _) hne _) hne _) hne _)
theorem qA7 {α:Type}{d:Kd α}{e lo B0:Nat}{W:World}{v:Value}{l:List α}{q:Nat}(h:d.R e W lo (fun k=>k<B0) v l)(hq:B0<=q)(a0 a1 a2 a3 a4:Value):d.R e (((((W.setCell ⟨q,0,none⟩ (a0)).setCell ⟨q,1,none⟩ (a1)).setCell ⟨q,2,none⟩ (a2)).setCell ⟨q,3,none⟩ (a3)).setCell ⟨q,4,none⟩ (a4)) lo (fun k=>k<B0) v l:=(Kd.bD (p:=⟨q,4,none⟩) (Kd.bD (p:=⟨q,3,none⟩) (Kd.bD (p:=⟨q,2,none⟩) (Kd.bD (p:=⟨q,1,none⟩) (Kd.bD (p:=⟨q,0,none⟩) h (fun k_ mJ e_=>by have gI:k_<B0:=mJ;have pG:k_=q:=e_;omega) _) (fun k_ mJ e_=>by have gI:k_<B0:=mJ;have pG:k_=q:=e_;omega) _) (fun k_ mJ e_=>by have gI:k_<B0:=mJ;have pG:k_=q:=e_;omega) _) (fun k_ mJ e_=>by have gI:k_<B0:=mJ;have pG:k_=q:=e_;omega) _) (fun k_ mJ e_=>by have gI:k_<B0:=mJ;have pG:k_=q:=e_;omega) _)
theorem jH.yJ {w0 w W:World}{g:Nat}{x:List Int}{b:Int}(h:jH w0 w W g x b) {q t:Nat}{b0 b1 b2 b3 b4:Value}(hb:W.heap[q]? = some (.cells #[b0,b1,b2,b3,b4] t (0,0)))(ht:96≠t)(hq:w.heap.size<=q)(a0 a1 a2 a3 a4:Value):jH w0 w (((((W.setCell ⟨q,0,none⟩ (a0)).setCell ⟨q,1,none⟩ (a1)).setCell ⟨q,2,none⟩ (a2)).setCell ⟨q,3,none⟩ (a3)).setCell ⟨q,4,none⟩ (a4)) g x b:=by
 have ne:=h.cur.ne hb ht;refine⟨(((((h.cur.far ne _).far ne _).far ne _).far ne _).far ne _),(aK (aK (aK (aK (aK h.hB (Nat.le_trans h.hw hq)) (Nat.le_trans h.hw hq)) (Nat.le_trans h.hw hq)) (Nat.le_trans h.hw hq)) (Nat.le_trans h.hw hq)),(wV (p:=⟨q,_,none⟩) (wV (p:=⟨q,_,none⟩) (wV (p:=⟨q,_,none⟩) (wV (p:=⟨q,_,none⟩) (wV (p:=⟨q,_,none⟩) h.hK hq _) hq _) hq _) hq _) hq _),h.hw⟩
theorem Jt {W:World}{q t:Nat}{b0 b1 b2 b3 b4 b5 b6:Value}(h:W.heap[q]? = some (.cells #[b0,b1,b2,b3,b4,b5,b6] t (0,0)))(a0 a1 a2 a3 a4 a5 a6:Value):(((((((W.setCell ⟨q,0,none⟩ (a0)).setCell ⟨q,1,none⟩ (a1)).setCell ⟨q,2,none⟩ (a2)).setCell ⟨q,3,none⟩ (a3)).setCell ⟨q,4,none⟩ (a4)).setCell ⟨q,5,none⟩ (a5)).setCell ⟨q,6,none⟩ (a6)).heap[q]? = some (.cells #[a0,a1,a2,a3,a4,a5,a6] t (0,0)):=(dG (cs:=#[a0,a1,a2,a3,a4,a5,b6]) (dG (cs:=#[a0,a1,a2,a3,a4,b5,b6]) (dG (cs:=#[a0,a1,a2,a3,b4,b5,b6]) (dG (cs:=#[a0,a1,a2,b3,b4,b5,b6]) (dG (cs:=#[a0,a1,b2,b3,b4,b5,b6]) (dG (cs:=#[a0,b1,b2,b3,b4,b5,b6]) (dG (cs:=#[b0,b1,b2,b3,b4,b5,b6]) h 0 _ rfl) 1 _ rfl) 2 _ rfl) 3 _ rfl) 4 _ rfl) 5 _ rfl) 6 _ rfl)
theorem Ez {W:World}{q p t:Nat}{cs:Array Value}(h:W.heap[p]? = some (.cells cs t (0,0)))(hne:p≠q)(a0 a1 a2 a3 a4 a5 a6:Value):(((((((W.setCell ⟨q,0,none⟩ (a0)).setCell ⟨q,1,none⟩ (a1)).setCell ⟨q,2,none⟩ (a2)).setCell ⟨q,3,none⟩ (a3)).setCell ⟨q,4,none⟩ (a4)).setCell ⟨q,5,none⟩ (a5)).setCell ⟨q,6,none⟩ (a6)).heap[p]? = some (.cells cs t (0,0)):=(eU (p:=⟨q,6,none⟩) (eU (p:=⟨q,5,none⟩) (eU (p:=⟨q,4,none⟩) (eU (p:=⟨q,3,none⟩) (eU (p:=⟨q,2,none⟩) (eU (p:=⟨q,1,none⟩) (eU (p:=⟨q,0,none⟩) h hne _) hne _) hne _) hne _) hne _) hne _) hne _)
theorem qA8 {α:Type}{d:Kd α}{e lo B0:Nat}{W:World}{v:Value}{l:List α}{q:Nat}(h:d.R e W lo (fun k=>k<B0) v l)(hq:B0<=q)(a0 a1 a2 a3 a4 a5 a6:Value):d.R e (((((((W.setCell ⟨q,0,none⟩ (a0)).setCell ⟨q,1,none⟩ (a1)).setCell ⟨q,2,none⟩ (a2)).setCell ⟨q,3,none⟩ (a3)).setCell ⟨q,4,none⟩ (a4)).setCell ⟨q,5,none⟩ (a5)).setCell ⟨q,6,none⟩ (a6)) lo (fun k=>k<B0) v l:=(Kd.bD (p:=⟨q,6,none⟩) (Kd.bD (p:=⟨q,5,none⟩) (Kd.bD (p:=⟨q,4,none⟩) (Kd.bD (p:=⟨q,3,none⟩) (Kd.bD (p:=⟨q,2,none⟩) (Kd.bD (p:=⟨q,1,none⟩) (Kd.bD (p:=⟨q,0,none⟩) h (fun k_ mJ e_=>by have gI:k_<B0:=mJ;have pG:k_=q:=e_;omega) _) (fun k_ mJ e_=>by have gI:k_<B0:=mJ;have pG:k_=q:=e_;omega) _) (fun k_ mJ e_=>by have gI:k_<B0:=mJ;have pG:k_=q:=e_;omega) _) (fun k_ mJ e_=>by have gI:k_<B0:=mJ;have pG:k_=q:=e_;omega) _) (fun k_ mJ e_=>by have gI:k_<B0:=mJ;have pG:k_=q:=e_;omega) _) (fun k_ mJ e_=>by have gI:k_<B0:=mJ;have pG:k_=q:=e_;omega) _) (fun k_ mJ e_=>by have gI:k_<B0:=mJ;have pG:k_=q:=e_;omega) _)
theorem jH.Nv {w0 w W:World}{g:Nat}{x:List Int}{b:Int}(h:jH w0 w W g x b) {q t:Nat}{b0 b1 b2 b3 b4 b5 b6:Value}(hb:W.heap[q]? = some (.cells #[b0,b1,b2,b3,b4,b5,b6] t (0,0)))(ht:96≠t)(hq:w.heap.size<=q)(a0 a1 a2 a3 a4 a5 a6:Value):jH w0 w (((((((W.setCell ⟨q,0,none⟩ (a0)).setCell ⟨q,1,none⟩ (a1)).setCell ⟨q,2,none⟩ (a2)).setCell ⟨q,3,none⟩ (a3)).setCell ⟨q,4,none⟩ (a4)).setCell ⟨q,5,none⟩ (a5)).setCell ⟨q,6,none⟩ (a6)) g x b:=by
 have ne:=h.cur.ne hb ht;refine⟨(((((((h.cur.far ne _).far ne _).far ne _).far ne _).far ne _).far ne _).far ne _),(aK (aK (aK (aK (aK (aK (aK h.hB (Nat.le_trans h.hw hq)) (Nat.le_trans h.hw hq)) (Nat.le_trans h.hw hq)) (Nat.le_trans h.hw hq)) (Nat.le_trans h.hw hq)) (Nat.le_trans h.hw hq)) (Nat.le_trans h.hw hq)),(wV (p:=⟨q,_,none⟩) (wV (p:=⟨q,_,none⟩) (wV (p:=⟨q,_,none⟩) (wV (p:=⟨q,_,none⟩) (wV (p:=⟨q,_,none⟩) (wV (p:=⟨q,_,none⟩) (wV (p:=⟨q,_,none⟩) h.hK hq _) hq _) hq _) hq _) hq _) hq _) hq _),h.hw⟩
set_option maxHeartbeats 64000000 in
set_option maxRecDepth 100000 in
theorem qdn {w0 w:World}{g:Nat}{x:List Int}{b:Int}(hx:Ee x)(hC:nZ w0 w g x b)(hB:Below w0.heap.size w0 w)(hb:b<=800000000) :
  Calls Try.prog 104 #[.pointer (some ⟨g,0,none⟩)] w fun e w'=>∃ a0 a1 a2 a3 a4:Int,e=.returned (.agg #[.int .i64 a0,.int .i64 a1,.int .i64 a2,.int .i64 a3,.int .i64 a4])/\jH w0 w w' g x (b+14):=by
 have zB:=Try.underlying37;have HD:=ak (show jH w0 w w g x b from ⟨hC,hB,gJ.refl _ _ _,eG hB⟩);clear hC hB
 go_enter Try.func104,Try.ntmps104
 go_upto_if 22 with (first|((with_reducible refine bT (N:=2) rfl ?_);refine dN ?hg (N:=2) ?hd (cs:=#[.int .i64 0,.int .i64 0,.int .i64 0,.int .i64 0,.int .i64 0]) (t:=37) ?hr ?_;(case hd=>rfl);(case hg=>rfl);(case hr=>first|(go_simp;done)|(go_simp;rfl));intro q2 hg wa hbox hb;have yT:=ak (show w.heap.size<=q2 from by rw[hg];exact HD.out.size);have bg:=ak hbox;replace HD:=ak (HD.out.below hb);clear hb hbox hg)|((with_reducible refine bZ (f:=81) rfl ?_);refine bY (some 5) Try.func81 #[.pointer (some ⟨g,0,none⟩),.int .i64 6] ?_;refine(wW hx HD.out.cur HD.out.hB (by omega) 6 (by decide)).mono ?_;rintro e wb ⟨t0,rfl,iC,gI,hc,hb2,hk⟩;refine⟨_,rfl,?_⟩;have ZP:=ak (And.intro iC gI);clear iC gI;replace bg:=ak (HD.out.cur.blk hk bg.out (by decide));replace HD:=ak (HD.out.call hc hb2 hk);clear hc hb2 hk)|((with_reducible refine bZ (f:=81) rfl ?_);refine bY (some 7) Try.func81 #[.pointer (some ⟨g,0,none⟩),.int .i64 6] ?_;refine(wW hx HD.out.cur HD.out.hB (by omega) 6 (by decide)).mono ?_;rintro e wc ⟨t1,rfl,iC,gI,hc,hb2,hk⟩;refine⟨_,rfl,?_⟩;have Ht1:=ak (And.intro iC gI);clear iC gI;replace bg:=ak (HD.out.cur.blk hk bg.out (by decide));replace HD:=ak (HD.out.call hc hb2 hk);clear hc hb2 hk)|((with_reducible refine bT (N:=9) rfl ?_);refine Kd.ru (Kd.int .i64) _ 3 ?hg (N:=9) ?hd (xs:=[1,10,50,100,120,250,500]) (inner:=[.int .i64 1,.int .i64 10,.int .i64 50,.int .i64 100,.int .i64 120,.int .i64 250,.int .i64 500]) (ok:=fun _=>True) (iJ:=fun _=>True) ?hr ?hp (fun _ hk=>hk) trivial (Below.refl _ _) (Nat.le_refl _) (show 7<=9223372036854775807 from by decide) ?_;(case hd=>rfl);(case hg=>rfl);(case hr=>first|(go_simp;done)|(go_simp;rfl));(case hp=>exact xZ _ _ _ [1,10,50,100,120,250,500]);intro v_ wd ho hb iP je;obtain⟨lp,jd⟩:∃ z:List Int,z=[1,10,50,100,120,250,500]:=⟨_,rfl⟩;rw[<- jd] at ho;have Pp:=ak (show 0<lp.length from by rw[jd];exact Nat.zero_lt_succ _);obtain⟨Ap,cp,oK⟩:=Kd.bM ho;subst oK;have Lp:=ak ho;replace bg:=ak (aI bg.out hb);replace HD:=ak (HD.out.below hb);clear ho hb iP je jd)|((with_reducible refine bZ (f:=86) rfl ?_);refine bY (some 10) Try.func86 #[.pointer (some ⟨g,0,none⟩),.slice Ap lp.length cp] ?_;refine(yH hx HD.out.cur HD.out.hB (by omega) Pp.out Lp.out).mono ?_;rintro e we ⟨t2,rfl,nK,hc,hb2,hk⟩;refine⟨_,rfl,?_⟩;clear nK Lp Pp;replace bg:=ak (HD.out.cur.blk hk bg.out (by decide));replace HD:=ak (HD.out.call hc hb2 hk);clear hc hb2 hk)|((with_reducible refine bT (N:=12) rfl ?_);refine Kd.ru (Kd.int .i64) _ 3 ?hg (N:=12) ?hd (xs:=[0,45,90,135,180,270,359,17,222]) (inner:=[.int .i64 0,.int .i64 45,.int .i64 90,.int .i64 135,.int .i64 180,.int .i64 270,.int .i64 359,.int .i64 17,.int .i64 222]) (ok:=fun _=>True) (iJ:=fun _=>True) ?hr ?hp (fun _ hk=>hk) trivial (Below.refl _ _) (Nat.le_refl _) (show 9<=9223372036854775807 from by decide) ?_;(case hd=>rfl);(case hg=>rfl);(case hr=>first|(go_simp;done)|(go_simp;rfl));(case hp=>exact xZ _ _ _ [0,45,90,135,180,270,359,17,222]);intro v_ wf ho hb iP je;obtain⟨lr,jd⟩:∃ z:List Int,z=[0,45,90,135,180,270,359,17,222]:=⟨_,rfl⟩;rw[<- jd] at ho;have Pr:=ak (show 0<lr.length from by rw[jd];exact Nat.zero_lt_succ _);obtain⟨Ar,cr,oK⟩:=Kd.bM ho;subst oK;have Lr:=ak ho;replace bg:=ak (aI bg.out hb);replace HD:=ak (HD.out.below hb);clear ho hb iP je jd)|((with_reducible refine bZ (f:=86) rfl ?_);refine bY (some 13) Try.func86 #[.pointer (some ⟨g,0,none⟩),.slice Ar lr.length cr] ?_;refine(yH hx HD.out.cur HD.out.hB (by omega) Pr.out Lr.out).mono ?_;rintro e wh ⟨t3,rfl,nK,hc,hb2,hk⟩;refine⟨_,rfl,?_⟩;clear nK Lr Pr;replace bg:=ak (HD.out.cur.blk hk bg.out (by decide));replace HD:=ak (HD.out.call hc hb2 hk);clear hc hb2 hk)|((with_reducible refine bT (N:=15) rfl ?_);refine Kd.ru (Kd.int .i64) _ 3 ?hg (N:=15) ?hd (xs:=[0,0,0,5,(-5),30,(-45),90,(-90)]) (inner:=[.int .i64 0,.int .i64 0,.int .i64 0,.int .i64 5,.int .i64 (-5),.int .i64 30,.int .i64 (-45),.int .i64 90,.int .i64 (-90)]) (ok:=fun _=>True) (iJ:=fun _=>True) ?hr ?hp (fun _ hk=>hk) trivial (Below.refl _ _) (Nat.le_refl _) (show 9<=9223372036854775807 from by decide) ?_;(case hd=>rfl);(case hg=>rfl);(case hr=>first|(go_simp;done)|(go_simp;rfl));(case hp=>exact xZ _ _ _ [0,0,0,5,(-5),30,(-45),90,(-90)]);intro v_ wi ho hb iP je;obtain⟨ls,jd⟩:∃ z:List Int,z=[0,0,0,5,(-5),30,(-45),90,(-90)]:=⟨_,rfl⟩;rw[<- jd] at ho;have Ps:=ak (show 0<ls.length from by rw[jd];exact Nat.zero_lt_succ _);obtain⟨As,cs,oK⟩:=Kd.bM ho;subst oK;have Ls:=ak ho;replace bg:=ak (aI bg.out hb);replace HD:=ak (HD.out.below hb);clear ho hb iP je jd)|((with_reducible refine bZ (f:=86) rfl ?_);refine bY (some 16) Try.func86 #[.pointer (some ⟨g,0,none⟩),.slice As ls.length cs] ?_;refine(yH hx HD.out.cur HD.out.hB (by omega) Ps.out Ls.out).mono ?_;rintro e wj ⟨t4,rfl,nK,hc,hb2,hk⟩;refine⟨_,rfl,?_⟩;clear nK Ls Ps;replace bg:=ak (HD.out.cur.blk hk bg.out (by decide));replace HD:=ak (HD.out.call hc hb2 hk);clear hc hb2 hk)|((with_reducible refine bT (N:=3) rfl ?_);refine dN ?hg (N:=3) ?hd (cs:=#[.int .i64 0,.int .i64 0,.int .i64 0,.int .i64 0,.int .i64 0]) (t:=37) ?hr ?_;(case hd=>rfl);(case hg=>rfl);(case hr=>first|(go_simp;done)|(go_simp;rfl));intro q3 hg wk hbox hb;have oI:=ak (show w.heap.size<=q3 from by rw[hg];exact HD.out.size);have yC:=ak (dS hg bg.out);have aV:=ak hbox;replace bg:=ak (aI bg.out hb);replace HD:=ak (HD.out.below hb);clear hb hbox hg;obtain⟨bP,bQ,hcz2,dw,dA⟩:=aX aV.out;obtain⟨cZ,hfz1,dh,dJ,dK⟩:=aZ aV.out)|((with_reducible refine mW (t:=37) (p:=3) rfl ?_);refine ny (t:=37) (p:=3) (v:=?qR8) (w1:=(((((wk.setCell ⟨q3,0,none⟩ (.int .i64 t0)).setCell ⟨q3,1,none⟩ (.int .i64 t1)).setCell ⟨q3,2,none⟩ (.int .i64 t2)).setCell ⟨q3,3,none⟩ (.int .i64 t3)).setCell ⟨q3,4,none⟩ (.int .i64 t4))) ?hg ?ho ?hn ?hr ?_;(case ho=>rfl);(case hg=>rfl);(case hn=>rfl);(case hr=>first|(go_simp;done)|(go_simp;rfl));intro wl hw;clear bP cZ bQ hfz1 hcz2 dh dw dJ dA dK;have eu:=V8 aV.out (.int .i64 t0) (.int .i64 t1) (.int .i64 t2) (.int .i64 t3) (.int .i64 t4);rw[<- hw] at eu;have dB:=HD.out.yJ aV.out (by decide) oI.out (.int .i64 t0) (.int .i64 t1) (.int .i64 t2) (.int .i64 t3) (.int .i64 t4);rw[<- hw] at dB;have m_:=oW bg.out yC.out (.int .i64 t0) (.int .i64 t1) (.int .i64 t2) (.int .i64 t3) (.int .i64 t4);rw[<- hw] at m_;replace bg:=ak m_;clear m_;clear hw aV HD;have aV:=ak eu;have HD:=ak dB;clear eu dB;obtain⟨bP,bQ,hcz2,dw,dA⟩:=aX aV.out;obtain⟨cZ,hfz1,dh,dJ,dK⟩:=aZ aV.out))
 clear bP cZ bQ hfz1 hcz2 dh dw dJ dA dK;have HF:=HD;have qpa:=bg;have qpb:=aV
 go_cut [] (fun dP=>∃ a0 a1 a2 a3 a4:Int,Aside0 (jH w0 w dP g x (b+10))/\Aside0 (dP.heap[q3]? = some (.cells #[.int .i64 a0,.int .i64 a1,.int .i64 a2,.int .i64 a3,.int .i64 a4] 37 (0,0)))/\Aside0 (dP.heap[q2]? = some (.cells #[.int .i64 0,.int .i64 0,.int .i64 0,.int .i64 0,.int .i64 0] 37 (0,0))))
 case first=>
  by_cases hq:t0=t1
  .
   have n1:(t0==t1)=true:=beq_iff_eq.mpr hq;clear hq;obtain⟨bP,bQ,hcz2,dw,dA⟩:=aX aV.out;obtain⟨cZ,hfz1,dh,dJ,dK⟩:=aZ aV.out;go_wp2_with fail;go_meet
   case rel=>exact⟨t0,_,t2,t3,t4,⟨(HD.out.far aV.out (by decide) oI.out 1 _).mono (by omega)⟩,⟨dG aV.out 1 _ rfl⟩,⟨eU (p:=⟨q3,1,none⟩) bg.out yC.out _⟩⟩
  .
   have n1:(t0==t1)=false:=beq_eq_false_iff_ne.mpr hq;clear hq;go_wp2_with fail;go_meet
   case rel=>exact⟨t0,t1,t2,t3,t4,⟨HD.out.mono (by omega)⟩,aV,bg⟩
 case rest=>
  clear HF qpa qpb HD bg aV;obtain⟨a0,a1,a2,a3,a4,HD,aV,bg⟩:=hcut
  go_upto_block 0 with (first|((with_reducible refine bZ (f:=81) rfl ?_);refine bY (some 29) Try.func81 #[.pointer (some ⟨g,0,none⟩),.int .i64 40] ?_;refine(wW hx HD.out.cur HD.out.hB (by omega) 40 (by decide)).mono ?_;rintro e wo ⟨u,rfl,iC,gI,hc,hb2,hk⟩;refine⟨_,rfl,?_⟩;have Hu:=ak (And.intro iC gI);clear iC gI;replace bg:=ak (HD.out.cur.blk hk bg.out (by decide));replace aV:=ak (HD.out.cur.blk hk aV.out (by decide));replace HD:=ak (HD.out.call hc hb2 hk);clear hc hb2 hk))
  (try simp only[Act.put,List.setIfInBounds_toArray,List.set_cons_zero,List.set_cons_succ])
  go_cut [] (fun dP=>∃ a0 a1 a2 a3 a4:Int,Aside0 (jH w0 w dP g x (b+14))/\Aside0 (dP.heap[q3]? = some (.cells #[.int .i64 a0,.int .i64 a1,.int .i64 a2,.int .i64 a3,.int .i64 a4] 37 (0,0)))/\Aside0 (dP.heap[q2]? = some (.cells #[.int .i64 0,.int .i64 0,.int .i64 0,.int .i64 0,.int .i64 0] 37 (0,0))))
  case first=>
   by_cases k0:u=0
   .
    subst k0;obtain⟨bP,bQ,hcz2,dw,dA⟩:=aX aV.out;obtain⟨cZ,hfz1,dh,dJ,dK⟩:=aZ aV.out
    go_wp2_with (first|((with_reducible refine bT (N:=35) rfl ?_);refine Kd.ru (Kd.int .i64) _ 3 ?hg (N:=35) ?hd (xs:=[(-1),7,8,a0]) (inner:=[.int .i64 (-1),.int .i64 7,.int .i64 8,.int .i64 a0]) (ok:=fun _=>True) (iJ:=fun _=>True) ?hr ?hp (fun _ hk=>hk) trivial (Below.refl _ _) (Nat.le_refl _) (show 4<=9223372036854775807 from by decide) ?_;(case hd=>rfl);(case hg=>rfl);(case hr=>first|(go_simp;done)|(go_simp;rfl));(case hp=>exact xZ _ _ _ [(-1),7,8,a0]);intro v_ wp ho hb iP je;obtain⟨lz,jd⟩:∃ z:List Int,z=[(-1),7,8,a0]:=⟨_,rfl⟩;rw[<- jd] at ho;have Pz:=ak (show 0<lz.length from by rw[jd];exact Nat.zero_lt_succ _);obtain⟨Az,cz,oK⟩:=Kd.bM ho;subst oK;have Lz:=ak ho;replace bg:=ak (aI bg.out hb);replace aV:=ak (aI aV.out hb);replace HD:=ak (HD.out.below hb);clear ho hb iP je jd;clear bP cZ bQ hfz1 hcz2 dh dw dJ dA dK)|((with_reducible refine bZ (f:=86) rfl ?_);refine bY (some 36) Try.func86 #[.pointer (some ⟨g,0,none⟩),.slice Az lz.length cz] ?_;refine(yH hx HD.out.cur HD.out.hB (by omega) Pz.out Lz.out).mono ?_;rintro e wq ⟨v,rfl,nK,hc,hb2,hk⟩;refine⟨_,rfl,?_⟩;clear nK Lz Pz;replace bg:=ak (HD.out.cur.blk hk bg.out (by decide));replace aV:=ak (HD.out.cur.blk hk aV.out (by decide));replace HD:=ak (HD.out.call hc hb2 hk);clear hc hb2 hk;obtain⟨bP,bQ,hcz2,dw,dA⟩:=aX aV.out;obtain⟨cZ,hfz1,dh,dJ,dK⟩:=aZ aV.out))
    go_meet
    case rel=>exact⟨a0,_,a2,a3,a4,⟨(HD.out.far aV.out (by decide) oI.out 1 _).mono (by omega)⟩,⟨dG aV.out 1 _ rfl⟩,⟨eU (p:=⟨q3,1,none⟩) bg.out yC.out _⟩⟩
   have n0:(u==0)=false:=beq_eq_false_iff_ne.mpr k0;clear k0;by_cases k1:u=1
   .
    subst k1;obtain⟨bP,bQ,hcz2,dw,dA⟩:=aX aV.out;obtain⟨cZ,hfz1,dh,dJ,dK⟩:=aZ aV.out
    go_wp2_with (first|((with_reducible refine bT (N:=41) rfl ?_);refine Kd.ru (Kd.int .i64) _ 3 ?hg (N:=41) ?hd (xs:=[0,501]) (inner:=[.int .i64 0,.int .i64 501]) (ok:=fun _=>True) (iJ:=fun _=>True) ?hr ?hp (fun _ hk=>hk) trivial (Below.refl _ _) (Nat.le_refl _) (show 2<=9223372036854775807 from by decide) ?_;(case hd=>rfl);(case hg=>rfl);(case hr=>first|(go_simp;done)|(go_simp;rfl));(case hp=>exact xZ _ _ _ [0,501]);intro v_ wp ho hb iP je;obtain⟨lz,jd⟩:∃ z:List Int,z=[0,501]:=⟨_,rfl⟩;rw[<- jd] at ho;have Pz:=ak (show 0<lz.length from by rw[jd];exact Nat.zero_lt_succ _);obtain⟨Az,cz,oK⟩:=Kd.bM ho;subst oK;have Lz:=ak ho;replace bg:=ak (aI bg.out hb);replace aV:=ak (aI aV.out hb);replace HD:=ak (HD.out.below hb);clear ho hb iP je jd;clear bP cZ bQ hfz1 hcz2 dh dw dJ dA dK)|((with_reducible refine bZ (f:=86) rfl ?_);refine bY (some 42) Try.func86 #[.pointer (some ⟨g,0,none⟩),.slice Az lz.length cz] ?_;refine(yH hx HD.out.cur HD.out.hB (by omega) Pz.out Lz.out).mono ?_;rintro e wq ⟨v,rfl,nK,hc,hb2,hk⟩;refine⟨_,rfl,?_⟩;clear nK Lz Pz;replace bg:=ak (HD.out.cur.blk hk bg.out (by decide));replace aV:=ak (HD.out.cur.blk hk aV.out (by decide));replace HD:=ak (HD.out.call hc hb2 hk);clear hc hb2 hk;obtain⟨bP,bQ,hcz2,dw,dA⟩:=aX aV.out;obtain⟨cZ,hfz1,dh,dJ,dK⟩:=aZ aV.out))
    go_meet
    case rel=>exact⟨a0,a1,_,a3,a4,⟨(HD.out.far aV.out (by decide) oI.out 2 _).mono (by omega)⟩,⟨dG aV.out 2 _ rfl⟩,⟨eU (p:=⟨q3,2,none⟩) bg.out yC.out _⟩⟩
   have n1:(u==1)=false:=beq_eq_false_iff_ne.mpr k1;clear k1;by_cases k2:u=2
   .
    subst k2;obtain⟨bP,bQ,hcz2,dw,dA⟩:=aX aV.out;obtain⟨cZ,hfz1,dh,dJ,dK⟩:=aZ aV.out
    go_wp2_with (first|((with_reducible refine bT (N:=47) rfl ?_);refine Kd.ru (Kd.int .i64) _ 3 ?hg (N:=47) ?hd (xs:=[(-1),360]) (inner:=[.int .i64 (-1),.int .i64 360]) (ok:=fun _=>True) (iJ:=fun _=>True) ?hr ?hp (fun _ hk=>hk) trivial (Below.refl _ _) (Nat.le_refl _) (show 2<=9223372036854775807 from by decide) ?_;(case hd=>rfl);(case hg=>rfl);(case hr=>first|(go_simp;done)|(go_simp;rfl));(case hp=>exact xZ _ _ _ [(-1),360]);intro v_ wp ho hb iP je;obtain⟨lz,jd⟩:∃ z:List Int,z=[(-1),360]:=⟨_,rfl⟩;rw[<- jd] at ho;have Pz:=ak (show 0<lz.length from by rw[jd];exact Nat.zero_lt_succ _);obtain⟨Az,cz,oK⟩:=Kd.bM ho;subst oK;have Lz:=ak ho;replace bg:=ak (aI bg.out hb);replace aV:=ak (aI aV.out hb);replace HD:=ak (HD.out.below hb);clear ho hb iP je jd;clear bP cZ bQ hfz1 hcz2 dh dw dJ dA dK)|((with_reducible refine bZ (f:=86) rfl ?_);refine bY (some 48) Try.func86 #[.pointer (some ⟨g,0,none⟩),.slice Az lz.length cz] ?_;refine(yH hx HD.out.cur HD.out.hB (by omega) Pz.out Lz.out).mono ?_;rintro e wq ⟨v,rfl,nK,hc,hb2,hk⟩;refine⟨_,rfl,?_⟩;clear nK Lz Pz;replace bg:=ak (HD.out.cur.blk hk bg.out (by decide));replace aV:=ak (HD.out.cur.blk hk aV.out (by decide));replace HD:=ak (HD.out.call hc hb2 hk);clear hc hb2 hk;obtain⟨bP,bQ,hcz2,dw,dA⟩:=aX aV.out;obtain⟨cZ,hfz1,dh,dJ,dK⟩:=aZ aV.out))
    go_meet
    case rel=>exact⟨a0,a1,a2,_,a4,⟨(HD.out.far aV.out (by decide) oI.out 3 _).mono (by omega)⟩,⟨dG aV.out 3 _ rfl⟩,⟨eU (p:=⟨q3,3,none⟩) bg.out yC.out _⟩⟩
   have n2:(u==2)=false:=beq_eq_false_iff_ne.mpr k2;clear k2;by_cases k3:u=3
   .
    subst k3;obtain⟨bP,bQ,hcz2,dw,dA⟩:=aX aV.out;obtain⟨cZ,hfz1,dh,dJ,dK⟩:=aZ aV.out
    go_wp2_with (first|((with_reducible refine bT (N:=53) rfl ?_);refine Kd.ru (Kd.int .i64) _ 3 ?hg (N:=53) ?hd (xs:=[(-91),91]) (inner:=[.int .i64 (-91),.int .i64 91]) (ok:=fun _=>True) (iJ:=fun _=>True) ?hr ?hp (fun _ hk=>hk) trivial (Below.refl _ _) (Nat.le_refl _) (show 2<=9223372036854775807 from by decide) ?_;(case hd=>rfl);(case hg=>rfl);(case hr=>first|(go_simp;done)|(go_simp;rfl));(case hp=>exact xZ _ _ _ [(-91),91]);intro v_ wp ho hb iP je;obtain⟨lz,jd⟩:∃ z:List Int,z=[(-91),91]:=⟨_,rfl⟩;rw[<- jd] at ho;have Pz:=ak (show 0<lz.length from by rw[jd];exact Nat.zero_lt_succ _);obtain⟨Az,cz,oK⟩:=Kd.bM ho;subst oK;have Lz:=ak ho;replace bg:=ak (aI bg.out hb);replace aV:=ak (aI aV.out hb);replace HD:=ak (HD.out.below hb);clear ho hb iP je jd;clear bP cZ bQ hfz1 hcz2 dh dw dJ dA dK)|((with_reducible refine bZ (f:=86) rfl ?_);refine bY (some 54) Try.func86 #[.pointer (some ⟨g,0,none⟩),.slice Az lz.length cz] ?_;refine(yH hx HD.out.cur HD.out.hB (by omega) Pz.out Lz.out).mono ?_;rintro e wq ⟨v,rfl,nK,hc,hb2,hk⟩;refine⟨_,rfl,?_⟩;clear nK Lz Pz;replace bg:=ak (HD.out.cur.blk hk bg.out (by decide));replace aV:=ak (HD.out.cur.blk hk aV.out (by decide));replace HD:=ak (HD.out.call hc hb2 hk);clear hc hb2 hk;obtain⟨bP,bQ,hcz2,dw,dA⟩:=aX aV.out;obtain⟨cZ,hfz1,dh,dJ,dK⟩:=aZ aV.out))
    go_meet
    case rel=>exact⟨a0,a1,a2,a3,_,⟨(HD.out.far aV.out (by decide) oI.out 4 _).mono (by omega)⟩,⟨dG aV.out 4 _ rfl⟩,⟨eU (p:=⟨q3,4,none⟩) bg.out yC.out _⟩⟩
   have n3:(u==3)=false:=beq_eq_false_iff_ne.mpr k3;clear k3;go_wp2_with fail;go_meet
   case rel=>exact⟨a0,a1,a2,a3,a4,⟨HD.out.mono (by omega)⟩,aV,bg⟩
  case rest=>
   clear HD bg aV;obtain⟨a0,a1,a2,a3,a4,HD,aV,bg⟩:=hcut;obtain⟨Yc,Yd,Ye,Yf,Yg⟩:=aX aV.out;obtain⟨Yl,Ym,Yn,Yo,Yp⟩:=aZ aV.out;obtain⟨qjw,qjx,qjy,qjz,qj0⟩:=aX bg.out;obtain⟨qlt,qlu,qlv,qlw,qlx⟩:=aZ bg.out;go_wp2_with fail;refine bodyPost_ret (results_cell_row rfl _ _ q2 37 #[.int .i64 a0,.int .i64 a1,.int .i64 a2,.int .i64 a3,.int .i64 a4] (0,0) _ rfl (V8 bg.out (.int .i64 a0) (.int .i64 a1) (.int .i64 a2) (.int .i64 a3) (.int .i64 a4)) Try.underlying37 rfl (by kernel_rfl)) rfl ?_;exact⟨a0,a1,a2,a3,a4,fO,(HD.out.yJ bg.out (by decide) yT.out (.int .i64 a0) (.int .i64 a1) (.int .i64 a2) (.int .i64 a3) (.int .i64 a4)).mono (by omega)⟩
set_option maxHeartbeats 64000000 in
set_option maxRecDepth 100000 in
theorem Y8 {w0 w:World}{g:Nat}{x:List Int}{b:Int}(hx:Ee x)(hC:nZ w0 w g x b)(hB:Below w0.heap.size w0 w)(hb:b<=700000000) {lo:Nat}{P:Nat->Prop}{A0 A1 A2:Option Addr}{c0 n1 c1 n2 c2:Nat}{L:List aN}(hL:Kd.R k37 37 w lo P (.slice A0 L.length c0) L)(hl:L.length<=1000000)(p t:Int) :
  Calls Try.prog 75 #[.pointer (some ⟨g,0,none⟩),.agg #[.slice A0 L.length c0,.slice A1 n1 c1,.slice A2 n2 c2,.int .i64 p,.int .i64 t]] w fun e w'=>∃ a0 a1 a2 a3 a4 a5 a6:Int,e=.returned (.agg #[.int .i64 a0,.int .i64 a1,.int .i64 a2,.int .i64 a3,.int .i64 a4,.int .i64 a5,.int .i64 a6])/\jH w0 w w' g x (b+24):=by
 have tJ:=Try.underlying30;have zB:=Try.underlying37;have Hz:=Try.underlying39;have HD:=ak (show jH w0 w w g x b from ⟨hC,hB,gJ.refl _ _ _,eG hB⟩);have HL:=ak (show Kd.R k37 37 w lo (fun k=>k<w.heap.size) (.slice A0 L.length c0) L from Kd.dV (Kd.uQ hL) (fun _ hk=>hk.2.2.1));clear hC hB hL
 go_enter Try.func75,Try.ntmps75
 go_upto_block 0 with (first|((with_reducible refine bT (N:=3) rfl ?_);refine dN ?hg (N:=3) ?hd (cs:=#[.slice A0 L.length c0,.slice A1 n1 c1,.slice A2 n2 c2,.int .i64 p,.int .i64 t]) (t:=30) ?hr ?_;(case hd=>rfl);(case hg=>rfl);(case hr=>first|(go_simp;done)|(go_simp;rfl));intro q3 hg wa hbox hb;have oI:=ak (show w.heap.size<=q3 from by rw[hg];exact HD.out.size);have aV:=ak hbox;replace HL:=ak (Kd.dL HL.out hb);replace HD:=ak (HD.out.below hb);clear hb hbox hg)|((with_reducible refine bT (N:=4) rfl ?_);refine dN ?hg (N:=4) ?hd (cs:=#[.int .i64 0,.int .i64 0,.int .i64 0,.int .i64 0,.int .i64 0,.int .i64 0,.int .i64 0]) (t:=39) ?hr ?_;(case hd=>rfl);(case hg=>rfl);(case hr=>first|(go_simp;done)|(go_simp;rfl));intro q4 hg wb hbox hb;have Ah:=ak (show w.heap.size<=q4 from by rw[hg];exact HD.out.size);have JY:=ak (dS hg aV.out);have fA:=ak hbox;replace aV:=ak (aI aV.out hb);replace HL:=ak (Kd.dL HL.out hb);replace HD:=ak (HD.out.below hb);clear hb hbox hg)|((with_reducible refine bZ (f:=81) rfl ?_);refine bY (some 10) Try.func81 #[.pointer (some ⟨g,0,none⟩),.int .i64 8] ?_;refine(wW hx HD.out.cur HD.out.hB (by omega) 8 (by decide)).mono ?_;rintro e wc ⟨u,rfl,iC,gI,hc,hb2,hk⟩;refine⟨_,rfl,?_⟩;have Hu:=ak (And.intro iC gI);clear iC gI;replace aV:=ak (HD.out.cur.blk hk aV.out (by decide));replace fA:=ak (HD.out.cur.blk hk fA.out (by decide));replace HL:=ak (HD.out.cur.row hk HL.out (by decide));replace HD:=ak (HD.out.call hc hb2 hk);clear hc hb2 hk))
 (try simp only[Act.put,List.setIfInBounds_toArray,List.set_cons_zero,List.set_cons_succ])
 go_cut [] (fun dP=>Aside0 (jH w0 w dP g x (b+10))/\Aside0 (dP.heap[q3]? = some (.cells #[.slice A0 L.length c0,.slice A1 n1 c1,.slice A2 n2 c2,.int .i64 p,.int .i64 t] 30 (0,0)))/\Aside0 (dP.heap[q4]? = some (.cells #[.int .i64 0,.int .i64 0,.int .i64 0,.int .i64 0,.int .i64 0,.int .i64 0,.int .i64 0] 39 (0,0)))/\Aside0 (Kd.R k37 37 dP lo (fun k=>k<w.heap.size) (.slice A0 L.length c0) L))
 case first=>
  by_cases k0:u=0
  .
   subst k0;obtain⟨bP,bQ,hcz2,dw,dA,r_,su⟩:=nR fA.out;obtain⟨cZ,hfz1,dh,dJ,dK,vX,vY⟩:=oL fA.out
   go_wp2_with (first|((with_reducible refine mW (t:=39) (p:=4) rfl ?_);refine ny (t:=39) (p:=4) (v:=?qR9) (w1:=(((((((wc.setCell ⟨q4,0,none⟩ (.int .i64 3)).setCell ⟨q4,1,none⟩ (.int .i64 0)).setCell ⟨q4,2,none⟩ (.int .i64 0)).setCell ⟨q4,3,none⟩ (.int .i64 0)).setCell ⟨q4,4,none⟩ (.int .i64 0)).setCell ⟨q4,5,none⟩ (.int .i64 0)).setCell ⟨q4,6,none⟩ (.int .i64 0))) ?hg ?ho ?hn ?hr ?_;(case ho=>rfl);(case hg=>rfl);(case hn=>rfl);(case hr=>first|(go_simp;done)|(go_simp;rfl));intro wd hw;clear bP cZ bQ hfz1 hcz2 dh dw dJ dA dK r_ vX su vY;have eu:=Jt fA.out (.int .i64 3) (.int .i64 0) (.int .i64 0) (.int .i64 0) (.int .i64 0) (.int .i64 0) (.int .i64 0);rw[<- hw] at eu;have dB:=HD.out.Nv fA.out (by decide) Ah.out (.int .i64 3) (.int .i64 0) (.int .i64 0) (.int .i64 0) (.int .i64 0) (.int .i64 0) (.int .i64 0);rw[<- hw] at dB;have m_:=Ez aV.out JY.out (.int .i64 3) (.int .i64 0) (.int .i64 0) (.int .i64 0) (.int .i64 0) (.int .i64 0) (.int .i64 0);rw[<- hw] at m_;replace aV:=ak m_;clear m_;clear hw fA HD;have fA:=ak eu;have HD:=ak dB;clear eu dB))
   refine bodyPost_ret (results_cell_row rfl _ _ q4 39 #[.int .i64 3,.int .i64 0,.int .i64 0,.int .i64 0,.int .i64 0,.int .i64 0,.int .i64 0] (0,0) _ rfl fA.out Try.underlying39 rfl (by kernel_rfl)) rfl ?_;exact⟨_,_,_,_,_,_,_,fO,HD.out.mono (by omega)⟩
  have n0:(u==0)=false:=beq_eq_false_iff_ne.mpr k0;clear k0;by_cases k1:u=1
  .
   subst k1
   go_wp2_with (first|((with_reducible refine bT (N:=17) rfl ?_);refine Kd.ru (Kd.int .i64) _ 3 ?hg (N:=17) ?hd (xs:=[1,100,500,1000,0,1001]) (inner:=[.int .i64 1,.int .i64 100,.int .i64 500,.int .i64 1000,.int .i64 0,.int .i64 1001]) (ok:=fun _=>True) (iJ:=fun _=>True) ?hr ?hp (fun _ hk=>hk) trivial (Below.refl _ _) (Nat.le_refl _) (show 6<=9223372036854775807 from by decide) ?_;(case hd=>rfl);(case hg=>rfl);(case hr=>first|(go_simp;done)|(go_simp;rfl));(case hp=>exact xZ _ _ _ [1,100,500,1000,0,1001]);intro v_ wd ho hb iP je;obtain⟨lz,jd⟩:∃ z:List Int,z=[1,100,500,1000,0,1001]:=⟨_,rfl⟩;rw[<- jd] at ho;have Pz:=ak (show 0<lz.length from by rw[jd];exact Nat.zero_lt_succ _);obtain⟨Az,cz,oK⟩:=Kd.bM ho;subst oK;have Lz:=ak ho;replace aV:=ak (aI aV.out hb);replace fA:=ak (aI fA.out hb);replace HL:=ak (Kd.dL HL.out hb);replace HD:=ak (HD.out.below hb);clear ho hb iP je jd)|((with_reducible refine bZ (f:=86) rfl ?_);refine bY (some 18) Try.func86 #[.pointer (some ⟨g,0,none⟩),.slice Az lz.length cz] ?_;refine(yH hx HD.out.cur HD.out.hB (by omega) Pz.out Lz.out).mono ?_;rintro e we ⟨v,rfl,nK,hc,hb2,hk⟩;refine⟨_,rfl,?_⟩;clear nK Lz Pz;replace aV:=ak (HD.out.cur.blk hk aV.out (by decide));replace fA:=ak (HD.out.cur.blk hk fA.out (by decide));replace HL:=ak (HD.out.cur.row hk HL.out (by decide));replace HD:=ak (HD.out.call hc hb2 hk);clear hc hb2 hk;obtain⟨bP,bQ,hcz2,dw,dA,r_,su⟩:=nR fA.out;obtain⟨cZ,hfz1,dh,dJ,dK,vX,vY⟩:=oL fA.out)|((with_reducible refine mW (t:=39) (p:=4) rfl ?_);refine ny (t:=39) (p:=4) (v:=?qSa) (w1:=(((((((we.setCell ⟨q4,0,none⟩ (.int .i64 4)).setCell ⟨q4,1,none⟩ (.int .i64 v)).setCell ⟨q4,2,none⟩ (.int .i64 0)).setCell ⟨q4,3,none⟩ (.int .i64 0)).setCell ⟨q4,4,none⟩ (.int .i64 0)).setCell ⟨q4,5,none⟩ (.int .i64 0)).setCell ⟨q4,6,none⟩ (.int .i64 0))) ?hg ?ho ?hn ?hr ?_;(case ho=>rfl);(case hg=>rfl);(case hn=>rfl);(case hr=>first|(go_simp;done)|(go_simp;rfl));intro wf hw;clear bP cZ bQ hfz1 hcz2 dh dw dJ dA dK r_ vX su vY;have eu:=Jt fA.out (.int .i64 4) (.int .i64 v) (.int .i64 0) (.int .i64 0) (.int .i64 0) (.int .i64 0) (.int .i64 0);rw[<- hw] at eu;have dB:=HD.out.Nv fA.out (by decide) Ah.out (.int .i64 4) (.int .i64 v) (.int .i64 0) (.int .i64 0) (.int .i64 0) (.int .i64 0) (.int .i64 0);rw[<- hw] at dB;have m_:=Ez aV.out JY.out (.int .i64 4) (.int .i64 v) (.int .i64 0) (.int .i64 0) (.int .i64 0) (.int .i64 0) (.int .i64 0);rw[<- hw] at m_;replace aV:=ak m_;clear m_;clear hw fA HD;have fA:=ak eu;have HD:=ak dB;clear eu dB))
   refine bodyPost_ret (results_cell_row rfl _ _ q4 39 #[.int .i64 4,.int .i64 v,.int .i64 0,.int .i64 0,.int .i64 0,.int .i64 0,.int .i64 0] (0,0) _ rfl fA.out Try.underlying39 rfl (by kernel_rfl)) rfl ?_;exact⟨_,_,_,_,_,_,_,fO,HD.out.mono (by omega)⟩
  have n1:(u==1)=false:=beq_eq_false_iff_ne.mpr k1;clear k1;by_cases k2:u=2
  .
   subst k2
   go_upto_if 31 with (first|((with_reducible refine bZ (f:=104) rfl ?_);refine bY (some 23) Try.func104 #[.pointer (some ⟨g,0,none⟩)] ?_;refine(qdn hx HD.out.cur HD.out.hB (by omega)).mono ?_;rintro e wd ⟨e0,e1,e2,e3,e4,rfl,hd⟩;refine⟨_,rfl,?_⟩;have hk:=hd.hK;replace aV:=ak (HD.out.cur.blk hk aV.out (by decide));replace fA:=ak (HD.out.cur.blk hk fA.out (by decide));replace HL:=ak (HD.out.cur.row hk HL.out (by decide));replace HD:=ak (HD.out.call hd.cur hd.hB hk);clear hd hk)|((with_reducible refine bT (N:=5) rfl ?_);refine dN ?hg (N:=5) ?hd (cs:=#[.int .i64 0,.int .i64 0,.int .i64 0,.int .i64 0,.int .i64 0]) (t:=37) ?hr ?_;(case hd=>rfl);(case hg=>rfl);(case hr=>first|(go_simp;done)|(go_simp;rfl));intro q5 hg we hbox hb;have yU:=ak (show w.heap.size<=q5 from by rw[hg];exact HD.out.size);have JZ:=ak (dS hg aV.out);have P_:=ak (dS hg fA.out);have bJ:=ak hbox;replace aV:=ak (aI aV.out hb);replace fA:=ak (aI fA.out hb);replace HL:=ak (Kd.dL HL.out hb);replace HD:=ak (HD.out.below hb);clear hb hbox hg;obtain⟨bP,bQ,hcz2,dw,dA⟩:=aX bJ.out;obtain⟨cZ,hfz1,dh,dJ,dK⟩:=aZ bJ.out)|((with_reducible refine mW (t:=37) (p:=5) rfl ?_);refine ny (t:=37) (p:=5) (v:=?qSb) (w1:=(((((we.setCell ⟨q5,0,none⟩ (.int .i64 e0)).setCell ⟨q5,1,none⟩ (.int .i64 e1)).setCell ⟨q5,2,none⟩ (.int .i64 e2)).setCell ⟨q5,3,none⟩ (.int .i64 e3)).setCell ⟨q5,4,none⟩ (.int .i64 e4))) ?hg ?ho ?hn ?hr ?_;(case ho=>rfl);(case hg=>rfl);(case hn=>rfl);(case hr=>first|(go_simp;done)|(go_simp;rfl));intro wf hw;clear bP cZ bQ hfz1 hcz2 dh dw dJ dA dK;have eu:=V8 bJ.out (.int .i64 e0) (.int .i64 e1) (.int .i64 e2) (.int .i64 e3) (.int .i64 e4);rw[<- hw] at eu;have dB:=HD.out.yJ bJ.out (by decide) yU.out (.int .i64 e0) (.int .i64 e1) (.int .i64 e2) (.int .i64 e3) (.int .i64 e4);rw[<- hw] at dB;have m_:=oW aV.out JZ.out (.int .i64 e0) (.int .i64 e1) (.int .i64 e2) (.int .i64 e3) (.int .i64 e4);rw[<- hw] at m_;replace aV:=ak m_;clear m_;have m_:=oW fA.out P_.out (.int .i64 e0) (.int .i64 e1) (.int .i64 e2) (.int .i64 e3) (.int .i64 e4);rw[<- hw] at m_;replace fA:=ak m_;clear m_;have m_:=qA7 HL.out yU.out (.int .i64 e0) (.int .i64 e1) (.int .i64 e2) (.int .i64 e3) (.int .i64 e4);rw[<- hw] at m_;replace HL:=ak m_;clear m_;clear hw bJ HD;have bJ:=ak eu;have HD:=ak dB;clear eu dB;have hx3:=aH aV.out 3;replace hx3:wf.cell? ⟨q3,3,none⟩=some (.int .i64 p):=hx3;obtain⟨bP,bQ,hcz2,dw,dA⟩:=aX bJ.out;obtain⟨cZ,hfz1,dh,dJ,dK⟩:=aZ bJ.out))
   clear hx3 bP cZ bQ hfz1 hcz2 dh dw dJ dA dK HL n0 n1;have m1:=ak (HD.out.far bJ.out (by decide) yU.out 0 (.int .i64 p))
   have m2:Aside0 ((wf.setCell ⟨q5,0,none⟩ (.int .i64 p)).heap[q5]? = some (.cells #[.int .i64 p,.int .i64 e1,.int .i64 e2,.int .i64 e3,.int .i64 e4] 37 (0,0))):=⟨dG bJ.out 0 _ rfl⟩
   have m3:=ak (eU (p:=⟨q5,0,none⟩) aV.out JZ.out (.int .i64 p));have m4:=ak (eU (p:=⟨q5,0,none⟩) fA.out P_.out (.int .i64 p));clear HD bJ aV fA;generalize wf.setCell ⟨q5,0,none⟩ (.int .i64 p)=wg at m1 m2 m3 m4 ⊢;have HD:=m1;have bJ:=m2;have aV:=m3;have fA:=m4;clear m1 m2 m3 m4
   go_cut [] (fun dP=>∃ d1:Int,Aside0 (jH w0 w dP g x (b+20))/\Aside0 (dP.heap[q5]? = some (.cells #[.int .i64 p,.int .i64 d1,.int .i64 e2,.int .i64 e3,.int .i64 e4] 37 (0,0)))/\Aside0 (dP.heap[q3]? = some (.cells #[.slice A0 L.length c0,.slice A1 n1 c1,.slice A2 n2 c2,.int .i64 p,.int .i64 t] 30 (0,0)))/\Aside0 (dP.heap[q4]? = some (.cells #[.int .i64 0,.int .i64 0,.int .i64 0,.int .i64 0,.int .i64 0,.int .i64 0,.int .i64 0] 39 (0,0))))
   case first=>
    by_cases hq:e1=p
    .
     have hn:(e1==p)=true:=beq_iff_eq.mpr hq;clear hq;obtain⟨bP,bQ,hcz2,dw,dA⟩:=aX bJ.out;obtain⟨cZ,hfz1,dh,dJ,dK⟩:=aZ bJ.out;go_wp2_with fail;go_meet
     case rel=>exact⟨_,⟨(HD.out.far bJ.out (by decide) yU.out 1 _).mono (by omega)⟩,⟨dG bJ.out 1 _ rfl⟩,⟨eU (p:=⟨q5,1,none⟩) aV.out JZ.out _⟩,⟨eU (p:=⟨q5,1,none⟩) fA.out P_.out _⟩⟩
    .
     have hn:(e1==p)=false:=beq_eq_false_iff_ne.mpr hq;clear hq;go_wp2_with fail;go_meet
     case rel=>exact⟨e1,⟨HD.out.mono (by omega)⟩,bJ,aV,fA⟩
   case rest=>
    clear HD bJ aV fA;obtain⟨d1,HD,bJ,aV,fA⟩:=hcut;obtain⟨lK,lM,lN,lQ,lS⟩:=aX bJ.out;obtain⟨lT,lU,lV,lW,lX⟩:=aZ bJ.out;obtain⟨bP,bQ,hcz2,dw,dA,r_,su⟩:=nR fA.out;obtain⟨cZ,hfz1,dh,dJ,dK,vX,vY⟩:=oL fA.out
    go_wp2_with (first|((with_reducible refine mW (t:=39) (p:=4) rfl ?_);refine ny (t:=39) (p:=4) (v:=?qSc) (w1:=(((((((wc.setCell ⟨q4,0,none⟩ (.int .i64 2)).setCell ⟨q4,1,none⟩ (.int .i64 0)).setCell ⟨q4,2,none⟩ (.int .i64 p)).setCell ⟨q4,3,none⟩ (.int .i64 d1)).setCell ⟨q4,4,none⟩ (.int .i64 e2)).setCell ⟨q4,5,none⟩ (.int .i64 e3)).setCell ⟨q4,6,none⟩ (.int .i64 e4))) ?hg ?ho ?hn ?hr ?_;(case ho=>rfl);(case hg=>rfl);(case hn=>rfl);(case hr=>first|(go_simp;done)|(go_simp;rfl));intro wh hw;clear bP cZ bQ hfz1 hcz2 dh dw dJ dA dK r_ vX su vY;have eu:=Jt fA.out (.int .i64 2) (.int .i64 0) (.int .i64 p) (.int .i64 d1) (.int .i64 e2) (.int .i64 e3) (.int .i64 e4);rw[<- hw] at eu;have dB:=HD.out.Nv fA.out (by decide) Ah.out (.int .i64 2) (.int .i64 0) (.int .i64 p) (.int .i64 d1) (.int .i64 e2) (.int .i64 e3) (.int .i64 e4);rw[<- hw] at dB;have m_:=Ez aV.out JY.out (.int .i64 2) (.int .i64 0) (.int .i64 p) (.int .i64 d1) (.int .i64 e2) (.int .i64 e3) (.int .i64 e4);rw[<- hw] at m_;replace aV:=ak m_;clear m_;clear hw fA HD;have fA:=ak eu;have HD:=ak dB;clear eu dB))
    refine bodyPost_ret (results_cell_row rfl _ _ q4 39 #[.int .i64 2,.int .i64 0,.int .i64 p,.int .i64 d1,.int .i64 e2,.int .i64 e3,.int .i64 e4] (0,0) _ rfl fA.out Try.underlying39 rfl (by kernel_rfl)) rfl ?_;exact⟨_,_,_,_,_,_,_,fO,HD.out.mono (by omega)⟩
  have n2:(u==2)=false:=beq_eq_false_iff_ne.mpr k2;clear k2;by_cases k3:u=3
  .
   subst k3
   go_upto_if 42 with (first|((with_reducible refine bZ (f:=82) rfl ?_);refine bY (some 42) Try.func82 #[.pointer (some ⟨g,0,none⟩),.int .i64 6] ?_;refine(qdt hx HD.out.cur HD.out.hB (by omega) 6 (by decide)).mono ?_;rintro e wd ⟨o,rfl,hc,hb2,hk⟩;refine⟨_,rfl,?_⟩;replace aV:=ak (HD.out.cur.blk hk aV.out (by decide));replace fA:=ak (HD.out.cur.blk hk fA.out (by decide));replace HL:=ak (HD.out.cur.row hk HL.out (by decide));replace HD:=ak (HD.out.call hc hb2 hk);clear hc hb2 hk))
   cases o with
   | true=>
    go_wp2_with (first|((with_reducible refine bT (N:=44) rfl ?_);refine Kd.ru (Kd.int .i64) _ 3 ?hg (N:=44) ?hd (xs:=[0,5,3]) (inner:=[.int .i64 0,.int .i64 5,.int .i64 3]) (ok:=fun _=>True) (iJ:=fun _=>True) ?hr ?hp (fun _ hk=>hk) trivial (Below.refl _ _) (Nat.le_refl _) (show 3<=9223372036854775807 from by decide) ?_;(case hd=>rfl);(case hg=>rfl);(case hr=>first|(go_simp;done)|(go_simp;rfl));(case hp=>exact xZ _ _ _ [0,5,3]);intro v_ we ho hb iP je;obtain⟨lz,jd⟩:∃ z:List Int,z=[0,5,3]:=⟨_,rfl⟩;rw[<- jd] at ho;have Pz:=ak (show 0<lz.length from by rw[jd];exact Nat.zero_lt_succ _);obtain⟨Az,cz,oK⟩:=Kd.bM ho;subst oK;have Lz:=ak ho;replace aV:=ak (aI aV.out hb);replace fA:=ak (aI fA.out hb);replace HL:=ak (Kd.dL HL.out hb);replace HD:=ak (HD.out.below hb);clear ho hb iP je jd)|((with_reducible refine bZ (f:=86) rfl ?_);refine bY (some 45) Try.func86 #[.pointer (some ⟨g,0,none⟩),.slice Az lz.length cz] ?_;refine(yH hx HD.out.cur HD.out.hB (by omega) Pz.out Lz.out).mono ?_;rintro e wf ⟨v,rfl,nK,hc,hb2,hk⟩;refine⟨_,rfl,?_⟩;clear nK Lz Pz;replace aV:=ak (HD.out.cur.blk hk aV.out (by decide));replace fA:=ak (HD.out.cur.blk hk fA.out (by decide));replace HL:=ak (HD.out.cur.row hk HL.out (by decide));replace HD:=ak (HD.out.call hc hb2 hk);clear hc hb2 hk)|((with_reducible refine bZ (f:=81) rfl ?_);refine bY (some 47) Try.func81 #[.pointer (some ⟨g,0,none⟩),.int .i64 3] ?_;refine(wW hx HD.out.cur HD.out.hB (by omega) 3 (by decide)).mono ?_;rintro e wh ⟨y,rfl,iC,gI,hc,hb2,hk⟩;refine⟨_,rfl,?_⟩;have Hy:=ak (And.intro iC gI);clear iC gI;replace aV:=ak (HD.out.cur.blk hk aV.out (by decide));replace fA:=ak (HD.out.cur.blk hk fA.out (by decide));replace HL:=ak (HD.out.cur.row hk HL.out (by decide));replace HD:=ak (HD.out.call hc hb2 hk);clear hc hb2 hk;obtain⟨bP,bQ,hcz2,dw,dA,r_,su⟩:=nR fA.out;obtain⟨cZ,hfz1,dh,dJ,dK,vX,vY⟩:=oL fA.out)|((with_reducible refine mW (t:=39) (p:=4) rfl ?_);refine ny (t:=39) (p:=4) (v:=?qSd) (w1:=(((((((wh.setCell ⟨q4,0,none⟩ (.int .i64 v)).setCell ⟨q4,1,none⟩ (.int .i64 y)).setCell ⟨q4,2,none⟩ (.int .i64 0)).setCell ⟨q4,3,none⟩ (.int .i64 0)).setCell ⟨q4,4,none⟩ (.int .i64 0)).setCell ⟨q4,5,none⟩ (.int .i64 0)).setCell ⟨q4,6,none⟩ (.int .i64 0))) ?hg ?ho ?hn ?hr ?_;(case ho=>rfl);(case hg=>rfl);(case hn=>rfl);(case hr=>first|(go_simp;done)|(go_simp;rfl));intro wi hw;clear bP cZ bQ hfz1 hcz2 dh dw dJ dA dK r_ vX su vY;have eu:=Jt fA.out (.int .i64 v) (.int .i64 y) (.int .i64 0) (.int .i64 0) (.int .i64 0) (.int .i64 0) (.int .i64 0);rw[<- hw] at eu;have dB:=HD.out.Nv fA.out (by decide) Ah.out (.int .i64 v) (.int .i64 y) (.int .i64 0) (.int .i64 0) (.int .i64 0) (.int .i64 0) (.int .i64 0);rw[<- hw] at dB;have m_:=Ez aV.out JY.out (.int .i64 v) (.int .i64 y) (.int .i64 0) (.int .i64 0) (.int .i64 0) (.int .i64 0) (.int .i64 0);rw[<- hw] at m_;replace aV:=ak m_;clear m_;clear hw fA HD;have fA:=ak eu;have HD:=ak dB;clear eu dB))
    refine bodyPost_ret (results_cell_row rfl _ _ q4 39 #[.int .i64 v,.int .i64 y,.int .i64 0,.int .i64 0,.int .i64 0,.int .i64 0,.int .i64 0] (0,0) _ rfl fA.out Try.underlying39 rfl (by kernel_rfl)) rfl ?_;exact⟨_,_,_,_,_,_,_,fO,HD.out.mono (by omega)⟩
   | false=>
    go_wp2_with fail;go_meet
    case rel=>exact⟨⟨HD.out.mono (by omega)⟩,aV,fA,HL⟩
  have n3:(u==3)=false:=beq_eq_false_iff_ne.mpr k3;clear k3;go_wp2_with fail;go_meet
  case rel=>exact⟨⟨HD.out.mono (by omega)⟩,aV,fA,HL⟩
 case rest=>
  clear HD aV fA HL;obtain⟨HD,aV,fA,HL⟩:=hcut;have hx0:=aH aV.out 0;replace hx0:wc.cell? ⟨q3,0,none⟩=some (.slice A0 L.length c0):=hx0
  go_upto_block 1 with (first|((with_reducible refine bZ (f:=81) rfl ?_);refine bY (some 54) Try.func81 #[.pointer (some ⟨g,0,none⟩),.int .i64 ((L.length:Int)+1)] ?_;refine(wW hx HD.out.cur HD.out.hB (by omega) ((L.length:Int)+1) (by omega)).mono ?_;rintro e wd ⟨i,rfl,iC,gI,hc,hb2,hk⟩;refine⟨_,rfl,?_⟩;have Hi:=ak (And.intro iC gI);clear iC gI;replace aV:=ak (HD.out.cur.blk hk aV.out (by decide));replace fA:=ak (HD.out.cur.blk hk fA.out (by decide));replace HL:=ak (HD.out.cur.row hk HL.out (by decide));replace HD:=ak (HD.out.call hc hb2 hk);clear hc hb2 hk)|((with_reducible refine bT (N:=6) rfl ?_);refine dN ?hg (N:=6) ?hd (cs:=#[.int .i64 0,.int .i64 0,.int .i64 0,.int .i64 0,.int .i64 0,.int .i64 0,.int .i64 0]) (t:=39) ?hr ?_;(case hd=>rfl);(case hg=>rfl);(case hr=>first|(go_simp;done)|(go_simp;rfl));intro q6 hg we hbox hb;have BU:=ak (show w.heap.size<=q6 from by rw[hg];exact HD.out.size);have IE:=ak (dS hg aV.out);have qaj:=ak (dS hg fA.out);have kD:=ak hbox;replace aV:=ak (aI aV.out hb);replace fA:=ak (aI fA.out hb);replace HL:=ak (Kd.dL HL.out hb);replace HD:=ak (HD.out.below hb);clear hb hbox hg;obtain⟨bP,bQ,hcz2,dw,dA,r_,su⟩:=nR kD.out;obtain⟨cZ,hfz1,dh,dJ,dK,vX,vY⟩:=oL kD.out)|((with_reducible refine mW (t:=39) (p:=6) rfl ?_);refine ny (t:=39) (p:=6) (v:=?qSe) (w1:=(((((((we.setCell ⟨q6,0,none⟩ (.int .i64 1)).setCell ⟨q6,1,none⟩ (.int .i64 i)).setCell ⟨q6,2,none⟩ (.int .i64 0)).setCell ⟨q6,3,none⟩ (.int .i64 0)).setCell ⟨q6,4,none⟩ (.int .i64 0)).setCell ⟨q6,5,none⟩ (.int .i64 0)).setCell ⟨q6,6,none⟩ (.int .i64 0))) ?hg ?ho ?hn ?hr ?_;(case ho=>rfl);(case hg=>rfl);(case hn=>rfl);(case hr=>first|(go_simp;done)|(go_simp;rfl));intro wf hw;clear bP cZ bQ hfz1 hcz2 dh dw dJ dA dK r_ vX su vY;have eu:=Jt kD.out (.int .i64 1) (.int .i64 i) (.int .i64 0) (.int .i64 0) (.int .i64 0) (.int .i64 0) (.int .i64 0);rw[<- hw] at eu;have dB:=HD.out.Nv kD.out (by decide) BU.out (.int .i64 1) (.int .i64 i) (.int .i64 0) (.int .i64 0) (.int .i64 0) (.int .i64 0) (.int .i64 0);rw[<- hw] at dB;have m_:=Ez aV.out IE.out (.int .i64 1) (.int .i64 i) (.int .i64 0) (.int .i64 0) (.int .i64 0) (.int .i64 0) (.int .i64 0);rw[<- hw] at m_;replace aV:=ak m_;clear m_;have m_:=Ez fA.out qaj.out (.int .i64 1) (.int .i64 i) (.int .i64 0) (.int .i64 0) (.int .i64 0) (.int .i64 0) (.int .i64 0);rw[<- hw] at m_;replace fA:=ak m_;clear m_;have m_:=qA8 HL.out BU.out (.int .i64 1) (.int .i64 i) (.int .i64 0) (.int .i64 0) (.int .i64 0) (.int .i64 0) (.int .i64 0);rw[<- hw] at m_;replace HL:=ak m_;clear m_;clear hw kD HD;have kD:=ak eu;have HD:=ak dB;clear eu dB))
  clear hx0;(try simp only[Act.put,List.setIfInBounds_toArray,List.set_cons_zero,List.set_cons_succ])
  go_cut [] (fun dP=>∃ j:Int,Aside0 (jH w0 w dP g x (b+24))/\Aside0 (dP.heap[q6]? = some (.cells #[.int .i64 1,.int .i64 j,.int .i64 0,.int .i64 0,.int .i64 0,.int .i64 0,.int .i64 0] 39 (0,0)))/\Aside0 (dP.heap[q4]? = some (.cells #[.int .i64 0,.int .i64 0,.int .i64 0,.int .i64 0,.int .i64 0,.int .i64 0,.int .i64 0] 39 (0,0))))
  case first=>
   go_wp2_with fail
   go_loopg [7,8] L.length (fun n v7 v8 dP=>∃ k:Int,v7=.int .i64 k/\Aside0 (0<=k/\k+n=L.length)/\Aside0 (jH w0 w dP g x (b+12))/\Aside0 (dP.heap[q3]? = some (.cells #[.slice A0 L.length c0,.slice A1 n1 c1,.slice A2 n2 c2,.int .i64 p,.int .i64 t] 30 (0,0)))/\Aside0 (dP.heap[q4]? = some (.cells #[.int .i64 0,.int .i64 0,.int .i64 0,.int .i64 0,.int .i64 0,.int .i64 0,.int .i64 0] 39 (0,0)))/\Aside0 (Kd.R k37 37 dP lo (fun k=>k<w.heap.size) (.slice A0 L.length c0) L)/\Aside0 (dP.heap[q6]? = some (.cells #[.int .i64 1,.int .i64 i,.int .i64 0,.int .i64 0,.int .i64 0,.int .i64 0,.int .i64 0] 39 (0,0))))
   case atStart=>exact⟨0,rfl,⟨by omega⟩,⟨HD.out.mono (by omega)⟩,aV,fA,HL,kD⟩
   case round=>
    clear HD aV fA HL kD;obtain⟨k,rfl,Hk,HD,aV,fA,HL,kD⟩:=hrel;have hx0:=aH aV.out 0;replace hx0:wr.cell? ⟨q3,0,none⟩=some (.slice A0 L.length c0):=hx0;have hx3:=aH aV.out 3;replace hx3:wr.cell? ⟨q3,3,none⟩=some (.int .i64 p):=hx3;have hx6:=aH kD.out 1;replace hx6:wr.cell? ⟨q6,1,none⟩=some (.int .i64 i):=hx6;have i0:=Hi.out;have k0:=Hk.out;by_cases hk:k<(L.length:Int)
    .
     have qk:decide (k<(L.length:Int))=true:=decide_eq_true hk
     go_upto_region 20 with fail
     have j0:0<=(i+k) % (L.length:Int):=Int.emod_nonneg _ (by omega);have j1:(i+k) % (L.length:Int)<(L.length:Int):=Int.emod_lt_of_pos _ (by omega);generalize (i+k) % (L.length:Int)=j at j0 j1 ⊢;obtain⟨ad,e0,y0,y1,-,-,-⟩:=uS (Kd.aT HL.out).2.2 j j0 j1;rw[e0] at hx0;have q0:(0<=j)=True:=eq_true j0;have q1:(j<(L.length:Int))=True:=eq_true j1;have q0':decide (0<=j)=true:=decide_eq_true j0;have q1':decide (j<(L.length:Int))=true:=decide_eq_true j1;by_cases h0:(aj L j).f0=p
     .
      have n0:((aj L j).f0==p)=true:=beq_iff_eq.mpr h0;clear h0
      go_quiet (fail)
      have hb:=Qg (Eq.refl (wr.drewN nq)) (Below.refl wr.heap.size wr);replace aV:=ak (aI aV.out hb);replace fA:=ak (aI fA.out hb);replace kD:=ak (aI kD.out hb);replace HD:=ak (HD.out.below hb);replace HL:=ak (Kd.dL HL.out hb);clear hb hx0 hx3 hx6;generalize wr.drewN nq=wq at HD aV fA kD HL ⊢;obtain⟨bP,bQ,hcz2,dw,dA,r_,su⟩:=nR kD.out;obtain⟨cZ,hfz1,dh,dJ,dK,vX,vY⟩:=oL kD.out;go_wp2_with fail;go_meet
      case rel=>exact⟨j,⟨(HD.out.far kD.out (by decide) BU.out 1 _).mono (by omega)⟩,⟨dG kD.out 1 _ rfl⟩,⟨eU (p:=⟨q6,1,none⟩) fA.out qaj.out _⟩⟩
     have n0:((aj L j).f0==p)=false:=beq_eq_false_iff_ne.mpr h0;clear h0;by_cases h1:(aj L j).f1=p
     .
      have n1:((aj L j).f1==p)=true:=beq_iff_eq.mpr h1;clear h1
      go_quiet (fail)
      have hb:=Qg (Eq.refl (wr.drewN nq)) (Below.refl wr.heap.size wr);replace aV:=ak (aI aV.out hb);replace fA:=ak (aI fA.out hb);replace kD:=ak (aI kD.out hb);replace HD:=ak (HD.out.below hb);replace HL:=ak (Kd.dL HL.out hb);clear hb hx0 hx3 hx6;generalize wr.drewN nq=wq at HD aV fA kD HL ⊢;obtain⟨bP,bQ,hcz2,dw,dA,r_,su⟩:=nR kD.out;obtain⟨cZ,hfz1,dh,dJ,dK,vX,vY⟩:=oL kD.out;go_wp2_with fail;go_meet
      case rel=>exact⟨j,⟨(HD.out.far kD.out (by decide) BU.out 1 _).mono (by omega)⟩,⟨dG kD.out 1 _ rfl⟩,⟨eU (p:=⟨q6,1,none⟩) fA.out qaj.out _⟩⟩
     have n1:((aj L j).f1==p)=false:=beq_eq_false_iff_ne.mpr h1;clear h1
     go_quiet (fail)
     have hb:=Qg (Eq.refl (wr.drewN nq)) (Below.refl wr.heap.size wr);replace aV:=ak (aI aV.out hb);replace fA:=ak (aI fA.out hb);replace kD:=ak (aI kD.out hb);replace HD:=ak (HD.out.below hb);replace HL:=ak (Kd.dL HL.out hb);clear hb hx0 hx3 hx6;generalize wr.drewN nq=wq at HD aV fA kD HL ⊢;go_wp2_with fail
     cases gk with
     | zero=>omega
     | succ gk=>
      go_roundg gk
      case measure=>omega
      case rel=>exact⟨_,rfl,⟨by omega⟩,HD,aV,fA,HL,kD⟩
    .
     have qk:decide (k<(L.length:Int))=false:=decide_eq_false hk;clear hk;go_wp2_with fail;go_meet
     case rel=>exact⟨i,⟨HD.out.mono (by omega)⟩,kD,fA⟩
  case rest=>
   clear HD aV fA HL kD;obtain⟨j,HD,kD,fA⟩:=hcut;obtain⟨bP,bQ,hcz2,dw,dA,r_,su⟩:=nR fA.out;obtain⟨cZ,hfz1,dh,dJ,dK,vX,vY⟩:=oL fA.out;obtain⟨lK,lM,lN,lQ,lS,qJe,qJf⟩:=nR kD.out;obtain⟨lT,lU,lV,lW,lX,qNm,qNn⟩:=oL kD.out;go_wp2_with fail;refine bodyPost_ret (results_cell_row rfl _ _ q4 39 #[.int .i64 1,.int .i64 j,.int .i64 0,.int .i64 0,.int .i64 0,.int .i64 0,.int .i64 0] (0,0) _ rfl (Jt fA.out (.int .i64 1) (.int .i64 j) (.int .i64 0) (.int .i64 0) (.int .i64 0) (.int .i64 0) (.int .i64 0)) Try.underlying39 rfl (by kernel_rfl)) rfl ?_;exact⟨_,_,_,_,_,_,_,fO,HD.out.Nv fA.out (by decide) Ah.out (.int .i64 1) (.int .i64 j) (.int .i64 0) (.int .i64 0) (.int .i64 0) (.int .i64 0) (.int .i64 0)⟩
theorem qBq (a:Int):∃ d,Int.tmod (wrap64 (Int.tmod a 360+360)) 360=d/\0<=d/\d<360:=by
 have h1:=Int.tmod_lt_of_pos a (show (0:Int)<360 from by decide)
 have h2:-360<Int.tmod a 360:=by
  have h3:=Int.tmod_lt_of_pos (-a) (show (0:Int)<360 from by decide);rw[Int.neg_tmod] at h3;omega
 refine⟨_,rfl,?_,?_⟩
 .
  rw[kW (by omega) (by omega)];exact Int.tmod_nonneg _ (by omega)
 .
  exact Int.tmod_lt_of_pos _ (by decide)
theorem Pj (a:Int):∃ r,ni.f a=some r:=by
 obtain⟨d,e,h0,h1⟩:=qBq a;unfold ni.f;rw[e]
 obtain⟨l,hl⟩:∃ l,yO.f=some l:=⟨_,rfl⟩
 have hn:l.length=91:=by
  have h:=hl;unfold yO.f at h
  injection h with h
  rw[<- h];rfl
 rw[hl];simp only[Option.bind_some,hn];by_cases c0:d<=90
 .
  rw[if_pos c0,if_pos h0,if_pos (by omega)];exact⟨_,rfl⟩
 rw[if_neg c0];by_cases c1:d<=180
 .
  rw[if_pos c1,kW (x:=180 - d) (by omega) (by omega),if_pos (by omega),if_pos (by omega)];exact⟨_,rfl⟩
 rw[if_neg c1];by_cases c2:d<=270
 .
  rw[if_pos c2,kW (x:=d - 180) (by omega) (by omega),if_pos (by omega),if_pos (by omega)];exact⟨_,rfl⟩
 rw[if_neg c2,kW (x:=360 - d) (by omega) (by omega),if_pos (by omega),if_pos (by omega)];exact⟨_,rfl⟩
theorem Qm (a:Int):∃ r,o8.f a=some r:=by
 obtain⟨r,h⟩:=Pj (wrap64 (a+90));exact⟨r,by unfold o8.f;rw[h];rfl⟩
theorem XR (a:Int):∃ r,o9.f a 1000=some r:=by
 unfold o9.f
 have h:wrap64 (2*1000)≠0:=by unfold wrap64;omega
 by_cases c:a<0
 .
  rw[if_pos c,if_neg h];exact⟨_,rfl⟩
 .
  rw[if_neg c,if_neg h];exact⟨_,rfl⟩
theorem qBe (a b c d s:Int):∃ x y z,iQ.f a b c d s=some (x,y,z):=by
 unfold iQ.f;obtain⟨r1,h1⟩:=Qm s;obtain⟨r2,h2⟩:=XR (wrap64 (c*r1));obtain⟨r3,h3⟩:=Pj d;obtain⟨r4,h4⟩:=XR (wrap64 (r2*r3));obtain⟨r5,h5⟩:=Qm d;obtain⟨r6,h6⟩:=XR (wrap64 (r2*r5));obtain⟨r7,h7⟩:=Pj s;obtain⟨r8,h8⟩:=XR (wrap64 (c*r7));refine⟨r4,r6,r8,?_⟩;simp only[h1,h2,h3,h4,h5,h6,h7,h8,Option.bind_some]
theorem qdi (a b c:Int):∃ r,jF.f a b c=some r:=by
 unfold jF.f
 repeat' first|exact⟨_,rfl⟩|split
theorem Rt (a:Int):∃ r,lY.f a=some r:=by
 obtain⟨r,h⟩:=qdi a (-100000) 100000;exact⟨r,by unfold lY.f;rw[h];rfl⟩
theorem qzl (x:Int):∀ (n k:Nat)(p q:Int),0<=p->q<=200000->q - p<=n->n<k->∃ r b,ng.l0 k x p q=some (r,b):=by
 intro n
 induction n with
 | zero=>
  intro k p q h0 h1 h2 h3
  obtain⟨k,rfl⟩:∃ j,k=j+1:=⟨k - 1,by omega⟩
  unfold ng.l0;rw[if_neg (by omega)];exact⟨_,_,rfl⟩
 | succ n ih=>
  intro k p q h0 h1 h2 h3
  obtain⟨k,rfl⟩:∃ j,k=j+1:=⟨k - 1,by omega⟩
  unfold ng.l0;by_cases c:p<q
  .
   rw[if_pos c]
   have e:wrap64 (Int.tdiv (wrap64 ((wrap64 (p+q))+1)) 2)=(p+q+1) / 2:=by
    rw[kW (x:=p+q) (by omega) (by omega),kW (x:=p+q+1) (by omega) (by omega),Int.tdiv_eq_ediv_of_nonneg (by omega),kW (by omega) (by omega)]
   rw[e]
   split
   .
    exact ih k _ _ (by omega) h1 (by omega) (by omega)
   .
    rw[kW (x:=(p+q+1) / 2 - 1) (by omega) (by omega)];exact ih k _ _ h0 (by omega) (by omega) (by omega)
  .
   rw[if_neg c];exact⟨_,_,rfl⟩
theorem qzm (a b c:Int) {k:Nat}(hk:200010<=k):∃ r o,ng.f k a b c=some (r,o):=by
 obtain⟨k,rfl⟩:∃ j,k=j+1:=⟨k - 1,by omega⟩
 obtain⟨r1,h1⟩:=Rt a;obtain⟨r2,h2⟩:=Rt b;obtain⟨r3,h3⟩:=Rt c
 have hj:∀ o,∃ r q,ng.j0 (k+1) a b c o=some (r,q):=fun o=>by
  rw[ng.j0]
  split
  .
   exact⟨_,_,rfl⟩
  .
   exact qzl _ 200000 k _ _ (by omega) (by omega) (by omega) (by omega)
 unfold ng.f;simp only[h1,h2,h3,Option.bind_some]
 repeat' first|exact hj _|split
theorem qqt (x y:Int):∀ (n k:Nat)(p q:Int),q+n=360->n<k -> -100000<=q->∃ r b,kH.l0 k x y p q=some (r,b):=by
 intro n
 induction n with
 | zero=>
  intro k p q h0 h1 h2
  obtain⟨k,rfl⟩:∃ j,k=j+1:=⟨k - 1,by omega⟩
  unfold kH.l0;rw[if_neg (by omega)];exact⟨_,_,rfl⟩
 | succ n ih=>
  intro k p q h0 h1 h2
  obtain⟨k,rfl⟩:∃ j,k=j+1:=⟨k - 1,by omega⟩
  unfold kH.l0;rw[if_pos (by omega)];obtain⟨r1,h1⟩:=Pj q;obtain⟨r2,h2⟩:=Qm q;obtain⟨r3,h3⟩:=Pj p;obtain⟨r4,h4⟩:=Qm p;simp only[h1,h2,h3,h4,Option.bind_some];rw[kW (x:=q+1) (by omega) (by omega)]
  split
  .
   exact ih k _ _ (by omega) (by omega) (by omega)
  .
   exact ih k _ _ (by omega) (by omega) (by omega)
theorem qqu (a b:Int) {k:Nat}(hk:400<=k):∃ r o,kH.f k a b=some (r,o):=by
 obtain⟨k,rfl⟩:∃ j,k=j+1:=⟨k - 1,by omega⟩
 obtain⟨r1,h1⟩:=Rt a;obtain⟨r2,h2⟩:=Rt b
 have hj:∀ o,∃ r q,kH.j0 (k+1) a b o=some (r,q):=fun o=>by
  rw[kH.j0]
  split
  .
   exact⟨_,_,rfl⟩
  .
   exact qqt _ _ 359 k _ _ (by omega) (by omega) (by omega)
 unfold kH.f;simp only[h1,h2,Option.bind_some]
 repeat' first|exact hj _|split
theorem qBh (x y q:Int)(G:Nat)(hq:0<=q/\q<=90)(hG:∀ k p,G<=k->∃ r b,iW.l0 k x y p (q+1)=some (r,b))(k:Nat)(hk:G+3<=k)(p:Int):∃ r b,iW.l1 k x y p q 1=some (r,b):=by
 obtain⟨k,rfl⟩:∃ j,k=j+3:=⟨k - 3,by omega⟩
 have step:∀ (k:Nat) (z:Int) (p:Int),z >= -1->z<=1->(∀ p',∃ r b,iW.l1 k x y p' q (wrap64 (z - 2))=some (r,b))->∃ r b,iW.l1 (k+1) x y p q z=some (r,b):=by
  intro k z p hz hz1 ih;rw[iW.l1,if_pos hz];obtain⟨r1,h1⟩:=Qm q;obtain⟨r2,h2⟩:=Pj (wrap64 (z*q));obtain⟨r3,h3⟩:=Qm p;obtain⟨r4,h4⟩:=Pj p;simp only[h1,h2,h3,h4,Option.bind_some]
  split
  .
   exact ih _
  .
   exact ih _
 refine step _ _ _ (by omega) (by omega) (fun p1=>?_);refine step _ _ _ (by unfold wrap64;omega) (by unfold wrap64;omega) (fun p2=>?_);rw[iW.l1,if_neg (by unfold wrap64;omega),kW (x:=q+1) (by omega) (by omega)];exact hG _ _ (by omega)
theorem qBg (x y:Int):∀ (n k:Nat)(p q:Int),q+n=91->4*n+1<=k->0<=q->∃ r b,iW.l0 k x y p q=some (r,b):=by
 intro n
 induction n with
 | zero=>
  intro k p q h0 h1 h2
  obtain⟨k,rfl⟩:∃ j,k=j+1:=⟨k - 1,by omega⟩
  rw[iW.l0,if_neg (by omega)];exact⟨_,_,rfl⟩
 | succ n ih=>
  intro k p q h0 h1 h2
  obtain⟨k,rfl⟩:∃ j,k=j+1:=⟨k - 1,by omega⟩
  rw[iW.l0,if_pos (by omega)];exact qBh x y q (4*n+1) (by omega) (fun k p hk=>ih k p _ (by omega) hk (by omega)) k (by omega) p
theorem qBi (a b:Int) {k:Nat}(hk:400<=k):∃ r o,iW.f k a b=some (r,o):=by
 obtain⟨k,rfl⟩:∃ j,k=j+1:=⟨k - 1,by omega⟩
 obtain⟨r1,h1⟩:=qdi a 0 100000;obtain⟨r2,h2⟩:=Rt b
 have hj:∀ o,∃ r q,iW.j0 (k+1) a b o=some (r,q):=fun o=>by
  rw[iW.j0]
  split
  .
   exact⟨_,_,rfl⟩
  .
   exact qBg _ _ 90 k _ _ (by omega) (by omega) (by omega)
 unfold iW.f;simp only[h1,h2,Option.bind_some]
 repeat' first|exact hj _|split
theorem qBd (a b c d s:Int)(w:World):Calls Try.prog 111 #[.agg #[.int .i64 a,.int .i64 b,.int .i64 c,.int .i64 d,.int .i64 s]] w fun e w'=>∃ x y z:Int,e=.returned (.agg #[.int .i64 x,.int .i64 y,.int .i64 z])/\Below w.heap.size w w':=by
 obtain⟨x,y,z,h⟩:=qBe a b c d s;exact(iQ.calls _ _ _ _ _ _ _ _ w h).mono (fun e w' h=>⟨x,y,z,h⟩)
theorem qd7 (a b c d e f t:Int)(w:World):Calls Try.prog 110 #[.agg #[.int .i64 a,.int .i64 b,.int .i64 c],.agg #[.int .i64 d,.int .i64 e,.int .i64 f],.int .i64 t] w fun e w'=>∃ x y z:Int,e=.returned (.agg #[.int .i64 x,.int .i64 y,.int .i64 z])/\Below w.heap.size w w':=
 (qes.calls a b c d e f t _ _ _ w rfl).mono (fun e w' h=>⟨_,_,_,h⟩)
theorem qA4 (a b c d s:Int)(w:World):Calls Try.prog 112 #[.agg #[.int .i64 a,.int .i64 b,.int .i64 c,.int .i64 d,.int .i64 s]] w fun e w'=>∃ b0 b1 b2 b3 b4:Int,e=.returned (.agg #[.int .i64 b0,.int .i64 b1,.int .i64 b2,.int .i64 b3,.int .i64 b4])/\Below w.heap.size w w':=
 (qet.calls a b c d s _ _ _ _ _ w rfl).mono (fun e w' h=>⟨_,_,_,_,_,h⟩)
theorem qm1 (a b c:Int)(w:World):Calls Try.prog 113 #[.int .i64 a,.int .i64 b,.int .i64 c] w fun e w'=>∃ (x:Int)(o:Bool),e=.returned (.tuple #[.int .i64 x,.bool o])/\Below w.heap.size w w':=by
 obtain⟨x,o,h⟩:=qzm a b c (Nat.le_refl _);refine(ng.calls _ _ _ _ _ _ w h).mono ?_;rintro e w' ⟨rfl,nd,rfl⟩;exact⟨x,o,rfl,ig (Below.refl _ _) nd⟩
theorem qqs (a b:Int)(w:World):Calls Try.prog 114 #[.int .i64 a,.int .i64 b] w fun e w'=>∃ (x:Int)(o:Bool),e=.returned (.tuple #[.int .i64 x,.bool o])/\Below w.heap.size w w':=by
 obtain⟨x,o,h⟩:=qqu a b (Nat.le_refl _);exact(kH.calls _ _ _ _ _ w h).mono (fun e w' h=>⟨x,o,h⟩)
theorem qBf (a b:Int)(w:World):Calls Try.prog 115 #[.int .i64 a,.int .i64 b] w fun e w'=>∃ (x:Int)(o:Bool),e=.returned (.tuple #[.int .i64 x,.bool o])/\Below w.heap.size w w':=by
 obtain⟨x,o,h⟩:=qBi a b (Nat.le_refl _);exact(iW.calls _ _ _ _ _ w h).mono (fun e w' h=>⟨x,o,h⟩)
theorem inE (a b c:Int)(w:World):Calls Try.prog 101 #[.int .i64 a,.int .i64 b,.int .i64 c] w fun e w'=>∃ o:Bool,e=.returned (.bool o)/\Below w.heap.size w w':=by
 obtain⟨o,h⟩:=qdi a b c;refine(jF.calls _ _ _ _ w h).mono ?_;rintro e w' ⟨rfl,nd,rfl⟩;exact⟨o,rfl,ig (Below.refl _ _) nd⟩
theorem pJ {W W':World}{p:Addr}{v:Value}(hb:Below W.heap.size W W')(h:W.cell? p=some v):W'.cell? p=some v:=(hb.cell (World.block_lt_of_cell? _ _ h)).trans h
structure kX (w0 w W:World)(g:Nat)(x:List Int)(b:Int)(P:Nat->Prop)(v3:Value)(L:List aN)(v5:Value)(Q:List vT):Prop where
 d:jH w0 w W g x b
 r3:Kd.R k37 37 W w.heap.size P v3 L
 r5:Kd.R LK 118 W w.heap.size P v5 Q
section
variable {w0 w W W':World}{g:Nat}{x:List Int}{b c:Int}{P:Nat->Prop}{v3 v5:Value}{L:List aN}{Q:List vT}
theorem kX.cur (h:kX w0 w W g x b P v3 L v5 Q):nZ w0 W g x b:=h.d.cur
theorem kX.hB (h:kX w0 w W g x b P v3 L v5 Q):Below w0.heap.size w0 W:=h.d.hB
theorem kX.size (h:kX w0 w W g x b P v3 L v5 Q):w.heap.size<=W.heap.size:=h.d.size
theorem kX.mono (h:kX w0 w W g x b P v3 L v5 Q)(hbc:b<=c):kX w0 w W g x c P v3 L v5 Q:=⟨h.d.mono hbc,h.r3,h.r5⟩
theorem kX.call (h:kX w0 w W g x b P v3 L v5 Q)(hc:nZ w0 W' g x c)(hb:Below w0.heap.size w0 W')(hk:gJ W W' g none):kX w0 w W' g x c P v3 L v5 Q:=⟨h.d.call hc hb hk,h.d.cur.row hk h.r3 (by decide),h.d.cur.row hk h.r5 (by decide)⟩
theorem kX.below (h:kX w0 w W g x b P v3 L v5 Q)(hb:Below W.heap.size W W'):kX w0 w W' g x b P v3 L v5 Q:=⟨h.d.below hb,Kd.dL h.r3 hb,Kd.dL h.r5 hb⟩
theorem kX.apart (h:kX w0 w W g x b P v3 L v5 Q)(q:Nat)(hq:W.heap.size<=q):kX w0 w W g x b (fun k=>k≠q) v3 L v5 Q:=⟨h.d,Kd.dV (Kd.Qb h.r3 q hq) (fun _ hk=>hk.2),Kd.dV (Kd.Qb h.r5 q hq) (fun _ hk=>hk.2)⟩
theorem kX.loose (h:kX w0 w W g x b P v3 L v5 Q):kX w0 w W g x b (fun _=>True) v3 L v5 Q:=⟨h.d,Kd.dV h.r3 (fun _ _=>trivial),Kd.dV h.r5 (fun _ _=>trivial)⟩
theorem kX.far {q t:Nat}{cs:Array Value}(h:kX w0 w W g x b (fun k=>k≠q) v3 L v5 Q)(hb:W.heap[q]? = some (.cells cs t (0,0)))(ht:96≠t)(hq:w.heap.size<=q)(j:Nat)(v:Value):kX w0 w (W.setCell ⟨q,j,none⟩ v) g x b (fun k=>k≠q) v3 L v5 Q:=
 ⟨h.d.far hb ht hq j v,Kd.bD h.r3 (fun k hk=>hk) v,Kd.bD h.r5 (fun k hk=>hk) v⟩
theorem kX.yJ {q t:Nat}{b0 b1 b2 b3 b4:Value}(h:kX w0 w W g x b (fun k=>k≠q) v3 L v5 Q)(hb:W.heap[q]? = some (.cells #[b0,b1,b2,b3,b4] t (0,0)))(ht:96≠t)(hq:w.heap.size<=q)(a0 a1 a2 a3 a4:Value):kX w0 w (((((W.setCell ⟨q,0,none⟩ a0).setCell ⟨q,1,none⟩ a1).setCell ⟨q,2,none⟩ a2).setCell ⟨q,3,none⟩ a3).setCell ⟨q,4,none⟩ a4) g x b (fun k=>k≠q) v3 L v5 Q:=
 have h0:=h.far hb ht hq 0 a0;have h1:=h0.far (dG hb 0 a0 rfl) ht hq 1 a1;have h2:=h1.far (dG (dG hb 0 a0 rfl) 1 a1 rfl) ht hq 2 a2;have h3:=h2.far (dG (dG (dG hb 0 a0 rfl) 1 a1 rfl) 2 a2 rfl) ht hq 3 a3
 h3.far (dG (dG (dG (dG hb 0 a0 rfl) 1 a1 rfl) 2 a2 rfl) 3 a3 rfl) ht hq 4 a4
theorem kX.qsy {q t:Nat}{b0 b1 b2:Value}(h:kX w0 w W g x b (fun k=>k≠q) v3 L v5 Q)(hb:W.heap[q]? = some (.cells #[b0,b1,b2] t (0,0)))(ht:96≠t)(hq:w.heap.size<=q)(a0 a1 a2:Value):kX w0 w (((W.setCell ⟨q,0,none⟩ a0).setCell ⟨q,1,none⟩ a1).setCell ⟨q,2,none⟩ a2) g x b (fun k=>k≠q) v3 L v5 Q:=
 have h0:=h.far hb ht hq 0 a0;have h1:=h0.far (dG hb 0 a0 rfl) ht hq 1 a1
 h1.far (dG (dG hb 0 a0 rfl) 1 a1 rfl) ht hq 2 a2
theorem kX.grow (h:kX w0 w W g x b P v3 L v5 Q) {v:Value}(hv:v.ownBlock=none \/ ∃ k,v.ownBlock=some k/\w.heap.size<=k)(hne:some g≠v.ownBlock)(hb:Below w.heap.size W W')(hg:W.grownBy W' v.ownBlock):jH w0 w W' g x b:=by
 obtain⟨p,s,hI,h0,h1⟩:=h.d.cur;exact⟨⟨p,s,gW.grown hI hg hne,h0,h1⟩,qgl h.d.hB h.d.hw hb,gJ.trans h.d.hK (gJ.RP hg g) hv,h.d.hw⟩
theorem kX.qd8 (h:kX w0 w W g x b P v3 L v5 Q) {v':Value}{L':List aN}(ho:Kd.R k37 37 W' w.heap.size P v' L')(hb:Below w.heap.size W W')(hg:W.grownBy W' v3.ownBlock):kX w0 w W' g x b P v' L' v5 Q:=by
 obtain⟨p,s,hI,h0,h1⟩:=h.d.cur;exact⟨h.grow (Kd.Qa h.r3) (gW.own_ne hI h.r3 (by decide)) hb hg,ho,Kd.GZ h.r5 (Kd.wO h.r3) (by decide) hg⟩
theorem kX.qAo (h:kX w0 w W g x b P v3 L v5 Q) {v':Value}{Q':List vT}(ho:Kd.R LK 118 W' w.heap.size P v' Q')(hb:Below w.heap.size W W')(hg:W.grownBy W' v5.ownBlock):kX w0 w W' g x b P v3 L v' Q':=by
 obtain⟨p,s,hI,h0,h1⟩:=h.d.cur;exact⟨h.grow (Kd.Qa h.r5) (gW.own_ne hI h.r5 (by decide)) hb hg,Kd.GZ h.r3 (Kd.wO h.r5) (by decide) hg,ho⟩
end
def cT8:Bool×List (List Nat×List Nat):=(true,[([],[]),([],[]),([],[]),([2],[2]),([1,3],[1,3]),([4],[4]),([],[]),([6],[6]),([5,7,7],[5,7]),([8],[8]),([0,9,8],[0,9]),([10,10,0,1,2,3,4,5,6,7,8,9,10],[0,1,10])])
def cB8:List Nat:=[0,0,0,4,14,30,0,64,254,510,1023,2047]
theorem qrs:ji .any (opsOf Try.f85 8)=cT8:=by kernel_rfl
theorem qrj:o_ cT8.2 cB8=true:=by kernel_rfl
def qgu:Bool×List (List Nat×List Nat):=(true,[([],[]),([],[]),([0,1],[0,1]),([2],[2]),([],[]),([],[]),([4,5],[4,5]),([6],[6]),([3,7],[3,7]),([],[]),([9,8,8,0,1,2,3,4,5,6,7,8,9],[8,9])])
def qrg:List Nat:=[0,0,3,7,0,0,48,112,255,0,1023]
theorem qrr:ji .any (opsOf Try.f85 16)=qgu:=by kernel_rfl
theorem qri:o_ qgu.2 qrg=true:=by kernel_rfl
theorem jH.grow {w0 w W W':World}{g:Nat}{x:List Int}{b:Int}(h:jH w0 w W g x b) {v:Value}(hv:v.ownBlock=none \/ ∃ k,v.ownBlock=some k/\w.heap.size<=k)(hne:some g≠v.ownBlock)(hb:Below w.heap.size W W')(hg:W.grownBy W' v.ownBlock):jH w0 w W' g x b:=by
 obtain⟨p,s,hI,h0,h1⟩:=h.cur;exact⟨⟨p,s,gW.grown hI hg hne,h0,h1⟩,qgl h.hB h.hw hb,gJ.trans h.hK (gJ.RP hg g) hv,h.hw⟩
theorem nZ.own_ne {w0 W:World}{g:Nat}{x:List Int}{b:Int}{B:Nat}{ok:Nat->Prop}{v:Value}{l:List aN}(h:nZ w0 W g x b)(hr:Kd.R k37 37 W B ok v l):some g≠v.ownBlock:=by
 obtain⟨p,s,hI,_⟩:=h;exact gW.own_ne hI hr (by decide)
theorem qA9 {w0 w W:World}{g:Nat}{x:List Int}{b:Int}{A:Option Addr}{c:Nat}{L:List aN}(HD:jH w0 w W g x b)(h:Kd.R k37 37 W w.heap.size (fun _=>True) (.slice A L.length c) L)(hL:0<L.length) :
  ∃ q,A=some ⟨q,0,none⟩/\W.cell? ⟨q,0,none⟩=some (.int .i64 (aj L 0).f0)/\W.cell? ⟨q,1,none⟩=some (.int .i64 (aj L 0).f1)/\W.cell? ⟨q,2,none⟩=some (.int .i64 (aj L 0).f2)/\W.cell? ⟨q,3,none⟩=some (.int .i64 (aj L 0).f3)/\W.cell? ⟨q,4,none⟩=some (.int .i64 (aj L 0).f4)/\W.frozen? ⟨q,0,none⟩=false/\W.frozen? ⟨q,1,none⟩=false/\W.frozen? ⟨q,2,none⟩=false/\W.frozen? ⟨q,3,none⟩=false/\W.frozen? ⟨q,4,none⟩=false/\∀ a0 a1 a2 a3 a4:Int,(∃ L':List aN,L'.length=L.length/\Kd.R k37 37 (((((W.setCell ⟨q,0,none⟩ (.int .i64 a0)).setCell ⟨q,1,none⟩ (.int .i64 a1)).setCell ⟨q,2,none⟩ (.int .i64 a2)).setCell ⟨q,3,none⟩ (.int .i64 a3)).setCell ⟨q,4,none⟩ (.int .i64 a4)) w.heap.size (fun _=>True) (.slice (some ⟨q,0,none⟩) L.length c) L')/\jH w0 w (((((W.setCell ⟨q,0,none⟩ (.int .i64 a0)).setCell ⟨q,1,none⟩ (.int .i64 a1)).setCell ⟨q,2,none⟩ (.int .i64 a2)).setCell ⟨q,3,none⟩ (.int .i64 a3)).setCell ⟨q,4,none⟩ (.int .i64 a4)) g x b:=by
 obtain⟨q,cap,e,hb,hl,cl,hG⟩:=Kd.Uc h hL
 injection e with e1 e2 e3
 subst e1;have hne:=HD.cur.ne hG (by decide);obtain⟨ce,hcl,hM,hcc,hfr⟩:=Kd.qp2 h z37 0 (by omega) (by omega);obtain rfl:=qzd hM;refine⟨q,rfl,hcc 0 _ rfl,hcc 1 _ rfl,hcc 2 _ rfl,hcc 3 _ rfl,hcc 4 _ rfl,hfr 0,hfr 1,hfr 2,hfr 3,hfr 4,?_⟩;intro a0 a1 a2 a3 a4;have HP:=Kd.qp3 h 0 (by omega) (by omega) (seg:=[.int .i64 a0,.int .i64 a1,.int .i64 a2,.int .i64 a3,.int .i64 a4]) (j:=0) hcl hcc (show 5<=5 from by decide) (x':=(⟨a0,a1,a2,a3,a4⟩:aN)) (OD _ _ _ (⟨a0,a1,a2,a3,a4⟩:aN)) (fun _ hk=>hk);exact⟨⟨_,List.length_set,HP.1⟩,⟨HD.cur.far hne _ |>.far hne _ |>.far hne _ |>.far hne _ |>.far hne _,aK (aK (aK (aK (aK HD.hB (Nat.le_trans HD.hw hb)) (Nat.le_trans HD.hw hb)) (Nat.le_trans HD.hw hb)) (Nat.le_trans HD.hw hb)) (Nat.le_trans HD.hw hb),wV (p:=⟨q,_,none⟩) (wV (p:=⟨q,_,none⟩) (wV (p:=⟨q,_,none⟩) (wV (p:=⟨q,_,none⟩) (wV (p:=⟨q,_,none⟩) HD.hK hb _) hb _) hb _) hb _) hb _,HD.hw⟩⟩
set_option maxHeartbeats 64000000 in
set_option maxRecDepth 100000 in
theorem qgv {w0 w:World}{g:Nat}{x:List Int}{b:Int}(hx:Ee x)(hC:nZ w0 w g x b)(hB:Below w0.heap.size w0 w)(hb:b<=600000000) :
  Calls Try.prog 85 #[.pointer (some ⟨g,0,none⟩)] w fun e w'=>∃ (A:Option Addr) (cp:Nat) (l:List aN),e=.returned (.slice A l.length cp)/\l.length<=9/\jH w0 w w' g x (b+120)/\Kd.R k37 37 w' w.heap.size (fun _=>True) (.slice A l.length cp) l:=by
 have qdg:=Try.underlying28;have zB:=Try.underlying37;have qmk:=Try.underlying118;have qRw:=Try.underlying119;have HD:=ak (show jH w0 w w g x b from ⟨hC,hB,gJ.refl _ _ _,eG hB⟩);clear hC hB
 go_enter Try.func85,Try.ntmps85
 go_upto_block 0 with (first|((with_reducible refine bT (N:=20) rfl ?_);refine Kd.ru k37 _ 37 ?hg (N:=20) ?hd (xs:=([]:List aN)) (inner:=[]) (ok:=fun _=>True) (iJ:=fun _=>True) ?hr ?hp (fun _ hk=>hk) trivial (Below.refl _ _) (Nat.le_refl _) (by simp) ?_;(case hd=>rfl);(case hg=>rfl);(case hr=>first|(go_simp;done)|(go_simp;rfl));(case hp=>exact(bW.none _ _));intro v_ wa ho hb iP je;clear iP je;have L0:=ak (Kd.fB ho HD.out.size);replace HD:=ak (HD.out.below hb);clear ho hb)|((with_reducible refine bZ (f:=81) rfl ?_);refine bY (some 22) Try.func81 #[.pointer (some ⟨g,0,none⟩),.int .i64 5] ?_;refine(wW hx HD.out.cur HD.out.hB (by omega) 5 (by decide)).mono ?_;rintro e wb ⟨n,rfl,iC,gI,hc,hb2,hk⟩;refine⟨_,rfl,?_⟩;have HP_:=HD;have mJ:=ak hk;have Hn:=ak (And.intro iC gI);clear iC gI;replace HD:=ak (HD.out.call hc hb2 hk);clear hc hb2 hk;replace L0:=ak (HP_.out.cur.row mJ.out L0.out (by decide));clear HP_ mJ)|((with_reducible refine bT (N:=25) rfl ?_);refine Kd.ru LK _ 118 ?hg (N:=25) ?hd (xs:=([(⟨0,0,0⟩:vT)]:List vT)) (inner:=[.int .i64 0,.int .i64 0,.int .i64 0]) (ok:=fun _=>True) (iJ:=fun _=>True) ?hr ?hp (fun _ hk=>hk) trivial (Below.refl _ _) (Nat.le_refl _) (by simp) ?_;(case hd=>rfl);(case hg=>rfl);(case hr=>first|(go_simp;done)|(go_simp;rfl));(case hp=>exact(bW.c3 (show Kd.M LK _ _ _ (⟨0,0,0⟩:vT) [.int .i64 0,.int .i64 0,.int .i64 0] from (qmw _ _ _ (⟨0,0,0⟩:vT))) (bW.none _ _)));intro v_ wd ho hb iP je;clear iP je;replace L0:=ak (Kd.dL L0.out hb);have Q0:=ak (Kd.fB ho HD.out.size);replace HD:=ak (HD.out.below hb);clear ho hb))
 have hn0:=Hn.out;rw[kW (x:=2+n) (by omega) (by omega)]
 obtain⟨m,hm⟩:∃ m:Int,m=2+n:=⟨_,rfl⟩
 rw[<- hm];have Hm:=ak (show 2<=m/\m<=6 from by omega);clear hm hn0 Hn;(try simp only[Act.put,List.setIfInBounds_toArray,List.set_cons_zero,List.set_cons_succ])
 go_cut [3,5] (fun v3 v5 dP=>∃ (L:List aN) (Q:List vT),Aside0 (1<=L.length/\L.length<=5/\(Q.length:Int)=m)/\Aside0 (kX w0 w dP g x (b+70) (fun _=>True) v3 L v5 Q))
 case first=>
  go_wp2_with fail
  go_loopg [3,5,6] 8 (fun k v3 v5 v6 dP=>∃ (L:List aN) (Q:List vT) (s:Int),v6=.int .i64 s/\Aside0 (1<=s/\s<=m/\s+k=9/\(L.length:Int)=s - 1/\(Q.length:Int)=s)/\Aside0 (kX w0 w dP g x (b+10*s) (fun _=>True) v3 L v5 Q))
  case atStart=>exact⟨[],[⟨0,0,0⟩],1,rfl,⟨by have:=Hm.out;refine⟨?_,?_,?_,?_,?_⟩ <;> first|omega|simp⟩,⟨⟨HD.out.mono (by omega),L0.out,Q0.out⟩⟩⟩
  case round=>
   clear HD L0 Q0;obtain⟨L,Q,s,rfl,HN,HD⟩:=hrel;have s1:1<=s:=HN.out.1;have s2:s<=6:=Int.le_trans HN.out.2.1 Hm.out.2;by_cases hs:s<m
   .
    have qs:decide (s<m)=true:=decide_eq_true hs
    go_upto_region 8 with (first|((with_reducible refine bZ (f:=81) rfl ?_);refine bY (some 33) Try.func81 #[.pointer (some ⟨g,0,none⟩),.int .i64 s] ?_;refine(wW hx HD.out.cur HD.out.hB (by omega) s (by omega)).mono ?_;rintro e wb ⟨t0,rfl,iC,gI,hc,hb2,hk⟩;refine⟨_,rfl,?_⟩;have ZP:=ak (And.intro iC gI);clear iC gI;replace HD:=ak (HD.out.call hc hb2 hk);clear hc hb2 hk)|((with_reducible refine bT (N:=36) rfl ?_);refine Kd.ru (Kd.int .i64) _ 3 ?hg (N:=36) ?hd (xs:=[10,50,100,120,250]) (inner:=[.int .i64 10,.int .i64 50,.int .i64 100,.int .i64 120,.int .i64 250]) (ok:=fun _=>True) (iJ:=fun _=>True) ?hr ?hp (fun _ hk=>hk) trivial (Below.refl _ _) (Nat.le_refl _) (show 5<=9223372036854775807 from by decide) ?_;(case hd=>rfl);(case hg=>rfl);(case hr=>first|(go_simp;done)|(go_simp;rfl));(case hp=>exact xZ _ _ _ [10,50,100,120,250]);intro v_ wd ho hb iP je;obtain⟨lp,jd⟩:∃ z:List Int,z=[10,50,100,120,250]:=⟨_,rfl⟩;rw[<- jd] at ho;have Pp:=ak (show 0<lp.length from by rw[jd];exact Nat.zero_lt_succ _);obtain⟨Ap,cp,oK⟩:=Kd.bM ho;subst oK;have Lp:=ak ho;replace HD:=ak (HD.out.below hb);clear ho hb iP je jd)|((with_reducible refine bZ (f:=86) rfl ?_);refine bY (some 37) Try.func86 #[.pointer (some ⟨g,0,none⟩),.slice Ap lp.length cp] ?_;refine(yH hx HD.out.cur HD.out.hB (by omega) Pp.out Lp.out).mono ?_;rintro e we ⟨t2,rfl,nK,hc,hb2,hk⟩;refine⟨_,rfl,?_⟩;clear nK Lp Pp;replace HD:=ak (HD.out.call hc hb2 hk);clear hc hb2 hk)|((with_reducible refine bT (N:=39) rfl ?_);refine Kd.ru (Kd.int .i64) _ 3 ?hg (N:=39) ?hd (xs:=[0,45,90,135,180,270,300]) (inner:=[.int .i64 0,.int .i64 45,.int .i64 90,.int .i64 135,.int .i64 180,.int .i64 270,.int .i64 300]) (ok:=fun _=>True) (iJ:=fun _=>True) ?hr ?hp (fun _ hk=>hk) trivial (Below.refl _ _) (Nat.le_refl _) (show 7<=9223372036854775807 from by decide) ?_;(case hd=>rfl);(case hg=>rfl);(case hr=>first|(go_simp;done)|(go_simp;rfl));(case hp=>exact xZ _ _ _ [0,45,90,135,180,270,300]);intro v_ wf ho hb iP je;obtain⟨lr,jd⟩:∃ z:List Int,z=[0,45,90,135,180,270,300]:=⟨_,rfl⟩;rw[<- jd] at ho;have Pr:=ak (show 0<lr.length from by rw[jd];exact Nat.zero_lt_succ _);obtain⟨Ar,cr,oK⟩:=Kd.bM ho;subst oK;have Lr:=ak ho;replace HD:=ak (HD.out.below hb);clear ho hb iP je jd)|((with_reducible refine bZ (f:=86) rfl ?_);refine bY (some 40) Try.func86 #[.pointer (some ⟨g,0,none⟩),.slice Ar lr.length cr] ?_;refine(yH hx HD.out.cur HD.out.hB (by omega) Pr.out Lr.out).mono ?_;rintro e wh ⟨t3,rfl,nK,hc,hb2,hk⟩;refine⟨_,rfl,?_⟩;clear nK Lr Pr;replace HD:=ak (HD.out.call hc hb2 hk);clear hc hb2 hk)|((with_reducible refine bT (N:=42) rfl ?_);refine Kd.ru (Kd.int .i64) _ 3 ?hg (N:=42) ?hd (xs:=[0,0,(-10),(-30),20,(-90)]) (inner:=[.int .i64 0,.int .i64 0,.int .i64 (-10),.int .i64 (-30),.int .i64 20,.int .i64 (-90)]) (ok:=fun _=>True) (iJ:=fun _=>True) ?hr ?hp (fun _ hk=>hk) trivial (Below.refl _ _) (Nat.le_refl _) (show 6<=9223372036854775807 from by decide) ?_;(case hd=>rfl);(case hg=>rfl);(case hr=>first|(go_simp;done)|(go_simp;rfl));(case hp=>exact xZ _ _ _ [0,0,(-10),(-30),20,(-90)]);intro v_ wi ho hb iP je;obtain⟨lz,jd⟩:∃ z:List Int,z=[0,0,(-10),(-30),20,(-90)]:=⟨_,rfl⟩;rw[<- jd] at ho;have Pz:=ak (show 0<lz.length from by rw[jd];exact Nat.zero_lt_succ _);obtain⟨Az,cz,oK⟩:=Kd.bM ho;subst oK;have Lz:=ak ho;replace HD:=ak (HD.out.below hb);clear ho hb iP je jd)|((with_reducible refine bZ (f:=86) rfl ?_);refine bY (some 43) Try.func86 #[.pointer (some ⟨g,0,none⟩),.slice Az lz.length cz] ?_;refine(yH hx HD.out.cur HD.out.hB (by omega) Pz.out Lz.out).mono ?_;rintro e wj ⟨t4,rfl,nK,hc,hb2,hk⟩;refine⟨_,rfl,?_⟩;clear nK Lz Pz;replace HD:=ak (HD.out.call hc hb2 hk);clear hc hb2 hk)|((with_reducible refine bT (N:=7) rfl ?_);refine dN ?hg (N:=7) ?hd (cs:=#[.int .i64 0,.int .i64 0,.int .i64 0,.int .i64 0,.int .i64 0]) (t:=37) ?hr ?_;(case hd=>rfl);(case hg=>rfl);(case hr=>first|(go_simp;done)|(go_simp;rfl));intro q7 hg wk hbox hb;have Dk:=ak (show w.heap.size<=q7 from by rw[hg];exact HD.out.size);have dR:=ak hbox;replace HD:=ak ((HD.out.apart q7 (Nat.le_of_eq hg.symm)).below hb);clear hb hbox hg;obtain⟨bP,bQ,hcz2,dw,dA⟩:=aX dR.out;obtain⟨cZ,hfz1,dh,dJ,dK⟩:=aZ dR.out)|((with_reducible refine mW (t:=37) (p:=7) rfl ?_);refine ny (t:=37) (p:=7) (v:=?qSf) (w1:=(((((wk.setCell ⟨q7,0,none⟩ (.int .i64 t0)).setCell ⟨q7,1,none⟩ (.int .i64 s)).setCell ⟨q7,2,none⟩ (.int .i64 t2)).setCell ⟨q7,3,none⟩ (.int .i64 t3)).setCell ⟨q7,4,none⟩ (.int .i64 t4))) ?hg ?ho ?hn ?hr ?_;(case ho=>rfl);(case hg=>rfl);(case hn=>rfl);(case hr=>first|(go_simp;done)|(go_simp;rfl));intro wl hw;clear bP cZ bQ hfz1 hcz2 dh dw dJ dA dK;have eu:=V8 dR.out (.int .i64 t0) (.int .i64 s) (.int .i64 t2) (.int .i64 t3) (.int .i64 t4);rw[<- hw] at eu;have dB:=HD.out.yJ dR.out (by decide) Dk.out (.int .i64 t0) (.int .i64 s) (.int .i64 t2) (.int .i64 t3) (.int .i64 t4);rw[<- hw] at dB;clear hw dR HD;have dR:=ak eu;have HD:=ak dB;clear eu dB))
    clear qs;have hb:=iq (Below.refl wl.heap.size wl);replace dR:=ak (aI dR.out hb);replace HD:=ak (HD.out.below hb);clear hb;obtain⟨A5,c5,e5⟩:=Kd.bM HD.out.r5;subst e5;have p0:0<=t0:=ZP.out.1
    have q0:t0<(Q.length:Int):=by have h1:=ZP.out.2;have h2:=HN.out;omega
    obtain⟨ad,e0,y0,y1,y2⟩:=qat (Kd.aT HD.out.r5).2.2 t0 p0 q0;cases e0;replace p0:=eq_true p0;replace q0:=eq_true q0;refine oM (n:=12) (S:=fun w'=>w'.cell? ⟨q7,0,none⟩=some (.int .i64 t0)/\w'.cell? ⟨q7,1,none⟩=some (.int .i64 s)/\w'.cell? ⟨q7,2,none⟩=some (.int .i64 t2)/\w'.cell? ⟨q7,3,none⟩=some (.int .i64 t3)/\w'.cell? ⟨q7,4,none⟩=some (.int .i64 t4)/\w'.cell? (ad.add ((t0).toNat*3))=some (.int .i64 (nX Q t0).f0)/\w'.cell? ⟨(ad.add ((t0).toNat*3)).block,(ad.add ((t0).toNat*3)).off+1,none⟩=some (.int .i64 (nX Q t0).f1)/\w'.cell? ⟨(ad.add ((t0).toNat*3)).block,(ad.add ((t0).toNat*3)).off+2,none⟩=some (.int .i64 (nX Q t0).f2)) (ds:=[9,10]) #[fF,fF,fF,fF,fF,fF,fF,fF,fF,fF,fF,fF] (by kernel_rfl) rfl rfl ⟨(aH dR.out 0).trans rfl,(aH dR.out 1).trans rfl,(aH dR.out 2).trans rfl,(aH dR.out 3).trans rfl,(aH dR.out 4).trans rfl,y0,y1,y2⟩ (fun hHeld=>?_);refine pW qrs qrj (fun aA dZ=>?_);generalize wl.drew=wm at HD dR y0 y1 y2 hHeld ⊢;refine aQ aA 0 (some 45) #[tT,fF,fF,fF,fF,fF,fF,fF,fF,fF,fF,fF] ?_;refine aQ aA 1 (some 46) #[tT,tT,fF,fF,fF,fF,fF,fF,fF,fF,fF,fF] ?_;refine aQ aA 2 (some 47) #[tT,tT,tT,fF,fF,fF,fF,fF,fF,fF,fF,fF] ?_;refine fP aA dZ hHeld 3 (some 48) #[tT,tT,tT,tT,fF,fF,fF,fF,fF,fF,fF,fF] ?_;refine aQ aA 4 (some 49) #[tT,tT,tT,tT,tT,fF,fF,fF,fF,fF,fF,fF] ?_;refine fP aA dZ hHeld 5 (some 50) #[tT,tT,tT,tT,tT,tT,fF,fF,fF,fF,fF,fF] ?_;refine fP aA dZ hHeld 6 (some 51) #[tT,tT,tT,tT,tT,tT,tT,fF,fF,fF,fF,fF] ?_;refine lu (i:=7) (N:=some 52) #[tT,tT,tT,tT,tT,tT,tT,tT,fF,fF,fF,fF] rfl rfl (jg aA.out (by kernel_rfl)) (by decide) (fun K hK=>?_);refine kV Try.func111 #[.agg #[.int .i64 t0,.int .i64 s,.int .i64 t2,.int .i64 t3,.int .i64 t4]] ?_;refine(qBd t0 s t2 t3 t4 _).mono ?_;rintro e wn ⟨x0,x1,x2,rfl,hb⟩;refine⟨_,rfl,?_⟩;have xW:=pJ hb (hHeld.2.2.2.2.2.1);have xX:=pJ hb (hHeld.2.2.2.2.2.2.1);have xY:=pJ hb (hHeld.2.2.2.2.2.2.2);replace dR:=ak (aI dR.out hb);replace HD:=ak (HD.out.below hb);clear hb;refine hK.out _ _ ⟨(aH dR.out 0).trans rfl,(aH dR.out 1).trans rfl,(aH dR.out 2).trans rfl,(aH dR.out 3).trans rfl,(aH dR.out 4).trans rfl,xW,xX,xY⟩ (fun hHeld=>?_);clear hK K xW xX xY;refine jw ?_;refine lu (i:=8) (N:=some 53) #[tT,tT,tT,tT,tT,tT,tT,tT,tT,fF,fF,fF] rfl rfl (jg aA.out (by kernel_rfl)) (by decide) (fun K hK=>?_);refine kV Try.func110 #[.agg #[.int .i64 (nX Q t0).f0,.int .i64 (nX Q t0).f1,.int .i64 (nX Q t0).f2],.agg #[.int .i64 x0,.int .i64 x1,.int .i64 x2],.int .i64 1] ?_;refine(qd7 (nX Q t0).f0 (nX Q t0).f1 (nX Q t0).f2 x0 x1 x2 1 _).mono ?_;rintro e wo ⟨z0,z1,z2,rfl,hb⟩;refine⟨_,rfl,?_⟩;have xW:=pJ hb (hHeld.2.2.2.2.2.1);have xX:=pJ hb (hHeld.2.2.2.2.2.2.1);have xY:=pJ hb (hHeld.2.2.2.2.2.2.2);replace dR:=ak (aI dR.out hb);replace HD:=ak (HD.out.below hb);clear hb;refine hK.out _ _ ⟨(aH dR.out 0).trans rfl,(aH dR.out 1).trans rfl,(aH dR.out 2).trans rfl,(aH dR.out 3).trans rfl,(aH dR.out 4).trans rfl,xW,xX,xY⟩ (fun hHeld=>?_);clear hK K xW xX xY;refine jw ?_;refine u_ (i:=9) (N:=some 54) #[tT,tT,tT,tT,tT,tT,tT,tT,tT,tT,fF,fF] rfl rfl (jg aA.out (by kernel_rfl)) (by decide) (fun K hK=>?_);refine Ie (w1:=?_) (v:=?_) (by rfl) rfl ?_ ?_;rotate_left 2
    .
     go_simp
     constructor
     .
      rfl
     .
      rfl
    refine hK.out _ _ ?_;clear hK K;refine jw ?_;refine u_ (i:=10) (N:=some 55) #[tT,tT,tT,tT,tT,tT,tT,tT,tT,tT,tT,fF] rfl rfl (jg aA.out (by kernel_rfl)) (by decide) (fun K hK=>?_);refine Kd.qgb LK w.heap.size (by rfl) (.tmp 45) (.tmp 54) 119 118 (.agg #[.int .i64 0,.int .i64 0,.int .i64 0]) 24 rfl Try.underlying119 info118 rfl (by decide) (by omega) (.slice (some ad) Q.length c5) Q (⟨z0,z1,z2⟩:vT) [.int .i64 z0,.int .i64 z1,.int .i64 z2] (fun k=>k≠q7) (fun _=>False) rfl rfl ?aP (fun _ hk=>hk.elim) ?aF ?aO (Below.refl _ _) ?aS ?aL ?_;(case aP=>exact qmw _ _ _ (⟨z0,z1,z2⟩:vT));(case aF=>exact(fun k_ hk=>Kd.UG (g:=q7) dR.out k_ hk));(case aO=>exact HD.out.r5);(case aS=>exact HD.out.size);(case aL=>have h2:=HN.out;omega);intro v5 wp ho hb hg hat;have dR:=ak (Cc dR.out hg (Kd.Aq HD.out.r5 dR.out (by decide)));have HD:=ak (HD.out.qAo ho hb hg);clear ho hb hg hat;refine hK.out _ _ ?_;clear hK K;refine jw ?_;refine aQ aA 11 (some 5) #[tT,tT,tT,tT,tT,tT,tT,tT,tT,tT,tT,tT] ?_;refine pF (qH aA.out (by kernel_rfl)) ?_
    go_upto_if 57 with (first|((with_reducible refine bZ (f:=82) rfl ?_);refine bY (some 57) Try.func82 #[.pointer (some ⟨g,0,none⟩),.int .i64 4] ?_;refine(qdt hx HD.out.cur HD.out.hB (by omega) 4 (by decide)).mono ?_;rintro e wq ⟨o,rfl,hc,hb2,hk⟩;refine⟨_,rfl,?_⟩;replace dR:=ak (HD.out.cur.blk hk dR.out (by decide));replace HD:=ak (HD.out.call hc hb2 hk);clear hc hb2 hk))
    (try simp only[Act.put,List.setIfInBounds_toArray,List.set_cons_zero,List.set_cons_succ])
    go_cut [] (fun dP=>∃ a0 a1 a2 a3 a4:Int,Aside0 (kX w0 w dP g x (b+10*s+10) (fun k=>k≠q7) u3 L v5 (Q ++ [⟨z0,z1,z2⟩]))/\Aside0 (dP.heap[q7]? = some (.cells #[.int .i64 a0,.int .i64 a1,.int .i64 a2,.int .i64 a3,.int .i64 a4] 37 (0,0))))
    case first=>
     cases o with
     | true=>
      obtain⟨bP,bQ,hcz2,dw,dA⟩:=aX dR.out;obtain⟨cZ,hfz1,dh,dJ,dK⟩:=aZ dR.out
      go_wp2_with (first|((with_reducible refine bZ (f:=112) rfl ?_);refine bY (some 59) Try.func112 #[.agg #[.int .i64 t0,.int .i64 s,.int .i64 t2,.int .i64 t3,.int .i64 t4]] ?_;refine(qA4 t0 s t2 t3 t4 _).mono ?_;rintro e wr ⟨r0,r1,r2,r3,r4,rfl,hb⟩;refine⟨_,rfl,?_⟩;clear bP cZ bQ hfz1 hcz2 dh dw dJ dA dK;replace dR:=ak (aI dR.out hb);replace HD:=ak (HD.out.below hb);clear hb;obtain⟨bP,bQ,hcz2,dw,dA⟩:=aX dR.out;obtain⟨cZ,hfz1,dh,dJ,dK⟩:=aZ dR.out)|((with_reducible refine mW (t:=37) (p:=7) rfl ?_);refine ny (t:=37) (p:=7) (v:=?qSg) (w1:=(((((wr.setCell ⟨q7,0,none⟩ (.int .i64 r0)).setCell ⟨q7,1,none⟩ (.int .i64 r1)).setCell ⟨q7,2,none⟩ (.int .i64 r2)).setCell ⟨q7,3,none⟩ (.int .i64 r3)).setCell ⟨q7,4,none⟩ (.int .i64 r4))) ?hg ?ho ?hn ?hr ?_;(case ho=>rfl);(case hg=>rfl);(case hn=>rfl);(case hr=>first|(go_simp;done)|(go_simp;rfl));intro ws hw;clear bP cZ bQ hfz1 hcz2 dh dw dJ dA dK;have eu:=V8 dR.out (.int .i64 r0) (.int .i64 r1) (.int .i64 r2) (.int .i64 r3) (.int .i64 r4);rw[<- hw] at eu;have dB:=HD.out.yJ dR.out (by decide) Dk.out (.int .i64 r0) (.int .i64 r1) (.int .i64 r2) (.int .i64 r3) (.int .i64 r4);rw[<- hw] at dB;clear hw dR HD;have dR:=ak eu;have HD:=ak dB;clear eu dB))
      go_meet
      case rel=>exact⟨_,_,_,_,_,⟨HD.out.mono (by omega)⟩,dR⟩
     | false=>
      go_wp2_with fail;go_meet
      case rel=>exact⟨_,_,_,_,_,⟨HD.out.mono (by omega)⟩,dR⟩
    case rest=>
     clear HD dR;obtain⟨a0,a1,a2,a3,a4,HD,dR⟩:=hcut;obtain⟨bP,bQ,hcz2,dw,dA⟩:=aX dR.out;obtain⟨cZ,hfz1,dh,dJ,dK⟩:=aZ dR.out
     go_wp2_with (first|((with_reducible refine EC (b:=.append) (xs:=#[.tmp 60,.tmp 62]) rfl ?_);at_builtin;refine Kd.J3 k37 w.heap.size rfl (.tmp 60) (.tmp 62) 28 37 (.agg #[.int .i64 0,.int .i64 0,.int .i64 0,.int .i64 0,.int .i64 0]) 40 rfl Try.underlying28 info37 rfl (by decide) (by omega) u3 L (⟨a0,a1,a2,a3,a4⟩:aN) [.int .i64 a0,.int .i64 a1,.int .i64 a2,.int .i64 a3,.int .i64 a4] (fun k=>k≠q7) (fun _=>False) rfl rfl ?aP (fun _ hk=>hk.elim) ?aF ?aO (Below.refl _ _) ?aS ?aL ?_;(case aP=>exact OD _ _ _ (⟨a0,a1,a2,a3,a4⟩:aN));(case aF=>exact(fun k_ hk=>Kd.UG (g:=q7) dR.out k_ hk));(case aO=>exact HD.out.r3);(case aS=>exact HD.out.size);(case aL=>have:=HN.out;omega);intro v3 wt ho hb hg hat;replace dR:=ak (Cc dR.out hg (Kd.qgd HD.out.r3 (fun _ hk=>hk)));replace HD:=ak (HD.out.qd8 ho hb hg);clear ho hb hg hat))
     cases gk with
     | zero=>have h2:=HN.out;omega
     | succ gk=>
      go_roundg gk
      case measure=>omega
      case rel=>exact⟨L ++ [⟨a0,a1,a2,a3,a4⟩],Q ++ [⟨z0,z1,z2⟩],s+1,rfl,⟨by have h2:=HN.out;simp only[List.length_append,List.length_cons,List.length_nil];omega⟩,⟨HD.out.loose.mono (by omega)⟩⟩
   .
    have qs:decide (s<m)=false:=decide_eq_false hs;go_wp2_with fail;go_meet
    case rel=>exact⟨L,Q,⟨by have h2:=HN.out;have h3:=Hm.out;refine⟨?_,?_,?_⟩ <;> omega⟩,⟨HD.out.mono (by have h3:=Hm.out;omega)⟩⟩
 case rest=>
  clear HD L0 Q0;obtain⟨L,Q,HN,HD⟩:=hcut;have HQ:=ak HN.out.2.2;obtain⟨A5,c5,e5⟩:=Kd.bM HD.out.r5;subst e5
  go_upto_block 2 with (first|((with_reducible refine bZ (f:=81) rfl ?_);refine bY (some 65) Try.func81 #[.pointer (some ⟨g,0,none⟩),.int .i64 4] ?_;refine(wW hx HD.out.cur HD.out.hB (by omega) 4 (by decide)).mono ?_;rintro e wb ⟨h,rfl,iC,gI,hc,hb2,hk⟩;refine⟨_,rfl,?_⟩;have Hh:=ak (And.intro iC gI);clear iC gI;replace HD:=ak (HD.out.call hc hb2 hk);clear hc hb2 hk))
  (try simp only[Act.put,List.setIfInBounds_toArray,List.set_cons_zero,List.set_cons_succ])
  go_cut [3] (fun v3 dP=>∃ (L:List aN),Aside0 (1<=L.length/\L.length<=8)/\Aside0 (kX w0 w dP g x (b+96) (fun _=>True) v3 L (.slice A5 Q.length c5) Q))
  case first=>
   go_wp2_with fail
   go_loopg [3,8] h.toNat (fun n v3 v8 dP=>∃ (L:List aN) (k:Int),v8=.int .i64 k/\Aside0 (0<=k/\k<=3/\(n:Int)=k/\1<=L.length/\L.length+k<=8)/\Aside0 (kX w0 w dP g x (b+72+8*(3 - k)) (fun _=>True) v3 L (.slice A5 Q.length c5) Q))
   case atStart=>exact⟨L,h,rfl,⟨by have h1:=Hh.out;have h2:=HN.out;refine⟨?_,?_,?_,?_,?_⟩ <;> omega⟩,⟨HD.out.mono (by have h1:=Hh.out;omega)⟩⟩
   case round=>
    clear HD HN;obtain⟨L,k,rfl,HR,HD⟩:=hrel;have k0:0<=k:=HR.out.1;have k3:k<=3:=HR.out.2.1;have m1:2<=m:=Hm.out.1;by_cases hk:0<k
    .
     have qk:decide (0<k)=true:=decide_eq_true hk
     go_upto_block 3 with fail
     clear qk;(try simp only[Act.put,List.setIfInBounds_toArray,List.set_cons_zero,List.set_cons_succ])
     go_cut [3] (fun v3 dP=>∃ (L:List aN),Aside0 (1<=L.length/\L.length+k<=9)/\Aside0 (kX w0 w dP g x (b+80+8*(3 - k)) (fun _=>True) v3 L (.slice A5 Q.length c5) Q))
     case first=>
      go_upto_region 16 with (first|((with_reducible refine bZ (f:=81) rfl ?_);refine bY (some 72) Try.func81 #[.pointer (some ⟨g,0,none⟩),.int .i64 m] ?_;refine(wW hx HD.out.cur HD.out.hB (by omega) m (by omega)).mono ?_;rintro e wd ⟨i,rfl,iC,gI,hc,hb2,hk⟩;refine⟨_,rfl,?_⟩;have Hi:=ak (And.intro iC gI);clear iC gI;replace HD:=ak (HD.out.call hc hb2 hk);clear hc hb2 hk)|((with_reducible refine bZ (f:=81) rfl ?_);refine bY (some 75) Try.func81 #[.pointer (some ⟨g,0,none⟩),.int .i64 m] ?_;refine(wW hx HD.out.cur HD.out.hB (by omega) m (by omega)).mono ?_;rintro e we ⟨j,rfl,iC,gI,hc,hb2,hk⟩;refine⟨_,rfl,?_⟩;have Hj:=ak (And.intro iC gI);clear iC gI;replace HD:=ak (HD.out.call hc hb2 hk);clear hc hb2 hk))
      have hb:=iq (Below.refl we.heap.size we);replace HD:=ak (HD.out.below hb);clear hb;have p0:0<=j:=Hj.out.1
      have q0:j<(Q.length:Int):=by have h1:=Hj.out.2;have h2:=HQ.out;omega
      have p1:0<=i:=Hi.out.1
      have q1:i<(Q.length:Int):=by have h1:=Hi.out.2;have h2:=HQ.out;omega
      obtain⟨ad,e0,y0,y1,y2⟩:=qat (Kd.aT HD.out.r5).2.2 j p0 q0;obtain⟨ad2,e1,y3,y4,y5⟩:=qat (Kd.aT HD.out.r5).2.2 i p1 q1;cases e0
      obtain rfl:ad=ad2:=by injection e1
      clear e1;replace p0:=eq_true p0;replace q0:=eq_true q0;replace p1:=eq_true p1;replace q1:=eq_true q1;refine oM (n:=11) (S:=fun w'=>w'.cell? (ad.add ((j).toNat*3))=some (.int .i64 (nX Q j).f0)/\w'.cell? ⟨(ad.add ((j).toNat*3)).block,(ad.add ((j).toNat*3)).off+1,none⟩=some (.int .i64 (nX Q j).f1)/\w'.cell? ⟨(ad.add ((j).toNat*3)).block,(ad.add ((j).toNat*3)).off+2,none⟩=some (.int .i64 (nX Q j).f2)/\w'.cell? (ad.add ((i).toNat*3))=some (.int .i64 (nX Q i).f0)/\w'.cell? ⟨(ad.add ((i).toNat*3)).block,(ad.add ((i).toNat*3)).off+1,none⟩=some (.int .i64 (nX Q i).f1)/\w'.cell? ⟨(ad.add ((i).toNat*3)).block,(ad.add ((i).toNat*3)).off+2,none⟩=some (.int .i64 (nX Q i).f2)) (ds:=[10]) #[fF,fF,fF,fF,fF,fF,fF,fF,fF,fF,fF] (by kernel_rfl) rfl rfl ⟨y0,y1,y2,y3,y4,y5⟩ (fun hHeld=>?_);refine pW qrr qri (fun aA dZ=>?_);generalize we.drew=wf at HD y0 y1 y2 y3 y4 y5 hHeld ⊢;refine aQ aA 0 (some 76) #[tT,fF,fF,fF,fF,fF,fF,fF,fF,fF,fF] ?_;refine aQ aA 1 (some 77) #[tT,tT,fF,fF,fF,fF,fF,fF,fF,fF,fF] ?_;refine aQ aA 2 (some 78) #[tT,tT,tT,fF,fF,fF,fF,fF,fF,fF,fF] ?_;refine aQ aA 4 (some 80) #[tT,tT,tT,fF,tT,fF,fF,fF,fF,fF,fF] ?_;refine aQ aA 5 (some 81) #[tT,tT,tT,fF,tT,tT,fF,fF,fF,fF,fF] ?_;refine aQ aA 6 (some 82) #[tT,tT,tT,fF,tT,tT,tT,fF,fF,fF,fF] ?_;refine fP aA dZ hHeld 3 (some 79) #[tT,tT,tT,tT,tT,tT,tT,fF,fF,fF,fF] ?_;refine fP aA dZ hHeld 7 (some 83) #[tT,tT,tT,tT,tT,tT,tT,tT,fF,fF,fF] ?_;refine VU (σ:=Nat×Int×Int×Int) 1 #[tT,tT,tT,tT,tT,tT,tT,tT,tT,tT,fF] (fun s_=>[(84,.agg #[.int .i64 s_.2.1,.int .i64 s_.2.2.1,.int .i64 s_.2.2.2]),(11,.pointer (some ⟨s_.1,0,none⟩))]) (fun s_ w'=>(w'.cell? (ad.add ((j).toNat*3))=some (.int .i64 (nX Q j).f0)/\w'.cell? ⟨(ad.add ((j).toNat*3)).block,(ad.add ((j).toNat*3)).off+1,none⟩=some (.int .i64 (nX Q j).f1)/\w'.cell? ⟨(ad.add ((j).toNat*3)).block,(ad.add ((j).toNat*3)).off+2,none⟩=some (.int .i64 (nX Q j).f2)/\w'.cell? (ad.add ((i).toNat*3))=some (.int .i64 (nX Q i).f0)/\w'.cell? ⟨(ad.add ((i).toNat*3)).block,(ad.add ((i).toNat*3)).off+1,none⟩=some (.int .i64 (nX Q i).f1)/\w'.cell? ⟨(ad.add ((i).toNat*3)).block,(ad.add ((i).toNat*3)).off+2,none⟩=some (.int .i64 (nX Q i).f2))/\kX w0 w w' g x (b+76+8*(3 - k)) (fun k_=>k_≠s_.1) u3 L (.slice (some ad) Q.length c5) Q/\w'.heap[s_.1]? = some (.cells #[.int .i64 0,.int .i64 0,.int .i64 0] 118 (0,0))/\w.heap.size<=s_.1) ?_ ?_;rotate_left
      .
       intro zy;refine Sj (i:=8) (j:=9) (Ni:=some 84) (Nj:=some 11) #[tT,tT,tT,tT,tT,tT,tT,tT,tT,fF,fF] #[tT,tT,tT,tT,tT,tT,tT,tT,fF,tT,fF] rfl rfl rfl rfl (Sl aA.out (by kernel_rfl)) (by decide) (by decide) (fun K hK=>?_) (fun K hK=>?_)
       .
        skip;refine kV Try.func110 #[.agg #[.int .i64 (nX Q j).f0,.int .i64 (nX Q j).f1,.int .i64 (nX Q j).f2],.agg #[.int .i64 (nX Q i).f0,.int .i64 (nX Q i).f1,.int .i64 (nX Q i).f2],.int .i64 (-1)] ?_;refine(qd7 _ _ _ _ _ _ _ _).mono ?_;rintro e wh ⟨z0,z1,z2,rfl,hb⟩;refine⟨_,rfl,?_⟩;have xW:=pJ hb (hHeld.1);have xX:=pJ hb (hHeld.2.1);have xY:=pJ hb (hHeld.2.2.1);have EJ:=pJ hb (hHeld.2.2.2.1);have EK:=pJ hb (hHeld.2.2.2.2.1);have EL:=pJ hb (hHeld.2.2.2.2.2);replace HD:=ak (HD.out.below hb);clear hb;refine hK.out _ _ ⟨xW,xX,xY,EJ,EK,EL⟩ (fun hHeld=>?_);clear hK K xW xX xY EJ EK EL;refine jw ?_;refine lu (i:=9) (N:=some 11) #[tT,tT,tT,tT,tT,tT,tT,tT,tT,tT,fF] rfl rfl (jg aA.out (by kernel_rfl)) (by decide) (fun K hK=>?_);refine Ce ?hg (N:=11) ?hd (cs:=#[.int .i64 0,.int .i64 0,.int .i64 0]) (t:=118) ?hr ?_;(case hd=>rfl);(case hg=>rfl);(case hr=>first|(go_simp;done)|(go_simp;rfl));intro q11 hg wi hbox hb;have xW:=pJ hb (hHeld.1);have xX:=pJ hb (hHeld.2.1);have xY:=pJ hb (hHeld.2.2.1);have EJ:=pJ hb (hHeld.2.2.2.1);have EK:=pJ hb (hHeld.2.2.2.2.1);have EL:=pJ hb (hHeld.2.2.2.2.2)
        have Td:w.heap.size<=q11:=by rw[hg];exact HD.out.size
        have HD:=ak ((HD.out.apart q11 (Nat.le_of_eq hg.symm)).below hb);have mD:=ak hbox;clear hb hbox hg;refine hK.out _ _ ⟨xW,xX,xY,EJ,EK,EL⟩ (fun hHeld=>?_);clear hK K xW xX xY EJ EK EL;refine jw ?_;exact CV (by simp only[zQ,Act.put,List.setIfInBounds_toArray,List.set_cons_zero,List.set_cons_succ]) (zy (q11,z0,z1,z2) _ ⟨hHeld,HD.out.mono (by omega),mD.out,Td⟩)
       .
        skip;refine Ce ?hg (N:=11) ?hd (cs:=#[.int .i64 0,.int .i64 0,.int .i64 0]) (t:=118) ?hr ?_;(case hd=>rfl);(case hg=>rfl);(case hr=>first|(go_simp;done)|(go_simp;rfl));intro q11 hg wh hbox hb;have xW:=pJ hb (hHeld.1);have xX:=pJ hb (hHeld.2.1);have xY:=pJ hb (hHeld.2.2.1);have EJ:=pJ hb (hHeld.2.2.2.1);have EK:=pJ hb (hHeld.2.2.2.2.1);have EL:=pJ hb (hHeld.2.2.2.2.2)
        have Td:w.heap.size<=q11:=by rw[hg];exact HD.out.size
        have HD:=ak ((HD.out.apart q11 (Nat.le_of_eq hg.symm)).below hb);have mD:=ak hbox;clear hb hbox hg;refine hK.out _ _ ⟨xW,xX,xY,EJ,EK,EL⟩ (fun hHeld=>?_);clear hK K xW xX xY EJ EK EL;refine jw ?_;refine lu (i:=8) (N:=some 84) #[tT,tT,tT,tT,tT,tT,tT,tT,tT,tT,fF] rfl rfl (jg aA.out (by kernel_rfl)) (by decide) (fun K hK=>?_);refine kV Try.func110 #[.agg #[.int .i64 (nX Q j).f0,.int .i64 (nX Q j).f1,.int .i64 (nX Q j).f2],.agg #[.int .i64 (nX Q i).f0,.int .i64 (nX Q i).f1,.int .i64 (nX Q i).f2],.int .i64 (-1)] ?_;refine(qd7 _ _ _ _ _ _ _ _).mono ?_;rintro e wi ⟨z0,z1,z2,rfl,hb⟩;refine⟨_,rfl,?_⟩;have xW:=pJ hb (hHeld.1);have xX:=pJ hb (hHeld.2.1);have xY:=pJ hb (hHeld.2.2.1);have EJ:=pJ hb (hHeld.2.2.2.1);have EK:=pJ hb (hHeld.2.2.2.2.1);have EL:=pJ hb (hHeld.2.2.2.2.2);replace mD:=ak (aI mD.out hb);replace HD:=ak (HD.out.below hb);clear hb;refine hK.out _ _ ⟨xW,xX,xY,EJ,EK,EL⟩ (fun hHeld=>?_);clear hK K xW xX xY EJ EK EL;refine jw ?_;exact CV (by simp only[zQ,Act.put,List.setIfInBounds_toArray,List.set_cons_zero,List.set_cons_succ]) (zy (q11,z0,z1,z2) _ ⟨hHeld,HD.out.mono (by omega),mD.out,Td⟩)
      rintro⟨q11,z0,z1,z2⟩ wk ⟨IU,iC,gI,pG⟩;(try dsimp only at iC gI pG);have HD:=ak iC;have mD:=ak gI;have Td:=ak pG;clear iC gI pG IU hHeld y0 y1 y2 y3 y4 y5;refine nb_ ?_;refine u_ (i:=10) (N:=none) #[tT,tT,tT,tT,tT,tT,tT,tT,tT,tT,tT] rfl rfl (jg aA.out (by kernel_rfl)) (by decide) (fun K hK=>?_);obtain⟨bP,bQ,hcz2⟩:=He mD.out;obtain⟨cZ,hfz1,dh⟩:=Hf mD.out;refine vH (w1:=?_) (by rfl) rfl ?_ ?_;rotate_left
      .
       go_simp;rfl
      refine hK.out _ _ ?_;clear hK K;refine pF (qH aA.out (by kernel_rfl)) ?_;clear bP cZ bQ hfz1 hcz2 dh;have m1:=ak (HD.out.qsy mD.out (by decide) Td.out (.int .i64 z0) (.int .i64 z1) (.int .i64 z2));have m2:=ak (p3_ mD.out (.int .i64 z0) (.int .i64 z1) (.int .i64 z2));clear HD mD aA dZ q0 q1 p0 p1;generalize (((wk.setCell ⟨q11,0,none⟩ (.int .i64 z0)).setCell ⟨q11,1,none⟩ (.int .i64 z1)).setCell ⟨q11,2,none⟩ (.int .i64 z2))=wl at m1 m2 ⊢;have HD:=m1;have mD:=m2;clear m1 m2;obtain⟨bP,bQ,hcz2⟩:=He mD.out;obtain⟨cZ,hfz1,dh⟩:=Hf mD.out
      go_upto_region 19 with (first|((with_reducible refine bZ (f:=113) rfl ?_);refine bY (some 90) Try.func113 #[.int .i64 z0,.int .i64 z1,.int .i64 0] ?_;refine(qm1 z0 z1 0 _).mono ?_;rintro e wn ⟨u0,v0,rfl,hb⟩;refine⟨_,rfl,?_⟩;clear bP bQ hcz2 cZ hfz1 dh;replace mD:=ak (aI mD.out hb);replace HD:=ak (HD.out.below hb);clear hb;obtain⟨bP,bQ,hcz2⟩:=He mD.out;obtain⟨cZ,hfz1,dh⟩:=Hf mD.out)|((with_reducible refine bZ (f:=113) rfl ?_);refine bY (some 100) Try.func113 #[.int .i64 z0,.int .i64 z1,.int .i64 z2] ?_;refine(qm1 z0 z1 z2 _).mono ?_;rintro e wo ⟨u1,v1,rfl,hb⟩;refine⟨_,rfl,?_⟩;clear bP bQ hcz2 cZ hfz1 dh;replace mD:=ak (aI mD.out hb);replace HD:=ak (HD.out.below hb);clear hb;obtain⟨bP,bQ,hcz2⟩:=He mD.out;obtain⟨cZ,hfz1,dh⟩:=Hf mD.out))
      by_cases hij:i=j
      .
       have n0:(i==j)=true:=beq_iff_eq.mpr hij;clear hij;go_wp2_with fail;go_meet
       case rel=>exact⟨L,⟨by have h1:=HR.out;refine⟨?_,?_⟩ <;> omega⟩,⟨HD.out.loose.mono (by omega)⟩⟩
      have n0:(i==j)=false:=beq_eq_false_iff_ne.mpr hij;clear hij
      go_upto_if 111 with (go_at_call 101;refine(inE (wrap64 (u1+3)) 4 500 _).mono ?_;rintro e wp ⟨o,rfl,hb⟩;clear bP bQ hcz2 cZ hfz1 dh;replace mD:=ak (aI mD.out hb);replace HD:=ak (HD.out.below hb);clear hb;obtain⟨bP,bQ,hcz2⟩:=He mD.out;obtain⟨cZ,hfz1,dh⟩:=Hf mD.out)
      clear n0
      cases o with
      | false=>
       go_wp2_with fail;go_meet
       case rel=>exact⟨L,⟨by have h1:=HR.out;refine⟨?_,?_⟩ <;> omega⟩,⟨HD.out.loose.mono (by omega)⟩⟩
      | true=>
       go_wp2_with (first|((with_reducible refine bZ (f:=114) rfl ?_);refine bY (some 117) Try.func114 #[.int .i64 z0,.int .i64 z1] ?_;refine(qqs z0 z1 _).mono ?_;rintro e wq ⟨u2,v2,rfl,hb⟩;refine⟨_,rfl,?_⟩;clear bP bQ hcz2 cZ hfz1 dh;replace mD:=ak (aI mD.out hb);replace HD:=ak (HD.out.below hb);clear hb;obtain⟨bP,bQ,hcz2⟩:=He mD.out;obtain⟨cZ,hfz1,dh⟩:=Hf mD.out)|((with_reducible refine bZ (f:=115) rfl ?_);refine bY (some 124) Try.func115 #[.int .i64 u0,.int .i64 z2] ?_;refine(qBf u0 z2 _).mono ?_;rintro e wr ⟨D5,v3_,rfl,hb⟩;refine⟨_,rfl,?_⟩;clear bP bQ hcz2 cZ hfz1 dh;replace mD:=ak (aI mD.out hb);replace HD:=ak (HD.out.below hb);clear hb;obtain⟨bP,bQ,hcz2⟩:=He mD.out;obtain⟨cZ,hfz1,dh⟩:=Hf mD.out)|((with_reducible refine bZ (f:=81) rfl ?_);refine bY (some 132) Try.func81 #[.pointer (some ⟨g,0,none⟩),.int .i64 4] ?_;refine(wW hx HD.out.cur HD.out.hB (by omega) 4 (by decide)).mono ?_;rintro e ws ⟨c,rfl,iC,gI,hc,hb2,hk⟩;refine⟨_,rfl,?_⟩;have Hc:=ak (And.intro iC gI);clear iC gI;replace mD:=ak (HD.out.cur.blk hk mD.out (by decide));replace HD:=ak (HD.out.call hc hb2 hk);clear hc hb2 hk)|((with_reducible refine bZ (f:=81) rfl ?_);refine bY (some 136) Try.func81 #[.pointer (some ⟨g,0,none⟩),.int .i64 3] ?_;refine(wW hx HD.out.cur HD.out.hB (by omega) 3 (by decide)).mono ?_;rintro e wt ⟨d,rfl,iC,gI,hc,hb2,hk⟩;refine⟨_,rfl,?_⟩;have Hd:=ak (And.intro iC gI);clear iC gI;replace mD:=ak (HD.out.cur.blk hk mD.out (by decide));replace HD:=ak (HD.out.call hc hb2 hk);clear hc hb2 hk)|((with_reducible refine EC (b:=.append) (xs:=#[.tmp 127,.tmp 141]) rfl ?_);at_builtin;refine Kd.J3 k37 w.heap.size rfl (.tmp 127) (.tmp 141) 28 37 (.agg #[.int .i64 0,.int .i64 0,.int .i64 0,.int .i64 0,.int .i64 0]) 40 rfl Try.underlying28 info37 rfl (by decide) (by omega) u3 L (⟨i,j,wrap64 (u1+c),Int.tmod (wrap64 (u2+d)) 360,D5⟩:aN) [.int .i64 i,.int .i64 j,.int .i64 (wrap64 (u1+c)),.int .i64 (Int.tmod (wrap64 (u2+d)) 360),.int .i64 D5] (fun k=>k≠q11) (fun _=>False) rfl rfl ?aP (fun _ hk=>hk.elim) ?aF ?aO (Below.refl _ _) ?aS ?aL ?_;(case aP=>exact OD _ _ _ (⟨i,j,wrap64 (u1+c),Int.tmod (wrap64 (u2+d)) 360,D5⟩:aN));(case aF=>exact(fun k_ hk=>Kd.UG (g:=q11) mD.out k_ hk));(case aO=>exact HD.out.r3);(case aS=>exact HD.out.size);(case aL=>have h1:=HR.out;omega);intro v3 wt ho hb hg hat;clear mD;replace HD:=ak (HD.out.qd8 ho hb hg);clear ho hb hg hat))
       go_meet
       case rel=>exact⟨_,⟨by have h1:=HR.out;simp only[List.length_append,List.length_cons,List.length_nil];refine⟨?_,?_⟩ <;> omega⟩,⟨HD.out.loose.mono (by omega)⟩⟩
     case rest=>
      clear HD;obtain⟨L2,HR2,HD⟩:=hcut;go_wp2_with fail
      cases gk with
      | zero=>have h1:=HR.out;omega
      | succ gk=>
       go_roundg gk
       case measure=>omega
       case rel=>exact⟨L2,k - 1,(by first|rfl|rw[kW (by omega) (by omega)]),⟨by have h1:=HR.out;have h2:=HR2.out;refine⟨?_,?_,?_,?_,?_⟩ <;> omega⟩,⟨HD.out.mono (by omega)⟩⟩
    .
     have qk:decide (0<k)=false:=decide_eq_false hk;go_wp2_with fail;go_meet
     case rel=>exact⟨L,⟨by have h1:=HR.out;refine⟨?_,?_⟩ <;> omega⟩,⟨HD.out.mono (by omega)⟩⟩
  case rest=>
   clear HD HN;obtain⟨L,HN,HD⟩:=hcut;obtain⟨A3,c3,e3⟩:=Kd.bM HD.out.r3;subst e3
   go_upto_block 4 with (first|((with_reducible refine bZ (f:=81) rfl ?_);refine bY (some 144) Try.func81 #[.pointer (some ⟨g,0,none⟩),.int .i64 24] ?_;refine(wW hx HD.out.cur HD.out.hB (by omega) 24 (by decide)).mono ?_;rintro e wc ⟨u,rfl,iC,gI,hc,hb2,hk⟩;refine⟨_,rfl,?_⟩;have Hu:=ak (And.intro iC gI);clear iC gI;replace HD:=ak (HD.out.call hc hb2 hk);clear hc hb2 hk))
   (try simp only[Act.put,List.setIfInBounds_toArray,List.set_cons_zero,List.set_cons_succ])
   go_cut [3] (fun v3 dP=>∃ (L:List aN),Aside0 (L.length<=9)/\Aside0 (jH w0 w dP g x (b+120))/\Aside0 (Kd.R k37 37 dP w.heap.size (fun _=>True) v3 L))
   case first=>
    by_cases k0:u=0
    .
     subst k0;have ql:(0<L.length)=True:=eq_true (by have h1:=HN.out;omega);have YQ:(0<(L.length:Int))=True:=eq_true (by have h1:=HN.out;omega)
     go_wp2_with (first|((with_reducible refine bZ (f:=104) rfl ?_);refine bY (some 149) Try.func104 #[.pointer (some ⟨g,0,none⟩)] ?_;refine(qdn hx HD.out.cur HD.out.hB (by omega)).mono ?_;rintro e wd ⟨r0,r1,r2,r3,r4,rfl,hd⟩;refine⟨_,rfl,?_⟩;replace HD:=ak (HD.out.call hd.cur hd.hB hd.hK);clear hd;obtain⟨q3,hA,x0,x1,x2,x3,x4,f0,f1,f2,f3,f4,hs⟩:=qA9 HD.out.d HD.out.r3 (by have h1:=HN.out;omega);subst hA)|((with_reducible refine mW (t:=37) (p:=150) rfl ?_);refine ny (t:=37) (p:=150) (v:=?vs_) (w1:=(((((wd.setCell ⟨q3,0,none⟩ (.int .i64 r0)).setCell ⟨q3,1,none⟩ (.int .i64 r1)).setCell ⟨q3,2,none⟩ (.int .i64 r2)).setCell ⟨q3,3,none⟩ (.int .i64 r3)).setCell ⟨q3,4,none⟩ (.int .i64 r4))) ?hg ?ho ?hn ?hr ?_;(case ho=>rfl);(case hg=>rfl);(case hn=>rfl);(case hr=>first|(go_simp;done)|(go_simp;rfl));intro we hw;clear x0 x1 x2 x3 x4 f0 f1 f2 f3 f4;have m_:=hs r0 r1 r2 r3 r4;rw[<- hw] at m_;have HS:=ak m_;clear hs m_ hw))
     go_meet
     case rel=>
      obtain⟨⟨L',hl,hr⟩,hd⟩:=HS.out;exact⟨L',⟨by have h1:=HN.out;omega⟩,⟨hd.mono (by omega)⟩,⟨hr⟩⟩
    have n0:(u==0)=false:=beq_eq_false_iff_ne.mpr k0;clear k0;by_cases k1:u=1
    .
     subst k1
     go_wp2_with (first|((with_reducible refine bZ (f:=104) rfl ?_);refine bY (some 155) Try.func104 #[.pointer (some ⟨g,0,none⟩)] ?_;refine(qdn hx HD.out.cur HD.out.hB (by omega)).mono ?_;rintro e wd ⟨r0,r1,r2,r3,r4,rfl,hd⟩;refine⟨_,rfl,?_⟩;replace HD:=ak (HD.out.call hd.cur hd.hB hd.hK);clear hd)|((with_reducible refine EC (b:=.append) (xs:=#[.tmp 153,.tmp 156]) rfl ?_);at_builtin;refine Kd.J3 k37 w.heap.size rfl (.tmp 153) (.tmp 156) 28 37 (.agg #[.int .i64 0,.int .i64 0,.int .i64 0,.int .i64 0,.int .i64 0]) 40 rfl Try.underlying28 info37 rfl (by decide) (by omega) (.slice A3 L.length c3) L (⟨r0,r1,r2,r3,r4⟩:aN) [.int .i64 r0,.int .i64 r1,.int .i64 r2,.int .i64 r3,.int .i64 r4] (fun _=>True) (fun _=>False) rfl rfl ?aP (fun _ hk=>hk.elim) ?aF ?aO (Below.refl _ _) ?aS ?aL ?_;(case aP=>exact OD _ _ _ (⟨r0,r1,r2,r3,r4⟩:aN));(case aF=>exact(fun _ _=>trivial));(case aO=>exact HD.out.r3);(case aS=>exact HD.out.size);(case aL=>have:=HN.out;omega);intro v3 we ho hb hg hat;replace HD:=ak (HD.out.qd8 ho hb hg);clear ho hb hg hat))
     go_meet
     case rel=>exact⟨_,⟨by have h1:=HN.out;simp only[List.length_append,List.length_cons,List.length_nil];omega⟩,⟨HD.out.d.mono (by omega)⟩,⟨HD.out.r3⟩⟩
    have n1:(u==1)=false:=beq_eq_false_iff_ne.mpr k1;clear k1;by_cases k2:u=2
    .
     subst k2;obtain⟨i0_,hi_,_,qmj,_⟩:=info_parts info37;have hroom:=(Kd.aT HD.out.r3).2.1;have qtj:=qrt (P:=Try.prog) 28 37 .i64 Try.underlying28 hi_ 5 qmj A3 L.length c3 1 (by omega) (by have h1:=HN.out;omega)
     obtain⟨A1,hA1⟩:∃ A1,A1=(if c3=(1:Int).toNat then A3 else (A3:Option Addr).map (·.add ((1:Int).toNat*5))):=⟨_,rfl⟩
     obtain⟨c1,hc1⟩:∃ c1,c1=c3 - (1:Int).toNat:=⟨_,rfl⟩
     obtain⟨Y,hY⟩:∃ Y,Y=L.drop (1:Int).toNat:=⟨_,rfl⟩
     have hy:Y.length=L.length - (1:Int).toNat:=by rw[hY,List.length_drop]
     have HY:=ak (show Y.length<=8 from by have h1:=HN.out;omega);have ql:(1<=(L.length:Int))=True:=eq_true (by have h1:=HN.out;omega);rw[<- hy,<- hA1,<- hc1] at qtj;have HA:=ak (And.intro hA1 (And.intro hY hroom));clear hA1 hc1 hY hy hi_ qmj hroom
     go_wp2_with (first|((with_reducible refine bT (N:=160) rfl ?_);refine Kd.ru k37 _ 37 ?hg (N:=160) ?hd (xs:=([]:List aN)) (inner:=[]) (ok:=fun _=>True) (iJ:=fun _=>True) ?hr ?hp (fun _ hk=>hk) trivial (Below.refl _ _) (Nat.le_refl _) (by simp) ?_;(case hd=>rfl);(case hg=>rfl);(case hr=>first|(go_simp;done)|(go_simp;rfl));(case hp=>exact(bW.none _ _));intro vE wd ho hb iP je;clear iP je;have LE:=ak (Kd.fB ho HD.out.size);replace HD:=ak (HD.out.below hb);have HR:=ak (show Kd.C k37 _ A1 Y.length Y from by obtain⟨h1,h2,h3⟩:=HA.out;rw[h1,h2];exact Kd.qoq (m:=(1:Int).toNat) (c:=c3) (Kd.aT HD.out.r3).2.2 (by have h1:=HN.out;omega) h3);clear ho hb)|((with_reducible refine EC (b:=.append) (xs:=#[.tmp 160,.tmp 162]) rfl ?_);at_builtin;refine Kd.qam k37 w.heap.size rfl (.tmp 160) (.tmp 162) 28 37 (.agg #[.int .i64 0,.int .i64 0,.int .i64 0,.int .i64 0,.int .i64 0]) 40 rfl Try.underlying28 info37 rfl (by decide) (by omega) vE ([]:List aN) Y _ _ _ (fun _=>True) (fun _=>False) rfl rfl ?aO ?aR (fun _ _ h=>h) (fun _ h=>h.elim) ?aF (Below.refl _ _) ?aS ?aL ?_;(case aR=>exact HR.out);(case aF=>exact(fun _ _=>trivial));(case aO=>exact LE.out);(case aS=>exact HD.out.size);(case aL=>have h1:=HY.out;simp only[List.length_nil];omega);intro v3 we ho hb hg hat;replace HD:=ak (HD.out.d.grow (Kd.Qa LE.out) (HD.out.cur.own_ne LE.out) hb hg);have HR:=ak ho;clear ho hb hg hat))
     go_meet
     case rel=>exact⟨_,⟨by have h1:=HY.out;simp only[List.nil_append];omega⟩,⟨HD.out.mono (by omega)⟩,HR⟩
    have n2:(u==2)=false:=beq_eq_false_iff_ne.mpr k2;clear k2;go_wp2_with fail;go_meet
    case rel=>exact⟨L,⟨by have h1:=HN.out;omega⟩,⟨HD.out.d.mono (by omega)⟩,⟨HD.out.r3⟩⟩
   case rest=>
    clear HD HN;obtain⟨L,HN,HD,HR⟩:=hcut;obtain⟨A3,c3,e3⟩:=Kd.bM HR.out;subst e3;go_wp2_with fail;go_ret;exact⟨A3,c3,L,fO,HN.out,HD.out,HR.out⟩
end Go.Proofs.Ythmjimboajmhmaa.Pr.Pure

namespace Go.Proofs.Ythmjimboajmhmaa.Pr
open Go.RowKit Go.Proofs.YthmjimboajmhmaaW.PrintWords Go.Proofs.YthmjimboajmhmaaW.PrintLast Go.Proofs.YthmjimboajmhmaaW.PrintMore
attribute [local go_sem] zF zJ zI zM zH zL zG zK   -- for this text's walks alone
set_option linter.unusedVariables false
set_option linter.unusedSimpArgs false
def Si.l0:Nat->Int->Int->List (aN)->List Bool->List Bool->Int->Int->Option (Int×Bool)
 | 0,_,_,_,_,_,_,_=>none
 | k+1,x4,x5,GH,PE,qe6,qe7,qe8=>if x5<(GH.length:Int) then (if 0<=x5 then (if 0<=((aj GH x5).f0) then (if ((aj GH x5).f0)<(PE.length:Int) then (if fE false PE ((aj GH x5).f0)=true then (if 0<=((aj GH x5).f1) then (if ((aj GH x5).f1)<(PE.length:Int) then (if fE false PE ((aj GH x5).f1)=true then (Si.l0 k (wrap64 (x4+((aj GH x5).f2))) (wrap64 (x5+1)) GH PE qe6 qe7 qe8) else (Si.l0 k x4 (wrap64 (x5+1)) GH PE qe6 qe7 qe8)) else (none)) else (none)) else (Si.l0 k x4 (wrap64 (x5+1)) GH PE qe6 qe7 qe8)) else (none)) else (none)) else (none)) else (some (x4,true))
end Go.Proofs.Ythmjimboajmhmaa.Pr

namespace Go.Proofs.YthmjimboajmhmaaW.Opens
open Go.ChangeShapes Go.WideShapes Go.RowKit
open Go.Deep (open_slice choose_lt)
open Go.Proofs.YthmjimboajmhmaaW.PrintWords
set_option linter.unusedVariables false
set_option linter.unusedSimpArgs false
def Opn {α:Type}(P:Program)(t:TypeId)(d:Kd α)(wf:α->Prop):Prop:=
 P.cellsOf t=d.sz/\∀ (H:Type) (enc:TypeId×Value->H) (W:World) (fuel:Nat) (cs:List Value) (x:DataW H×List MemPlace),
  DataW.trod enc P W 0 (fun _=>true) true fuel t cs=some x->(∀ n∈x.1.weights P t,n<=reachBytes)->∃ y,d.K W y cs/\wf y
theorem Opn.int {P:Program}{t:TypeId}{k:IntKind}(hc:P.cellsOf t=1)(ht:P.underlying t=some (.int k)):Opn P t (Kd.int k) (fun n=>(Lit.int k n).wf=true):=
 ⟨hc,fun H enc W fuel cs x h _=>by
  obtain⟨m,rfl,rfl,hw⟩:=DataW.trod_int ht h
  exact⟨m,rfl,hw⟩⟩
theorem Opn.bool {P:Program}{t:TypeId}(hc:P.cellsOf t=1)(ht:P.underlying t=some .bool):Opn P t Kd.bool (fun _=>True):=
 ⟨hc,fun H enc W fuel cs x h _=>by
  obtain⟨m,rfl,rfl⟩:=DataW.trod_bool ht h
  exact⟨m,rfl,trivial⟩⟩
theorem weightsAll_mem {H:Type}{P:Program}{e:TypeId}:∀ {l:List (DataW H)}{d:DataW H},d∈l->∀ n∈d.weights P e,n∈DataW.weightsAll P e l
 | _::r,d,h,n,hn=>by
  simp only[DataW.weightsAll,List.mem_append]
  rcases List.mem_cons.1 h with rfl|h
  .
   exact .inl hn
  .
   exact .inr (weightsAll_mem h n hn)
theorem Opn.slice {α:Type}(z:α) {P:Program}{t e:TypeId}{d:Kd α}{wf:α->Prop}{B:Nat}(hc:P.cellsOf t=1)(ht:P.underlying t=some (.slice e))(hB:P.bytesOf e=B)(h:Opn P e d wf) :
  Opn P t (Kd.slice e d) (fun xs=>xs.length<=maxLen/\xs.length*B<=140737488351232/\∀ y∈xs,wf y):=
 ⟨hc,fun H enc W fuel cs x hf hw=>by
  haveI:Inhabited α:=⟨z⟩
  rcases open_slice ht hf with ⟨rfl,rfl⟩|⟨a,len,cap,m,n,D,Pl,rfl,_,hl,hm,hmm,rfl,each⟩
  .
   exact⟨[],⟨none,0,rfl,Nat.le_refl _,rfl,by simp,fun h=>absurd h (Nat.lt_irrefl 0)⟩,by simp,by simp,by simp⟩
  .
   rw[if_pos rfl] at hmm;subst hmm;have hw0:∀ n∈DataW.weights P t (DataW.slice (H:=H) ((List.range len).map D) ((List.range (m - len)).map fun j=>D (len+j))),n<=reachBytes:=hw
   have hww:∀ i,i<len->∀ n∈(D i).weights P e,n<=reachBytes:=by
    intro i hi n hn;refine hw0 n ?_;simp only[DataW.weights,ht,List.mem_cons,List.mem_append];exact .inr (.inl (weightsAll_mem (List.mem_map.2 ⟨i,List.mem_range.2 hi,rfl⟩) n hn))
   have hB2:len*B<=140737488351232:=by
    have:=hw0 ((len+(m - len))*B) (by simp[DataW.weights,ht,hB]);refine Nat.le_trans (Nat.mul_le_mul_right _ (by omega)) this
   have hx:∀ i,i<len->∃ y,∃ c:List Value,c.length=d.sz/\d.K W y c/\wf y/\∀ j u,c[j]? = some u->W.cell? (a.add (i*d.sz+j))=some u:=by
    intro i hi;obtain⟨cs',h1,h2⟩:=each i (by omega);obtain⟨y,hy,hwy⟩:=h.2 H enc W n cs' _ h2 (hww i hi);obtain⟨_,hlen,hcell⟩:=World.cells?_some h1;rw[h.1] at hlen hcell;refine⟨y,cs',hlen,hy,hwy,fun j u hu=>?_⟩
    have hj:j<d.sz:=by
     have:=(List.getElem?_eq_some_iff.1 hu).1;omega
    have:=hcell j hj;rw[add_add] at this;exact this.trans hu
   obtain⟨f,hf'⟩:=choose_lt hx;refine⟨(List.range len).map f,⟨some a,m,by simp,by simpa using hl,by simp,by simp only[maxLen] at hm;simp;omega,fun _=>⟨a,rfl,fun j p hj=>?_⟩⟩,?_,?_,?_⟩
   .
    rw[List.getElem?_map] at hj
    have hj':j<len:=by
     by_cases hjl:j<len
     .
      exact hjl
     .
      rw[List.getElem?_eq_none (by simp;omega)] at hj;cases hj
    rw[List.getElem?_range hj'] at hj;obtain rfl:=Option.some.inj hj;obtain⟨c,h1,h2,_,h3⟩:=hf' j hj';exact⟨c,h1,h2,h3⟩
   .
    simp;omega
   .
    simpa using hB2
   .
    intro y hy;obtain⟨i,hi,rfl⟩:=List.mem_map.1 hy;obtain⟨c,_,_,h2,_⟩:=hf' i (List.mem_range.1 hi)
    exact h2⟩
def SS {α:Type}(P:Program)(fs:List Field)(off:Nat)(d:Kd α)(wf:α->Prop):Prop:=
 ∀ (H:Type) (enc:TypeId×Value->H) (W:World) (fuel:Nat) (cs:List Value) (xs:List (DataW H×List MemPlace)),
  xs.length=fs.length->(∀ (i:Nat) (f:Field),fs[i]? = some f->DataW.trod enc P W 0 (fun _=>true) true fuel f.type ((cs.drop f.offset).take (P.cellsOf f.type))=xs[i]?) ->
  (∀ n∈DataW.weightsEach P (fs.map (·.type)) (xs.map (·.1)),n<=reachBytes)->∃ y,d.K W y ((cs.drop off).take d.sz)/\wf y
theorem SS.one {α:Type}{P:Program}{f:Field}{off:Nat}{d:Kd α}{wf:α->Prop}(ho:f.offset=off)(h:Opn P f.type d wf):SS P [f] off d wf:=by
 intro H enc W fuel cs xs hl hx hw
 match xs,hl with
 | [x],_=>
  have h0:=hx 0 f rfl;rw[ho,h.1] at h0;exact h.2 H enc W fuel _ x h0 (fun n hn=>hw n (by simp only[List.map,DataW.weightsEach,List.mem_append];exact .inl hn))
theorem SS.cons {α β:Type}{P:Program}{f:Field}{fs:List Field}{off:Nat}{d:Kd α}{d':Kd β}{wf:α->Prop}{wf':β->Prop}(ho:f.offset=off)(h:Opn P f.type d wf)(h':SS P fs (off+d.sz) d' wf') :
  SS P (f::fs) off (Kd.pair d d') (fun x=>wf x.1/\wf' x.2):=by
 intro H enc W fuel cs xs hl hx hw
 match xs,hl with
 | x::xs,hl=>
  have h0:=hx 0 f rfl;rw[ho,h.1] at h0;have hw':∀ n∈x.1.weights P f.type ++ DataW.weightsEach P (fs.map (·.type)) (xs.map (·.1)),n<=reachBytes:=hw;obtain⟨y,hy,hwy⟩:=h.2 H enc W fuel _ x h0 (fun n hn=>hw' n (List.mem_append_left _ hn));obtain⟨y',hy',qyv⟩:=h' H enc W fuel cs xs (by simpa using hl) (fun i f' hf'=>hx (i+1) f' (by simpa using hf')) (fun n hn=>hw' n (List.mem_append_right _ hn));refine⟨(y,y'),⟨_,_,?_,hy,hy'⟩,hwy,qyv⟩
  show (cs.drop off).take (d.sz+d'.sz)=_
  rw[List.take_add,List.drop_drop]
theorem qAn {H:Type}{P:Program}{ts:List TypeId}{ds:List (DataW H)}{j:Nat}{t:TypeId}{d:DataW H}(h:(DataW.weightsEach P ts ds).all (· <= reachBytes)=true)(ht:ts[j]? = some t)(hd:ds[j]? = some d) :
  ∀ n∈d.weights P t,n<=reachBytes:=fun n hn=>of_decide_eq_true (List.all_eq_true.1 h n (DataW.weights_mem_each ht hd n hn))
theorem qAm {α:Type}{H:Type}{enc:TypeId×Value->H}{P:Program}{W:World}{r:Reach}{b0:Nat}{t e:TypeId}{d:Kd α}{wf:List α->Prop}{v:Value}{D:DataW H}{ps:List MemPlace}
  (ht:P.underlying t=some (.slice e)) (ho:Opn P t (Kd.slice e d) wf) (hv:Value.okWide P W r b0 t v) (hd:DataW.Trod enc P W 0 (fun _=>true) true t v D ps) (hw:∀ n∈D.weights P t,n<=reachBytes) :
  ∃ (A:Option Addr) (l:List α) (c:Nat),v=.slice A l.length c/\l.length<=c/\d.C W A l.length l/\wf l:=by
 obtain⟨A,len,cap,rfl⟩:=okWide_slice ht hv;obtain⟨fuel,hf⟩:=hd;obtain⟨l,⟨A',c,he,hl,hC⟩,hwl⟩:=ho.2 H enc W fuel _ _ hf hw;have he':[Value.slice A len cap]=[.slice A' l.length c]:=he;simp only[List.cons.injEq,Value.slice.injEq,and_true] at he';obtain⟨rfl,rfl,rfl⟩:=he';exact⟨_,l,_,rfl,hl,hC,hwl⟩
end Go.Proofs.YthmjimboajmhmaaW.Opens

namespace Go.Proofs.Ythmjimboajmhmaa.Pr.Pure
open Go.RowKit Go.Proofs.YthmjimboajmhmaaW.PrintWords Go.Proofs.YthmjimboajmhmaaW.PrintLast Go.Proofs.YthmjimboajmhmaaW.PrintMore
set_option linter.unusedVariables false
set_option linter.unusedSimpArgs false
theorem RS (l:List aN)(v d:List Bool)(p t:Int)(hl:l.length<=1000000)(hv:v.length<=1000000)(hd:d.length<=1000000):Ic.f l v d p t=some (l,v,d,p,t):=by
 unfold Ic.f;simp only[Option.bind_some,List.nil_append,List.length_nil,Nat.zero_add];rw[if_pos (by omega),if_pos (by omega),if_pos (by omega)]
theorem qa1 (l:List aN)(v d:List Bool)(p t:Int)(hl:l.length<=1000000)(hv:v.length<=1000000)(hd:d.length<=1000000):jQ.f l v d p t=some (l,v,d,p,t):=by
 unfold jQ.f DV.f CX.f;rw[if_pos (by omega),if_pos (by omega),if_pos (by omega)];rfl
theorem qbm {l:List aN}{v d:List Bool}{p t a b tp c s m:Int}(h:a=p\/b=p)(h0:0<=wrap64 (wrap64 (a+b) - p))(h1:wrap64 (wrap64 (a+b) - p)<(v.length:Int)) :
  BH.f l v d p t a b tp c s m=some (l,v.set (wrap64 (wrap64 (a+b) - p)).toNat true,d,wrap64 (wrap64 (a+b) - p),wrap64 (t - m),true):=by
 unfold BH.f;by_cases q:a=p
 .
  rw[if_pos q,if_pos h0,if_pos h1]
 .
  rw[if_neg q,if_pos (h.resolve_left q),if_pos h0,if_pos h1]
theorem qht {l:List aN}{v d:List Bool}{p t a b tp c s m:Int}(ha:a≠p)(hb:b≠p):BH.f l v d p t a b tp c s m=some (l,v,d,p,t,false):=by
 unfold BH.f;rw[if_neg ha,if_neg hb]
def Steps (K:Nat)(l:List aN)(v d:List Bool)(p t k i a b tp c s:Int):Prop:=
 ∃ L V D P T q,sJ.f K l v d p t k i a b tp c s=some (L,V,D,P,T,q)/\sD.f K l v d p t k i a b tp c s=some (if q=true then (L,V,D,P,T,true) else ([],[],[],0,0,false))/\L.length<=13/\V.length=8/\D.length=8/\(q=true->sZ L V D P T)
theorem qfk (k i:Int)(h2:k≠2)(h3:k=3->i=0):¬ ((k≠2/\¬ ((0:Int)=0/\(0:Int)=0/\(0:Int)=0/\(0:Int)=0/\(0:Int)=0))\/((k=2\/k=3)/\i≠0)):=by
 rintro(⟨_,z⟩|⟨z|z,zi⟩)
 .
  exact z ⟨rfl,rfl,rfl,rfl,rfl⟩
 .
  exact h2 z
 .
  exact zi (h3 z)
theorem Y_ {K:Nat}{l L:List aN}{v d V D:List Bool}{p t k i a b tp c s P T:Int}{q:Bool}(hl:l.length<=1000000)(hv:v.length<=1000000)(hd:d.length<=1000000)(hw:rJ l v d p t k i a b tp c s=some (L,V,D,P,T,true))(hq:g_.f K L V D P T=some q) :
  sD.f K l v d p t k i a b tp c s=some (if q=true then (L,V,D,P,T,true) else ([],[],[],0,0,false)):=by
 unfold sD.f;rw[qa1 l v d p t hl hv hd];simp only[Option.bind_some];rw[hw];simp only[Option.bind_some,if_true];rw[hq];simp only[Option.bind_some]
 cases q <;> rfl
theorem Wv {K:Nat}{l L:List aN}{v d V D:List Bool}{p t k i a b tp c s P T:Int}(hl:l.length<=1000000)(hv:v.length<=1000000)(hd:d.length<=1000000)(hw:rJ l v d p t k i a b tp c s=some (L,V,D,P,T,false)) :
  sD.f K l v d p t k i a b tp c s=some ([],[],[],0,0,false):=by
 unfold sD.f;rw[qa1 l v d p t hl hv hd];simp only[Option.bind_some];rw[hw];simp only[Option.bind_some,Bool.false_eq_true,if_false]
theorem qzt {l:List aN}{v d:List Bool}{p t:Int}(g:sZ l v d p t) {i:Int}(h0:0<=i)(h1:i<(l.length:Int)) {K:Nat}(hK:450<=K):Steps K l v d p t 1 i 0 0 0 0 0:=by
 have hlen:=g.len;have hv:=g.hv;have hd:=g.hd;obtain⟨p0,p1⟩:=g.hp;obtain⟨⟨a0,a1⟩,⟨b0,b1⟩,_,⟨c0,c1⟩,_,_⟩:=g.H8 _ (V9 h0 h1)
 have hin:0<=i/\i<=wrap64 ((l.length:Int) - 1):=⟨h0,by unfold wrap64;omega⟩
 have hs0:sJ.f K l v d p t 1 i 0 0 0 0 0=(BH.f l v d p t (aj l i).f0 (aj l i).f1 (aj l i).f2 (aj l i).f3 (aj l i).f4 (aj l i).f2).bind fun r=>if r.2.2.2.2.2=true then (iY.f K r.1 r.2.1 r.2.2.1 r.2.2.2.1 r.2.2.2.2.1).bind fun x=>some (r.1,r.2.1,r.2.2.1,r.2.2.2.1,r.2.2.2.2.1,x) else some (r.1,r.2.1,r.2.2.1,r.2.2.2.1,r.2.2.2.2.1,false):=by
  unfold sJ.f;rw[RS l v d p t (by omega) (by omega) (by omega)];simp only[Option.bind_some];rw[if_pos trivial,if_pos h0,if_pos h1]
 have hw0:rJ l v d p t 1 i 0 0 0 0 0=if (aj l i).f0≠p/\(aj l i).f1≠p then some (l,v,d,p,t,false) else if 0<=wrap64 (wrap64 ((aj l i).f0+(aj l i).f1) - p)/\wrap64 (wrap64 ((aj l i).f0+(aj l i).f1) - p)<(v.length:Int) then some (l,v.set (wrap64 (wrap64 ((aj l i).f0+(aj l i).f1) - p)).toNat true,d,wrap64 (wrap64 ((aj l i).f0+(aj l i).f1) - p),wrap64 (t - wrap64 (1*(aj l i).f2)),true) else none:=by
  unfold rJ;rw[if_neg (qfk 1 i (by decide) (fun z=>absurd z (by decide))),if_pos rfl,if_pos hin]
 generalize aj l i=y at *
 by_cases hn:y.f0≠p/\y.f1≠p
 .
  rw[if_pos hn] at hw0;rw[qht hn.1 hn.2] at hs0;simp only[Option.bind_some,Bool.false_eq_true,if_false] at hs0;exact⟨_,_,_,_,_,false,hs0,Wv (by omega) (by omega) (by omega) hw0,by omega,hv,hd,fun z=>by cases z⟩
 .
  have hor:y.f0=p\/y.f1=p:=by
   by_cases z:y.f0=p
   .
    exact .inl z
   .
    exact .inr (Classical.byContradiction fun z2=>hn ⟨z,z2⟩)
  have e0:0<=wrap64 (wrap64 (y.f0+y.f1) - p):=by unfold wrap64;omega
  have e1:wrap64 (wrap64 (y.f0+y.f1) - p)<(v.length:Int):=by unfold wrap64;omega
  have et:wrap64 (1*y.f2)=y.f2:=by unfold wrap64;omega
  rw[if_neg hn,if_pos ⟨e0,e1⟩,et] at hw0;rw[qbm hor e0 e1] at hs0;obtain⟨b,g1,g2,g3⟩:=Dz l (by omega) (v.set (wrap64 (wrap64 (y.f0+y.f1) - p)).toNat true) d (wrap64 (wrap64 (y.f0+y.f1) - p)) (wrap64 (t - y.f2)) (k:=K) (by omega);simp only[Option.bind_some,if_true] at hs0;rw[g1,Option.bind_some] at hs0;exact⟨_,_,_,_,_,b,hs0,Y_ (by omega) (by omega) (by omega) hw0 g2,by omega,by rw[List.length_set];exact hv,hd,fun z=>g3.1 z⟩
theorem qzu {l:List aN}{v d:List Bool}{p t:Int}(g:sZ l v d p t) {a b tp c s:Int}(hx:JW ⟨a,b,tp,c,s⟩) {K:Nat}(hK:450<=K):Steps K l v d p t 2 0 a b tp c s:=by
 have hlen:=g.len;have hv:=g.hv;have hd:=g.hd;obtain⟨p0,p1⟩:=g.hp
 have hle:CZ.f a b tp c s=some true:=by
  obtain⟨r,h1,h2⟩:=qdp ⟨a,b,tp,c,s⟩;rw[h2.2 hx] at h1;exact h1
 have hli:zC.f a b tp c s=some true:=by rw[qdo];exact hle
 obtain⟨⟨a0,a1⟩,⟨b0,b1⟩,hne,⟨c0,c1⟩,_,_⟩:=hx;simp only at a0 a1 b0 b1 c0 c1 hne
 have c0':¬ (((2:Int)≠2/\¬ (a=0/\b=0/\tp=0/\c=0/\s=0))\/(((2:Int)=2\/(2:Int)=3)/\(0:Int)≠0)):=by
  rintro(⟨z,_⟩|⟨_,z⟩)
  .
   exact z rfl
  .
   exact z rfl
 have hs0:sJ.f K l v d p t 2 0 a b tp c s=(BH.f (l ++ [⟨a,b,tp,c,s⟩]) v d p t a b tp c s (wrap64 (3*tp))).bind fun r=>if a=p then (iY.f K r.1 r.2.1 r.2.2.1 r.2.2.2.1 r.2.2.2.2.1).bind fun x=>some (r.1,r.2.1,r.2.2.1,r.2.2.2.1,r.2.2.2.2.1,x) else some (r.1,r.2.1,r.2.2.1,r.2.2.2.1,r.2.2.2.2.1,false):=by
  unfold sJ.f;rw[RS l v d p t (by omega) (by omega) (by omega)];simp only[Option.bind_some];rw[if_neg (by decide),if_pos trivial,if_pos (by omega)]
 have hw0:rJ l v d p t 2 0 a b tp c s=if a=p then (if l.length<1000000/\0<=wrap64 (wrap64 (a+b) - p)/\wrap64 (wrap64 (a+b) - p)<(v.length:Int) then some (l ++ [⟨a,b,tp,c,s⟩],v.set (wrap64 (wrap64 (a+b) - p)).toNat true,d,wrap64 (wrap64 (a+b) - p),wrap64 (t - wrap64 (3*tp)),true) else none) else some (l,v,d,p,t,false):=by
  unfold rJ;rw[if_neg c0',if_neg (by decide),if_pos rfl,hli,Option.bind_some];by_cases q:a=p
  .
   rw[if_pos ⟨rfl,q⟩,if_pos q]
  .
   rw[if_neg (fun z=>q z.2),if_neg q]
 have qNv:(l ++ [(⟨a,b,tp,c,s⟩:aN)]).length=l.length+1:=by rw[List.length_append];rfl
 by_cases hap:a=p
 .
  have e0:0<=wrap64 (wrap64 (a+b) - p):=by unfold wrap64;omega
  have e1:wrap64 (wrap64 (a+b) - p)<(v.length:Int):=by unfold wrap64;omega
  rw[if_pos hap,if_pos ⟨by omega,e0,e1⟩] at hw0;rw[qbm (.inl hap) e0 e1] at hs0;obtain⟨q,g1,g2,g3⟩:=Dz (l ++ [⟨a,b,tp,c,s⟩]) (by omega) (v.set (wrap64 (wrap64 (a+b) - p)).toNat true) d (wrap64 (wrap64 (a+b) - p)) (wrap64 (t - wrap64 (3*tp))) (k:=K) (by omega);simp only[Option.bind_some,if_pos hap] at hs0;rw[g1,Option.bind_some] at hs0;exact⟨_,_,_,_,_,q,hs0,Y_ (by omega) (by omega) (by omega) hw0 g2,by omega,by rw[List.length_set];exact hv,hd,fun z=>g3.1 z⟩
 .
  rw[if_neg hap] at hw0;have hi:=Wv (K:=K) (by omega) (by omega) (by omega) hw0;by_cases hbp:b=p
  .
   have e0:0<=wrap64 (wrap64 (a+b) - p):=by unfold wrap64;omega
   have e1:wrap64 (wrap64 (a+b) - p)<(v.length:Int):=by unfold wrap64;omega
   rw[qbm (.inr hbp) e0 e1] at hs0;simp only[Option.bind_some,if_neg hap] at hs0;exact⟨_,_,_,_,_,false,hs0,hi,by omega,by rw[List.length_set];exact hv,hd,fun z=>by cases z⟩
  .
   rw[qht hap hbp] at hs0;simp only[Option.bind_some,if_neg hap] at hs0;exact⟨_,_,_,_,_,false,hs0,hi,by omega,hv,hd,fun z=>by cases z⟩
theorem qzv {l:List aN}{v d:List Bool}{p t:Int}(g:sZ l v d p t) {K:Nat}(hK:450<=K):Steps K l v d p t 3 0 0 0 0 0 0:=by
 have hlen:=g.len;have hv:=g.hv;have hd:=g.hd;obtain⟨p0,p1⟩:=g.hp
 have hpd:p<(d.length:Int):=by omega
 have hs0:sJ.f K l v d p t 3 0 0 0 0 0 0=if fE false d p=true then some (l,v,d.set p.toNat true,p,t,false) else (iY.f K l v (d.set p.toNat true) p t).bind fun x=>some (l,v,d.set p.toNat true,p,t,x):=by
  unfold sJ.f;rw[RS l v d p t (by omega) (by omega) (by omega)];simp only[Option.bind_some];rw[if_neg (by decide),if_neg (by decide),if_pos trivial,if_pos p0,if_pos hpd,if_pos hpd]
 have hw0:rJ l v d p t 3 0 0 0 0 0 0=if fE false d p=true then some (l,v,d,p,t,false) else some (l,v,d.set p.toNat true,p,t,true):=by
  unfold rJ;rw[if_neg (qfk 3 0 (by decide) (fun _=>rfl)),if_neg (by decide),if_neg (by decide),if_pos rfl,if_pos ⟨p0,hpd⟩]
 by_cases q:fE false d p=true
 .
  rw[if_pos q] at hs0 hw0;exact⟨_,_,_,_,_,false,hs0,Wv (by omega) (by omega) (by omega) hw0,by omega,hv,by rw[List.length_set];exact hd,fun z=>by cases z⟩
 .
  rw[if_neg q] at hs0 hw0;obtain⟨b,g1,g2,g3⟩:=Dz l (by omega) v (d.set p.toNat true) p t (k:=K) (by omega);rw[g1,Option.bind_some] at hs0;exact⟨_,_,_,_,_,b,hs0,Y_ (by omega) (by omega) (by omega) hw0 g2,by omega,hv,by rw[List.length_set];exact hd,fun z=>g3.1 z⟩
theorem qzw {l:List aN}{v d:List Bool}{p t:Int}(g:sZ l v d p t) {i:Int}(h1:1<=i)(h2:i<=1000) {K:Nat}(hK:450<=K):Steps K l v d p t 4 i 0 0 0 0 0:=by
 have hlen:=g.len;have hv:=g.hv;have hd:=g.hd
 have hs0:sJ.f K l v d p t 4 i 0 0 0 0 0=if p=0 then (iY.f K l v d p (wrap64 (t+i))).bind fun x=>some (l,v,d,p,wrap64 (t+i),x) else some (l,v,d,p,wrap64 (t+i),false):=by
  unfold sJ.f;rw[RS l v d p t (by omega) (by omega) (by omega)];simp only[Option.bind_some];rw[if_neg (by decide),if_neg (by decide),if_neg (by decide)]
 have hw0:rJ l v d p t 4 i 0 0 0 0 0=if p=0/\1<=i/\i<=1000 then some (l,v,d,p,wrap64 (t+i),true) else some (l,v,d,p,t,false):=by
  unfold rJ;rw[if_neg (qfk 4 i (by decide) (fun z=>absurd z (by decide))),if_neg (by decide),if_neg (by decide),if_neg (by decide),if_pos rfl]
 by_cases q:p=0
 .
  rw[if_pos q] at hs0;rw[if_pos ⟨q,h1,h2⟩] at hw0;obtain⟨b,g1,g2,g3⟩:=Dz l (by omega) v d p (wrap64 (t+i)) (k:=K) (by omega);rw[g1,Option.bind_some] at hs0;exact⟨_,_,_,_,_,b,hs0,Y_ (by omega) (by omega) (by omega) hw0 g2,by omega,hv,hd,fun z=>g3.1 z⟩
 .
  rw[if_neg q] at hs0;rw[if_neg (fun z=>q z.1)] at hw0;exact⟨_,_,_,_,_,false,hs0,Wv (by omega) (by omega) (by omega) hw0,by omega,hv,hd,fun z=>by cases z⟩
end Go.Proofs.Ythmjimboajmhmaa.Pr.Pure

namespace Go.Proofs.Ythmjimboajmhmaa.Pr.Pure
open Go.RowKit Go.Proofs.YthmjimboajmhmaaW.PrintWords Go.Proofs.YthmjimboajmhmaaW.PrintLast Go.Proofs.YthmjimboajmhmaaW.PrintMore Go.Proofs.YthmjimboajmhmaaW.Opens
set_option linter.unusedVariables false
set_option linter.unusedSimpArgs false
theorem qDe (a b tp c s:Int):(a==0&&(b==0&&(tp==0&&(c==0&&(s==0)))))=decide (a=0/\b=0/\tp=0/\c=0/\s=0):=by
 rw[Bool.eq_iff_iff]
 simp
theorem Wx (K:Nat) {l:List aN}{v d:List Bool}{p t:Int}(g:sZ l v d p t)(k i a b tp c s:Int) :
  ∃ q,CY.f l v d p t k i a b tp c s=some q/\(q=true->(k=1/\0<=i/\i<(l.length:Int)/\a=0/\b=0/\tp=0/\c=0/\s=0)\/(k=2/\i=0/\JW ⟨a,b,tp,c,s⟩)\/(k=3/\i=0/\a=0/\b=0/\tp=0/\c=0/\s=0)\/(k=4/\1<=i/\i<=1000/\a=0/\b=0/\tp=0/\c=0/\s=0))/\(q=false->sD.f K l v d p t k i a b tp c s=some ([],[],[],0,0,false)):=by
 have hlen:=g.len;have hv:=g.hv;have hd:=g.hd
 have no:rJ l v d p t k i a b tp c s=some (l,v,d,p,t,false)->sD.f K l v d p t k i a b tp c s=some ([],[],[],0,0,false):=fun h=>Wv (by omega) (by omega) (by omega) h
 have hw:wrap64 ((l.length:Int) - 1)=(l.length:Int) - 1:=by unfold wrap64;omega
 unfold CY.f;simp only[qDe];by_cases k1:k=1
 .
  subst k1;rw[if_pos rfl,Rq,Option.bind_some,hw];by_cases hi:0<=i/\i<=(l.length:Int) - 1
  .
   rw[if_pos (decide_eq_true hi)];refine⟨_,rfl,fun h=>?_,fun h=>no ?_⟩
   .
    obtain⟨z1,z2,z3,z4,z5⟩:=of_decide_eq_true h;exact .inl ⟨rfl,hi.1,by omega,z1,z2,z3,z4,z5⟩
   .
    unfold rJ;rw[if_pos (.inl ⟨by decide,of_decide_eq_false h⟩)]
  .
   rw[if_neg (by rw[decide_eq_false hi];decide)];refine⟨_,rfl,(fun h=>by cases h),fun _=>no ?_⟩;unfold rJ;by_cases z:((1:Int)≠2/\¬ (a=0/\b=0/\tp=0/\c=0/\s=0))\/(((1:Int)=2\/(1:Int)=3)/\i≠0)
   .
    rw[if_pos z]
   .
    rw[if_neg z,if_pos rfl,hw,if_neg hi]
 rw[if_neg k1];by_cases k2:k=2
 .
  subst k2;rw[if_pos rfl];by_cases hi:i=0
  .
   subst hi;obtain⟨r,h1,h2⟩:=qdp ⟨a,b,tp,c,s⟩;simp only at h1;rw[if_pos rfl,h1,Option.bind_some];refine⟨_,rfl,fun h=>.inr (.inl ⟨rfl,rfl,h2.1 h⟩),fun h=>no ?_⟩;unfold rJ;rw[if_neg (by rintro(⟨z,_⟩|⟨_,z⟩);exact z rfl;exact z rfl),if_neg (by decide),if_pos rfl,qdo,h1,Option.bind_some,if_neg (fun z=>by rw[h] at z;cases z.1)]
  .
   rw[if_neg hi];refine⟨_,rfl,(fun h=>by cases h),fun _=>no ?_⟩;unfold rJ;rw[if_pos (.inr ⟨.inl rfl,hi⟩)]
 rw[if_neg k2];by_cases k3:k=3
 .
  subst k3;rw[if_pos rfl];by_cases hi:i=0
  .
   rw[if_pos hi];refine⟨_,rfl,fun h=>?_,fun h=>no ?_⟩
   .
    obtain⟨z1,z2,z3,z4,z5⟩:=of_decide_eq_true h;exact .inr (.inr (.inl ⟨rfl,hi,z1,z2,z3,z4,z5⟩))
   .
    unfold rJ;rw[if_pos (.inl ⟨by decide,of_decide_eq_false h⟩)]
  .
   rw[if_neg hi];refine⟨_,rfl,(fun h=>by cases h),fun _=>no ?_⟩;unfold rJ;rw[if_pos (.inr ⟨.inr rfl,hi⟩)]
 rw[if_neg k3];by_cases k4:k=4
 .
  subst k4;rw[if_pos rfl,Rq,Option.bind_some];by_cases hi:1<=i/\i<=1000
  .
   rw[if_pos (decide_eq_true hi)];refine⟨_,rfl,fun h=>?_,fun h=>no ?_⟩
   .
    obtain⟨z1,z2,z3,z4,z5⟩:=of_decide_eq_true h;exact .inr (.inr (.inr ⟨rfl,hi.1,hi.2,z1,z2,z3,z4,z5⟩))
   .
    unfold rJ;rw[if_pos (.inl ⟨by decide,of_decide_eq_false h⟩)]
  .
   rw[if_neg (by rw[decide_eq_false hi];decide)];refine⟨_,rfl,(fun h=>by cases h),fun _=>no ?_⟩;unfold rJ;by_cases z:((4:Int)≠2/\¬ (a=0/\b=0/\tp=0/\c=0/\s=0))\/(((4:Int)=2\/(4:Int)=3)/\i≠0)
   .
    rw[if_pos z]
   .
    rw[if_neg z,if_neg (by decide),if_neg (by decide),if_neg (by decide),if_pos rfl,if_neg (fun y=>hi y.2)]
 rw[if_neg k4];refine⟨_,rfl,(fun h=>by cases h),fun _=>no ?_⟩;unfold rJ;by_cases z:(k≠2/\¬ (a=0/\b=0/\tp=0/\c=0/\s=0))\/((k=2\/k=3)/\i≠0)
 .
  rw[if_pos z]
 .
  rw[if_neg z,if_neg k1,if_neg k2,if_neg k3,if_neg k4]
theorem Za {l:List aN}{v d:List Bool}{p t:Int}(g:sZ l v d p t) {k i a b tp c s:Int}(h:(k=1/\0<=i/\i<(l.length:Int)/\a=0/\b=0/\tp=0/\c=0/\s=0)\/(k=2/\i=0/\JW ⟨a,b,tp,c,s⟩)\/(k=3/\i=0/\a=0/\b=0/\tp=0/\c=0/\s=0)\/(k=4/\1<=i/\i<=1000/\a=0/\b=0/\tp=0/\c=0/\s=0)) {K:Nat}(hK:450<=K):Steps K l v d p t k i a b tp c s:=by
 rcases h with ⟨rfl,h0,h1,rfl,rfl,rfl,rfl,rfl⟩|⟨rfl,rfl,h⟩|⟨rfl,rfl,rfl,rfl,rfl,rfl,rfl⟩|⟨rfl,h0,h1,rfl,rfl,rfl,rfl,rfl⟩
 .
  exact qzt g h0 h1 hK
 .
  exact qzu g h hK
 .
  exact qzv g hK
 .
  exact qzw g h0 h1 hK
end Go.Proofs.Ythmjimboajmhmaa.Pr.Pure

