/-
What is proved: parts of the law FnExplorers: what the functions that it reaches compute, and the plain law.
Conditions: those of each theorem.
-/
import Derived.Test.YthmjimboajmhmaaCFnExplorers1
set_option maxHeartbeats 8000000
set_option maxRecDepth 100000
namespace Go.Proofs.Ythmjimboajmhmaa.Pr
open Go.RowKit Go.Proofs.YthmjimboajmhmaaW.PrintWords Go.Proofs.YthmjimboajmhmaaW.PrintLast Go.Proofs.YthmjimboajmhmaaW.PrintMore
attribute [local go_sem] max2_int min2_int max_two min_two max_three min_three max_four min_four   -- for this text's walks alone
set_option linter.unusedVariables false
set_option linter.unusedSimpArgs false
def walk_f (L:List S37) (V D:List Bool) (p t k i a b tp c s:Int):Option (List S37 × List Bool × List Bool × Int × Int × Bool):=
 if (k ≠ 2 /\ ¬ (a = 0 /\ b = 0 /\ tp = 0 /\ c = 0 /\ s = 0)) \/ ((k = 2 \/ k = 3) /\ i ≠ 0) then some (L,V,D,p,t,false)
 else if k = 1 then
  (if 0 <= i /\ i <= wrap64 ((L.length:Int) - 1) then
   (if (rd_T37 L i).f0 ≠ p /\ (rd_T37 L i).f1 ≠ p then some (L,V,D,p,t,false)
   else if 0 <= wrap64 (wrap64 ((rd_T37 L i).f0 + (rd_T37 L i).f1) - p) /\ wrap64 (wrap64 ((rd_T37 L i).f0 + (rd_T37 L i).f1) - p) < (V.length:Int) then
    some (L,V.set (wrap64 (wrap64 ((rd_T37 L i).f0 + (rd_T37 L i).f1) - p)).toNat true,D,wrap64 (wrap64 ((rd_T37 L i).f0 + (rd_T37 L i).f1) - p),wrap64 (t - wrap64 (1 * (rd_T37 L i).f2)),true)
   else none)
  else some (L,V,D,p,t,false))
 else if k = 2 then
  (impl_IsLeg.f a b tp c s).bind fun ok=>if ok = true /\ a = p then
   (if L.length < 1000000 /\ 0 <= wrap64 (wrap64 (a + b) - p) /\ wrap64 (wrap64 (a + b) - p) < (V.length:Int) then
    some (L ++ [⟨a,b,tp,c,s⟩],V.set (wrap64 (wrap64 (a + b) - p)).toNat true,D,wrap64 (wrap64 (a + b) - p),wrap64 (t - wrap64 (3 * tp)),true)
   else none)
  else some (L,V,D,p,t,false)
 else if k = 3 then
  (if 0 <= p /\ p < (D.length:Int) then (if rdOf false D p = true then some (L,V,D,p,t,false) else some (L,V,D.set p.toNat true,p,t,true)) else none)
 else if k = 4 then
  (if p = 0 /\ 1 <= i /\ i <= 1000 then some (L,V,D,p,wrap64 (t + i),true) else some (L,V,D,p,t,false))
 else some (L,V,D,p,t,false)
def walk6.T:Bool × List (List Nat × List Nat):=(true,[([],[]),([0],[0]),([],[]),([2],[2]),([3],[3]),([4],[4]),([5],[5]),([6],[6]),([1,7],[1,7]),([8],[8]),([9,8],[9]),([10],[10]),([11,10],[10,11]),([12,10],[10,12]),([13,10],[10,13]),([10],[10]),([15,10],[10,15]),([14,16,10],[10,14,16]),([17,10],[10,17]),([18,10],[10,18]),([10],[10]),([20,10],[10,20]),([21,10],[10,21]),([22,10],[10,22]),([19,23,10],[10,19,23]),([24,10,10],[10,24]),([25],[25]),([26,25],[25,26]),([27,25],[25,27]),([28,25],[25,28]),([25],[25]),([30,25],[25,30]),([29,31,25],[25,29,31]),([32,25],[25,32]),([33,25],[25,33]),([25],[25]),([35,25],[25,35]),([36,25],[25,36]),([37,25],[25,37]),([34,38,25],[25,34,38]),([25,39,10],[10,25,39]),([10,40],[10,40])])
def walk6.B:List Nat:=[0,1,0,4,12,28,60,124,255,511,1023,2047,4095,8191,16383,2047,34815,131071,262143,524287,2047,1050623,3147775,7342079,16777215,33554431,67108863,134217727,268435455,536870911,67108863,1140850687,4294967295,8589934591,17179869183,67108863,34426847231,103146323967,240585277439,549755813887,1099511627775,2199023255551]
theorem walk6.tab:rtab .any (opsOf Try.f105 6) = walk6.T:=by kernel_rfl
theorem walk6.bits:waitsOk walk6.T.2 walk6.B = true:=by kernel_rfl
abbrev walk6.mk0:Array Bool:=#[fF,fF,fF,fF,fF,fF,fF,fF,fF,fF,fF,fF,fF,fF,fF,fF,fF,fF,fF,fF,fF,fF,fF,fF,fF,fF,fF,fF,fF,fF,fF,fF,fF,fF,fF,fF,fF,fF,fF,fF,fF,fF]
abbrev walk6.mk1:Array Bool:=#[tT,fF,fF,fF,fF,fF,fF,fF,fF,fF,fF,fF,fF,fF,fF,fF,fF,fF,fF,fF,fF,fF,fF,fF,fF,fF,fF,fF,fF,fF,fF,fF,fF,fF,fF,fF,fF,fF,fF,fF,fF,fF]
abbrev walk6.mk2:Array Bool:=#[tT,fF,tT,fF,fF,fF,fF,fF,fF,fF,fF,fF,fF,fF,fF,fF,fF,fF,fF,fF,fF,fF,fF,fF,fF,fF,fF,fF,fF,fF,fF,fF,fF,fF,fF,fF,fF,fF,fF,fF,fF,fF]
abbrev walk6.mk3:Array Bool:=#[tT,fF,tT,tT,fF,fF,fF,fF,fF,fF,fF,fF,fF,fF,fF,fF,fF,fF,fF,fF,fF,fF,fF,fF,fF,fF,fF,fF,fF,fF,fF,fF,fF,fF,fF,fF,fF,fF,fF,fF,fF,fF]
abbrev walk6.mk4:Array Bool:=#[tT,fF,tT,tT,tT,fF,fF,fF,fF,fF,fF,fF,fF,fF,fF,fF,fF,fF,fF,fF,fF,fF,fF,fF,fF,fF,fF,fF,fF,fF,fF,fF,fF,fF,fF,fF,fF,fF,fF,fF,fF,fF]
abbrev walk6.mk5:Array Bool:=#[tT,tT,tT,tT,tT,fF,fF,fF,fF,fF,fF,fF,fF,fF,fF,fF,fF,fF,fF,fF,fF,fF,fF,fF,fF,fF,fF,fF,fF,fF,fF,fF,fF,fF,fF,fF,fF,fF,fF,fF,fF,fF]
abbrev walk6.mk6:Array Bool:=#[tT,tT,tT,tT,tT,tT,fF,fF,fF,fF,fF,fF,fF,fF,fF,fF,fF,fF,fF,fF,fF,fF,fF,fF,fF,fF,fF,fF,fF,fF,fF,fF,fF,fF,fF,fF,fF,fF,fF,fF,fF,fF]
abbrev walk6.mk7:Array Bool:=#[tT,tT,tT,tT,tT,tT,tT,fF,fF,fF,fF,fF,fF,fF,fF,fF,fF,fF,fF,fF,fF,fF,fF,fF,fF,fF,fF,fF,fF,fF,fF,fF,fF,fF,fF,fF,fF,fF,fF,fF,fF,fF]
abbrev walk6.mk8:Array Bool:=#[tT,tT,tT,tT,tT,tT,tT,tT,fF,fF,fF,fF,fF,fF,fF,fF,fF,fF,fF,fF,fF,fF,fF,fF,fF,fF,fF,fF,fF,fF,fF,fF,fF,fF,fF,fF,fF,fF,fF,fF,fF,fF]
abbrev walk6.mk9:Array Bool:=#[tT,tT,tT,tT,tT,tT,tT,tT,tT,fF,fF,fF,fF,fF,fF,fF,fF,fF,fF,fF,fF,fF,fF,fF,fF,fF,fF,fF,fF,fF,fF,fF,fF,fF,fF,fF,fF,fF,fF,fF,fF,fF]
abbrev walk6.mk10:Array Bool:=#[tT,tT,tT,tT,tT,tT,tT,tT,tT,tT,fF,fF,fF,fF,fF,fF,fF,fF,fF,fF,fF,fF,fF,fF,fF,fF,fF,fF,fF,fF,fF,fF,fF,fF,fF,fF,fF,fF,fF,fF,fF,fF]
abbrev walk6.mk11:Array Bool:=#[tT,tT,tT,tT,tT,tT,tT,tT,tT,tT,tT,fF,fF,fF,fF,fF,fF,fF,fF,fF,fF,fF,fF,fF,fF,fF,fF,fF,fF,fF,fF,fF,fF,fF,fF,fF,fF,fF,fF,fF,fF,fF]
abbrev walk6.mk12:Array Bool:=#[tT,tT,tT,tT,tT,tT,tT,tT,tT,tT,tT,tT,fF,fF,fF,fF,fF,fF,fF,fF,fF,fF,fF,fF,fF,fF,fF,fF,fF,fF,fF,fF,fF,fF,fF,fF,fF,fF,fF,fF,fF,fF]
abbrev walk6.mk13:Array Bool:=#[tT,tT,tT,tT,tT,tT,tT,tT,tT,tT,tT,tT,tT,fF,fF,fF,fF,fF,fF,fF,fF,fF,fF,fF,fF,fF,fF,fF,fF,fF,fF,fF,fF,fF,fF,fF,fF,fF,fF,fF,fF,fF]
abbrev walk6.mk14:Array Bool:=#[tT,tT,tT,tT,tT,tT,tT,tT,tT,tT,tT,tT,tT,tT,fF,fF,fF,fF,fF,fF,fF,fF,fF,fF,fF,fF,fF,fF,fF,fF,fF,fF,fF,fF,fF,fF,fF,fF,fF,fF,fF,fF]
abbrev walk6.mk15:Array Bool:=#[tT,tT,tT,tT,tT,tT,tT,tT,tT,tT,tT,tT,tT,tT,fF,tT,fF,fF,fF,fF,fF,fF,fF,fF,fF,fF,fF,fF,fF,fF,fF,fF,fF,fF,fF,fF,fF,fF,fF,fF,fF,fF]
abbrev walk6.mk16:Array Bool:=#[tT,tT,tT,tT,tT,tT,tT,tT,tT,tT,tT,tT,tT,tT,fF,tT,fF,fF,fF,fF,tT,fF,fF,fF,fF,fF,fF,fF,fF,fF,fF,fF,fF,fF,fF,fF,fF,fF,fF,fF,fF,fF]
abbrev walk6.mk17:Array Bool:=#[tT,tT,tT,tT,tT,tT,tT,tT,tT,tT,tT,tT,tT,tT,fF,tT,fF,fF,fF,fF,tT,tT,fF,fF,fF,fF,fF,fF,fF,fF,fF,fF,fF,fF,fF,fF,fF,fF,fF,fF,fF,fF]
abbrev walk6.mk18:Array Bool:=#[tT,tT,tT,tT,tT,tT,tT,tT,tT,tT,tT,tT,tT,tT,fF,tT,fF,fF,fF,fF,tT,tT,tT,fF,fF,fF,fF,fF,fF,fF,fF,fF,fF,fF,fF,fF,fF,fF,fF,fF,fF,fF]
abbrev walk6.mk19:Array Bool:=#[tT,tT,tT,tT,tT,tT,tT,tT,tT,tT,tT,tT,tT,tT,tT,tT,fF,fF,fF,fF,tT,tT,tT,fF,fF,fF,fF,fF,fF,fF,fF,fF,fF,fF,fF,fF,fF,fF,fF,fF,fF,fF]
abbrev walk6.mk20:Array Bool:=#[tT,tT,tT,tT,tT,tT,tT,tT,tT,tT,tT,tT,tT,tT,tT,tT,tT,fF,fF,fF,tT,tT,tT,fF,fF,fF,fF,fF,fF,fF,fF,fF,fF,fF,fF,fF,fF,fF,fF,fF,fF,fF]
abbrev walk6.mk21:Array Bool:=#[tT,tT,tT,tT,tT,tT,tT,tT,tT,tT,tT,tT,tT,tT,tT,tT,tT,tT,fF,fF,tT,tT,tT,fF,fF,fF,fF,fF,fF,fF,fF,fF,fF,fF,fF,fF,fF,fF,fF,fF,fF,fF]
abbrev walk6.mk22:Array Bool:=#[tT,tT,tT,tT,tT,tT,tT,tT,tT,tT,tT,tT,tT,tT,tT,tT,tT,tT,tT,fF,tT,tT,tT,fF,fF,fF,fF,fF,fF,fF,fF,fF,fF,fF,fF,fF,fF,fF,fF,fF,fF,fF]
abbrev walk6.mk23:Array Bool:=#[tT,tT,tT,tT,tT,tT,tT,tT,tT,tT,tT,tT,tT,tT,tT,tT,tT,tT,tT,tT,tT,tT,tT,fF,fF,fF,fF,fF,fF,fF,fF,fF,fF,fF,fF,fF,fF,fF,fF,fF,fF,fF]
abbrev walk6.mk24:Array Bool:=#[tT,tT,tT,tT,tT,tT,tT,tT,tT,tT,tT,tT,tT,tT,tT,tT,tT,tT,tT,tT,tT,tT,tT,tT,fF,fF,fF,fF,fF,fF,fF,fF,fF,fF,fF,fF,fF,fF,fF,fF,fF,fF]
abbrev walk6.mk25:Array Bool:=#[tT,tT,tT,tT,tT,tT,tT,tT,tT,tT,tT,tT,tT,tT,tT,tT,tT,tT,tT,tT,tT,tT,tT,tT,tT,fF,fF,fF,fF,fF,fF,fF,fF,fF,fF,fF,fF,fF,fF,fF,fF,fF]
abbrev walk6.mk26:Array Bool:=#[tT,tT,tT,tT,tT,tT,tT,tT,tT,tT,tT,tT,tT,tT,tT,tT,tT,tT,tT,tT,tT,tT,tT,tT,tT,tT,fF,fF,fF,fF,fF,fF,fF,fF,fF,fF,fF,fF,fF,fF,fF,fF]
abbrev walk6.mk27:Array Bool:=#[tT,tT,tT,tT,tT,tT,tT,tT,tT,tT,tT,tT,tT,tT,tT,tT,tT,tT,tT,tT,tT,tT,tT,tT,tT,tT,tT,fF,fF,fF,fF,fF,fF,fF,fF,fF,fF,fF,fF,fF,fF,fF]
abbrev walk6.mk28:Array Bool:=#[tT,tT,tT,tT,tT,tT,tT,tT,tT,tT,tT,tT,tT,tT,tT,tT,tT,tT,tT,tT,tT,tT,tT,tT,tT,tT,tT,tT,fF,fF,fF,fF,fF,fF,fF,fF,fF,fF,fF,fF,fF,fF]
abbrev walk6.mk29:Array Bool:=#[tT,tT,tT,tT,tT,tT,tT,tT,tT,tT,tT,tT,tT,tT,tT,tT,tT,tT,tT,tT,tT,tT,tT,tT,tT,tT,tT,tT,tT,fF,fF,fF,fF,fF,fF,fF,fF,fF,fF,fF,fF,fF]
abbrev walk6.mk30:Array Bool:=#[tT,tT,tT,tT,tT,tT,tT,tT,tT,tT,tT,tT,tT,tT,tT,tT,tT,tT,tT,tT,tT,tT,tT,tT,tT,tT,tT,tT,tT,fF,tT,fF,fF,fF,fF,fF,fF,fF,fF,fF,fF,fF]
abbrev walk6.mk31:Array Bool:=#[tT,tT,tT,tT,tT,tT,tT,tT,tT,tT,tT,tT,tT,tT,tT,tT,tT,tT,tT,tT,tT,tT,tT,tT,tT,tT,tT,tT,tT,fF,tT,fF,fF,fF,fF,tT,fF,fF,fF,fF,fF,fF]
abbrev walk6.mk32:Array Bool:=#[tT,tT,tT,tT,tT,tT,tT,tT,tT,tT,tT,tT,tT,tT,tT,tT,tT,tT,tT,tT,tT,tT,tT,tT,tT,tT,tT,tT,tT,fF,tT,fF,fF,fF,fF,tT,tT,fF,fF,fF,fF,fF]
abbrev walk6.mk33:Array Bool:=#[tT,tT,tT,tT,tT,tT,tT,tT,tT,tT,tT,tT,tT,tT,tT,tT,tT,tT,tT,tT,tT,tT,tT,tT,tT,tT,tT,tT,tT,fF,tT,fF,fF,fF,fF,tT,tT,tT,fF,fF,fF,fF]
abbrev walk6.mk34:Array Bool:=#[tT,tT,tT,tT,tT,tT,tT,tT,tT,tT,tT,tT,tT,tT,tT,tT,tT,tT,tT,tT,tT,tT,tT,tT,tT,tT,tT,tT,tT,tT,tT,fF,fF,fF,fF,tT,tT,tT,fF,fF,fF,fF]
abbrev walk6.mk35:Array Bool:=#[tT,tT,tT,tT,tT,tT,tT,tT,tT,tT,tT,tT,tT,tT,tT,tT,tT,tT,tT,tT,tT,tT,tT,tT,tT,tT,tT,tT,tT,tT,tT,tT,fF,fF,fF,tT,tT,tT,fF,fF,fF,fF]
abbrev walk6.mk36:Array Bool:=#[tT,tT,tT,tT,tT,tT,tT,tT,tT,tT,tT,tT,tT,tT,tT,tT,tT,tT,tT,tT,tT,tT,tT,tT,tT,tT,tT,tT,tT,tT,tT,tT,tT,fF,fF,tT,tT,tT,fF,fF,fF,fF]
abbrev walk6.mk37:Array Bool:=#[tT,tT,tT,tT,tT,tT,tT,tT,tT,tT,tT,tT,tT,tT,tT,tT,tT,tT,tT,tT,tT,tT,tT,tT,tT,tT,tT,tT,tT,tT,tT,tT,tT,tT,fF,tT,tT,tT,fF,fF,fF,fF]
abbrev walk6.mk38:Array Bool:=#[tT,tT,tT,tT,tT,tT,tT,tT,tT,tT,tT,tT,tT,tT,tT,tT,tT,tT,tT,tT,tT,tT,tT,tT,tT,tT,tT,tT,tT,tT,tT,tT,tT,tT,tT,tT,tT,tT,fF,fF,fF,fF]
abbrev walk6.mk39:Array Bool:=#[tT,tT,tT,tT,tT,tT,tT,tT,tT,tT,tT,tT,tT,tT,tT,tT,tT,tT,tT,tT,tT,tT,tT,tT,tT,tT,tT,tT,tT,tT,tT,tT,tT,tT,tT,tT,tT,tT,tT,fF,fF,fF]
abbrev walk6.mk40:Array Bool:=#[tT,tT,tT,tT,tT,tT,tT,tT,tT,tT,tT,tT,tT,tT,tT,tT,tT,tT,tT,tT,tT,tT,tT,tT,tT,tT,tT,tT,tT,tT,tT,tT,tT,tT,tT,tT,tT,tT,tT,tT,fF,fF]
abbrev walk6.mk41:Array Bool:=#[tT,tT,tT,tT,tT,tT,tT,tT,tT,tT,tT,tT,tT,tT,tT,tT,tT,tT,tT,tT,tT,tT,tT,tT,tT,tT,tT,tT,tT,tT,tT,tT,tT,tT,tT,tT,tT,tT,tT,tT,tT,fF]
abbrev walk6.mk42:Array Bool:=#[tT,tT,tT,tT,tT,tT,tT,tT,tT,tT,tT,tT,tT,tT,tT,tT,tT,tT,tT,tT,tT,tT,tT,tT,tT,tT,tT,tT,tT,tT,tT,tT,tT,tT,tT,tT,tT,tT,tT,tT,tT,tT]
def walk8.T:Bool × List (List Nat × List Nat):=(true,[([],[]),([],[]),([1],[1]),([2],[2]),([3],[3]),([],[]),([5],[5]),([4,6],[4,6]),([7],[7]),([0,8],[0,8])])
def walk8.B:List Nat:=[0,0,2,6,14,0,32,126,254,511]
theorem walk8.tab:rtab .any (opsOf Try.f105 8) = walk8.T:=by kernel_rfl
theorem walk8.bits:waitsOk walk8.T.2 walk8.B = true:=by kernel_rfl
abbrev walk8.mk0:Array Bool:=#[fF,fF,fF,fF,fF,fF,fF,fF,fF,fF]
abbrev walk8.mk1:Array Bool:=#[tT,fF,fF,fF,fF,fF,fF,fF,fF,fF]
abbrev walk8.mk2:Array Bool:=#[tT,tT,fF,fF,fF,fF,fF,fF,fF,fF]
abbrev walk8.mk3:Array Bool:=#[tT,tT,tT,fF,fF,fF,fF,fF,fF,fF]
abbrev walk8.mk4:Array Bool:=#[tT,tT,tT,tT,fF,fF,fF,fF,fF,fF]
abbrev walk8.mk5:Array Bool:=#[tT,tT,tT,tT,fF,tT,fF,fF,fF,fF]
abbrev walk8.mk6:Array Bool:=#[tT,tT,tT,tT,tT,tT,fF,fF,fF,fF]
abbrev walk8.mk7:Array Bool:=#[tT,tT,tT,tT,tT,tT,tT,fF,fF,fF]
abbrev walk8.mk8:Array Bool:=#[tT,tT,tT,tT,tT,tT,tT,tT,fF,fF]
abbrev walk8.mk9:Array Bool:=#[tT,tT,tT,tT,tT,tT,tT,tT,tT,fF]
abbrev walk8.mk10:Array Bool:=#[tT,tT,tT,tT,tT,tT,tT,tT,tT,tT]
theorem walk_k1A (g:Nat) (vL vV vD:Value) (L:List S37) (V D:List Bool) (p t i:Int) (w0 w:World) (hS:ExS w w0.heap.size g vL vV vD L V D p t) (hB:Below w0.heap.size w0 w) (hwi:impl_within.f i 0 (wrap64 ((L.length:Int) - 1)) = some false) :
  Calls Try.prog 105 #[.pointer (some ⟨g,0,none⟩),.agg #[.int .i64 1,.int .i64 i,.int .i64 0,.int .i64 0,.int .i64 0,.int .i64 0,.int .i64 0]] w fun e w'=>e = .returned (.bool false) /\ ExS w' w0.heap.size g vL vV vD L V D p t /\ Below w0.heap.size w0 w':=by
 have hgw:g < w.heap.size:=blk_lt hS.blk
 have hne:w.heap.size ≠ g:=by omega
 have hu1:=Try.underlying39
 have hu2:=Try.underlying30
 have hu3:=Try.underlying37
 have hu4:=Try.underlying28
 obtain ⟨A0,c0,rfl⟩:=Kd.R_slice hS.rL
 have HX:=ak (blk_new w (.cells #[.int .i64 1,.int .i64 i,.int .i64 0,.int .i64 0,.int .i64 0,.int .i64 0,.int .i64 0] 39 (0,0)))
 have HS:=ak (hS.below (below_alloc (Below.refl _ w) (.cells #[.int .i64 1,.int .i64 i,.int .i64 0,.int .i64 0,.int .i64 0,.int .i64 0,.int .i64 0] 39 (0,0))))
 have HB:=ak (below_alloc hB (.cells #[.int .i64 1,.int .i64 i,.int .i64 0,.int .i64 0,.int .i64 0,.int .i64 0,.int .i64 0] 39 (0,0)))
 clear hS hB
 go_enter Try.func105,Try.ntmps105
 go_wp2_with fail
 generalize w.alloc (.cells #[.int .i64 1,.int .i64 i,.int .i64 0,.int .i64 0,.int .i64 0,.int .i64 0,.int .i64 0] 39) = W at HX HS HB ⊢
 replace HX:=ak (blk_drew HX.out)
 replace HS:=ak (HS.out.below (below_drew (Below.refl _ W)))
 replace HB:=ak (below_drew HB.out)
 refine start_ (n:=42) (S:=fun w'=>w'.cell? ⟨w.heap.size,1,none⟩ = some (.int .i64 i) /\ w'.cell? ⟨g,0,none⟩ = some (.slice A0 L.length c0) /\ w'.cell? ⟨g,3,none⟩ = some (.int .i64 p)) (ds:=[]) walk6.mk0 (by kernel_rfl) rfl rfl ⟨(blk_cell HX.out 1).trans rfl,(blk_cell HS.out.blk 0).trans rfl,(blk_cell HS.out.blk 3).trans rfl⟩ (fun hHeld=>?_);refine with_tabW walk6.tab walk6.bits (fun HT_ HW_=>?_)
 generalize W.drew = W1 at HX HS HB hHeld ⊢
 refine pz_ HT_ 0 (some 33) walk6.mk1 ?_
 refine pz_ HT_ 2 (some 35) walk6.mk2 ?_
 refine pz_ HT_ 3 (some 36) walk6.mk3 ?_
 refine pz_ HT_ 4 (some 37) walk6.mk4 ?_
 refine tk_ HT_ HW_ hHeld 1 (some 34) walk6.mk5 ?_
 refine tk_ HT_ HW_ hHeld 5 (some 38) walk6.mk6 ?_
 refine pz_ HT_ 6 (some 39) walk6.mk7 ?_
 refine pz_ HT_ 7 (some 40) walk6.mk8 ?_
 refine one_ (i:=8) (N:=some 41) walk6.mk9 rfl rfl (one_of HT_.out (by kernel_rfl)) (by decide) (fun K hK=>?_)
 refine gs_ Try.func71 #[.int .i64 i,.int .i64 0,.int .i64 (wrap64 ((L.length:Int) - 1))] ?_
 refine (impl_within.calls i 0 (wrap64 ((L.length:Int) - 1)) false _ hwi).mono ?_
 rintro e w1 ⟨rfl,⟨n1_,rfl⟩⟩
 refine ⟨_,rfl,?_⟩
 replace HX:=ak (blk_drewN HX.out n1_)
 replace HS:=ak (HS.out.below (pw_below_drewN (Below.refl _ _) n1_))
 replace HB:=ak (pw_below_drewN HB.out n1_)
 refine hK.out _ _ ⟨(blk_cell HX.out 1).trans rfl,(blk_cell HS.out.blk 0).trans rfl,(blk_cell HS.out.blk 3).trans rfl⟩ (fun hHeld=>?_)
 clear hK K
 refine na_ ?_
 generalize W1.drewN n1_ = W2 at HX HS HB hHeld ⊢
 refine pz_ HT_ 9 (some 42) walk6.mk10 ?_
 refine pz_ HT_ 10 (some 43) walk6.mk11 ?_
 refine pu_ HT_ 11 (some 44) walk6.mk12 ?_
 refine pu_ HT_ 12 (some 45) walk6.mk13 ?_
 refine pu_ HT_ 13 (some 46) walk6.mk14 ?_
 refine pu_ HT_ 15 (some 48) walk6.mk15 ?_
 refine pu_ HT_ 20 (some 53) walk6.mk16 ?_
 refine pu_ HT_ 21 (some 54) walk6.mk17 ?_
 refine pu_ HT_ 22 (some 55) walk6.mk18 ?_
 refine pu_ HT_ 14 (some 47) walk6.mk19 ?_
 refine pu_ HT_ 16 (some 49) walk6.mk20 ?_
 refine pu_ HT_ 17 (some 50) walk6.mk21 ?_
 refine pu_ HT_ 18 (some 51) walk6.mk22 ?_
 refine pu_ HT_ 19 (some 52) walk6.mk23 ?_
 refine pu_ HT_ 23 (some 56) walk6.mk24 ?_
 refine pu_ HT_ 24 (some 57) walk6.mk25 ?_
 refine pu_ HT_ 25 (some 58) walk6.mk26 ?_
 refine pu_ HT_ 26 (some 59) walk6.mk27 ?_
 refine pu_ HT_ 27 (some 60) walk6.mk28 ?_
 refine pu_ HT_ 28 (some 61) walk6.mk29 ?_
 refine pu_ HT_ 30 (some 63) walk6.mk30 ?_
 refine pu_ HT_ 35 (some 68) walk6.mk31 ?_
 refine pu_ HT_ 36 (some 69) walk6.mk32 ?_
 refine pu_ HT_ 37 (some 70) walk6.mk33 ?_
 refine pu_ HT_ 29 (some 62) walk6.mk34 ?_
 refine pu_ HT_ 31 (some 64) walk6.mk35 ?_
 refine pu_ HT_ 32 (some 65) walk6.mk36 ?_
 refine pu_ HT_ 33 (some 66) walk6.mk37 ?_
 refine pu_ HT_ 34 (some 67) walk6.mk38 ?_
 refine pu_ HT_ 38 (some 71) walk6.mk39 ?_
 refine pu_ HT_ 39 (some 72) walk6.mk40 ?_
 refine pu_ HT_ 40 (some 73) walk6.mk41 ?_
 refine pz_ HT_ 41 (some 74) walk6.mk42 ?_
 refine done_ (done_of HT_.out (by kernel_rfl)) ?_
 go_wp2_with fail
 go_ret
 exact ⟨rfl,HS.out,HB.out⟩
theorem walk_k1B (g:Nat) (vL vV vD:Value) (L:List S37) (V D:List Bool) (p t i:Int) (w0 w:World) (hS:ExS w w0.heap.size g vL vV vD L V D p t) (hB:Below w0.heap.size w0 w) (hwi:impl_within.f i 0 (wrap64 ((L.length:Int) - 1)) = some true) (hi0:0 <= i) (hi1:i < (L.length:Int)) (hf0:(rd_T37 L i).f0 = p) (h0:0 <= wrap64 (wrap64 ((rd_T37 L i).f0 + (rd_T37 L i).f1) - p)) (h1:wrap64 (wrap64 ((rd_T37 L i).f0 + (rd_T37 L i).f1) - p) < (V.length:Int)) :
  Calls Try.prog 105 #[.pointer (some ⟨g,0,none⟩),.agg #[.int .i64 1,.int .i64 i,.int .i64 0,.int .i64 0,.int .i64 0,.int .i64 0,.int .i64 0]] w fun e w'=>e = .returned (.bool true) /\ ExS w' w0.heap.size g vL vV vD L (V.set (wrap64 (wrap64 ((rd_T37 L i).f0 + (rd_T37 L i).f1) - p)).toNat true) D (wrap64 (wrap64 ((rd_T37 L i).f0 + (rd_T37 L i).f1) - p)) (wrap64 (t - wrap64 (1 * (rd_T37 L i).f2))) /\ Below w0.heap.size w0 w':=by
 have hgw:g < w.heap.size:=blk_lt hS.blk
 have hne:w.heap.size ≠ g:=by omega
 have hu1:=Try.underlying39
 have hu2:=Try.underlying30
 have hu3:=Try.underlying37
 have hu4:=Try.underlying28
 obtain ⟨A0,c0,rfl⟩:=Kd.R_slice hS.rL
 obtain ⟨ad,e0,y0,y1,y2,y3,y4⟩:=at_T37 (Kd.R_reads' hS.rL).2.2 i hi0 hi1
 subst e0
 have q0:(0 <= i) = True:=eq_true hi0
 have q1:(i < (L.length:Int)) = True:=eq_true hi1
 have q0':decide (0 <= i) = true:=decide_eq_true hi0
 have q1':decide (i < (L.length:Int)) = true:=decide_eq_true hi1
 have n0:((rd_T37 L i).f0 != p) = false:=bne_eq_false_iff_eq.mpr hf0
 clear hf0
 have HX:=ak (blk_new w (.cells #[.int .i64 1,.int .i64 i,.int .i64 0,.int .i64 0,.int .i64 0,.int .i64 0,.int .i64 0] 39 (0,0)))
 have HS:=ak (hS.below (below_alloc (Below.refl _ w) (.cells #[.int .i64 1,.int .i64 i,.int .i64 0,.int .i64 0,.int .i64 0,.int .i64 0,.int .i64 0] 39 (0,0))))
 have HB:=ak (below_alloc hB (.cells #[.int .i64 1,.int .i64 i,.int .i64 0,.int .i64 0,.int .i64 0,.int .i64 0,.int .i64 0] 39 (0,0)))
 have Y0:=ak (bc_ (below_alloc (Below.refl _ w) (.cells #[.int .i64 1,.int .i64 i,.int .i64 0,.int .i64 0,.int .i64 0,.int .i64 0,.int .i64 0] 39 (0,0))) y0)
 have Y1:=ak (bc_ (below_alloc (Below.refl _ w) (.cells #[.int .i64 1,.int .i64 i,.int .i64 0,.int .i64 0,.int .i64 0,.int .i64 0,.int .i64 0] 39 (0,0))) y1)
 have Y2:=ak (bc_ (below_alloc (Below.refl _ w) (.cells #[.int .i64 1,.int .i64 i,.int .i64 0,.int .i64 0,.int .i64 0,.int .i64 0,.int .i64 0] 39 (0,0))) y2)
 have Y3:=ak (bc_ (below_alloc (Below.refl _ w) (.cells #[.int .i64 1,.int .i64 i,.int .i64 0,.int .i64 0,.int .i64 0,.int .i64 0,.int .i64 0] 39 (0,0))) y3)
 have Y4:=ak (bc_ (below_alloc (Below.refl _ w) (.cells #[.int .i64 1,.int .i64 i,.int .i64 0,.int .i64 0,.int .i64 0,.int .i64 0,.int .i64 0] 39 (0,0))) y4)
 clear y0 y1 y2 y3 y4
 clear hS hB
 go_enter Try.func105,Try.ntmps105
 go_wp2_with fail
 generalize w.alloc (.cells #[.int .i64 1,.int .i64 i,.int .i64 0,.int .i64 0,.int .i64 0,.int .i64 0,.int .i64 0] 39) = W at HX HS HB Y0 Y1 Y2 Y3 Y4 ⊢
 replace HX:=ak (blk_drew HX.out)
 replace HS:=ak (HS.out.below (below_drew (Below.refl _ W)))
 replace HB:=ak (below_drew HB.out)
 replace Y0:=ak (bc_ (below_drew (Below.refl _ W)) Y0.out)
 replace Y1:=ak (bc_ (below_drew (Below.refl _ W)) Y1.out)
 replace Y2:=ak (bc_ (below_drew (Below.refl _ W)) Y2.out)
 replace Y3:=ak (bc_ (below_drew (Below.refl _ W)) Y3.out)
 replace Y4:=ak (bc_ (below_drew (Below.refl _ W)) Y4.out)
 refine start_ (n:=42) (S:=fun w'=>w'.cell? ⟨w.heap.size,1,none⟩ = some (.int .i64 i) /\ w'.cell? ⟨g,0,none⟩ = some (.slice (some ad) L.length c0) /\ w'.cell? ⟨g,3,none⟩ = some (.int .i64 p) /\ w'.cell? (ad.add (i.toNat * 5)) = some (.int .i64 (rd_T37 L i).f0) /\ w'.cell? ⟨(ad.add (i.toNat * 5)).block,(ad.add (i.toNat * 5)).off + 1,none⟩ = some (.int .i64 (rd_T37 L i).f1) /\ w'.cell? ⟨(ad.add (i.toNat * 5)).block,(ad.add (i.toNat * 5)).off + 2,none⟩ = some (.int .i64 (rd_T37 L i).f2) /\ w'.cell? ⟨(ad.add (i.toNat * 5)).block,(ad.add (i.toNat * 5)).off + 3,none⟩ = some (.int .i64 (rd_T37 L i).f3) /\ w'.cell? ⟨(ad.add (i.toNat * 5)).block,(ad.add (i.toNat * 5)).off + 4,none⟩ = some (.int .i64 (rd_T37 L i).f4)) (ds:=[]) walk6.mk0 (by kernel_rfl) rfl rfl ⟨(blk_cell HX.out 1).trans rfl,(blk_cell HS.out.blk 0).trans rfl,(blk_cell HS.out.blk 3).trans rfl,Y0.out,Y1.out,Y2.out,Y3.out,Y4.out⟩ (fun hHeld=>?_);refine with_tabW walk6.tab walk6.bits (fun HT_ HW_=>?_)
 generalize W.drew = W1 at HX HS HB Y0 Y1 Y2 Y3 Y4 hHeld ⊢
 refine pz_ HT_ 0 (some 33) walk6.mk1 ?_
 refine pz_ HT_ 2 (some 35) walk6.mk2 ?_
 refine pz_ HT_ 3 (some 36) walk6.mk3 ?_
 refine pz_ HT_ 4 (some 37) walk6.mk4 ?_
 refine tk_ HT_ HW_ hHeld 1 (some 34) walk6.mk5 ?_
 refine tk_ HT_ HW_ hHeld 5 (some 38) walk6.mk6 ?_
 refine pz_ HT_ 6 (some 39) walk6.mk7 ?_
 refine pz_ HT_ 7 (some 40) walk6.mk8 ?_
 refine one_ (i:=8) (N:=some 41) walk6.mk9 rfl rfl (one_of HT_.out (by kernel_rfl)) (by decide) (fun K hK=>?_)
 refine gs_ Try.func71 #[.int .i64 i,.int .i64 0,.int .i64 (wrap64 ((L.length:Int) - 1))] ?_
 refine (impl_within.calls i 0 (wrap64 ((L.length:Int) - 1)) true _ hwi).mono ?_
 rintro e w1 ⟨rfl,⟨n1_,rfl⟩⟩
 refine ⟨_,rfl,?_⟩
 replace HX:=ak (blk_drewN HX.out n1_)
 replace HS:=ak (HS.out.below (pw_below_drewN (Below.refl _ _) n1_))
 replace HB:=ak (pw_below_drewN HB.out n1_)
 replace Y0:=ak (bc_ (pw_below_drewN (Below.refl _ _) n1_) Y0.out)
 replace Y1:=ak (bc_ (pw_below_drewN (Below.refl _ _) n1_) Y1.out)
 replace Y2:=ak (bc_ (pw_below_drewN (Below.refl _ _) n1_) Y2.out)
 replace Y3:=ak (bc_ (pw_below_drewN (Below.refl _ _) n1_) Y3.out)
 replace Y4:=ak (bc_ (pw_below_drewN (Below.refl _ _) n1_) Y4.out)
 refine hK.out _ _ ⟨(blk_cell HX.out 1).trans rfl,(blk_cell HS.out.blk 0).trans rfl,(blk_cell HS.out.blk 3).trans rfl,Y0.out,Y1.out,Y2.out,Y3.out,Y4.out⟩ (fun hHeld=>?_)
 clear hK K
 refine na_ ?_
 generalize W1.drewN n1_ = W2 at HX HS HB Y0 Y1 Y2 Y3 Y4 hHeld ⊢
 refine pz_ HT_ 9 (some 42) walk6.mk10 ?_
 refine pz_ HT_ 10 (some 43) walk6.mk11 ?_
 refine pz_ HT_ 11 (some 44) walk6.mk12 ?_
 refine pz_ HT_ 12 (some 45) walk6.mk13 ?_
 refine pz_ HT_ 13 (some 46) walk6.mk14 ?_
 refine pz_ HT_ 15 (some 48) walk6.mk15 ?_
 refine pz_ HT_ 20 (some 53) walk6.mk16 ?_
 refine pz_ HT_ 21 (some 54) walk6.mk17 ?_
 refine pz_ HT_ 22 (some 55) walk6.mk18 ?_
 refine tk_ HT_ HW_ hHeld 14 (some 47) walk6.mk19 ?_
 refine tk_ HT_ HW_ hHeld 16 (some 49) walk6.mk20 ?_
 refine pz_ HT_ 17 (some 50) walk6.mk21 ?_
 refine pz_ HT_ 18 (some 51) walk6.mk22 ?_
 refine tk_ HT_ HW_ hHeld 19 (some 52) walk6.mk23 ?_
 refine tk_ HT_ HW_ hHeld 23 (some 56) walk6.mk24 ?_
 refine pz_ HT_ 24 (some 57) walk6.mk25 ?_
 refine pz_ HT_ 25 (some 58) walk6.mk26 ?_
 refine pu_ HT_ 26 (some 59) walk6.mk27 ?_
 refine pu_ HT_ 27 (some 60) walk6.mk28 ?_
 refine pu_ HT_ 28 (some 61) walk6.mk29 ?_
 refine pu_ HT_ 30 (some 63) walk6.mk30 ?_
 refine pu_ HT_ 35 (some 68) walk6.mk31 ?_
 refine pu_ HT_ 36 (some 69) walk6.mk32 ?_
 refine pu_ HT_ 37 (some 70) walk6.mk33 ?_
 refine pu_ HT_ 29 (some 62) walk6.mk34 ?_
 refine pu_ HT_ 31 (some 64) walk6.mk35 ?_
 refine pu_ HT_ 32 (some 65) walk6.mk36 ?_
 refine pu_ HT_ 33 (some 66) walk6.mk37 ?_
 refine pu_ HT_ 34 (some 67) walk6.mk38 ?_
 refine pu_ HT_ 38 (some 71) walk6.mk39 ?_
 refine pu_ HT_ 39 (some 72) walk6.mk40 ?_
 refine pz_ HT_ 40 (some 73) walk6.mk41 ?_
 refine pz_ HT_ 41 (some 74) walk6.mk42 ?_
 refine done_ (done_of HT_.out (by kernel_rfl)) ?_
 go_wp2_with fail
 replace HX:=ak (blk_drew HX.out)
 replace HS:=ak (HS.out.below (below_drew (Below.refl _ W2)))
 replace HB:=ak (below_drew HB.out)
 replace Y0:=ak (bc_ (below_drew (Below.refl _ W2)) Y0.out)
 replace Y1:=ak (bc_ (below_drew (Below.refl _ W2)) Y1.out)
 replace Y2:=ak (bc_ (below_drew (Below.refl _ W2)) Y2.out)
 replace Y3:=ak (bc_ (below_drew (Below.refl _ W2)) Y3.out)
 replace Y4:=ak (bc_ (below_drew (Below.refl _ W2)) Y4.out)
 refine start_ (n:=10) (S:=fun w'=>w'.cell? ⟨w.heap.size,1,none⟩ = some (.int .i64 i) /\ w'.cell? ⟨g,0,none⟩ = some (.slice (some ad) L.length c0) /\ w'.cell? ⟨g,3,none⟩ = some (.int .i64 p) /\ w'.cell? (ad.add (i.toNat * 5)) = some (.int .i64 (rd_T37 L i).f0) /\ w'.cell? ⟨(ad.add (i.toNat * 5)).block,(ad.add (i.toNat * 5)).off + 1,none⟩ = some (.int .i64 (rd_T37 L i).f1) /\ w'.cell? ⟨(ad.add (i.toNat * 5)).block,(ad.add (i.toNat * 5)).off + 2,none⟩ = some (.int .i64 (rd_T37 L i).f2) /\ w'.cell? ⟨(ad.add (i.toNat * 5)).block,(ad.add (i.toNat * 5)).off + 3,none⟩ = some (.int .i64 (rd_T37 L i).f3) /\ w'.cell? ⟨(ad.add (i.toNat * 5)).block,(ad.add (i.toNat * 5)).off + 4,none⟩ = some (.int .i64 (rd_T37 L i).f4)) (ds:=[9]) walk8.mk0 (by kernel_rfl) rfl rfl ⟨(blk_cell HX.out 1).trans rfl,(blk_cell HS.out.blk 0).trans rfl,(blk_cell HS.out.blk 3).trans rfl,Y0.out,Y1.out,Y2.out,Y3.out,Y4.out⟩ (fun hHeld=>?_);refine with_tabW walk8.tab walk8.bits (fun HT_ HW_=>?_)
 generalize W2.drew = W3 at HX HS HB Y0 Y1 Y2 Y3 Y4 hHeld ⊢
 refine pz_ HT_ 0 (some 75) walk8.mk1 ?_
 refine pz_ HT_ 1 (some 76) walk8.mk2 ?_
 refine pz_ HT_ 2 (some 77) walk8.mk3 ?_
 refine pz_ HT_ 3 (some 78) walk8.mk4 ?_
 refine pz_ HT_ 5 (some 80) walk8.mk5 ?_
 refine tk_ HT_ HW_ hHeld 4 (some 79) walk8.mk6 ?_
 refine tk_ HT_ HW_ hHeld 6 (some 81) walk8.mk7 ?_
 refine pz_ HT_ 7 (some 82) walk8.mk8 ?_
 refine tk_ HT_ HW_ hHeld 8 (some 83) walk8.mk9 ?_
 refine last_ (i:=9) (N:=some 84) walk8.mk10 rfl rfl (one_of HT_.out (by kernel_rfl)) (by decide) (fun K hK=>?_)
 refine gs_ Try.func119 #[.pointer (some ⟨g,0,none⟩),.agg #[.int .i64 (rd_T37 L i).f0,.int .i64 (rd_T37 L i).f1,.int .i64 (rd_T37 L i).f2,.int .i64 (rd_T37 L i).f3,.int .i64 (rd_T37 L i).f4],.int .i64 1] ?_
 refine (goAlong_calls g _ vV vD L V D p t (rd_T37 L i).f0 (rd_T37 L i).f1 (rd_T37 L i).f2 (rd_T37 L i).f3 (rd_T37 L i).f4 1 w0 _ HS.out HB.out h0 h1).mono ?_
 rintro e w9 ⟨rfl,hS9,hB9⟩
 refine ⟨_,rfl,?_⟩
 refine hK.out _ _ ?_
 clear hK K
 refine na_ ?_
 refine done_ (done_of HT_.out (by kernel_rfl)) ?_
 go_wp2_with fail
 go_ret
 exact ⟨rfl,hS9,hB9⟩
theorem walk_k1C (g:Nat) (vL vV vD:Value) (L:List S37) (V D:List Bool) (p t i:Int) (w0 w:World) (hS:ExS w w0.heap.size g vL vV vD L V D p t) (hB:Below w0.heap.size w0 w) (hwi:impl_within.f i 0 (wrap64 ((L.length:Int) - 1)) = some true) (hi0:0 <= i) (hi1:i < (L.length:Int)) (hf0:(rd_T37 L i).f0 ≠ p) (hf1:(rd_T37 L i).f1 = p) (h0:0 <= wrap64 (wrap64 ((rd_T37 L i).f0 + (rd_T37 L i).f1) - p)) (h1:wrap64 (wrap64 ((rd_T37 L i).f0 + (rd_T37 L i).f1) - p) < (V.length:Int)) :
  Calls Try.prog 105 #[.pointer (some ⟨g,0,none⟩),.agg #[.int .i64 1,.int .i64 i,.int .i64 0,.int .i64 0,.int .i64 0,.int .i64 0,.int .i64 0]] w fun e w'=>e = .returned (.bool true) /\ ExS w' w0.heap.size g vL vV vD L (V.set (wrap64 (wrap64 ((rd_T37 L i).f0 + (rd_T37 L i).f1) - p)).toNat true) D (wrap64 (wrap64 ((rd_T37 L i).f0 + (rd_T37 L i).f1) - p)) (wrap64 (t - wrap64 (1 * (rd_T37 L i).f2))) /\ Below w0.heap.size w0 w':=by
 have hgw:g < w.heap.size:=blk_lt hS.blk
 have hne:w.heap.size ≠ g:=by omega
 have hu1:=Try.underlying39
 have hu2:=Try.underlying30
 have hu3:=Try.underlying37
 have hu4:=Try.underlying28
 obtain ⟨A0,c0,rfl⟩:=Kd.R_slice hS.rL
 obtain ⟨ad,e0,y0,y1,y2,y3,y4⟩:=at_T37 (Kd.R_reads' hS.rL).2.2 i hi0 hi1
 subst e0
 have q0:(0 <= i) = True:=eq_true hi0
 have q1:(i < (L.length:Int)) = True:=eq_true hi1
 have q0':decide (0 <= i) = true:=decide_eq_true hi0
 have q1':decide (i < (L.length:Int)) = true:=decide_eq_true hi1
 have n0:((rd_T37 L i).f0 != p) = true:=bne_iff_ne.mpr hf0
 have n1:((rd_T37 L i).f1 != p) = false:=bne_eq_false_iff_eq.mpr hf1
 clear hf0 hf1
 have HX:=ak (blk_new w (.cells #[.int .i64 1,.int .i64 i,.int .i64 0,.int .i64 0,.int .i64 0,.int .i64 0,.int .i64 0] 39 (0,0)))
 have HS:=ak (hS.below (below_alloc (Below.refl _ w) (.cells #[.int .i64 1,.int .i64 i,.int .i64 0,.int .i64 0,.int .i64 0,.int .i64 0,.int .i64 0] 39 (0,0))))
 have HB:=ak (below_alloc hB (.cells #[.int .i64 1,.int .i64 i,.int .i64 0,.int .i64 0,.int .i64 0,.int .i64 0,.int .i64 0] 39 (0,0)))
 have Y0:=ak (bc_ (below_alloc (Below.refl _ w) (.cells #[.int .i64 1,.int .i64 i,.int .i64 0,.int .i64 0,.int .i64 0,.int .i64 0,.int .i64 0] 39 (0,0))) y0)
 have Y1:=ak (bc_ (below_alloc (Below.refl _ w) (.cells #[.int .i64 1,.int .i64 i,.int .i64 0,.int .i64 0,.int .i64 0,.int .i64 0,.int .i64 0] 39 (0,0))) y1)
 have Y2:=ak (bc_ (below_alloc (Below.refl _ w) (.cells #[.int .i64 1,.int .i64 i,.int .i64 0,.int .i64 0,.int .i64 0,.int .i64 0,.int .i64 0] 39 (0,0))) y2)
 have Y3:=ak (bc_ (below_alloc (Below.refl _ w) (.cells #[.int .i64 1,.int .i64 i,.int .i64 0,.int .i64 0,.int .i64 0,.int .i64 0,.int .i64 0] 39 (0,0))) y3)
 have Y4:=ak (bc_ (below_alloc (Below.refl _ w) (.cells #[.int .i64 1,.int .i64 i,.int .i64 0,.int .i64 0,.int .i64 0,.int .i64 0,.int .i64 0] 39 (0,0))) y4)
 clear y0 y1 y2 y3 y4
 clear hS hB
 go_enter Try.func105,Try.ntmps105
 go_wp2_with fail
 generalize w.alloc (.cells #[.int .i64 1,.int .i64 i,.int .i64 0,.int .i64 0,.int .i64 0,.int .i64 0,.int .i64 0] 39) = W at HX HS HB Y0 Y1 Y2 Y3 Y4 ⊢
 replace HX:=ak (blk_drew HX.out)
 replace HS:=ak (HS.out.below (below_drew (Below.refl _ W)))
 replace HB:=ak (below_drew HB.out)
 replace Y0:=ak (bc_ (below_drew (Below.refl _ W)) Y0.out)
 replace Y1:=ak (bc_ (below_drew (Below.refl _ W)) Y1.out)
 replace Y2:=ak (bc_ (below_drew (Below.refl _ W)) Y2.out)
 replace Y3:=ak (bc_ (below_drew (Below.refl _ W)) Y3.out)
 replace Y4:=ak (bc_ (below_drew (Below.refl _ W)) Y4.out)
 refine start_ (n:=42) (S:=fun w'=>w'.cell? ⟨w.heap.size,1,none⟩ = some (.int .i64 i) /\ w'.cell? ⟨g,0,none⟩ = some (.slice (some ad) L.length c0) /\ w'.cell? ⟨g,3,none⟩ = some (.int .i64 p) /\ w'.cell? (ad.add (i.toNat * 5)) = some (.int .i64 (rd_T37 L i).f0) /\ w'.cell? ⟨(ad.add (i.toNat * 5)).block,(ad.add (i.toNat * 5)).off + 1,none⟩ = some (.int .i64 (rd_T37 L i).f1) /\ w'.cell? ⟨(ad.add (i.toNat * 5)).block,(ad.add (i.toNat * 5)).off + 2,none⟩ = some (.int .i64 (rd_T37 L i).f2) /\ w'.cell? ⟨(ad.add (i.toNat * 5)).block,(ad.add (i.toNat * 5)).off + 3,none⟩ = some (.int .i64 (rd_T37 L i).f3) /\ w'.cell? ⟨(ad.add (i.toNat * 5)).block,(ad.add (i.toNat * 5)).off + 4,none⟩ = some (.int .i64 (rd_T37 L i).f4)) (ds:=[]) walk6.mk0 (by kernel_rfl) rfl rfl ⟨(blk_cell HX.out 1).trans rfl,(blk_cell HS.out.blk 0).trans rfl,(blk_cell HS.out.blk 3).trans rfl,Y0.out,Y1.out,Y2.out,Y3.out,Y4.out⟩ (fun hHeld=>?_);refine with_tabW walk6.tab walk6.bits (fun HT_ HW_=>?_)
 generalize W.drew = W1 at HX HS HB Y0 Y1 Y2 Y3 Y4 hHeld ⊢
 refine pz_ HT_ 0 (some 33) walk6.mk1 ?_
 refine pz_ HT_ 2 (some 35) walk6.mk2 ?_
 refine pz_ HT_ 3 (some 36) walk6.mk3 ?_
 refine pz_ HT_ 4 (some 37) walk6.mk4 ?_
 refine tk_ HT_ HW_ hHeld 1 (some 34) walk6.mk5 ?_
 refine tk_ HT_ HW_ hHeld 5 (some 38) walk6.mk6 ?_
 refine pz_ HT_ 6 (some 39) walk6.mk7 ?_
 refine pz_ HT_ 7 (some 40) walk6.mk8 ?_
 refine one_ (i:=8) (N:=some 41) walk6.mk9 rfl rfl (one_of HT_.out (by kernel_rfl)) (by decide) (fun K hK=>?_)
 refine gs_ Try.func71 #[.int .i64 i,.int .i64 0,.int .i64 (wrap64 ((L.length:Int) - 1))] ?_
 refine (impl_within.calls i 0 (wrap64 ((L.length:Int) - 1)) true _ hwi).mono ?_
 rintro e w1 ⟨rfl,⟨n1_,rfl⟩⟩
 refine ⟨_,rfl,?_⟩
 replace HX:=ak (blk_drewN HX.out n1_)
 replace HS:=ak (HS.out.below (pw_below_drewN (Below.refl _ _) n1_))
 replace HB:=ak (pw_below_drewN HB.out n1_)
 replace Y0:=ak (bc_ (pw_below_drewN (Below.refl _ _) n1_) Y0.out)
 replace Y1:=ak (bc_ (pw_below_drewN (Below.refl _ _) n1_) Y1.out)
 replace Y2:=ak (bc_ (pw_below_drewN (Below.refl _ _) n1_) Y2.out)
 replace Y3:=ak (bc_ (pw_below_drewN (Below.refl _ _) n1_) Y3.out)
 replace Y4:=ak (bc_ (pw_below_drewN (Below.refl _ _) n1_) Y4.out)
 refine hK.out _ _ ⟨(blk_cell HX.out 1).trans rfl,(blk_cell HS.out.blk 0).trans rfl,(blk_cell HS.out.blk 3).trans rfl,Y0.out,Y1.out,Y2.out,Y3.out,Y4.out⟩ (fun hHeld=>?_)
 clear hK K
 refine na_ ?_
 generalize W1.drewN n1_ = W2 at HX HS HB Y0 Y1 Y2 Y3 Y4 hHeld ⊢
 refine pz_ HT_ 9 (some 42) walk6.mk10 ?_
 refine pz_ HT_ 10 (some 43) walk6.mk11 ?_
 refine pz_ HT_ 11 (some 44) walk6.mk12 ?_
 refine pz_ HT_ 12 (some 45) walk6.mk13 ?_
 refine pz_ HT_ 13 (some 46) walk6.mk14 ?_
 refine pz_ HT_ 15 (some 48) walk6.mk15 ?_
 refine pz_ HT_ 20 (some 53) walk6.mk16 ?_
 refine pz_ HT_ 21 (some 54) walk6.mk17 ?_
 refine pz_ HT_ 22 (some 55) walk6.mk18 ?_
 refine tk_ HT_ HW_ hHeld 14 (some 47) walk6.mk19 ?_
 refine tk_ HT_ HW_ hHeld 16 (some 49) walk6.mk20 ?_
 refine pz_ HT_ 17 (some 50) walk6.mk21 ?_
 refine pz_ HT_ 18 (some 51) walk6.mk22 ?_
 refine tk_ HT_ HW_ hHeld 19 (some 52) walk6.mk23 ?_
 refine tk_ HT_ HW_ hHeld 23 (some 56) walk6.mk24 ?_
 refine pz_ HT_ 24 (some 57) walk6.mk25 ?_
 refine pz_ HT_ 25 (some 58) walk6.mk26 ?_
 refine pz_ HT_ 26 (some 59) walk6.mk27 ?_
 refine pz_ HT_ 27 (some 60) walk6.mk28 ?_
 refine pz_ HT_ 28 (some 61) walk6.mk29 ?_
 refine pz_ HT_ 30 (some 63) walk6.mk30 ?_
 refine pz_ HT_ 35 (some 68) walk6.mk31 ?_
 refine pz_ HT_ 36 (some 69) walk6.mk32 ?_
 refine pz_ HT_ 37 (some 70) walk6.mk33 ?_
 refine tk_ HT_ HW_ hHeld 29 (some 62) walk6.mk34 ?_
 refine tk_ HT_ HW_ hHeld 31 (some 64) walk6.mk35 ?_
 refine pz_ HT_ 32 (some 65) walk6.mk36 ?_
 refine pz_ HT_ 33 (some 66) walk6.mk37 ?_
 refine tk_ HT_ HW_ hHeld 34 (some 67) walk6.mk38 ?_
 refine tk_ HT_ HW_ hHeld 38 (some 71) walk6.mk39 ?_
 refine pz_ HT_ 39 (some 72) walk6.mk40 ?_
 refine pz_ HT_ 40 (some 73) walk6.mk41 ?_
 refine pz_ HT_ 41 (some 74) walk6.mk42 ?_
 refine done_ (done_of HT_.out (by kernel_rfl)) ?_
 go_wp2_with fail
 replace HX:=ak (blk_drew HX.out)
 replace HS:=ak (HS.out.below (below_drew (Below.refl _ W2)))
 replace HB:=ak (below_drew HB.out)
 replace Y0:=ak (bc_ (below_drew (Below.refl _ W2)) Y0.out)
 replace Y1:=ak (bc_ (below_drew (Below.refl _ W2)) Y1.out)
 replace Y2:=ak (bc_ (below_drew (Below.refl _ W2)) Y2.out)
 replace Y3:=ak (bc_ (below_drew (Below.refl _ W2)) Y3.out)
 replace Y4:=ak (bc_ (below_drew (Below.refl _ W2)) Y4.out)
 refine start_ (n:=10) (S:=fun w'=>w'.cell? ⟨w.heap.size,1,none⟩ = some (.int .i64 i) /\ w'.cell? ⟨g,0,none⟩ = some (.slice (some ad) L.length c0) /\ w'.cell? ⟨g,3,none⟩ = some (.int .i64 p) /\ w'.cell? (ad.add (i.toNat * 5)) = some (.int .i64 (rd_T37 L i).f0) /\ w'.cell? ⟨(ad.add (i.toNat * 5)).block,(ad.add (i.toNat * 5)).off + 1,none⟩ = some (.int .i64 (rd_T37 L i).f1) /\ w'.cell? ⟨(ad.add (i.toNat * 5)).block,(ad.add (i.toNat * 5)).off + 2,none⟩ = some (.int .i64 (rd_T37 L i).f2) /\ w'.cell? ⟨(ad.add (i.toNat * 5)).block,(ad.add (i.toNat * 5)).off + 3,none⟩ = some (.int .i64 (rd_T37 L i).f3) /\ w'.cell? ⟨(ad.add (i.toNat * 5)).block,(ad.add (i.toNat * 5)).off + 4,none⟩ = some (.int .i64 (rd_T37 L i).f4)) (ds:=[9]) walk8.mk0 (by kernel_rfl) rfl rfl ⟨(blk_cell HX.out 1).trans rfl,(blk_cell HS.out.blk 0).trans rfl,(blk_cell HS.out.blk 3).trans rfl,Y0.out,Y1.out,Y2.out,Y3.out,Y4.out⟩ (fun hHeld=>?_);refine with_tabW walk8.tab walk8.bits (fun HT_ HW_=>?_)
 generalize W2.drew = W3 at HX HS HB Y0 Y1 Y2 Y3 Y4 hHeld ⊢
 refine pz_ HT_ 0 (some 75) walk8.mk1 ?_
 refine pz_ HT_ 1 (some 76) walk8.mk2 ?_
 refine pz_ HT_ 2 (some 77) walk8.mk3 ?_
 refine pz_ HT_ 3 (some 78) walk8.mk4 ?_
 refine pz_ HT_ 5 (some 80) walk8.mk5 ?_
 refine tk_ HT_ HW_ hHeld 4 (some 79) walk8.mk6 ?_
 refine tk_ HT_ HW_ hHeld 6 (some 81) walk8.mk7 ?_
 refine pz_ HT_ 7 (some 82) walk8.mk8 ?_
 refine tk_ HT_ HW_ hHeld 8 (some 83) walk8.mk9 ?_
 refine last_ (i:=9) (N:=some 84) walk8.mk10 rfl rfl (one_of HT_.out (by kernel_rfl)) (by decide) (fun K hK=>?_)
 refine gs_ Try.func119 #[.pointer (some ⟨g,0,none⟩),.agg #[.int .i64 (rd_T37 L i).f0,.int .i64 (rd_T37 L i).f1,.int .i64 (rd_T37 L i).f2,.int .i64 (rd_T37 L i).f3,.int .i64 (rd_T37 L i).f4],.int .i64 1] ?_
 refine (goAlong_calls g _ vV vD L V D p t (rd_T37 L i).f0 (rd_T37 L i).f1 (rd_T37 L i).f2 (rd_T37 L i).f3 (rd_T37 L i).f4 1 w0 _ HS.out HB.out h0 h1).mono ?_
 rintro e w9 ⟨rfl,hS9,hB9⟩
 refine ⟨_,rfl,?_⟩
 refine hK.out _ _ ?_
 clear hK K
 refine na_ ?_
 refine done_ (done_of HT_.out (by kernel_rfl)) ?_
 go_wp2_with fail
 go_ret
 exact ⟨rfl,hS9,hB9⟩
theorem walk_k1D (g:Nat) (vL vV vD:Value) (L:List S37) (V D:List Bool) (p t i:Int) (w0 w:World) (hS:ExS w w0.heap.size g vL vV vD L V D p t) (hB:Below w0.heap.size w0 w) (hwi:impl_within.f i 0 (wrap64 ((L.length:Int) - 1)) = some true) (hi0:0 <= i) (hi1:i < (L.length:Int)) (hf0:(rd_T37 L i).f0 ≠ p) (hf1:(rd_T37 L i).f1 ≠ p) :
  Calls Try.prog 105 #[.pointer (some ⟨g,0,none⟩),.agg #[.int .i64 1,.int .i64 i,.int .i64 0,.int .i64 0,.int .i64 0,.int .i64 0,.int .i64 0]] w fun e w'=>e = .returned (.bool false) /\ ExS w' w0.heap.size g vL vV vD L V D p t /\ Below w0.heap.size w0 w':=by
 have hgw:g < w.heap.size:=blk_lt hS.blk
 have hne:w.heap.size ≠ g:=by omega
 have hu1:=Try.underlying39
 have hu2:=Try.underlying30
 have hu3:=Try.underlying37
 have hu4:=Try.underlying28
 obtain ⟨A0,c0,rfl⟩:=Kd.R_slice hS.rL
 obtain ⟨ad,e0,y0,y1,y2,y3,y4⟩:=at_T37 (Kd.R_reads' hS.rL).2.2 i hi0 hi1
 subst e0
 have q0:(0 <= i) = True:=eq_true hi0
 have q1:(i < (L.length:Int)) = True:=eq_true hi1
 have q0':decide (0 <= i) = true:=decide_eq_true hi0
 have q1':decide (i < (L.length:Int)) = true:=decide_eq_true hi1
 have n0:((rd_T37 L i).f0 != p) = true:=bne_iff_ne.mpr hf0
 have n1:((rd_T37 L i).f1 != p) = true:=bne_iff_ne.mpr hf1
 clear hf0 hf1
 have HX:=ak (blk_new w (.cells #[.int .i64 1,.int .i64 i,.int .i64 0,.int .i64 0,.int .i64 0,.int .i64 0,.int .i64 0] 39 (0,0)))
 have HS:=ak (hS.below (below_alloc (Below.refl _ w) (.cells #[.int .i64 1,.int .i64 i,.int .i64 0,.int .i64 0,.int .i64 0,.int .i64 0,.int .i64 0] 39 (0,0))))
 have HB:=ak (below_alloc hB (.cells #[.int .i64 1,.int .i64 i,.int .i64 0,.int .i64 0,.int .i64 0,.int .i64 0,.int .i64 0] 39 (0,0)))
 have Y0:=ak (bc_ (below_alloc (Below.refl _ w) (.cells #[.int .i64 1,.int .i64 i,.int .i64 0,.int .i64 0,.int .i64 0,.int .i64 0,.int .i64 0] 39 (0,0))) y0)
 have Y1:=ak (bc_ (below_alloc (Below.refl _ w) (.cells #[.int .i64 1,.int .i64 i,.int .i64 0,.int .i64 0,.int .i64 0,.int .i64 0,.int .i64 0] 39 (0,0))) y1)
 have Y2:=ak (bc_ (below_alloc (Below.refl _ w) (.cells #[.int .i64 1,.int .i64 i,.int .i64 0,.int .i64 0,.int .i64 0,.int .i64 0,.int .i64 0] 39 (0,0))) y2)
 have Y3:=ak (bc_ (below_alloc (Below.refl _ w) (.cells #[.int .i64 1,.int .i64 i,.int .i64 0,.int .i64 0,.int .i64 0,.int .i64 0,.int .i64 0] 39 (0,0))) y3)
 have Y4:=ak (bc_ (below_alloc (Below.refl _ w) (.cells #[.int .i64 1,.int .i64 i,.int .i64 0,.int .i64 0,.int .i64 0,.int .i64 0,.int .i64 0] 39 (0,0))) y4)
 clear y0 y1 y2 y3 y4
 clear hS hB
 go_enter Try.func105,Try.ntmps105
 go_wp2_with fail
 generalize w.alloc (.cells #[.int .i64 1,.int .i64 i,.int .i64 0,.int .i64 0,.int .i64 0,.int .i64 0,.int .i64 0] 39) = W at HX HS HB Y0 Y1 Y2 Y3 Y4 ⊢
 replace HX:=ak (blk_drew HX.out)
 replace HS:=ak (HS.out.below (below_drew (Below.refl _ W)))
 replace HB:=ak (below_drew HB.out)
 replace Y0:=ak (bc_ (below_drew (Below.refl _ W)) Y0.out)
 replace Y1:=ak (bc_ (below_drew (Below.refl _ W)) Y1.out)
 replace Y2:=ak (bc_ (below_drew (Below.refl _ W)) Y2.out)
 replace Y3:=ak (bc_ (below_drew (Below.refl _ W)) Y3.out)
 replace Y4:=ak (bc_ (below_drew (Below.refl _ W)) Y4.out)
 refine start_ (n:=42) (S:=fun w'=>w'.cell? ⟨w.heap.size,1,none⟩ = some (.int .i64 i) /\ w'.cell? ⟨g,0,none⟩ = some (.slice (some ad) L.length c0) /\ w'.cell? ⟨g,3,none⟩ = some (.int .i64 p) /\ w'.cell? (ad.add (i.toNat * 5)) = some (.int .i64 (rd_T37 L i).f0) /\ w'.cell? ⟨(ad.add (i.toNat * 5)).block,(ad.add (i.toNat * 5)).off + 1,none⟩ = some (.int .i64 (rd_T37 L i).f1) /\ w'.cell? ⟨(ad.add (i.toNat * 5)).block,(ad.add (i.toNat * 5)).off + 2,none⟩ = some (.int .i64 (rd_T37 L i).f2) /\ w'.cell? ⟨(ad.add (i.toNat * 5)).block,(ad.add (i.toNat * 5)).off + 3,none⟩ = some (.int .i64 (rd_T37 L i).f3) /\ w'.cell? ⟨(ad.add (i.toNat * 5)).block,(ad.add (i.toNat * 5)).off + 4,none⟩ = some (.int .i64 (rd_T37 L i).f4)) (ds:=[]) walk6.mk0 (by kernel_rfl) rfl rfl ⟨(blk_cell HX.out 1).trans rfl,(blk_cell HS.out.blk 0).trans rfl,(blk_cell HS.out.blk 3).trans rfl,Y0.out,Y1.out,Y2.out,Y3.out,Y4.out⟩ (fun hHeld=>?_);refine with_tabW walk6.tab walk6.bits (fun HT_ HW_=>?_)
 generalize W.drew = W1 at HX HS HB Y0 Y1 Y2 Y3 Y4 hHeld ⊢
 refine pz_ HT_ 0 (some 33) walk6.mk1 ?_
 refine pz_ HT_ 2 (some 35) walk6.mk2 ?_
 refine pz_ HT_ 3 (some 36) walk6.mk3 ?_
 refine pz_ HT_ 4 (some 37) walk6.mk4 ?_
 refine tk_ HT_ HW_ hHeld 1 (some 34) walk6.mk5 ?_
 refine tk_ HT_ HW_ hHeld 5 (some 38) walk6.mk6 ?_
 refine pz_ HT_ 6 (some 39) walk6.mk7 ?_
 refine pz_ HT_ 7 (some 40) walk6.mk8 ?_
 refine one_ (i:=8) (N:=some 41) walk6.mk9 rfl rfl (one_of HT_.out (by kernel_rfl)) (by decide) (fun K hK=>?_)
 refine gs_ Try.func71 #[.int .i64 i,.int .i64 0,.int .i64 (wrap64 ((L.length:Int) - 1))] ?_
 refine (impl_within.calls i 0 (wrap64 ((L.length:Int) - 1)) true _ hwi).mono ?_
 rintro e w1 ⟨rfl,⟨n1_,rfl⟩⟩
 refine ⟨_,rfl,?_⟩
 replace HX:=ak (blk_drewN HX.out n1_)
 replace HS:=ak (HS.out.below (pw_below_drewN (Below.refl _ _) n1_))
 replace HB:=ak (pw_below_drewN HB.out n1_)
 replace Y0:=ak (bc_ (pw_below_drewN (Below.refl _ _) n1_) Y0.out)
 replace Y1:=ak (bc_ (pw_below_drewN (Below.refl _ _) n1_) Y1.out)
 replace Y2:=ak (bc_ (pw_below_drewN (Below.refl _ _) n1_) Y2.out)
 replace Y3:=ak (bc_ (pw_below_drewN (Below.refl _ _) n1_) Y3.out)
 replace Y4:=ak (bc_ (pw_below_drewN (Below.refl _ _) n1_) Y4.out)
 refine hK.out _ _ ⟨(blk_cell HX.out 1).trans rfl,(blk_cell HS.out.blk 0).trans rfl,(blk_cell HS.out.blk 3).trans rfl,Y0.out,Y1.out,Y2.out,Y3.out,Y4.out⟩ (fun hHeld=>?_)
 clear hK K
 refine na_ ?_
 generalize W1.drewN n1_ = W2 at HX HS HB Y0 Y1 Y2 Y3 Y4 hHeld ⊢
 refine pz_ HT_ 9 (some 42) walk6.mk10 ?_
 refine pz_ HT_ 10 (some 43) walk6.mk11 ?_
 refine pz_ HT_ 11 (some 44) walk6.mk12 ?_
 refine pz_ HT_ 12 (some 45) walk6.mk13 ?_
 refine pz_ HT_ 13 (some 46) walk6.mk14 ?_
 refine pz_ HT_ 15 (some 48) walk6.mk15 ?_
 refine pz_ HT_ 20 (some 53) walk6.mk16 ?_
 refine pz_ HT_ 21 (some 54) walk6.mk17 ?_
 refine pz_ HT_ 22 (some 55) walk6.mk18 ?_
 refine tk_ HT_ HW_ hHeld 14 (some 47) walk6.mk19 ?_
 refine tk_ HT_ HW_ hHeld 16 (some 49) walk6.mk20 ?_
 refine pz_ HT_ 17 (some 50) walk6.mk21 ?_
 refine pz_ HT_ 18 (some 51) walk6.mk22 ?_
 refine tk_ HT_ HW_ hHeld 19 (some 52) walk6.mk23 ?_
 refine tk_ HT_ HW_ hHeld 23 (some 56) walk6.mk24 ?_
 refine pz_ HT_ 24 (some 57) walk6.mk25 ?_
 refine pz_ HT_ 25 (some 58) walk6.mk26 ?_
 refine pz_ HT_ 26 (some 59) walk6.mk27 ?_
 refine pz_ HT_ 27 (some 60) walk6.mk28 ?_
 refine pz_ HT_ 28 (some 61) walk6.mk29 ?_
 refine pz_ HT_ 30 (some 63) walk6.mk30 ?_
 refine pz_ HT_ 35 (some 68) walk6.mk31 ?_
 refine pz_ HT_ 36 (some 69) walk6.mk32 ?_
 refine pz_ HT_ 37 (some 70) walk6.mk33 ?_
 refine tk_ HT_ HW_ hHeld 29 (some 62) walk6.mk34 ?_
 refine tk_ HT_ HW_ hHeld 31 (some 64) walk6.mk35 ?_
 refine pz_ HT_ 32 (some 65) walk6.mk36 ?_
 refine pz_ HT_ 33 (some 66) walk6.mk37 ?_
 refine tk_ HT_ HW_ hHeld 34 (some 67) walk6.mk38 ?_
 refine tk_ HT_ HW_ hHeld 38 (some 71) walk6.mk39 ?_
 refine pz_ HT_ 39 (some 72) walk6.mk40 ?_
 refine pz_ HT_ 40 (some 73) walk6.mk41 ?_
 refine pz_ HT_ 41 (some 74) walk6.mk42 ?_
 refine done_ (done_of HT_.out (by kernel_rfl)) ?_
 go_wp2_with fail
 go_ret
 exact ⟨rfl,HS.out,HB.out⟩
def walk10.T:Bool × List (List Nat × List Nat):=(true,[([],[]),([0],[0]),([1],[1]),([2],[2]),([3,2],[3]),([4],[4]),([5,4],[4,5]),([6,4],[4,6]),([4],[4]),([8,4],[4,8]),([9,4],[4,9]),([10,4],[4,10]),([7,11,4],[4,7,11]),([4,12],[4,12])])
def walk10.B:List Nat:=[0,1,3,7,15,31,63,127,31,287,799,1823,4095,8191]
theorem walk10.tab:rtab .any (opsOf Try.f105 10) = walk10.T:=by kernel_rfl
theorem walk10.bits:waitsOk walk10.T.2 walk10.B = true:=by kernel_rfl
abbrev walk10.mk0:Array Bool:=#[fF,fF,fF,fF,fF,fF,fF,fF,fF,fF,fF,fF,fF,fF]
abbrev walk10.mk1:Array Bool:=#[tT,fF,fF,fF,fF,fF,fF,fF,fF,fF,fF,fF,fF,fF]
abbrev walk10.mk2:Array Bool:=#[tT,tT,fF,fF,fF,fF,fF,fF,fF,fF,fF,fF,fF,fF]
abbrev walk10.mk3:Array Bool:=#[tT,tT,tT,fF,fF,fF,fF,fF,fF,fF,fF,fF,fF,fF]
abbrev walk10.mk4:Array Bool:=#[tT,tT,tT,tT,fF,fF,fF,fF,fF,fF,fF,fF,fF,fF]
abbrev walk10.mk5:Array Bool:=#[tT,tT,tT,tT,tT,fF,fF,fF,fF,fF,fF,fF,fF,fF]
abbrev walk10.mk6:Array Bool:=#[tT,tT,tT,tT,tT,tT,fF,fF,fF,fF,fF,fF,fF,fF]
abbrev walk10.mk7:Array Bool:=#[tT,tT,tT,tT,tT,tT,tT,fF,fF,fF,fF,fF,fF,fF]
abbrev walk10.mk8:Array Bool:=#[tT,tT,tT,tT,tT,tT,tT,fF,tT,fF,fF,fF,fF,fF]
abbrev walk10.mk9:Array Bool:=#[tT,tT,tT,tT,tT,tT,tT,fF,tT,tT,fF,fF,fF,fF]
abbrev walk10.mk10:Array Bool:=#[tT,tT,tT,tT,tT,tT,tT,fF,tT,tT,tT,fF,fF,fF]
abbrev walk10.mk11:Array Bool:=#[tT,tT,tT,tT,tT,tT,tT,tT,tT,tT,tT,fF,fF,fF]
abbrev walk10.mk12:Array Bool:=#[tT,tT,tT,tT,tT,tT,tT,tT,tT,tT,tT,tT,fF,fF]
abbrev walk10.mk13:Array Bool:=#[tT,tT,tT,tT,tT,tT,tT,tT,tT,tT,tT,tT,tT,fF]
abbrev walk10.mk14:Array Bool:=#[tT,tT,tT,tT,tT,tT,tT,tT,tT,tT,tT,tT,tT,tT]
def walk12.T:Bool × List (List Nat × List Nat):=(true,[([],[]),([],[]),([1],[1]),([2],[2]),([3],[3]),([],[]),([5],[5]),([6],[6]),([4,7],[4,7]),([0,0,1,2,3,4,5,6,7,8],[0]),([9,0,1,2,3,4,5,6,7,8],[9]),([10,8,8,0,1,2,3,4,5,6,7,8],[8,10])])
def walk12.B:List Nat:=[0,0,2,6,14,0,32,96,254,511,1023,2047]
theorem walk12.tab:rtab .any (opsOf Try.f105 12) = walk12.T:=by kernel_rfl
theorem walk12.bits:waitsOk walk12.T.2 walk12.B = true:=by kernel_rfl
abbrev walk12.mk0:Array Bool:=#[fF,fF,fF,fF,fF,fF,fF,fF,fF,fF,fF,fF]
abbrev walk12.mk1:Array Bool:=#[tT,fF,fF,fF,fF,fF,fF,fF,fF,fF,fF,fF]
abbrev walk12.mk2:Array Bool:=#[tT,tT,fF,fF,fF,fF,fF,fF,fF,fF,fF,fF]
abbrev walk12.mk3:Array Bool:=#[tT,tT,tT,fF,fF,fF,fF,fF,fF,fF,fF,fF]
abbrev walk12.mk4:Array Bool:=#[tT,tT,tT,tT,fF,fF,fF,fF,fF,fF,fF,fF]
abbrev walk12.mk5:Array Bool:=#[tT,tT,tT,tT,fF,tT,fF,fF,fF,fF,fF,fF]
abbrev walk12.mk6:Array Bool:=#[tT,tT,tT,tT,tT,tT,fF,fF,fF,fF,fF,fF]
abbrev walk12.mk7:Array Bool:=#[tT,tT,tT,tT,tT,tT,tT,fF,fF,fF,fF,fF]
abbrev walk12.mk8:Array Bool:=#[tT,tT,tT,tT,tT,tT,tT,tT,fF,fF,fF,fF]
abbrev walk12.mk9:Array Bool:=#[tT,tT,tT,tT,tT,tT,tT,tT,tT,fF,fF,fF]
abbrev walk12.mk10:Array Bool:=#[tT,tT,tT,tT,tT,tT,tT,tT,tT,tT,fF,fF]
abbrev walk12.mk11:Array Bool:=#[tT,tT,tT,tT,tT,tT,tT,tT,tT,tT,tT,fF]
abbrev walk12.mk12:Array Bool:=#[tT,tT,tT,tT,tT,tT,tT,tT,tT,tT,tT,tT]
theorem ExS.putL {w:World} {base g:Nat} {vL vV vD:Value} {L':List S37} {V D:List Bool} {p t:Int} {vL':Value} (hb:w.heap[g]? = some (.cells #[vL,vV,vD,.int .i64 p,.int .i64 t] 30 (0,0))) (gb:base <= g) (rL:Kd.R k37 37 w base (fun _=>True) vL' L')
  (rV:Kd.R Kd.bool 4 w base (fun k=>some k ≠ vD.ownBlock) vV V) (rD:Kd.R Kd.bool 4 w base (fun k=>some k ≠ vV.ownBlock) vD D):ExS (w.setCell ⟨g,0,none⟩ vL') base g vL' vV vD L' V D p t:=by
 have hk:KeepBut w (w.setCell ⟨g,0,none⟩ vL') g none:=KeepBut.set_ (KeepBut.refl _ _ _) 0 _
 exact ⟨blk_put hb 0 _ rfl,gb,Kd.R_mono (Kd.R_keep (own_ne_ rL rfl hb (by decide)) hk (fun _ hk=>hk.2)) (fun _ hk=>hk.1),Kd.R_mono (Kd.R_keep (own_ne_ rV rfl hb (by decide)) hk (fun _ hk=>hk.2)) (fun _ hk=>hk.1),Kd.R_mono (Kd.R_keep (own_ne_ rD rfl hb (by decide)) hk (fun _ hk=>hk.2)) (fun _ hk=>hk.1)⟩
theorem walk_k2F (g:Nat) (vL vV vD:Value) (L:List S37) (V D:List Bool) (p t a b tp c s:Int) (w0 w:World) (hS:ExS w w0.heap.size g vL vV vD L V D p t) (hB:Below w0.heap.size w0 w) (hok:impl_IsLeg.f a b tp c s = some false) :
  Calls Try.prog 105 #[.pointer (some ⟨g,0,none⟩),.agg #[.int .i64 2,.int .i64 0,.int .i64 a,.int .i64 b,.int .i64 tp,.int .i64 c,.int .i64 s]] w fun e w'=>e = .returned (.bool false) /\ ExS w' w0.heap.size g vL vV vD L V D p t /\ Below w0.heap.size w0 w':=by
 have hgw:g < w.heap.size:=blk_lt hS.blk
 have hne:w.heap.size ≠ g:=by omega
 have hu1:=Try.underlying39
 have hu2:=Try.underlying30
 have hu3:=Try.underlying37
 have hu4:=Try.underlying28
 obtain ⟨A0,c0,rfl⟩:=Kd.R_slice hS.rL
 have HX:=ak (blk_new w (.cells #[.int .i64 2,.int .i64 0,.int .i64 a,.int .i64 b,.int .i64 tp,.int .i64 c,.int .i64 s] 39 (0,0)))
 have HS:=ak (hS.below (below_alloc (Below.refl _ w) (.cells #[.int .i64 2,.int .i64 0,.int .i64 a,.int .i64 b,.int .i64 tp,.int .i64 c,.int .i64 s] 39 (0,0))))
 have HB:=ak (below_alloc hB (.cells #[.int .i64 2,.int .i64 0,.int .i64 a,.int .i64 b,.int .i64 tp,.int .i64 c,.int .i64 s] 39 (0,0)))
 clear hS hB
 go_enter Try.func105,Try.ntmps105
 go_wp2_with fail
 generalize w.alloc (.cells #[.int .i64 2,.int .i64 0,.int .i64 a,.int .i64 b,.int .i64 tp,.int .i64 c,.int .i64 s] 39) = W at HX HS HB ⊢
 replace HX:=ak (blk_drew HX.out)
 replace HS:=ak (HS.out.below (below_drew (Below.refl _ W)))
 replace HB:=ak (below_drew HB.out)
 refine start_ (n:=14) (S:=fun w'=>w'.cell? ⟨w.heap.size,2,none⟩ = some (.int .i64 a) /\ w'.cell? ⟨w.heap.size,3,none⟩ = some (.int .i64 b) /\ w'.cell? ⟨w.heap.size,4,none⟩ = some (.int .i64 tp) /\ w'.cell? ⟨w.heap.size,5,none⟩ = some (.int .i64 c) /\ w'.cell? ⟨w.heap.size,6,none⟩ = some (.int .i64 s) /\ w'.cell? ⟨g,3,none⟩ = some (.int .i64 p)) (ds:=[]) walk10.mk0 (by kernel_rfl) rfl rfl ⟨(blk_cell HX.out 2).trans rfl,(blk_cell HX.out 3).trans rfl,(blk_cell HX.out 4).trans rfl,(blk_cell HX.out 5).trans rfl,(blk_cell HX.out 6).trans rfl,(blk_cell HS.out.blk 3).trans rfl⟩ (fun hHeld=>?_);refine with_tabW walk10.tab walk10.bits (fun HT_ HW_=>?_)
 generalize W.drew = W1 at HX HS HB hHeld ⊢
 refine pz_ HT_ 0 (some 87) walk10.mk1 ?_
 refine tk_ HT_ HW_ hHeld 1 (some 88) walk10.mk2 ?_
 refine one_ (i:=2) (N:=some 89) walk10.mk3 rfl rfl (one_of HT_.out (by kernel_rfl)) (by decide) (fun K hK=>?_)
 refine gs_ Try.func102 #[.agg #[.int .i64 a,.int .i64 b,.int .i64 tp,.int .i64 c,.int .i64 s]] ?_
 refine (impl_IsLeg.calls a b tp c s false _ hok).mono ?_
 rintro e w1 ⟨rfl,hb⟩
 refine ⟨_,rfl,?_⟩
 replace HX:=ak (bb_ HX.out hb)
 replace HS:=ak (HS.out.below hb)
 replace HB:=ak (below_step HB.out hb)
 clear hb
 refine hK.out _ _ ⟨(blk_cell HX.out 2).trans rfl,(blk_cell HX.out 3).trans rfl,(blk_cell HX.out 4).trans rfl,(blk_cell HX.out 5).trans rfl,(blk_cell HX.out 6).trans rfl,(blk_cell HS.out.blk 3).trans rfl⟩ (fun hHeld=>?_)
 clear hK K
 refine na_ ?_
 refine pz_ HT_ 3 (some 90) walk10.mk4 ?_
 refine pz_ HT_ 4 (some 91) walk10.mk5 ?_
 refine pu_ HT_ 5 (some 92) walk10.mk6 ?_
 refine pu_ HT_ 6 (some 93) walk10.mk7 ?_
 refine pu_ HT_ 8 (some 95) walk10.mk8 ?_
 refine pu_ HT_ 9 (some 96) walk10.mk9 ?_
 refine pu_ HT_ 10 (some 97) walk10.mk10 ?_
 refine pu_ HT_ 7 (some 94) walk10.mk11 ?_
 refine pu_ HT_ 11 (some 98) walk10.mk12 ?_
 refine pu_ HT_ 12 (some 99) walk10.mk13 ?_
 refine pz_ HT_ 13 (some 100) walk10.mk14 ?_
 refine done_ (done_of HT_.out (by kernel_rfl)) ?_
 go_wp2_with fail
 go_ret
 exact ⟨rfl,HS.out,HB.out⟩
theorem walk_k2N (g:Nat) (vL vV vD:Value) (L:List S37) (V D:List Bool) (p t a b tp c s:Int) (w0 w:World) (hS:ExS w w0.heap.size g vL vV vD L V D p t) (hB:Below w0.heap.size w0 w) (hok:impl_IsLeg.f a b tp c s = some true) (hap:a ≠ p) :
  Calls Try.prog 105 #[.pointer (some ⟨g,0,none⟩),.agg #[.int .i64 2,.int .i64 0,.int .i64 a,.int .i64 b,.int .i64 tp,.int .i64 c,.int .i64 s]] w fun e w'=>e = .returned (.bool false) /\ ExS w' w0.heap.size g vL vV vD L V D p t /\ Below w0.heap.size w0 w':=by
 have hgw:g < w.heap.size:=blk_lt hS.blk
 have hne:w.heap.size ≠ g:=by omega
 have hu1:=Try.underlying39
 have hu2:=Try.underlying30
 have hu3:=Try.underlying37
 have hu4:=Try.underlying28
 obtain ⟨A0,c0,rfl⟩:=Kd.R_slice hS.rL
 have n0:(a != p) = true:=bne_iff_ne.mpr hap
 clear hap
 have HX:=ak (blk_new w (.cells #[.int .i64 2,.int .i64 0,.int .i64 a,.int .i64 b,.int .i64 tp,.int .i64 c,.int .i64 s] 39 (0,0)))
 have HS:=ak (hS.below (below_alloc (Below.refl _ w) (.cells #[.int .i64 2,.int .i64 0,.int .i64 a,.int .i64 b,.int .i64 tp,.int .i64 c,.int .i64 s] 39 (0,0))))
 have HB:=ak (below_alloc hB (.cells #[.int .i64 2,.int .i64 0,.int .i64 a,.int .i64 b,.int .i64 tp,.int .i64 c,.int .i64 s] 39 (0,0)))
 clear hS hB
 go_enter Try.func105,Try.ntmps105
 go_wp2_with fail
 generalize w.alloc (.cells #[.int .i64 2,.int .i64 0,.int .i64 a,.int .i64 b,.int .i64 tp,.int .i64 c,.int .i64 s] 39) = W at HX HS HB ⊢
 replace HX:=ak (blk_drew HX.out)
 replace HS:=ak (HS.out.below (below_drew (Below.refl _ W)))
 replace HB:=ak (below_drew HB.out)
 refine start_ (n:=14) (S:=fun w'=>w'.cell? ⟨w.heap.size,2,none⟩ = some (.int .i64 a) /\ w'.cell? ⟨w.heap.size,3,none⟩ = some (.int .i64 b) /\ w'.cell? ⟨w.heap.size,4,none⟩ = some (.int .i64 tp) /\ w'.cell? ⟨w.heap.size,5,none⟩ = some (.int .i64 c) /\ w'.cell? ⟨w.heap.size,6,none⟩ = some (.int .i64 s) /\ w'.cell? ⟨g,3,none⟩ = some (.int .i64 p)) (ds:=[]) walk10.mk0 (by kernel_rfl) rfl rfl ⟨(blk_cell HX.out 2).trans rfl,(blk_cell HX.out 3).trans rfl,(blk_cell HX.out 4).trans rfl,(blk_cell HX.out 5).trans rfl,(blk_cell HX.out 6).trans rfl,(blk_cell HS.out.blk 3).trans rfl⟩ (fun hHeld=>?_);refine with_tabW walk10.tab walk10.bits (fun HT_ HW_=>?_)
 generalize W.drew = W1 at HX HS HB hHeld ⊢
 refine pz_ HT_ 0 (some 87) walk10.mk1 ?_
 refine tk_ HT_ HW_ hHeld 1 (some 88) walk10.mk2 ?_
 refine one_ (i:=2) (N:=some 89) walk10.mk3 rfl rfl (one_of HT_.out (by kernel_rfl)) (by decide) (fun K hK=>?_)
 refine gs_ Try.func102 #[.agg #[.int .i64 a,.int .i64 b,.int .i64 tp,.int .i64 c,.int .i64 s]] ?_
 refine (impl_IsLeg.calls a b tp c s true _ hok).mono ?_
 rintro e w1 ⟨rfl,hb⟩
 refine ⟨_,rfl,?_⟩
 replace HX:=ak (bb_ HX.out hb)
 replace HS:=ak (HS.out.below hb)
 replace HB:=ak (below_step HB.out hb)
 clear hb
 refine hK.out _ _ ⟨(blk_cell HX.out 2).trans rfl,(blk_cell HX.out 3).trans rfl,(blk_cell HX.out 4).trans rfl,(blk_cell HX.out 5).trans rfl,(blk_cell HX.out 6).trans rfl,(blk_cell HS.out.blk 3).trans rfl⟩ (fun hHeld=>?_)
 clear hK K
 refine na_ ?_
 refine pz_ HT_ 3 (some 90) walk10.mk4 ?_
 refine pz_ HT_ 4 (some 91) walk10.mk5 ?_
 refine pz_ HT_ 5 (some 92) walk10.mk6 ?_
 refine pz_ HT_ 6 (some 93) walk10.mk7 ?_
 refine pz_ HT_ 8 (some 95) walk10.mk8 ?_
 refine pz_ HT_ 9 (some 96) walk10.mk9 ?_
 refine pz_ HT_ 10 (some 97) walk10.mk10 ?_
 refine tk_ HT_ HW_ hHeld 7 (some 94) walk10.mk11 ?_
 refine tk_ HT_ HW_ hHeld 11 (some 98) walk10.mk12 ?_
 refine pz_ HT_ 12 (some 99) walk10.mk13 ?_
 refine pz_ HT_ 13 (some 100) walk10.mk14 ?_
 refine done_ (done_of HT_.out (by kernel_rfl)) ?_
 go_wp2_with fail
 go_ret
 exact ⟨rfl,HS.out,HB.out⟩
theorem walk_k2T (g:Nat) (vL vV vD:Value) (L:List S37) (V D:List Bool) (t a b tp c s:Int) (w0 w:World) (hS:ExS w w0.heap.size g vL vV vD L V D a t) (hB:Below w0.heap.size w0 w) (hok:impl_IsLeg.f a b tp c s = some true) (hl:L.length < 1000000) (h0:0 <= wrap64 (wrap64 (a + b) - a)) (h1:wrap64 (wrap64 (a + b) - a) < (V.length:Int)) :
  Calls Try.prog 105 #[.pointer (some ⟨g,0,none⟩),.agg #[.int .i64 2,.int .i64 0,.int .i64 a,.int .i64 b,.int .i64 tp,.int .i64 c,.int .i64 s]] w fun e w'=>∃ vL',e = .returned (.bool true) /\ ExS w' w0.heap.size g vL' vV vD (L ++ [⟨a,b,tp,c,s⟩]) (V.set (wrap64 (wrap64 (a + b) - a)).toNat true) D (wrap64 (wrap64 (a + b) - a)) (wrap64 (t - wrap64 (3 * tp))) /\ Below w0.heap.size w0 w':=by
 have hgw:g < w.heap.size:=blk_lt hS.blk
 have hne:w.heap.size ≠ g:=by omega
 have hu1:=Try.underlying39
 have hu2:=Try.underlying30
 have hu3:=Try.underlying37
 have hu4:=Try.underlying28
 obtain ⟨A0,c0,rfl⟩:=Kd.R_slice hS.rL
 have n0:(a != a) = false:=bne_eq_false_iff_eq.mpr rfl
 have HX:=ak (blk_new w (.cells #[.int .i64 2,.int .i64 0,.int .i64 a,.int .i64 b,.int .i64 tp,.int .i64 c,.int .i64 s] 39 (0,0)))
 have HS:=ak (hS.below (below_alloc (Below.refl _ w) (.cells #[.int .i64 2,.int .i64 0,.int .i64 a,.int .i64 b,.int .i64 tp,.int .i64 c,.int .i64 s] 39 (0,0))))
 have HB:=ak (below_alloc hB (.cells #[.int .i64 2,.int .i64 0,.int .i64 a,.int .i64 b,.int .i64 tp,.int .i64 c,.int .i64 s] 39 (0,0)))
 clear hS hB
 go_enter Try.func105,Try.ntmps105
 go_wp2_with fail
 generalize w.alloc (.cells #[.int .i64 2,.int .i64 0,.int .i64 a,.int .i64 b,.int .i64 tp,.int .i64 c,.int .i64 s] 39) = W at HX HS HB ⊢
 replace HX:=ak (blk_drew HX.out)
 replace HS:=ak (HS.out.below (below_drew (Below.refl _ W)))
 replace HB:=ak (below_drew HB.out)
 refine start_ (n:=14) (S:=fun w'=>w'.cell? ⟨w.heap.size,2,none⟩ = some (.int .i64 a) /\ w'.cell? ⟨w.heap.size,3,none⟩ = some (.int .i64 b) /\ w'.cell? ⟨w.heap.size,4,none⟩ = some (.int .i64 tp) /\ w'.cell? ⟨w.heap.size,5,none⟩ = some (.int .i64 c) /\ w'.cell? ⟨w.heap.size,6,none⟩ = some (.int .i64 s) /\ w'.cell? ⟨g,3,none⟩ = some (.int .i64 a)) (ds:=[]) walk10.mk0 (by kernel_rfl) rfl rfl ⟨(blk_cell HX.out 2).trans rfl,(blk_cell HX.out 3).trans rfl,(blk_cell HX.out 4).trans rfl,(blk_cell HX.out 5).trans rfl,(blk_cell HX.out 6).trans rfl,(blk_cell HS.out.blk 3).trans rfl⟩ (fun hHeld=>?_);refine with_tabW walk10.tab walk10.bits (fun HT_ HW_=>?_)
 generalize W.drew = W1 at HX HS HB hHeld ⊢
 refine pz_ HT_ 0 (some 87) walk10.mk1 ?_
 refine tk_ HT_ HW_ hHeld 1 (some 88) walk10.mk2 ?_
 refine one_ (i:=2) (N:=some 89) walk10.mk3 rfl rfl (one_of HT_.out (by kernel_rfl)) (by decide) (fun K hK=>?_)
 refine gs_ Try.func102 #[.agg #[.int .i64 a,.int .i64 b,.int .i64 tp,.int .i64 c,.int .i64 s]] ?_
 refine (impl_IsLeg.calls a b tp c s true _ hok).mono ?_
 rintro e w1 ⟨rfl,hb⟩
 refine ⟨_,rfl,?_⟩
 replace HX:=ak (bb_ HX.out hb)
 replace HS:=ak (HS.out.below hb)
 replace HB:=ak (below_step HB.out hb)
 clear hb
 refine hK.out _ _ ⟨(blk_cell HX.out 2).trans rfl,(blk_cell HX.out 3).trans rfl,(blk_cell HX.out 4).trans rfl,(blk_cell HX.out 5).trans rfl,(blk_cell HX.out 6).trans rfl,(blk_cell HS.out.blk 3).trans rfl⟩ (fun hHeld=>?_)
 clear hK K
 refine na_ ?_
 refine pz_ HT_ 3 (some 90) walk10.mk4 ?_
 refine pz_ HT_ 4 (some 91) walk10.mk5 ?_
 refine pz_ HT_ 5 (some 92) walk10.mk6 ?_
 refine pz_ HT_ 6 (some 93) walk10.mk7 ?_
 refine pz_ HT_ 8 (some 95) walk10.mk8 ?_
 refine pz_ HT_ 9 (some 96) walk10.mk9 ?_
 refine pz_ HT_ 10 (some 97) walk10.mk10 ?_
 refine tk_ HT_ HW_ hHeld 7 (some 94) walk10.mk11 ?_
 refine tk_ HT_ HW_ hHeld 11 (some 98) walk10.mk12 ?_
 refine pz_ HT_ 12 (some 99) walk10.mk13 ?_
 refine pz_ HT_ 13 (some 100) walk10.mk14 ?_
 refine done_ (done_of HT_.out (by kernel_rfl)) ?_
 go_wp2_with fail
 replace HX:=ak (blk_drew HX.out)
 replace HS:=ak (HS.out.below (below_drew (Below.refl _ w1)))
 replace HB:=ak (below_drew HB.out)
 refine start_ (n:=12) (S:=fun w'=>w'.cell? ⟨w.heap.size,2,none⟩ = some (.int .i64 a) /\ w'.cell? ⟨w.heap.size,3,none⟩ = some (.int .i64 b) /\ w'.cell? ⟨w.heap.size,4,none⟩ = some (.int .i64 tp) /\ w'.cell? ⟨w.heap.size,5,none⟩ = some (.int .i64 c) /\ w'.cell? ⟨w.heap.size,6,none⟩ = some (.int .i64 s) /\ w'.cell? ⟨g,0,none⟩ = some (.slice A0 L.length c0)) (ds:=[8,11]) walk12.mk0 (by kernel_rfl) rfl rfl ⟨(blk_cell HX.out 2).trans rfl,(blk_cell HX.out 3).trans rfl,(blk_cell HX.out 4).trans rfl,(blk_cell HX.out 5).trans rfl,(blk_cell HX.out 6).trans rfl,(blk_cell HS.out.blk 0).trans rfl⟩ (fun hHeld=>?_);refine with_tabW walk12.tab walk12.bits (fun HT_ HW_=>?_)
 generalize w1.drew = W3 at HX HS HB hHeld ⊢
 refine pz_ HT_ 0 (some 101) walk12.mk1 ?_
 refine pz_ HT_ 1 (some 102) walk12.mk2 ?_
 refine pz_ HT_ 2 (some 103) walk12.mk3 ?_
 refine pz_ HT_ 3 (some 104) walk12.mk4 ?_
 refine pz_ HT_ 5 (some 106) walk12.mk5 ?_
 refine tk_ HT_ HW_ hHeld 4 (some 105) walk12.mk6 ?_
 refine tk_ HT_ HW_ hHeld 6 (some 107) walk12.mk7 ?_
 refine one_ (i:=7) (N:=some 108) walk12.mk8 rfl rfl (one_of HT_.out (by kernel_rfl)) (by decide) (fun K hK=>?_)
 refine value_ (w1:=?_) (v:=?_) (by rfl) rfl ?_ ?_
 rotate_left 2
 .
  go_simp
  constructor
  .
   rfl
  .
   rfl
 refine hK.out _ _ ⟨(blk_cell (blk_alloc HX.out _) 2).trans rfl,(blk_cell (blk_alloc HX.out _) 3).trans rfl,(blk_cell (blk_alloc HX.out _) 4).trans rfl,(blk_cell (blk_alloc HX.out _) 5).trans rfl,(blk_cell (blk_alloc HX.out _) 6).trans rfl,(blk_cell (blk_alloc HS.out.blk _) 0).trans rfl⟩ (fun hHeld=>?_)
 clear hK K
 refine na_ ?_
 refine last_ (i:=8) (N:=some 109) walk12.mk9 rfl rfl (one_of HT_.out (by kernel_rfl)) (by decide) (fun K hK=>?_)
 refine Kd.R_append_step k37 w0.heap.size (by rfl) (.tmp 105) (.tmp 108) 28 37 (.agg #[(.int .i64 0),(.int .i64 0),(.int .i64 0),(.int .i64 0),(.int .i64 0)]) 40 rfl Try.underlying28 info37 rfl (by decide) (by omega) (.slice A0 L.length c0) L (⟨a,b,tp,c,s⟩:S37) [.int .i64 a,.int .i64 b,.int .i64 tp,.int .i64 c,.int .i64 s] (fun _=>True) (fun _=>False) rfl rfl ?aP (fun _ hk=>hk.elim) ?aF ?aO HB.out ?aS ?aL ?_
 (case aP=>exact k37_mkM _ _ _ (⟨a,b,tp,c,s⟩:S37))
 (case aF=>exact (fun _ _=>trivial))
 (case aO=>exact HS.out.rL)
 (case aS=>exact HB.out.size)
 (case aL=>omega)
 intro v9 w5 ho hb hg hat
 replace HX:=ak (blk_grown HX.out hg (Kd.R_ne HS.out.rL HX.out (by decide)))
 have HBK:=ak (blk_grown HS.out.blk hg (Kd.R_ne HS.out.rL HS.out.blk (by decide)))
 have HRV:=ak (Kd.R_over' HS.out.rV (Kd.R_typed HS.out.rL) (by decide) hg)
 have HRD:=ak (Kd.R_over' HS.out.rD (Kd.R_typed HS.out.rL) (by decide) hg)
 have HGB:=ak HS.out.gb
 replace HB:=ak hb
 clear HS hb hg hat
 obtain ⟨A9,c9,e9⟩:=Kd.R_slice ho
 rw [show (L ++ [(⟨a,b,tp,c,s⟩:S37)]).length = L.length + 1 from List.length_append] at e9
 subst e9
 have HRL:=ak ho
 clear ho
 refine hK.out _ _ ?_
 clear hK K
 refine na_ ?_
 refine pz_ HT_ 9 (some 110) walk12.mk10 ?_
 refine pz_ HT_ 10 (some 111) walk12.mk11 ?_
 refine last_ (i:=11) (N:=none) walk12.mk12 rfl rfl (one_of HT_.out (by kernel_rfl)) (by decide) (fun K hK=>?_)
 have hs9:w5.cell? ⟨g,0,none⟩ = some (.slice A0 L.length c0):=(blk_cell HBK.out 0).trans rfl
 have hfs9:=blk_frozen HBK.out 0
 refine skip_ (w1:=?_) (by rfl) rfl ?_ ?_
 rotate_left
 .
  go_simp
  rfl
 refine hK.out _ _ ?_
 clear hK K hs9 hfs9
 refine done_ (done_of HT_.out (by kernel_rfl)) ?_
 have HS:=ak (ExS.putL HBK.out HGB.out HRL.out HRV.out HRD.out)
 replace HX:=ak (blk_far (p:=⟨g,0,none⟩) HX.out hne (.slice A9 (L.length + 1) c9))
 replace HB:=ak (below_set (j:=0) (v:=.slice A9 (L.length + 1) c9) HB.out HGB.out)
 clear HBK HGB HRL HRV HRD
 generalize w5.setCell ⟨g,0,none⟩ (.slice A9 (L.length + 1) c9) = W5 at HX HS HB ⊢
 have x2:W5.cell? ⟨w.heap.size,2,none⟩ = some (.int .i64 a):=(blk_cell HX.out 2).trans rfl
 have x3:W5.cell? ⟨w.heap.size,3,none⟩ = some (.int .i64 b):=(blk_cell HX.out 3).trans rfl
 have x4:W5.cell? ⟨w.heap.size,4,none⟩ = some (.int .i64 tp):=(blk_cell HX.out 4).trans rfl
 have x5:W5.cell? ⟨w.heap.size,5,none⟩ = some (.int .i64 c):=(blk_cell HX.out 5).trans rfl
 have x6:W5.cell? ⟨w.heap.size,6,none⟩ = some (.int .i64 s):=(blk_cell HX.out 6).trans rfl
 go_wp2_with (go_at_call 119;refine (goAlong_calls g _ vV vD _ V D a t a b tp c s 3 w0 _ HS.out HB.out h0 h1).mono ?_;rintro e w9 ⟨rfl,hS9,hB9⟩)
 go_ret
 exact ⟨_,rfl,hS9,hB9⟩
theorem walk_c0 (g:Nat) (vL vV vD:Value) (L:List S37) (V D:List Bool) (p t k i a b tp c s:Int) (w0 w:World) (hS:ExS w w0.heap.size g vL vV vD L V D p t) (hB:Below w0.heap.size w0 w) (c0:(k ≠ 2 /\ ¬ (a = 0 /\ b = 0 /\ tp = 0 /\ c = 0 /\ s = 0)) \/ ((k = 2 \/ k = 3) /\ i ≠ 0)) :
  Calls Try.prog 105 #[.pointer (some ⟨g,0,none⟩),.agg #[.int .i64 k,.int .i64 i,.int .i64 a,.int .i64 b,.int .i64 tp,.int .i64 c,.int .i64 s]] w fun e w'=>∃ vL',e = .returned (.bool false) /\ ExS w' w0.heap.size g vL' vV vD L V D p t /\ Below w0.heap.size w0 w':=by
 have hgw:g < w.heap.size:=blk_lt hS.blk
 have HX:=ak (blk_new w (.cells #[.int .i64 k,.int .i64 i,.int .i64 a,.int .i64 b,.int .i64 tp,.int .i64 c,.int .i64 s] 39 (0,0)))
 have HS:=ak (hS.below (below_alloc (Below.refl _ w) (.cells #[.int .i64 k,.int .i64 i,.int .i64 a,.int .i64 b,.int .i64 tp,.int .i64 c,.int .i64 s] 39 (0,0))))
 have HB:=ak (below_alloc hB (.cells #[.int .i64 k,.int .i64 i,.int .i64 a,.int .i64 b,.int .i64 tp,.int .i64 c,.int .i64 s] 39 (0,0)))
 have hne:w.heap.size ≠ g:=by omega
 clear hS hB
 go_enter Try.func105,Try.ntmps105
 go_wp2_with fail
 all_goals first|(go_ret;exact ⟨_,rfl,HS.out,HB.out⟩)|(go_ret;subst_vars;exact ⟨_,rfl,HS.out,HB.out⟩)|(go_ret;exact ⟨rfl,⟨_,HS.out⟩,HB.out⟩)|(exfalso;rcases c0 with ⟨h1,h2⟩|⟨h1|h1,h2⟩ <;> first|omega|exact h2 ⟨rfl,rfl,rfl,rfl,rfl⟩|(simp_all;done))|go_outline
theorem walk_k3 (g:Nat) (vL vV vD:Value) (L:List S37) (V D:List Bool) (p t k i:Int) (L':List S37) (V' D':List Bool) (p' t':Int) (r:Bool) (w0 w:World) (hS:ExS w w0.heap.size g vL vV vD L V D p t) (hB:Below w0.heap.size w0 w) (c0:¬ ((k ≠ 2 /\ ¬ ((0:Int) = 0 /\ (0:Int) = 0 /\ (0:Int) = 0 /\ (0:Int) = 0 /\ (0:Int) = 0)) \/ ((k = 2 \/ k = 3) /\ i ≠ 0))) (k1:¬ k = 1) (k2:¬ k = 2) (h:(if k = 3 then (if 0 <= p /\ p < (D.length:Int) then (if rdOf false D p = true then some (L,V,D,p,t,false) else some (L,V,D.set p.toNat true,p,t,true)) else none) else if k = 4 then (if p = 0 /\ 1 <= i /\ i <= 1000 then some (L,V,D,p,wrap64 (t + i),true) else some (L,V,D,p,t,false)) else some (L,V,D,p,t,false)) = some (L',V',D',p',t',r)) :
  Calls Try.prog 105 #[.pointer (some ⟨g,0,none⟩),.agg #[.int .i64 k,.int .i64 i,.int .i64 0,.int .i64 0,.int .i64 0,.int .i64 0,.int .i64 0]] w fun e w'=>∃ vL',e = .returned (.bool r) /\ ExS w' w0.heap.size g vL' vV vD L' V' D' p' t' /\ Below w0.heap.size w0 w':=by
 have hgw:g < w.heap.size:=blk_lt hS.blk
 have HX:=ak (blk_new w (.cells #[.int .i64 k,.int .i64 i,.int .i64 0,.int .i64 0,.int .i64 0,.int .i64 0,.int .i64 0] 39 (0,0)))
 have HS:=ak (hS.below (below_alloc (Below.refl _ w) (.cells #[.int .i64 k,.int .i64 i,.int .i64 0,.int .i64 0,.int .i64 0,.int .i64 0,.int .i64 0] 39 (0,0))))
 have HB:=ak (below_alloc hB (.cells #[.int .i64 k,.int .i64 i,.int .i64 0,.int .i64 0,.int .i64 0,.int .i64 0,.int .i64 0] 39 (0,0)))
 have hne:w.heap.size ≠ g:=by omega
 clear hS hB
 by_cases k3:k = 3
 .
  subst k3
  obtain rfl:i = 0:=Classical.byContradiction fun z=>c0 (.inr ⟨.inr rfl,z⟩)
  rw [if_pos rfl] at h
  by_cases hpp:0 <= p /\ p < (D.length:Int)
  .
   rw [if_pos hpp] at h
   obtain ⟨hp0,hp1⟩:=hpp
   obtain ⟨gv,cap,rfl,hgv,hcap,_⟩:=own_block_ HS.out.rD (by omega)
   have g2:(w.alloc (.cells #[.int .i64 3,.int .i64 0,.int .i64 0,.int .i64 0,.int .i64 0,.int .i64 0,.int .i64 0] 39)).cell? ⟨g,2,none⟩ = some (.slice (some ⟨gv,0,none⟩) D.length cap):=(blk_cell HS.out.blk 2).trans rfl
   have g3:(w.alloc (.cells #[.int .i64 3,.int .i64 0,.int .i64 0,.int .i64 0,.int .i64 0,.int .i64 0,.int .i64 0] 39)).cell? ⟨g,3,none⟩ = some (.int .i64 p):=(blk_cell HS.out.blk 3).trans rfl
   obtain ⟨yv,zv⟩:=Kd.R_celln false HS.out.rD p hp0 hp1
   cases hd:rdOf false D p with
   | true=>
    rw [hd] at h yv
    rw [if_pos rfl] at h
    simp only [Option.some.injEq,Prod.mk.injEq] at h
    obtain ⟨rfl,rfl,rfl,rfl,rfl,rfl⟩:=h
    go_enter Try.func105,Try.ntmps105
    go_wp2_with fail
    go_quiet (fail)
    go_wp2_with fail
    go_ret
    first|exact ⟨_,rfl,HS.out.below (pw_below_drewN (Below.refl _ _) _),pw_below_drewN HB.out _⟩|exact ⟨rfl,⟨_,HS.out.below (pw_below_drewN (Below.refl _ _) _)⟩,pw_below_drewN HB.out _⟩
   | false=>
    rw [hd] at h yv
    rw [if_neg (by decide)] at h
    simp only [Option.some.injEq,Prod.mk.injEq] at h
    obtain ⟨rfl,rfl,rfl,rfl,rfl,rfl⟩:=h
    go_enter Try.func105,Try.ntmps105
    go_wp2_with fail
    go_quiet (fail)
    go_wp2_with fail
    generalize hq_:World.drewN (w.alloc (.cells #[.int .i64 3,.int .i64 0,.int .i64 0,.int .i64 0,.int .i64 0,.int .i64 0,.int .i64 0] 39)) _ = W
    have n2_:=ak (HS.out.below (hq_ ▸ pw_below_drewN (Below.refl _ _) _))
    have n3_:=ak (hq_ ▸ pw_below_drewN HB.out _:Below w0.heap.size w0 W)
    clear HX HS HB g2 g3 yv zv hq_
    have HS:=n2_
    have HB:=n3_
    clear n2_ n3_
    have g2:W.cell? ⟨g,2,none⟩ = some (.slice (some ⟨gv,0,none⟩) D.length cap):=(blk_cell HS.out.blk 2).trans rfl
    have g3:W.cell? ⟨g,3,none⟩ = some (.int .i64 p):=(blk_cell HS.out.blk 3).trans rfl
    obtain ⟨yv,zv⟩:=Kd.R_celln false HS.out.rD p hp0 hp1
    go_still_tail 9,(by kernel_rfl)
    go_wp2_with fail
    go_ret
    have n2_:=(HS.out.putD p true).below (below_drew (Below.refl _ _))
    have n3_:=below_drew (below_set (j:=p.toNat) (v:=.bool true) HB.out hgv)
    first|exact ⟨_,rfl,n2_,n3_⟩|exact ⟨rfl,⟨_,n2_⟩,n3_⟩
  .
   rw [if_neg hpp] at h
   cases h
 .
  rw [if_neg k3] at h
  by_cases k4:k = 4
  .
   subst k4
   rw [if_pos rfl] at h
   have hwi:impl_within.f i 1 1000 = some (decide (1 <= i /\ i <= 1000)):=by
    unfold impl_within.f
    by_cases z:i >= 1
    .
     rw [if_pos z]
     simp [show 1 <= i from z]
    .
     rw [if_neg z]
     simp [show ¬ 1 <= i from z]
   have g3:(w.alloc (.cells #[.int .i64 4,.int .i64 i,.int .i64 0,.int .i64 0,.int .i64 0,.int .i64 0,.int .i64 0] 39)).cell? ⟨g,3,none⟩ = some (.int .i64 p):=(blk_cell HS.out.blk 3).trans rfl
   by_cases hp:p = 0
   .
    subst hp
    by_cases hi:1 <= i /\ i <= 1000
    .
     rw [if_pos ⟨rfl,hi⟩] at h
     rw [decide_eq_true hi] at hwi
     simp only [Option.some.injEq,Prod.mk.injEq] at h
     obtain ⟨rfl,rfl,rfl,rfl,rfl,rfl⟩:=h
     go_enter Try.func105,Try.ntmps105
     go_wp2_with (go_at_call 71;refine (impl_within.calls i 1 1000 true _ hwi).mono ?_;rintro e w1 ⟨rfl,⟨n1,rfl⟩⟩)
     have n1_:=ak (blk_drewN HX.out n1)
     have n2_:=ak (HS.out.below (pw_below_drewN (Below.refl _ _) n1))
     have n3_:=ak (pw_below_drewN HB.out n1)
     clear HX HS HB g3
     have HX:=n1_
     have HS:=n2_
     have HB:=n3_
     clear n1_ n2_ n3_
     generalize (w.alloc (.cells #[.int .i64 4,.int .i64 i,.int .i64 0,.int .i64 0,.int .i64 0,.int .i64 0,.int .i64 0] 39)).drewN n1 = W at HX HS HB ⊢
     have x1:W.cell? ⟨w.heap.size,1,none⟩ = some (.int .i64 i):=(blk_cell HX.out 1).trans rfl
     have g4:W.cell? ⟨g,4,none⟩ = some (.int .i64 t):=(blk_cell HS.out.blk 4).trans rfl
     have z4:=blk_frozen HS.out.blk 4
     go_still_tail 9,(by kernel_rfl)
     go_wp2_with fail
     go_ret
     exact ⟨_,rfl,(HS.out.put4 (wrap64 (t + i))).below (below_drew (Below.refl _ _)),below_drew (below_set (j:=4) (v:=.int .i64 (wrap64 (t + i))) HB.out HS.out.gb)⟩
    .
     rw [if_neg (fun z=>hi z.2)] at h
     rw [decide_eq_false hi] at hwi
     simp only [Option.some.injEq,Prod.mk.injEq] at h
     obtain ⟨rfl,rfl,rfl,rfl,rfl,rfl⟩:=h
     go_enter Try.func105,Try.ntmps105
     go_wp2_with (go_at_call 71;refine (impl_within.calls i 1 1000 false _ hwi).mono ?_;rintro e w1 ⟨rfl,⟨n1,rfl⟩⟩)
     go_ret
     exact ⟨_,rfl,HS.out.below (pw_below_drewN (Below.refl _ _) n1),pw_below_drewN HB.out n1⟩
   .
    rw [if_neg (fun z=>hp z.1)] at h
    simp only [Option.some.injEq,Prod.mk.injEq] at h
    obtain ⟨rfl,rfl,rfl,rfl,rfl,rfl⟩:=h
    go_enter Try.func105,Try.ntmps105
    go_wp2_with fail
    go_ret
    first|exact ⟨_,rfl,HS.out,HB.out⟩|exact ⟨rfl,⟨_,HS.out⟩,HB.out⟩|trace_state
  .
   rw [if_neg k4] at h
   simp only [Option.some.injEq,Prod.mk.injEq] at h
   obtain ⟨rfl,rfl,rfl,rfl,rfl,rfl⟩:=h
   go_enter Try.func105,Try.ntmps105
   go_wp2_with fail
   all_goals first|(go_ret;exact ⟨_,rfl,HS.out,HB.out⟩)|(go_ret;subst_vars;exact ⟨_,rfl,HS.out,HB.out⟩)|(go_ret;exact ⟨rfl,⟨_,HS.out⟩,HB.out⟩)|(exfalso;omega)|(go_ret;trace_state)
theorem walk_calls (g:Nat) (vL vV vD:Value) (L:List S37) (V D:List Bool) (p t k i a b tp c s:Int) (L':List S37) (V' D':List Bool) (p' t':Int) (r:Bool) (w0 w:World) (hS:ExS w w0.heap.size g vL vV vD L V D p t) (hB:Below w0.heap.size w0 w) (h:walk_f L V D p t k i a b tp c s = some (L',V',D',p',t',r)) :
  Calls Try.prog 105 #[.pointer (some ⟨g,0,none⟩),.agg #[.int .i64 k,.int .i64 i,.int .i64 a,.int .i64 b,.int .i64 tp,.int .i64 c,.int .i64 s]] w fun e w'=>∃ vL',e = .returned (.bool r) /\ ExS w' w0.heap.size g vL' vV vD L' V' D' p' t' /\ Below w0.heap.size w0 w':=by
 unfold walk_f at h
 by_cases c0:(k ≠ 2 /\ ¬ (a = 0 /\ b = 0 /\ tp = 0 /\ c = 0 /\ s = 0)) \/ ((k = 2 \/ k = 3) /\ i ≠ 0)
 .
  rw [if_pos c0] at h
  simp only [Option.some.injEq,Prod.mk.injEq] at h
  obtain ⟨rfl,rfl,rfl,rfl,rfl,rfl⟩:=h
  exact walk_c0 g vL vV vD L V D p t k i a b tp c s w0 w hS hB c0
 .
  rw [if_neg c0] at h
  by_cases k1:k = 1
  .
   subst k1
   obtain ⟨rfl,rfl,rfl,rfl,rfl⟩:a = 0 /\ b = 0 /\ tp = 0 /\ c = 0 /\ s = 0:=Classical.byContradiction fun z=>c0 (.inl ⟨by decide,z⟩)
   rw [if_pos rfl] at h
   have hL:L.length <= 9223372036854775807:=by
    obtain ⟨A0,c0,rfl⟩:=Kd.R_slice hS.rL
    exact (Kd.R_reads' hS.rL).2.2.2.1
   by_cases hin:0 <= i /\ i <= wrap64 ((L.length:Int) - 1)
   .
    rw [if_pos hin] at h
    have hwi:impl_within.f i 0 (wrap64 ((L.length:Int) - 1)) = some true:=by
     unfold impl_within.f
     rw [if_pos hin.1,decide_eq_true hin.2]
    have hi1:i < (L.length:Int):=by
     obtain ⟨z1,z2⟩:=hin
     unfold wrap64 at z2
     omega
    by_cases hn:(rd_T37 L i).f0 ≠ p /\ (rd_T37 L i).f1 ≠ p
    .
     rw [if_pos hn] at h
     simp only [Option.some.injEq,Prod.mk.injEq] at h
     obtain ⟨rfl,rfl,rfl,rfl,rfl,rfl⟩:=h
     exact (walk_k1D g vL vV vD L V D p t i w0 w hS hB hwi hin.1 hi1 hn.1 hn.2).mono (fun e w' h=>⟨vL,h⟩)
    .
     rw [if_neg hn] at h
     by_cases hv:0 <= wrap64 (wrap64 ((rd_T37 L i).f0 + (rd_T37 L i).f1) - p) /\ wrap64 (wrap64 ((rd_T37 L i).f0 + (rd_T37 L i).f1) - p) < (V.length:Int)
     .
      rw [if_pos hv] at h
      simp only [Option.some.injEq,Prod.mk.injEq] at h
      obtain ⟨rfl,rfl,rfl,rfl,rfl,rfl⟩:=h
      by_cases hf0:(rd_T37 L i).f0 = p
      .
       exact (walk_k1B g vL vV vD L V D p t i w0 w hS hB hwi hin.1 hi1 hf0 hv.1 hv.2).mono (fun e w' h=>⟨vL,h⟩)
      .
       exact (walk_k1C g vL vV vD L V D p t i w0 w hS hB hwi hin.1 hi1 hf0 (Classical.byContradiction fun z=>hn ⟨hf0,z⟩) hv.1 hv.2).mono (fun e w' h=>⟨vL,h⟩)
     .
      rw [if_neg hv] at h
      cases h
   .
    rw [if_neg hin] at h
    simp only [Option.some.injEq,Prod.mk.injEq] at h
    obtain ⟨rfl,rfl,rfl,rfl,rfl,rfl⟩:=h
    have hwi:impl_within.f i 0 (wrap64 ((L.length:Int) - 1)) = some false:=by
     unfold impl_within.f
     by_cases z:i >= 0
     .
      rw [if_pos z,decide_eq_false (fun y=>hin ⟨z,y⟩)]
     .
      rw [if_neg z]
    exact (walk_k1A g vL vV vD L V D p t i w0 w hS hB hwi).mono (fun e w' h=>⟨vL,h⟩)
  .
   rw [if_neg k1] at h
   by_cases k2:k = 2
   .
    subst k2
    obtain rfl:i = 0:=Classical.byContradiction fun z=>c0 (.inr ⟨.inl rfl,z⟩)
    rw [if_pos rfl] at h
    obtain ⟨ok,hok,h⟩:=Option.bind_eq_some_iff.mp h
    cases ok with
    | false=>
     rw [if_neg (fun z=>by cases z.1)] at h
     simp only [Option.some.injEq,Prod.mk.injEq] at h
     obtain ⟨rfl,rfl,rfl,rfl,rfl,rfl⟩:=h
     exact (walk_k2F g vL vV vD L V D p t a b tp c s w0 w hS hB hok).mono (fun e w' h=>⟨vL,h⟩)
    | true=>
     by_cases hap:a = p
     .
      subst hap
      rw [if_pos ⟨rfl,rfl⟩] at h
      by_cases hv:L.length < 1000000 /\ 0 <= wrap64 (wrap64 (a + b) - a) /\ wrap64 (wrap64 (a + b) - a) < (V.length:Int)
      .
       rw [if_pos hv] at h
       simp only [Option.some.injEq,Prod.mk.injEq] at h
       obtain ⟨rfl,rfl,rfl,rfl,rfl,rfl⟩:=h
       exact walk_k2T g vL vV vD L V D t a b tp c s w0 w hS hB hok hv.1 hv.2.1 hv.2.2
      .
       rw [if_neg hv] at h
       cases h
     .
      rw [if_neg (fun z=>hap z.2)] at h
      simp only [Option.some.injEq,Prod.mk.injEq] at h
      obtain ⟨rfl,rfl,rfl,rfl,rfl,rfl⟩:=h
      exact (walk_k2N g vL vV vD L V D p t a b tp c s w0 w hS hB hok hap).mono (fun e w' h=>⟨vL,h⟩)
   .
    rw [if_neg k2] at h
    obtain ⟨rfl,rfl,rfl,rfl,rfl⟩:a = 0 /\ b = 0 /\ tp = 0 /\ c = 0 /\ s = 0:=Classical.byContradiction fun z=>c0 (.inl ⟨k2,z⟩)
    exact walk_k3 g vL vV vD L V D p t k i L' V' D' p' t' r w0 w hS hB c0 k1 k2 h
section
variable {w w0:World} {g base:Nat} {t:TypeId}
theorem set5_R {α:Type} {d:Kd α} {e:Nat} {ok:Nat -> Prop} {v:Value} {xs:List α} {cs:Array Value} (h:d.R e w base ok v xs) (hb:w.heap[g]? = some (.cells cs t (0,0))) (ht:∀ q,q ∈ e :: d.E -> q ≠ t) (a0 a1 a2 a3 a4:Value) :
  d.R e (((((w.setCell ⟨g,0,none⟩ a0).setCell ⟨g,1,none⟩ a1).setCell ⟨g,2,none⟩ a2).setCell ⟨g,3,none⟩ a3).setCell ⟨g,4,none⟩ a4) base ok v xs:=
 Kd.R_mono (Kd.R_far (p:=⟨g,4,none⟩) (Kd.R_far (p:=⟨g,3,none⟩) (Kd.R_far (p:=⟨g,2,none⟩) (Kd.R_far (p:=⟨g,1,none⟩) (Kd.R_far (p:=⟨g,0,none⟩) (Kd.R_types h hb ht) (fun _ hk=>hk.2) a0) (fun _ hk=>hk.2) a1) (fun _ hk=>hk.2) a2) (fun _ hk=>hk.2) a3) (fun _ hk=>hk.2) a4) (fun _ hk=>hk.1)
theorem set5_blk {b0 b1 b2 b3 b4:Value} (h:w.heap[g]? = some (.cells #[b0,b1,b2,b3,b4] t (0,0))) (a0 a1 a2 a3 a4:Value) :
  (((((w.setCell ⟨g,0,none⟩ a0).setCell ⟨g,1,none⟩ a1).setCell ⟨g,2,none⟩ a2).setCell ⟨g,3,none⟩ a3).setCell ⟨g,4,none⟩ a4).heap[g]? = some (.cells #[a0,a1,a2,a3,a4] t (0,0)):=
 blk_put (cs:=#[a0,a1,a2,a3,b4]) (blk_put (cs:=#[a0,a1,a2,b3,b4]) (blk_put (cs:=#[a0,a1,b2,b3,b4]) (blk_put (cs:=#[a0,b1,b2,b3,b4]) (blk_put (cs:=#[b0,b1,b2,b3,b4]) h 0 _ rfl) 1 _ rfl) 2 _ rfl) 3 _ rfl) 4 _ rfl
theorem set5_below (h:Below w0.heap.size w0 w) (hg:w0.heap.size <= g) (a0 a1 a2 a3 a4:Value) :
  Below w0.heap.size w0 (((((w.setCell ⟨g,0,none⟩ a0).setCell ⟨g,1,none⟩ a1).setCell ⟨g,2,none⟩ a2).setCell ⟨g,3,none⟩ a3).setCell ⟨g,4,none⟩ a4):=
 below_set (below_set (below_set (below_set (below_set h hg) hg) hg) hg) hg
end
def impl_walkOn.f (k:Nat) (l0_0:List S37) (l0_1:List Bool) (l0_2:List Bool) (a0_3:Int) (a0_4:Int) (a1_0:Int) (a1_1:Int) (a1_2:Int) (a1_3:Int) (a1_4:Int) (a1_5:Int) (a1_6:Int):Option (List S37 × List Bool × List Bool × Int × Int × Bool):=
 (impl_Exploration_clone.f l0_0 l0_1 l0_2 a0_3 a0_4).bind fun x=>(walk_f x.1 x.2.1 x.2.2.1 x.2.2.2.1 x.2.2.2.2 a1_0 a1_1 a1_2 a1_3 a1_4 a1_5 a1_6).bind fun y=>if y.2.2.2.2.2 = true then (impl_IsExploration.f k y.1 y.2.1 y.2.2.1 y.2.2.2.1 y.2.2.2.2.1).bind fun q=>if q = true then some (y.1,y.2.1,y.2.2.1,y.2.2.2.1,y.2.2.2.2.1,true) else some ([],[],[],0,0,false) else some ([],[],[],0,0,false)
theorem impl_walkOn.mono:∀ a0 a1 a2 a3 a4 b0 b1 b2 b3 b4 b5 b6 k,LeO (impl_walkOn.f k a0 a1 a2 a3 a4 b0 b1 b2 b3 b4 b5 b6) (impl_walkOn.f (k + 1) a0 a1 a2 a3 a4 b0 b1 b2 b3 b4 b5 b6):=by
 intro a0 a1 a2 a3 a4 b0 b1 b2 b3 b4 b5 b6 k
 unfold impl_walkOn.f
 refine LeO.bind (LeO.refl _) (fun x=>LeO.bind (LeO.refl _) (fun y=>LeO.ite ?_ (LeO.refl _)))
 exact LeO.bind (impl_IsExploration.mono _ _ _ _ _ k) (fun _=>LeO.refl _)
theorem walkOn_a (k:Nat) (A0_0:Option Addr) (c0_0:Nat) (l0_0:List (S37)) (A0_1:Option Addr) (c0_1:Nat) (l0_1:List Bool) (A0_2:Option Addr) (c0_2:Nat) (l0_2:List Bool) (a0_3:Int) (a0_4:Int) (a1_0:Int) (a1_1:Int) (a1_2:Int) (a1_3:Int) (a1_4:Int) (a1_5:Int) (a1_6:Int) (L:List S37) (V D:List Bool) (p t:Int) (L':List S37) (V' D':List Bool) (p' t':Int) (w:World) (hr0_0:Kd.C k37 w A0_0 l0_0.length l0_0) (hc0_0:l0_0.length <= c0_0) (hr0_1:Kd.C Kd.bool w A0_1 l0_1.length l0_1) (hc0_1:l0_1.length <= c0_1) (hr0_2:Kd.C Kd.bool w A0_2 l0_2.length l0_2) (hc0_2:l0_2.length <= c0_2) (hcl:impl_Exploration_clone.f l0_0 l0_1 l0_2 a0_3 a0_4 = some (L,V,D,p,t)) (hwf:walk_f L V D p t a1_0 a1_1 a1_2 a1_3 a1_4 a1_5 a1_6 = some (L',V',D',p',t',false)) :
  Calls Try.prog 76 #[.agg #[.slice A0_0 l0_0.length c0_0,.slice A0_1 l0_1.length c0_1,.slice A0_2 l0_2.length c0_2,.int .i64 a0_3,.int .i64 a0_4],.agg #[.int .i64 a1_0,.int .i64 a1_1,.int .i64 a1_2,.int .i64 a1_3,.int .i64 a1_4,.int .i64 a1_5,.int .i64 a1_6]] w fun e w'=>∃ v0_ v1_ v2_:Value,e = .returned (.tuple #[.agg #[v0_,v1_,v2_,.int .i64 0,.int .i64 0],.bool false]) /\ Kd.R k37 37 w' w.heap.size (fun _=>True) v0_ [] /\ Kd.R Kd.bool 4 w' w.heap.size (fun k_=>some k_ ≠ (v2_:Value).ownBlock) v1_ [] /\ Kd.R Kd.bool 4 w' w.heap.size (fun k_=>some k_ ≠ (v1_:Value).ownBlock) v2_ [] /\ Below w.heap.size w w':=by
 have hu1:=Try.underlying39
 have hu2:=Try.underlying30
 have HB:=ak (Below.refl w.heap.size w)
 have HR0:=ak hr0_0
 have HC0:=ak hc0_0
 have HR1:=ak hr0_1
 have HC1:=ak hc0_1
 have HR2:=ak hr0_2
 have HC2:=ak hc0_2
 clear hr0_0 hc0_0 hr0_1 hc0_1 hr0_2 hc0_2
 go_enter Try.func76,Try.ntmps76
 go_upto_region 2 with (first|((with_reducible refine gate_dst (N:=2) rfl ?_);refine box_event ?hg (N:=2) ?hd (cs:=#[.slice A0_0 l0_0.length c0_0,.slice A0_1 l0_1.length c0_1,.slice A0_2 l0_2.length c0_2,.int .i64 a0_3,.int .i64 a0_4]) (t:=30) ?hr ?_;(case hd=>rfl);(case hg=>rfl);(case hr=>first|(go_simp;done)|(go_simp;rfl));intro gb2 hg w2 hbox hb;have BKb2:=ak hbox;replace HB:=ak (below_step (lb0_ HB.out) hb);clear hb hbox hg)|((with_reducible refine gate_dst (N:=3) rfl ?_);refine box_event ?hg (N:=3) ?hd (cs:=#[.int .i64 a1_0,.int .i64 a1_1,.int .i64 a1_2,.int .i64 a1_3,.int .i64 a1_4,.int .i64 a1_5,.int .i64 a1_6]) (t:=39) ?hr ?_;(case hd=>rfl);(case hg=>rfl);(case hr=>first|(go_simp;done)|(go_simp;rfl));intro gb3 hg w3 hbox hb;have BKb3:=ak hbox;replace BKb2:=ak (bb_ BKb2.out hb);replace HB:=ak (below_step (lb0_ HB.out) hb);clear hb hbox hg)|((with_reducible refine gate_dst (N:=4) rfl ?_);refine box_event ?hg (N:=4) ?hd (cs:=#[.slice none 0 0,.slice none 0 0,.slice none 0 0,.int .i64 0,.int .i64 0]) (t:=30) ?hr ?_;(case hd=>rfl);(case hg=>rfl);(case hr=>first|(go_simp;done)|(go_simp;rfl));intro gb4 hg w4 hbox hb;have BKb4:=ak hbox;have GE4:=ak (bz_ hg (lb0_ HB.out));replace BKb2:=ak (bb_ BKb2.out hb);replace BKb3:=ak (bb_ BKb3.out hb);have HA:=ak (below_step (lb0_ HB.out) hb);clear HB hb hbox hg;have HB:=ak (Below.refl w4.heap.size w4);obtain ⟨hcz0,hcz1,hcz2,hcz3,hcz4⟩:=cz5_ BKb2.out;obtain ⟨hfz0,hfz1,hfz2,hfz3,hfz4⟩:=fz5_ BKb2.out)|((with_reducible refine gate_callee (f:=83) rfl ?_);refine ga_ (some 8) Try.func83 #[.agg #[.slice A0_0 l0_0.length c0_0,.slice A0_1 l0_1.length c0_1,.slice A0_2 l0_2.length c0_2,.int .i64 a0_3,.int .i64 a0_4]] ?_;refine (impl_Exploration_clone.calls _ _ l0_0 _ _ l0_1 _ _ l0_2 a0_3 a0_4 L V D p t _ (Kd.C_below HR0.out HA.out) HC0.out (Kd.C_below HR1.out HA.out) HC1.out (Kd.C_below HR2.out HA.out) HC2.out hcl).mono ?_;rintro e w5 ⟨v0,v1,v2,rfl,ho0,ho1,ho2,hb⟩;refine ⟨_,rfl,?_⟩;clear hcz0 hcz1 hcz2 hcz3 hcz4 hfz0 hfz1 hfz2 hfz3 hfz4;obtain ⟨Ad,cd,rfl⟩:=Kd.R_slice ho0;obtain ⟨Ae,ce,rfl⟩:=Kd.R_slice ho1;obtain ⟨Af,cf,rfl⟩:=Kd.R_slice ho2;replace HB:=ak hb;have HO0:=ak ho0;have HO1:=ak ho1;have HO2:=ak ho2;clear hb ho0 ho1 ho2)|((with_reducible refine gate_dst (N:=6) rfl ?_);refine box_event ?hg (N:=6) ?hd (cs:=#[.slice none 0 0,.slice none 0 0,.slice none 0 0,.int .i64 0,.int .i64 0]) (t:=30) ?hr ?_;(case hd=>rfl);(case hg=>rfl);(case hr=>first|(go_simp;done)|(go_simp;rfl));intro gb6 hg w6 hbox hb;have BKb6:=ak hbox;have GE6:=ak (bz_ hg HB.out);replace HO0:=ak (Kd.R_below HO0.out hb);replace HO1:=ak (Kd.R_below HO1.out hb);replace HO2:=ak (Kd.R_below HO2.out hb);replace HB:=ak (below_step HB.out hb);clear hb hbox hg;obtain ⟨hcz0,hcz1,hcz2,hcz3,hcz4⟩:=cz5_ BKb6.out;obtain ⟨hfz0,hfz1,hfz2,hfz3,hfz4⟩:=fz5_ BKb6.out))
 clear hcz0 hcz1 hcz2 hcz3 hcz4 hfz0 hfz1 hfz2 hfz3 hfz4
 have HS:Aside0 (ExS (((((w6.setCell ⟨gb6,0,none⟩ (.slice Ad L.length cd)).setCell ⟨gb6,1,none⟩ (.slice Ae V.length ce)).setCell ⟨gb6,2,none⟩ (.slice Af D.length cf)).setCell ⟨gb6,3,none⟩ (.int .i64 p)).setCell ⟨gb6,4,none⟩ (.int .i64 t)) w4.heap.size gb6 (.slice Ad L.length cd) (.slice Ae V.length ce) (.slice Af D.length cf) L V D p t):=⟨⟨set5_blk BKb6.out (.slice Ad L.length cd) (.slice Ae V.length ce) (.slice Af D.length cf) (.int .i64 p) (.int .i64 t),GE6.out,set5_R HO0.out BKb6.out (by decide) (.slice Ad L.length cd) (.slice Ae V.length ce) (.slice Af D.length cf) (.int .i64 p) (.int .i64 t),set5_R HO1.out BKb6.out (by decide) (.slice Ad L.length cd) (.slice Ae V.length ce) (.slice Af D.length cf) (.int .i64 p) (.int .i64 t),set5_R HO2.out BKb6.out (by decide) (.slice Ad L.length cd) (.slice Ae V.length ce) (.slice Af D.length cf) (.int .i64 p) (.int .i64 t)⟩⟩
 replace HB:Aside0 (Below w4.heap.size w4 (((((w6.setCell ⟨gb6,0,none⟩ (.slice Ad L.length cd)).setCell ⟨gb6,1,none⟩ (.slice Ae V.length ce)).setCell ⟨gb6,2,none⟩ (.slice Af D.length cf)).setCell ⟨gb6,3,none⟩ (.int .i64 p)).setCell ⟨gb6,4,none⟩ (.int .i64 t))):=⟨set5_below HB.out GE6.out (.slice Ad L.length cd) (.slice Ae V.length ce) (.slice Af D.length cf) (.int .i64 p) (.int .i64 t)⟩
 clear HO0 HO1 HO2 BKb6
 generalize (((((w6.setCell ⟨gb6,0,none⟩ (.slice Ad L.length cd)).setCell ⟨gb6,1,none⟩ (.slice Ae V.length ce)).setCell ⟨gb6,2,none⟩ (.slice Af D.length cf)).setCell ⟨gb6,3,none⟩ (.int .i64 p)).setCell ⟨gb6,4,none⟩ (.int .i64 t)) = w7 at HS HB ⊢
 obtain ⟨hcz0,hcz1,hcz2,hcz3,hcz4,hcz5,hcz6⟩:=cz7_ (blk_below BKb3.out HB.out)
 go_wp2_with ((go_at_call 105;refine (walk_calls gb6 _ _ _ L V D p t a1_0 a1_1 a1_2 a1_3 a1_4 a1_5 a1_6 L' V' D' p' t' false w4 _ HS.out HB.out hwf).mono ?_;rintro e w9 ⟨vL',rfl,hS9,hB9⟩;clear hcz0 hcz1 hcz2 hcz3 hcz4 hcz5 hcz6;obtain ⟨Aa,ca,rfl⟩:=Kd.R_slice hS9.rL;have eV:V.length = V'.length:=(Kd.R_reads' hS9.rV).1;have eD:D.length = D'.length:=(Kd.R_reads' hS9.rD).1;rw [eV,eD] at hS9;clear eV eD;obtain ⟨hcz0,hcz1,hcz2,hcz3,hcz4⟩:=cz5_ hS9.blk;have HS9:=ak hS9;have HB9:=ak hB9;clear hS9 hB9;obtain ⟨hdz0,hdz1,hdz2,hdz3,hdz4⟩:=cz5_ (blk_below BKb4.out HB9.out);obtain ⟨hfz0,hfz1,hfz2,hfz3,hfz4⟩:=fz5_ (blk_below BKb4.out HB9.out)))
 refine bodyPost_ret (results_ct rfl _ _ gb4 30 #[(.slice none 0 0),(.slice none 0 0),(.slice none 0 0),(.int .i64 0),(.int .i64 0)] (0,0) _ rfl (set5_blk (blk_below BKb4.out HB9.out) (.slice none 0 0) (.slice none 0 0) (.slice none 0 0) (.int .i64 0) (.int .i64 0)) Try.underlying30 rfl (by kernel_rfl)) rfl ?_
 exact ⟨_,_,_,rr_,Kd.R_nil _ _ _ _ _,Kd.R_nil _ _ _ _ _,Kd.R_nil _ _ _ _ _,set5_below (below_step HA.out HB9.out) GE4.out (.slice none 0 0) (.slice none 0 0) (.slice none 0 0) (.int .i64 0) (.int .i64 0)⟩
theorem walkOn_b (k:Nat) (A0_0:Option Addr) (c0_0:Nat) (l0_0:List (S37)) (A0_1:Option Addr) (c0_1:Nat) (l0_1:List Bool) (A0_2:Option Addr) (c0_2:Nat) (l0_2:List Bool) (a0_3:Int) (a0_4:Int) (a1_0:Int) (a1_1:Int) (a1_2:Int) (a1_3:Int) (a1_4:Int) (a1_5:Int) (a1_6:Int) (L:List S37) (V D:List Bool) (p t:Int) (L':List S37) (V' D':List Bool) (p' t':Int) (w:World) (hr0_0:Kd.C k37 w A0_0 l0_0.length l0_0) (hc0_0:l0_0.length <= c0_0) (hr0_1:Kd.C Kd.bool w A0_1 l0_1.length l0_1) (hc0_1:l0_1.length <= c0_1) (hr0_2:Kd.C Kd.bool w A0_2 l0_2.length l0_2) (hc0_2:l0_2.length <= c0_2) (hcl:impl_Exploration_clone.f l0_0 l0_1 l0_2 a0_3 a0_4 = some (L,V,D,p,t)) (hwf:walk_f L V D p t a1_0 a1_1 a1_2 a1_3 a1_4 a1_5 a1_6 = some (L',V',D',p',t',true)) (hie:impl_IsExploration.f k L' V' D' p' t' = some false) :
  Calls Try.prog 76 #[.agg #[.slice A0_0 l0_0.length c0_0,.slice A0_1 l0_1.length c0_1,.slice A0_2 l0_2.length c0_2,.int .i64 a0_3,.int .i64 a0_4],.agg #[.int .i64 a1_0,.int .i64 a1_1,.int .i64 a1_2,.int .i64 a1_3,.int .i64 a1_4,.int .i64 a1_5,.int .i64 a1_6]] w fun e w'=>∃ v0_ v1_ v2_:Value,e = .returned (.tuple #[.agg #[v0_,v1_,v2_,.int .i64 0,.int .i64 0],.bool false]) /\ Kd.R k37 37 w' w.heap.size (fun _=>True) v0_ [] /\ Kd.R Kd.bool 4 w' w.heap.size (fun k_=>some k_ ≠ (v2_:Value).ownBlock) v1_ [] /\ Kd.R Kd.bool 4 w' w.heap.size (fun k_=>some k_ ≠ (v1_:Value).ownBlock) v2_ [] /\ Below w.heap.size w w':=by
 have hu1:=Try.underlying39
 have hu2:=Try.underlying30
 have HB:=ak (Below.refl w.heap.size w)
 have HR0:=ak hr0_0
 have HC0:=ak hc0_0
 have HR1:=ak hr0_1
 have HC1:=ak hc0_1
 have HR2:=ak hr0_2
 have HC2:=ak hc0_2
 clear hr0_0 hc0_0 hr0_1 hc0_1 hr0_2 hc0_2
 go_enter Try.func76,Try.ntmps76
 go_upto_region 2 with (first|((with_reducible refine gate_dst (N:=2) rfl ?_);refine box_event ?hg (N:=2) ?hd (cs:=#[.slice A0_0 l0_0.length c0_0,.slice A0_1 l0_1.length c0_1,.slice A0_2 l0_2.length c0_2,.int .i64 a0_3,.int .i64 a0_4]) (t:=30) ?hr ?_;(case hd=>rfl);(case hg=>rfl);(case hr=>first|(go_simp;done)|(go_simp;rfl));intro gb2 hg w2 hbox hb;have BKb2:=ak hbox;replace HB:=ak (below_step (lb0_ HB.out) hb);clear hb hbox hg)|((with_reducible refine gate_dst (N:=3) rfl ?_);refine box_event ?hg (N:=3) ?hd (cs:=#[.int .i64 a1_0,.int .i64 a1_1,.int .i64 a1_2,.int .i64 a1_3,.int .i64 a1_4,.int .i64 a1_5,.int .i64 a1_6]) (t:=39) ?hr ?_;(case hd=>rfl);(case hg=>rfl);(case hr=>first|(go_simp;done)|(go_simp;rfl));intro gb3 hg w3 hbox hb;have BKb3:=ak hbox;replace BKb2:=ak (bb_ BKb2.out hb);replace HB:=ak (below_step (lb0_ HB.out) hb);clear hb hbox hg)|((with_reducible refine gate_dst (N:=4) rfl ?_);refine box_event ?hg (N:=4) ?hd (cs:=#[.slice none 0 0,.slice none 0 0,.slice none 0 0,.int .i64 0,.int .i64 0]) (t:=30) ?hr ?_;(case hd=>rfl);(case hg=>rfl);(case hr=>first|(go_simp;done)|(go_simp;rfl));intro gb4 hg w4 hbox hb;have BKb4:=ak hbox;have GE4:=ak (bz_ hg (lb0_ HB.out));replace BKb2:=ak (bb_ BKb2.out hb);replace BKb3:=ak (bb_ BKb3.out hb);have HA:=ak (below_step (lb0_ HB.out) hb);clear HB hb hbox hg;have HB:=ak (Below.refl w4.heap.size w4);obtain ⟨hcz0,hcz1,hcz2,hcz3,hcz4⟩:=cz5_ BKb2.out;obtain ⟨hfz0,hfz1,hfz2,hfz3,hfz4⟩:=fz5_ BKb2.out)|((with_reducible refine gate_callee (f:=83) rfl ?_);refine ga_ (some 8) Try.func83 #[.agg #[.slice A0_0 l0_0.length c0_0,.slice A0_1 l0_1.length c0_1,.slice A0_2 l0_2.length c0_2,.int .i64 a0_3,.int .i64 a0_4]] ?_;refine (impl_Exploration_clone.calls _ _ l0_0 _ _ l0_1 _ _ l0_2 a0_3 a0_4 L V D p t _ (Kd.C_below HR0.out HA.out) HC0.out (Kd.C_below HR1.out HA.out) HC1.out (Kd.C_below HR2.out HA.out) HC2.out hcl).mono ?_;rintro e w5 ⟨v0,v1,v2,rfl,ho0,ho1,ho2,hb⟩;refine ⟨_,rfl,?_⟩;clear hcz0 hcz1 hcz2 hcz3 hcz4 hfz0 hfz1 hfz2 hfz3 hfz4;obtain ⟨Ad,cd,rfl⟩:=Kd.R_slice ho0;obtain ⟨Ae,ce,rfl⟩:=Kd.R_slice ho1;obtain ⟨Af,cf,rfl⟩:=Kd.R_slice ho2;replace HB:=ak hb;have HO0:=ak ho0;have HO1:=ak ho1;have HO2:=ak ho2;clear hb ho0 ho1 ho2)|((with_reducible refine gate_dst (N:=6) rfl ?_);refine box_event ?hg (N:=6) ?hd (cs:=#[.slice none 0 0,.slice none 0 0,.slice none 0 0,.int .i64 0,.int .i64 0]) (t:=30) ?hr ?_;(case hd=>rfl);(case hg=>rfl);(case hr=>first|(go_simp;done)|(go_simp;rfl));intro gb6 hg w6 hbox hb;have BKb6:=ak hbox;have GE6:=ak (bz_ hg HB.out);replace HO0:=ak (Kd.R_below HO0.out hb);replace HO1:=ak (Kd.R_below HO1.out hb);replace HO2:=ak (Kd.R_below HO2.out hb);replace HB:=ak (below_step HB.out hb);clear hb hbox hg;obtain ⟨hcz0,hcz1,hcz2,hcz3,hcz4⟩:=cz5_ BKb6.out;obtain ⟨hfz0,hfz1,hfz2,hfz3,hfz4⟩:=fz5_ BKb6.out))
 clear hcz0 hcz1 hcz2 hcz3 hcz4 hfz0 hfz1 hfz2 hfz3 hfz4
 have HS:Aside0 (ExS (((((w6.setCell ⟨gb6,0,none⟩ (.slice Ad L.length cd)).setCell ⟨gb6,1,none⟩ (.slice Ae V.length ce)).setCell ⟨gb6,2,none⟩ (.slice Af D.length cf)).setCell ⟨gb6,3,none⟩ (.int .i64 p)).setCell ⟨gb6,4,none⟩ (.int .i64 t)) w4.heap.size gb6 (.slice Ad L.length cd) (.slice Ae V.length ce) (.slice Af D.length cf) L V D p t):=⟨⟨set5_blk BKb6.out (.slice Ad L.length cd) (.slice Ae V.length ce) (.slice Af D.length cf) (.int .i64 p) (.int .i64 t),GE6.out,set5_R HO0.out BKb6.out (by decide) (.slice Ad L.length cd) (.slice Ae V.length ce) (.slice Af D.length cf) (.int .i64 p) (.int .i64 t),set5_R HO1.out BKb6.out (by decide) (.slice Ad L.length cd) (.slice Ae V.length ce) (.slice Af D.length cf) (.int .i64 p) (.int .i64 t),set5_R HO2.out BKb6.out (by decide) (.slice Ad L.length cd) (.slice Ae V.length ce) (.slice Af D.length cf) (.int .i64 p) (.int .i64 t)⟩⟩
 replace HB:Aside0 (Below w4.heap.size w4 (((((w6.setCell ⟨gb6,0,none⟩ (.slice Ad L.length cd)).setCell ⟨gb6,1,none⟩ (.slice Ae V.length ce)).setCell ⟨gb6,2,none⟩ (.slice Af D.length cf)).setCell ⟨gb6,3,none⟩ (.int .i64 p)).setCell ⟨gb6,4,none⟩ (.int .i64 t))):=⟨set5_below HB.out GE6.out (.slice Ad L.length cd) (.slice Ae V.length ce) (.slice Af D.length cf) (.int .i64 p) (.int .i64 t)⟩
 clear HO0 HO1 HO2 BKb6
 generalize (((((w6.setCell ⟨gb6,0,none⟩ (.slice Ad L.length cd)).setCell ⟨gb6,1,none⟩ (.slice Ae V.length ce)).setCell ⟨gb6,2,none⟩ (.slice Af D.length cf)).setCell ⟨gb6,3,none⟩ (.int .i64 p)).setCell ⟨gb6,4,none⟩ (.int .i64 t)) = w7 at HS HB ⊢
 obtain ⟨hcz0,hcz1,hcz2,hcz3,hcz4,hcz5,hcz6⟩:=cz7_ (blk_below BKb3.out HB.out)
 go_wp2_with (first|(go_at_call 105;refine (walk_calls gb6 _ _ _ L V D p t a1_0 a1_1 a1_2 a1_3 a1_4 a1_5 a1_6 L' V' D' p' t' true w4 _ HS.out HB.out hwf).mono ?_;rintro e w9 ⟨vL',rfl,hS9,hB9⟩;clear hcz0 hcz1 hcz2 hcz3 hcz4 hcz5 hcz6;obtain ⟨Aa,ca,rfl⟩:=Kd.R_slice hS9.rL;have eV:V.length = V'.length:=(Kd.R_reads' hS9.rV).1;have eD:D.length = D'.length:=(Kd.R_reads' hS9.rD).1;rw [eV,eD] at hS9;clear eV eD;obtain ⟨hcz0,hcz1,hcz2,hcz3,hcz4⟩:=cz5_ hS9.blk;have HS9:=ak hS9;have HB9:=ak hB9;clear hS9 hB9)|(go_at_call 18;refine (impl_IsExploration.calls k _ _ L' _ _ V' _ _ D' p' t' false _ (Kd.R_reads' HS9.out.rL).2.2 (Kd.R_reads' HS9.out.rL).2.1 (Kd.R_reads' HS9.out.rV).2.2 (Kd.R_reads' HS9.out.rV).2.1 (Kd.R_reads' HS9.out.rD).2.2 (Kd.R_reads' HS9.out.rD).2.1 hie).mono ?_;rintro e w10 ⟨rfl,hb⟩;clear hcz0 hcz1 hcz2 hcz3 hcz4;replace HS9:=ak (HS9.out.below hb);replace HB9:=ak (below_step HB9.out hb);clear hb;obtain ⟨hcz0,hcz1,hcz2,hcz3,hcz4⟩:=cz5_ HS9.out.blk;obtain ⟨hdz0,hdz1,hdz2,hdz3,hdz4⟩:=cz5_ (blk_below BKb4.out HB9.out);obtain ⟨hfz0,hfz1,hfz2,hfz3,hfz4⟩:=fz5_ (blk_below BKb4.out HB9.out)))
 refine bodyPost_ret (results_ct rfl _ _ gb4 30 #[(.slice none 0 0),(.slice none 0 0),(.slice none 0 0),(.int .i64 0),(.int .i64 0)] (0,0) _ rfl (set5_blk (blk_below BKb4.out HB9.out) (.slice none 0 0) (.slice none 0 0) (.slice none 0 0) (.int .i64 0) (.int .i64 0)) Try.underlying30 rfl (by kernel_rfl)) rfl ?_
 exact ⟨_,_,_,rr_,Kd.R_nil _ _ _ _ _,Kd.R_nil _ _ _ _ _,Kd.R_nil _ _ _ _ _,set5_below (below_step HA.out HB9.out) GE4.out (.slice none 0 0) (.slice none 0 0) (.slice none 0 0) (.int .i64 0) (.int .i64 0)⟩
theorem walkOn_c (k:Nat) (A0_0:Option Addr) (c0_0:Nat) (l0_0:List (S37)) (A0_1:Option Addr) (c0_1:Nat) (l0_1:List Bool) (A0_2:Option Addr) (c0_2:Nat) (l0_2:List Bool) (a0_3:Int) (a0_4:Int) (a1_0:Int) (a1_1:Int) (a1_2:Int) (a1_3:Int) (a1_4:Int) (a1_5:Int) (a1_6:Int) (L:List S37) (V D:List Bool) (p t:Int) (L':List S37) (V' D':List Bool) (p' t':Int) (w:World) (hr0_0:Kd.C k37 w A0_0 l0_0.length l0_0) (hc0_0:l0_0.length <= c0_0) (hr0_1:Kd.C Kd.bool w A0_1 l0_1.length l0_1) (hc0_1:l0_1.length <= c0_1) (hr0_2:Kd.C Kd.bool w A0_2 l0_2.length l0_2) (hc0_2:l0_2.length <= c0_2) (hcl:impl_Exploration_clone.f l0_0 l0_1 l0_2 a0_3 a0_4 = some (L,V,D,p,t)) (hwf:walk_f L V D p t a1_0 a1_1 a1_2 a1_3 a1_4 a1_5 a1_6 = some (L',V',D',p',t',true)) (hie:impl_IsExploration.f k L' V' D' p' t' = some true) :
  Calls Try.prog 76 #[.agg #[.slice A0_0 l0_0.length c0_0,.slice A0_1 l0_1.length c0_1,.slice A0_2 l0_2.length c0_2,.int .i64 a0_3,.int .i64 a0_4],.agg #[.int .i64 a1_0,.int .i64 a1_1,.int .i64 a1_2,.int .i64 a1_3,.int .i64 a1_4,.int .i64 a1_5,.int .i64 a1_6]] w fun e w'=>∃ v0_ v1_ v2_:Value,e = .returned (.tuple #[.agg #[v0_,v1_,v2_,.int .i64 p',.int .i64 t'],.bool true]) /\ Kd.R k37 37 w' w.heap.size (fun _=>True) v0_ L' /\ Kd.R Kd.bool 4 w' w.heap.size (fun k_=>some k_ ≠ (v2_:Value).ownBlock) v1_ V' /\ Kd.R Kd.bool 4 w' w.heap.size (fun k_=>some k_ ≠ (v1_:Value).ownBlock) v2_ D' /\ Below w.heap.size w w':=by
 have hu1:=Try.underlying39
 have hu2:=Try.underlying30
 have HB:=ak (Below.refl w.heap.size w)
 have HR0:=ak hr0_0
 have HC0:=ak hc0_0
 have HR1:=ak hr0_1
 have HC1:=ak hc0_1
 have HR2:=ak hr0_2
 have HC2:=ak hc0_2
 clear hr0_0 hc0_0 hr0_1 hc0_1 hr0_2 hc0_2
 go_enter Try.func76,Try.ntmps76
 go_upto_region 2 with (first|((with_reducible refine gate_dst (N:=2) rfl ?_);refine box_event ?hg (N:=2) ?hd (cs:=#[.slice A0_0 l0_0.length c0_0,.slice A0_1 l0_1.length c0_1,.slice A0_2 l0_2.length c0_2,.int .i64 a0_3,.int .i64 a0_4]) (t:=30) ?hr ?_;(case hd=>rfl);(case hg=>rfl);(case hr=>first|(go_simp;done)|(go_simp;rfl));intro gb2 hg w2 hbox hb;have BKb2:=ak hbox;replace HB:=ak (below_step (lb0_ HB.out) hb);clear hb hbox hg)|((with_reducible refine gate_dst (N:=3) rfl ?_);refine box_event ?hg (N:=3) ?hd (cs:=#[.int .i64 a1_0,.int .i64 a1_1,.int .i64 a1_2,.int .i64 a1_3,.int .i64 a1_4,.int .i64 a1_5,.int .i64 a1_6]) (t:=39) ?hr ?_;(case hd=>rfl);(case hg=>rfl);(case hr=>first|(go_simp;done)|(go_simp;rfl));intro gb3 hg w3 hbox hb;have BKb3:=ak hbox;replace BKb2:=ak (bb_ BKb2.out hb);replace HB:=ak (below_step (lb0_ HB.out) hb);clear hb hbox hg)|((with_reducible refine gate_dst (N:=4) rfl ?_);refine box_event ?hg (N:=4) ?hd (cs:=#[.slice none 0 0,.slice none 0 0,.slice none 0 0,.int .i64 0,.int .i64 0]) (t:=30) ?hr ?_;(case hd=>rfl);(case hg=>rfl);(case hr=>first|(go_simp;done)|(go_simp;rfl));intro gb4 hg w4 hbox hb;have BKb4:=ak hbox;have GE4:=ak (bz_ hg (lb0_ HB.out));replace BKb2:=ak (bb_ BKb2.out hb);replace BKb3:=ak (bb_ BKb3.out hb);have HA:=ak (below_step (lb0_ HB.out) hb);clear HB hb hbox hg;have HB:=ak (Below.refl w4.heap.size w4);obtain ⟨hcz0,hcz1,hcz2,hcz3,hcz4⟩:=cz5_ BKb2.out;obtain ⟨hfz0,hfz1,hfz2,hfz3,hfz4⟩:=fz5_ BKb2.out)|((with_reducible refine gate_callee (f:=83) rfl ?_);refine ga_ (some 8) Try.func83 #[.agg #[.slice A0_0 l0_0.length c0_0,.slice A0_1 l0_1.length c0_1,.slice A0_2 l0_2.length c0_2,.int .i64 a0_3,.int .i64 a0_4]] ?_;refine (impl_Exploration_clone.calls _ _ l0_0 _ _ l0_1 _ _ l0_2 a0_3 a0_4 L V D p t _ (Kd.C_below HR0.out HA.out) HC0.out (Kd.C_below HR1.out HA.out) HC1.out (Kd.C_below HR2.out HA.out) HC2.out hcl).mono ?_;rintro e w5 ⟨v0,v1,v2,rfl,ho0,ho1,ho2,hb⟩;refine ⟨_,rfl,?_⟩;clear hcz0 hcz1 hcz2 hcz3 hcz4 hfz0 hfz1 hfz2 hfz3 hfz4;obtain ⟨Ad,cd,rfl⟩:=Kd.R_slice ho0;obtain ⟨Ae,ce,rfl⟩:=Kd.R_slice ho1;obtain ⟨Af,cf,rfl⟩:=Kd.R_slice ho2;replace HB:=ak hb;have HO0:=ak ho0;have HO1:=ak ho1;have HO2:=ak ho2;clear hb ho0 ho1 ho2)|((with_reducible refine gate_dst (N:=6) rfl ?_);refine box_event ?hg (N:=6) ?hd (cs:=#[.slice none 0 0,.slice none 0 0,.slice none 0 0,.int .i64 0,.int .i64 0]) (t:=30) ?hr ?_;(case hd=>rfl);(case hg=>rfl);(case hr=>first|(go_simp;done)|(go_simp;rfl));intro gb6 hg w6 hbox hb;have BKb6:=ak hbox;have GE6:=ak (bz_ hg HB.out);replace HO0:=ak (Kd.R_below HO0.out hb);replace HO1:=ak (Kd.R_below HO1.out hb);replace HO2:=ak (Kd.R_below HO2.out hb);replace HB:=ak (below_step HB.out hb);clear hb hbox hg;obtain ⟨hcz0,hcz1,hcz2,hcz3,hcz4⟩:=cz5_ BKb6.out;obtain ⟨hfz0,hfz1,hfz2,hfz3,hfz4⟩:=fz5_ BKb6.out))
 clear hcz0 hcz1 hcz2 hcz3 hcz4 hfz0 hfz1 hfz2 hfz3 hfz4
 have HS:Aside0 (ExS (((((w6.setCell ⟨gb6,0,none⟩ (.slice Ad L.length cd)).setCell ⟨gb6,1,none⟩ (.slice Ae V.length ce)).setCell ⟨gb6,2,none⟩ (.slice Af D.length cf)).setCell ⟨gb6,3,none⟩ (.int .i64 p)).setCell ⟨gb6,4,none⟩ (.int .i64 t)) w4.heap.size gb6 (.slice Ad L.length cd) (.slice Ae V.length ce) (.slice Af D.length cf) L V D p t):=⟨⟨set5_blk BKb6.out (.slice Ad L.length cd) (.slice Ae V.length ce) (.slice Af D.length cf) (.int .i64 p) (.int .i64 t),GE6.out,set5_R HO0.out BKb6.out (by decide) (.slice Ad L.length cd) (.slice Ae V.length ce) (.slice Af D.length cf) (.int .i64 p) (.int .i64 t),set5_R HO1.out BKb6.out (by decide) (.slice Ad L.length cd) (.slice Ae V.length ce) (.slice Af D.length cf) (.int .i64 p) (.int .i64 t),set5_R HO2.out BKb6.out (by decide) (.slice Ad L.length cd) (.slice Ae V.length ce) (.slice Af D.length cf) (.int .i64 p) (.int .i64 t)⟩⟩
 replace HB:Aside0 (Below w4.heap.size w4 (((((w6.setCell ⟨gb6,0,none⟩ (.slice Ad L.length cd)).setCell ⟨gb6,1,none⟩ (.slice Ae V.length ce)).setCell ⟨gb6,2,none⟩ (.slice Af D.length cf)).setCell ⟨gb6,3,none⟩ (.int .i64 p)).setCell ⟨gb6,4,none⟩ (.int .i64 t))):=⟨set5_below HB.out GE6.out (.slice Ad L.length cd) (.slice Ae V.length ce) (.slice Af D.length cf) (.int .i64 p) (.int .i64 t)⟩
 clear HO0 HO1 HO2 BKb6
 generalize (((((w6.setCell ⟨gb6,0,none⟩ (.slice Ad L.length cd)).setCell ⟨gb6,1,none⟩ (.slice Ae V.length ce)).setCell ⟨gb6,2,none⟩ (.slice Af D.length cf)).setCell ⟨gb6,3,none⟩ (.int .i64 p)).setCell ⟨gb6,4,none⟩ (.int .i64 t)) = w7 at HS HB ⊢
 obtain ⟨hcz0,hcz1,hcz2,hcz3,hcz4,hcz5,hcz6⟩:=cz7_ (blk_below BKb3.out HB.out)
 go_wp2_with (first|(go_at_call 105;refine (walk_calls gb6 _ _ _ L V D p t a1_0 a1_1 a1_2 a1_3 a1_4 a1_5 a1_6 L' V' D' p' t' true w4 _ HS.out HB.out hwf).mono ?_;rintro e w9 ⟨vL',rfl,hS9,hB9⟩;clear hcz0 hcz1 hcz2 hcz3 hcz4 hcz5 hcz6;obtain ⟨Aa,ca,rfl⟩:=Kd.R_slice hS9.rL;have eV:V.length = V'.length:=(Kd.R_reads' hS9.rV).1;have eD:D.length = D'.length:=(Kd.R_reads' hS9.rD).1;rw [eV,eD] at hS9;clear eV eD;obtain ⟨hcz0,hcz1,hcz2,hcz3,hcz4⟩:=cz5_ hS9.blk;have HS9:=ak hS9;have HB9:=ak hB9;clear hS9 hB9)|(go_at_call 18;refine (impl_IsExploration.calls k _ _ L' _ _ V' _ _ D' p' t' true _ (Kd.R_reads' HS9.out.rL).2.2 (Kd.R_reads' HS9.out.rL).2.1 (Kd.R_reads' HS9.out.rV).2.2 (Kd.R_reads' HS9.out.rV).2.1 (Kd.R_reads' HS9.out.rD).2.2 (Kd.R_reads' HS9.out.rD).2.1 hie).mono ?_;rintro e w10 ⟨rfl,hb⟩;clear hcz0 hcz1 hcz2 hcz3 hcz4;replace HS9:=ak (HS9.out.below hb);replace HB9:=ak (below_step HB9.out hb);clear hb;obtain ⟨hcz0,hcz1,hcz2,hcz3,hcz4⟩:=cz5_ HS9.out.blk;obtain ⟨hdz0,hdz1,hdz2,hdz3,hdz4⟩:=cz5_ (blk_below BKb4.out HB9.out);obtain ⟨hfz0,hfz1,hfz2,hfz3,hfz4⟩:=fz5_ (blk_below BKb4.out HB9.out)))
 refine bodyPost_ret (results_ct rfl _ _ gb4 30 #[(.slice Aa L'.length ca),(.slice Ae V'.length ce),(.slice Af D'.length cf),(.int .i64 p'),(.int .i64 t')] (0,0) _ rfl (set5_blk (blk_below BKb4.out HB9.out) (.slice Aa L'.length ca) (.slice Ae V'.length ce) (.slice Af D'.length cf) (.int .i64 p') (.int .i64 t')) Try.underlying30 rfl (by kernel_rfl)) rfl ?_
 exact ⟨_,_,_,rr_,set5_R (Kd.R_lower HS9.out.rL HA.out.size) (blk_below BKb4.out HB9.out) (by decide) (.slice Aa L'.length ca) (.slice Ae V'.length ce) (.slice Af D'.length cf) (.int .i64 p') (.int .i64 t'),set5_R (Kd.R_lower HS9.out.rV HA.out.size) (blk_below BKb4.out HB9.out) (by decide) (.slice Aa L'.length ca) (.slice Ae V'.length ce) (.slice Af D'.length cf) (.int .i64 p') (.int .i64 t'),set5_R (Kd.R_lower HS9.out.rD HA.out.size) (blk_below BKb4.out HB9.out) (by decide) (.slice Aa L'.length ca) (.slice Ae V'.length ce) (.slice Af D'.length cf) (.int .i64 p') (.int .i64 t'),set5_below (below_step HA.out HB9.out) GE4.out (.slice Aa L'.length ca) (.slice Ae V'.length ce) (.slice Af D'.length cf) (.int .i64 p') (.int .i64 t')⟩
theorem impl_walkOn.calls (k:Nat) (A0_0:Option Addr) (c0_0:Nat) (l0_0:List (S37)) (A0_1:Option Addr) (c0_1:Nat) (l0_1:List Bool) (A0_2:Option Addr) (c0_2:Nat) (l0_2:List Bool) (a0_3:Int) (a0_4:Int) (a1_0:Int) (a1_1:Int) (a1_2:Int) (a1_3:Int) (a1_4:Int) (a1_5:Int) (a1_6:Int) (r1:List (S37)) (r2:List Bool) (r3:List Bool) (r4:Int) (r5:Int) (r6:Bool) (w:World) (hr0_0:Kd.C k37 w A0_0 l0_0.length l0_0) (hc0_0:l0_0.length <= c0_0) (hr0_1:Kd.C Kd.bool w A0_1 l0_1.length l0_1) (hc0_1:l0_1.length <= c0_1) (hr0_2:Kd.C Kd.bool w A0_2 l0_2.length l0_2) (hc0_2:l0_2.length <= c0_2) (h:impl_walkOn.f k l0_0 l0_1 l0_2 a0_3 a0_4 a1_0 a1_1 a1_2 a1_3 a1_4 a1_5 a1_6 = some (r1,r2,r3,r4,r5,r6)) :
  Calls Try.prog 76 #[.agg #[.slice A0_0 l0_0.length c0_0,.slice A0_1 l0_1.length c0_1,.slice A0_2 l0_2.length c0_2,.int .i64 a0_3,.int .i64 a0_4],.agg #[.int .i64 a1_0,.int .i64 a1_1,.int .i64 a1_2,.int .i64 a1_3,.int .i64 a1_4,.int .i64 a1_5,.int .i64 a1_6]] w fun e w'=>∃ v0_ v1_ v2_:Value,e = .returned (.tuple #[.agg #[v0_,v1_,v2_,.int .i64 r4,.int .i64 r5],.bool r6]) /\ Kd.R k37 37 w' w.heap.size (fun _=>True) v0_ r1 /\ Kd.R Kd.bool 4 w' w.heap.size (fun k_=>some k_ ≠ (v2_:Value).ownBlock) v1_ r2 /\ Kd.R Kd.bool 4 w' w.heap.size (fun k_=>some k_ ≠ (v1_:Value).ownBlock) v2_ r3 /\ Below w.heap.size w w':=by
 unfold impl_walkOn.f at h
 obtain ⟨⟨L,V,D,p,t⟩,hcl,h⟩:=Option.bind_eq_some_iff.mp h
 obtain ⟨⟨L',V',D',p',t',b⟩,hwf,h⟩:=Option.bind_eq_some_iff.mp h
 cases b with
 | false=>
  simp only [Bool.false_eq_true,if_false,Option.some.injEq,Prod.mk.injEq] at h
  obtain ⟨rfl,rfl,rfl,rfl,rfl,rfl⟩:=h
  exact walkOn_a k A0_0 c0_0 l0_0 A0_1 c0_1 l0_1 A0_2 c0_2 l0_2 a0_3 a0_4 a1_0 a1_1 a1_2 a1_3 a1_4 a1_5 a1_6 L V D p t L' V' D' p' t' w hr0_0 hc0_0 hr0_1 hc0_1 hr0_2 hc0_2 hcl hwf
 | true=>
  simp only [if_true] at h
  obtain ⟨q,hie,h⟩:=Option.bind_eq_some_iff.mp h
  cases q with
  | false=>
   simp only [Bool.false_eq_true,if_false,Option.some.injEq,Prod.mk.injEq] at h
   obtain ⟨rfl,rfl,rfl,rfl,rfl,rfl⟩:=h
   exact walkOn_b k A0_0 c0_0 l0_0 A0_1 c0_1 l0_1 A0_2 c0_2 l0_2 a0_3 a0_4 a1_0 a1_1 a1_2 a1_3 a1_4 a1_5 a1_6 L V D p t L' V' D' p' t' w hr0_0 hc0_0 hr0_1 hc0_1 hr0_2 hc0_2 hcl hwf hie
  | true=>
   simp only [if_true,Option.some.injEq,Prod.mk.injEq] at h
   obtain ⟨rfl,rfl,rfl,rfl,rfl,rfl⟩:=h
   exact walkOn_c k A0_0 c0_0 l0_0 A0_1 c0_1 l0_1 A0_2 c0_2 l0_2 a0_3 a0_4 a1_0 a1_1 a1_2 a1_3 a1_4 a1_5 a1_6 L V D p t L' V' D' p' t' w hr0_0 hc0_0 hr0_1 hc0_1 hr0_2 hc0_2 hcl hwf hie
def impl_WalkOn.f (k:Nat) (l0_0:List (S37)) (l0_1:List Bool) (l0_2:List Bool) (a0_3:Int) (a0_4:Int) (a1_0:Int) (a1_1:Int) (a1_2:Int) (a1_3:Int) (a1_4:Int) (a1_5:Int) (a1_6:Int):Option ((List (S37)) × List Bool × List Bool × Int × Int × Bool):=(impl_IsExploration.f k l0_0 l0_1 l0_2 a0_3 a0_4).bind fun t676=>(if t676 = true then ((impl_walkOn.f k l0_0 l0_1 l0_2 a0_3 a0_4 a1_0 a1_1 a1_2 a1_3 a1_4 a1_5 a1_6).bind fun bt677=>(some (bt677.1,bt677.2.1,bt677.2.2.1,bt677.2.2.2.1,bt677.2.2.2.2.1,bt677.2.2.2.2.2))) else (some (([]:List (S37)),([]:List Bool),([]:List Bool),0,0,false)))
theorem impl_WalkOn.calls (k:Nat) (A0_0:Option Addr) (c0_0:Nat) (l0_0:List (S37)) (A0_1:Option Addr) (c0_1:Nat) (l0_1:List Bool) (A0_2:Option Addr) (c0_2:Nat) (l0_2:List Bool) (a0_3:Int) (a0_4:Int) (a1_0:Int) (a1_1:Int) (a1_2:Int) (a1_3:Int) (a1_4:Int) (a1_5:Int) (a1_6:Int) (r1:List (S37)) (r2:List Bool) (r3:List Bool) (r4:Int) (r5:Int) (r6:Bool) (w:World) (hr0_0:Kd.C k37 w A0_0 l0_0.length l0_0) (hc0_0:l0_0.length <= c0_0) (hr0_1:Kd.C Kd.bool w A0_1 l0_1.length l0_1) (hc0_1:l0_1.length <= c0_1) (hr0_2:Kd.C Kd.bool w A0_2 l0_2.length l0_2) (hc0_2:l0_2.length <= c0_2) (h:impl_WalkOn.f k l0_0 l0_1 l0_2 a0_3 a0_4 a1_0 a1_1 a1_2 a1_3 a1_4 a1_5 a1_6 = some (r1,r2,r3,r4,r5,r6)) :
  Calls Try.prog 22 #[.agg #[.slice A0_0 l0_0.length c0_0,.slice A0_1 l0_1.length c0_1,.slice A0_2 l0_2.length c0_2,.int .i64 a0_3,.int .i64 a0_4],.agg #[.int .i64 a1_0,.int .i64 a1_1,.int .i64 a1_2,.int .i64 a1_3,.int .i64 a1_4,.int .i64 a1_5,.int .i64 a1_6]] w fun e w'=>∃ v0_ v1_ v2_:Value,e = .returned (.tuple #[.agg #[v0_,v1_,v2_,.int .i64 r4,.int .i64 r5],.bool r6]) /\ Kd.R k37 37 w' w.heap.size (fun _=>True) v0_ r1 /\ Kd.R Kd.bool 4 w' w.heap.size (fun k_=>some k_ ≠ (v2_:Value).ownBlock) v1_ r2 /\ Kd.R Kd.bool 4 w' w.heap.size (fun k_=>some k_ ≠ (v1_:Value).ownBlock) v2_ r3 /\ Below w.heap.size w w':=by
 have hu30:=Try.underlying30
 have hu39:=Try.underlying39
 have HR0_0:=ak hr0_0
 have HC0_0:=ak hc0_0
 clear hr0_0 hc0_0
 have HR0_1:=ak hr0_1
 have HC0_1:=ak hc0_1
 clear hr0_1 hc0_1
 have HR0_2:=ak hr0_2
 have HC0_2:=ak hc0_2
 clear hr0_2 hc0_2
 have HB:=ak (Below.refl w.heap.size w)
 have H:((impl_IsExploration.f k l0_0 l0_1 l0_2 a0_3 a0_4).bind fun t676=>(if t676 = true then ((impl_walkOn.f k l0_0 l0_1 l0_2 a0_3 a0_4 a1_0 a1_1 a1_2 a1_3 a1_4 a1_5 a1_6).bind fun bt677=>(some (bt677.1,bt677.2.1,bt677.2.2.1,bt677.2.2.2.1,bt677.2.2.2.2.1,bt677.2.2.2.2.2))) else (some (([]:List (S37)),([]:List Bool),([]:List Bool),0,0,false)))) = some (r1,r2,r3,r4,r5,r6):=h
 clear h
 replace H:=Option.bind_eq_some_iff.mp H
 obtain ⟨t676,A30,H⟩:=H
 replace H:(if t676 = true then ((impl_walkOn.f k l0_0 l0_1 l0_2 a0_3 a0_4 a1_0 a1_1 a1_2 a1_3 a1_4 a1_5 a1_6).bind fun bt677=>(some (bt677.1,bt677.2.1,bt677.2.2.1,bt677.2.2.2.1,bt677.2.2.2.2.1,bt677.2.2.2.2.2))) else (some (([]:List (S37)),([]:List Bool),([]:List Bool),0,0,false))) = some (r1,r2,r3,r4,r5,r6):=H
 have A3:=ak A30
 clear A30
 by_cases c4:t676 = true
 .
  subst c4
  have H1:((impl_walkOn.f k l0_0 l0_1 l0_2 a0_3 a0_4 a1_0 a1_1 a1_2 a1_3 a1_4 a1_5 a1_6).bind fun bt677=>(some (bt677.1,bt677.2.1,bt677.2.2.1,bt677.2.2.2.1,bt677.2.2.2.2.1,bt677.2.2.2.2.2))) = some (r1,r2,r3,r4,r5,r6):=by rw [if_pos rfl] at H;exact H
  clear H
  have H:=H1
  clear H1
  replace H:=Option.bind_eq_some_iff.mp H
  obtain ⟨⟨t677,t680,t683,t686,t687,t688⟩,A50,H⟩:=H
  replace H:(some (t677,t680,t683,t686,t687,t688)) = some (r1,r2,r3,r4,r5,r6):=H
  have A5:=ak A50
  clear A50
  simp only [Option.some.injEq,Prod.mk.injEq] at H
  obtain ⟨rfl,rfl,rfl,rfl,rfl,rfl⟩:=H
  go_enter Try.func22,Try.ntmps22
  go_wp2_with (first|((with_reducible refine gate_dst (N:=2) rfl ?_);refine box_event ?hg (N:=2) ?hd (cs:=#[.slice A0_0 l0_0.length c0_0,.slice A0_1 l0_1.length c0_1,.slice A0_2 l0_2.length c0_2,.int .i64 a0_3,.int .i64 a0_4]) (t:=30) ?hr ?_;(case hd=>rfl);(case hg=>rfl);(case hr=>first|(go_simp;done)|(go_simp;rfl));intro gb673 hg w6 hbox hb;have BK673:=ak (hbox);have GW673:=ak ((bz_ hg (lb0_ HB.out)));have GE673:=ak ((bz_ hg (lb0_ HB.out)));replace HB:=ak (below_step (lb0_ HB.out) hb);clear hb hbox hg)|((with_reducible refine gate_dst (N:=3) rfl ?_);refine box_event ?hg (N:=3) ?hd (cs:=#[.int .i64 a1_0,.int .i64 a1_1,.int .i64 a1_2,.int .i64 a1_3,.int .i64 a1_4,.int .i64 a1_5,.int .i64 a1_6]) (t:=39) ?hr ?_;(case hd=>rfl);(case hg=>rfl);(case hr=>first|(go_simp;done)|(go_simp;rfl));intro gb674 hg w7 hbox hb;have BK674:=ak (hbox);have GW674:=ak ((bz_ hg (lb1_ HB.out GE673.out)));have GE674:=ak ((bz_ hg (lb1_ HB.out GE673.out)));replace HB:=ak (below_step (lb1_ HB.out GE673.out) hb);have NB673_674:=ak (nl_ hg BK673.out);have NB674_673:=ak (ng_ hg BK673.out);replace BK673:=ak (bb_ (bk_ BK673.out) hb);clear hb hbox hg)|((with_reducible refine gate_dst (N:=4) rfl ?_);refine box_event ?hg (N:=4) ?hd (cs:=#[.slice none 0 0,.slice none 0 0,.slice none 0 0,.int .i64 0,.int .i64 0]) (t:=30) ?hr ?_;(case hd=>rfl);(case hg=>rfl);(case hr=>first|(go_simp;done)|(go_simp;rfl));intro gb675 hg w8 hbox hb;have BK675:=ak (hbox);have GW675:=ak ((bz_ hg (lb2_ HB.out GE673.out GE674.out)));have GE675:=ak ((bz_ hg (lb2_ HB.out GE673.out GE674.out)));replace HB:=ak (below_step (lb2_ HB.out GE673.out GE674.out) hb);have NB673_675:=ak (nl_ hg BK673.out);have NB675_673:=ak (ng_ hg BK673.out);replace BK673:=ak (bb_ (bk_ BK673.out) hb);have NB674_675:=ak (nl_ hg BK674.out);have NB675_674:=ak (ng_ hg BK674.out);replace BK674:=ak (bb_ (bk_ BK674.out) hb);clear hb hbox hg;have hnb9:=NB673_674.out;have hnc9:=NB674_673.out;have hnb10:=NB673_675.out;have hnc10:=NB675_673.out;obtain ⟨hcz11_0,hcz11_1,hcz11_2,hcz11_3,hcz11_4⟩:=cz5_ BK673.out;obtain ⟨hfz11_0,hfz11_1,hfz11_2,hfz11_3,hfz11_4⟩:=fz5_ BK673.out)|((with_reducible refine gate_callee (f:=18) rfl ?_);refine ga_ (some 7) Try.func18 #[.agg #[.slice A0_0 l0_0.length c0_0,.slice A0_1 l0_1.length c0_1,.slice A0_2 l0_2.length c0_2,.int .i64 a0_3,.int .i64 a0_4]] ?_;(with_reducible refine (impl_IsExploration.calls k _ _ l0_0 _ _ l0_1 _ _ l0_2 a0_3 a0_4 true _ ?side1 ?side2 ?side3 ?side4 ?side5 ?side6 A3.out).mono ?_);(case side1=>exact kc_ (Kd.C_below HR0_0.out HB.out));(case side2=>exact HC0_0.out);(case side3=>exact kc_ (Kd.C_below HR0_1.out HB.out));(case side4=>exact HC0_1.out);(case side5=>exact kc_ (Kd.C_below HR0_2.out HB.out));(case side6=>exact HC0_2.out);rintro e w12 ⟨rfl,hb⟩;refine ⟨_,rfl,?_⟩;replace BK673:=ak (bb_ (bk_ BK673.out) hb);replace BK674:=ak (bb_ (bk_ BK674.out) hb);replace BK675:=ak (bb_ (bk_ BK675.out) hb);replace HB:=ak (below_step (lb3_ HB.out GE673.out GE674.out GE675.out) hb);(try clear hb);(try clear hb2);(try clear hk);(try clear hi);obtain ⟨hcz13_0,hcz13_1,hcz13_2,hcz13_3,hcz13_4⟩:=cz5_ BK673.out;obtain ⟨hfz13_0,hfz13_1,hfz13_2,hfz13_3,hfz13_4⟩:=fz5_ BK673.out;have hnb14:=NB674_675.out;have hnc14:=NB675_674.out;obtain ⟨hcz15_0,hcz15_1,hcz15_2,hcz15_3,hcz15_4,hcz15_5,hcz15_6⟩:=cz7_ BK674.out;obtain ⟨hfz15_0,hfz15_1,hfz15_2,hfz15_3,hfz15_4,hfz15_5,hfz15_6⟩:=fz7_ BK674.out)|((with_reducible refine gate_callee (f:=76) rfl ?_);refine ga_ (some 12) Try.func76 #[.agg #[.slice A0_0 l0_0.length c0_0,.slice A0_1 l0_1.length c0_1,.slice A0_2 l0_2.length c0_2,.int .i64 a0_3,.int .i64 a0_4],.agg #[.int .i64 a1_0,.int .i64 a1_1,.int .i64 a1_2,.int .i64 a1_3,.int .i64 a1_4,.int .i64 a1_5,.int .i64 a1_6]] ?_;(with_reducible refine (impl_walkOn.calls k _ _ l0_0 _ _ l0_1 _ _ l0_2 a0_3 a0_4 a1_0 a1_1 a1_2 a1_3 a1_4 a1_5 a1_6 t677 t680 t683 t686 t687 t688 _ ?side1 ?side2 ?side3 ?side4 ?side5 ?side6 A5.out).mono ?_);(case side1=>exact kc_ (Kd.C_below HR0_0.out HB.out));(case side2=>exact HC0_0.out);(case side3=>exact kc_ (Kd.C_below HR0_1.out HB.out));(case side4=>exact HC0_1.out);(case side5=>exact kc_ (Kd.C_below HR0_2.out HB.out));(case side6=>exact HC0_2.out);rintro e w16 ⟨v678,v681,v684,rfl,ho0,ho1,ho2,hb⟩;refine ⟨_,rfl,?_⟩;have HO679:=ak (Kd.R_lower ho0 (below_size (lb3_ HB.out GE673.out GE674.out GE675.out)));have HO682:=ak (Kd.R_lower ho1 (below_size (lb3_ HB.out GE673.out GE674.out GE675.out)));have HO685:=ak (Kd.R_lower ho2 (below_size (lb3_ HB.out GE673.out GE674.out GE675.out)));replace BK673:=ak (bb_ (bk_ BK673.out) hb);replace BK674:=ak (bb_ (bk_ BK674.out) hb);replace BK675:=ak (bb_ (bk_ BK675.out) hb);replace HB:=ak (below_step (lb3_ HB.out GE673.out GE674.out GE675.out) hb);(try clear hb);(try clear hb2);(try clear hk);(try clear hi);(try clear ho0);(try clear ho1);(try clear ho2);obtain ⟨Ao17,co17,eo17⟩:=Kd.R_slice HO679.out;subst eo17;obtain ⟨hcz18_0,hcz18_1,hcz18_2,hcz18_3,hcz18_4⟩:=cz5_ BK675.out;obtain ⟨hfz18_0,hfz18_1,hfz18_2,hfz18_3,hfz18_4⟩:=fz5_ BK675.out;obtain ⟨Ao19,co19,eo19⟩:=Kd.R_slice HO682.out;subst eo19;obtain ⟨Ao20,co20,eo20⟩:=Kd.R_slice HO685.out;subst eo20))
  refine bodyPost_ret (results_ct rfl _ _ gb675 30 #[.slice Ao17 t677.length co17,.slice Ao19 t680.length co19,.slice Ao20 t683.length co20,.int .i64 t686,.int .i64 t687] (0,0) _ rfl (by (with_reducible repeat (first|refine blk_drewN ?_ _|refine blk_drew ?_|refine blk_alloc ?_ _));refine blk_put (cs:=#[.slice Ao17 t677.length co17,.slice Ao19 t680.length co19,.slice Ao20 t683.length co20,.int .i64 t686,.int .i64 0]) ?_ 4 _ rfl;(with_reducible repeat (first|refine blk_drewN ?_ _|refine blk_drew ?_|refine blk_alloc ?_ _));refine blk_put (cs:=#[.slice Ao17 t677.length co17,.slice Ao19 t680.length co19,.slice Ao20 t683.length co20,.int .i64 0,.int .i64 0]) ?_ 3 _ rfl;(with_reducible repeat (first|refine blk_drewN ?_ _|refine blk_drew ?_|refine blk_alloc ?_ _));refine blk_put (cs:=#[.slice Ao17 t677.length co17,.slice Ao19 t680.length co19,.slice none 0 0,.int .i64 0,.int .i64 0]) ?_ 2 _ rfl;(with_reducible repeat (first|refine blk_drewN ?_ _|refine blk_drew ?_|refine blk_alloc ?_ _));refine blk_put (cs:=#[.slice Ao17 t677.length co17,.slice none 0 0,.slice none 0 0,.int .i64 0,.int .i64 0]) ?_ 1 _ rfl;(with_reducible repeat (first|refine blk_drewN ?_ _|refine blk_drew ?_|refine blk_alloc ?_ _));refine blk_put (cs:=#[.slice none 0 0,.slice none 0 0,.slice none 0 0,.int .i64 0,.int .i64 0]) ?_ 0 _ rfl;(with_reducible repeat (first|refine blk_drewN ?_ _|refine blk_drew ?_|refine blk_alloc ?_ _));exact BK675.out) Try.underlying30 rfl (by kernel_rfl)) rfl ?_
  exact ⟨_,_,_,rr_,by (with_reducible repeat (first|apply Kd.R_alloc|apply Kd.R_drewN|apply Kd.R_drew));exact Kd.R_mono (r5_ HO679.out BK675.out (by decide) _ _ _ _ _) (fun _ hk=>trivial),by (with_reducible repeat (first|apply Kd.R_alloc|apply Kd.R_drewN|apply Kd.R_drew));exact Kd.R_mono (r5_ HO682.out BK675.out (by decide) _ _ _ _ _) (fun _ hk=>hk),by (with_reducible repeat (first|apply Kd.R_alloc|apply Kd.R_drewN|apply Kd.R_drew));exact Kd.R_mono (r5_ HO685.out BK675.out (by decide) _ _ _ _ _) (fun _ hk=>hk),lb3_ HB.out GE673.out GE674.out GE675.out⟩
 .
  replace c4:=Bool.eq_false_iff.mpr c4
  subst c4
  have H1:(some (([]:List (S37)),([]:List Bool),([]:List Bool),0,0,false)) = some (r1,r2,r3,r4,r5,r6):=by rw [if_neg (show ¬ (false = true) by decide)] at H;exact H
  clear H
  have H:=H1
  clear H1
  simp only [Option.some.injEq,Prod.mk.injEq] at H
  obtain ⟨rfl,rfl,rfl,rfl,rfl,rfl⟩:=H
  go_enter Try.func22,Try.ntmps22
  go_wp2_with (first|((with_reducible refine gate_dst (N:=2) rfl ?_);refine box_event ?hg (N:=2) ?hd (cs:=#[.slice A0_0 l0_0.length c0_0,.slice A0_1 l0_1.length c0_1,.slice A0_2 l0_2.length c0_2,.int .i64 a0_3,.int .i64 a0_4]) (t:=30) ?hr ?_;(case hd=>rfl);(case hg=>rfl);(case hr=>first|(go_simp;done)|(go_simp;rfl));intro gb673 hg w21 hbox hb;have BK673:=ak (hbox);have GW673:=ak ((bz_ hg (lb0_ HB.out)));have GE673:=ak ((bz_ hg (lb0_ HB.out)));replace HB:=ak (below_step (lb0_ HB.out) hb);clear hb hbox hg)|((with_reducible refine gate_dst (N:=3) rfl ?_);refine box_event ?hg (N:=3) ?hd (cs:=#[.int .i64 a1_0,.int .i64 a1_1,.int .i64 a1_2,.int .i64 a1_3,.int .i64 a1_4,.int .i64 a1_5,.int .i64 a1_6]) (t:=39) ?hr ?_;(case hd=>rfl);(case hg=>rfl);(case hr=>first|(go_simp;done)|(go_simp;rfl));intro gb674 hg w22 hbox hb;have BK674:=ak (hbox);have GW674:=ak ((bz_ hg (lb1_ HB.out GE673.out)));have GE674:=ak ((bz_ hg (lb1_ HB.out GE673.out)));replace HB:=ak (below_step (lb1_ HB.out GE673.out) hb);have NB673_674:=ak (nl_ hg BK673.out);have NB674_673:=ak (ng_ hg BK673.out);replace BK673:=ak (bb_ (bk_ BK673.out) hb);clear hb hbox hg)|((with_reducible refine gate_dst (N:=4) rfl ?_);refine box_event ?hg (N:=4) ?hd (cs:=#[.slice none 0 0,.slice none 0 0,.slice none 0 0,.int .i64 0,.int .i64 0]) (t:=30) ?hr ?_;(case hd=>rfl);(case hg=>rfl);(case hr=>first|(go_simp;done)|(go_simp;rfl));intro gb675 hg w23 hbox hb;have BK675:=ak (hbox);have GW675:=ak ((bz_ hg (lb2_ HB.out GE673.out GE674.out)));have GE675:=ak ((bz_ hg (lb2_ HB.out GE673.out GE674.out)));replace HB:=ak (below_step (lb2_ HB.out GE673.out GE674.out) hb);have NB673_675:=ak (nl_ hg BK673.out);have NB675_673:=ak (ng_ hg BK673.out);replace BK673:=ak (bb_ (bk_ BK673.out) hb);have NB674_675:=ak (nl_ hg BK674.out);have NB675_674:=ak (ng_ hg BK674.out);replace BK674:=ak (bb_ (bk_ BK674.out) hb);clear hb hbox hg;have hnb24:=NB673_674.out;have hnc24:=NB674_673.out;have hnb25:=NB673_675.out;have hnc25:=NB675_673.out;obtain ⟨hcz26_0,hcz26_1,hcz26_2,hcz26_3,hcz26_4⟩:=cz5_ BK673.out;obtain ⟨hfz26_0,hfz26_1,hfz26_2,hfz26_3,hfz26_4⟩:=fz5_ BK673.out)|((with_reducible refine gate_callee (f:=18) rfl ?_);refine ga_ (some 7) Try.func18 #[.agg #[.slice A0_0 l0_0.length c0_0,.slice A0_1 l0_1.length c0_1,.slice A0_2 l0_2.length c0_2,.int .i64 a0_3,.int .i64 a0_4]] ?_;(with_reducible refine (impl_IsExploration.calls k _ _ l0_0 _ _ l0_1 _ _ l0_2 a0_3 a0_4 false _ ?side1 ?side2 ?side3 ?side4 ?side5 ?side6 A3.out).mono ?_);(case side1=>exact kc_ (Kd.C_below HR0_0.out HB.out));(case side2=>exact HC0_0.out);(case side3=>exact kc_ (Kd.C_below HR0_1.out HB.out));(case side4=>exact HC0_1.out);(case side5=>exact kc_ (Kd.C_below HR0_2.out HB.out));(case side6=>exact HC0_2.out);rintro e w27 ⟨rfl,hb⟩;refine ⟨_,rfl,?_⟩;replace BK673:=ak (bb_ (bk_ BK673.out) hb);replace BK674:=ak (bb_ (bk_ BK674.out) hb);replace BK675:=ak (bb_ (bk_ BK675.out) hb);replace HB:=ak (below_step (lb3_ HB.out GE673.out GE674.out GE675.out) hb);(try clear hb);(try clear hb2);(try clear hk);(try clear hi);have hnb28:=NB675_674.out;have hnc28:=NB674_675.out;obtain ⟨hcz29_0,hcz29_1,hcz29_2,hcz29_3,hcz29_4⟩:=cz5_ BK675.out;obtain ⟨hfz29_0,hfz29_1,hfz29_2,hfz29_3,hfz29_4⟩:=fz5_ BK675.out))
  refine bodyPost_ret (results_ct rfl _ _ gb675 30 #[.slice none 0 0,.slice none 0 0,.slice none 0 0,.int .i64 0,.int .i64 0] (0,0) _ rfl (by (with_reducible repeat (first|refine blk_drewN ?_ _|refine blk_drew ?_|refine blk_alloc ?_ _));refine blk_put (cs:=#[.slice none 0 0,.slice none 0 0,.slice none 0 0,.int .i64 0,.int .i64 0]) ?_ 4 _ rfl;(with_reducible repeat (first|refine blk_drewN ?_ _|refine blk_drew ?_|refine blk_alloc ?_ _));refine blk_put (cs:=#[.slice none 0 0,.slice none 0 0,.slice none 0 0,.int .i64 0,.int .i64 0]) ?_ 3 _ rfl;(with_reducible repeat (first|refine blk_drewN ?_ _|refine blk_drew ?_|refine blk_alloc ?_ _));refine blk_put (cs:=#[.slice none 0 0,.slice none 0 0,.slice none 0 0,.int .i64 0,.int .i64 0]) ?_ 2 _ rfl;(with_reducible repeat (first|refine blk_drewN ?_ _|refine blk_drew ?_|refine blk_alloc ?_ _));refine blk_put (cs:=#[.slice none 0 0,.slice none 0 0,.slice none 0 0,.int .i64 0,.int .i64 0]) ?_ 1 _ rfl;(with_reducible repeat (first|refine blk_drewN ?_ _|refine blk_drew ?_|refine blk_alloc ?_ _));refine blk_put (cs:=#[.slice none 0 0,.slice none 0 0,.slice none 0 0,.int .i64 0,.int .i64 0]) ?_ 0 _ rfl;(with_reducible repeat (first|refine blk_drewN ?_ _|refine blk_drew ?_|refine blk_alloc ?_ _));exact BK675.out) Try.underlying30 rfl (by kernel_rfl)) rfl ?_
  exact ⟨_,_,_,rr_,by first|exact Kd.R_nil _ _ _ _ _|exact Kd.N_nil _ _ _ _ _|exact Kd.V_nil _ _ _ _ _|exact Kd.Q_nil _ _ _ _ _|exact Kd.S_nil _ _ _ _ _,by first|exact Kd.R_nil _ _ _ _ _|exact Kd.N_nil _ _ _ _ _|exact Kd.V_nil _ _ _ _ _|exact Kd.Q_nil _ _ _ _ _|exact Kd.S_nil _ _ _ _ _,by first|exact Kd.R_nil _ _ _ _ _|exact Kd.N_nil _ _ _ _ _|exact Kd.V_nil _ _ _ _ _|exact Kd.Q_nil _ _ _ _ _|exact Kd.S_nil _ _ _ _ _,lb3_ HB.out GE673.out GE674.out GE675.out⟩
def impl_WayOut.f (k:Nat) (l0_0:List (S37)) (l0_1:List Bool) (l0_2:List Bool) (a0_3:Int) (a0_4:Int):Option (Int × Bool):=(impl_IsExploration.f k l0_0 l0_1 l0_2 a0_3 a0_4).bind fun t699=>(if t699 = true then ((impl_Exploration_wayOut.f k l0_0 l0_1 l0_2 a0_3 a0_4).bind fun bt700=>(some (bt700.1,bt700.2))) else (some (0,false)))
theorem impl_WayOut.calls (k:Nat) (A0_0:Option Addr) (c0_0:Nat) (l0_0:List (S37)) (A0_1:Option Addr) (c0_1:Nat) (l0_1:List Bool) (A0_2:Option Addr) (c0_2:Nat) (l0_2:List Bool) (a0_3:Int) (a0_4:Int) (r1:Int) (r2:Bool) (w:World) (hr0_0:Kd.C k37 w A0_0 l0_0.length l0_0) (hc0_0:l0_0.length <= c0_0) (hr0_1:Kd.C Kd.bool w A0_1 l0_1.length l0_1) (hc0_1:l0_1.length <= c0_1) (hr0_2:Kd.C Kd.bool w A0_2 l0_2.length l0_2) (hc0_2:l0_2.length <= c0_2) (h:impl_WayOut.f k l0_0 l0_1 l0_2 a0_3 a0_4 = some (r1,r2)) :
  Calls Try.prog 26 #[.agg #[.slice A0_0 l0_0.length c0_0,.slice A0_1 l0_1.length c0_1,.slice A0_2 l0_2.length c0_2,.int .i64 a0_3,.int .i64 a0_4]] w fun e w'=>e = .returned (.tuple #[.int .i64 r1,.bool r2]) /\ Below w.heap.size w w':=by
 have hu30:=Try.underlying30
 have HR0_0:=ak hr0_0
 have HC0_0:=ak hc0_0
 clear hr0_0 hc0_0
 have HR0_1:=ak hr0_1
 have HC0_1:=ak hc0_1
 clear hr0_1 hc0_1
 have HR0_2:=ak hr0_2
 have HC0_2:=ak hc0_2
 clear hr0_2 hc0_2
 have HB:=ak (Below.refl w.heap.size w)
 have H:((impl_IsExploration.f k l0_0 l0_1 l0_2 a0_3 a0_4).bind fun t699=>(if t699 = true then ((impl_Exploration_wayOut.f k l0_0 l0_1 l0_2 a0_3 a0_4).bind fun bt700=>(some (bt700.1,bt700.2))) else (some (0,false)))) = some (r1,r2):=h
 clear h
 replace H:=Option.bind_eq_some_iff.mp H
 obtain ⟨t699,A20,H⟩:=H
 replace H:(if t699 = true then ((impl_Exploration_wayOut.f k l0_0 l0_1 l0_2 a0_3 a0_4).bind fun bt700=>(some (bt700.1,bt700.2))) else (some (0,false))) = some (r1,r2):=H
 have A2:=ak A20
 clear A20
 by_cases c3:t699 = true
 .
  subst c3
  have H1:((impl_Exploration_wayOut.f k l0_0 l0_1 l0_2 a0_3 a0_4).bind fun bt700=>(some (bt700.1,bt700.2))) = some (r1,r2):=by rw [if_pos rfl] at H;exact H
  clear H
  have H:=H1
  clear H1
  replace H:=Option.bind_eq_some_iff.mp H
  obtain ⟨⟨t700,t701⟩,A40,H⟩:=H
  replace H:(some (t700,t701)) = some (r1,r2):=H
  have A4:=ak A40
  clear A40
  simp only [Option.some.injEq,Prod.mk.injEq] at H
  obtain ⟨rfl,rfl⟩:=H
  go_enter Try.func26,Try.ntmps26
  go_wp2_with (first|((with_reducible refine gate_dst (N:=1) rfl ?_);refine box_event ?hg (N:=1) ?hd (cs:=#[.slice A0_0 l0_0.length c0_0,.slice A0_1 l0_1.length c0_1,.slice A0_2 l0_2.length c0_2,.int .i64 a0_3,.int .i64 a0_4]) (t:=30) ?hr ?_;(case hd=>rfl);(case hg=>rfl);(case hr=>first|(go_simp;done)|(go_simp;rfl));intro gb698 hg w5 hbox hb;have BK698:=ak (hbox);have GW698:=ak ((bz_ hg (lb0_ HB.out)));have GE698:=ak ((bz_ hg (lb0_ HB.out)));replace HB:=ak (below_step (lb0_ HB.out) hb);clear hb hbox hg;obtain ⟨hcz6_0,hcz6_1,hcz6_2,hcz6_3,hcz6_4⟩:=cz5_ BK698.out;obtain ⟨hfz6_0,hfz6_1,hfz6_2,hfz6_3,hfz6_4⟩:=fz5_ BK698.out)|((with_reducible refine gate_callee (f:=18) rfl ?_);refine ga_ (some 5) Try.func18 #[.agg #[.slice A0_0 l0_0.length c0_0,.slice A0_1 l0_1.length c0_1,.slice A0_2 l0_2.length c0_2,.int .i64 a0_3,.int .i64 a0_4]] ?_;(with_reducible refine (impl_IsExploration.calls k _ _ l0_0 _ _ l0_1 _ _ l0_2 a0_3 a0_4 true _ ?side1 ?side2 ?side3 ?side4 ?side5 ?side6 A2.out).mono ?_);(case side1=>exact kc_ (Kd.C_below HR0_0.out HB.out));(case side2=>exact HC0_0.out);(case side3=>exact kc_ (Kd.C_below HR0_1.out HB.out));(case side4=>exact HC0_1.out);(case side5=>exact kc_ (Kd.C_below HR0_2.out HB.out));(case side6=>exact HC0_2.out);rintro e w7 ⟨rfl,hb⟩;refine ⟨_,rfl,?_⟩;replace BK698:=ak (bb_ (bk_ BK698.out) hb);replace HB:=ak (below_step (lb1_ HB.out GE698.out) hb);(try clear hb);(try clear hb2);(try clear hk);(try clear hi);obtain ⟨hcz8_0,hcz8_1,hcz8_2,hcz8_3,hcz8_4⟩:=cz5_ BK698.out;obtain ⟨hfz8_0,hfz8_1,hfz8_2,hfz8_3,hfz8_4⟩:=fz5_ BK698.out)|((with_reducible refine gate_callee (f:=72) rfl ?_);refine ga_ (some 8) Try.func72 #[.agg #[.slice A0_0 l0_0.length c0_0,.slice A0_1 l0_1.length c0_1,.slice A0_2 l0_2.length c0_2,.int .i64 a0_3,.int .i64 a0_4]] ?_;(with_reducible refine (impl_Exploration_wayOut.calls k _ _ l0_0 _ _ l0_1 _ _ l0_2 a0_3 a0_4 t700 t701 _ ?side1 ?side2 ?side3 ?side4 ?side5 ?side6 A4.out).mono ?_);(case side1=>exact kc_ (Kd.C_below HR0_0.out HB.out));(case side2=>exact HC0_0.out);(case side3=>exact kc_ (Kd.C_below HR0_1.out HB.out));(case side4=>exact HC0_1.out);(case side5=>exact kc_ (Kd.C_below HR0_2.out HB.out));(case side6=>exact HC0_2.out);rintro e w9 ⟨rfl,hb⟩;refine ⟨_,rfl,?_⟩;replace BK698:=ak (bb_ (bk_ BK698.out) hb);replace HB:=ak (below_step (lb1_ HB.out GE698.out) hb);(try clear hb);(try clear hb2);(try clear hk);(try clear hi)))
  go_ret2
  exact ⟨rr_,lb1_ HB.out GE698.out⟩
 .
  replace c3:=Bool.eq_false_iff.mpr c3
  subst c3
  have H1:(some (0,false)) = some (r1,r2):=by rw [if_neg (show ¬ (false = true) by decide)] at H;exact H
  clear H
  have H:=H1
  clear H1
  simp only [Option.some.injEq,Prod.mk.injEq] at H
  obtain ⟨rfl,rfl⟩:=H
  go_enter Try.func26,Try.ntmps26
  go_wp2_with (first|((with_reducible refine gate_dst (N:=1) rfl ?_);refine box_event ?hg (N:=1) ?hd (cs:=#[.slice A0_0 l0_0.length c0_0,.slice A0_1 l0_1.length c0_1,.slice A0_2 l0_2.length c0_2,.int .i64 a0_3,.int .i64 a0_4]) (t:=30) ?hr ?_;(case hd=>rfl);(case hg=>rfl);(case hr=>first|(go_simp;done)|(go_simp;rfl));intro gb698 hg w10 hbox hb;have BK698:=ak (hbox);have GW698:=ak ((bz_ hg (lb0_ HB.out)));have GE698:=ak ((bz_ hg (lb0_ HB.out)));replace HB:=ak (below_step (lb0_ HB.out) hb);clear hb hbox hg;obtain ⟨hcz11_0,hcz11_1,hcz11_2,hcz11_3,hcz11_4⟩:=cz5_ BK698.out;obtain ⟨hfz11_0,hfz11_1,hfz11_2,hfz11_3,hfz11_4⟩:=fz5_ BK698.out)|((with_reducible refine gate_callee (f:=18) rfl ?_);refine ga_ (some 5) Try.func18 #[.agg #[.slice A0_0 l0_0.length c0_0,.slice A0_1 l0_1.length c0_1,.slice A0_2 l0_2.length c0_2,.int .i64 a0_3,.int .i64 a0_4]] ?_;(with_reducible refine (impl_IsExploration.calls k _ _ l0_0 _ _ l0_1 _ _ l0_2 a0_3 a0_4 false _ ?side1 ?side2 ?side3 ?side4 ?side5 ?side6 A2.out).mono ?_);(case side1=>exact kc_ (Kd.C_below HR0_0.out HB.out));(case side2=>exact HC0_0.out);(case side3=>exact kc_ (Kd.C_below HR0_1.out HB.out));(case side4=>exact HC0_1.out);(case side5=>exact kc_ (Kd.C_below HR0_2.out HB.out));(case side6=>exact HC0_2.out);rintro e w12 ⟨rfl,hb⟩;refine ⟨_,rfl,?_⟩;replace BK698:=ak (bb_ (bk_ BK698.out) hb);replace HB:=ak (below_step (lb1_ HB.out GE698.out) hb);(try clear hb);(try clear hb2);(try clear hk);(try clear hi)))
  go_ret2
  exact ⟨rr_,lb1_ HB.out GE698.out⟩
def impl_SpareLight.f (k:Nat) (l0_0:List (S37)) (l0_1:List Bool) (l0_2:List Bool) (a0_3:Int) (a0_4:Int):Option (Int × Bool):=(impl_WayOut.f k l0_0 l0_1 l0_2 a0_3 a0_4).bind fun bt703=>(if bt703.2 = true then (some (wrap64 (a0_4 - bt703.1),true)) else (some (0,false)))
theorem impl_SpareLight.calls (k:Nat) (A0_0:Option Addr) (c0_0:Nat) (l0_0:List (S37)) (A0_1:Option Addr) (c0_1:Nat) (l0_1:List Bool) (A0_2:Option Addr) (c0_2:Nat) (l0_2:List Bool) (a0_3:Int) (a0_4:Int) (r1:Int) (r2:Bool) (w:World) (hr0_0:Kd.C k37 w A0_0 l0_0.length l0_0) (hc0_0:l0_0.length <= c0_0) (hr0_1:Kd.C Kd.bool w A0_1 l0_1.length l0_1) (hc0_1:l0_1.length <= c0_1) (hr0_2:Kd.C Kd.bool w A0_2 l0_2.length l0_2) (hc0_2:l0_2.length <= c0_2) (h:impl_SpareLight.f k l0_0 l0_1 l0_2 a0_3 a0_4 = some (r1,r2)) :
  Calls Try.prog 25 #[.agg #[.slice A0_0 l0_0.length c0_0,.slice A0_1 l0_1.length c0_1,.slice A0_2 l0_2.length c0_2,.int .i64 a0_3,.int .i64 a0_4]] w fun e w'=>e = .returned (.tuple #[.int .i64 r1,.bool r2]) /\ Below w.heap.size w w':=by
 have hu30:=Try.underlying30
 have HR0_0:=ak hr0_0
 have HC0_0:=ak hc0_0
 clear hr0_0 hc0_0
 have HR0_1:=ak hr0_1
 have HC0_1:=ak hc0_1
 clear hr0_1 hc0_1
 have HR0_2:=ak hr0_2
 have HC0_2:=ak hc0_2
 clear hr0_2 hc0_2
 have HB:=ak (Below.refl w.heap.size w)
 have H:((impl_WayOut.f k l0_0 l0_1 l0_2 a0_3 a0_4).bind fun bt703=>(if bt703.2 = true then (some (wrap64 (a0_4 - bt703.1),true)) else (some (0,false)))) = some (r1,r2):=h
 clear h
 replace H:=Option.bind_eq_some_iff.mp H
 obtain ⟨⟨t703,t704⟩,A20,H⟩:=H
 replace H:(if t704 = true then (some (wrap64 (a0_4 - t703),true)) else (some (0,false))) = some (r1,r2):=H
 have A2:=ak A20
 clear A20
 by_cases c3:t704 = true
 .
  subst c3
  have H1:(some (wrap64 (a0_4 - t703),true)) = some (r1,r2):=by rw [if_pos rfl] at H;exact H
  clear H
  have H:=H1
  clear H1
  simp only [Option.some.injEq,Prod.mk.injEq] at H
  obtain ⟨rfl,rfl⟩:=H
  go_enter Try.func25,Try.ntmps25
  go_wp2_with (first|((with_reducible refine gate_dst (N:=1) rfl ?_);refine box_event ?hg (N:=1) ?hd (cs:=#[.slice A0_0 l0_0.length c0_0,.slice A0_1 l0_1.length c0_1,.slice A0_2 l0_2.length c0_2,.int .i64 a0_3,.int .i64 a0_4]) (t:=30) ?hr ?_;(case hd=>rfl);(case hg=>rfl);(case hr=>first|(go_simp;done)|(go_simp;rfl));intro gb702 hg w4 hbox hb;have BK702:=ak (hbox);have GW702:=ak ((bz_ hg (lb0_ HB.out)));have GE702:=ak ((bz_ hg (lb0_ HB.out)));replace HB:=ak (below_step (lb0_ HB.out) hb);clear hb hbox hg;obtain ⟨hcz5_0,hcz5_1,hcz5_2,hcz5_3,hcz5_4⟩:=cz5_ BK702.out;obtain ⟨hfz5_0,hfz5_1,hfz5_2,hfz5_3,hfz5_4⟩:=fz5_ BK702.out)|((with_reducible refine gate_callee (f:=26) rfl ?_);refine ga_ (some 8) Try.func26 #[.agg #[.slice A0_0 l0_0.length c0_0,.slice A0_1 l0_1.length c0_1,.slice A0_2 l0_2.length c0_2,.int .i64 a0_3,.int .i64 a0_4]] ?_;(with_reducible refine (impl_WayOut.calls k _ _ l0_0 _ _ l0_1 _ _ l0_2 a0_3 a0_4 t703 true _ ?side1 ?side2 ?side3 ?side4 ?side5 ?side6 A2.out).mono ?_);(case side1=>exact kc_ (Kd.C_below HR0_0.out HB.out));(case side2=>exact HC0_0.out);(case side3=>exact kc_ (Kd.C_below HR0_1.out HB.out));(case side4=>exact HC0_1.out);(case side5=>exact kc_ (Kd.C_below HR0_2.out HB.out));(case side6=>exact HC0_2.out);rintro e w6 ⟨rfl,hb⟩;refine ⟨_,rfl,?_⟩;replace BK702:=ak (bb_ (bk_ BK702.out) hb);replace HB:=ak (below_step (lb1_ HB.out GE702.out) hb);(try clear hb);(try clear hb2);(try clear hk);(try clear hi);obtain ⟨hcz7_0,hcz7_1,hcz7_2,hcz7_3,hcz7_4⟩:=cz5_ BK702.out;obtain ⟨hfz7_0,hfz7_1,hfz7_2,hfz7_3,hfz7_4⟩:=fz5_ BK702.out))
  go_ret2
  exact ⟨rr_,lb1_ HB.out GE702.out⟩
 .
  replace c3:=Bool.eq_false_iff.mpr c3
  subst c3
  have H1:(some (0,false)) = some (r1,r2):=by rw [if_neg (show ¬ (false = true) by decide)] at H;exact H
  clear H
  have H:=H1
  clear H1
  simp only [Option.some.injEq,Prod.mk.injEq] at H
  obtain ⟨rfl,rfl⟩:=H
  go_enter Try.func25,Try.ntmps25
  go_wp2_with (first|((with_reducible refine gate_dst (N:=1) rfl ?_);refine box_event ?hg (N:=1) ?hd (cs:=#[.slice A0_0 l0_0.length c0_0,.slice A0_1 l0_1.length c0_1,.slice A0_2 l0_2.length c0_2,.int .i64 a0_3,.int .i64 a0_4]) (t:=30) ?hr ?_;(case hd=>rfl);(case hg=>rfl);(case hr=>first|(go_simp;done)|(go_simp;rfl));intro gb702 hg w8 hbox hb;have BK702:=ak (hbox);have GW702:=ak ((bz_ hg (lb0_ HB.out)));have GE702:=ak ((bz_ hg (lb0_ HB.out)));replace HB:=ak (below_step (lb0_ HB.out) hb);clear hb hbox hg;obtain ⟨hcz9_0,hcz9_1,hcz9_2,hcz9_3,hcz9_4⟩:=cz5_ BK702.out;obtain ⟨hfz9_0,hfz9_1,hfz9_2,hfz9_3,hfz9_4⟩:=fz5_ BK702.out)|((with_reducible refine gate_callee (f:=26) rfl ?_);refine ga_ (some 8) Try.func26 #[.agg #[.slice A0_0 l0_0.length c0_0,.slice A0_1 l0_1.length c0_1,.slice A0_2 l0_2.length c0_2,.int .i64 a0_3,.int .i64 a0_4]] ?_;(with_reducible refine (impl_WayOut.calls k _ _ l0_0 _ _ l0_1 _ _ l0_2 a0_3 a0_4 t703 false _ ?side1 ?side2 ?side3 ?side4 ?side5 ?side6 A2.out).mono ?_);(case side1=>exact kc_ (Kd.C_below HR0_0.out HB.out));(case side2=>exact HC0_0.out);(case side3=>exact kc_ (Kd.C_below HR0_1.out HB.out));(case side4=>exact HC0_1.out);(case side5=>exact kc_ (Kd.C_below HR0_2.out HB.out));(case side6=>exact HC0_2.out);rintro e w10 ⟨rfl,hb⟩;refine ⟨_,rfl,?_⟩;replace BK702:=ak (bb_ (bk_ BK702.out) hb);replace HB:=ak (below_step (lb1_ HB.out GE702.out) hb);(try clear hb);(try clear hb2);(try clear hk);(try clear hi)))
  go_ret2
  exact ⟨rr_,lb1_ HB.out GE702.out⟩
def impl_VisitedLength.l0:Nat -> Int -> List (S37) -> Int -> Int -> List (S37) -> List Bool -> List Bool -> Int -> Int -> Option (Int × Bool)
 | 0,_,_,_,_,_,_,_,_,_=>none
 | k + 1,x4,x11,x12,x13,x706000,x706001,x706002,x706003,x706004=>if x13 < x12 then (if 0 <= x13 then (if x13 < (x11.length:Int) then (if 0 <= ((rd_T37 x11 x13).f0) then (if ((rd_T37 x11 x13).f0) < (x706001.length:Int) then (if rdOf false x706001 ((rd_T37 x11 x13).f0) = true then (if 0 <= ((rd_T37 x11 x13).f1) then (if ((rd_T37 x11 x13).f1) < (x706001.length:Int) then (if rdOf false x706001 ((rd_T37 x11 x13).f1) = true then (impl_VisitedLength.l0 k (wrap64 (x4 + ((rd_T37 x11 x13).f2))) x11 x12 (wrap64 (x13 + 1)) x706000 x706001 x706002 x706003 x706004) else (impl_VisitedLength.l0 k x4 x11 x12 (wrap64 (x13 + 1)) x706000 x706001 x706002 x706003 x706004)) else (none)) else (none)) else (impl_VisitedLength.l0 k x4 x11 x12 (wrap64 (x13 + 1)) x706000 x706001 x706002 x706003 x706004)) else (none)) else (none)) else (none)) else (none)) else (some (x4,true))
def impl_VisitedLength.f (k:Nat) (l0_0:List (S37)) (l0_1:List Bool) (l0_2:List Bool) (a0_3:Int) (a0_4:Int):Option (Int × Bool):=(impl_IsExploration.f k l0_0 l0_1 l0_2 a0_3 a0_4).bind fun t706=>(if t706 = true then (impl_VisitedLength.l0 k 0 l0_0 (l0_0.length:Int) 0 l0_0 l0_1 l0_2 a0_3 a0_4) else (some (0,false)))
theorem impl_VisitedLength.calls (k:Nat) (A0_0:Option Addr) (c0_0:Nat) (l0_0:List (S37)) (A0_1:Option Addr) (c0_1:Nat) (l0_1:List Bool) (A0_2:Option Addr) (c0_2:Nat) (l0_2:List Bool) (a0_3:Int) (a0_4:Int) (r1:Int) (r2:Bool) (w:World) (hr0_0:Kd.C k37 w A0_0 l0_0.length l0_0) (hc0_0:l0_0.length <= c0_0) (hr0_1:Kd.C Kd.bool w A0_1 l0_1.length l0_1) (hc0_1:l0_1.length <= c0_1) (hr0_2:Kd.C Kd.bool w A0_2 l0_2.length l0_2) (hc0_2:l0_2.length <= c0_2) (h:impl_VisitedLength.f k l0_0 l0_1 l0_2 a0_3 a0_4 = some (r1,r2)) :
  Calls Try.prog 27 #[.agg #[.slice A0_0 l0_0.length c0_0,.slice A0_1 l0_1.length c0_1,.slice A0_2 l0_2.length c0_2,.int .i64 a0_3,.int .i64 a0_4]] w fun e w'=>e = .returned (.tuple #[.int .i64 r1,.bool r2]) /\ Below w.heap.size w w':=by
 have hu30:=Try.underlying30
 have hu37:=Try.underlying37
 have HR0_0:=ak hr0_0
 have HC0_0:=ak hc0_0
 clear hr0_0 hc0_0
 have HR0_1:=ak hr0_1
 have HC0_1:=ak hc0_1
 clear hr0_1 hc0_1
 have HR0_2:=ak hr0_2
 have HC0_2:=ak hc0_2
 clear hr0_2 hc0_2
 have HB:=ak (Below.refl w.heap.size w)
 have H:((impl_IsExploration.f k l0_0 l0_1 l0_2 a0_3 a0_4).bind fun t706=>(if t706 = true then (impl_VisitedLength.l0 k 0 l0_0 (l0_0.length:Int) 0 l0_0 l0_1 l0_2 a0_3 a0_4) else (some (0,false)))) = some (r1,r2):=h
 clear h
 replace H:=Option.bind_eq_some_iff.mp H
 obtain ⟨t706,A20,H⟩:=H
 replace H:(if t706 = true then (impl_VisitedLength.l0 k 0 l0_0 (l0_0.length:Int) 0 l0_0 l0_1 l0_2 a0_3 a0_4) else (some (0,false))) = some (r1,r2):=H
 have A2:=ak A20
 clear A20
 by_cases c3:t706 = true
 .
  subst c3
  have H1:(impl_VisitedLength.l0 k 0 l0_0 (l0_0.length:Int) 0 l0_0 l0_1 l0_2 a0_3 a0_4) = some (r1,r2):=by rw [if_pos rfl] at H;exact H
  clear H
  have H:=H1
  clear H1
  have H':=ak H
  clear H
  go_enter Try.func27,Try.ntmps27
  go_wp2_with (first|((with_reducible refine gate_dst (N:=1) rfl ?_);refine box_event ?hg (N:=1) ?hd (cs:=#[.slice A0_0 l0_0.length c0_0,.slice A0_1 l0_1.length c0_1,.slice A0_2 l0_2.length c0_2,.int .i64 a0_3,.int .i64 a0_4]) (t:=30) ?hr ?_;(case hd=>rfl);(case hg=>rfl);(case hr=>first|(go_simp;done)|(go_simp;rfl));intro gb705 hg w4 hbox hb;have BK705:=ak (hbox);have GW705:=ak ((bz_ hg (lb0_ HB.out)));have GE705:=ak ((bz_ hg (lb0_ HB.out)));replace HB:=ak (below_step (lb0_ HB.out) hb);clear hb hbox hg;obtain ⟨hcz5_0,hcz5_1,hcz5_2,hcz5_3,hcz5_4⟩:=cz5_ BK705.out;obtain ⟨hfz5_0,hfz5_1,hfz5_2,hfz5_3,hfz5_4⟩:=fz5_ BK705.out)|((with_reducible refine gate_callee (f:=18) rfl ?_);refine ga_ (some 8) Try.func18 #[.agg #[.slice A0_0 l0_0.length c0_0,.slice A0_1 l0_1.length c0_1,.slice A0_2 l0_2.length c0_2,.int .i64 a0_3,.int .i64 a0_4]] ?_;(with_reducible refine (impl_IsExploration.calls k _ _ l0_0 _ _ l0_1 _ _ l0_2 a0_3 a0_4 true _ ?side1 ?side2 ?side3 ?side4 ?side5 ?side6 A2.out).mono ?_);(case side1=>exact kc_ (Kd.C_below HR0_0.out HB.out));(case side2=>exact HC0_0.out);(case side3=>exact kc_ (Kd.C_below HR0_1.out HB.out));(case side4=>exact HC0_1.out);(case side5=>exact kc_ (Kd.C_below HR0_2.out HB.out));(case side6=>exact HC0_2.out);rintro e w6 ⟨rfl,hb⟩;refine ⟨_,rfl,?_⟩;replace BK705:=ak (bb_ (bk_ BK705.out) hb);replace HB:=ak (below_step (lb1_ HB.out GE705.out) hb);(try clear hb);(try clear hb2);(try clear hk);(try clear hi);obtain ⟨hcz7_0,hcz7_1,hcz7_2,hcz7_3,hcz7_4⟩:=cz5_ BK705.out;obtain ⟨hfz7_0,hfz7_1,hfz7_2,hfz7_3,hfz7_4⟩:=fz5_ BK705.out))
  go_loopg [4,13] k (fun kq v4 v13 w'=>∃ (x4_1:Int) (x13_1:Int),v4 = .int .i64 x4_1 /\ v13 = .int .i64 x13_1 /\ Aside0 (impl_VisitedLength.l0 kq x4_1 l0_0 (l0_0.length:Int) x13_1 l0_0 l0_1 l0_2 a0_3 a0_4 = some (r1,r2)) /\ Aside0 (kq <= k) /\ Aside0 (w'.heap[gb705]? = some (.cells #[(.slice A0_0 l0_0.length c0_0),(.slice A0_1 l0_1.length c0_1),(.slice A0_2 l0_2.length c0_2),.int .i64 a0_3,.int .i64 a0_4] 30 (0,0))) /\ Aside0 (Below w.heap.size w w'))
  case atStart=>exact ⟨(0),(0),(by first|rfl|(simp;done)|(simp [*];done)),(by first|rfl|(simp;done)|(simp [*];done)),H',⟨Nat.le_refl _⟩,⟨bk_ BK705.out⟩,⟨lb1_ HB.out GE705.out⟩⟩
  case round=>
   clear H'
   try clear c1
   try clear c2
   try clear p2
   try clear c3
   try clear hcz5_0 hcz5_1 hcz5_2 hcz5_3 hcz5_4
   try clear hcz7_0 hcz7_1 hcz7_2 hcz7_3 hcz7_4
   try clear hfz5_0 hfz5_1 hfz5_2 hfz5_3 hfz5_4
   try clear hfz7_0 hfz7_1 hfz7_2 hfz7_3 hfz7_4
   obtain ⟨x4_1,x13_1,rfl,rfl,HA,HK1,BK705,HB⟩:=hrel
   cases gk with
   | zero=>exact absurd HA.out (by simp [impl_VisitedLength.l0])
   | succ k1=>
    have H:=HA.out
    clear HA
    simp only [impl_VisitedLength.l0] at H
    by_cases c8:x13_1 < (l0_0.length:Int)
    .
     rw [if_pos c8] at H
     have c8b0:decide (x13_1 < (l0_0.length:Int)) = true:=decide_eq_true c8
     clear c8
     by_cases c9:0 <= x13_1
     .
      rw [if_pos c9] at H
      have c9b0:decide (0 <= x13_1) = true:=decide_eq_true c9
      clear c9
      by_cases c10:x13_1 < (l0_0.length:Int)
      .
       rw [if_pos c10] at H
       have c10b0:decide (x13_1 < (l0_0.length:Int)) = true:=decide_eq_true c10
       clear c10
       by_cases c11:0 <= ((rd_T37 l0_0 x13_1).f0)
       .
        rw [if_pos c11] at H
        have c11b0:decide (0 <= ((rd_T37 l0_0 x13_1).f0)) = true:=decide_eq_true c11;clear c11
        by_cases c12:((rd_T37 l0_0 x13_1).f0) < (l0_1.length:Int)
        .
         rw [if_pos c12] at H
         have c12b0:decide (((rd_T37 l0_0 x13_1).f0) < (l0_1.length:Int)) = true:=decide_eq_true c12;clear c12
         obtain ⟨bq13,hbq13⟩:∃ b_:Bool,b_ = (rdOf false l0_1 ((rd_T37 l0_0 x13_1).f0)):=⟨_,rfl⟩
         replace H:(if bq13 = true then (if 0 <= ((rd_T37 l0_0 x13_1).f1) then (if ((rd_T37 l0_0 x13_1).f1) < (l0_1.length:Int) then (if rdOf false l0_1 ((rd_T37 l0_0 x13_1).f1) = true then (impl_VisitedLength.l0 k1 (wrap64 (x4_1 + ((rd_T37 l0_0 x13_1).f2))) l0_0 (l0_0.length:Int) (wrap64 (x13_1 + 1)) l0_0 l0_1 l0_2 a0_3 a0_4) else (impl_VisitedLength.l0 k1 x4_1 l0_0 (l0_0.length:Int) (wrap64 (x13_1 + 1)) l0_0 l0_1 l0_2 a0_3 a0_4)) else (none)) else (none)) else (impl_VisitedLength.l0 k1 x4_1 l0_0 (l0_0.length:Int) (wrap64 (x13_1 + 1)) l0_0 l0_1 l0_2 a0_3 a0_4)) = some (r1,r2):=by rw [<- hbq13] at H;exact H
         have Nbq13:=ak hbq13;clear hbq13
         by_cases c14:bq13 = true
         .
          subst c14
          have H1:(if 0 <= ((rd_T37 l0_0 x13_1).f1) then (if ((rd_T37 l0_0 x13_1).f1) < (l0_1.length:Int) then (if rdOf false l0_1 ((rd_T37 l0_0 x13_1).f1) = true then (impl_VisitedLength.l0 k1 (wrap64 (x4_1 + ((rd_T37 l0_0 x13_1).f2))) l0_0 (l0_0.length:Int) (wrap64 (x13_1 + 1)) l0_0 l0_1 l0_2 a0_3 a0_4) else (impl_VisitedLength.l0 k1 x4_1 l0_0 (l0_0.length:Int) (wrap64 (x13_1 + 1)) l0_0 l0_1 l0_2 a0_3 a0_4)) else (none)) else (none)) = some (r1,r2):=by rw [if_pos rfl] at H;exact H
          clear H;have H:=H1;clear H1
          by_cases c15:0 <= ((rd_T37 l0_0 x13_1).f1)
          .
           rw [if_pos c15] at H
           have c15b0:decide (0 <= ((rd_T37 l0_0 x13_1).f1)) = true:=decide_eq_true c15;clear c15
           by_cases c16:((rd_T37 l0_0 x13_1).f1) < (l0_1.length:Int)
           .
            rw [if_pos c16] at H
            have c16b0:decide (((rd_T37 l0_0 x13_1).f1) < (l0_1.length:Int)) = true:=decide_eq_true c16;clear c16
            obtain ⟨bq17,hbq17⟩:∃ b_:Bool,b_ = (rdOf false l0_1 ((rd_T37 l0_0 x13_1).f1)):=⟨_,rfl⟩
            replace H:(if bq17 = true then (impl_VisitedLength.l0 k1 (wrap64 (x4_1 + ((rd_T37 l0_0 x13_1).f2))) l0_0 (l0_0.length:Int) (wrap64 (x13_1 + 1)) l0_0 l0_1 l0_2 a0_3 a0_4) else (impl_VisitedLength.l0 k1 x4_1 l0_0 (l0_0.length:Int) (wrap64 (x13_1 + 1)) l0_0 l0_1 l0_2 a0_3 a0_4)) = some (r1,r2):=by rw [<- hbq17] at H;exact H
            have Nbq17:=ak hbq17;clear hbq17
            by_cases c18:bq17 = true
            .
             subst c18
             have H1:(impl_VisitedLength.l0 k1 (wrap64 (x4_1 + ((rd_T37 l0_0 x13_1).f2))) l0_0 (l0_0.length:Int) (wrap64 (x13_1 + 1)) l0_0 l0_1 l0_2 a0_3 a0_4) = some (r1,r2):=by rw [if_pos rfl] at H;exact H
             clear H;have H:=H1;clear H1;have H':=ak H;clear H;have p707:0 <= (x13_1:Int):=dt_;have q707:x13_1 < (l0_0.length:Int):=dt_;obtain ⟨ad707,e707,hx707_0,hx707_1,hx707_2,hx707_3,hx707_4⟩:=at_T37 HR0_0.out x13_1 p707 q707
             cases e707
             replace hx707_0:=bc_ HB.out hx707_0;replace hx707_1:=bc_ HB.out hx707_1;replace hx707_2:=bc_ HB.out hx707_2;replace hx707_3:=bc_ HB.out hx707_3;replace hx707_4:=bc_ HB.out hx707_4;replace p707:=eq_true p707;replace q707:=eq_true q707
             go_wp2_with (first|((with_reducible refine gate_dst (N:=6) rfl ?_);refine box_event ?hg (N:=6) ?hd (cs:=#[.int .i64 0,.int .i64 0,.int .i64 0,.int .i64 0,.int .i64 0]) (t:=37) ?hr ?_;(case hd=>rfl);(case hg=>rfl);(case hr=>first|(go_simp;done)|(go_simp;rfl));intro gb708 hg w19 hbox hb;have BK708:=ak (hbox);have GW708:=ak ((bz_ hg (lb1_ HB.out GE705.out)));have GE708:=ak ((bz_ hg (lb1_ HB.out GE705.out)));replace HB:=ak (below_step (lb1_ HB.out GE705.out) hb);have NB705_708:=ak (nl_ hg BK705.out);have NB708_705:=ak (ng_ hg BK705.out);replace BK705:=ak (bb_ (bk_ BK705.out) hb);clear hb hbox hg;have hnb20:=NB708_705.out;have hnc20:=NB705_708.out;obtain ⟨hcz21_0,hcz21_1,hcz21_2,hcz21_3,hcz21_4⟩:=cz5_ BK708.out;obtain ⟨hfz21_0,hfz21_1,hfz21_2,hfz21_3,hfz21_4⟩:=fz5_ BK708.out;obtain ⟨hcz22_0,hcz22_1,hcz22_2,hcz22_3,hcz22_4⟩:=cz5_ BK705.out;obtain ⟨hfz22_0,hfz22_1,hfz22_2,hfz22_3,hfz22_4⟩:=fz5_ BK705.out;have p709:0 <= (((rd_T37 l0_0 x13_1).f0):Int):=dt_;have q709:((rd_T37 l0_0 x13_1).f0) < (l0_1.length:Int):=dt_;obtain ⟨ad709,e709,hx709_0⟩:=Kd.at_bool HR0_1.out ((rd_T37 l0_0 x13_1).f0) p709 q709;(try rw [<- Nbq13.out] at hx709_0);(try rw [<- Nbq17.out] at hx709_0);cases e709;have hn709_0:ad709.block ≠ gb708:=Nat.ne_of_lt (Nat.lt_of_lt_of_le (by have:=World.block_lt_of_cell? _ _ hx709_0;first|rwa [add_block] at this|exact this) GW708.out);have hn709_1:ad709.block ≠ gb708:=Nat.ne_of_lt (Nat.lt_of_lt_of_le (by have:=World.block_lt_of_cell? _ _ hx709_0;first|rwa [add_block] at this|exact this) GW708.out);have hn709_2:ad709.block ≠ gb708:=Nat.ne_of_lt (Nat.lt_of_lt_of_le (by have:=World.block_lt_of_cell? _ _ hx709_0;first|rwa [add_block] at this|exact this) GW708.out);have hn709_3:ad709.block ≠ gb708:=Nat.ne_of_lt (Nat.lt_of_lt_of_le (by have:=World.block_lt_of_cell? _ _ hx709_0;first|rwa [add_block] at this|exact this) GW708.out);have hn709_4:ad709.block ≠ gb708:=Nat.ne_of_lt (Nat.lt_of_lt_of_le (by have:=World.block_lt_of_cell? _ _ hx709_0;first|rwa [add_block] at this|exact this) GW708.out);replace hx709_0:=bc_ HB.out hx709_0;replace hx709_0:=(cell_far (p:=⟨gb708,0,none⟩) (by first|(rw [add_block];exact hn709_0)|(show (Addr.add _ _).block ≠ _;rw [add_block];exact hn709_0)|exact hn709_0) (.int .i64 ((rd_T37 l0_0 x13_1).f0))).trans hx709_0;replace hx709_0:=(cell_far (p:=⟨gb708,1,none⟩) (by first|(rw [add_block];exact hn709_1)|(show (Addr.add _ _).block ≠ _;rw [add_block];exact hn709_1)|exact hn709_1) (.int .i64 ((rd_T37 l0_0 x13_1).f1))).trans hx709_0;replace hx709_0:=(cell_far (p:=⟨gb708,2,none⟩) (by first|(rw [add_block];exact hn709_2)|(show (Addr.add _ _).block ≠ _;rw [add_block];exact hn709_2)|exact hn709_2) (.int .i64 ((rd_T37 l0_0 x13_1).f2))).trans hx709_0;replace hx709_0:=(cell_far (p:=⟨gb708,3,none⟩) (by first|(rw [add_block];exact hn709_3)|(show (Addr.add _ _).block ≠ _;rw [add_block];exact hn709_3)|exact hn709_3) (.int .i64 ((rd_T37 l0_0 x13_1).f3))).trans hx709_0;replace hx709_0:=(cell_far (p:=⟨gb708,4,none⟩) (by first|(rw [add_block];exact hn709_4)|(show (Addr.add _ _).block ≠ _;rw [add_block];exact hn709_4)|exact hn709_4) (.int .i64 ((rd_T37 l0_0 x13_1).f4))).trans hx709_0;clear hn709_0;clear hn709_1;clear hn709_2;clear hn709_3;clear hn709_4;replace p709:=eq_true p709;replace q709:=eq_true q709;have p710:0 <= (((rd_T37 l0_0 x13_1).f1):Int):=dt_;have q710:((rd_T37 l0_0 x13_1).f1) < (l0_1.length:Int):=dt_;obtain ⟨ad710,e710,hx710_0⟩:=Kd.at_bool HR0_1.out ((rd_T37 l0_0 x13_1).f1) p710 q710;(try rw [<- Nbq13.out] at hx710_0);(try rw [<- Nbq17.out] at hx710_0);obtain rfl:ad709 = ad710:=(by injection e710);have hn710_0:ad709.block ≠ gb708:=Nat.ne_of_lt (Nat.lt_of_lt_of_le (by have:=World.block_lt_of_cell? _ _ hx710_0;first|rwa [add_block] at this|exact this) GW708.out);have hn710_1:ad709.block ≠ gb708:=Nat.ne_of_lt (Nat.lt_of_lt_of_le (by have:=World.block_lt_of_cell? _ _ hx710_0;first|rwa [add_block] at this|exact this) GW708.out);have hn710_2:ad709.block ≠ gb708:=Nat.ne_of_lt (Nat.lt_of_lt_of_le (by have:=World.block_lt_of_cell? _ _ hx710_0;first|rwa [add_block] at this|exact this) GW708.out);have hn710_3:ad709.block ≠ gb708:=Nat.ne_of_lt (Nat.lt_of_lt_of_le (by have:=World.block_lt_of_cell? _ _ hx710_0;first|rwa [add_block] at this|exact this) GW708.out);have hn710_4:ad709.block ≠ gb708:=Nat.ne_of_lt (Nat.lt_of_lt_of_le (by have:=World.block_lt_of_cell? _ _ hx710_0;first|rwa [add_block] at this|exact this) GW708.out);replace hx710_0:=bc_ HB.out hx710_0;replace hx710_0:=(cell_far (p:=⟨gb708,0,none⟩) (by first|(rw [add_block];exact hn710_0)|(show (Addr.add _ _).block ≠ _;rw [add_block];exact hn710_0)|exact hn710_0) (.int .i64 ((rd_T37 l0_0 x13_1).f0))).trans hx710_0;replace hx710_0:=(cell_far (p:=⟨gb708,1,none⟩) (by first|(rw [add_block];exact hn710_1)|(show (Addr.add _ _).block ≠ _;rw [add_block];exact hn710_1)|exact hn710_1) (.int .i64 ((rd_T37 l0_0 x13_1).f1))).trans hx710_0;replace hx710_0:=(cell_far (p:=⟨gb708,2,none⟩) (by first|(rw [add_block];exact hn710_2)|(show (Addr.add _ _).block ≠ _;rw [add_block];exact hn710_2)|exact hn710_2) (.int .i64 ((rd_T37 l0_0 x13_1).f2))).trans hx710_0;replace hx710_0:=(cell_far (p:=⟨gb708,3,none⟩) (by first|(rw [add_block];exact hn710_3)|(show (Addr.add _ _).block ≠ _;rw [add_block];exact hn710_3)|exact hn710_3) (.int .i64 ((rd_T37 l0_0 x13_1).f3))).trans hx710_0;replace hx710_0:=(cell_far (p:=⟨gb708,4,none⟩) (by first|(rw [add_block];exact hn710_4)|(show (Addr.add _ _).block ≠ _;rw [add_block];exact hn710_4)|exact hn710_4) (.int .i64 ((rd_T37 l0_0 x13_1).f4))).trans hx710_0;clear hn710_0;clear hn710_1;clear hn710_2;clear hn710_3;clear hn710_4;replace p710:=eq_true p710;replace q710:=eq_true q710))
             go_roundg k1
             case measure=>have:=HK1.out;omega
             case rel=>exact ⟨(wrap64 (x4_1 + ((rd_T37 l0_0 x13_1).f2))),(wrap64 (x13_1 + 1)),(by first|rfl|(simp;done)|(simp [*];done)),(by first|rfl|(simp;done)|(simp [*];done)),H',⟨by have:=HK1.out;omega⟩,⟨by (with_reducible repeat (first|refine blk_drewN ?_ _|refine blk_drew ?_|refine blk_alloc ?_ _));exact (f5_ BK705.out NB705_708.out _ _ _ _ _)⟩,⟨lb2_ HB.out GE705.out GE708.out⟩⟩
            .
             replace c18:=Bool.eq_false_iff.mpr c18;subst c18
             have H1:(impl_VisitedLength.l0 k1 x4_1 l0_0 (l0_0.length:Int) (wrap64 (x13_1 + 1)) l0_0 l0_1 l0_2 a0_3 a0_4) = some (r1,r2):=by rw [if_neg (show ¬ (false = true) by decide)] at H;exact H
             clear H;have H:=H1;clear H1;have H':=ak H;clear H;have p707:0 <= (x13_1:Int):=dt_;have q707:x13_1 < (l0_0.length:Int):=dt_;obtain ⟨ad707,e707,hx707_0,hx707_1,hx707_2,hx707_3,hx707_4⟩:=at_T37 HR0_0.out x13_1 p707 q707
             cases e707
             replace hx707_0:=bc_ HB.out hx707_0;replace hx707_1:=bc_ HB.out hx707_1;replace hx707_2:=bc_ HB.out hx707_2;replace hx707_3:=bc_ HB.out hx707_3;replace hx707_4:=bc_ HB.out hx707_4;replace p707:=eq_true p707;replace q707:=eq_true q707
             go_wp2_with (first|((with_reducible refine gate_dst (N:=6) rfl ?_);refine box_event ?hg (N:=6) ?hd (cs:=#[.int .i64 0,.int .i64 0,.int .i64 0,.int .i64 0,.int .i64 0]) (t:=37) ?hr ?_;(case hd=>rfl);(case hg=>rfl);(case hr=>first|(go_simp;done)|(go_simp;rfl));intro gb708 hg w23 hbox hb;have BK708:=ak (hbox);have GW708:=ak ((bz_ hg (lb1_ HB.out GE705.out)));have GE708:=ak ((bz_ hg (lb1_ HB.out GE705.out)));replace HB:=ak (below_step (lb1_ HB.out GE705.out) hb);have NB705_708:=ak (nl_ hg BK705.out);have NB708_705:=ak (ng_ hg BK705.out);replace BK705:=ak (bb_ (bk_ BK705.out) hb);clear hb hbox hg;have hnb24:=NB708_705.out;have hnc24:=NB705_708.out;obtain ⟨hcz25_0,hcz25_1,hcz25_2,hcz25_3,hcz25_4⟩:=cz5_ BK708.out;obtain ⟨hfz25_0,hfz25_1,hfz25_2,hfz25_3,hfz25_4⟩:=fz5_ BK708.out;obtain ⟨hcz26_0,hcz26_1,hcz26_2,hcz26_3,hcz26_4⟩:=cz5_ BK705.out;obtain ⟨hfz26_0,hfz26_1,hfz26_2,hfz26_3,hfz26_4⟩:=fz5_ BK705.out;have p709:0 <= (((rd_T37 l0_0 x13_1).f0):Int):=dt_;have q709:((rd_T37 l0_0 x13_1).f0) < (l0_1.length:Int):=dt_;obtain ⟨ad709,e709,hx709_0⟩:=Kd.at_bool HR0_1.out ((rd_T37 l0_0 x13_1).f0) p709 q709;(try rw [<- Nbq13.out] at hx709_0);(try rw [<- Nbq17.out] at hx709_0);cases e709;have hn709_0:ad709.block ≠ gb708:=Nat.ne_of_lt (Nat.lt_of_lt_of_le (by have:=World.block_lt_of_cell? _ _ hx709_0;first|rwa [add_block] at this|exact this) GW708.out);have hn709_1:ad709.block ≠ gb708:=Nat.ne_of_lt (Nat.lt_of_lt_of_le (by have:=World.block_lt_of_cell? _ _ hx709_0;first|rwa [add_block] at this|exact this) GW708.out);have hn709_2:ad709.block ≠ gb708:=Nat.ne_of_lt (Nat.lt_of_lt_of_le (by have:=World.block_lt_of_cell? _ _ hx709_0;first|rwa [add_block] at this|exact this) GW708.out);have hn709_3:ad709.block ≠ gb708:=Nat.ne_of_lt (Nat.lt_of_lt_of_le (by have:=World.block_lt_of_cell? _ _ hx709_0;first|rwa [add_block] at this|exact this) GW708.out);have hn709_4:ad709.block ≠ gb708:=Nat.ne_of_lt (Nat.lt_of_lt_of_le (by have:=World.block_lt_of_cell? _ _ hx709_0;first|rwa [add_block] at this|exact this) GW708.out);replace hx709_0:=bc_ HB.out hx709_0;replace hx709_0:=(cell_far (p:=⟨gb708,0,none⟩) (by first|(rw [add_block];exact hn709_0)|(show (Addr.add _ _).block ≠ _;rw [add_block];exact hn709_0)|exact hn709_0) (.int .i64 ((rd_T37 l0_0 x13_1).f0))).trans hx709_0;replace hx709_0:=(cell_far (p:=⟨gb708,1,none⟩) (by first|(rw [add_block];exact hn709_1)|(show (Addr.add _ _).block ≠ _;rw [add_block];exact hn709_1)|exact hn709_1) (.int .i64 ((rd_T37 l0_0 x13_1).f1))).trans hx709_0;replace hx709_0:=(cell_far (p:=⟨gb708,2,none⟩) (by first|(rw [add_block];exact hn709_2)|(show (Addr.add _ _).block ≠ _;rw [add_block];exact hn709_2)|exact hn709_2) (.int .i64 ((rd_T37 l0_0 x13_1).f2))).trans hx709_0;replace hx709_0:=(cell_far (p:=⟨gb708,3,none⟩) (by first|(rw [add_block];exact hn709_3)|(show (Addr.add _ _).block ≠ _;rw [add_block];exact hn709_3)|exact hn709_3) (.int .i64 ((rd_T37 l0_0 x13_1).f3))).trans hx709_0;replace hx709_0:=(cell_far (p:=⟨gb708,4,none⟩) (by first|(rw [add_block];exact hn709_4)|(show (Addr.add _ _).block ≠ _;rw [add_block];exact hn709_4)|exact hn709_4) (.int .i64 ((rd_T37 l0_0 x13_1).f4))).trans hx709_0;clear hn709_0;clear hn709_1;clear hn709_2;clear hn709_3;clear hn709_4;replace p709:=eq_true p709;replace q709:=eq_true q709;have p710:0 <= (((rd_T37 l0_0 x13_1).f1):Int):=dt_;have q710:((rd_T37 l0_0 x13_1).f1) < (l0_1.length:Int):=dt_;obtain ⟨ad710,e710,hx710_0⟩:=Kd.at_bool HR0_1.out ((rd_T37 l0_0 x13_1).f1) p710 q710;(try rw [<- Nbq13.out] at hx710_0);(try rw [<- Nbq17.out] at hx710_0);obtain rfl:ad709 = ad710:=(by injection e710);have hn710_0:ad709.block ≠ gb708:=Nat.ne_of_lt (Nat.lt_of_lt_of_le (by have:=World.block_lt_of_cell? _ _ hx710_0;first|rwa [add_block] at this|exact this) GW708.out);have hn710_1:ad709.block ≠ gb708:=Nat.ne_of_lt (Nat.lt_of_lt_of_le (by have:=World.block_lt_of_cell? _ _ hx710_0;first|rwa [add_block] at this|exact this) GW708.out);have hn710_2:ad709.block ≠ gb708:=Nat.ne_of_lt (Nat.lt_of_lt_of_le (by have:=World.block_lt_of_cell? _ _ hx710_0;first|rwa [add_block] at this|exact this) GW708.out);have hn710_3:ad709.block ≠ gb708:=Nat.ne_of_lt (Nat.lt_of_lt_of_le (by have:=World.block_lt_of_cell? _ _ hx710_0;first|rwa [add_block] at this|exact this) GW708.out);have hn710_4:ad709.block ≠ gb708:=Nat.ne_of_lt (Nat.lt_of_lt_of_le (by have:=World.block_lt_of_cell? _ _ hx710_0;first|rwa [add_block] at this|exact this) GW708.out);replace hx710_0:=bc_ HB.out hx710_0;replace hx710_0:=(cell_far (p:=⟨gb708,0,none⟩) (by first|(rw [add_block];exact hn710_0)|(show (Addr.add _ _).block ≠ _;rw [add_block];exact hn710_0)|exact hn710_0) (.int .i64 ((rd_T37 l0_0 x13_1).f0))).trans hx710_0;replace hx710_0:=(cell_far (p:=⟨gb708,1,none⟩) (by first|(rw [add_block];exact hn710_1)|(show (Addr.add _ _).block ≠ _;rw [add_block];exact hn710_1)|exact hn710_1) (.int .i64 ((rd_T37 l0_0 x13_1).f1))).trans hx710_0;replace hx710_0:=(cell_far (p:=⟨gb708,2,none⟩) (by first|(rw [add_block];exact hn710_2)|(show (Addr.add _ _).block ≠ _;rw [add_block];exact hn710_2)|exact hn710_2) (.int .i64 ((rd_T37 l0_0 x13_1).f2))).trans hx710_0;replace hx710_0:=(cell_far (p:=⟨gb708,3,none⟩) (by first|(rw [add_block];exact hn710_3)|(show (Addr.add _ _).block ≠ _;rw [add_block];exact hn710_3)|exact hn710_3) (.int .i64 ((rd_T37 l0_0 x13_1).f3))).trans hx710_0;replace hx710_0:=(cell_far (p:=⟨gb708,4,none⟩) (by first|(rw [add_block];exact hn710_4)|(show (Addr.add _ _).block ≠ _;rw [add_block];exact hn710_4)|exact hn710_4) (.int .i64 ((rd_T37 l0_0 x13_1).f4))).trans hx710_0;clear hn710_0;clear hn710_1;clear hn710_2;clear hn710_3;clear hn710_4;replace p710:=eq_true p710;replace q710:=eq_true q710))
             go_roundg k1
             case measure=>have:=HK1.out;omega
             case rel=>exact ⟨(x4_1),(wrap64 (x13_1 + 1)),(by first|rfl|(simp;done)|(simp [*];done)),(by first|rfl|(simp;done)|(simp [*];done)),H',⟨by have:=HK1.out;omega⟩,⟨by (with_reducible repeat (first|refine blk_drewN ?_ _|refine blk_drew ?_|refine blk_alloc ?_ _));exact (f5_ BK705.out NB705_708.out _ _ _ _ _)⟩,⟨lb2_ HB.out GE705.out GE708.out⟩⟩
           .
            rw [if_neg c16] at H
            exact absurd H (by simp)
          .
           rw [if_neg c15] at H
           exact absurd H (by simp)
         .
          replace c14:=Bool.eq_false_iff.mpr c14;subst c14
          have H1:(impl_VisitedLength.l0 k1 x4_1 l0_0 (l0_0.length:Int) (wrap64 (x13_1 + 1)) l0_0 l0_1 l0_2 a0_3 a0_4) = some (r1,r2):=by rw [if_neg (show ¬ (false = true) by decide)] at H;exact H
          clear H;have H:=H1;clear H1;have H':=ak H;clear H;have p707:0 <= (x13_1:Int):=dt_;have q707:x13_1 < (l0_0.length:Int):=dt_;obtain ⟨ad707,e707,hx707_0,hx707_1,hx707_2,hx707_3,hx707_4⟩:=at_T37 HR0_0.out x13_1 p707 q707
          cases e707
          replace hx707_0:=bc_ HB.out hx707_0;replace hx707_1:=bc_ HB.out hx707_1;replace hx707_2:=bc_ HB.out hx707_2;replace hx707_3:=bc_ HB.out hx707_3;replace hx707_4:=bc_ HB.out hx707_4;replace p707:=eq_true p707;replace q707:=eq_true q707
          go_wp2_with (first|((with_reducible refine gate_dst (N:=6) rfl ?_);refine box_event ?hg (N:=6) ?hd (cs:=#[.int .i64 0,.int .i64 0,.int .i64 0,.int .i64 0,.int .i64 0]) (t:=37) ?hr ?_;(case hd=>rfl);(case hg=>rfl);(case hr=>first|(go_simp;done)|(go_simp;rfl));intro gb708 hg w27 hbox hb;have BK708:=ak (hbox);have GW708:=ak ((bz_ hg (lb1_ HB.out GE705.out)));have GE708:=ak ((bz_ hg (lb1_ HB.out GE705.out)));replace HB:=ak (below_step (lb1_ HB.out GE705.out) hb);have NB705_708:=ak (nl_ hg BK705.out);have NB708_705:=ak (ng_ hg BK705.out);replace BK705:=ak (bb_ (bk_ BK705.out) hb);clear hb hbox hg;have hnb28:=NB708_705.out;have hnc28:=NB705_708.out;obtain ⟨hcz29_0,hcz29_1,hcz29_2,hcz29_3,hcz29_4⟩:=cz5_ BK708.out;obtain ⟨hfz29_0,hfz29_1,hfz29_2,hfz29_3,hfz29_4⟩:=fz5_ BK708.out;obtain ⟨hcz30_0,hcz30_1,hcz30_2,hcz30_3,hcz30_4⟩:=cz5_ BK705.out;obtain ⟨hfz30_0,hfz30_1,hfz30_2,hfz30_3,hfz30_4⟩:=fz5_ BK705.out;have p709:0 <= (((rd_T37 l0_0 x13_1).f0):Int):=dt_;have q709:((rd_T37 l0_0 x13_1).f0) < (l0_1.length:Int):=dt_;obtain ⟨ad709,e709,hx709_0⟩:=Kd.at_bool HR0_1.out ((rd_T37 l0_0 x13_1).f0) p709 q709;(try rw [<- Nbq13.out] at hx709_0);cases e709;have hn709_0:ad709.block ≠ gb708:=Nat.ne_of_lt (Nat.lt_of_lt_of_le (by have:=World.block_lt_of_cell? _ _ hx709_0;first|rwa [add_block] at this|exact this) GW708.out);have hn709_1:ad709.block ≠ gb708:=Nat.ne_of_lt (Nat.lt_of_lt_of_le (by have:=World.block_lt_of_cell? _ _ hx709_0;first|rwa [add_block] at this|exact this) GW708.out);have hn709_2:ad709.block ≠ gb708:=Nat.ne_of_lt (Nat.lt_of_lt_of_le (by have:=World.block_lt_of_cell? _ _ hx709_0;first|rwa [add_block] at this|exact this) GW708.out);have hn709_3:ad709.block ≠ gb708:=Nat.ne_of_lt (Nat.lt_of_lt_of_le (by have:=World.block_lt_of_cell? _ _ hx709_0;first|rwa [add_block] at this|exact this) GW708.out);have hn709_4:ad709.block ≠ gb708:=Nat.ne_of_lt (Nat.lt_of_lt_of_le (by have:=World.block_lt_of_cell? _ _ hx709_0;first|rwa [add_block] at this|exact this) GW708.out);replace hx709_0:=bc_ HB.out hx709_0;replace hx709_0:=(cell_far (p:=⟨gb708,0,none⟩) (by first|(rw [add_block];exact hn709_0)|(show (Addr.add _ _).block ≠ _;rw [add_block];exact hn709_0)|exact hn709_0) (.int .i64 ((rd_T37 l0_0 x13_1).f0))).trans hx709_0;replace hx709_0:=(cell_far (p:=⟨gb708,1,none⟩) (by first|(rw [add_block];exact hn709_1)|(show (Addr.add _ _).block ≠ _;rw [add_block];exact hn709_1)|exact hn709_1) (.int .i64 ((rd_T37 l0_0 x13_1).f1))).trans hx709_0;replace hx709_0:=(cell_far (p:=⟨gb708,2,none⟩) (by first|(rw [add_block];exact hn709_2)|(show (Addr.add _ _).block ≠ _;rw [add_block];exact hn709_2)|exact hn709_2) (.int .i64 ((rd_T37 l0_0 x13_1).f2))).trans hx709_0;replace hx709_0:=(cell_far (p:=⟨gb708,3,none⟩) (by first|(rw [add_block];exact hn709_3)|(show (Addr.add _ _).block ≠ _;rw [add_block];exact hn709_3)|exact hn709_3) (.int .i64 ((rd_T37 l0_0 x13_1).f3))).trans hx709_0;replace hx709_0:=(cell_far (p:=⟨gb708,4,none⟩) (by first|(rw [add_block];exact hn709_4)|(show (Addr.add _ _).block ≠ _;rw [add_block];exact hn709_4)|exact hn709_4) (.int .i64 ((rd_T37 l0_0 x13_1).f4))).trans hx709_0;clear hn709_0;clear hn709_1;clear hn709_2;clear hn709_3;clear hn709_4;replace p709:=eq_true p709;replace q709:=eq_true q709))
          go_roundg k1
          case measure=>have:=HK1.out;omega
          case rel=>exact ⟨(x4_1),(wrap64 (x13_1 + 1)),(by first|rfl|(simp;done)|(simp [*];done)),(by first|rfl|(simp;done)|(simp [*];done)),H',⟨by have:=HK1.out;omega⟩,⟨by (with_reducible repeat (first|refine blk_drewN ?_ _|refine blk_drew ?_|refine blk_alloc ?_ _));exact (f5_ BK705.out NB705_708.out _ _ _ _ _)⟩,⟨lb2_ HB.out GE705.out GE708.out⟩⟩
        .
         rw [if_neg c12] at H
         exact absurd H (by simp)
       .
        rw [if_neg c11] at H
        exact absurd H (by simp)
      .
       rw [if_neg c10] at H
       exact absurd H (by simp)
     .
      rw [if_neg c9] at H
      exact absurd H (by simp)
    .
     rw [if_neg c8] at H
     have c8b0:decide (x13_1 < (l0_0.length:Int)) = false:=decide_eq_false c8
     clear c8
     simp only [Option.some.injEq,Prod.mk.injEq] at H
     obtain ⟨rfl,rfl⟩:=H
     go_wp2
     go_ret2
     exact ⟨rr_,lb1_ HB.out GE705.out⟩
 .
  replace c3:=Bool.eq_false_iff.mpr c3
  subst c3
  have H1:(some (0,false)) = some (r1,r2):=by rw [if_neg (show ¬ (false = true) by decide)] at H;exact H
  clear H
  have H:=H1
  clear H1
  simp only [Option.some.injEq,Prod.mk.injEq] at H
  obtain ⟨rfl,rfl⟩:=H
  go_enter Try.func27,Try.ntmps27
  go_wp2_with (first|((with_reducible refine gate_dst (N:=1) rfl ?_);refine box_event ?hg (N:=1) ?hd (cs:=#[.slice A0_0 l0_0.length c0_0,.slice A0_1 l0_1.length c0_1,.slice A0_2 l0_2.length c0_2,.int .i64 a0_3,.int .i64 a0_4]) (t:=30) ?hr ?_;(case hd=>rfl);(case hg=>rfl);(case hr=>first|(go_simp;done)|(go_simp;rfl));intro gb705 hg w31 hbox hb;have BK705:=ak (hbox);have GW705:=ak ((bz_ hg (lb0_ HB.out)));have GE705:=ak ((bz_ hg (lb0_ HB.out)));replace HB:=ak (below_step (lb0_ HB.out) hb);clear hb hbox hg;obtain ⟨hcz32_0,hcz32_1,hcz32_2,hcz32_3,hcz32_4⟩:=cz5_ BK705.out;obtain ⟨hfz32_0,hfz32_1,hfz32_2,hfz32_3,hfz32_4⟩:=fz5_ BK705.out)|((with_reducible refine gate_callee (f:=18) rfl ?_);refine ga_ (some 8) Try.func18 #[.agg #[.slice A0_0 l0_0.length c0_0,.slice A0_1 l0_1.length c0_1,.slice A0_2 l0_2.length c0_2,.int .i64 a0_3,.int .i64 a0_4]] ?_;(with_reducible refine (impl_IsExploration.calls k _ _ l0_0 _ _ l0_1 _ _ l0_2 a0_3 a0_4 false _ ?side1 ?side2 ?side3 ?side4 ?side5 ?side6 A2.out).mono ?_);(case side1=>exact kc_ (Kd.C_below HR0_0.out HB.out));(case side2=>exact HC0_0.out);(case side3=>exact kc_ (Kd.C_below HR0_1.out HB.out));(case side4=>exact HC0_1.out);(case side5=>exact kc_ (Kd.C_below HR0_2.out HB.out));(case side6=>exact HC0_2.out);rintro e w33 ⟨rfl,hb⟩;refine ⟨_,rfl,?_⟩;replace BK705:=ak (bb_ (bk_ BK705.out) hb);replace HB:=ak (below_step (lb1_ HB.out GE705.out) hb);(try clear hb);(try clear hb2);(try clear hk);(try clear hi)))
  go_ret2
  exact ⟨rr_,lb1_ HB.out GE705.out⟩
mutual
def spec_l25Out.l0:Nat -> List (S37) -> List Bool -> Int -> List Int -> Int -> Option (Int)
 | 0,_,_,_,_,_=>none
 | k + 1,x0,x1,x2,x7,x8=>if x8 < 8 then (if x7.length < 17592186044416 then (spec_l25Out.l0 k x0 x1 x2 (x7 ++ [(-1)]) (wrap64 (x8 + 1))) else (none)) else (if 0 < (x7.length:Int) then (spec_l25Out.l1 k x0 x1 x2 (x7.set (0:Int).toNat 0) true) else (none))
def spec_l25Out.l1:Nat -> List (S37) -> List Bool -> Int -> List Int -> Bool -> Option (Int)
 | 0,_,_,_,_,_=>none
 | k + 1,x0,x1,x2,x7,x9=>if x9 = true then (spec_l25Out.l2 k x0 x1 x2 x7 false 0) else (if 0 <= x2 then (if x2 < (x7.length:Int) then (some (rd x7 x2)) else (none)) else (none))
def spec_l25Out.l2:Nat -> List (S37) -> List Bool -> Int -> List Int -> Bool -> Int -> Option (Int)
 | 0,_,_,_,_,_,_=>none
 | k + 1,x0,x1,x2,x7,x9,x10=>if x10 < (x0.length:Int) then (if 0 <= x10 then (if 0 <= ((rd_T37 x0 x10).f0) then (if ((rd_T37 x0 x10).f0) < (x1.length:Int) then (if (rdOf false x1 ((rd_T37 x0 x10).f0) = true) then (if 0 <= ((rd_T37 x0 x10).f1) then (if ((rd_T37 x0 x10).f1) < (x1.length:Int) then (spec_l25Out.j3 k x0 x1 x2 x7 x9 x10 ((rd_T37 x0 x10).f0) ((rd_T37 x0 x10).f1) (!(rdOf false x1 ((rd_T37 x0 x10).f1)))) else (none)) else (none)) else (spec_l25Out.j3 k x0 x1 x2 x7 x9 x10 ((rd_T37 x0 x10).f0) ((rd_T37 x0 x10).f1) true)) else (none)) else (none)) else (none)) else (spec_l25Out.l1 k x0 x1 x2 x7 x9)
def spec_l25Out.j3:Nat -> List (S37) -> List Bool -> Int -> List Int -> Bool -> Int -> Int -> Int -> Bool -> Option (Int)
 | 0,_,_,_,_,_,_,_,_,_=>none
 | k + 1,x0,x1,x2,x7,x9,x10,x11,x12,x53=>if x53 = true then (spec_l25Out.l2 k x0 x1 x2 x7 x9 (wrap64 (x10 + 1))) else (if 0 <= x11 then (if x11 < (x7.length:Int) then (if 0 <= x10 then (if x10 < (x0.length:Int) then (if (rd x7 x11) >= 0 then (if 0 <= x12 then (if x12 < (x7.length:Int) then (if (rd x7 x12) < 0 then (spec_l25Out.j4 k x0 x1 x2 x7 x9 x10 x11 x12 (wrap64 ((rd x7 x11) + ((rd_T37 x0 x10).f2))) true) else (spec_l25Out.j4 k x0 x1 x2 x7 x9 x10 x11 x12 (wrap64 ((rd x7 x11) + ((rd_T37 x0 x10).f2))) (decide ((wrap64 ((rd x7 x11) + ((rd_T37 x0 x10).f2))) < (rd x7 x12))))) else (none)) else (none)) else (spec_l25Out.j4 k x0 x1 x2 x7 x9 x10 x11 x12 (wrap64 ((rd x7 x11) + ((rd_T37 x0 x10).f2))) false)) else (none)) else (none)) else (none)) else (none))
def spec_l25Out.j4:Nat -> List (S37) -> List Bool -> Int -> List Int -> Bool -> Int -> Int -> Int -> Int -> Bool -> Option (Int)
 | 0,_,_,_,_,_,_,_,_,_,_=>none
 | k + 1,x0,x1,x2,x7,x9,x10,x11,x12,x13,x83=>if x83 = true then (if 0 <= x12 then (if x12 < (x7.length:Int) then ((some (x7.set (x12:Int).toNat x13:List Int)).bind fun y122=>(if 0 <= x10 then (if x10 < (x0.length:Int) then (if (rd y122 x12) >= 0 then (if 0 <= x11 then (if x11 < (x7.length:Int) then (if (rd y122 x11) < 0 then (spec_l25Out.l2 k x0 x1 x2 (y122.set (x11:Int).toNat (wrap64 ((rd y122 x12) + ((rd_T37 x0 x10).f2)))) true (wrap64 (x10 + 1))) else (if (wrap64 ((rd y122 x12) + ((rd_T37 x0 x10).f2))) < (rd y122 x11) then (spec_l25Out.l2 k x0 x1 x2 (y122.set (x11:Int).toNat (wrap64 ((rd y122 x12) + ((rd_T37 x0 x10).f2)))) true (wrap64 (x10 + 1))) else (spec_l25Out.l2 k x0 x1 x2 y122 true (wrap64 (x10 + 1))))) else (none)) else (none)) else (spec_l25Out.l2 k x0 x1 x2 y122 true (wrap64 (x10 + 1)))) else (none)) else (none))) else (none)) else (none)) else (if 0 <= x12 then (if x12 < (x7.length:Int) then (if 0 <= x10 then (if x10 < (x0.length:Int) then (if (rd x7 x12) >= 0 then (if 0 <= x11 then (if x11 < (x7.length:Int) then (if (rd x7 x11) < 0 then (spec_l25Out.l2 k x0 x1 x2 (x7.set (x11:Int).toNat (wrap64 ((rd x7 x12) + ((rd_T37 x0 x10).f2)))) true (wrap64 (x10 + 1))) else (if (wrap64 ((rd x7 x12) + ((rd_T37 x0 x10).f2))) < (rd x7 x11) then (spec_l25Out.l2 k x0 x1 x2 (x7.set (x11:Int).toNat (wrap64 ((rd x7 x12) + ((rd_T37 x0 x10).f2)))) true (wrap64 (x10 + 1))) else (spec_l25Out.l2 k x0 x1 x2 x7 x9 (wrap64 (x10 + 1))))) else (none)) else (none)) else (spec_l25Out.l2 k x0 x1 x2 x7 x9 (wrap64 (x10 + 1)))) else (none)) else (none)) else (none)) else (none))
end
def spec_l25Out.f (k:Nat) (l0:List (S37)) (l1:List Bool) (a2:Int):Option (Int):=spec_l25Out.l0 k l0 l1 a2 (([]:List Int)) 0
theorem spec_l25Out.mono_l:∀ k,(∀ y0 y1 y2 y3 y4,LeO (spec_l25Out.l0 k y0 y1 y2 y3 y4) (spec_l25Out.l0 (k + 1) y0 y1 y2 y3 y4)) /\ (∀ y0 y1 y2 y3 y4,LeO (spec_l25Out.l1 k y0 y1 y2 y3 y4) (spec_l25Out.l1 (k + 1) y0 y1 y2 y3 y4)) /\ (∀ y0 y1 y2 y3 y4 y5,LeO (spec_l25Out.l2 k y0 y1 y2 y3 y4 y5) (spec_l25Out.l2 (k + 1) y0 y1 y2 y3 y4 y5)) /\ (∀ y0 y1 y2 y3 y4 y5 y6 y7 y8,LeO (spec_l25Out.j3 k y0 y1 y2 y3 y4 y5 y6 y7 y8) (spec_l25Out.j3 (k + 1) y0 y1 y2 y3 y4 y5 y6 y7 y8)) /\ (∀ y0 y1 y2 y3 y4 y5 y6 y7 y8 y9,LeO (spec_l25Out.j4 k y0 y1 y2 y3 y4 y5 y6 y7 y8 y9) (spec_l25Out.j4 (k + 1) y0 y1 y2 y3 y4 y5 y6 y7 y8 y9))
 | 0=>⟨fun _ _ _ _ _ r h=>by simp [spec_l25Out.l0] at h,fun _ _ _ _ _ r h=>by simp [spec_l25Out.l1] at h,fun _ _ _ _ _ _ r h=>by simp [spec_l25Out.l2] at h,fun _ _ _ _ _ _ _ _ _ r h=>by simp [spec_l25Out.j3] at h,fun _ _ _ _ _ _ _ _ _ _ r h=>by simp [spec_l25Out.j4] at h⟩
 | k + 1=>by
  obtain ⟨ih0,ih1,ih2,ih3,ih4⟩:=spec_l25Out.mono_l k
  refine ⟨?_,?_,?_,?_,?_⟩
  .
   intro y0 y1 y2 y3 y4
   unfold spec_l25Out.l0
   repeat' first
   | (with_reducible exact ih0 _ _ _ _ _)
   | (with_reducible exact ih1 _ _ _ _ _)
   | (with_reducible exact ih2 _ _ _ _ _ _)
   | (with_reducible exact ih3 _ _ _ _ _ _ _ _ _)
   | (with_reducible exact ih4 _ _ _ _ _ _ _ _ _ _)
   | (with_reducible exact LeO.refl _)
   | (with_reducible exact LeO.none _)
   | (with_reducible refine LeO.ite ?_ ?_)
   | (with_reducible refine LeO.bind ?_ (fun _=>?_))
   | exact ih0 _ _ _ _ _
   | exact ih1 _ _ _ _ _
   | exact ih2 _ _ _ _ _ _
   | exact ih3 _ _ _ _ _ _ _ _ _
   | exact ih4 _ _ _ _ _ _ _ _ _ _
   | exact LeO.none _
   | refine LeO.ite ?_ ?_
   | refine LeO.bind ?_ (fun _=>?_)
  .
   intro y0 y1 y2 y3 y4
   unfold spec_l25Out.l1
   repeat' first
   | (with_reducible exact ih0 _ _ _ _ _)
   | (with_reducible exact ih1 _ _ _ _ _)
   | (with_reducible exact ih2 _ _ _ _ _ _)
   | (with_reducible exact ih3 _ _ _ _ _ _ _ _ _)
   | (with_reducible exact ih4 _ _ _ _ _ _ _ _ _ _)
   | (with_reducible exact LeO.refl _)
   | (with_reducible exact LeO.none _)
   | (with_reducible refine LeO.ite ?_ ?_)
   | (with_reducible refine LeO.bind ?_ (fun _=>?_))
   | exact ih0 _ _ _ _ _
   | exact ih1 _ _ _ _ _
   | exact ih2 _ _ _ _ _ _
   | exact ih3 _ _ _ _ _ _ _ _ _
   | exact ih4 _ _ _ _ _ _ _ _ _ _
   | exact LeO.none _
   | refine LeO.ite ?_ ?_
   | refine LeO.bind ?_ (fun _=>?_)
  .
   intro y0 y1 y2 y3 y4 y5
   unfold spec_l25Out.l2
   repeat' first
   | (with_reducible exact ih0 _ _ _ _ _)
   | (with_reducible exact ih1 _ _ _ _ _)
   | (with_reducible exact ih2 _ _ _ _ _ _)
   | (with_reducible exact ih3 _ _ _ _ _ _ _ _ _)
   | (with_reducible exact ih4 _ _ _ _ _ _ _ _ _ _)
   | (with_reducible exact LeO.refl _)
   | (with_reducible exact LeO.none _)
   | (with_reducible refine LeO.ite ?_ ?_)
   | (with_reducible refine LeO.bind ?_ (fun _=>?_))
   | exact ih0 _ _ _ _ _
   | exact ih1 _ _ _ _ _
   | exact ih2 _ _ _ _ _ _
   | exact ih3 _ _ _ _ _ _ _ _ _
   | exact ih4 _ _ _ _ _ _ _ _ _ _
   | exact LeO.none _
   | refine LeO.ite ?_ ?_
   | refine LeO.bind ?_ (fun _=>?_)
  .
   intro y0 y1 y2 y3 y4 y5 y6 y7 y8
   unfold spec_l25Out.j3
   repeat' first
   | (with_reducible exact ih0 _ _ _ _ _)
   | (with_reducible exact ih1 _ _ _ _ _)
   | (with_reducible exact ih2 _ _ _ _ _ _)
   | (with_reducible exact ih3 _ _ _ _ _ _ _ _ _)
   | (with_reducible exact ih4 _ _ _ _ _ _ _ _ _ _)
   | (with_reducible exact LeO.refl _)
   | (with_reducible exact LeO.none _)
   | (with_reducible refine LeO.ite ?_ ?_)
   | (with_reducible refine LeO.bind ?_ (fun _=>?_))
   | exact ih0 _ _ _ _ _
   | exact ih1 _ _ _ _ _
   | exact ih2 _ _ _ _ _ _
   | exact ih3 _ _ _ _ _ _ _ _ _
   | exact ih4 _ _ _ _ _ _ _ _ _ _
   | exact LeO.none _
   | refine LeO.ite ?_ ?_
   | refine LeO.bind ?_ (fun _=>?_)
  .
   intro y0 y1 y2 y3 y4 y5 y6 y7 y8 y9
   unfold spec_l25Out.j4
   repeat' first
   | (with_reducible exact ih0 _ _ _ _ _)
   | (with_reducible exact ih1 _ _ _ _ _)
   | (with_reducible exact ih2 _ _ _ _ _ _)
   | (with_reducible exact ih3 _ _ _ _ _ _ _ _ _)
   | (with_reducible exact ih4 _ _ _ _ _ _ _ _ _ _)
   | (with_reducible exact LeO.refl _)
   | (with_reducible exact LeO.none _)
   | (with_reducible refine LeO.ite ?_ ?_)
   | (with_reducible refine LeO.bind ?_ (fun _=>?_))
   | exact ih0 _ _ _ _ _
   | exact ih1 _ _ _ _ _
   | exact ih2 _ _ _ _ _ _
   | exact ih3 _ _ _ _ _ _ _ _ _
   | exact ih4 _ _ _ _ _ _ _ _ _ _
   | exact LeO.none _
   | refine LeO.ite ?_ ?_
   | refine LeO.bind ?_ (fun _=>?_)
theorem spec_l25Out.mono:∀ a0 a1 a2 k,LeO (spec_l25Out.f k a0 a1 a2) (spec_l25Out.f (k + 1) a0 a1 a2):=by
 intro a0 a1 a2 k
 obtain ⟨ih0,ih1,ih2,ih3,ih4⟩:=spec_l25Out.mono_l k
 unfold spec_l25Out.f
 repeat' first
   | (with_reducible exact ih0 _ _ _ _ _)
   | (with_reducible exact ih1 _ _ _ _ _)
   | (with_reducible exact ih2 _ _ _ _ _ _)
   | (with_reducible exact ih3 _ _ _ _ _ _ _ _ _)
   | (with_reducible exact ih4 _ _ _ _ _ _ _ _ _ _)
   | (with_reducible exact LeO.refl _)
   | (with_reducible exact LeO.none _)
   | (with_reducible refine LeO.ite ?_ ?_)
   | (with_reducible refine LeO.bind ?_ (fun _=>?_))
   | exact ih0 _ _ _ _ _
   | exact ih1 _ _ _ _ _
   | exact ih2 _ _ _ _ _ _
   | exact ih3 _ _ _ _ _ _ _ _ _
   | exact ih4 _ _ _ _ _ _ _ _ _ _
   | exact LeO.none _
   | refine LeO.ite ?_ ?_
   | refine LeO.bind ?_ (fun _=>?_)
def outC (F:List Int) (a b t:Int):Bool:=decide (rd F a >= 0 /\ (rd F b < 0 \/ wrap64 (rd F a + t) < rd F b))
def outS (F:List Int) (a b t:Int):List Int:=if outC F a b t = true then F.set b.toNat (wrap64 (rd F a + t)) else F
theorem outS_len (F:List Int) (a b t:Int):(outS F a b t).length = F.length:=by unfold outS;split <;> simp
theorem out_go {F:List Int} {a b t:Int} (h:rd F a >= 0) (h2:rd F b < 0 \/ wrap64 (rd F a + t) < rd F b):outC F a b t = true /\ outS F a b t = F.set b.toNat (wrap64 (rd F a + t)):=by
 have e:outC F a b t = true:=decide_eq_true ⟨h,h2⟩
 exact ⟨e,by unfold outS;rw [if_pos e]⟩
theorem out_no {F:List Int} {a b t:Int} (h:¬ (rd F a >= 0 /\ (rd F b < 0 \/ wrap64 (rd F a + t) < rd F b))):outC F a b t = false /\ outS F a b t = F:=by
 have e:outC F a b t = false:=decide_eq_false h
 exact ⟨e,by unfold outS;rw [if_neg (by rw [e];decide)]⟩
section
variable {l:List S37} {v:List Bool} {p r:Int}
theorem out_j4 {k:Nat} {F:List Int} {ag:Bool} {i a b:Int} {c:Bool} (ha:0 <= a /\ a < (F.length:Int)) (H:spec_l25Out.j4 (k + 1) l v p F ag i a b (wrap64 (rd F a + (rd_T37 l i).f2)) c = some r) (hc:outC F a b (rd_T37 l i).f2 = c) :
  (0 <= b /\ b < (F.length:Int)) /\ spec_l25Out.l2 k l v p (outS (outS F a b (rd_T37 l i).f2) b a (rd_T37 l i).f2) (ag || c || outC (outS F a b (rd_T37 l i).f2) b a (rd_T37 l i).f2) (wrap64 (i + 1)) = some r:=by
 have tail:∀ (G:List Int) (ag2:Bool),G.length = F.length -> (if 0 <= i then (if i < (l.length:Int) then (if rd G b >= 0 then (if 0 <= a then (if a < (F.length:Int) then (if rd G a < 0 then (spec_l25Out.l2 k l v p (G.set a.toNat (wrap64 (rd G b + (rd_T37 l i).f2))) true (wrap64 (i + 1))) else (if wrap64 (rd G b + (rd_T37 l i).f2) < rd G a then (spec_l25Out.l2 k l v p (G.set a.toNat (wrap64 (rd G b + (rd_T37 l i).f2))) true (wrap64 (i + 1))) else (spec_l25Out.l2 k l v p G ag2 (wrap64 (i + 1))))) else none) else none) else (spec_l25Out.l2 k l v p G ag2 (wrap64 (i + 1)))) else none) else none) = some r ->
   spec_l25Out.l2 k l v p (outS G b a (rd_T37 l i).f2) (ag2 || outC G b a (rd_T37 l i).f2) (wrap64 (i + 1)) = some r:=by
  intro G ag2 hG h
  split at h
  .
   split at h
   .
    by_cases q:rd G b >= 0
    .
     rw [if_pos q,if_pos ha.1,if_pos ha.2] at h
     by_cases q2:rd G a < 0
     .
      rw [if_pos q2] at h
      obtain ⟨e1,e2⟩:=out_go (t:=(rd_T37 l i).f2) q (.inl q2)
      rw [e1,e2,Bool.or_true]
      exact h
     .
      rw [if_neg q2] at h
      by_cases q3:wrap64 (rd G b + (rd_T37 l i).f2) < rd G a
      .
       rw [if_pos q3] at h
       obtain ⟨e1,e2⟩:=out_go (t:=(rd_T37 l i).f2) q (.inr q3)
       rw [e1,e2,Bool.or_true]
       exact h
      .
       rw [if_neg q3] at h
       obtain ⟨e1,e2⟩:=out_no (t:=(rd_T37 l i).f2) (F:=G) (a:=b) (b:=a) (fun z=>z.2.elim q2 q3)
       rw [e1,e2,Bool.or_false]
       exact h
    .
     rw [if_neg q] at h
     obtain ⟨e1,e2⟩:=out_no (t:=(rd_T37 l i).f2) (F:=G) (a:=b) (b:=a) (fun z=>q z.1)
     rw [e1,e2,Bool.or_false]
     exact h
   .
    cases h
  .
   cases h
 have e:=tail (outS F a b (rd_T37 l i).f2) (ag || c) (outS_len _ _ _ _)
 simp only [spec_l25Out.j4] at H
 cases c with
 | true=>
  rw [if_pos rfl] at H
  split at H
  .
   rename_i hb0
   split at H
   .
    rename_i hb1
    have hS:outS F a b (rd_T37 l i).f2 = F.set b.toNat (wrap64 (rd F a + (rd_T37 l i).f2)):=by unfold outS;rw [if_pos hc]
    rw [Option.bind_some,<- hS] at H
    rw [Bool.or_true] at e ⊢
    exact ⟨⟨hb0,hb1⟩,e H⟩
   .
    cases H
  .
   cases H
 | false=>
  rw [if_neg (by decide)] at H
  split at H
  .
   rename_i hb0
   split at H
   .
    rename_i hb1
    have hS:outS F a b (rd_T37 l i).f2 = F:=by unfold outS;rw [if_neg (by rw [hc];decide)]
    rw [hS] at e ⊢
    rw [Bool.or_false] at e ⊢
    exact ⟨⟨hb0,hb1⟩,e H⟩
   .
    cases H
  .
   cases H
theorem out_j3 {k:Nat} {F:List Int} {ag:Bool} {i a b:Int} (H:spec_l25Out.j3 (k + 2) l v p F ag i a b false = some r) :
  (0 <= a /\ a < (F.length:Int)) /\ (0 <= b /\ b < (F.length:Int)) /\ spec_l25Out.l2 k l v p (outS (outS F a b (rd_T37 l i).f2) b a (rd_T37 l i).f2) (ag || outC F a b (rd_T37 l i).f2 || outC (outS F a b (rd_T37 l i).f2) b a (rd_T37 l i).f2) (wrap64 (i + 1)) = some r:=by
 simp only [spec_l25Out.j3] at H
 rw [if_neg (by decide)] at H
 split at H
 .
  rename_i a0
  split at H
  .
   rename_i a1
   split at H
   .
    split at H
    .
     by_cases q:rd F a >= 0
     .
      rw [if_pos q] at H
      split at H
      .
       split at H
       .
        by_cases q2:rd F b < 0
        .
         rw [if_pos q2] at H
         obtain ⟨e1,_⟩:=out_go (t:=(rd_T37 l i).f2) q (.inl q2);obtain ⟨h1,h2⟩:=out_j4 ⟨a0,a1⟩ H e1
         rw [e1]
         exact ⟨⟨a0,a1⟩,h1,h2⟩
        .
         rw [if_neg q2] at H
         have e1:outC F a b (rd_T37 l i).f2 = decide (wrap64 (rd F a + (rd_T37 l i).f2) < rd F b):=by unfold outC;simp only [q,q2,true_and,false_or]
         obtain ⟨h1,h2⟩:=out_j4 ⟨a0,a1⟩ H e1
         rw [e1]
         exact ⟨⟨a0,a1⟩,h1,h2⟩
       .
        cases H
      .
       cases H
     .
      rw [if_neg q] at H
      obtain ⟨e1,_⟩:=out_no (t:=(rd_T37 l i).f2) (F:=F) (a:=a) (b:=b) (fun z=>q z.1)
      obtain ⟨h1,h2⟩:=out_j4 ⟨a0,a1⟩ H e1
      rw [e1]
      exact ⟨⟨a0,a1⟩,h1,h2⟩
    .
     cases H
   .
    cases H
  .
   cases H
 .
  cases H
theorem out_leg {k:Nat} {F:List Int} {ag:Bool} {i:Int} (hi:i < (l.length:Int)) (H:spec_l25Out.l2 (k + 1) l v p F ag i = some r) :
  0 <= i /\ (0 <= (rd_T37 l i).f0 /\ (rd_T37 l i).f0 < (v.length:Int)) /\ ((rdOf false v (rd_T37 l i).f0 = false /\ ∃ m,m < k + 1 /\ spec_l25Out.l2 m l v p F ag (wrap64 (i + 1)) = some r) \/ (rdOf false v (rd_T37 l i).f0 = true /\ (0 <= (rd_T37 l i).f1 /\ (rd_T37 l i).f1 < (v.length:Int)) /\ ((rdOf false v (rd_T37 l i).f1 = false /\ ∃ m,m < k + 1 /\ spec_l25Out.l2 m l v p F ag (wrap64 (i + 1)) = some r) \/ (rdOf false v (rd_T37 l i).f1 = true /\ (0 <= (rd_T37 l i).f0 /\ (rd_T37 l i).f0 < (F.length:Int)) /\ (0 <= (rd_T37 l i).f1 /\ (rd_T37 l i).f1 < (F.length:Int)) /\ ∃ m,m < k + 1 /\ spec_l25Out.l2 m l v p (outS (outS F (rd_T37 l i).f0 (rd_T37 l i).f1 (rd_T37 l i).f2) (rd_T37 l i).f1 (rd_T37 l i).f0 (rd_T37 l i).f2) (ag || outC F (rd_T37 l i).f0 (rd_T37 l i).f1 (rd_T37 l i).f2 || outC (outS F (rd_T37 l i).f0 (rd_T37 l i).f1 (rd_T37 l i).f2) (rd_T37 l i).f1 (rd_T37 l i).f0 (rd_T37 l i).f2) (wrap64 (i + 1)) = some r)))):=by
 simp only [spec_l25Out.l2] at H
 rw [if_pos hi] at H
 have skip:∀ {k a b},spec_l25Out.j3 k l v p F ag i a b true = some r -> ∃ m,m < k + 1 /\ spec_l25Out.l2 m l v p F ag (wrap64 (i + 1)) = some r:=fun {k a b} h=>by
  cases k with
  | zero=>simp [spec_l25Out.j3] at h
  | succ k=>exact ⟨k,by omega,by simpa only [spec_l25Out.j3,if_pos] using h⟩
 split at H
 .
  rename_i i0
  split at H
  .
   rename_i a0
   split at H
   .
    rename_i a1
    refine ⟨i0,⟨a0,a1⟩,?_⟩
    by_cases va:rdOf false v (rd_T37 l i).f0 = true
    .
     rw [if_pos va] at H
     refine .inr ⟨va,?_⟩
     split at H
     .
      rename_i b0
      split at H
      .
       rename_i b1
       refine ⟨⟨b0,b1⟩,?_⟩
       cases vb:rdOf false v (rd_T37 l i).f1 with
       | false=>
        rw [vb] at H
        exact .inl ⟨rfl,skip H⟩
       | true=>
        rw [vb] at H
        refine .inr ⟨rfl,?_⟩
        cases k with
        | zero=>simp [spec_l25Out.j3] at H
        | succ k=>
         cases k with
         | zero=>
          exfalso
          simp only [spec_l25Out.j3,spec_l25Out.j4] at H
          repeat' (first|(cases H;done)|split at H)
         | succ k=>
          obtain ⟨h1,h2,h3⟩:=out_j3 H;exact ⟨h1,h2,k,by omega,h3⟩
      .
       cases H
     .
      cases H
    .
     rw [if_neg va] at H
     exact .inl ⟨Bool.eq_false_iff.mpr va,skip H⟩
   .
    cases H
  .
   cases H
 .
  cases H
end
set_option maxHeartbeats 64000000 in
set_option maxRecDepth 100000 in
theorem spec_l25Out.calls (k:Nat) (A0:Option Addr) (c0:Nat) (l0:List (S37)) (A1:Option Addr) (c1:Nat) (l1:List Bool) (a2:Int) (r:Int) (w:World) (hr0:Kd.C k37 w A0 l0.length l0) (hc0:l0.length <= c0) (hr1:Kd.C Kd.bool w A1 l1.length l1) (hc1:l1.length <= c1) (h:spec_l25Out.f k l0 l1 a2 = some r) :
  Calls Try.prog 88 #[.slice A0 l0.length c0,.slice A1 l1.length c1,.int .i64 a2] w fun e w'=>e = .returned (.int .i64 r) /\ Below w.heap.size w w':=by
 have HR0:=ak hr0
 have HR1:=ak hr1
 clear hr0 hr1
 have HB:=ak (Below.refl w.heap.size w)
 obtain ⟨E,hE⟩:∃ z:List Int,z = []:=⟨_,rfl⟩
 have H:=ak (show spec_l25Out.l0 k l0 l1 a2 E 0 = some r by rw [hE];exact h)
 clear h
 go_enter Try.func88,Try.ntmps88
 go_upto_block 0 with (first|((with_reducible refine gate_dst (N:=15) rfl ?_);refine Kd.R_lit (Kd.int .i64) _ 3 ?hg (N:=15) ?hd (xs:=([]:List Int)) (inner:=[]) (ok:=fun _=>True) (okp:=fun _=>True) ?hr ?hp (fun _ hk=>hk) trivial (Below.refl _ _) (Nat.le_refl _) (by simp) ?_;(case hd=>rfl);(case hg=>rfl);(case hr=>first|(go_simp;done)|(go_simp;rfl));(case hp=>exact (Reps.none _ _));intro v_ wa ho hb hg_ hn_;clear hg_ hn_;rw [<- hE] at ho;have HO:=ak (Kd.R_lower ho (below_size HB.out));replace HB:=ak (below_step HB.out hb);clear hb ho))
 clear hE
 (try simp only [Act.put,List.setIfInBounds_toArray,List.set_cons_zero,List.set_cons_succ])
 go_cut [7] (fun v7 wc_=>∃ (F:List Int) (m:Nat),Aside0 (0 < F.length /\ spec_l25Out.l1 m l0 l1 a2 (F.set (0:Int).toNat 0) true = some r) /\ Aside0 (Below w.heap.size w wc_) /\ Aside0 (Kd.R (Kd.int .i64) 3 wc_ w.heap.size (fun _=>True) v7 F))
 case first=>
  go_wp2_with fail
  go_loopg [7,8] k (fun m v7 v8 wc_=>∃ (F:List Int) (j:Int),v8 = .int .i64 j /\ Aside0 (spec_l25Out.l0 m l0 l1 a2 F j = some r) /\ Aside0 (Below w.heap.size w wc_) /\ Aside0 (Kd.R (Kd.int .i64) 3 wc_ w.heap.size (fun _=>True) v7 F))
  case atStart=>exact ⟨E,0,rfl,H,HB,HO⟩
  case round=>
   clear HB HO H
   obtain ⟨F,j,rfl,H,HB,HO⟩:=hrel
   cases gk with
   | zero=>exact absurd H.out (by simp [spec_l25Out.l0])
   | succ gk=>
    have h:=H.out
    clear H
    simp only [spec_l25Out.l0] at h
    by_cases hj:j < 8
    .
     rw [if_pos hj] at h
     have qj:decide (j < 8) = true:=decide_eq_true hj
     by_cases hl:F.length < 17592186044416
     .
      rw [if_pos hl] at h
      have HL:=ak hl
      have H:=ak h
      clear hl h hj
      go_wp2_with (first|((with_reducible refine gate_builtin (b:=.append) (xs:=#[.tmp 20,.tmp 21]) rfl ?_);at_builtin;refine Kd.R_append (Kd.int .i64) (w0:=w) w.heap.size rfl (.tmp 20) (.tmp 21) 60 3 (.int .i64 0) 8 rfl Try.underlying60 info3 rfl (by decide) (by omega) u7 F (-1) [.int .i64 (-1)] (fun _=>True) (fun _=>False) rfl rfl ?aP (fun _ hk=>hk.elim) ?aF ?aO ?aB ?aS ?aL ?_;(case aP=>exact rfl);(case aB=>exact HB.out);(case aF=>exact (fun _ _=>trivial));(case aO=>exact HO.out);(case aS=>exact (below_size HB.out));(case aL=>have:=HL.out;omega);intro v7 wd ho hb hg hat;replace HB:=ak hb;have HN:=ak ho;clear HO ho hb hg hat))
      go_roundg gk
      case measure=>omega
      case rel=>exact ⟨F ++ [-1],wrap64 (j + 1),rfl,H,HB,HN⟩
     .
      rw [if_neg hl] at h
      cases h
    .
     rw [if_neg hj] at h
     have qj:decide (j < 8) = false:=decide_eq_false hj
     by_cases hl:0 < (F.length:Int)
     .
      rw [if_pos hl] at h
      have H:=ak (And.intro (show 0 < F.length by omega) h)
      clear hl h hj
      go_wp2_with fail
      go_meet
      case rel=>exact ⟨F,gk,H,HB,HO⟩
     .
      rw [if_neg hl] at h
      cases h
 case rest=>
  clear H HB HO
  obtain ⟨F,m,H,HB,HO⟩:=hcut
  obtain ⟨g7,c7,e7,gb,gl,cl,HG⟩:=Kd.R_form HO.out H.out.1
  subst e7
  have GB:=ak gb
  clear gb gl HG cl
  obtain ⟨hx,hf⟩:=Kd.R_celln 0 HO.out 0 (by omega) (by have:=H.out.1;omega)
  have q1:((0:Int) < (F.length:Int)) = True:=eq_true (by have:=H.out.1;omega)
  have q2:(0 < F.length) = True:=eq_true H.out.1
  have q3:decide ((0:Int) < (F.length:Int)) = true:=decide_eq_true (by have:=H.out.1;omega)
  obtain ⟨n7,hn7⟩:∃ n,n = F.length:=⟨_,rfl⟩
  rw [<- hn7] at q1 q2 q3 HO
  have HN7:=ak hn7
  rw [<- hn7]
  clear hn7
  replace hx:wc.cell? ⟨g7,0,none⟩ = _:=hx
  replace hf:wc.frozen? ⟨g7,0,none⟩ = false:=hf
  go_upto_region 7 with fail

  have n0:=(Kd.R_putg HO.out (0:Int) (0:Int)).1
  replace n0:Kd.R (Kd.int .i64) 3 (wc.setCell ⟨g7,0,none⟩ (.int .i64 0)) w.heap.size (fun _=>True) (.slice (some ⟨g7,0,none⟩) n7 c7) (F.set (0:Int).toNat 0):=n0
  have n1:Below w.heap.size w (wc.setCell ⟨g7,0,none⟩ (.int .i64 0)):=below_set HB.out GB.out
  have n2:n7 = (F.set (0:Int).toNat 0).length:=by rw [List.length_set];exact HN7.out
  have n3:=H.out.2
  generalize F.set (0:Int).toNat 0 = G at n0 n2 n3
  clear hx hf q1 q2 q3 HO HB H HN7
  generalize wc.setCell ⟨g7,0,none⟩ (.int .i64 0) = wd at n0 n1 ⊢
  have HO:=ak n0
  have HB:=ak n1
  have HN:=ak n2
  have H:=ak n3
  clear n0 n1 n2 n3
  go_wp2_with fail
  go_loopg [9] m (fun m v9 wc_=>∃ (G:List Int) (ag:Bool),v9 = .bool ag /\ Aside0 (n7 = G.length) /\ Aside0 (spec_l25Out.l1 m l0 l1 a2 G ag = some r) /\ Aside0 (Below w.heap.size w wc_) /\ Aside0 (Kd.R (Kd.int .i64) 3 wc_ w.heap.size (fun _=>True) (.slice (some ⟨g7,0,none⟩) n7 c7) G))
  case atStart=>exact ⟨G,true,rfl,HN,H,HB,HO⟩
  case round=>
   clear HN H HB HO G
   obtain ⟨G,ag,rfl,HN,H,HB,HO⟩:=hrel
   cases gk with
   | zero=>exact absurd H.out (by simp [spec_l25Out.l1])
   | succ ko=>
    have h:=H.out
    clear H
    simp only [spec_l25Out.l1] at h
    cases ag with
    | false=>
     rw [if_neg (by decide)] at h
     by_cases p0:0 <= a2
     rotate_left
     .
      rw [if_neg p0] at h;cases h
     rw [if_pos p0] at h
     by_cases p1:a2 < (G.length:Int)
     rotate_left
     .
      rw [if_neg p1] at h;cases h
     rw [if_pos p1] at h
     injection h with h
     obtain ⟨hx,hf⟩:=Kd.R_celln 0 HO.out a2 p0 (by rw [HN.out];exact p1)
     replace hx:wr.cell? ⟨g7,a2.toNat,none⟩ = some (.int .i64 (rd G a2)):=hx
     rw [h] at hx
     clear h hf
     have q0:(0 <= a2) = True:=eq_true p0
     have q1:(a2 < (n7:Int)) = True:=eq_true (by rw [HN.out];exact p1)
     go_wp2_with fail
     go_ret
     exact ⟨rfl,HB.out⟩
    | true=>
     rw [if_pos rfl] at h
     have H:=ak h
     clear h
     go_wp2_with fail
     go_loopg [9,10] ko (fun m v9 v10 wc_=>∃ (G:List Int) (ag:Bool) (i:Int),v9 = .bool ag /\ v10 = .int .i64 i /\ Aside0 (n7 = G.length) /\ Aside0 (m <= ko) /\ Aside0 (spec_l25Out.l2 m l0 l1 a2 G ag i = some r) /\ Aside0 (Below w.heap.size w wc_) /\ Aside0 (Kd.R (Kd.int .i64) 3 wc_ w.heap.size (fun _=>True) (.slice (some ⟨g7,0,none⟩) n7 c7) G))
     case atStart=>exact ⟨G,false,0,rfl,rfl,HN,⟨Nat.le_refl _⟩,H,HB,HO⟩
     case round=>
      clear HN H HB HO G
      obtain ⟨G,ag,i,rfl,rfl,HN,HK,H,HB,HO⟩:=hrel
      cases gk with
      | zero=>exact absurd H.out (by simp [spec_l25Out.l2])
      | succ ki=>
       have h:=H.out
       clear H
       by_cases hi:i < (l0.length:Int)
       rotate_left
       .
        simp only [spec_l25Out.l2] at h
        rw [if_neg hi] at h
        have H:=ak h;clear h;have qi:decide (i < (l0.length:Int)) = false:=decide_eq_false hi;clear hi
        go_wp2_with fail
        go_roundg ki
        case measure=>have:=HK.out;omega
        case rel=>exact ⟨G,ag,rfl,HN,H,HB,HO⟩
       have qi:decide (i < (l0.length:Int)) = true:=decide_eq_true hi
       obtain ⟨i0,⟨a0,a1⟩,h⟩:=out_leg hi h
       go_upto_region 13 with fail
       obtain ⟨ad,e0,y0,y1,y2,y3,y4⟩:=at_T37 HR0.out i i0 hi
       cases e0
       obtain ⟨ae,e1,z0⟩:=Kd.at_bool HR1.out (rd_T37 l0 i).f0 a0 a1
       cases e1
       clear y3 y4
       have z1:∀ b1:0 <= (rd_T37 l0 i).f1,(rd_T37 l0 i).f1 < (l1.length:Int) -> w.cell? (ae.add (rd_T37 l0 i).f1.toNat) = some (.bool (rdOf false l1 (rd_T37 l0 i).f1)):=fun b0 b1=>by
        obtain ⟨ag,e1,z⟩:=Kd.at_bool HR1.out (rd_T37 l0 i).f1 b0 b1
        injection e1 with e1
        rw [e1]
        exact z
       generalize rd_T37 l0 i = y at y0 y1 y2 z0 z1 a0 a1 h
       have Y0:=ak y0
       have Y1:=ak y1
       have Y2:=ak y2
       have Z0:=ak z0
       have Z1:=ak z1
       have HH:=ak h
       clear z0 z1 h qi y2
       have q0:(0 <= i) = True:=eq_true i0
       have q1:(i < (l0.length:Int)) = True:=eq_true hi
       have I0:=ak (And.intro i0 hi)
       clear i0 hi
       replace y0:=bc_ HB.out y0
       replace y1:=bc_ HB.out y1
       go_quiet (fail)

       have hb:=below_at (Eq.refl (wr.drewN nq)) (Below.refl wr.heap.size wr)
       replace HB:=ak (below_step HB.out hb)
       replace HO:=ak (Kd.R_below HO.out hb)
       clear hb y0 y1
       generalize wr.drewN nq = ws at HB HO ⊢
       have a2':(0 <= y.f0) = True:=eq_true a0
       have a3':(y.f0 < (l1.length:Int)) = True:=eq_true a1
       have z0:=bc_ HB.out Z0.out
       rcases HH.out with ⟨va,m,hm,h⟩|⟨va,⟨b0,b1⟩,hh⟩
       .
        rw [va] at z0
        clear a0 a1 HH
        go_wp2_with fail
        go_roundg m
        case measure=>omega
        case rel=>exact ⟨G,ag,wrap64 (i + 1),rfl,rfl,HN,⟨by have:=HK.out;omega⟩,⟨h⟩,HB,HO⟩
       rw [va] at z0
       have b2':(0 <= y.f1) = True:=eq_true b0
       have b3':(y.f1 < (l1.length:Int)) = True:=eq_true b1
       have z1:=bc_ HB.out (Z1.out b0 b1)
       rcases hh with ⟨vb,m,hm,h⟩|⟨vb,⟨c0',c1'⟩,⟨d0,d1⟩,m,hm,h⟩
       .
        rw [vb] at z1
        clear a0 a1 b0 b1 HH
        go_wp2_with fail
        go_roundg m
        case measure=>omega
        case rel=>exact ⟨G,ag,wrap64 (i + 1),rfl,rfl,HN,⟨by have:=HK.out;omega⟩,⟨h⟩,HB,HO⟩
       rw [vb] at z1
       clear a0 a1 b0 b1 HH
       go_upto_region 15 with fail
       clear z0 z1 a3' b3'
       rw [<- HN.out] at c1' d1
       have c3':(y.f0 < (n7:Int)) = True:=eq_true c1'
       have d3':(y.f1 < (n7:Int)) = True:=eq_true d1
       have C0:=ak (And.intro c0' c1')
       have D0:=ak (And.intro d0 d1)
       have M0:=ak (And.intro hm h)
       clear c0' c1' d0 d1 hm h
       obtain ⟨hx,_⟩:=Kd.R_celln 0 HO.out y.f0 C0.out.1 C0.out.2
       replace hx:ws.cell? ⟨g7,y.f0.toNat,none⟩ = some (.int .i64 (rd G y.f0)):=hx
       have y2:=bc_ HB.out Y2.out
       go_quiet (fail)
       have hb:=below_at (Eq.refl (ws.drewN nq)) (Below.refl ws.heap.size ws)
       replace HB:=ak (below_step HB.out hb)
       replace HO:=ak (Kd.R_below HO.out hb)
       clear hb hx y2
       generalize ws.drewN nq = wt at HB HO ⊢
       go_upto_region 16 with fail
       (try simp only [Act.put,List.setIfInBounds_toArray,List.set_cons_zero,List.set_cons_succ])
       go_cut [83] (fun v83 wc_=>v83 = .bool (outC G y.f0 y.f1 y.f2) /\ Aside0 (Below w.heap.size w wc_) /\ Aside0 (Kd.R (Kd.int .i64) 3 wc_ w.heap.size (fun _=>True) (.slice (some ⟨g7,0,none⟩) n7 c7) G))
       case first=>
        obtain ⟨hx,hf⟩:=Kd.R_celln 0 HO.out y.f0 C0.out.1 C0.out.2;replace hx:wt.cell? ⟨g7,(y.f0).toNat,none⟩ = some (.int .i64 (rd G y.f0)):=hx;obtain ⟨hy,hg⟩:=Kd.R_celln 0 HO.out y.f1 D0.out.1 D0.out.2;replace hy:wt.cell? ⟨g7,(y.f1).toNat,none⟩ = some (.int .i64 (rd G y.f1)):=hy
        by_cases q:rd G y.f0 >= 0
        .
         have qa:decide (rd G y.f0 >= 0) = true:=decide_eq_true q;have qa':decide (0 <= rd G y.f0) = true:=decide_eq_true q
         by_cases q2:rd G y.f1 < 0
         .
          have qb:decide (rd G y.f1 < 0) = true:=decide_eq_true q2;obtain ⟨e1,e2⟩:=out_go (t:=y.f2) q (.inl q2);clear q q2;have E1:=ak e1;have E2:=ak e2;clear e1 e2
          go_wp2_with fail
          go_meet
          case rel=>exact ⟨by rw [E1.out],HB,HO⟩
         .
          have qb:decide (rd G y.f1 < 0) = false:=decide_eq_false q2
          by_cases q3:wrap64 (rd G y.f0 + y.f2) < rd G y.f1
          .
           have qc:decide (wrap64 (rd G y.f0 + y.f2) < rd G y.f1) = true:=decide_eq_true q3;obtain ⟨e1,e2⟩:=out_go (t:=y.f2) q (.inr q3);clear q q2 q3;have E1:=ak e1;have E2:=ak e2;clear e1 e2
           go_wp2_with fail
           go_meet
           case rel=>exact ⟨by rw [E1.out],HB,HO⟩
          .
           have qc:decide (wrap64 (rd G y.f0 + y.f2) < rd G y.f1) = false:=decide_eq_false q3;obtain ⟨e1,e2⟩:=out_no (t:=y.f2) (F:=G) (a:=y.f0) (b:=y.f1) (fun z=>z.2.elim q2 q3);clear q q2 q3;have E1:=ak e1;have E2:=ak e2;clear e1 e2
           go_wp2_with fail
           go_meet
           case rel=>exact ⟨by rw [E1.out],HB,HO⟩
        .
         have qa:decide (rd G y.f0 >= 0) = false:=decide_eq_false q;have qa':decide (0 <= rd G y.f0) = false:=decide_eq_false q;obtain ⟨e1,e2⟩:=out_no (t:=y.f2) (F:=G) (a:=y.f0) (b:=y.f1) (fun z=>q z.1);clear q;have E1:=ak e1;have E2:=ak e2;clear e1 e2
         go_wp2_with fail
         go_meet
         case rel=>exact ⟨by rw [E1.out],HB,HO⟩
       case rest=>
        clear HB HO;obtain ⟨rfl,HB,HO⟩:=hcut
        go_upto_if 83 with fail
        (try simp only [Act.put,List.setIfInBounds_toArray,List.set_cons_zero,List.set_cons_succ])
        go_cut [9] (fun v9 wc_=>v9 = .bool (ag || outC G y.f0 y.f1 y.f2) /\ Aside0 (Below w.heap.size w wc_) /\ Aside0 (Kd.R (Kd.int .i64) 3 wc_ w.heap.size (fun _=>True) (.slice (some ⟨g7,0,none⟩) n7 c7) (outS G y.f0 y.f1 y.f2)))
        case first=>
         cases e1:outC G y.f0 y.f1 y.f2 with
         | false=>
          have E1:=ak e1;have E2:=ak (show outS G y.f0 y.f1 y.f2 = G from by unfold outS;rw [if_neg (by rw [e1];decide)])
          go_wp2_with fail
          go_meet
          case rel=>exact ⟨by rw [E1.out,Bool.or_false],HB,⟨by rw [E2.out];exact HO.out⟩⟩
         | true=>
          have E1:=ak e1;have E2:=ak (show outS G y.f0 y.f1 y.f2 = _ from by unfold outS;rw [if_pos e1]);obtain ⟨hy,hg⟩:=Kd.R_celln 0 HO.out y.f1 D0.out.1 D0.out.2;replace hy:wc.cell? ⟨g7,(y.f1).toNat,none⟩ = some (.int .i64 (rd G y.f1)):=hy;clear e1
          go_wp2_with fail
          go_meet
          case rel=>exact ⟨by rw [E1.out,Bool.or_true],⟨below_set HB.out GB.out⟩,⟨by rw [E2.out];exact (Kd.R_putg HO.out y.f1 _).1⟩⟩
        case rest=>
         clear HB HO;obtain ⟨rfl,HB,HO⟩:=hcut;have HN1:=ak (show n7 = (outS G y.f0 y.f1 y.f2).length by rw [outS_len];exact HN.out);generalize outS G y.f0 y.f1 y.f2 = G1 at HO M0 HN1 ⊢;generalize (ag || outC G y.f0 y.f1 y.f2) = ag1 at M0 ⊢;clear HN
         go_upto_region 19 with fail
         obtain ⟨hx,_⟩:=Kd.R_celln 0 HO.out y.f1 D0.out.1 D0.out.2;replace hx:wc.cell? ⟨g7,y.f1.toNat,none⟩ = some (.int .i64 (rd G1 y.f1)):=hx;have y2:=bc_ HB.out Y2.out
         go_quiet (fail)
         have hb:=below_at (Eq.refl (wc.drewN nq)) (Below.refl wc.heap.size wc);replace HB:=ak (below_step HB.out hb);replace HO:=ak (Kd.R_below HO.out hb);clear hb hx y2;generalize wc.drewN nq = wu at HB HO ⊢
         go_upto_region 20 with fail
         (try simp only [Act.put,List.setIfInBounds_toArray,List.set_cons_zero,List.set_cons_succ])
         go_cut [117] (fun v117 wc_=>v117 = .bool (outC G1 y.f1 y.f0 y.f2) /\ Aside0 (Below w.heap.size w wc_) /\ Aside0 (Kd.R (Kd.int .i64) 3 wc_ w.heap.size (fun _=>True) (.slice (some ⟨g7,0,none⟩) n7 c7) G1))
         case first=>
          obtain ⟨hx,hf⟩:=Kd.R_celln 0 HO.out y.f1 D0.out.1 D0.out.2;replace hx:wu.cell? ⟨g7,(y.f1).toNat,none⟩ = some (.int .i64 (rd G1 y.f1)):=hx;obtain ⟨hy,hg⟩:=Kd.R_celln 0 HO.out y.f0 C0.out.1 C0.out.2;replace hy:wu.cell? ⟨g7,(y.f0).toNat,none⟩ = some (.int .i64 (rd G1 y.f0)):=hy
          by_cases q:rd G1 y.f1 >= 0
          .
           have qa:decide (rd G1 y.f1 >= 0) = true:=decide_eq_true q;have qa':decide (0 <= rd G1 y.f1) = true:=decide_eq_true q
           by_cases q2:rd G1 y.f0 < 0
           .
            have qb:decide (rd G1 y.f0 < 0) = true:=decide_eq_true q2;obtain ⟨e1,e2⟩:=out_go (t:=y.f2) q (.inl q2);clear q q2;have E1:=ak e1;have E2:=ak e2;clear e1 e2
            go_wp2_with fail
            go_meet
            case rel=>exact ⟨by rw [E1.out],HB,HO⟩
           .
            have qb:decide (rd G1 y.f0 < 0) = false:=decide_eq_false q2
            by_cases q3:wrap64 (rd G1 y.f1 + y.f2) < rd G1 y.f0
            .
             have qc:decide (wrap64 (rd G1 y.f1 + y.f2) < rd G1 y.f0) = true:=decide_eq_true q3;obtain ⟨e1,e2⟩:=out_go (t:=y.f2) q (.inr q3);clear q q2 q3;have E1:=ak e1;have E2:=ak e2;clear e1 e2
             go_wp2_with fail
             go_meet
             case rel=>exact ⟨by rw [E1.out],HB,HO⟩
            .
             have qc:decide (wrap64 (rd G1 y.f1 + y.f2) < rd G1 y.f0) = false:=decide_eq_false q3;obtain ⟨e1,e2⟩:=out_no (t:=y.f2) (F:=G1) (a:=y.f1) (b:=y.f0) (fun z=>z.2.elim q2 q3);clear q q2 q3;have E1:=ak e1;have E2:=ak e2;clear e1 e2
             go_wp2_with fail
             go_meet
             case rel=>exact ⟨by rw [E1.out],HB,HO⟩
          .
           have qa:decide (rd G1 y.f1 >= 0) = false:=decide_eq_false q;have qa':decide (0 <= rd G1 y.f1) = false:=decide_eq_false q;obtain ⟨e1,e2⟩:=out_no (t:=y.f2) (F:=G1) (a:=y.f1) (b:=y.f0) (fun z=>q z.1);clear q;have E1:=ak e1;have E2:=ak e2;clear e1 e2
           go_wp2_with fail
           go_meet
           case rel=>exact ⟨by rw [E1.out],HB,HO⟩
         case rest=>
          clear HB HO;obtain ⟨rfl,HB,HO⟩:=hcut;obtain ⟨hm,h⟩:=M0.out;clear M0
          cases e1:outC G1 y.f1 y.f0 y.f2 with
          | false=>
           rw [show outS G1 y.f1 y.f0 y.f2 = G1 from by unfold outS;rw [if_neg (by rw [e1];decide)],e1,Bool.or_false] at h
           have H:=ak h;clear h e1
           go_wp2_with fail
           go_roundg m
           case measure=>omega
           case rel=>exact ⟨G1,ag1,wrap64 (i + 1),rfl,(by first|rfl|simp),HN1,⟨by have:=HK.out;omega⟩,H,HB,HO⟩
          | true=>
           rw [show outS G1 y.f1 y.f0 y.f2 = _ from by unfold outS;rw [if_pos e1],e1,Bool.or_true] at h
           have H:=ak h;obtain ⟨hy,hg⟩:=Kd.R_celln 0 HO.out y.f0 C0.out.1 C0.out.2;replace hy:wc.cell? ⟨g7,(y.f0).toNat,none⟩ = some (.int .i64 (rd G1 y.f0)):=hy;clear h e1
           go_wp2_with fail
           go_roundg m
           case measure=>omega
           case rel=>exact ⟨_,true,wrap64 (i + 1),rfl,(by first|rfl|simp),⟨by rw [List.length_set];exact HN1.out⟩,⟨by have:=HK.out;omega⟩,H,⟨below_set HB.out GB.out⟩,⟨(Kd.R_putg HO.out y.f0 _).1⟩⟩
def spec_l1In.f (a0:Int) (a1:Int) (a2:Int):Option (Bool):=if a0 >= a1 then (some (decide (a0 <= a2))) else (some false)
theorem spec_l1In.calls (a0:Int) (a1:Int) (a2:Int) (r:Bool) (w:World) (h:spec_l1In.f a0 a1 a2 = some r) :
  Calls Try.prog 101 #[.int .i64 a0,.int .i64 a1,.int .i64 a2] w fun e w'=>e = .returned (.bool r) /\ Drawn0 w w':=by
 have H:(if a0 >= a1 then (some (decide (a0 <= a2))) else (some false)) = some r:=h
 clear h
 by_cases c4:a0 >= a1
 .
  rw [if_pos c4] at H
  have c4b0:decide (a1 <= a0) = true:=decide_eq_true c4
  clear c4
  obtain rfl:=Option.some.inj H
  go_enter Try.func101,Try.ntmps101
  go_wp2
  go_ret
  exact ⟨by first|rfl|(simp;done)|(simp [*];done),by repeat (first|exact Drawn0.refl _|apply Drawn0.step)⟩
 .
  rw [if_neg c4] at H
  have c4b0:decide (a1 <= a0) = false:=decide_eq_false c4
  clear c4
  obtain rfl:=Option.some.inj H
  go_enter Try.func101,Try.ntmps101
  go_wp2
  go_ret
  exact ⟨by first|rfl|(simp;done)|(simp [*];done),by repeat (first|exact Drawn0.refl _|apply Drawn0.step)⟩
def spec_l4Station.f (a0:Int):Option (Bool):=(spec_l1In.f a0 0 7).bind fun t105=>(some t105)
theorem spec_l4Station.calls (a0:Int) (r:Bool) (w:World) (h:spec_l4Station.f a0 = some r) :
  Calls Try.prog 100 #[.int .i64 a0] w fun e w'=>e = .returned (.bool r) /\ Drawn0 w w':=by
 have H:((spec_l1In.f a0 0 7).bind fun t105=>(some t105)) = some r:=h
 clear h
 replace H:=Option.bind_eq_some_iff.mp H
 obtain ⟨t105,A20,H⟩:=H
 replace H:(some t105) = some r:=H
 have A2:=ak A20
 clear A20
 obtain rfl:=Option.some.inj H
 go_enter Try.func100,Try.ntmps100
 go_wp2_with (first|((with_reducible refine gate_callee (f:=101) rfl ?_);refine ga_ (some 4) Try.func101 #[.int .i64 a0,.int .i64 0,.int .i64 7] ?_;(with_reducible refine (spec_l1In.calls a0 0 7 t105 _ A2.out).mono ?_);rintro e w' ⟨rfl,⟨nd,rfl⟩⟩;refine ⟨_,rfl,?_⟩))
 go_ret
 exact ⟨by first|rfl|(simp;done)|(simp [*];done),by repeat (first|exact Drawn0.refl _|apply Drawn0.step)⟩
def spec_l2Bearing.f (a0:Int):Option (Bool):=(spec_l1In.f a0 0 359).bind fun t106=>(some t106)
theorem spec_l2Bearing.calls (a0:Int) (r:Bool) (w:World) (h:spec_l2Bearing.f a0 = some r) :
  Calls Try.prog 120 #[.int .i64 a0] w fun e w'=>e = .returned (.bool r) /\ Drawn0 w w':=by
 have H:((spec_l1In.f a0 0 359).bind fun t106=>(some t106)) = some r:=h
 clear h
 replace H:=Option.bind_eq_some_iff.mp H
 obtain ⟨t106,A20,H⟩:=H
 replace H:(some t106) = some r:=H
 have A2:=ak A20
 clear A20
 obtain rfl:=Option.some.inj H
 go_enter Try.func120,Try.ntmps120
 go_wp2_with (first|((with_reducible refine gate_callee (f:=101) rfl ?_);refine ga_ (some 4) Try.func101 #[.int .i64 a0,.int .i64 0,.int .i64 359] ?_;(with_reducible refine (spec_l1In.calls a0 0 359 t106 _ A2.out).mono ?_);rintro e w' ⟨rfl,⟨nd,rfl⟩⟩;refine ⟨_,rfl,?_⟩))
 go_ret
 exact ⟨by first|rfl|(simp;done)|(simp [*];done),by repeat (first|exact Drawn0.refl _|apply Drawn0.step)⟩
def spec_l4Leg.f (a0_0:Int) (a0_1:Int) (a0_2:Int) (a0_3:Int) (a0_4:Int):Option (Bool):=(spec_l4Station.f a0_0).bind fun t108=>(if t108 = true then ((spec_l4Station.f a0_1).bind fun t109=>(if t109 = true then (if a0_0 = a0_1 then (some false) else ((spec_l1In.f a0_2 1 500).bind fun t110=>(if t110 = true then ((spec_l2Bearing.f a0_3).bind fun t111=>(if t111 = true then ((spec_l1In.f a0_4 (-90) 90).bind fun t112=>(some t112)) else (some false))) else (some false)))) else (some false))) else (some false))
theorem spec_l4Leg.calls (a0_0:Int) (a0_1:Int) (a0_2:Int) (a0_3:Int) (a0_4:Int) (r:Bool) (w:World) (h:spec_l4Leg.f a0_0 a0_1 a0_2 a0_3 a0_4 = some r) :
  Calls Try.prog 106 #[.agg #[.int .i64 a0_0,.int .i64 a0_1,.int .i64 a0_2,.int .i64 a0_3,.int .i64 a0_4]] w fun e w'=>e = .returned (.bool r) /\ Below w.heap.size w w':=by
 have hu37:=Try.underlying37
 have HB:=ak (Below.refl w.heap.size w)
 have H:((spec_l4Station.f a0_0).bind fun t108=>(if t108 = true then ((spec_l4Station.f a0_1).bind fun t109=>(if t109 = true then (if a0_0 = a0_1 then (some false) else ((spec_l1In.f a0_2 1 500).bind fun t110=>(if t110 = true then ((spec_l2Bearing.f a0_3).bind fun t111=>(if t111 = true then ((spec_l1In.f a0_4 (-90) 90).bind fun t112=>(some t112)) else (some false))) else (some false)))) else (some false))) else (some false))) = some r:=h
 clear h
 replace H:=Option.bind_eq_some_iff.mp H
 obtain ⟨t108,A20,H⟩:=H
 replace H:(if t108 = true then ((spec_l4Station.f a0_1).bind fun t109=>(if t109 = true then (if a0_0 = a0_1 then (some false) else ((spec_l1In.f a0_2 1 500).bind fun t110=>(if t110 = true then ((spec_l2Bearing.f a0_3).bind fun t111=>(if t111 = true then ((spec_l1In.f a0_4 (-90) 90).bind fun t112=>(some t112)) else (some false))) else (some false)))) else (some false))) else (some false)) = some r:=H
 have A2:=ak A20
 clear A20
 by_cases c3:t108 = true
 .
  subst c3
  have H1:((spec_l4Station.f a0_1).bind fun t109=>(if t109 = true then (if a0_0 = a0_1 then (some false) else ((spec_l1In.f a0_2 1 500).bind fun t110=>(if t110 = true then ((spec_l2Bearing.f a0_3).bind fun t111=>(if t111 = true then ((spec_l1In.f a0_4 (-90) 90).bind fun t112=>(some t112)) else (some false))) else (some false)))) else (some false))) = some r:=by rw [if_pos rfl] at H;exact H
  clear H
  have H:=H1
  clear H1
  replace H:=Option.bind_eq_some_iff.mp H
  obtain ⟨t109,A40,H⟩:=H
  replace H:(if t109 = true then (if a0_0 = a0_1 then (some false) else ((spec_l1In.f a0_2 1 500).bind fun t110=>(if t110 = true then ((spec_l2Bearing.f a0_3).bind fun t111=>(if t111 = true then ((spec_l1In.f a0_4 (-90) 90).bind fun t112=>(some t112)) else (some false))) else (some false)))) else (some false)) = some r:=H
  have A4:=ak A40
  clear A40
  by_cases c5:t109 = true
  .
   subst c5
   have H1:(if a0_0 = a0_1 then (some false) else ((spec_l1In.f a0_2 1 500).bind fun t110=>(if t110 = true then ((spec_l2Bearing.f a0_3).bind fun t111=>(if t111 = true then ((spec_l1In.f a0_4 (-90) 90).bind fun t112=>(some t112)) else (some false))) else (some false)))) = some r:=by rw [if_pos rfl] at H;exact H
   clear H
   have H:=H1
   clear H1
   by_cases c6:a0_0 = a0_1
   .
    rw [if_pos c6] at H
    have c6b0:(a0_0 == a0_1) = true:=beq_iff_eq.mpr c6
    have c6b1:(a0_0 != a0_1) = false:=bne_eq_false_iff_eq.mpr c6
    clear c6
    obtain rfl:=Option.some.inj H
    go_enter Try.func106,Try.ntmps106
    go_wp2_with (first|((with_reducible refine gate_dst (N:=1) rfl ?_);refine box_event ?hg (N:=1) ?hd (cs:=#[.int .i64 a0_0,.int .i64 a0_1,.int .i64 a0_2,.int .i64 a0_3,.int .i64 a0_4]) (t:=37) ?hr ?_;(case hd=>rfl);(case hg=>rfl);(case hr=>first|(go_simp;done)|(go_simp;rfl));intro gb107 hg w7 hbox hb;have BK107:=ak (hbox);have GW107:=ak ((bz_ hg (lb0_ HB.out)));have GE107:=ak ((bz_ hg (lb0_ HB.out)));replace HB:=ak (below_step (lb0_ HB.out) hb);clear hb hbox hg;obtain ⟨hcz8_0,hcz8_1,hcz8_2,hcz8_3,hcz8_4⟩:=cz5_ BK107.out;obtain ⟨hfz8_0,hfz8_1,hfz8_2,hfz8_3,hfz8_4⟩:=fz5_ BK107.out)|((with_reducible refine gate_callee (f:=100) rfl ?_);refine ga_ (some 5) Try.func100 #[.int .i64 a0_0] ?_;(with_reducible refine (spec_l4Station.calls a0_0 true _ A2.out).mono ?_);rintro e w' ⟨rfl,⟨nd,rfl⟩⟩;refine ⟨_,rfl,?_⟩)|(go_at_call 100;(with_reducible refine (spec_l4Station.calls a0_1 true _ A4.out).mono ?_);rintro e w' ⟨rfl,⟨nd,rfl⟩⟩))
    go_ret
    exact ⟨rr_,lb1_ HB.out GE107.out⟩
   .
    rw [if_neg c6] at H
    have c6b0:(a0_0 == a0_1) = false:=beq_eq_false_iff_ne.mpr c6
    have c6b1:(a0_0 != a0_1) = true:=bne_iff_ne.mpr c6
    replace H:=Option.bind_eq_some_iff.mp H
    obtain ⟨t110,A90,H⟩:=H
    replace H:(if t110 = true then ((spec_l2Bearing.f a0_3).bind fun t111=>(if t111 = true then ((spec_l1In.f a0_4 (-90) 90).bind fun t112=>(some t112)) else (some false))) else (some false)) = some r:=H
    have A9:=ak A90
    clear A90
    by_cases c10:t110 = true
    .
     subst c10
     have H1:((spec_l2Bearing.f a0_3).bind fun t111=>(if t111 = true then ((spec_l1In.f a0_4 (-90) 90).bind fun t112=>(some t112)) else (some false))) = some r:=by rw [if_pos rfl] at H;exact H
     clear H
     have H:=H1
     clear H1
     replace H:=Option.bind_eq_some_iff.mp H
     obtain ⟨t111,A110,H⟩:=H
     replace H:(if t111 = true then ((spec_l1In.f a0_4 (-90) 90).bind fun t112=>(some t112)) else (some false)) = some r:=H
     have A11:=ak A110
     clear A110
     by_cases c12:t111 = true
     .
      subst c12
      have H1:((spec_l1In.f a0_4 (-90) 90).bind fun t112=>(some t112)) = some r:=by rw [if_pos rfl] at H;exact H
      clear H
      have H:=H1
      clear H1
      replace H:=Option.bind_eq_some_iff.mp H
      obtain ⟨t112,A130,H⟩:=H
      replace H:(some t112) = some r:=H
      have A13:=ak A130
      clear A130
      obtain rfl:=Option.some.inj H
      go_enter Try.func106,Try.ntmps106
      go_wp2_with (first|((with_reducible refine gate_dst (N:=1) rfl ?_);refine box_event ?hg (N:=1) ?hd (cs:=#[.int .i64 a0_0,.int .i64 a0_1,.int .i64 a0_2,.int .i64 a0_3,.int .i64 a0_4]) (t:=37) ?hr ?_;(case hd=>rfl);(case hg=>rfl);(case hr=>first|(go_simp;done)|(go_simp;rfl));intro gb107 hg w14 hbox hb;have BK107:=ak (hbox);have GW107:=ak ((bz_ hg (lb0_ HB.out)));have GE107:=ak ((bz_ hg (lb0_ HB.out)));replace HB:=ak (below_step (lb0_ HB.out) hb);clear hb hbox hg;obtain ⟨hcz15_0,hcz15_1,hcz15_2,hcz15_3,hcz15_4⟩:=cz5_ BK107.out;obtain ⟨hfz15_0,hfz15_1,hfz15_2,hfz15_3,hfz15_4⟩:=fz5_ BK107.out)|((with_reducible refine gate_callee (f:=100) rfl ?_);refine ga_ (some 5) Try.func100 #[.int .i64 a0_0] ?_;(with_reducible refine (spec_l4Station.calls a0_0 true _ A2.out).mono ?_);rintro e w' ⟨rfl,⟨nd,rfl⟩⟩;refine ⟨_,rfl,?_⟩)|(go_at_call 100;(with_reducible refine (spec_l4Station.calls a0_1 true _ A4.out).mono ?_);rintro e w' ⟨rfl,⟨nd,rfl⟩⟩)|(go_at_call 101;(with_reducible refine (spec_l1In.calls a0_2 1 500 true _ A9.out).mono ?_);rintro e w' ⟨rfl,⟨nd,rfl⟩⟩)|(go_at_call 120;(with_reducible refine (spec_l2Bearing.calls a0_3 true _ A11.out).mono ?_);rintro e w' ⟨rfl,⟨nd,rfl⟩⟩)|(go_at_call 101;(with_reducible refine (spec_l1In.calls a0_4 (-90) 90 t112 _ A13.out).mono ?_);rintro e w' ⟨rfl,⟨nd,rfl⟩⟩))
      go_ret
      exact ⟨rr_,lb1_ HB.out GE107.out⟩
     .
      replace c12:=Bool.eq_false_iff.mpr c12
      subst c12
      have H1:(some false) = some r:=by rw [if_neg (show ¬ (false = true) by decide)] at H;exact H
      clear H
      have H:=H1
      clear H1
      obtain rfl:=Option.some.inj H
      go_enter Try.func106,Try.ntmps106
      go_wp2_with (first|((with_reducible refine gate_dst (N:=1) rfl ?_);refine box_event ?hg (N:=1) ?hd (cs:=#[.int .i64 a0_0,.int .i64 a0_1,.int .i64 a0_2,.int .i64 a0_3,.int .i64 a0_4]) (t:=37) ?hr ?_;(case hd=>rfl);(case hg=>rfl);(case hr=>first|(go_simp;done)|(go_simp;rfl));intro gb107 hg w16 hbox hb;have BK107:=ak (hbox);have GW107:=ak ((bz_ hg (lb0_ HB.out)));have GE107:=ak ((bz_ hg (lb0_ HB.out)));replace HB:=ak (below_step (lb0_ HB.out) hb);clear hb hbox hg;obtain ⟨hcz17_0,hcz17_1,hcz17_2,hcz17_3,hcz17_4⟩:=cz5_ BK107.out;obtain ⟨hfz17_0,hfz17_1,hfz17_2,hfz17_3,hfz17_4⟩:=fz5_ BK107.out)|((with_reducible refine gate_callee (f:=100) rfl ?_);refine ga_ (some 5) Try.func100 #[.int .i64 a0_0] ?_;(with_reducible refine (spec_l4Station.calls a0_0 true _ A2.out).mono ?_);rintro e w' ⟨rfl,⟨nd,rfl⟩⟩;refine ⟨_,rfl,?_⟩)|(go_at_call 100;(with_reducible refine (spec_l4Station.calls a0_1 true _ A4.out).mono ?_);rintro e w' ⟨rfl,⟨nd,rfl⟩⟩)|(go_at_call 101;(with_reducible refine (spec_l1In.calls a0_2 1 500 true _ A9.out).mono ?_);rintro e w' ⟨rfl,⟨nd,rfl⟩⟩)|(go_at_call 120;(with_reducible refine (spec_l2Bearing.calls a0_3 false _ A11.out).mono ?_);rintro e w' ⟨rfl,⟨nd,rfl⟩⟩))
      go_ret
      exact ⟨rr_,lb1_ HB.out GE107.out⟩
    .
     replace c10:=Bool.eq_false_iff.mpr c10
     subst c10
     have H1:(some false) = some r:=by rw [if_neg (show ¬ (false = true) by decide)] at H;exact H
     clear H
     have H:=H1
     clear H1
     obtain rfl:=Option.some.inj H
     go_enter Try.func106,Try.ntmps106
     go_wp2_with (first|((with_reducible refine gate_dst (N:=1) rfl ?_);refine box_event ?hg (N:=1) ?hd (cs:=#[.int .i64 a0_0,.int .i64 a0_1,.int .i64 a0_2,.int .i64 a0_3,.int .i64 a0_4]) (t:=37) ?hr ?_;(case hd=>rfl);(case hg=>rfl);(case hr=>first|(go_simp;done)|(go_simp;rfl));intro gb107 hg w18 hbox hb;have BK107:=ak (hbox);have GW107:=ak ((bz_ hg (lb0_ HB.out)));have GE107:=ak ((bz_ hg (lb0_ HB.out)));replace HB:=ak (below_step (lb0_ HB.out) hb);clear hb hbox hg;obtain ⟨hcz19_0,hcz19_1,hcz19_2,hcz19_3,hcz19_4⟩:=cz5_ BK107.out;obtain ⟨hfz19_0,hfz19_1,hfz19_2,hfz19_3,hfz19_4⟩:=fz5_ BK107.out)|((with_reducible refine gate_callee (f:=100) rfl ?_);refine ga_ (some 5) Try.func100 #[.int .i64 a0_0] ?_;(with_reducible refine (spec_l4Station.calls a0_0 true _ A2.out).mono ?_);rintro e w' ⟨rfl,⟨nd,rfl⟩⟩;refine ⟨_,rfl,?_⟩)|(go_at_call 100;(with_reducible refine (spec_l4Station.calls a0_1 true _ A4.out).mono ?_);rintro e w' ⟨rfl,⟨nd,rfl⟩⟩)|(go_at_call 101;(with_reducible refine (spec_l1In.calls a0_2 1 500 false _ A9.out).mono ?_);rintro e w' ⟨rfl,⟨nd,rfl⟩⟩))
     go_ret
     exact ⟨rr_,lb1_ HB.out GE107.out⟩
  .
   replace c5:=Bool.eq_false_iff.mpr c5
   subst c5
   have H1:(some false) = some r:=by rw [if_neg (show ¬ (false = true) by decide)] at H;exact H
   clear H
   have H:=H1
   clear H1
   obtain rfl:=Option.some.inj H
   go_enter Try.func106,Try.ntmps106
   go_wp2_with (first|((with_reducible refine gate_dst (N:=1) rfl ?_);refine box_event ?hg (N:=1) ?hd (cs:=#[.int .i64 a0_0,.int .i64 a0_1,.int .i64 a0_2,.int .i64 a0_3,.int .i64 a0_4]) (t:=37) ?hr ?_;(case hd=>rfl);(case hg=>rfl);(case hr=>first|(go_simp;done)|(go_simp;rfl));intro gb107 hg w20 hbox hb;have BK107:=ak (hbox);have GW107:=ak ((bz_ hg (lb0_ HB.out)));have GE107:=ak ((bz_ hg (lb0_ HB.out)));replace HB:=ak (below_step (lb0_ HB.out) hb);clear hb hbox hg;obtain ⟨hcz21_0,hcz21_1,hcz21_2,hcz21_3,hcz21_4⟩:=cz5_ BK107.out;obtain ⟨hfz21_0,hfz21_1,hfz21_2,hfz21_3,hfz21_4⟩:=fz5_ BK107.out)|((with_reducible refine gate_callee (f:=100) rfl ?_);refine ga_ (some 5) Try.func100 #[.int .i64 a0_0] ?_;(with_reducible refine (spec_l4Station.calls a0_0 true _ A2.out).mono ?_);rintro e w' ⟨rfl,⟨nd,rfl⟩⟩;refine ⟨_,rfl,?_⟩)|(go_at_call 100;(with_reducible refine (spec_l4Station.calls a0_1 false _ A4.out).mono ?_);rintro e w' ⟨rfl,⟨nd,rfl⟩⟩))
   go_ret
   exact ⟨rr_,lb1_ HB.out GE107.out⟩
 .
  replace c3:=Bool.eq_false_iff.mpr c3
  subst c3
  have H1:(some false) = some r:=by rw [if_neg (show ¬ (false = true) by decide)] at H;exact H
  clear H
  have H:=H1
  clear H1
  obtain rfl:=Option.some.inj H
  go_enter Try.func106,Try.ntmps106
  go_wp2_with (first|((with_reducible refine gate_dst (N:=1) rfl ?_);refine box_event ?hg (N:=1) ?hd (cs:=#[.int .i64 a0_0,.int .i64 a0_1,.int .i64 a0_2,.int .i64 a0_3,.int .i64 a0_4]) (t:=37) ?hr ?_;(case hd=>rfl);(case hg=>rfl);(case hr=>first|(go_simp;done)|(go_simp;rfl));intro gb107 hg w22 hbox hb;have BK107:=ak (hbox);have GW107:=ak ((bz_ hg (lb0_ HB.out)));have GE107:=ak ((bz_ hg (lb0_ HB.out)));replace HB:=ak (below_step (lb0_ HB.out) hb);clear hb hbox hg;obtain ⟨hcz23_0,hcz23_1,hcz23_2,hcz23_3,hcz23_4⟩:=cz5_ BK107.out;obtain ⟨hfz23_0,hfz23_1,hfz23_2,hfz23_3,hfz23_4⟩:=fz5_ BK107.out)|((with_reducible refine gate_callee (f:=100) rfl ?_);refine ga_ (some 5) Try.func100 #[.int .i64 a0_0] ?_;(with_reducible refine (spec_l4Station.calls a0_0 false _ A2.out).mono ?_);rintro e w' ⟨rfl,⟨nd,rfl⟩⟩;refine ⟨_,rfl,?_⟩))
  go_ret
  exact ⟨rr_,lb1_ HB.out GE107.out⟩
def spec_l4Legs.l0:Nat -> List (S37) -> Int -> Option (Bool)
 | 0,_,_=>none
 | k + 1,x0,x3=>if x3 < (x0.length:Int) then (if 0 <= x3 then ((spec_l4Leg.f ((rd_T37 x0 x3).f0) ((rd_T37 x0 x3).f1) ((rd_T37 x0 x3).f2) ((rd_T37 x0 x3).f3) ((rd_T37 x0 x3).f4)).bind fun t114=>(if t114 = true then (spec_l4Legs.l0 k x0 (wrap64 (x3 + 1))) else (some false))) else (none)) else (some (decide ((x0.length:Int) <= 12)))
def spec_l4Legs.f (k:Nat) (l0:List (S37)):Option (Bool):=spec_l4Legs.l0 k l0 0
theorem spec_l4Legs.mono_l:∀ k,(∀ y0 y1,LeO (spec_l4Legs.l0 k y0 y1) (spec_l4Legs.l0 (k + 1) y0 y1))
 | 0=>fun _ _ r h=>by simp [spec_l4Legs.l0] at h
 | k + 1=>by
  have ih0:=spec_l4Legs.mono_l k
  .
   intro y0 y1
   unfold spec_l4Legs.l0
   repeat' first
   | (with_reducible exact ih0 _ _)
   | (with_reducible exact LeO.refl _)
   | (with_reducible exact LeO.none _)
   | (with_reducible refine LeO.ite ?_ ?_)
   | (with_reducible refine LeO.bind ?_ (fun _=>?_))
   | exact ih0 _ _
   | exact LeO.none _
   | refine LeO.ite ?_ ?_
   | refine LeO.bind ?_ (fun _=>?_)
theorem spec_l4Legs.mono:∀ a0 k,LeO (spec_l4Legs.f k a0) (spec_l4Legs.f (k + 1) a0):=by
 intro a0 k
 have ih0:=spec_l4Legs.mono_l k
 unfold spec_l4Legs.f
 repeat' first
   | (with_reducible exact ih0 _ _)
   | (with_reducible exact LeO.refl _)
   | (with_reducible exact LeO.none _)
   | (with_reducible refine LeO.ite ?_ ?_)
   | (with_reducible refine LeO.bind ?_ (fun _=>?_))
   | exact ih0 _ _
   | exact LeO.none _
   | refine LeO.ite ?_ ?_
   | refine LeO.bind ?_ (fun _=>?_)
theorem spec_l4Legs.calls (k:Nat) (A0:Option Addr) (c0:Nat) (l0:List (S37)) (r:Bool) (w:World) (hr0:Kd.C k37 w A0 l0.length l0) (hc0:l0.length <= c0) (h:spec_l4Legs.f k l0 = some r) :
  Calls Try.prog 99 #[.slice A0 l0.length c0] w fun e w'=>e = .returned (.bool r) /\ Below w.heap.size w w':=by
 have hu37:=Try.underlying37
 have HR0:=ak hr0
 have HC0:=ak hc0
 clear hr0 hc0
 have HB:=ak (Below.refl w.heap.size w)
 have H:(spec_l4Legs.l0 k l0 0) = some r:=h
 clear h
 have H':=ak H
 clear H
 go_enter Try.func99,Try.ntmps99
 go_wp2
 go_loopg [3] k (fun kq v3 w'=>∃ (x3_1:Int),v3 = .int .i64 x3_1 /\ Aside0 (spec_l4Legs.l0 kq l0 x3_1 = some r) /\ Aside0 (kq <= k) /\ Aside0 (Below w.heap.size w w'))
 case atStart=>exact ⟨(0),(by first|rfl|(simp;done)|(simp [*];done)),H',⟨Nat.le_refl _⟩,⟨lb0_ HB.out⟩⟩
 case round=>
  clear H'
  obtain ⟨x3_1,rfl,HA,HK1,HB⟩:=hrel
  cases gk with
  | zero=>exact absurd HA.out (by simp [spec_l4Legs.l0])
  | succ k1=>
   have H:=HA.out
   clear HA
   simp only [spec_l4Legs.l0] at H
   by_cases c2:x3_1 < (l0.length:Int)
   .
    rw [if_pos c2] at H
    have c2b0:decide (x3_1 < (l0.length:Int)) = true:=decide_eq_true c2
    clear c2
    by_cases c3:0 <= x3_1
    .
     rw [if_pos c3] at H
     have c3b0:decide (0 <= x3_1) = true:=decide_eq_true c3
     clear c3
     replace H:=Option.bind_eq_some_iff.mp H
     obtain ⟨t114,A40,H⟩:=H
     replace H:(if t114 = true then (spec_l4Legs.l0 k1 l0 (wrap64 (x3_1 + 1))) else (some false)) = some r:=H
     have A4:=ak A40
     clear A40
     by_cases c5:t114 = true
     .
      subst c5
      have H1:(spec_l4Legs.l0 k1 l0 (wrap64 (x3_1 + 1))) = some r:=by rw [if_pos rfl] at H;exact H
      clear H
      have H:=H1
      clear H1
      have H':=ak H
      clear H
      have p113:0 <= (x3_1:Int):=dt_
      have q113:x3_1 < (l0.length:Int):=dt_
      obtain ⟨ad113,e113,hx113_0,hx113_1,hx113_2,hx113_3,hx113_4⟩:=at_T37 HR0.out x3_1 p113 q113
      cases e113
      replace hx113_0:=bc_ HB.out hx113_0
      replace hx113_1:=bc_ HB.out hx113_1
      replace hx113_2:=bc_ HB.out hx113_2
      replace hx113_3:=bc_ HB.out hx113_3
      replace hx113_4:=bc_ HB.out hx113_4
      replace p113:=eq_true p113
      replace q113:=eq_true q113
      go_wp2_with (first|((with_reducible refine gate_callee (f:=106) rfl ?_);refine ga_ (some 14) Try.func106 #[.agg #[.int .i64 ((rd_T37 l0 x3_1).f0),.int .i64 ((rd_T37 l0 x3_1).f1),.int .i64 ((rd_T37 l0 x3_1).f2),.int .i64 ((rd_T37 l0 x3_1).f3),.int .i64 ((rd_T37 l0 x3_1).f4)]] ?_;(with_reducible refine (spec_l4Leg.calls ((rd_T37 l0 x3_1).f0) ((rd_T37 l0 x3_1).f1) ((rd_T37 l0 x3_1).f2) ((rd_T37 l0 x3_1).f3) ((rd_T37 l0 x3_1).f4) true _ A4.out).mono ?_);rintro e w6 ⟨rfl,hb⟩;refine ⟨_,rfl,?_⟩;replace HB:=ak (below_step (lb0_ HB.out) hb);(try clear hb);(try clear hb2);(try clear hk);(try clear hi)))
      go_roundg k1
      case measure=>have:=HK1.out;omega
      case rel=>exact ⟨(wrap64 (x3_1 + 1)),(by first|rfl|(simp;done)|(simp [*];done)),H',⟨by have:=HK1.out;omega⟩,⟨lb0_ HB.out⟩⟩
     .
      replace c5:=Bool.eq_false_iff.mpr c5
      subst c5
      have H1:(some false) = some r:=by rw [if_neg (show ¬ (false = true) by decide)] at H;exact H
      clear H
      have H:=H1
      clear H1
      obtain rfl:=Option.some.inj H
      have p113:0 <= (x3_1:Int):=dt_
      have q113:x3_1 < (l0.length:Int):=dt_
      obtain ⟨ad113,e113,hx113_0,hx113_1,hx113_2,hx113_3,hx113_4⟩:=at_T37 HR0.out x3_1 p113 q113
      cases e113
      replace hx113_0:=bc_ HB.out hx113_0
      replace hx113_1:=bc_ HB.out hx113_1
      replace hx113_2:=bc_ HB.out hx113_2
      replace hx113_3:=bc_ HB.out hx113_3
      replace hx113_4:=bc_ HB.out hx113_4
      replace p113:=eq_true p113
      replace q113:=eq_true q113
      go_wp2_with (first|((with_reducible refine gate_callee (f:=106) rfl ?_);refine ga_ (some 14) Try.func106 #[.agg #[.int .i64 ((rd_T37 l0 x3_1).f0),.int .i64 ((rd_T37 l0 x3_1).f1),.int .i64 ((rd_T37 l0 x3_1).f2),.int .i64 ((rd_T37 l0 x3_1).f3),.int .i64 ((rd_T37 l0 x3_1).f4)]] ?_;(with_reducible refine (spec_l4Leg.calls ((rd_T37 l0 x3_1).f0) ((rd_T37 l0 x3_1).f1) ((rd_T37 l0 x3_1).f2) ((rd_T37 l0 x3_1).f3) ((rd_T37 l0 x3_1).f4) false _ A4.out).mono ?_);rintro e w7 ⟨rfl,hb⟩;refine ⟨_,rfl,?_⟩;replace HB:=ak (below_step (lb0_ HB.out) hb);(try clear hb);(try clear hb2);(try clear hk);(try clear hi)))
      go_ret
      exact ⟨rr_,lb0_ HB.out⟩
    .
     rw [if_neg c3] at H
     exact absurd H (by simp)
   .
    rw [if_neg c2] at H
    have c2b0:decide (x3_1 < (l0.length:Int)) = false:=decide_eq_false c2
    clear c2
    obtain rfl:=Option.some.inj H
    go_wp2
    go_ret
    exact ⟨rr_,lb0_ HB.out⟩
def spec_l25Good.j0:Nat -> Bool -> List (S37) -> List Bool -> List Bool -> Int -> Int -> Option (Bool)
 | 0,_,_,_,_,_,_=>none
 | k + 1,x31,x116000,x116001,x116002,x116003,x116004=>if x31 = true then (some false) else (if 0 < (x116001.length:Int) then (if rdOf false x116001 0 = true then (if 0 <= x116003 then (if x116003 < (x116001.length:Int) then (if rdOf false x116001 x116003 = true then ((spec_l25Out.f k x116000 x116001 x116003).bind fun t121=>(if t121 >= 0 then (some (decide (t121 <= x116004))) else (some false))) else (some false)) else (none)) else (none)) else (some false)) else (none))
def spec_l25Good.f (k:Nat) (l0_0:List (S37)) (l0_1:List Bool) (l0_2:List Bool) (a0_3:Int) (a0_4:Int):Option (Bool):=(spec_l4Legs.f k l0_0).bind fun t116=>(if t116 = true then (if (l0_1.length:Int) = 8 then (if (l0_2.length:Int) = 8 then ((spec_l4Station.f a0_3).bind fun t117=>(if t117 = true then ((spec_l1In.f a0_4 0 100000).bind fun t118=>(spec_l25Good.j0 k (!t118) l0_0 l0_1 l0_2 a0_3 a0_4)) else (spec_l25Good.j0 k true l0_0 l0_1 l0_2 a0_3 a0_4))) else (spec_l25Good.j0 k true l0_0 l0_1 l0_2 a0_3 a0_4)) else (spec_l25Good.j0 k true l0_0 l0_1 l0_2 a0_3 a0_4)) else (spec_l25Good.j0 k true l0_0 l0_1 l0_2 a0_3 a0_4))
theorem spec_l25Good.mono_l:∀ k,(∀ y0 y1 y2 y3 y4 y5,LeO (spec_l25Good.j0 k y0 y1 y2 y3 y4 y5) (spec_l25Good.j0 (k + 1) y0 y1 y2 y3 y4 y5))
 | 0=>fun _ _ _ _ _ _ r h=>by simp [spec_l25Good.j0] at h
 | k + 1=>by
  have ih0:=spec_l25Good.mono_l k
  .
   intro y0 y1 y2 y3 y4 y5
   unfold spec_l25Good.j0
   repeat' first
   | (with_reducible exact ih0 _ _ _ _ _ _)
   | (with_reducible exact spec_l25Out.mono _ _ _ _)
   | (with_reducible exact spec_l4Legs.mono _ _)
   | (with_reducible exact LeO.refl _)
   | (with_reducible exact LeO.none _)
   | (with_reducible refine LeO.ite ?_ ?_)
   | (with_reducible refine LeO.bind ?_ (fun _=>?_))
   | exact ih0 _ _ _ _ _ _
   | exact spec_l25Out.mono _ _ _ _
   | exact spec_l4Legs.mono _ _
   | exact LeO.none _
   | refine LeO.ite ?_ ?_
   | refine LeO.bind ?_ (fun _=>?_)
theorem spec_l25Good.mono:∀ a0 a1 a2 a3 a4 k,LeO (spec_l25Good.f k a0 a1 a2 a3 a4) (spec_l25Good.f (k + 1) a0 a1 a2 a3 a4):=by
 intro a0 a1 a2 a3 a4 k
 have ih0:=spec_l25Good.mono_l k
 unfold spec_l25Good.f
 repeat' first
   | (with_reducible exact ih0 _ _ _ _ _ _)
   | (with_reducible exact spec_l25Out.mono _ _ _ _)
   | (with_reducible exact spec_l4Legs.mono _ _)
   | (with_reducible exact LeO.refl _)
   | (with_reducible exact LeO.none _)
   | (with_reducible refine LeO.ite ?_ ?_)
   | (with_reducible refine LeO.bind ?_ (fun _=>?_))
   | exact ih0 _ _ _ _ _ _
   | exact spec_l25Out.mono _ _ _ _
   | exact spec_l4Legs.mono _ _
   | exact LeO.none _
   | refine LeO.ite ?_ ?_
   | refine LeO.bind ?_ (fun _=>?_)
theorem spec_l25Good.calls (k:Nat) (A0_0:Option Addr) (c0_0:Nat) (l0_0:List (S37)) (A0_1:Option Addr) (c0_1:Nat) (l0_1:List Bool) (A0_2:Option Addr) (c0_2:Nat) (l0_2:List Bool) (a0_3:Int) (a0_4:Int) (r:Bool) (w:World) (hr0_0:Kd.C k37 w A0_0 l0_0.length l0_0) (hc0_0:l0_0.length <= c0_0) (hr0_1:Kd.C Kd.bool w A0_1 l0_1.length l0_1) (hc0_1:l0_1.length <= c0_1) (hr0_2:Kd.C Kd.bool w A0_2 l0_2.length l0_2) (hc0_2:l0_2.length <= c0_2) (h:spec_l25Good.f k l0_0 l0_1 l0_2 a0_3 a0_4 = some r) :
  Calls Try.prog 67 #[.agg #[.slice A0_0 l0_0.length c0_0,.slice A0_1 l0_1.length c0_1,.slice A0_2 l0_2.length c0_2,.int .i64 a0_3,.int .i64 a0_4]] w fun e w'=>e = .returned (.bool r) /\ Below w.heap.size w w':=by
 have hu30:=Try.underlying30
 have HR0_0:=ak hr0_0
 have HC0_0:=ak hc0_0
 clear hr0_0 hc0_0
 have HR0_1:=ak hr0_1
 have HC0_1:=ak hc0_1
 clear hr0_1 hc0_1
 have HR0_2:=ak hr0_2
 have HC0_2:=ak hc0_2
 clear hr0_2 hc0_2
 have HB:=ak (Below.refl w.heap.size w)
 have H:((spec_l4Legs.f k l0_0).bind fun t116=>(if t116 = true then (if (l0_1.length:Int) = 8 then (if (l0_2.length:Int) = 8 then ((spec_l4Station.f a0_3).bind fun t117=>(if t117 = true then ((spec_l1In.f a0_4 0 100000).bind fun t118=>(spec_l25Good.j0 k (!t118) l0_0 l0_1 l0_2 a0_3 a0_4)) else (spec_l25Good.j0 k true l0_0 l0_1 l0_2 a0_3 a0_4))) else (spec_l25Good.j0 k true l0_0 l0_1 l0_2 a0_3 a0_4)) else (spec_l25Good.j0 k true l0_0 l0_1 l0_2 a0_3 a0_4)) else (spec_l25Good.j0 k true l0_0 l0_1 l0_2 a0_3 a0_4))) = some r:=h
 clear h
 have HC2:=ak H
 clear H
 go_enter Try.func67,Try.ntmps67
 go_upto_region 1 with (first|((with_reducible refine gate_dst (N:=1) rfl ?_);(try (refine gate_guard (by rfl) ?_;dsimp only));refine box_event ?hg (N:=1) ?hd (cs:=#[.slice A0_0 l0_0.length c0_0,.slice A0_1 l0_1.length c0_1,.slice A0_2 l0_2.length c0_2,.int .i64 a0_3,.int .i64 a0_4]) (t:=30) ?hr ?_;(case hd=>rfl);(case hg=>rfl);(case hr=>first|(go_simp;done)|(go_simp;rfl));intro gb115 hg w3 hbox hb;have BK115:=ak (hbox);have GW115:=ak ((bz_ hg (lb0_ HB.out)));have GE115:=ak ((bz_ hg (lb0_ HB.out)));replace HB:=ak (below_step (lb0_ HB.out) hb);clear hb hbox hg))
 (try simp only [Act.put,List.setIfInBounds_toArray,List.set_cons_zero,List.set_cons_succ])
 go_cut [31] (fun v31 wc=>∃ (kq:Nat) (x31_1:Bool),v31 = .bool x31_1 /\ Aside0 (spec_l25Good.j0 kq x31_1 l0_0 l0_1 l0_2 a0_3 a0_4 = some r) /\ Aside0 (kq <= k) /\ Aside0 (wc.heap[gb115]? = some (.cells #[(.slice A0_0 l0_0.length c0_0),(.slice A0_1 l0_1.length c0_1),(.slice A0_2 l0_2.length c0_2),.int .i64 a0_3,.int .i64 a0_4] 30 (0,0))) /\ Aside0 (Below w.heap.size w wc))
 case first=>
  have H:=HC2.out
  clear HC2
  replace H:=Option.bind_eq_some_iff.mp H
  obtain ⟨t116,A40,H⟩:=H
  replace H:(if t116 = true then (if (l0_1.length:Int) = 8 then (if (l0_2.length:Int) = 8 then ((spec_l4Station.f a0_3).bind fun t117=>(if t117 = true then ((spec_l1In.f a0_4 0 100000).bind fun t118=>(spec_l25Good.j0 k (!t118) l0_0 l0_1 l0_2 a0_3 a0_4)) else (spec_l25Good.j0 k true l0_0 l0_1 l0_2 a0_3 a0_4))) else (spec_l25Good.j0 k true l0_0 l0_1 l0_2 a0_3 a0_4)) else (spec_l25Good.j0 k true l0_0 l0_1 l0_2 a0_3 a0_4)) else (spec_l25Good.j0 k true l0_0 l0_1 l0_2 a0_3 a0_4)) = some r:=H
  have A4:=ak A40
  clear A40
  by_cases c5:t116 = true
  .
   subst c5
   have H1:(if (l0_1.length:Int) = 8 then (if (l0_2.length:Int) = 8 then ((spec_l4Station.f a0_3).bind fun t117=>(if t117 = true then ((spec_l1In.f a0_4 0 100000).bind fun t118=>(spec_l25Good.j0 k (!t118) l0_0 l0_1 l0_2 a0_3 a0_4)) else (spec_l25Good.j0 k true l0_0 l0_1 l0_2 a0_3 a0_4))) else (spec_l25Good.j0 k true l0_0 l0_1 l0_2 a0_3 a0_4)) else (spec_l25Good.j0 k true l0_0 l0_1 l0_2 a0_3 a0_4)) = some r:=by rw [if_pos rfl] at H;exact H
   clear H
   have H:=H1
   clear H1
   by_cases c6:(l0_1.length:Int) = 8
   .
    rw [if_pos c6] at H
    have c6b0:((l0_1.length:Int) == 8) = true:=beq_iff_eq.mpr c6
    have c6b1:((l0_1.length:Int) != 8) = false:=bne_eq_false_iff_eq.mpr c6
    clear c6
    (first|rw [c6b0]|(simp only [i64_w,i32_w];rw [c6b0])|skip)
    by_cases c7:(l0_2.length:Int) = 8
    .
     rw [if_pos c7] at H
     have c7b0:((l0_2.length:Int) == 8) = true:=beq_iff_eq.mpr c7
     have c7b1:((l0_2.length:Int) != 8) = false:=bne_eq_false_iff_eq.mpr c7
     clear c7
     replace H:=Option.bind_eq_some_iff.mp H
     obtain ⟨t117,A80,H⟩:=H
     replace H:(if t117 = true then ((spec_l1In.f a0_4 0 100000).bind fun t118=>(spec_l25Good.j0 k (!t118) l0_0 l0_1 l0_2 a0_3 a0_4)) else (spec_l25Good.j0 k true l0_0 l0_1 l0_2 a0_3 a0_4)) = some r:=H
     have A8:=ak A80
     clear A80
     by_cases c9:t117 = true
     .
      subst c9
      have H1:((spec_l1In.f a0_4 0 100000).bind fun t118=>(spec_l25Good.j0 k (!t118) l0_0 l0_1 l0_2 a0_3 a0_4)) = some r:=by rw [if_pos rfl] at H;exact H
      clear H
      have H:=H1
      clear H1
      replace H:=Option.bind_eq_some_iff.mp H
      obtain ⟨t118,A100,H⟩:=H
      replace H:(spec_l25Good.j0 k (!t118) l0_0 l0_1 l0_2 a0_3 a0_4) = some r:=H
      have A10:=ak A100
      clear A100
      have H':=ak H
      clear H
      obtain ⟨hcz11_0,hcz11_1,hcz11_2,hcz11_3,hcz11_4⟩:=cz5_ BK115.out
      obtain ⟨hfz11_0,hfz11_1,hfz11_2,hfz11_3,hfz11_4⟩:=fz5_ BK115.out
      go_wp2_with (first|((with_reducible refine gate_callee (f:=99) rfl ?_);refine ga_ (some 6) Try.func99 #[.slice A0_0 l0_0.length c0_0] ?_;(with_reducible refine (spec_l4Legs.calls k _ _ l0_0 true _ ?side1 ?side2 A4.out).mono ?_);(case side1=>exact kc_ (Kd.C_below HR0_0.out HB.out));(case side2=>exact HC0_0.out);rintro e w12 ⟨rfl,hb⟩;refine ⟨_,rfl,?_⟩;replace BK115:=ak (bb_ (bk_ BK115.out) hb);replace HB:=ak (below_step (lb1_ HB.out GE115.out) hb);(try clear hb);(try clear hb2);(try clear hk);(try clear hi);obtain ⟨hcz13_0,hcz13_1,hcz13_2,hcz13_3,hcz13_4⟩:=cz5_ BK115.out;obtain ⟨hfz13_0,hfz13_1,hfz13_2,hfz13_3,hfz13_4⟩:=fz5_ BK115.out)|(go_at_call 100;(with_reducible refine (spec_l4Station.calls a0_3 true _ A8.out).mono ?_);rintro e w' ⟨rfl,⟨nd,rfl⟩⟩)|(go_at_call 101;(with_reducible refine (spec_l1In.calls a0_4 0 100000 t118 _ A10.out).mono ?_);rintro e w' ⟨rfl,⟨nd,rfl⟩⟩))
      go_meet
      case rel=>exact ⟨_,(!t118),(by first|rfl|(simp;done)|(simp [*];done)),H',⟨by first|omega|exact Nat.le_refl _⟩,⟨bk_ BK115.out⟩,⟨lb1_ HB.out GE115.out⟩⟩
     .
      replace c9:=Bool.eq_false_iff.mpr c9
      subst c9
      have H1:(spec_l25Good.j0 k true l0_0 l0_1 l0_2 a0_3 a0_4) = some r:=by rw [if_neg (show ¬ (false = true) by decide)] at H;exact H
      clear H
      have H:=H1
      clear H1
      have H':=ak H
      clear H
      obtain ⟨hcz14_0,hcz14_1,hcz14_2,hcz14_3,hcz14_4⟩:=cz5_ BK115.out
      obtain ⟨hfz14_0,hfz14_1,hfz14_2,hfz14_3,hfz14_4⟩:=fz5_ BK115.out
      go_wp2_with (first|((with_reducible refine gate_callee (f:=99) rfl ?_);refine ga_ (some 6) Try.func99 #[.slice A0_0 l0_0.length c0_0] ?_;(with_reducible refine (spec_l4Legs.calls k _ _ l0_0 true _ ?side1 ?side2 A4.out).mono ?_);(case side1=>exact kc_ (Kd.C_below HR0_0.out HB.out));(case side2=>exact HC0_0.out);rintro e w15 ⟨rfl,hb⟩;refine ⟨_,rfl,?_⟩;replace BK115:=ak (bb_ (bk_ BK115.out) hb);replace HB:=ak (below_step (lb1_ HB.out GE115.out) hb);(try clear hb);(try clear hb2);(try clear hk);(try clear hi);obtain ⟨hcz16_0,hcz16_1,hcz16_2,hcz16_3,hcz16_4⟩:=cz5_ BK115.out;obtain ⟨hfz16_0,hfz16_1,hfz16_2,hfz16_3,hfz16_4⟩:=fz5_ BK115.out)|(go_at_call 100;(with_reducible refine (spec_l4Station.calls a0_3 false _ A8.out).mono ?_);rintro e w' ⟨rfl,⟨nd,rfl⟩⟩))
      go_meet
      case rel=>exact ⟨_,(true),(by first|rfl|(simp;done)|(simp [*];done)),H',⟨by first|omega|exact Nat.le_refl _⟩,⟨bk_ BK115.out⟩,⟨lb1_ HB.out GE115.out⟩⟩
    .
     rw [if_neg c7] at H
     have c7b0:((l0_2.length:Int) == 8) = false:=beq_eq_false_iff_ne.mpr c7
     have c7b1:((l0_2.length:Int) != 8) = true:=bne_iff_ne.mpr c7
     have H':=ak H
     clear H
     obtain ⟨hcz17_0,hcz17_1,hcz17_2,hcz17_3,hcz17_4⟩:=cz5_ BK115.out
     obtain ⟨hfz17_0,hfz17_1,hfz17_2,hfz17_3,hfz17_4⟩:=fz5_ BK115.out
     go_wp2_with (first|((with_reducible refine gate_callee (f:=99) rfl ?_);refine ga_ (some 6) Try.func99 #[.slice A0_0 l0_0.length c0_0] ?_;(with_reducible refine (spec_l4Legs.calls k _ _ l0_0 true _ ?side1 ?side2 A4.out).mono ?_);(case side1=>exact kc_ (Kd.C_below HR0_0.out HB.out));(case side2=>exact HC0_0.out);rintro e w18 ⟨rfl,hb⟩;refine ⟨_,rfl,?_⟩;replace BK115:=ak (bb_ (bk_ BK115.out) hb);replace HB:=ak (below_step (lb1_ HB.out GE115.out) hb);(try clear hb);(try clear hb2);(try clear hk);(try clear hi);obtain ⟨hcz19_0,hcz19_1,hcz19_2,hcz19_3,hcz19_4⟩:=cz5_ BK115.out;obtain ⟨hfz19_0,hfz19_1,hfz19_2,hfz19_3,hfz19_4⟩:=fz5_ BK115.out))
     go_meet
     case rel=>exact ⟨_,(true),(by first|rfl|(simp;done)|(simp [*];done)),H',⟨by first|omega|exact Nat.le_refl _⟩,⟨bk_ BK115.out⟩,⟨lb1_ HB.out GE115.out⟩⟩
   .
    rw [if_neg c6] at H
    have c6b0:((l0_1.length:Int) == 8) = false:=beq_eq_false_iff_ne.mpr c6
    have c6b1:((l0_1.length:Int) != 8) = true:=bne_iff_ne.mpr c6
    (first|rw [c6b0]|(simp only [i64_w,i32_w];rw [c6b0])|skip)
    have H':=ak H
    clear H
    obtain ⟨hcz20_0,hcz20_1,hcz20_2,hcz20_3,hcz20_4⟩:=cz5_ BK115.out
    obtain ⟨hfz20_0,hfz20_1,hfz20_2,hfz20_3,hfz20_4⟩:=fz5_ BK115.out
    go_wp2_with (first|((with_reducible refine gate_callee (f:=99) rfl ?_);refine ga_ (some 6) Try.func99 #[.slice A0_0 l0_0.length c0_0] ?_;(with_reducible refine (spec_l4Legs.calls k _ _ l0_0 true _ ?side1 ?side2 A4.out).mono ?_);(case side1=>exact kc_ (Kd.C_below HR0_0.out HB.out));(case side2=>exact HC0_0.out);rintro e w21 ⟨rfl,hb⟩;refine ⟨_,rfl,?_⟩;replace BK115:=ak (bb_ (bk_ BK115.out) hb);replace HB:=ak (below_step (lb1_ HB.out GE115.out) hb);(try clear hb);(try clear hb2);(try clear hk);(try clear hi);obtain ⟨hcz22_0,hcz22_1,hcz22_2,hcz22_3,hcz22_4⟩:=cz5_ BK115.out;obtain ⟨hfz22_0,hfz22_1,hfz22_2,hfz22_3,hfz22_4⟩:=fz5_ BK115.out))
    go_meet
    case rel=>exact ⟨_,(true),(by first|rfl|(simp;done)|(simp [*];done)),H',⟨by first|omega|exact Nat.le_refl _⟩,⟨bk_ BK115.out⟩,⟨lb1_ HB.out GE115.out⟩⟩
  .
   replace c5:=Bool.eq_false_iff.mpr c5
   subst c5
   have H1:(spec_l25Good.j0 k true l0_0 l0_1 l0_2 a0_3 a0_4) = some r:=by rw [if_neg (show ¬ (false = true) by decide)] at H;exact H
   clear H
   have H:=H1
   clear H1
   have H':=ak H
   clear H
   obtain ⟨hcz23_0,hcz23_1,hcz23_2,hcz23_3,hcz23_4⟩:=cz5_ BK115.out
   obtain ⟨hfz23_0,hfz23_1,hfz23_2,hfz23_3,hfz23_4⟩:=fz5_ BK115.out
   go_wp2_with (first|((with_reducible refine gate_callee (f:=99) rfl ?_);refine ga_ (some 6) Try.func99 #[.slice A0_0 l0_0.length c0_0] ?_;(with_reducible refine (spec_l4Legs.calls k _ _ l0_0 false _ ?side1 ?side2 A4.out).mono ?_);(case side1=>exact kc_ (Kd.C_below HR0_0.out HB.out));(case side2=>exact HC0_0.out);rintro e w24 ⟨rfl,hb⟩;refine ⟨_,rfl,?_⟩;replace BK115:=ak (bb_ (bk_ BK115.out) hb);replace HB:=ak (below_step (lb1_ HB.out GE115.out) hb);(try clear hb);(try clear hb2);(try clear hk);(try clear hi)))
   go_meet
   case rel=>exact ⟨_,(true),(by first|rfl|(simp;done)|(simp [*];done)),H',⟨by first|omega|exact Nat.le_refl _⟩,⟨bk_ BK115.out⟩,⟨lb1_ HB.out GE115.out⟩⟩
 case rest=>
  clear HC2
  try clear p2
  try clear c5
  try clear c6
  try clear c6b0
  try clear c6b1
  try clear c7
  try clear c7b0
  try clear c7b1
  try clear c9
  try clear hcz11_0 hcz11_1 hcz11_2 hcz11_3 hcz11_4
  try clear hcz13_0 hcz13_1 hcz13_2 hcz13_3 hcz13_4
  try clear hcz14_0 hcz14_1 hcz14_2 hcz14_3 hcz14_4
  try clear hcz16_0 hcz16_1 hcz16_2 hcz16_3 hcz16_4
  try clear hcz17_0 hcz17_1 hcz17_2 hcz17_3 hcz17_4
  try clear hcz19_0 hcz19_1 hcz19_2 hcz19_3 hcz19_4
  try clear hcz20_0 hcz20_1 hcz20_2 hcz20_3 hcz20_4
  try clear hcz22_0 hcz22_1 hcz22_2 hcz22_3 hcz22_4
  try clear hcz23_0 hcz23_1 hcz23_2 hcz23_3 hcz23_4
  try clear hfz11_0 hfz11_1 hfz11_2 hfz11_3 hfz11_4
  try clear hfz13_0 hfz13_1 hfz13_2 hfz13_3 hfz13_4
  try clear hfz14_0 hfz14_1 hfz14_2 hfz14_3 hfz14_4
  try clear hfz16_0 hfz16_1 hfz16_2 hfz16_3 hfz16_4
  try clear hfz17_0 hfz17_1 hfz17_2 hfz17_3 hfz17_4
  try clear hfz19_0 hfz19_1 hfz19_2 hfz19_3 hfz19_4
  try clear hfz20_0 hfz20_1 hfz20_2 hfz20_3 hfz20_4
  try clear hfz22_0 hfz22_1 hfz22_2 hfz22_3 hfz22_4
  try clear hfz23_0 hfz23_1 hfz23_2 hfz23_3 hfz23_4
  obtain ⟨kq,x31_1,rfl,HA,HJ1,BK115,HB⟩:=hcut
  cases kq with
  | zero=>exact absurd HA.out (by simp [spec_l25Good.j0])
  | succ kj1=>
   have H:=HA.out
   clear HA
   simp only [spec_l25Good.j0] at H
   by_cases c25:x31_1 = true
   .
    subst c25
    have H1:(some false) = some r:=by rw [if_pos rfl] at H;exact H
    clear H
    have H:=H1
    clear H1
    obtain rfl:=Option.some.inj H
    go_wp2
    go_ret
    exact ⟨rr_,lb1_ HB.out GE115.out⟩
   .
    replace c25:=Bool.eq_false_iff.mpr c25
    subst c25
    have H1:(if 0 < (l0_1.length:Int) then (if rdOf false l0_1 0 = true then (if 0 <= a0_3 then (if a0_3 < (l0_1.length:Int) then (if rdOf false l0_1 a0_3 = true then ((spec_l25Out.f kj1 l0_0 l0_1 a0_3).bind fun t121=>(if t121 >= 0 then (some (decide (t121 <= a0_4))) else (some false))) else (some false)) else (none)) else (none)) else (some false)) else (none)) = some r:=by rw [if_neg (show ¬ (false = true) by decide)] at H;exact H
    clear H
    have H:=H1
    clear H1
    by_cases c26:0 < (l0_1.length:Int)
    .
     rw [if_pos c26] at H
     have c26b0:decide (0 < (l0_1.length:Int)) = true:=decide_eq_true c26
     have c26b1:decide (0 < l0_1.length) = true:=decide_eq_true (by omega)
     clear c26
     obtain ⟨bq27,hbq27⟩:∃ b_:Bool,b_ = (rdOf false l0_1 0):=⟨_,rfl⟩
     replace H:(if bq27 = true then (if 0 <= a0_3 then (if a0_3 < (l0_1.length:Int) then (if rdOf false l0_1 a0_3 = true then ((spec_l25Out.f kj1 l0_0 l0_1 a0_3).bind fun t121=>(if t121 >= 0 then (some (decide (t121 <= a0_4))) else (some false))) else (some false)) else (none)) else (none)) else (some false)) = some r:=by rw [<- hbq27] at H;exact H
     have Nbq27:=ak hbq27
     clear hbq27
     by_cases c28:bq27 = true
     .
      subst c28
      have H1:(if 0 <= a0_3 then (if a0_3 < (l0_1.length:Int) then (if rdOf false l0_1 a0_3 = true then ((spec_l25Out.f kj1 l0_0 l0_1 a0_3).bind fun t121=>(if t121 >= 0 then (some (decide (t121 <= a0_4))) else (some false))) else (some false)) else (none)) else (none)) = some r:=by rw [if_pos rfl] at H;exact H
      clear H
      have H:=H1
      clear H1
      by_cases c29:0 <= a0_3
      .
       rw [if_pos c29] at H
       have c29b0:decide (0 <= a0_3) = true:=decide_eq_true c29
       clear c29
       by_cases c30:a0_3 < (l0_1.length:Int)
       .
        rw [if_pos c30] at H
        have c30b0:decide (a0_3 < (l0_1.length:Int)) = true:=decide_eq_true c30;clear c30
        obtain ⟨bq31,hbq31⟩:∃ b_:Bool,b_ = (rdOf false l0_1 a0_3):=⟨_,rfl⟩
        replace H:(if bq31 = true then ((spec_l25Out.f kj1 l0_0 l0_1 a0_3).bind fun t121=>(if t121 >= 0 then (some (decide (t121 <= a0_4))) else (some false))) else (some false)) = some r:=by rw [<- hbq31] at H;exact H
        have Nbq31:=ak hbq31;clear hbq31
        by_cases c32:bq31 = true
        .
         subst c32
         have H1:((spec_l25Out.f kj1 l0_0 l0_1 a0_3).bind fun t121=>(if t121 >= 0 then (some (decide (t121 <= a0_4))) else (some false))) = some r:=by rw [if_pos rfl] at H;exact H
         clear H;have H:=H1;clear H1;replace H:=Option.bind_eq_some_iff.mp H;obtain ⟨t121,A330,H⟩:=H;replace H:(if t121 >= 0 then (some (decide (t121 <= a0_4))) else (some false)) = some r:=H;have A33:=ak A330;clear A330
         by_cases c34:t121 >= 0
         .
          rw [if_pos c34] at H
          have c34b0:decide (0 <= t121) = true:=decide_eq_true c34;clear c34;obtain rfl:=Option.some.inj H;obtain ⟨hcz35_0,hcz35_1,hcz35_2,hcz35_3,hcz35_4⟩:=cz5_ BK115.out;obtain ⟨hfz35_0,hfz35_1,hfz35_2,hfz35_3,hfz35_4⟩:=fz5_ BK115.out
          have p119:0 <= (0:Int):=(by omega)
          have q119:0 < (l0_1.length:Int):=dt_;obtain ⟨ad119,e119,hx119_0⟩:=Kd.at_bool HR0_1.out 0 p119 q119;(try rw [<- Nbq27.out] at hx119_0);(try rw [<- Nbq31.out] at hx119_0)
          cases e119
          have qi119:(0 < l0_1.length) = True:=eq_true (by omega);(try rw [show ((0:Int)).toNat = 0 from rfl] at hx119_0);(try rw [Addr.add_zero'] at hx119_0);replace hx119_0:=bc_ HB.out hx119_0;replace p119:=eq_true p119;replace q119:=eq_true q119;have p120:0 <= (a0_3:Int):=dt_;have q120:a0_3 < (l0_1.length:Int):=dt_;obtain ⟨ad120,e120,hx120_0⟩:=Kd.at_bool HR0_1.out a0_3 p120 q120;(try rw [<- Nbq27.out] at hx120_0);(try rw [<- Nbq31.out] at hx120_0)
          obtain rfl:ad119 = ad120:=(by injection e120)
          replace hx120_0:=bc_ HB.out hx120_0;replace p120:=eq_true p120;replace q120:=eq_true q120
          go_wp2_with (first|((with_reducible refine gate_callee (f:=88) rfl ?_);refine ga_ (some 52) Try.func88 #[.slice A0_0 l0_0.length c0_0,.slice (some ad119) l0_1.length c0_1,.int .i64 a0_3] ?_;(with_reducible refine (spec_l25Out.calls kj1 _ _ l0_0 _ _ l0_1 a0_3 t121 _ ?side1 ?side2 ?side3 ?side4 A33.out).mono ?_);(case side1=>exact kc_ (Kd.C_below HR0_0.out HB.out));(case side2=>exact HC0_0.out);(case side3=>exact kc_ (Kd.C_below HR0_1.out HB.out));(case side4=>exact HC0_1.out);rintro e w36 ⟨rfl,hb⟩;refine ⟨_,rfl,?_⟩;replace BK115:=ak (bb_ (bk_ BK115.out) hb);replace HB:=ak (below_step (lb1_ HB.out GE115.out) hb);(try clear hb);(try clear hb2);(try clear hk);(try clear hi);obtain ⟨hcz37_0,hcz37_1,hcz37_2,hcz37_3,hcz37_4⟩:=cz5_ BK115.out;obtain ⟨hfz37_0,hfz37_1,hfz37_2,hfz37_3,hfz37_4⟩:=fz5_ BK115.out))
          go_ret
          exact ⟨rr_,lb1_ HB.out GE115.out⟩
         .
          rw [if_neg c34] at H
          have c34b0:decide (0 <= t121) = false:=decide_eq_false c34;clear c34;obtain rfl:=Option.some.inj H;obtain ⟨hcz38_0,hcz38_1,hcz38_2,hcz38_3,hcz38_4⟩:=cz5_ BK115.out;obtain ⟨hfz38_0,hfz38_1,hfz38_2,hfz38_3,hfz38_4⟩:=fz5_ BK115.out
          have p119:0 <= (0:Int):=(by omega)
          have q119:0 < (l0_1.length:Int):=dt_;obtain ⟨ad119,e119,hx119_0⟩:=Kd.at_bool HR0_1.out 0 p119 q119;(try rw [<- Nbq27.out] at hx119_0);(try rw [<- Nbq31.out] at hx119_0)
          cases e119
          have qi119:(0 < l0_1.length) = True:=eq_true (by omega);(try rw [show ((0:Int)).toNat = 0 from rfl] at hx119_0);(try rw [Addr.add_zero'] at hx119_0);replace hx119_0:=bc_ HB.out hx119_0;replace p119:=eq_true p119;replace q119:=eq_true q119;have p120:0 <= (a0_3:Int):=dt_;have q120:a0_3 < (l0_1.length:Int):=dt_;obtain ⟨ad120,e120,hx120_0⟩:=Kd.at_bool HR0_1.out a0_3 p120 q120;(try rw [<- Nbq27.out] at hx120_0);(try rw [<- Nbq31.out] at hx120_0)
          obtain rfl:ad119 = ad120:=(by injection e120)
          replace hx120_0:=bc_ HB.out hx120_0;replace p120:=eq_true p120;replace q120:=eq_true q120
          go_wp2_with (first|((with_reducible refine gate_callee (f:=88) rfl ?_);refine ga_ (some 52) Try.func88 #[.slice A0_0 l0_0.length c0_0,.slice (some ad119) l0_1.length c0_1,.int .i64 a0_3] ?_;(with_reducible refine (spec_l25Out.calls kj1 _ _ l0_0 _ _ l0_1 a0_3 t121 _ ?side1 ?side2 ?side3 ?side4 A33.out).mono ?_);(case side1=>exact kc_ (Kd.C_below HR0_0.out HB.out));(case side2=>exact HC0_0.out);(case side3=>exact kc_ (Kd.C_below HR0_1.out HB.out));(case side4=>exact HC0_1.out);rintro e w39 ⟨rfl,hb⟩;refine ⟨_,rfl,?_⟩;replace BK115:=ak (bb_ (bk_ BK115.out) hb);replace HB:=ak (below_step (lb1_ HB.out GE115.out) hb);(try clear hb);(try clear hb2);(try clear hk);(try clear hi)))
          go_ret
          exact ⟨rr_,lb1_ HB.out GE115.out⟩
        .
         replace c32:=Bool.eq_false_iff.mpr c32;subst c32
         have H1:(some false) = some r:=by rw [if_neg (show ¬ (false = true) by decide)] at H;exact H
         clear H;have H:=H1;clear H1;obtain rfl:=Option.some.inj H;obtain ⟨hcz40_0,hcz40_1,hcz40_2,hcz40_3,hcz40_4⟩:=cz5_ BK115.out;obtain ⟨hfz40_0,hfz40_1,hfz40_2,hfz40_3,hfz40_4⟩:=fz5_ BK115.out
         have p119:0 <= (0:Int):=(by omega)
         have q119:0 < (l0_1.length:Int):=dt_;obtain ⟨ad119,e119,hx119_0⟩:=Kd.at_bool HR0_1.out 0 p119 q119;(try rw [<- Nbq27.out] at hx119_0);(try rw [<- Nbq31.out] at hx119_0)
         cases e119
         have qi119:(0 < l0_1.length) = True:=eq_true (by omega);(try rw [show ((0:Int)).toNat = 0 from rfl] at hx119_0);(try rw [Addr.add_zero'] at hx119_0);replace hx119_0:=bc_ HB.out hx119_0;replace p119:=eq_true p119;replace q119:=eq_true q119;have p120:0 <= (a0_3:Int):=dt_;have q120:a0_3 < (l0_1.length:Int):=dt_;obtain ⟨ad120,e120,hx120_0⟩:=Kd.at_bool HR0_1.out a0_3 p120 q120;(try rw [<- Nbq27.out] at hx120_0);(try rw [<- Nbq31.out] at hx120_0)
         obtain rfl:ad119 = ad120:=(by injection e120)
         replace hx120_0:=bc_ HB.out hx120_0;replace p120:=eq_true p120;replace q120:=eq_true q120
         go_wp2
         go_ret
         exact ⟨rr_,lb1_ HB.out GE115.out⟩
       .
        rw [if_neg c30] at H
        exact absurd H (by simp)
      .
       rw [if_neg c29] at H
       exact absurd H (by simp)
     .
      replace c28:=Bool.eq_false_iff.mpr c28
      subst c28
      have H1:(some false) = some r:=by rw [if_neg (show ¬ (false = true) by decide)] at H;exact H
      clear H
      have H:=H1
      clear H1
      obtain rfl:=Option.some.inj H
      obtain ⟨hcz41_0,hcz41_1,hcz41_2,hcz41_3,hcz41_4⟩:=cz5_ BK115.out
      obtain ⟨hfz41_0,hfz41_1,hfz41_2,hfz41_3,hfz41_4⟩:=fz5_ BK115.out
      have p119:0 <= (0:Int):=(by omega)
      have q119:0 < (l0_1.length:Int):=dt_
      obtain ⟨ad119,e119,hx119_0⟩:=Kd.at_bool HR0_1.out 0 p119 q119
      (try rw [<- Nbq27.out] at hx119_0)
      cases e119
      have qi119:(0 < l0_1.length) = True:=eq_true (by omega)
      (try rw [show ((0:Int)).toNat = 0 from rfl] at hx119_0)
      (try rw [Addr.add_zero'] at hx119_0)
      replace hx119_0:=bc_ HB.out hx119_0
      replace p119:=eq_true p119
      replace q119:=eq_true q119
      go_wp2
      go_ret
      exact ⟨rr_,lb1_ HB.out GE115.out⟩
    .
     rw [if_neg c26] at H
     exact absurd H (by simp)
def spec_WayOut.f (k:Nat) (l0_0:List (S37)) (l0_1:List Bool) (l0_2:List Bool) (a0_3:Int) (a0_4:Int):Option (Int × Bool):=(spec_l25Good.f k l0_0 l0_1 l0_2 a0_3 a0_4).bind fun t927=>(if t927 = true then ((spec_l25Out.f k l0_0 l0_1 a0_3).bind fun t928=>(some (t928,true))) else (some (0,false)))
theorem spec_WayOut.calls (k:Nat) (A0_0:Option Addr) (c0_0:Nat) (l0_0:List (S37)) (A0_1:Option Addr) (c0_1:Nat) (l0_1:List Bool) (A0_2:Option Addr) (c0_2:Nat) (l0_2:List Bool) (a0_3:Int) (a0_4:Int) (r1:Int) (r2:Bool) (w:World) (hr0_0:Kd.C k37 w A0_0 l0_0.length l0_0) (hc0_0:l0_0.length <= c0_0) (hr0_1:Kd.C Kd.bool w A0_1 l0_1.length l0_1) (hc0_1:l0_1.length <= c0_1) (hr0_2:Kd.C Kd.bool w A0_2 l0_2.length l0_2) (hc0_2:l0_2.length <= c0_2) (h:spec_WayOut.f k l0_0 l0_1 l0_2 a0_3 a0_4 = some (r1,r2)) :
  Calls Try.prog 34 #[.agg #[.slice A0_0 l0_0.length c0_0,.slice A0_1 l0_1.length c0_1,.slice A0_2 l0_2.length c0_2,.int .i64 a0_3,.int .i64 a0_4]] w fun e w'=>e = .returned (.tuple #[.int .i64 r1,.bool r2]) /\ Below w.heap.size w w':=by
 have hu30:=Try.underlying30
 have HR0_0:=ak hr0_0
 have HC0_0:=ak hc0_0
 clear hr0_0 hc0_0
 have HR0_1:=ak hr0_1
 have HC0_1:=ak hc0_1
 clear hr0_1 hc0_1
 have HR0_2:=ak hr0_2
 have HC0_2:=ak hc0_2
 clear hr0_2 hc0_2
 have HB:=ak (Below.refl w.heap.size w)
 have H:((spec_l25Good.f k l0_0 l0_1 l0_2 a0_3 a0_4).bind fun t927=>(if t927 = true then ((spec_l25Out.f k l0_0 l0_1 a0_3).bind fun t928=>(some (t928,true))) else (some (0,false)))) = some (r1,r2):=h
 clear h
 replace H:=Option.bind_eq_some_iff.mp H
 obtain ⟨t927,A20,H⟩:=H
 replace H:(if t927 = true then ((spec_l25Out.f k l0_0 l0_1 a0_3).bind fun t928=>(some (t928,true))) else (some (0,false))) = some (r1,r2):=H
 have A2:=ak A20
 clear A20
 by_cases c3:t927 = true
 .
  subst c3
  have H1:((spec_l25Out.f k l0_0 l0_1 a0_3).bind fun t928=>(some (t928,true))) = some (r1,r2):=by rw [if_pos rfl] at H;exact H
  clear H
  have H:=H1
  clear H1
  replace H:=Option.bind_eq_some_iff.mp H
  obtain ⟨t928,A40,H⟩:=H
  replace H:(some (t928,true)) = some (r1,r2):=H
  have A4:=ak A40
  clear A40
  simp only [Option.some.injEq,Prod.mk.injEq] at H
  obtain ⟨rfl,rfl⟩:=H
  go_enter Try.func34,Try.ntmps34
  go_wp2_with (first|((with_reducible refine gate_dst (N:=1) rfl ?_);refine box_event ?hg (N:=1) ?hd (cs:=#[.slice A0_0 l0_0.length c0_0,.slice A0_1 l0_1.length c0_1,.slice A0_2 l0_2.length c0_2,.int .i64 a0_3,.int .i64 a0_4]) (t:=30) ?hr ?_;(case hd=>rfl);(case hg=>rfl);(case hr=>first|(go_simp;done)|(go_simp;rfl));intro gb926 hg w5 hbox hb;have BK926:=ak (hbox);have GW926:=ak ((bz_ hg (lb0_ HB.out)));have GE926:=ak ((bz_ hg (lb0_ HB.out)));replace HB:=ak (below_step (lb0_ HB.out) hb);clear hb hbox hg;obtain ⟨hcz6_0,hcz6_1,hcz6_2,hcz6_3,hcz6_4⟩:=cz5_ BK926.out;obtain ⟨hfz6_0,hfz6_1,hfz6_2,hfz6_3,hfz6_4⟩:=fz5_ BK926.out)|((with_reducible refine gate_callee (f:=67) rfl ?_);refine ga_ (some 5) Try.func67 #[.agg #[.slice A0_0 l0_0.length c0_0,.slice A0_1 l0_1.length c0_1,.slice A0_2 l0_2.length c0_2,.int .i64 a0_3,.int .i64 a0_4]] ?_;(with_reducible refine (spec_l25Good.calls k _ _ l0_0 _ _ l0_1 _ _ l0_2 a0_3 a0_4 true _ ?side1 ?side2 ?side3 ?side4 ?side5 ?side6 A2.out).mono ?_);(case side1=>exact kc_ (Kd.C_below HR0_0.out HB.out));(case side2=>exact HC0_0.out);(case side3=>exact kc_ (Kd.C_below HR0_1.out HB.out));(case side4=>exact HC0_1.out);(case side5=>exact kc_ (Kd.C_below HR0_2.out HB.out));(case side6=>exact HC0_2.out);rintro e w7 ⟨rfl,hb⟩;refine ⟨_,rfl,?_⟩;replace BK926:=ak (bb_ (bk_ BK926.out) hb);replace HB:=ak (below_step (lb1_ HB.out GE926.out) hb);(try clear hb);(try clear hb2);(try clear hk);(try clear hi);obtain ⟨hcz8_0,hcz8_1,hcz8_2,hcz8_3,hcz8_4⟩:=cz5_ BK926.out;obtain ⟨hfz8_0,hfz8_1,hfz8_2,hfz8_3,hfz8_4⟩:=fz5_ BK926.out)|((with_reducible refine gate_callee (f:=88) rfl ?_);refine ga_ (some 13) Try.func88 #[.slice A0_0 l0_0.length c0_0,.slice A0_1 l0_1.length c0_1,.int .i64 a0_3] ?_;(with_reducible refine (spec_l25Out.calls k _ _ l0_0 _ _ l0_1 a0_3 t928 _ ?side1 ?side2 ?side3 ?side4 A4.out).mono ?_);(case side1=>exact kc_ (Kd.C_below HR0_0.out HB.out));(case side2=>exact HC0_0.out);(case side3=>exact kc_ (Kd.C_below HR0_1.out HB.out));(case side4=>exact HC0_1.out);rintro e w9 ⟨rfl,hb⟩;refine ⟨_,rfl,?_⟩;replace BK926:=ak (bb_ (bk_ BK926.out) hb);replace HB:=ak (below_step (lb1_ HB.out GE926.out) hb);(try clear hb);(try clear hb2);(try clear hk);(try clear hi)))
  go_ret2
  exact ⟨rr_,lb1_ HB.out GE926.out⟩
 .
  replace c3:=Bool.eq_false_iff.mpr c3
  subst c3
  have H1:(some (0,false)) = some (r1,r2):=by rw [if_neg (show ¬ (false = true) by decide)] at H;exact H
  clear H
  have H:=H1
  clear H1
  simp only [Option.some.injEq,Prod.mk.injEq] at H
  obtain ⟨rfl,rfl⟩:=H
  go_enter Try.func34,Try.ntmps34
  go_wp2_with (first|((with_reducible refine gate_dst (N:=1) rfl ?_);refine box_event ?hg (N:=1) ?hd (cs:=#[.slice A0_0 l0_0.length c0_0,.slice A0_1 l0_1.length c0_1,.slice A0_2 l0_2.length c0_2,.int .i64 a0_3,.int .i64 a0_4]) (t:=30) ?hr ?_;(case hd=>rfl);(case hg=>rfl);(case hr=>first|(go_simp;done)|(go_simp;rfl));intro gb926 hg w10 hbox hb;have BK926:=ak (hbox);have GW926:=ak ((bz_ hg (lb0_ HB.out)));have GE926:=ak ((bz_ hg (lb0_ HB.out)));replace HB:=ak (below_step (lb0_ HB.out) hb);clear hb hbox hg;obtain ⟨hcz11_0,hcz11_1,hcz11_2,hcz11_3,hcz11_4⟩:=cz5_ BK926.out;obtain ⟨hfz11_0,hfz11_1,hfz11_2,hfz11_3,hfz11_4⟩:=fz5_ BK926.out)|((with_reducible refine gate_callee (f:=67) rfl ?_);refine ga_ (some 5) Try.func67 #[.agg #[.slice A0_0 l0_0.length c0_0,.slice A0_1 l0_1.length c0_1,.slice A0_2 l0_2.length c0_2,.int .i64 a0_3,.int .i64 a0_4]] ?_;(with_reducible refine (spec_l25Good.calls k _ _ l0_0 _ _ l0_1 _ _ l0_2 a0_3 a0_4 false _ ?side1 ?side2 ?side3 ?side4 ?side5 ?side6 A2.out).mono ?_);(case side1=>exact kc_ (Kd.C_below HR0_0.out HB.out));(case side2=>exact HC0_0.out);(case side3=>exact kc_ (Kd.C_below HR0_1.out HB.out));(case side4=>exact HC0_1.out);(case side5=>exact kc_ (Kd.C_below HR0_2.out HB.out));(case side6=>exact HC0_2.out);rintro e w12 ⟨rfl,hb⟩;refine ⟨_,rfl,?_⟩;replace BK926:=ak (bb_ (bk_ BK926.out) hb);replace HB:=ak (below_step (lb1_ HB.out GE926.out) hb);(try clear hb);(try clear hb2);(try clear hk);(try clear hi)))
  go_ret2
  exact ⟨rr_,lb1_ HB.out GE926.out⟩
end Go.Proofs.Ythmjimboajmhmaa.Pr

