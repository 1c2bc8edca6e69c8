/-
What is proved: parts of the law FnExplorations: what the functions that it reaches compute, and the plain law.
Conditions: those of each theorem.
-/
import Derived.ArgAppend
import Derived.Below
import Derived.BigQuiet
import Derived.Deep.AppendLies
import Derived.Deep.CutBlock
import Derived.Deep.DeepCutAuto
import Derived.Deep.Draws
import Derived.Deep.LoopGhost
import Derived.Deep.OwnRows
import Derived.Deep.QuietTactic
import Derived.Deep.RegionHeld3
import Derived.Deep.RegionLaw
import Derived.KernelRfl
import Derived.Laws.BitsLemmas
import Derived.Laws.BytesArg
import Derived.Laws.CopyOwn
import Derived.Laws.Cover1
import Derived.Laws.IdiomCopy
import Derived.Laws.IdiomStrings
import Derived.Laws.MakeOwn
import Derived.Laws.OwnMore
import Derived.Laws.Rows
import Derived.Laws.Slices
import Derived.Lib.AppendStr
import Derived.Lib.ConvBytes
import Derived.Maps.AppendAt
import Derived.OrdersHeld
import Derived.OwnWalk
import Derived.RowKit
import Derived.RowKit3
import Derived.Shelf.Abstract
import Derived.StillTailTactics
import Derived.Tactics
import Derived.Test.YthmjimboajmhmaaProg
import Derived.WalkKit
import Derived.WideLaws
import Derived.Test.YthmjimboajmhmaaCFnExplorations0
set_option maxHeartbeats 8000000
set_option maxRecDepth 100000
namespace Go.Proofs.Ythmjimboajmhmaa.Pr
open Go.RowKit Go.Proofs.YthmjimboajmhmaaW.PrintWords Go.Proofs.YthmjimboajmhmaaW.PrintLast Go.Proofs.YthmjimboajmhmaaW.PrintMore
attribute [local go_sem] zF zJ zI zM zH zL zG zK   -- for this text's walks alone
set_option linter.unusedVariables false
set_option linter.unusedSimpArgs false
def qhk:Option Int->Value
 | none=>.nilIface
 | some c=>.iface 0 (.int .i64 c)
theorem uU:qhk none=.nilIface:=rfl
theorem uV (c:Int):qhk (some c)=.iface 0 (.int .i64 c):=rfl
theorem info3:(Try.prog.info? 3).map (fun i=>(i.zero,i.size,i.bytes))=some (some (.int .i64 0),1,8):=by kernel_rfl
theorem info4:(Try.prog.info? 4).map (fun i=>(i.zero,i.size,i.bytes))=some (some (.bool false),1,1):=by kernel_rfl
theorem info37:(Try.prog.info? 37).map (fun i=>(i.zero,i.size,i.bytes))=some (some (.agg #[(.int .i64 0),(.int .i64 0),(.int .i64 0),(.int .i64 0),(.int .i64 0)]),5,40):=by kernel_rfl
theorem info39:(Try.prog.info? 39).map (fun i=>(i.zero,i.size,i.bytes))=some (some (.agg #[(.int .i64 0),(.int .i64 0),(.int .i64 0),(.int .i64 0),(.int .i64 0),(.int .i64 0),(.int .i64 0)]),7,56):=by kernel_rfl
theorem info118:(Try.prog.info? 118).map (fun i=>(i.zero,i.size,i.bytes))=some (some (.agg #[(.int .i64 0),(.int .i64 0),(.int .i64 0)]),3,24):=by kernel_rfl
structure aN where
 f0:Int
 f1:Int
 f2:Int
 f3:Int
 f4:Int
def z37:aN:=⟨(0:Int),(0:Int),(0:Int),(0:Int),(0:Int)⟩
def k37:Kd aN:=Kd.iso (Kd.pair (Kd.int .i64) (Kd.pair (Kd.int .i64) (Kd.pair (Kd.int .i64) (Kd.pair (Kd.int .i64) (Kd.int .i64))))) (fun x:aN=>(x.f0,x.f1,x.f2,x.f3,x.f4))
theorem qmx {w:World}{x:aN}{cs:List Value}(h:k37.K w x cs):cs=[.int .i64 x.f0,.int .i64 x.f1,.int .i64 x.f2,.int .i64 x.f3,.int .i64 x.f4]:=by
 obtain⟨_,_,rfl,rfl,⟨_,_,rfl,rfl,⟨_,_,rfl,rfl,⟨_,_,rfl,rfl,rfl⟩⟩⟩⟩:=h;exact rfl
theorem qzd {w:World}{base:Nat}{ok:Nat->Prop}{x:aN}{cs:List Value}(h:k37.M w base ok x cs):cs=[.int .i64 x.f0,.int .i64 x.f1,.int .i64 x.f2,.int .i64 x.f3,.int .i64 x.f4]:=by
 obtain⟨_,_,rfl,rfl,⟨_,_,rfl,rfl,⟨_,_,rfl,rfl,⟨_,_,rfl,rfl,rfl⟩⟩⟩⟩:=h;exact rfl
theorem OD (w:World)(base:Nat)(ok:Nat->Prop)(x:aN)  : k37.M w base ok x [.int .i64 x.f0,.int .i64 x.f1,.int .i64 x.f2,.int .i64 x.f3,.int .i64 x.f4]:=⟨[.int .i64 x.f0],[.int .i64 x.f1,.int .i64 x.f2,.int .i64 x.f3,.int .i64 x.f4],rfl,rfl,⟨[.int .i64 x.f1],[.int .i64 x.f2,.int .i64 x.f3,.int .i64 x.f4],rfl,rfl,⟨[.int .i64 x.f2],[.int .i64 x.f3,.int .i64 x.f4],rfl,rfl,⟨[.int .i64 x.f3],[.int .i64 x.f4],rfl,rfl,rfl⟩⟩⟩⟩
def aj (xs:List aN)(i:Int):aN:=xs.getD i.toNat z37
theorem uS {w:World}{A:Option Addr}{n:Nat}{xs:List aN}(h:Kd.C k37 w A n xs)(i:Int)(h0:0<=i)(h1:i<n):∃ ad ,A=some ad/\w.cell? (ad.add (i.toNat*5))=some (.int .i64 (aj xs i).f0)/\w.cell? ⟨(ad.add (i.toNat*5)).block,(ad.add (i.toNat*5)).off+1,none⟩=some (.int .i64 (aj xs i).f1)/\w.cell? ⟨(ad.add (i.toNat*5)).block,(ad.add (i.toNat*5)).off+2,none⟩=some (.int .i64 (aj xs i).f2)/\w.cell? ⟨(ad.add (i.toNat*5)).block,(ad.add (i.toNat*5)).off+3,none⟩=some (.int .i64 (aj xs i).f3)/\w.cell? ⟨(ad.add (i.toNat*5)).block,(ad.add (i.toNat*5)).off+4,none⟩=some (.int .i64 (aj xs i).f4):=by
 obtain⟨ad,c,e,_,hK,hc0⟩:=Kd.Zw h z37 i h0 h1;have hc:∀ j u,c[j]? = some u->w.cell? (ad.add (i.toNat*5+j))=some u:=hc0;obtain rfl:=qmx hK;exact⟨ad,e,hc 0 _ rfl,by rw[<- Dp _ _ 1 (by omega)];exact hc 1 _ rfl,by rw[<- Dp _ _ 2 (by omega)];exact hc 2 _ rfl,by rw[<- Dp _ _ 3 (by omega)];exact hc 3 _ rfl,by rw[<- Dp _ _ 4 (by omega)];exact hc 4 _ rfl⟩
structure mG where
 f0:Int
 f1:Int
 f2:aN
def z39:mG:=⟨(0:Int),(0:Int),z37⟩
def k39:Kd mG:=Kd.iso (Kd.pair (Kd.int .i64) (Kd.pair (Kd.int .i64) k37)) (fun x:mG=>(x.f0,x.f1,x.f2))
theorem qze {w:World}{x:mG}{cs:List Value}(h:k39.K w x cs):cs=[.int .i64 x.f0,.int .i64 x.f1,.int .i64 x.f2.f0,.int .i64 x.f2.f1,.int .i64 x.f2.f2,.int .i64 x.f2.f3,.int .i64 x.f2.f4]:=by
 obtain⟨_,_,rfl,rfl,⟨_,_,rfl,rfl,s2⟩⟩:=h;obtain rfl:=qmx s2;exact rfl
theorem qmy (w:World)(base:Nat)(ok:Nat->Prop)(x:mG)  : k39.M w base ok x [.int .i64 x.f0,.int .i64 x.f1,.int .i64 x.f2.f0,.int .i64 x.f2.f1,.int .i64 x.f2.f2,.int .i64 x.f2.f3,.int .i64 x.f2.f4]:=⟨[.int .i64 x.f0],[.int .i64 x.f1,.int .i64 x.f2.f0,.int .i64 x.f2.f1,.int .i64 x.f2.f2,.int .i64 x.f2.f3,.int .i64 x.f2.f4],rfl,rfl,⟨[.int .i64 x.f1],[.int .i64 x.f2.f0,.int .i64 x.f2.f1,.int .i64 x.f2.f2,.int .i64 x.f2.f3,.int .i64 x.f2.f4],rfl,rfl,(OD w base ok x.f2 )⟩⟩
def aY (xs:List mG)(i:Int):mG:=xs.getD i.toNat z39
theorem J8 {w:World}{A:Option Addr}{n:Nat}{xs:List mG}(h:Kd.C k39 w A n xs)(i:Int)(h0:0<=i)(h1:i<n):∃ ad ,A=some ad/\w.cell? (ad.add (i.toNat*7))=some (.int .i64 (aY xs i).f0)/\w.cell? ⟨(ad.add (i.toNat*7)).block,(ad.add (i.toNat*7)).off+1,none⟩=some (.int .i64 (aY xs i).f1)/\w.cell? ⟨(ad.add (i.toNat*7)).block,(ad.add (i.toNat*7)).off+2,none⟩=some (.int .i64 (aY xs i).f2.f0)/\w.cell? ⟨(ad.add (i.toNat*7)).block,(ad.add (i.toNat*7)).off+3,none⟩=some (.int .i64 (aY xs i).f2.f1)/\w.cell? ⟨(ad.add (i.toNat*7)).block,(ad.add (i.toNat*7)).off+4,none⟩=some (.int .i64 (aY xs i).f2.f2)/\w.cell? ⟨(ad.add (i.toNat*7)).block,(ad.add (i.toNat*7)).off+5,none⟩=some (.int .i64 (aY xs i).f2.f3)/\w.cell? ⟨(ad.add (i.toNat*7)).block,(ad.add (i.toNat*7)).off+6,none⟩=some (.int .i64 (aY xs i).f2.f4):=by
 obtain⟨ad,c,e,_,hK,hc0⟩:=Kd.Zw h z39 i h0 h1;have hc:∀ j u,c[j]? = some u->w.cell? (ad.add (i.toNat*7+j))=some u:=hc0;obtain rfl:=qze hK;exact⟨ad,e,hc 0 _ rfl,by rw[<- Dp _ _ 1 (by omega)];exact hc 1 _ rfl,by rw[<- Dp _ _ 2 (by omega)];exact hc 2 _ rfl,by rw[<- Dp _ _ 3 (by omega)];exact hc 3 _ rfl,by rw[<- Dp _ _ 4 (by omega)];exact hc 4 _ rfl,by rw[<- Dp _ _ 5 (by omega)];exact hc 5 _ rfl,by rw[<- Dp _ _ 6 (by omega)];exact hc 6 _ rfl⟩
structure vT where
 f0:Int
 f1:Int
 f2:Int
def qom:vT:=⟨(0:Int),(0:Int),(0:Int)⟩
def LK:Kd vT:=Kd.iso (Kd.pair (Kd.int .i64) (Kd.pair (Kd.int .i64) (Kd.int .i64))) (fun x:vT=>(x.f0,x.f1,x.f2))
theorem qzc {w:World}{x:vT}{cs:List Value}(h:LK.K w x cs):cs=[.int .i64 x.f0,.int .i64 x.f1,.int .i64 x.f2]:=by
 obtain⟨_,_,rfl,rfl,⟨_,_,rfl,rfl,rfl⟩⟩:=h;exact rfl
theorem qmw (w:World)(base:Nat)(ok:Nat->Prop)(x:vT)  : LK.M w base ok x [.int .i64 x.f0,.int .i64 x.f1,.int .i64 x.f2]:=⟨[.int .i64 x.f0],[.int .i64 x.f1,.int .i64 x.f2],rfl,rfl,⟨[.int .i64 x.f1],[.int .i64 x.f2],rfl,rfl,rfl⟩⟩
def nX (xs:List vT)(i:Int):vT:=xs.getD i.toNat qom
theorem qat {w:World}{A:Option Addr}{n:Nat}{xs:List vT}(h:Kd.C LK w A n xs)(i:Int)(h0:0<=i)(h1:i<n):∃ ad ,A=some ad/\w.cell? (ad.add (i.toNat*3))=some (.int .i64 (nX xs i).f0)/\w.cell? ⟨(ad.add (i.toNat*3)).block,(ad.add (i.toNat*3)).off+1,none⟩=some (.int .i64 (nX xs i).f1)/\w.cell? ⟨(ad.add (i.toNat*3)).block,(ad.add (i.toNat*3)).off+2,none⟩=some (.int .i64 (nX xs i).f2):=by
 obtain⟨ad,c,e,_,hK,hc0⟩:=Kd.Zw h qom i h0 h1;have hc:∀ j u,c[j]? = some u->w.cell? (ad.add (i.toNat*3+j))=some u:=hc0;obtain rfl:=qzc hK;exact⟨ad,e,hc 0 _ rfl,by rw[<- Dp _ _ 1 (by omega)];exact hc 1 _ rfl,by rw[<- Dp _ _ 2 (by omega)];exact hc 2 _ rfl⟩
end Go.Proofs.Ythmjimboajmhmaa.Pr

namespace Go.Proofs.Ythmjimboajmhmaa.Pr
open Go.RowKit Go.Proofs.YthmjimboajmhmaaW.PrintWords Go.Proofs.YthmjimboajmhmaaW.PrintLast Go.Proofs.YthmjimboajmhmaaW.PrintMore
set_option linter.unusedVariables false
set_option linter.unusedSimpArgs false
section
variable {P:Program}{md:Region.Mode}{ops:Array Oper}{Q:Exit->Act->World->Prop}{S:World->Prop}{ds:List Nat}{T:Bool×List (List Nat×List Nat)}
theorem aQ {fuel:Nat}{l:Array Bool}{a:Act}{w:World}{oi:Oper}{v:Value}{a':Act}(HT:Aside0 (ji md ops=T))(i:Nat)(N:Option Tmp)(l':Array Bool)(h:kM P md ops Q S ds fuel l' a' w)
  (hi:ops[i]? = some oi:=by exact rfl) (hN:oi.dst=N:=by exact rfl) (hc:Xz T l.toList l'.toList i=true:=by kernel_rfl) (hQ:∀ c a w,Q (.panic c) (a.put oi.dst v) w->Q (.panic c) a w:=by exact fun _ _ _ h=>h)
  (hy:Yields P ops oi v a:=by exact Or.inl ⟨by rfl,by intro w';go_simp;with_reducible rfl⟩) (ha:a.put N v=a':=by simp only[Act.put,List.setIfInBounds_toArray,List.set_cons_zero,List.set_cons_succ,nM,pO];rfl) :
  kM P md ops Q S ds (fuel+1) l a w:=BG l' hi hN (qgi HT.out hc) hQ hy ha h
theorem bY {rest:List Oper}{oi:Oper}{a:Act}{w:World}{f:FuncId}{fn:Func}{ar:Array Operand}{ts:Array TypeId}(N:Option Tmp)(hf:P.funcs[f]? = some fn)(args:Array Value)(h:Calls P f args w fun e w'=>∃ v,e=.returned v/\wpList P ops Q rest (a.put N v) w')
  (hd:oi.dst=N:=by exact rfl) (hg:oi.guard=none:=by exact rfl) (hname:(fn.name == "runtime.NumGoroutine")=false:=by kernel_rfl) (hb:fn.body.isSome=true:=by exact rfl) (hop:oi.op=.call { callee:=.value (.func f),args:=ar,argTypes:=ts }:=by exact rfl)
  (hargs:ar.map a.eval=args:=by(try simp only[List.map_toArray,List.map_cons,List.map_nil]);first|done|rfl|(simp only[List.length_drop,List.length_take];rfl)):wpList P ops Q (oi::rest) a w:=qtg N hd hg hf hname hb args hop hargs h
end
theorem bF {n:Nat}{w w0 w1:World}(HB:Below n w w0)(h:Below n w w0->Below n w w1:=by intro Ei;repeat(first|(with_reducible first|exact Ei|apply gK|apply ig|apply kS)|exact Ei)):Below n w w1:=h HB
theorem bU {n:Nat}{w w0 w1:World}{A:Prop}(HB:Below n w w0)(G:A)(h:Below n w w0->A->Below n w w1:=by intro Ei G_;repeat(first|(with_reducible first|exact Ei|apply gK|apply ig|apply kS|refine aK ?_ G_)|exact Ei)):Below n w w1:=h HB G
theorem fC {n:Nat}{w w0 w1:World}{A B:Prop}(HB:Below n w w0)(G:A)(H:B)(h:Below n w w0->A->B->Below n w w1:=by intro Ei G_ H_;repeat(first|(with_reducible first|exact Ei|apply gK|apply ig|apply kS|refine aK ?_ G_|refine aK ?_ H_)|exact Ei)):Below n w w1:=h HB G H
theorem fO {α:Sort _}{a b:α}(h:a=b:=by first|rfl|(simp[uU,uV] <;> rfl)|(simp[*,uU,uV] <;> rfl)):a=b:=h
theorem dX {α:Type}{d:Kd α}{e base:Nat}{w w1:World}{ok:Nat->Prop}{v:Value}{xs:List α}(h:d.R e w base ok v xs)(hh:d.R e w base ok v xs->d.R e w1 base ok v xs:=by intro h_;(with_reducible repeat(first|apply Kd.jJ|apply Kd.jK|apply Kd.iw));exact h_):d.R e w1 base ok v xs:=hh h
theorem dW {α:Type}{d:Kd α}{w w1:World}{A:Option Addr}{n:Nat}{xs:List α}(h:d.C w A n xs)(hh:d.C w A n xs->d.C w1 A n xs:=by intro h_;repeat(first|exact h_|(with_reducible refine Kd.qon ?_ _)|(with_reducible refine Kd.qop ?_ _)|(with_reducible refine Kd.qoo ?_))):d.C w1 A n xs:=hh h
theorem bf {w w1:World}{g:Nat}{o:Obj}(h:w.heap[g]? = some o)(hh:w.heap[g]? = some o->w1.heap[g]? = some o:=by intro h_;(with_reducible repeat(first|refine dn ?_ _|refine bG ?_|refine cO ?_ _));exact h_):w1.heap[g]? = some o:=hh h
theorem d_ {p:Prop}[inst:Decidable p] (h:decide p=true:=by first|(with_reducible assumption)|assumption):p:=of_decide_eq_true h
theorem bn {w w0:World}{a:Addr}{v:Value}(hb:Below w.heap.size w w0)(h:w.cell? a=some v):w0.cell? a=some v:=(hb.cell (World.block_lt_of_cell? w _ h)).trans h
section
variable {P:Program}{md:Region.Mode}{ops:Array Oper}{Q:Exit->Act->World->Prop}{S:World->Prop}{ds:List Nat}
theorem jw {fuel:Nat}{l:Array Bool}{a a':Act}{w:World}(h:kM P md ops Q S ds fuel l a' w)(ha:a=a':=by show Act.put _ (some _) _=_;simp only[Act.put,List.setIfInBounds_toArray,List.set_cons_zero,List.set_cons_succ,nM,pO];rfl):kM P md ops Q S ds fuel l a w:=CV ha h
theorem nb_ {fuel:Nat}{l:Array Bool}{a a':Act}{w:World}(h:kM P md ops Q S ds fuel l a' w)(ha:a=a':=by simp only[zQ,Act.put,List.setIfInBounds_toArray,List.set_cons_zero,List.set_cons_succ];rfl):kM P md ops Q S ds fuel l a w:=CV ha h
end
theorem bH {w W:World}{g:Nat}(hg:g=W.heap.size)(h:Below w.heap.size w W):w.heap.size<=g:=by rw[hg];exact h.size
theorem gQ {n:Nat}{w w0 w1:World}{A B C:Prop}(HB:Below n w w0)(G:A)(H:B)(I:C)(h:Below n w w0->A->B->C->Below n w w1:=by intro Ei G_ H_ I_;repeat(first|(with_reducible first|exact Ei|apply gK|apply ig|apply kS|refine aK ?_ G_|refine aK ?_ H_|refine aK ?_ I_)|exact Ei)):Below n w w1:=h HB G H I
theorem BD {w w0 w1:World}{g:Nat}{row:Option Nat}(h:gJ w w0 g row)(hh:gJ w w0 g row->gJ w w1 g row:=by intro h_;repeat(first|(with_reducible first|exact h_|apply gJ.Wh|apply qzh|apply qzg|apply qzf)|exact h_)):gJ w w1 g row:=hh h
theorem Ro {w w0 w1:World}{S:Nat->Prop}(h:Kept w w0 S)(hh:Kept w w0 S->Kept w w1 S:=by intro h_;repeat(first|(with_reducible first|exact h_|apply Kept.alloc|apply Kept.drewN|apply Kept.drew)|exact h_)):Kept w w1 S:=hh h
theorem sF {α:Type}{d:Kd α}{e base:Nat}{w w1:World}{ok ok':Nat->Prop}{v:Value}{xs:List α}(h:d.R e w base ok v xs)(hm:∀ k,ok k->ok' k)(hh:d.R e w base ok v xs->d.R e w1 base ok v xs:=by intro h_;(with_reducible repeat(first|apply Kd.jJ|apply Kd.jK|apply Kd.iw));exact h_):d.R e w1 base ok' v xs:=Kd.dV (hh h) hm
theorem aI {w1 w2:World}{g:Nat}{o:Obj}(h:w1.heap[g]? = some o)(hb:Below w1.heap.size w1 w2):w2.heap[g]? = some o:=pK h hb
theorem ry_ {α:Type}{d:Kd α}{e base:Nat}{w:World}{ok:Nat->Prop}{v:Value}{xs ys:List α}(he:ys=xs)(h:d.R e w base ok v xs):d.R e w base ok v ys:=by rw[he];exact h
section
variable {P:Program}{ops:Array Oper}{Q:Exit->Act->World->Prop}
theorem kV {oi:Oper}{N:Option Tmp}{a:Act}{w:World}{K:Act->World->Prop}{f:FuncId}{fn:Func}{ar:Array Operand}{ts:Array TypeId}(hf:P.funcs[f]? = some fn)(args:Array Value)(h:Calls P f args w fun e w'=>∃ v,e=.returned v/\K (a.put N v) w')
  (hname:(fn.name == "runtime.NumGoroutine")=false:=by kernel_rfl) (hb:fn.body.isSome=true:=by exact rfl) (hw:Region.wanted oi (yielded ops a.tmps)=true:=by rfl) (hN:oi.dst=N:=by exact rfl) (hop:oi.op=.call { callee:=.value (.func f),args:=ar,argTypes:=ts }:=by exact rfl)
  (hargs:ar.map a.eval=args:=by(try simp only[List.map_toArray,List.map_cons,List.map_nil]);first|done|rfl|(simp only[List.length_drop,List.length_take];rfl)):if Region.wanted oi (yielded ops a.tmps)=true then Oper.wp P oi a w K Q else K (a.put N undef) w:=qth hf hname hb args hw hN hop hargs h
end
theorem He {w:World}{g:Nat}{t:TypeId}{a0 a1 a2:Value}(h:w.heap[g]? = some (.cells #[a0,a1,a2] t (0,0))):w.cell? ⟨g,0,none⟩=some a0/\w.cell? ⟨g,1,none⟩=some a1/\w.cell? ⟨g,2,none⟩=some a2:=⟨(aH h 0).trans rfl,(aH h 1).trans rfl,(aH h 2).trans rfl⟩
theorem Hf {w:World}{g:Nat}{t:TypeId}{a0 a1 a2:Value}(h:w.heap[g]? = some (.cells #[a0,a1,a2] t (0,0))):w.frozen? ⟨g,0,none⟩=false/\w.frozen? ⟨g,1,none⟩=false/\w.frozen? ⟨g,2,none⟩=false:=⟨lq h 0,lq h 1,lq h 2⟩
theorem aX {w:World}{g:Nat}{t:TypeId}{a0 a1 a2 a3 a4:Value}(h:w.heap[g]? = some (.cells #[a0,a1,a2,a3,a4] t (0,0))):w.cell? ⟨g,0,none⟩=some a0/\w.cell? ⟨g,1,none⟩=some a1/\w.cell? ⟨g,2,none⟩=some a2/\w.cell? ⟨g,3,none⟩=some a3/\w.cell? ⟨g,4,none⟩=some a4:=⟨(aH h 0).trans rfl,(aH h 1).trans rfl,(aH h 2).trans rfl,(aH h 3).trans rfl,(aH h 4).trans rfl⟩
theorem aZ {w:World}{g:Nat}{t:TypeId}{a0 a1 a2 a3 a4:Value}(h:w.heap[g]? = some (.cells #[a0,a1,a2,a3,a4] t (0,0))):w.frozen? ⟨g,0,none⟩=false/\w.frozen? ⟨g,1,none⟩=false/\w.frozen? ⟨g,2,none⟩=false/\w.frozen? ⟨g,3,none⟩=false/\w.frozen? ⟨g,4,none⟩=false:=⟨lq h 0,lq h 1,lq h 2,lq h 3,lq h 4⟩
theorem nR {w:World}{g:Nat}{t:TypeId}{a0 a1 a2 a3 a4 a5 a6:Value}(h:w.heap[g]? = some (.cells #[a0,a1,a2,a3,a4,a5,a6] t (0,0))):w.cell? ⟨g,0,none⟩=some a0/\w.cell? ⟨g,1,none⟩=some a1/\w.cell? ⟨g,2,none⟩=some a2/\w.cell? ⟨g,3,none⟩=some a3/\w.cell? ⟨g,4,none⟩=some a4/\w.cell? ⟨g,5,none⟩=some a5/\w.cell? ⟨g,6,none⟩=some a6:=⟨(aH h 0).trans rfl,(aH h 1).trans rfl,(aH h 2).trans rfl,(aH h 3).trans rfl,(aH h 4).trans rfl,(aH h 5).trans rfl,(aH h 6).trans rfl⟩
theorem oL {w:World}{g:Nat}{t:TypeId}{a0 a1 a2 a3 a4 a5 a6:Value}(h:w.heap[g]? = some (.cells #[a0,a1,a2,a3,a4,a5,a6] t (0,0))):w.frozen? ⟨g,0,none⟩=false/\w.frozen? ⟨g,1,none⟩=false/\w.frozen? ⟨g,2,none⟩=false/\w.frozen? ⟨g,3,none⟩=false/\w.frozen? ⟨g,4,none⟩=false/\w.frozen? ⟨g,5,none⟩=false/\w.frozen? ⟨g,6,none⟩=false:=⟨lq h 0,lq h 1,lq h 2,lq h 3,lq h 4,lq h 5,lq h 6⟩
abbrev tT:Bool:=true
abbrev fF:Bool:=false
section
variable {P:Program}{md:Region.Mode}{ops:Array Oper}{Q:Exit->Act->World->Prop}{S:World->Prop}{ds:List Nat}{T:Bool×List (List Nat×List Nat)}{B:List Nat}
theorem fP {fuel:Nat}{l:Array Bool}{a:Act}{w:World}{oi:Oper}{v:Value}{a':Act}(HT:Aside0 (ji md ops=T))(HW:Aside0 (o_ T.2 B=true))(hS:S w)(i:Nat)(N:Option Tmp)(l':Array Bool)(h:kM P md ops Q S ds fuel l' a' w)
  (hi:ops[i]? = some oi:=by exact rfl) (hN:oi.dst=N:=by exact rfl) (hc:qey T B ds l.toList l'.toList i=true:=by kernel_rfl) (hQ:∀ c a w,Q (.panic c) (a.put oi.dst v) w->Q (.panic c) a w:=by exact fun _ _ _ h=>h)
  (hy:YieldsIf P ops S oi v a:=by exact Or.inl ⟨by rfl,by intro w' hs;(repeat(obtain⟨s_,hs⟩:=hs));go_simp;with_reducible rfl⟩) (ha:a.put N v=a':=by simp only[Act.put,List.setIfInBounds_toArray,List.set_cons_zero,List.set_cons_succ,nM,pO];rfl) :
  kM P md ops Q S ds (fuel+1) l a w:=Jv l' hi hN (qBp HT.out HW.out hc) hQ hy hS ha h
theorem jE {fuel:Nat}{l:Array Bool}{a:Act}{w:World}{oi:Oper}{a':Act}(HT:Aside0 (ji md ops=T))(i:Nat)(N:Option Tmp)(l':Array Bool)(h:kM P md ops Q S ds fuel l' a' w)
  (hi:ops[i]? = some oi:=by exact rfl) (hN:oi.dst=N:=by exact rfl) (hc:Xz T l.toList l'.toList i=true:=by kernel_rfl) (hQ:∀ c a w,Q (.panic c) (a.put oi.dst undef) w->Q (.panic c) a w:=by exact fun _ _ _ h=>h)
  (hy:Yields P ops oi undef a:=by exact Or.inr ⟨by rfl,rfl⟩) (ha:a.put N undef=a':=by simp only[Act.put,List.setIfInBounds_toArray,List.set_cons_zero,List.set_cons_succ,nM,pO];rfl) :
  kM P md ops Q S ds (fuel+1) l a w:=BG l' hi hN (qgi HT.out hc) hQ hy ha h
end
theorem dS {w W:World}{g g':Nat}{o:Obj}(hg:g'=W.heap.size)(h:w.heap[g]? = some o)(hh:w.heap[g]? = some o->W.heap[g]? = some o:=by intro h_;(with_reducible repeat(first|refine dn ?_ _|refine bG ?_|refine cO ?_ _));exact h_):g≠g':=by rw[hg];exact Nat.ne_of_lt (vU (hh h))
theorem fJ {w W:World}{g g':Nat}{o:Obj}(hg:g'=W.heap.size)(h:w.heap[g]? = some o)(hh:w.heap[g]? = some o->W.heap[g]? = some o:=by intro h_;(with_reducible repeat(first|refine dn ?_ _|refine bG ?_|refine cO ?_ _));exact h_):g'≠g:=by rw[hg];exact Nat.ne_of_gt (vU (hh h))
theorem nS {w:World}{g g':Nat}{t:TypeId}{cs:Array Value}{j0 j1:Nat}(h:w.heap[g]? = some (.cells cs t (0,0)))(hne:g≠g')(a0 a1:Value):((w.setCell ⟨g',j0,none⟩ a0).setCell ⟨g',j1,none⟩ a1).heap[g]? = some (.cells cs t (0,0)):=(eU (p:=⟨g',j1,none⟩) (eU (p:=⟨g',j0,none⟩) h hne _) hne _)
theorem p3_ {w:World}{g:Nat}{t:TypeId}{b0 b1 b2:Value}(h:w.heap[g]? = some (.cells #[b0,b1,b2] t (0,0)))(a0 a1 a2:Value):(((w.setCell ⟨g,0,none⟩ a0).setCell ⟨g,1,none⟩ a1).setCell ⟨g,2,none⟩ a2).heap[g]? = some (.cells #[a0,a1,a2] t (0,0)):=(dG (cs:=#[a0,a1,b2]) (dG (cs:=#[a0,b1,b2]) (dG (cs:=#[b0,b1,b2]) h 0 _ rfl) 1 _ rfl) 2 _ rfl)
theorem jT {w:World}{g g':Nat}{t:TypeId}{cs:Array Value}{j0 j1 j2:Nat}(h:w.heap[g]? = some (.cells cs t (0,0)))(hne:g≠g')(a0 a1 a2:Value):(((w.setCell ⟨g',j0,none⟩ a0).setCell ⟨g',j1,none⟩ a1).setCell ⟨g',j2,none⟩ a2).heap[g]? = some (.cells cs t (0,0)):=(eU (p:=⟨g',j2,none⟩) (eU (p:=⟨g',j1,none⟩) (eU (p:=⟨g',j0,none⟩) h hne _) hne _) hne _)
theorem nT {w:World}{g g':Nat}{t:TypeId}{cs:Array Value}{j0 j1 j2 j3:Nat}(h:w.heap[g]? = some (.cells cs t (0,0)))(hne:g≠g')(a0 a1 a2 a3:Value):((((w.setCell ⟨g',j0,none⟩ a0).setCell ⟨g',j1,none⟩ a1).setCell ⟨g',j2,none⟩ a2).setCell ⟨g',j3,none⟩ a3).heap[g]? = some (.cells cs t (0,0)):=(eU (p:=⟨g',j3,none⟩) (eU (p:=⟨g',j2,none⟩) (eU (p:=⟨g',j1,none⟩) (eU (p:=⟨g',j0,none⟩) h hne _) hne _) hne _) hne _)
theorem LU {w:World}{g:Nat}{t:TypeId}{b0 b1 b2 b3 b4:Value}(h:w.heap[g]? = some (.cells #[b0,b1,b2,b3,b4] t (0,0)))(a0 a1 a2 a3 a4:Value):(((((w.setCell ⟨g,0,none⟩ a0).setCell ⟨g,1,none⟩ a1).setCell ⟨g,2,none⟩ a2).setCell ⟨g,3,none⟩ a3).setCell ⟨g,4,none⟩ a4).heap[g]? = some (.cells #[a0,a1,a2,a3,a4] t (0,0)):=(dG (cs:=#[a0,a1,a2,a3,b4]) (dG (cs:=#[a0,a1,a2,b3,b4]) (dG (cs:=#[a0,a1,b2,b3,b4]) (dG (cs:=#[a0,b1,b2,b3,b4]) (dG (cs:=#[b0,b1,b2,b3,b4]) h 0 _ rfl) 1 _ rfl) 2 _ rfl) 3 _ rfl) 4 _ rfl)
theorem jf {w:World}{g g':Nat}{t:TypeId}{cs:Array Value}{j0 j1 j2 j3 j4:Nat}(h:w.heap[g]? = some (.cells cs t (0,0)))(hne:g≠g')(a0 a1 a2 a3 a4:Value):(((((w.setCell ⟨g',j0,none⟩ a0).setCell ⟨g',j1,none⟩ a1).setCell ⟨g',j2,none⟩ a2).setCell ⟨g',j3,none⟩ a3).setCell ⟨g',j4,none⟩ a4).heap[g]? = some (.cells cs t (0,0)):=(eU (p:=⟨g',j4,none⟩) (eU (p:=⟨g',j3,none⟩) (eU (p:=⟨g',j2,none⟩) (eU (p:=⟨g',j1,none⟩) (eU (p:=⟨g',j0,none⟩) h hne _) hne _) hne _) hne _) hne _)
theorem tV {α:Type}{d:Kd α}{e base:Nat}{ok:Nat->Prop}{w:World}{g:Nat}{t:TypeId}{v:Value}{xs:List α}{cs:Array Value}(h:d.R e w base ok v xs)(hb:w.heap[g]? = some (.cells cs t (0,0)))(ht:∀ q,q∈e::d.E->q≠t)(a0 a1 a2 a3 a4:Value):d.R e (((((w.setCell ⟨g,0,none⟩ a0).setCell ⟨g,1,none⟩ a1).setCell ⟨g,2,none⟩ a2).setCell ⟨g,3,none⟩ a3).setCell ⟨g,4,none⟩ a4) base ok v xs:=Kd.dV (Kd.bD (p:=⟨g,4,none⟩) (Kd.bD (p:=⟨g,3,none⟩) (Kd.bD (p:=⟨g,2,none⟩) (Kd.bD (p:=⟨g,1,none⟩) (Kd.bD (p:=⟨g,0,none⟩) (Kd.jO h hb ht) (fun _ hk=>hk.2) _) (fun _ hk=>hk.2) _) (fun _ hk=>hk.2) _) (fun _ hk=>hk.2) _) (fun _ hk=>hk.2) _) (fun _ hk=>hk.1)
theorem p7_ {w:World}{g:Nat}{t:TypeId}{b0 b1 b2 b3 b4 b5 b6:Value}(h:w.heap[g]? = some (.cells #[b0,b1,b2,b3,b4,b5,b6] t (0,0)))(a0 a1 a2 a3 a4 a5 a6:Value):(((((((w.setCell ⟨g,0,none⟩ a0).setCell ⟨g,1,none⟩ a1).setCell ⟨g,2,none⟩ a2).setCell ⟨g,3,none⟩ a3).setCell ⟨g,4,none⟩ a4).setCell ⟨g,5,none⟩ a5).setCell ⟨g,6,none⟩ a6).heap[g]? = some (.cells #[a0,a1,a2,a3,a4,a5,a6] t (0,0)):=(dG (cs:=#[a0,a1,a2,a3,a4,a5,b6]) (dG (cs:=#[a0,a1,a2,a3,a4,b5,b6]) (dG (cs:=#[a0,a1,a2,a3,b4,b5,b6]) (dG (cs:=#[a0,a1,a2,b3,b4,b5,b6]) (dG (cs:=#[a0,a1,b2,b3,b4,b5,b6]) (dG (cs:=#[a0,b1,b2,b3,b4,b5,b6]) (dG (cs:=#[b0,b1,b2,b3,b4,b5,b6]) h 0 _ rfl) 1 _ rfl) 2 _ rfl) 3 _ rfl) 4 _ rfl) 5 _ rfl) 6 _ rfl)
theorem Qp {w:World}{g g':Nat}{t:TypeId}{cs:Array Value}{j0 j1 j2 j3 j4 j5 j6:Nat}(h:w.heap[g]? = some (.cells cs t (0,0)))(hne:g≠g')(a0 a1 a2 a3 a4 a5 a6:Value):(((((((w.setCell ⟨g',j0,none⟩ a0).setCell ⟨g',j1,none⟩ a1).setCell ⟨g',j2,none⟩ a2).setCell ⟨g',j3,none⟩ a3).setCell ⟨g',j4,none⟩ a4).setCell ⟨g',j5,none⟩ a5).setCell ⟨g',j6,none⟩ a6).heap[g]? = some (.cells cs t (0,0)):=(eU (p:=⟨g',j6,none⟩) (eU (p:=⟨g',j5,none⟩) (eU (p:=⟨g',j4,none⟩) (eU (p:=⟨g',j3,none⟩) (eU (p:=⟨g',j2,none⟩) (eU (p:=⟨g',j1,none⟩) (eU (p:=⟨g',j0,none⟩) h hne _) hne _) hne _) hne _) hne _) hne _) hne _)
end Go.Proofs.Ythmjimboajmhmaa.Pr

namespace Go.Proofs.Ythmjimboajmhmaa.Pr
open Go.RowKit Go.Proofs.YthmjimboajmhmaaW.PrintWords Go.Proofs.YthmjimboajmhmaaW.PrintLast Go.Proofs.YthmjimboajmhmaaW.PrintMore
attribute [local go_sem] zF zJ zI zM zH zL zG zK   -- for this text's walks alone
set_option linter.unusedVariables false
set_option linter.unusedSimpArgs false
mutual
def fQ.l0:Nat->List (aN)->List Bool->Int->List Int->Int->Option (Int)
 | 0,_,_,_,_,_=>none
 | k+1,x0,x1,x2,x7,x8=>if x8<8 then (if x7.length<17592186044416 then (fQ.l0 k x0 x1 x2 (x7 ++ [(-1)]) (wrap64 (x8+1))) else (none)) else (if 0<(x7.length:Int) then (fQ.l1 k x0 x1 x2 (x7.set (0:Int).toNat 0) true) else (none))
def fQ.l1:Nat->List (aN)->List Bool->Int->List Int->Bool->Option (Int)
 | 0,_,_,_,_,_=>none
 | k+1,x0,x1,x2,x7,x9=>if x9=true then (fQ.l2 k x0 x1 x2 x7 false 0) else (if 0<=x2 then (if x2<(x7.length:Int) then (some (rd x7 x2)) else (none)) else (none))
def fQ.l2:Nat->List (aN)->List Bool->Int->List Int->Bool->Int->Option (Int)
 | 0,_,_,_,_,_,_=>none
 | k+1,x0,x1,x2,x7,x9,x10=>if x10<(x0.length:Int) then (if 0<=x10 then (if 0<=((aj x0 x10).f0) then (if ((aj x0 x10).f0)<(x1.length:Int) then (if (fE false x1 ((aj x0 x10).f0)=true) then (if 0<=((aj x0 x10).f1) then (if ((aj x0 x10).f1)<(x1.length:Int) then (fQ.j3 k x0 x1 x2 x7 x9 x10 ((aj x0 x10).f0) ((aj x0 x10).f1) (!(fE false x1 ((aj x0 x10).f1)))) else (none)) else (none)) else (fQ.j3 k x0 x1 x2 x7 x9 x10 ((aj x0 x10).f0) ((aj x0 x10).f1) true)) else (none)) else (none)) else (none)) else (fQ.l1 k x0 x1 x2 x7 x9)
def fQ.j3:Nat->List (aN)->List Bool->Int->List Int->Bool->Int->Int->Int->Bool->Option (Int)
 | 0,_,_,_,_,_,_,_,_,_=>none
 | k+1,x0,x1,x2,x7,x9,x10,x11,x12,x53=>if x53=true then (fQ.l2 k x0 x1 x2 x7 x9 (wrap64 (x10+1))) else (if 0<=x11 then (if x11<(x7.length:Int) then (if 0<=x10 then (if x10<(x0.length:Int) then (if (rd x7 x11) >= 0 then (if 0<=x12 then (if x12<(x7.length:Int) then (if (rd x7 x12)<0 then (fQ.j4 k x0 x1 x2 x7 x9 x10 x11 x12 (wrap64 ((rd x7 x11)+((aj x0 x10).f2))) true) else (fQ.j4 k x0 x1 x2 x7 x9 x10 x11 x12 (wrap64 ((rd x7 x11)+((aj x0 x10).f2))) (decide ((wrap64 ((rd x7 x11)+((aj x0 x10).f2)))<(rd x7 x12))))) else (none)) else (none)) else (fQ.j4 k x0 x1 x2 x7 x9 x10 x11 x12 (wrap64 ((rd x7 x11)+((aj x0 x10).f2))) false)) else (none)) else (none)) else (none)) else (none))
def fQ.j4:Nat->List (aN)->List Bool->Int->List Int->Bool->Int->Int->Int->Int->Bool->Option (Int)
 | 0,_,_,_,_,_,_,_,_,_,_=>none
 | k+1,x0,x1,x2,x7,x9,x10,x11,x12,zX,x83=>if x83=true then (if 0<=x12 then (if x12<(x7.length:Int) then ((some (x7.set (x12:Int).toNat zX:List Int)).bind fun Ij=>(if 0<=x10 then (if x10<(x0.length:Int) then (if (rd Ij x12) >= 0 then (if 0<=x11 then (if x11<(x7.length:Int) then (if (rd Ij x11)<0 then (fQ.l2 k x0 x1 x2 (Ij.set (x11:Int).toNat (wrap64 ((rd Ij x12)+((aj x0 x10).f2)))) true (wrap64 (x10+1))) else (if (wrap64 ((rd Ij x12)+((aj x0 x10).f2)))<(rd Ij x11) then (fQ.l2 k x0 x1 x2 (Ij.set (x11:Int).toNat (wrap64 ((rd Ij x12)+((aj x0 x10).f2)))) true (wrap64 (x10+1))) else (fQ.l2 k x0 x1 x2 Ij true (wrap64 (x10+1))))) else (none)) else (none)) else (fQ.l2 k x0 x1 x2 Ij true (wrap64 (x10+1)))) else (none)) else (none))) else (none)) else (none)) else (if 0<=x12 then (if x12<(x7.length:Int) then (if 0<=x10 then (if x10<(x0.length:Int) then (if (rd x7 x12) >= 0 then (if 0<=x11 then (if x11<(x7.length:Int) then (if (rd x7 x11)<0 then (fQ.l2 k x0 x1 x2 (x7.set (x11:Int).toNat (wrap64 ((rd x7 x12)+((aj x0 x10).f2)))) true (wrap64 (x10+1))) else (if (wrap64 ((rd x7 x12)+((aj x0 x10).f2)))<(rd x7 x11) then (fQ.l2 k x0 x1 x2 (x7.set (x11:Int).toNat (wrap64 ((rd x7 x12)+((aj x0 x10).f2)))) true (wrap64 (x10+1))) else (fQ.l2 k x0 x1 x2 x7 x9 (wrap64 (x10+1))))) else (none)) else (none)) else (fQ.l2 k x0 x1 x2 x7 x9 (wrap64 (x10+1)))) else (none)) else (none)) else (none)) else (none))
end
def fQ.f (k:Nat)(l0:List (aN))(l1:List Bool)(a2:Int):Option (Int):=fQ.l0 k l0 l1 a2 (([]:List Int)) 0
def vF (F:List Int)(a b t:Int):Bool:=decide (rd F a >= 0/\(rd F b<0\/wrap64 (rd F a+t)<rd F b))
def oZ (F:List Int)(a b t:Int):List Int:=if vF F a b t=true then F.set b.toNat (wrap64 (rd F a+t)) else F
theorem qm8 (F:List Int)(a b t:Int):(oZ F a b t).length=F.length:=by unfold oZ;split <;> simp
theorem OE {F:List Int}{a b t:Int}(h:rd F a >= 0)(h2:rd F b<0\/wrap64 (rd F a+t)<rd F b):vF F a b t=true/\oZ F a b t=F.set b.toNat (wrap64 (rd F a+t)):=by
 have e:vF F a b t=true:=decide_eq_true ⟨h,h2⟩;exact⟨e,by unfold oZ;rw[if_pos e]⟩
theorem OG {F:List Int}{a b t:Int}(h:¬ (rd F a >= 0/\(rd F b<0\/wrap64 (rd F a+t)<rd F b))):vF F a b t=false/\oZ F a b t=F:=by
 have e:vF F a b t=false:=decide_eq_false h;exact⟨e,by unfold oZ;rw[if_neg (by rw[e];decide)]⟩
section
variable {l:List aN}{v:List Bool}{p r:Int}
theorem qdu {k:Nat}{F:List Int}{ag:Bool}{i a b:Int}{c:Bool}(ha:0<=a/\a<(F.length:Int))(H:fQ.j4 (k+1) l v p F ag i a b (wrap64 (rd F a+(aj l i).f2)) c=some r)(hc:vF F a b (aj l i).f2=c) :
  (0<=b/\b<(F.length:Int))/\fQ.l2 k l v p (oZ (oZ F a b (aj l i).f2) b a (aj l i).f2) (ag||c||vF (oZ F a b (aj l i).f2) b a (aj l i).f2) (wrap64 (i+1))=some r:=by
 have tail:∀ (G:List Int) (Xx:Bool),G.length=F.length->(if 0<=i then (if i<(l.length:Int) then (if rd G b >= 0 then (if 0<=a then (if a<(F.length:Int) then (if rd G a<0 then (fQ.l2 k l v p (G.set a.toNat (wrap64 (rd G b+(aj l i).f2))) true (wrap64 (i+1))) else (if wrap64 (rd G b+(aj l i).f2)<rd G a then (fQ.l2 k l v p (G.set a.toNat (wrap64 (rd G b+(aj l i).f2))) true (wrap64 (i+1))) else (fQ.l2 k l v p G Xx (wrap64 (i+1))))) else none) else none) else (fQ.l2 k l v p G Xx (wrap64 (i+1)))) else none) else none)=some r ->
   fQ.l2 k l v p (oZ G b a (aj l i).f2) (Xx||vF G b a (aj l i).f2) (wrap64 (i+1))=some r:=by
  intro G Xx hG h
  split at h
  .
   split at h
   .
    by_cases q:rd G b >= 0
    .
     rw[if_pos q,if_pos ha.1,if_pos ha.2] at h;by_cases q2:rd G a<0
     .
      rw[if_pos q2] at h;obtain⟨e1,e2⟩:=OE (t:=(aj l i).f2) q (.inl q2);rw[e1,e2,Bool.or_true];exact h
     .
      rw[if_neg q2] at h;by_cases q3:wrap64 (rd G b+(aj l i).f2)<rd G a
      .
       rw[if_pos q3] at h;obtain⟨e1,e2⟩:=OE (t:=(aj l i).f2) q (.inr q3);rw[e1,e2,Bool.or_true];exact h
      .
       rw[if_neg q3] at h;obtain⟨e1,e2⟩:=OG (t:=(aj l i).f2) (F:=G) (a:=b) (b:=a) (fun z=>z.2.elim q2 q3);rw[e1,e2,Bool.or_false];exact h
    .
     rw[if_neg q] at h;obtain⟨e1,e2⟩:=OG (t:=(aj l i).f2) (F:=G) (a:=b) (b:=a) (fun z=>q z.1);rw[e1,e2,Bool.or_false];exact h
   .
    cases h
  .
   cases h
 have e:=tail (oZ F a b (aj l i).f2) (ag||c) (qm8 _ _ _ _);simp only[fQ.j4] at H
 cases c with
 | true=>
  rw[if_pos rfl] at H
  split at H
  .
   rename_i hb0
   split at H
   .
    rename_i hb1
    have hS:oZ F a b (aj l i).f2=F.set b.toNat (wrap64 (rd F a+(aj l i).f2)):=by unfold oZ;rw[if_pos hc]
    rw[Option.bind_some,<- hS] at H;rw[Bool.or_true] at e ⊢;exact⟨⟨hb0,hb1⟩,e H⟩
   .
    cases H
  .
   cases H
 | false=>
  rw[if_neg (by decide)] at H
  split at H
  .
   rename_i hb0
   split at H
   .
    rename_i hb1
    have hS:oZ F a b (aj l i).f2=F:=by unfold oZ;rw[if_neg (by rw[hc];decide)]
    rw[hS] at e ⊢;rw[Bool.or_false] at e ⊢;exact⟨⟨hb0,hb1⟩,e H⟩
   .
    cases H
  .
   cases H
theorem qz9 {k:Nat}{F:List Int}{ag:Bool}{i a b:Int}(H:fQ.j3 (k+2) l v p F ag i a b false=some r) :
  (0<=a/\a<(F.length:Int))/\(0<=b/\b<(F.length:Int))/\fQ.l2 k l v p (oZ (oZ F a b (aj l i).f2) b a (aj l i).f2) (ag||vF F a b (aj l i).f2||vF (oZ F a b (aj l i).f2) b a (aj l i).f2) (wrap64 (i+1))=some r:=by
 simp only[fQ.j3] at H;rw[if_neg (by decide)] at H
 split at H
 .
  rename_i a0
  split at H
  .
   rename_i a1
   split at H
   .
    split at H
    .
     by_cases q:rd F a >= 0
     .
      rw[if_pos q] at H
      split at H
      .
       split at H
       .
        by_cases q2:rd F b<0
        .
         rw[if_pos q2] at H;obtain⟨e1,_⟩:=OE (t:=(aj l i).f2) q (.inl q2);obtain⟨h1,h2⟩:=qdu ⟨a0,a1⟩ H e1;rw[e1];exact⟨⟨a0,a1⟩,h1,h2⟩
        .
         rw[if_neg q2] at H
         have e1:vF F a b (aj l i).f2=decide (wrap64 (rd F a+(aj l i).f2)<rd F b):=by unfold vF;simp only[q,q2,true_and,false_or]
         obtain⟨h1,h2⟩:=qdu ⟨a0,a1⟩ H e1;rw[e1];exact⟨⟨a0,a1⟩,h1,h2⟩
       .
        cases H
      .
       cases H
     .
      rw[if_neg q] at H;obtain⟨e1,_⟩:=OG (t:=(aj l i).f2) (F:=F) (a:=a) (b:=b) (fun z=>q z.1);obtain⟨h1,h2⟩:=qdu ⟨a0,a1⟩ H e1;rw[e1];exact⟨⟨a0,a1⟩,h1,h2⟩
    .
     cases H
   .
    cases H
  .
   cases H
 .
  cases H
theorem qAd {k:Nat}{F:List Int}{ag:Bool}{i:Int}(hi:i<(l.length:Int))(H:fQ.l2 (k+1) l v p F ag i=some r) :
  0<=i/\(0<=(aj l i).f0/\(aj l i).f0<(v.length:Int))/\((fE false v (aj l i).f0=false/\∃ m,m<k+1/\fQ.l2 m l v p F ag (wrap64 (i+1))=some r)\/(fE false v (aj l i).f0=true/\(0<=(aj l i).f1/\(aj l i).f1<(v.length:Int))/\((fE false v (aj l i).f1=false/\∃ m,m<k+1/\fQ.l2 m l v p F ag (wrap64 (i+1))=some r)\/(fE false v (aj l i).f1=true/\(0<=(aj l i).f0/\(aj l i).f0<(F.length:Int))/\(0<=(aj l i).f1/\(aj l i).f1<(F.length:Int))/\∃ m,m<k+1/\fQ.l2 m l v p (oZ (oZ F (aj l i).f0 (aj l i).f1 (aj l i).f2) (aj l i).f1 (aj l i).f0 (aj l i).f2) (ag||vF F (aj l i).f0 (aj l i).f1 (aj l i).f2||vF (oZ F (aj l i).f0 (aj l i).f1 (aj l i).f2) (aj l i).f1 (aj l i).f0 (aj l i).f2) (wrap64 (i+1))=some r)))):=by
 simp only[fQ.l2] at H;rw[if_pos hi] at H
 have skip:∀ {k a b},fQ.j3 k l v p F ag i a b true=some r->∃ m,m<k+1/\fQ.l2 m l v p F ag (wrap64 (i+1))=some r:=fun {k a b} h=>by
  cases k with
  | zero=>simp[fQ.j3] at h
  | succ k=>exact⟨k,by omega,by simpa only [fQ.j3,if_pos] using h⟩
 split at H
 .
  rename_i i0
  split at H
  .
   rename_i a0
   split at H
   .
    rename_i a1;refine⟨i0,⟨a0,a1⟩,?_⟩;by_cases va:fE false v (aj l i).f0=true
    .
     rw[if_pos va] at H;refine .inr ⟨va,?_⟩
     split at H
     .
      rename_i b0
      split at H
      .
       rename_i b1;refine⟨⟨b0,b1⟩,?_⟩
       cases vb:fE false v (aj l i).f1 with
       | false=>
        rw[vb] at H;exact .inl ⟨rfl,skip H⟩
       | true=>
        rw[vb] at H;refine .inr ⟨rfl,?_⟩
        cases k with
        | zero=>simp[fQ.j3] at H
        | succ k=>
         cases k with
         | zero=>
          exfalso
          simp only[fQ.j3,fQ.j4] at H
          repeat' (first|(cases H;done)|split at H)
         | succ k=>
          obtain⟨h1,h2,h3⟩:=qz9 H;exact⟨h1,h2,k,by omega,h3⟩
      .
       cases H
     .
      cases H
    .
     rw[if_neg va] at H;exact .inl ⟨Bool.eq_false_iff.mpr va,skip H⟩
   .
    cases H
  .
   cases H
 .
  cases H
end
set_option maxHeartbeats 64000000 in
set_option maxRecDepth 100000 in
theorem fQ.calls (k:Nat)(A0:Option Addr)(c0:Nat)(l0:List (aN))(A1:Option Addr)(c1:Nat)(l1:List Bool)(a2:Int)(r:Int)(w:World)(hr0:Kd.C k37 w A0 l0.length l0)(hc0:l0.length<=c0)(hr1:Kd.C Kd.bool w A1 l1.length l1)(hc1:l1.length<=c1)(h:fQ.f k l0 l1 a2=some r) :
  Calls Try.prog 88 #[.slice A0 l0.length c0,.slice A1 l1.length c1,.int .i64 a2] w fun e w'=>e=.returned (.int .i64 r)/\Below w.heap.size w w':=by
 have HR0:=ak hr0;have HR1:=ak hr1;clear hr0 hr1;have HB:=ak (Below.refl w.heap.size w)
 obtain⟨E,hE⟩:∃ z:List Int,z=[]:=⟨_,rfl⟩
 have H:=ak (show fQ.l0 k l0 l1 a2 E 0=some r by rw[hE];exact h);clear h
 go_enter Try.func88,Try.ntmps88
 go_upto_block 0 with (first|((with_reducible refine bT (N:=15) rfl ?_);refine Kd.ru (Kd.int .i64) _ 3 ?hg (N:=15) ?hd (xs:=([]:List Int)) (inner:=[]) (ok:=fun _=>True) (iJ:=fun _=>True) ?hr ?hp (fun _ hk=>hk) trivial (Below.refl _ _) (Nat.le_refl _) (by simp) ?_;(case hd=>rfl);(case hg=>rfl);(case hr=>first|(go_simp;done)|(go_simp;rfl));(case hp=>exact(bW.none _ _));intro v_ wa ho hb iP je;clear iP je;rw[<- hE] at ho;have HO:=ak (Kd.fB ho (eG HB.out));replace HB:=ak (aU HB.out hb);clear hb ho))
 clear hE;(try simp only[Act.put,List.setIfInBounds_toArray,List.set_cons_zero,List.set_cons_succ])
 go_cut [7] (fun v7 dP=>∃ (F:List Int) (m:Nat),Aside0 (0<F.length/\fQ.l1 m l0 l1 a2 (F.set (0:Int).toNat 0) true=some r)/\Aside0 (Below w.heap.size w dP)/\Aside0 (Kd.R (Kd.int .i64) 3 dP w.heap.size (fun _=>True) v7 F))
 case first=>
  go_wp2_with fail
  go_loopg [7,8] k (fun m v7 v8 dP=>∃ (F:List Int) (j:Int),v8=.int .i64 j/\Aside0 (fQ.l0 m l0 l1 a2 F j=some r)/\Aside0 (Below w.heap.size w dP)/\Aside0 (Kd.R (Kd.int .i64) 3 dP w.heap.size (fun _=>True) v7 F))
  case atStart=>exact⟨E,0,rfl,H,HB,HO⟩
  case round=>
   clear HB HO H;obtain⟨F,j,rfl,H,HB,HO⟩:=hrel
   cases gk with
   | zero=>exact absurd H.out (by simp[fQ.l0])
   | succ gk=>
    have h:=H.out;clear H;simp only[fQ.l0] at h;by_cases hj:j<8
    .
     rw[if_pos hj] at h;have qj:decide (j<8)=true:=decide_eq_true hj;by_cases hl:F.length<17592186044416
     .
      rw[if_pos hl] at h;have HL:=ak hl;have H:=ak h;clear hl h hj
      go_wp2_with (first|((with_reducible refine EC (b:=.append) (xs:=#[.tmp 20,.tmp 21]) rfl ?_);at_builtin;refine Kd.J3 (Kd.int .i64) (w0:=w) w.heap.size rfl (.tmp 20) (.tmp 21) 60 3 (.int .i64 0) 8 rfl Try.underlying60 info3 rfl (by decide) (by omega) u7 F (-1) [.int .i64 (-1)] (fun _=>True) (fun _=>False) rfl rfl ?aP (fun _ hk=>hk.elim) ?aF ?aO ?aB ?aS ?aL ?_;(case aP=>exact rfl);(case aB=>exact HB.out);(case aF=>exact(fun _ _=>trivial));(case aO=>exact HO.out);(case aS=>exact(eG HB.out));(case aL=>have:=HL.out;omega);intro v7 wd ho hb hg hat;replace HB:=ak hb;have HN:=ak ho;clear HO ho hb hg hat))
      go_roundg gk
      case measure=>omega
      case rel=>exact⟨F ++ [-1],wrap64 (j+1),rfl,H,HB,HN⟩
     .
      rw[if_neg hl] at h;cases h
    .
     rw[if_neg hj] at h;have qj:decide (j<8)=false:=decide_eq_false hj;by_cases hl:0<(F.length:Int)
     .
      rw[if_pos hl] at h;have H:=ak (And.intro (show 0<F.length by omega) h);clear hl h hj;go_wp2_with fail;go_meet
      case rel=>exact⟨F,gk,H,HB,HO⟩
     .
      rw[if_neg hl] at h;cases h
 case rest=>
  clear H HB HO;obtain⟨F,m,H,HB,HO⟩:=hcut;obtain⟨g7,c7,e7,gb,gl,cl,HG⟩:=Kd.Uc HO.out H.out.1;subst e7;have GB:=ak gb;clear gb gl HG cl;obtain⟨hx,hf⟩:=Kd.rY 0 HO.out 0 (by omega) (by have:=H.out.1;omega);have q1:((0:Int)<(F.length:Int))=True:=eq_true (by have:=H.out.1;omega);have q2:(0<F.length)=True:=eq_true H.out.1;have q3:decide ((0:Int)<(F.length:Int))=true:=decide_eq_true (by have:=H.out.1;omega)
  obtain⟨n7,Yv⟩:∃ n,n=F.length:=⟨_,rfl⟩
  rw[<- Yv] at q1 q2 q3 HO;have HN7:=ak Yv;rw[<- Yv];clear Yv;replace hx:wc.cell? ⟨g7,0,none⟩=_:=hx;replace hf:wc.frozen? ⟨g7,0,none⟩=false:=hf
  go_upto_region 7 with fail

  have n0:=(Kd.J5 HO.out (0:Int) (0:Int)).1;replace n0:Kd.R (Kd.int .i64) 3 (wc.setCell ⟨g7,0,none⟩ (.int .i64 0)) w.heap.size (fun _=>True) (.slice (some ⟨g7,0,none⟩) n7 c7) (F.set (0:Int).toNat 0):=n0;have n1:Below w.heap.size w (wc.setCell ⟨g7,0,none⟩ (.int .i64 0)):=aK HB.out GB.out
  have n2:n7=(F.set (0:Int).toNat 0).length:=by rw[List.length_set];exact HN7.out
  have n3:=H.out.2;generalize F.set (0:Int).toNat 0=G at n0 n2 n3;clear hx hf q1 q2 q3 HO HB H HN7;generalize wc.setCell ⟨g7,0,none⟩ (.int .i64 0)=wd at n0 n1 ⊢;have HO:=ak n0;have HB:=ak n1;have HN:=ak n2;have H:=ak n3;clear n0 n1 n2 n3;go_wp2_with fail
  go_loopg [9] m (fun m v9 dP=>∃ (G:List Int) (ag:Bool),v9=.bool ag/\Aside0 (n7=G.length)/\Aside0 (fQ.l1 m l0 l1 a2 G ag=some r)/\Aside0 (Below w.heap.size w dP)/\Aside0 (Kd.R (Kd.int .i64) 3 dP w.heap.size (fun _=>True) (.slice (some ⟨g7,0,none⟩) n7 c7) G))
  case atStart=>exact⟨G,true,rfl,HN,H,HB,HO⟩
  case round=>
   clear HN H HB HO G;obtain⟨G,ag,rfl,HN,H,HB,HO⟩:=hrel
   cases gk with
   | zero=>exact absurd H.out (by simp[fQ.l1])
   | succ ko=>
    have h:=H.out;clear H;simp only[fQ.l1] at h
    cases ag with
    | false=>
     rw[if_neg (by decide)] at h;by_cases p0:0<=a2;rotate_left
     .
      rw[if_neg p0] at h;cases h
     rw[if_pos p0] at h;by_cases p1:a2<(G.length:Int);rotate_left
     .
      rw[if_neg p1] at h;cases h
     rw[if_pos p1] at h
     injection h with h
     obtain⟨hx,hf⟩:=Kd.rY 0 HO.out a2 p0 (by rw[HN.out];exact p1);replace hx:wr.cell? ⟨g7,a2.toNat,none⟩=some (.int .i64 (rd G a2)):=hx;rw[h] at hx;clear h hf;have q0:(0<=a2)=True:=eq_true p0;have q1:(a2<(n7:Int))=True:=eq_true (by rw[HN.out];exact p1);go_wp2_with fail;go_ret;exact⟨rfl,HB.out⟩
    | true=>
     rw[if_pos rfl] at h;have H:=ak h;clear h;go_wp2_with fail
     go_loopg [9,10] ko (fun m v9 v10 dP=>∃ (G:List Int) (ag:Bool) (i:Int),v9=.bool ag/\v10=.int .i64 i/\Aside0 (n7=G.length)/\Aside0 (m<=ko)/\Aside0 (fQ.l2 m l0 l1 a2 G ag i=some r)/\Aside0 (Below w.heap.size w dP)/\Aside0 (Kd.R (Kd.int .i64) 3 dP w.heap.size (fun _=>True) (.slice (some ⟨g7,0,none⟩) n7 c7) G))
     case atStart=>exact⟨G,false,0,rfl,rfl,HN,⟨Nat.le_refl _⟩,H,HB,HO⟩
     case round=>
      clear HN H HB HO G;obtain⟨G,ag,i,rfl,rfl,HN,HK,H,HB,HO⟩:=hrel
      cases gk with
      | zero=>exact absurd H.out (by simp[fQ.l2])
      | succ ki=>
       have h:=H.out;clear H;by_cases hi:i<(l0.length:Int);rotate_left
       .
        simp only[fQ.l2] at h;rw[if_neg hi] at h;have H:=ak h;clear h;have qi:decide (i<(l0.length:Int))=false:=decide_eq_false hi;clear hi;go_wp2_with fail
        go_roundg ki
        case measure=>have:=HK.out;omega
        case rel=>exact⟨G,ag,rfl,HN,H,HB,HO⟩
       have qi:decide (i<(l0.length:Int))=true:=decide_eq_true hi;obtain⟨i0,⟨a0,a1⟩,h⟩:=qAd hi h
       go_upto_region 13 with fail
       obtain⟨ad,e0,y0,y1,y2,y3,y4⟩:=uS HR0.out i i0 hi;cases e0;obtain⟨ae,e1,z0⟩:=Kd.oh HR1.out (aj l0 i).f0 a0 a1;cases e1;clear y3 y4
       have z1:∀ b1:0<=(aj l0 i).f1,(aj l0 i).f1<(l1.length:Int)->w.cell? (ae.add (aj l0 i).f1.toNat)=some (.bool (fE false l1 (aj l0 i).f1)):=fun b0 b1=>by
        obtain⟨ag,e1,z⟩:=Kd.oh HR1.out (aj l0 i).f1 b0 b1
        injection e1 with e1
        rw[e1];exact z
       generalize aj l0 i=y at y0 y1 y2 z0 z1 a0 a1 h;have Y0:=ak y0;have Y1:=ak y1;have Y2:=ak y2;have Z0:=ak z0;have Z1:=ak z1;have HH:=ak h;clear z0 z1 h qi y2;have q0:(0<=i)=True:=eq_true i0;have q1:(i<(l0.length:Int))=True:=eq_true hi;have I0:=ak (And.intro i0 hi);clear i0 hi;replace y0:=bn HB.out y0;replace y1:=bn HB.out y1
       go_quiet (fail)

       have hb:=Qg (Eq.refl (wr.drewN nq)) (Below.refl wr.heap.size wr);replace HB:=ak (aU HB.out hb);replace HO:=ak (Kd.dL HO.out hb);clear hb y0 y1;generalize wr.drewN nq=ws at HB HO ⊢;have a2':(0<=y.f0)=True:=eq_true a0;have a3':(y.f0<(l1.length:Int))=True:=eq_true a1;have z0:=bn HB.out Z0.out
       rcases HH.out with ⟨va,m,hm,h⟩|⟨va,⟨b0,b1⟩,hh⟩
       .
        rw[va] at z0;clear a0 a1 HH;go_wp2_with fail
        go_roundg m
        case measure=>omega
        case rel=>exact⟨G,ag,wrap64 (i+1),rfl,rfl,HN,⟨by have:=HK.out;omega⟩,⟨h⟩,HB,HO⟩
       rw[va] at z0;have b2':(0<=y.f1)=True:=eq_true b0;have b3':(y.f1<(l1.length:Int))=True:=eq_true b1;have z1:=bn HB.out (Z1.out b0 b1)
       rcases hh with ⟨vb,m,hm,h⟩|⟨vb,⟨c0',c1'⟩,⟨d0,d1⟩,m,hm,h⟩
       .
        rw[vb] at z1;clear a0 a1 b0 b1 HH;go_wp2_with fail
        go_roundg m
        case measure=>omega
        case rel=>exact⟨G,ag,wrap64 (i+1),rfl,rfl,HN,⟨by have:=HK.out;omega⟩,⟨h⟩,HB,HO⟩
       rw[vb] at z1;clear a0 a1 b0 b1 HH
       go_upto_region 15 with fail
       clear z0 z1 a3' b3';rw[<- HN.out] at c1' d1;have c3':(y.f0<(n7:Int))=True:=eq_true c1';have d3':(y.f1<(n7:Int))=True:=eq_true d1;have C0:=ak (And.intro c0' c1');have D0:=ak (And.intro d0 d1);have M0:=ak (And.intro hm h);clear c0' c1' d0 d1 hm h;obtain⟨hx,_⟩:=Kd.rY 0 HO.out y.f0 C0.out.1 C0.out.2;replace hx:ws.cell? ⟨g7,y.f0.toNat,none⟩=some (.int .i64 (rd G y.f0)):=hx;have y2:=bn HB.out Y2.out
       go_quiet (fail)
       have hb:=Qg (Eq.refl (ws.drewN nq)) (Below.refl ws.heap.size ws);replace HB:=ak (aU HB.out hb);replace HO:=ak (Kd.dL HO.out hb);clear hb hx y2;generalize ws.drewN nq=wt at HB HO ⊢
       go_upto_region 16 with fail
       (try simp only[Act.put,List.setIfInBounds_toArray,List.set_cons_zero,List.set_cons_succ])
       go_cut [83] (fun v83 dP=>v83=.bool (vF G y.f0 y.f1 y.f2)/\Aside0 (Below w.heap.size w dP)/\Aside0 (Kd.R (Kd.int .i64) 3 dP w.heap.size (fun _=>True) (.slice (some ⟨g7,0,none⟩) n7 c7) G))
       case first=>
        obtain⟨hx,hf⟩:=Kd.rY 0 HO.out y.f0 C0.out.1 C0.out.2;replace hx:wt.cell? ⟨g7,(y.f0).toNat,none⟩=some (.int .i64 (rd G y.f0)):=hx;obtain⟨hy,hg⟩:=Kd.rY 0 HO.out y.f1 D0.out.1 D0.out.2;replace hy:wt.cell? ⟨g7,(y.f1).toNat,none⟩=some (.int .i64 (rd G y.f1)):=hy;by_cases q:rd G y.f0 >= 0
        .
         have qa:decide (rd G y.f0 >= 0)=true:=decide_eq_true q;have qa':decide (0<=rd G y.f0)=true:=decide_eq_true q;by_cases q2:rd G y.f1<0
         .
          have qb:decide (rd G y.f1<0)=true:=decide_eq_true q2;obtain⟨e1,e2⟩:=OE (t:=y.f2) q (.inl q2);clear q q2;have E1:=ak e1;have E2:=ak e2;clear e1 e2;go_wp2_with fail;go_meet
          case rel=>exact⟨by rw[E1.out],HB,HO⟩
         .
          have qb:decide (rd G y.f1<0)=false:=decide_eq_false q2;by_cases q3:wrap64 (rd G y.f0+y.f2)<rd G y.f1
          .
           have qc:decide (wrap64 (rd G y.f0+y.f2)<rd G y.f1)=true:=decide_eq_true q3;obtain⟨e1,e2⟩:=OE (t:=y.f2) q (.inr q3);clear q q2 q3;have E1:=ak e1;have E2:=ak e2;clear e1 e2;go_wp2_with fail;go_meet
           case rel=>exact⟨by rw[E1.out],HB,HO⟩
          .
           have qc:decide (wrap64 (rd G y.f0+y.f2)<rd G y.f1)=false:=decide_eq_false q3;obtain⟨e1,e2⟩:=OG (t:=y.f2) (F:=G) (a:=y.f0) (b:=y.f1) (fun z=>z.2.elim q2 q3);clear q q2 q3;have E1:=ak e1;have E2:=ak e2;clear e1 e2;go_wp2_with fail;go_meet
           case rel=>exact⟨by rw[E1.out],HB,HO⟩
        .
         have qa:decide (rd G y.f0 >= 0)=false:=decide_eq_false q;have qa':decide (0<=rd G y.f0)=false:=decide_eq_false q;obtain⟨e1,e2⟩:=OG (t:=y.f2) (F:=G) (a:=y.f0) (b:=y.f1) (fun z=>q z.1);clear q;have E1:=ak e1;have E2:=ak e2;clear e1 e2;go_wp2_with fail;go_meet
         case rel=>exact⟨by rw[E1.out],HB,HO⟩
       case rest=>
        clear HB HO;obtain⟨rfl,HB,HO⟩:=hcut
        go_upto_if 83 with fail
        (try simp only[Act.put,List.setIfInBounds_toArray,List.set_cons_zero,List.set_cons_succ])
        go_cut [9] (fun v9 dP=>v9=.bool (ag||vF G y.f0 y.f1 y.f2)/\Aside0 (Below w.heap.size w dP)/\Aside0 (Kd.R (Kd.int .i64) 3 dP w.heap.size (fun _=>True) (.slice (some ⟨g7,0,none⟩) n7 c7) (oZ G y.f0 y.f1 y.f2)))
        case first=>
         cases e1:vF G y.f0 y.f1 y.f2 with
         | false=>
          have E1:=ak e1;have E2:=ak (show oZ G y.f0 y.f1 y.f2=G from by unfold oZ;rw[if_neg (by rw[e1];decide)]);go_wp2_with fail;go_meet
          case rel=>exact⟨by rw[E1.out,Bool.or_false],HB,⟨by rw[E2.out];exact HO.out⟩⟩
         | true=>
          have E1:=ak e1;have E2:=ak (show oZ G y.f0 y.f1 y.f2=_ from by unfold oZ;rw[if_pos e1]);obtain⟨hy,hg⟩:=Kd.rY 0 HO.out y.f1 D0.out.1 D0.out.2;replace hy:wc.cell? ⟨g7,(y.f1).toNat,none⟩=some (.int .i64 (rd G y.f1)):=hy;clear e1;go_wp2_with fail;go_meet
          case rel=>exact⟨by rw[E1.out,Bool.or_true],⟨aK HB.out GB.out⟩,⟨by rw[E2.out];exact(Kd.J5 HO.out y.f1 _).1⟩⟩
        case rest=>
         clear HB HO;obtain⟨rfl,HB,HO⟩:=hcut;have ZF:=ak (show n7=(oZ G y.f0 y.f1 y.f2).length by rw[qm8];exact HN.out);generalize oZ G y.f0 y.f1 y.f2=G1 at HO M0 ZF ⊢;generalize (ag||vF G y.f0 y.f1 y.f2)=ag1 at M0 ⊢;clear HN
         go_upto_region 19 with fail
         obtain⟨hx,_⟩:=Kd.rY 0 HO.out y.f1 D0.out.1 D0.out.2;replace hx:wc.cell? ⟨g7,y.f1.toNat,none⟩=some (.int .i64 (rd G1 y.f1)):=hx;have y2:=bn HB.out Y2.out
         go_quiet (fail)
         have hb:=Qg (Eq.refl (wc.drewN nq)) (Below.refl wc.heap.size wc);replace HB:=ak (aU HB.out hb);replace HO:=ak (Kd.dL HO.out hb);clear hb hx y2;generalize wc.drewN nq=wu at HB HO ⊢
         go_upto_region 20 with fail
         (try simp only[Act.put,List.setIfInBounds_toArray,List.set_cons_zero,List.set_cons_succ])
         go_cut [117] (fun v117 dP=>v117=.bool (vF G1 y.f1 y.f0 y.f2)/\Aside0 (Below w.heap.size w dP)/\Aside0 (Kd.R (Kd.int .i64) 3 dP w.heap.size (fun _=>True) (.slice (some ⟨g7,0,none⟩) n7 c7) G1))
         case first=>
          obtain⟨hx,hf⟩:=Kd.rY 0 HO.out y.f1 D0.out.1 D0.out.2;replace hx:wu.cell? ⟨g7,(y.f1).toNat,none⟩=some (.int .i64 (rd G1 y.f1)):=hx;obtain⟨hy,hg⟩:=Kd.rY 0 HO.out y.f0 C0.out.1 C0.out.2;replace hy:wu.cell? ⟨g7,(y.f0).toNat,none⟩=some (.int .i64 (rd G1 y.f0)):=hy;by_cases q:rd G1 y.f1 >= 0
          .
           have qa:decide (rd G1 y.f1 >= 0)=true:=decide_eq_true q;have qa':decide (0<=rd G1 y.f1)=true:=decide_eq_true q;by_cases q2:rd G1 y.f0<0
           .
            have qb:decide (rd G1 y.f0<0)=true:=decide_eq_true q2;obtain⟨e1,e2⟩:=OE (t:=y.f2) q (.inl q2);clear q q2;have E1:=ak e1;have E2:=ak e2;clear e1 e2;go_wp2_with fail;go_meet
            case rel=>exact⟨by rw[E1.out],HB,HO⟩
           .
            have qb:decide (rd G1 y.f0<0)=false:=decide_eq_false q2;by_cases q3:wrap64 (rd G1 y.f1+y.f2)<rd G1 y.f0
            .
             have qc:decide (wrap64 (rd G1 y.f1+y.f2)<rd G1 y.f0)=true:=decide_eq_true q3;obtain⟨e1,e2⟩:=OE (t:=y.f2) q (.inr q3);clear q q2 q3;have E1:=ak e1;have E2:=ak e2;clear e1 e2;go_wp2_with fail;go_meet
             case rel=>exact⟨by rw[E1.out],HB,HO⟩
            .
             have qc:decide (wrap64 (rd G1 y.f1+y.f2)<rd G1 y.f0)=false:=decide_eq_false q3;obtain⟨e1,e2⟩:=OG (t:=y.f2) (F:=G1) (a:=y.f1) (b:=y.f0) (fun z=>z.2.elim q2 q3);clear q q2 q3;have E1:=ak e1;have E2:=ak e2;clear e1 e2;go_wp2_with fail;go_meet
             case rel=>exact⟨by rw[E1.out],HB,HO⟩
          .
           have qa:decide (rd G1 y.f1 >= 0)=false:=decide_eq_false q;have qa':decide (0<=rd G1 y.f1)=false:=decide_eq_false q;obtain⟨e1,e2⟩:=OG (t:=y.f2) (F:=G1) (a:=y.f1) (b:=y.f0) (fun z=>q z.1);clear q;have E1:=ak e1;have E2:=ak e2;clear e1 e2;go_wp2_with fail;go_meet
           case rel=>exact⟨by rw[E1.out],HB,HO⟩
         case rest=>
          clear HB HO;obtain⟨rfl,HB,HO⟩:=hcut;obtain⟨hm,h⟩:=M0.out;clear M0
          cases e1:vF G1 y.f1 y.f0 y.f2 with
          | false=>
           rw[show oZ G1 y.f1 y.f0 y.f2=G1 from by unfold oZ;rw[if_neg (by rw[e1];decide)],e1,Bool.or_false] at h;have H:=ak h;clear h e1;go_wp2_with fail
           go_roundg m
           case measure=>omega
           case rel=>exact⟨G1,ag1,wrap64 (i+1),rfl,(by first|rfl|simp),ZF,⟨by have:=HK.out;omega⟩,H,HB,HO⟩
          | true=>
           rw[show oZ G1 y.f1 y.f0 y.f2=_ from by unfold oZ;rw[if_pos e1],e1,Bool.or_true] at h;have H:=ak h;obtain⟨hy,hg⟩:=Kd.rY 0 HO.out y.f0 C0.out.1 C0.out.2;replace hy:wc.cell? ⟨g7,(y.f0).toNat,none⟩=some (.int .i64 (rd G1 y.f0)):=hy;clear h e1;go_wp2_with fail
           go_roundg m
           case measure=>omega
           case rel=>exact⟨_,true,wrap64 (i+1),rfl,(by first|rfl|simp),⟨by rw[List.length_set];exact ZF.out⟩,⟨by have:=HK.out;omega⟩,H,⟨aK HB.out GB.out⟩,⟨(Kd.J5 HO.out y.f0 _).1⟩⟩
def jF.f (a0:Int)(a1:Int)(a2:Int):Option (Bool):=if a0 >= a1 then (some (decide (a0<=a2))) else (some false)
theorem jF.calls (a0:Int)(a1:Int)(a2:Int)(r:Bool)(w:World)(h:jF.f a0 a1 a2=some r) :
  Calls Try.prog 101 #[.int .i64 a0,.int .i64 a1,.int .i64 a2] w fun e w'=>e=.returned (.bool r)/\gu w w':=by
 have H:(if a0 >= a1 then (some (decide (a0<=a2))) else (some false))=some r:=h;clear h;by_cases c4:a0 >= a1
 .
  rw[if_pos c4] at H;have Aw:decide (a1<=a0)=true:=decide_eq_true c4;clear c4;obtain rfl:=Option.some.inj H
  go_enter Try.func101,Try.ntmps101
  go_wp2
  go_ret;exact⟨by first|rfl|(simp;done)|(simp[*];done),by repeat(first|exact gu.refl _|apply gu.step)⟩
 .
  rw[if_neg c4] at H;have Aw:decide (a1<=a0)=false:=decide_eq_false c4;clear c4;obtain rfl:=Option.some.inj H
  go_enter Try.func101,Try.ntmps101
  go_wp2
  go_ret;exact⟨by first|rfl|(simp;done)|(simp[*];done),by repeat(first|exact gu.refl _|apply gu.step)⟩
def qY.f (a0:Int):Option (Bool):=(jF.f a0 0 7).bind fun t105=>(some t105)
theorem qY.calls (a0:Int)(r:Bool)(w:World)(h:qY.f a0=some r) :
  Calls Try.prog 100 #[.int .i64 a0] w fun e w'=>e=.returned (.bool r)/\gu w w':=by
 have H:((jF.f a0 0 7).bind fun t105=>(some t105))=some r:=h;clear h;replace H:=Option.bind_eq_some_iff.mp H;obtain⟨t105,lC,H⟩:=H;replace H:(some t105)=some r:=H;have A2:=ak lC;clear lC;obtain rfl:=Option.some.inj H
 go_enter Try.func100,Try.ntmps100
 go_wp2_with (first|((with_reducible refine bZ (f:=101) rfl ?_);refine bY (some 4) Try.func101 #[.int .i64 a0,.int .i64 0,.int .i64 7] ?_;(with_reducible refine(jF.calls a0 0 7 t105 _ A2.out).mono ?_);rintro e w' ⟨rfl,⟨nd,rfl⟩⟩;refine⟨_,rfl,?_⟩))
 go_ret;exact⟨by first|rfl|(simp;done)|(simp[*];done),by repeat(first|exact gu.refl _|apply gu.step)⟩
def BI.f (a0:Int):Option (Bool):=(jF.f a0 0 359).bind fun t106=>(some t106)
theorem BI.calls (a0:Int)(r:Bool)(w:World)(h:BI.f a0=some r) :
  Calls Try.prog 120 #[.int .i64 a0] w fun e w'=>e=.returned (.bool r)/\gu w w':=by
 have H:((jF.f a0 0 359).bind fun t106=>(some t106))=some r:=h;clear h;replace H:=Option.bind_eq_some_iff.mp H;obtain⟨t106,lC,H⟩:=H;replace H:(some t106)=some r:=H;have A2:=ak lC;clear lC;obtain rfl:=Option.some.inj H
 go_enter Try.func120,Try.ntmps120
 go_wp2_with (first|((with_reducible refine bZ (f:=101) rfl ?_);refine bY (some 4) Try.func101 #[.int .i64 a0,.int .i64 0,.int .i64 359] ?_;(with_reducible refine(jF.calls a0 0 359 t106 _ A2.out).mono ?_);rintro e w' ⟨rfl,⟨nd,rfl⟩⟩;refine⟨_,rfl,?_⟩))
 go_ret;exact⟨by first|rfl|(simp;done)|(simp[*];done),by repeat(first|exact gu.refl _|apply gu.step)⟩
def CZ.f (fM:Int)(gB:Int)(gX:Int)(ay:Int)(aC:Int):Option (Bool):=(qY.f fM).bind fun t108=>(if t108=true then ((qY.f gB).bind fun t109=>(if t109=true then (if fM=gB then (some false) else ((jF.f gX 1 500).bind fun t110=>(if t110=true then ((BI.f ay).bind fun t111=>(if t111=true then ((jF.f aC (-90) 90).bind fun t112=>(some t112)) else (some false))) else (some false)))) else (some false))) else (some false))
theorem CZ.calls (fM:Int)(gB:Int)(gX:Int)(ay:Int)(aC:Int)(r:Bool)(w:World)(h:CZ.f fM gB gX ay aC=some r) :
  Calls Try.prog 106 #[.agg #[.int .i64 fM,.int .i64 gB,.int .i64 gX,.int .i64 ay,.int .i64 aC]] w fun e w'=>e=.returned (.bool r)/\Below w.heap.size w w':=by
 have zB:=Try.underlying37;have HB:=ak (Below.refl w.heap.size w);have H:((qY.f fM).bind fun t108=>(if t108=true then ((qY.f gB).bind fun t109=>(if t109=true then (if fM=gB then (some false) else ((jF.f gX 1 500).bind fun t110=>(if t110=true then ((BI.f ay).bind fun t111=>(if t111=true then ((jF.f aC (-90) 90).bind fun t112=>(some t112)) else (some false))) else (some false)))) else (some false))) else (some false)))=some r:=h;clear h;replace H:=Option.bind_eq_some_iff.mp H;obtain⟨t108,lC,H⟩:=H;replace H:(if t108=true then ((qY.f gB).bind fun t109=>(if t109=true then (if fM=gB then (some false) else ((jF.f gX 1 500).bind fun t110=>(if t110=true then ((BI.f ay).bind fun t111=>(if t111=true then ((jF.f aC (-90) 90).bind fun t112=>(some t112)) else (some false))) else (some false)))) else (some false))) else (some false))=some r:=H;have A2:=ak lC;clear lC;by_cases c3:t108=true
 .
  subst c3
  have H1:((qY.f gB).bind fun t109=>(if t109=true then (if fM=gB then (some false) else ((jF.f gX 1 500).bind fun t110=>(if t110=true then ((BI.f ay).bind fun t111=>(if t111=true then ((jF.f aC (-90) 90).bind fun t112=>(some t112)) else (some false))) else (some false)))) else (some false)))=some r:=by rw[if_pos rfl] at H;exact H
  clear H;have H:=H1;clear H1;replace H:=Option.bind_eq_some_iff.mp H;obtain⟨t109,nY,H⟩:=H;replace H:(if t109=true then (if fM=gB then (some false) else ((jF.f gX 1 500).bind fun t110=>(if t110=true then ((BI.f ay).bind fun t111=>(if t111=true then ((jF.f aC (-90) 90).bind fun t112=>(some t112)) else (some false))) else (some false)))) else (some false))=some r:=H;have A4:=ak nY;clear nY;by_cases c5:t109=true
  .
   subst c5
   have H1:(if fM=gB then (some false) else ((jF.f gX 1 500).bind fun t110=>(if t110=true then ((BI.f ay).bind fun t111=>(if t111=true then ((jF.f aC (-90) 90).bind fun t112=>(some t112)) else (some false))) else (some false))))=some r:=by rw[if_pos rfl] at H;exact H
   clear H;have H:=H1;clear H1;by_cases c6:fM=gB
   .
    rw[if_pos c6] at H;have uH:(fM==gB)=true:=beq_iff_eq.mpr c6;have II:(fM != gB)=false:=bne_eq_false_iff_eq.mpr c6;clear c6;obtain rfl:=Option.some.inj H
    go_enter Try.func106,Try.ntmps106
    go_wp2_with (first|((with_reducible refine bT (N:=1) rfl ?_);refine dN ?hg (N:=1) ?hd (cs:=#[.int .i64 fM,.int .i64 gB,.int .i64 gX,.int .i64 ay,.int .i64 aC]) (t:=37) ?hr ?_;(case hd=>rfl);(case hg=>rfl);(case hr=>first|(go_simp;done)|(go_simp;rfl));intro UH hg w7 hbox hb;have xg:=ak (hbox);have S_:=ak ((bH hg (bF HB.out)));have Ef:=ak ((bH hg (bF HB.out)));replace HB:=ak (aU (bF HB.out) hb);clear hb hbox hg;obtain⟨X_,Ya,Yb,qcc,qcd⟩:=aX xg.out;obtain⟨qcz,Yj,Yk,qc0,qc7⟩:=aZ xg.out)|((with_reducible refine bZ (f:=100) rfl ?_);refine bY (some 5) Try.func100 #[.int .i64 fM] ?_;(with_reducible refine(qY.calls fM true _ A2.out).mono ?_);rintro e w' ⟨rfl,⟨nd,rfl⟩⟩;refine⟨_,rfl,?_⟩)|(go_at_call 100;(with_reducible refine(qY.calls gB true _ A4.out).mono ?_);rintro e w' ⟨rfl,⟨nd,rfl⟩⟩))
    go_ret;exact⟨fO,bU HB.out Ef.out⟩
   .
    rw[if_neg c6] at H;have uH:(fM==gB)=false:=beq_eq_false_iff_ne.mpr c6;have II:(fM != gB)=true:=bne_iff_ne.mpr c6;replace H:=Option.bind_eq_some_iff.mp H;obtain⟨t110,zZ,H⟩:=H;replace H:(if t110=true then ((BI.f ay).bind fun t111=>(if t111=true then ((jF.f aC (-90) 90).bind fun t112=>(some t112)) else (some false))) else (some false))=some r:=H;have A9:=ak zZ;clear zZ;by_cases c10:t110=true
    .
     subst c10
     have H1:((BI.f ay).bind fun t111=>(if t111=true then ((jF.f aC (-90) 90).bind fun t112=>(some t112)) else (some false)))=some r:=by rw[if_pos rfl] at H;exact H
     clear H;have H:=H1;clear H1;replace H:=Option.bind_eq_some_iff.mp H;obtain⟨t111,JA,H⟩:=H;replace H:(if t111=true then ((jF.f aC (-90) 90).bind fun t112=>(some t112)) else (some false))=some r:=H;have Jz:=ak JA;clear JA;by_cases c12:t111=true
     .
      subst c12
      have H1:((jF.f aC (-90) 90).bind fun t112=>(some t112))=some r:=by rw[if_pos rfl] at H;exact H
      clear H;have H:=H1;clear H1;replace H:=Option.bind_eq_some_iff.mp H;obtain⟨t112,D8,H⟩:=H;replace H:(some t112)=some r:=H;have Ik:=ak D8;clear D8;obtain rfl:=Option.some.inj H
      go_enter Try.func106,Try.ntmps106
      go_wp2_with (first|((with_reducible refine bT (N:=1) rfl ?_);refine dN ?hg (N:=1) ?hd (cs:=#[.int .i64 fM,.int .i64 gB,.int .i64 gX,.int .i64 ay,.int .i64 aC]) (t:=37) ?hr ?_;(case hd=>rfl);(case hg=>rfl);(case hr=>first|(go_simp;done)|(go_simp;rfl));intro UH hg Wq hbox hb;have xg:=ak (hbox);have S_:=ak ((bH hg (bF HB.out)));have Ef:=ak ((bH hg (bF HB.out)));replace HB:=ak (aU (bF HB.out) hb);clear hb hbox hg;obtain⟨qh4,qh5,qh6,qh7,qh8⟩:=aX xg.out;obtain⟨qj3,qj4,qj5,qj6,qj7⟩:=aZ xg.out)|((with_reducible refine bZ (f:=100) rfl ?_);refine bY (some 5) Try.func100 #[.int .i64 fM] ?_;(with_reducible refine(qY.calls fM true _ A2.out).mono ?_);rintro e w' ⟨rfl,⟨nd,rfl⟩⟩;refine⟨_,rfl,?_⟩)|(go_at_call 100;(with_reducible refine(qY.calls gB true _ A4.out).mono ?_);rintro e w' ⟨rfl,⟨nd,rfl⟩⟩)|(go_at_call 101;(with_reducible refine(jF.calls gX 1 500 true _ A9.out).mono ?_);rintro e w' ⟨rfl,⟨nd,rfl⟩⟩)|(go_at_call 120;(with_reducible refine(BI.calls ay true _ Jz.out).mono ?_);rintro e w' ⟨rfl,⟨nd,rfl⟩⟩)|(go_at_call 101;(with_reducible refine(jF.calls aC (-90) 90 t112 _ Ik.out).mono ?_);rintro e w' ⟨rfl,⟨nd,rfl⟩⟩))
      go_ret;exact⟨fO,bU HB.out Ef.out⟩
     .
      replace c12:=Bool.eq_false_iff.mpr c12;subst c12
      have H1:(some false)=some r:=by rw[if_neg (show ¬ (false=true) by decide)] at H;exact H
      clear H;have H:=H1;clear H1;obtain rfl:=Option.some.inj H
      go_enter Try.func106,Try.ntmps106
      go_wp2_with (first|((with_reducible refine bT (N:=1) rfl ?_);refine dN ?hg (N:=1) ?hd (cs:=#[.int .i64 fM,.int .i64 gB,.int .i64 gX,.int .i64 ay,.int .i64 aC]) (t:=37) ?hr ?_;(case hd=>rfl);(case hg=>rfl);(case hr=>first|(go_simp;done)|(go_simp;rfl));intro UH hg w16 hbox hb;have xg:=ak (hbox);have S_:=ak ((bH hg (bF HB.out)));have Ef:=ak ((bH hg (bF HB.out)));replace HB:=ak (aU (bF HB.out) hb);clear hb hbox hg;obtain⟨Qs,Qu,Qv,Qw,Qx⟩:=aX xg.out;obtain⟨QS,QT,QU,QV,QW⟩:=aZ xg.out)|((with_reducible refine bZ (f:=100) rfl ?_);refine bY (some 5) Try.func100 #[.int .i64 fM] ?_;(with_reducible refine(qY.calls fM true _ A2.out).mono ?_);rintro e w' ⟨rfl,⟨nd,rfl⟩⟩;refine⟨_,rfl,?_⟩)|(go_at_call 100;(with_reducible refine(qY.calls gB true _ A4.out).mono ?_);rintro e w' ⟨rfl,⟨nd,rfl⟩⟩)|(go_at_call 101;(with_reducible refine(jF.calls gX 1 500 true _ A9.out).mono ?_);rintro e w' ⟨rfl,⟨nd,rfl⟩⟩)|(go_at_call 120;(with_reducible refine(BI.calls ay false _ Jz.out).mono ?_);rintro e w' ⟨rfl,⟨nd,rfl⟩⟩))
      go_ret;exact⟨fO,bU HB.out Ef.out⟩
    .
     replace c10:=Bool.eq_false_iff.mpr c10;subst c10
     have H1:(some false)=some r:=by rw[if_neg (show ¬ (false=true) by decide)] at H;exact H
     clear H;have H:=H1;clear H1;obtain rfl:=Option.some.inj H
     go_enter Try.func106,Try.ntmps106
     go_wp2_with (first|((with_reducible refine bT (N:=1) rfl ?_);refine dN ?hg (N:=1) ?hd (cs:=#[.int .i64 fM,.int .i64 gB,.int .i64 gX,.int .i64 ay,.int .i64 aC]) (t:=37) ?hr ?_;(case hd=>rfl);(case hg=>rfl);(case hr=>first|(go_simp;done)|(go_simp;rfl));intro UH hg Ws hbox hb;have xg:=ak (hbox);have S_:=ak ((bH hg (bF HB.out)));have Ef:=ak ((bH hg (bF HB.out)));replace HB:=ak (aU (bF HB.out) hb);clear hb hbox hg;obtain⟨DC,DF,DI,DJ,DK⟩:=aX xg.out;obtain⟨DL,DN,DR,DT,DU⟩:=aZ xg.out)|((with_reducible refine bZ (f:=100) rfl ?_);refine bY (some 5) Try.func100 #[.int .i64 fM] ?_;(with_reducible refine(qY.calls fM true _ A2.out).mono ?_);rintro e w' ⟨rfl,⟨nd,rfl⟩⟩;refine⟨_,rfl,?_⟩)|(go_at_call 100;(with_reducible refine(qY.calls gB true _ A4.out).mono ?_);rintro e w' ⟨rfl,⟨nd,rfl⟩⟩)|(go_at_call 101;(with_reducible refine(jF.calls gX 1 500 false _ A9.out).mono ?_);rintro e w' ⟨rfl,⟨nd,rfl⟩⟩))
     go_ret;exact⟨fO,bU HB.out Ef.out⟩
  .
   replace c5:=Bool.eq_false_iff.mpr c5;subst c5
   have H1:(some false)=some r:=by rw[if_neg (show ¬ (false=true) by decide)] at H;exact H
   clear H;have H:=H1;clear H1;obtain rfl:=Option.some.inj H
   go_enter Try.func106,Try.ntmps106
   go_wp2_with (first|((with_reducible refine bT (N:=1) rfl ?_);refine dN ?hg (N:=1) ?hd (cs:=#[.int .i64 fM,.int .i64 gB,.int .i64 gX,.int .i64 ay,.int .i64 aC]) (t:=37) ?hr ?_;(case hd=>rfl);(case hg=>rfl);(case hr=>first|(go_simp;done)|(go_simp;rfl));intro UH hg yc hbox hb;have xg:=ak (hbox);have S_:=ak ((bH hg (bF HB.out)));have Ef:=ak ((bH hg (bF HB.out)));replace HB:=ak (aU (bF HB.out) hb);clear hb hbox hg;obtain⟨qbx,qby,qbz,qb3,qb4⟩:=aX xg.out;obtain⟨qcm,qcn,qco,qcp,qcq⟩:=aZ xg.out)|((with_reducible refine bZ (f:=100) rfl ?_);refine bY (some 5) Try.func100 #[.int .i64 fM] ?_;(with_reducible refine(qY.calls fM true _ A2.out).mono ?_);rintro e w' ⟨rfl,⟨nd,rfl⟩⟩;refine⟨_,rfl,?_⟩)|(go_at_call 100;(with_reducible refine(qY.calls gB false _ A4.out).mono ?_);rintro e w' ⟨rfl,⟨nd,rfl⟩⟩))
   go_ret;exact⟨fO,bU HB.out Ef.out⟩
 .
  replace c3:=Bool.eq_false_iff.mpr c3;subst c3
  have H1:(some false)=some r:=by rw[if_neg (show ¬ (false=true) by decide)] at H;exact H
  clear H;have H:=H1;clear H1;obtain rfl:=Option.some.inj H
  go_enter Try.func106,Try.ntmps106
  go_wp2_with (first|((with_reducible refine bT (N:=1) rfl ?_);refine dN ?hg (N:=1) ?hd (cs:=#[.int .i64 fM,.int .i64 gB,.int .i64 gX,.int .i64 ay,.int .i64 aC]) (t:=37) ?hr ?_;(case hd=>rfl);(case hg=>rfl);(case hr=>first|(go_simp;done)|(go_simp;rfl));intro UH hg Y6 hbox hb;have xg:=ak (hbox);have S_:=ak ((bH hg (bF HB.out)));have Ef:=ak ((bH hg (bF HB.out)));replace HB:=ak (aU (bF HB.out) hb);clear hb hbox hg;obtain⟨Oa,Ob,Oc,Oe,Og⟩:=aX xg.out;obtain⟨Ov,Ox,Oy,Oz,OA⟩:=aZ xg.out)|((with_reducible refine bZ (f:=100) rfl ?_);refine bY (some 5) Try.func100 #[.int .i64 fM] ?_;(with_reducible refine(qY.calls fM false _ A2.out).mono ?_);rintro e w' ⟨rfl,⟨nd,rfl⟩⟩;refine⟨_,rfl,?_⟩))
  go_ret;exact⟨fO,bU HB.out Ef.out⟩
def sK.l0:Nat->List (aN)->Int->Option (Bool)
 | 0,_,_=>none
 | k+1,x0,x3=>if x3<(x0.length:Int) then (if 0<=x3 then ((CZ.f ((aj x0 x3).f0) ((aj x0 x3).f1) ((aj x0 x3).f2) ((aj x0 x3).f3) ((aj x0 x3).f4)).bind fun t114=>(if t114=true then (sK.l0 k x0 (wrap64 (x3+1))) else (some false))) else (none)) else (some (decide ((x0.length:Int)<=12)))
def sK.f (k:Nat)(l0:List (aN)):Option (Bool):=sK.l0 k l0 0
theorem sK.calls (k:Nat)(A0:Option Addr)(c0:Nat)(l0:List (aN))(r:Bool)(w:World)(hr0:Kd.C k37 w A0 l0.length l0)(hc0:l0.length<=c0)(h:sK.f k l0=some r) :
  Calls Try.prog 99 #[.slice A0 l0.length c0] w fun e w'=>e=.returned (.bool r)/\Below w.heap.size w w':=by
 have zB:=Try.underlying37;have HR0:=ak hr0;have yu:=ak hc0;clear hr0 hc0;have HB:=ak (Below.refl w.heap.size w);have H:(sK.l0 k l0 0)=some r:=h;clear h;have H':=ak H;clear H
 go_enter Try.func99,Try.ntmps99
 go_wp2
 go_loopg [3] k (fun kq v3 w'=>∃ (nO:Int),v3=.int .i64 nO/\Aside0 (sK.l0 kq l0 nO=some r)/\Aside0 (kq<=k)/\Aside0 (Below w.heap.size w w'))
 case atStart=>exact⟨(0),(by first|rfl|(simp;done)|(simp[*];done)),H',⟨Nat.le_refl _⟩,⟨bF HB.out⟩⟩
 case round=>
  clear H';obtain⟨nO,rfl,HA,qR,HB⟩:=hrel
  cases gk with
  | zero=>exact absurd HA.out (by simp[sK.l0])
  | succ k1=>
   have H:=HA.out;clear HA;simp only[sK.l0] at H;by_cases c2:nO<(l0.length:Int)
   .
    rw[if_pos c2] at H;have J9:decide (nO<(l0.length:Int))=true:=decide_eq_true c2;clear c2;by_cases c3:0<=nO
    .
     rw[if_pos c3] at H;have xO:decide (0<=nO)=true:=decide_eq_true c3;clear c3;replace H:=Option.bind_eq_some_iff.mp H;obtain⟨t114,nY,H⟩:=H;replace H:(if t114=true then (sK.l0 k1 l0 (wrap64 (nO+1))) else (some false))=some r:=H;have A4:=ak nY;clear nY;by_cases c5:t114=true
     .
      subst c5
      have H1:(sK.l0 k1 l0 (wrap64 (nO+1)))=some r:=by rw[if_pos rfl] at H;exact H
      clear H;have H:=H1;clear H1;have H':=ak H;clear H;have OH:0<=(nO:Int):=d_;have OY:nO<(l0.length:Int):=d_;obtain⟨qp4,e113,Vj,Vk,Vl,Vm,Vo⟩:=uS HR0.out nO OH OY;cases e113;replace Vj:=bn HB.out Vj;replace Vk:=bn HB.out Vk;replace Vl:=bn HB.out Vl;replace Vm:=bn HB.out Vm;replace Vo:=bn HB.out Vo;replace OH:=eq_true OH;replace OY:=eq_true OY
      go_wp2_with (first|((with_reducible refine bZ (f:=106) rfl ?_);refine bY (some 14) Try.func106 #[.agg #[.int .i64 ((aj l0 nO).f0),.int .i64 ((aj l0 nO).f1),.int .i64 ((aj l0 nO).f2),.int .i64 ((aj l0 nO).f3),.int .i64 ((aj l0 nO).f4)]] ?_;(with_reducible refine(CZ.calls ((aj l0 nO).f0) ((aj l0 nO).f1) ((aj l0 nO).f2) ((aj l0 nO).f3) ((aj l0 nO).f4) true _ A4.out).mono ?_);rintro e w6 ⟨rfl,hb⟩;refine⟨_,rfl,?_⟩;replace HB:=ak (aU (bF HB.out) hb);(try clear hb);(try clear hb2);(try clear hk);(try clear hi)))
      go_roundg k1
      case measure=>have:=qR.out;omega
      case rel=>exact⟨(wrap64 (nO+1)),(by first|rfl|(simp;done)|(simp[*];done)),H',⟨by have:=qR.out;omega⟩,⟨bF HB.out⟩⟩
     .
      replace c5:=Bool.eq_false_iff.mpr c5;subst c5
      have H1:(some false)=some r:=by rw[if_neg (show ¬ (false=true) by decide)] at H;exact H
      clear H;have H:=H1;clear H1;obtain rfl:=Option.some.inj H;have OH:0<=(nO:Int):=d_;have OY:nO<(l0.length:Int):=d_;obtain⟨qp4,e113,Vj,Vk,Vl,Vm,Vo⟩:=uS HR0.out nO OH OY;cases e113;replace Vj:=bn HB.out Vj;replace Vk:=bn HB.out Vk;replace Vl:=bn HB.out Vl;replace Vm:=bn HB.out Vm;replace Vo:=bn HB.out Vo;replace OH:=eq_true OH;replace OY:=eq_true OY
      go_wp2_with (first|((with_reducible refine bZ (f:=106) rfl ?_);refine bY (some 14) Try.func106 #[.agg #[.int .i64 ((aj l0 nO).f0),.int .i64 ((aj l0 nO).f1),.int .i64 ((aj l0 nO).f2),.int .i64 ((aj l0 nO).f3),.int .i64 ((aj l0 nO).f4)]] ?_;(with_reducible refine(CZ.calls ((aj l0 nO).f0) ((aj l0 nO).f1) ((aj l0 nO).f2) ((aj l0 nO).f3) ((aj l0 nO).f4) false _ A4.out).mono ?_);rintro e w7 ⟨rfl,hb⟩;refine⟨_,rfl,?_⟩;replace HB:=ak (aU (bF HB.out) hb);(try clear hb);(try clear hb2);(try clear hk);(try clear hi)))
      go_ret;exact⟨fO,bF HB.out⟩
    .
     rw[if_neg c3] at H;exact absurd H (by simp)
   .
    rw[if_neg c2] at H;have J9:decide (nO<(l0.length:Int))=false:=decide_eq_false c2;clear c2;obtain rfl:=Option.some.inj H
    go_wp2
    go_ret;exact⟨fO,bF HB.out⟩
def iY.j0:Nat->Bool->List (aN)->List Bool->List Bool->Int->Int->Option (Bool)
 | 0,_,_,_,_,_,_=>none
 | k+1,x31,qCi,Wy,qS4,Zb,qCj=>if x31=true then (some false) else (if 0<(Wy.length:Int) then (if fE false Wy 0=true then (if 0<=Zb then (if Zb<(Wy.length:Int) then (if fE false Wy Zb=true then ((fQ.f k qCi Wy Zb).bind fun t121=>(if t121 >= 0 then (some (decide (t121<=qCj))) else (some false))) else (some false)) else (none)) else (none)) else (some false)) else (none))
def iY.f (k:Nat)(ah:List (aN))(au:List Bool)(aG:List Bool)(ay:Int)(aC:Int):Option (Bool):=(sK.f k ah).bind fun t116=>(if t116=true then (if (au.length:Int)=8 then (if (aG.length:Int)=8 then ((qY.f ay).bind fun t117=>(if t117=true then ((jF.f aC 0 100000).bind fun t118=>(iY.j0 k (!t118) ah au aG ay aC)) else (iY.j0 k true ah au aG ay aC))) else (iY.j0 k true ah au aG ay aC)) else (iY.j0 k true ah au aG ay aC)) else (iY.j0 k true ah au aG ay aC))
theorem iY.calls (k:Nat)(cu:Option Addr)(bV:Nat)(ah:List (aN))(dM:Option Addr)(dF:Nat)(au:List Bool)(dI:Option Addr)(dH:Nat)(aG:List Bool)(ay:Int)(aC:Int)(r:Bool)(w:World)(jq:Kd.C k37 w cu ah.length ah)(jl:ah.length<=bV)(jr:Kd.C Kd.bool w dM au.length au)(jm:au.length<=dF)(jv:Kd.C Kd.bool w dI aG.length aG)(jo:aG.length<=dH)(h:iY.f k ah au aG ay aC=some r) :
  Calls Try.prog 67 #[.agg #[.slice cu ah.length bV,.slice dM au.length dF,.slice dI aG.length dH,.int .i64 ay,.int .i64 aC]] w fun e w'=>e=.returned (.bool r)/\Below w.heap.size w w':=by
 have tJ:=Try.underlying30;have jh:=ak jq;have jM:=ak jl;clear jq jl;have iL:=ak jr;have lF:=ak jm;clear jr jm;have l9:=ak jv;have l7:=ak jo;clear jv jo;have HB:=ak (Below.refl w.heap.size w);have H:((sK.f k ah).bind fun t116=>(if t116=true then (if (au.length:Int)=8 then (if (aG.length:Int)=8 then ((qY.f ay).bind fun t117=>(if t117=true then ((jF.f aC 0 100000).bind fun t118=>(iY.j0 k (!t118) ah au aG ay aC)) else (iY.j0 k true ah au aG ay aC))) else (iY.j0 k true ah au aG ay aC)) else (iY.j0 k true ah au aG ay aC)) else (iY.j0 k true ah au aG ay aC)))=some r:=h;clear h;have HC2:=ak H;clear H
 go_enter Try.func67,Try.ntmps67
 go_upto_region 1 with (first|((with_reducible refine bT (N:=1) rfl ?_);(try(refine Dy (by rfl) ?_;dsimp only));refine dN ?hg (N:=1) ?hd (cs:=#[.slice cu ah.length bV,.slice dM au.length dF,.slice dI aG.length dH,.int .i64 ay,.int .i64 aC]) (t:=30) ?hr ?_;(case hd=>rfl);(case hg=>rfl);(case hr=>first|(go_simp;done)|(go_simp;rfl));intro qs4 hg w3 hbox hb;have kP:=ak (hbox);have qDt:=ak ((bH hg (bF HB.out)));have xA:=ak ((bH hg (bF HB.out)));replace HB:=ak (aU (bF HB.out) hb);clear hb hbox hg))
 (try simp only[Act.put,List.setIfInBounds_toArray,List.set_cons_zero,List.set_cons_succ])
 go_cut [31] (fun v31 wc=>∃ (kq:Nat) (Zi:Bool),v31=.bool Zi/\Aside0 (iY.j0 kq Zi ah au aG ay aC=some r)/\Aside0 (kq<=k)/\Aside0 (wc.heap[qs4]? = some (.cells #[(.slice cu ah.length bV),(.slice dM au.length dF),(.slice dI aG.length dH),.int .i64 ay,.int .i64 aC] 30 (0,0)))/\Aside0 (Below w.heap.size w wc))
 case first=>
  have H:=HC2.out;clear HC2;replace H:=Option.bind_eq_some_iff.mp H;obtain⟨t116,nY,H⟩:=H;replace H:(if t116=true then (if (au.length:Int)=8 then (if (aG.length:Int)=8 then ((qY.f ay).bind fun t117=>(if t117=true then ((jF.f aC 0 100000).bind fun t118=>(iY.j0 k (!t118) ah au aG ay aC)) else (iY.j0 k true ah au aG ay aC))) else (iY.j0 k true ah au aG ay aC)) else (iY.j0 k true ah au aG ay aC)) else (iY.j0 k true ah au aG ay aC))=some r:=H;have A4:=ak nY;clear nY;by_cases c5:t116=true
  .
   subst c5
   have H1:(if (au.length:Int)=8 then (if (aG.length:Int)=8 then ((qY.f ay).bind fun t117=>(if t117=true then ((jF.f aC 0 100000).bind fun t118=>(iY.j0 k (!t118) ah au aG ay aC)) else (iY.j0 k true ah au aG ay aC))) else (iY.j0 k true ah au aG ay aC)) else (iY.j0 k true ah au aG ay aC))=some r:=by rw[if_pos rfl] at H;exact H
   clear H;have H:=H1;clear H1;by_cases c6:(au.length:Int)=8
   .
    rw[if_pos c6] at H;have uH:((au.length:Int)==8)=true:=beq_iff_eq.mpr c6;have II:((au.length:Int) != 8)=false:=bne_eq_false_iff_eq.mpr c6;clear c6
    (first|rw[uH]|(simp only[nM,pO];rw[uH])|skip)
    by_cases c7:(aG.length:Int)=8
    .
     rw[if_pos c7] at H;have Cm:((aG.length:Int)==8)=true:=beq_iff_eq.mpr c7;have J_:((aG.length:Int) != 8)=false:=bne_eq_false_iff_eq.mpr c7;clear c7;replace H:=Option.bind_eq_some_iff.mp H;obtain⟨t117,JC,H⟩:=H;replace H:(if t117=true then ((jF.f aC 0 100000).bind fun t118=>(iY.j0 k (!t118) ah au aG ay aC)) else (iY.j0 k true ah au aG ay aC))=some r:=H;have A8:=ak JC;clear JC;by_cases c9:t117=true
     .
      subst c9
      have H1:((jF.f aC 0 100000).bind fun t118=>(iY.j0 k (!t118) ah au aG ay aC))=some r:=by rw[if_pos rfl] at H;exact H
      clear H;have H:=H1;clear H1;replace H:=Option.bind_eq_some_iff.mp H;obtain⟨t118,Jy,H⟩:=H;replace H:(iY.j0 k (!t118) ah au aG ay aC)=some r:=H;have PI:=ak Jy;clear Jy;have H':=ak H;clear H;obtain⟨Kv,Kw,Ky,NT,NU⟩:=aX kP.out;obtain⟨KN,KO,KP,Oh,Oi⟩:=aZ kP.out
      go_wp2_with (first|((with_reducible refine bZ (f:=99) rfl ?_);refine bY (some 6) Try.func99 #[.slice cu ah.length bV] ?_;(with_reducible refine(sK.calls k _ _ ah true _ ?eH ?eP A4.out).mono ?_);(case eH=>exact dW (Kd.dU jh.out HB.out));(case eP=>exact jM.out);rintro e w12 ⟨rfl,hb⟩;refine⟨_,rfl,?_⟩;replace kP:=ak (aI (bf kP.out) hb);replace HB:=ak (aU (bU HB.out xA.out) hb);(try clear hb);(try clear hb2);(try clear hk);(try clear hi);obtain⟨KD,KE,KF,KG,KH⟩:=aX kP.out;obtain⟨KU,KW,KX,KY,KZ⟩:=aZ kP.out)|(go_at_call 100;(with_reducible refine(qY.calls ay true _ A8.out).mono ?_);rintro e w' ⟨rfl,⟨nd,rfl⟩⟩)|(go_at_call 101;(with_reducible refine(jF.calls aC 0 100000 t118 _ PI.out).mono ?_);rintro e w' ⟨rfl,⟨nd,rfl⟩⟩))
      go_meet
      case rel=>exact⟨_,(!t118),(by first|rfl|(simp;done)|(simp[*];done)),H',⟨by first|omega|exact Nat.le_refl _⟩,⟨bf kP.out⟩,⟨bU HB.out xA.out⟩⟩
     .
      replace c9:=Bool.eq_false_iff.mpr c9;subst c9
      have H1:(iY.j0 k true ah au aG ay aC)=some r:=by rw[if_neg (show ¬ (false=true) by decide)] at H;exact H
      clear H;have H:=H1;clear H1;have H':=ak H;clear H;obtain⟨NZ,N7,N8,N9,N_⟩:=aX kP.out;obtain⟨Om,Oo,Oq,Ot,Ou⟩:=aZ kP.out
      go_wp2_with (first|((with_reducible refine bZ (f:=99) rfl ?_);refine bY (some 6) Try.func99 #[.slice cu ah.length bV] ?_;(with_reducible refine(sK.calls k _ _ ah true _ ?eH ?eP A4.out).mono ?_);(case eH=>exact dW (Kd.dU jh.out HB.out));(case eP=>exact jM.out);rintro e Y5 ⟨rfl,hb⟩;refine⟨_,rfl,?_⟩;replace kP:=ak (aI (bf kP.out) hb);replace HB:=ak (aU (bU HB.out xA.out) hb);(try clear hb);(try clear hb2);(try clear hk);(try clear hi);obtain⟨IV,IW,IX,IY,IZ⟩:=aX kP.out;obtain⟨I4,I5,I7,I8,I9⟩:=aZ kP.out)|(go_at_call 100;(with_reducible refine(qY.calls ay false _ A8.out).mono ?_);rintro e w' ⟨rfl,⟨nd,rfl⟩⟩))
      go_meet
      case rel=>exact⟨_,(true),(by first|rfl|(simp;done)|(simp[*];done)),H',⟨by first|omega|exact Nat.le_refl _⟩,⟨bf kP.out⟩,⟨bU HB.out xA.out⟩⟩
    .
     rw[if_neg c7] at H;have Cm:((aG.length:Int)==8)=false:=beq_eq_false_iff_ne.mpr c7;have J_:((aG.length:Int) != 8)=true:=bne_iff_ne.mpr c7;have H':=ak H;clear H;obtain⟨Qs,Qu,Qv,Qw,Qx⟩:=aX kP.out;obtain⟨QS,QT,QU,QV,QW⟩:=aZ kP.out
     go_wp2_with (first|((with_reducible refine bZ (f:=99) rfl ?_);refine bY (some 6) Try.func99 #[.slice cu ah.length bV] ?_;(with_reducible refine(sK.calls k _ _ ah true _ ?eH ?eP A4.out).mono ?_);(case eH=>exact dW (Kd.dU jh.out HB.out));(case eP=>exact jM.out);rintro e Ws ⟨rfl,hb⟩;refine⟨_,rfl,?_⟩;replace kP:=ak (aI (bf kP.out) hb);replace HB:=ak (aU (bU HB.out xA.out) hb);(try clear hb);(try clear hb2);(try clear hk);(try clear hi);obtain⟨DC,DF,DI,DJ,DK⟩:=aX kP.out;obtain⟨DL,DN,DR,DT,DU⟩:=aZ kP.out))
     go_meet
     case rel=>exact⟨_,(true),(by first|rfl|(simp;done)|(simp[*];done)),H',⟨by first|omega|exact Nat.le_refl _⟩,⟨bf kP.out⟩,⟨bU HB.out xA.out⟩⟩
   .
    rw[if_neg c6] at H;have uH:((au.length:Int)==8)=false:=beq_eq_false_iff_ne.mpr c6;have II:((au.length:Int) != 8)=true:=bne_iff_ne.mpr c6
    (first|rw[uH]|(simp only[nM,pO];rw[uH])|skip)
    have H':=ak H;clear H;obtain⟨Qy,Qz,QA,QB,QC⟩:=aX kP.out;obtain⟨QX,QY,QZ,Q5,Q7⟩:=aZ kP.out
    go_wp2_with (first|((with_reducible refine bZ (f:=99) rfl ?_);refine bY (some 6) Try.func99 #[.slice cu ah.length bV] ?_;(with_reducible refine(sK.calls k _ _ ah true _ ?eH ?eP A4.out).mono ?_);(case eH=>exact dW (Kd.dU jh.out HB.out));(case eP=>exact jM.out);rintro e Jw ⟨rfl,hb⟩;refine⟨_,rfl,?_⟩;replace kP:=ak (aI (bf kP.out) hb);replace HB:=ak (aU (bU HB.out xA.out) hb);(try clear hb);(try clear hb2);(try clear hk);(try clear hi);obtain⟨UK,UL,UM,UN,UO⟩:=aX kP.out;obtain⟨U1,U2,U3,U4,U5⟩:=aZ kP.out))
    go_meet
    case rel=>exact⟨_,(true),(by first|rfl|(simp;done)|(simp[*];done)),H',⟨by first|omega|exact Nat.le_refl _⟩,⟨bf kP.out⟩,⟨bU HB.out xA.out⟩⟩
  .
   replace c5:=Bool.eq_false_iff.mpr c5;subst c5
   have H1:(iY.j0 k true ah au aG ay aC)=some r:=by rw[if_neg (show ¬ (false=true) by decide)] at H;exact H
   clear H;have H:=H1;clear H1;have H':=ak H;clear H;obtain⟨Oa,Ob,Oc,Oe,Og⟩:=aX kP.out;obtain⟨Ov,Ox,Oy,Oz,OA⟩:=aZ kP.out
   go_wp2_with (first|((with_reducible refine bZ (f:=99) rfl ?_);refine bY (some 6) Try.func99 #[.slice cu ah.length bV] ?_;(with_reducible refine(sK.calls k _ _ ah false _ ?eH ?eP A4.out).mono ?_);(case eH=>exact dW (Kd.dU jh.out HB.out));(case eP=>exact jM.out);rintro e w24 ⟨rfl,hb⟩;refine⟨_,rfl,?_⟩;replace kP:=ak (aI (bf kP.out) hb);replace HB:=ak (aU (bU HB.out xA.out) hb);(try clear hb);(try clear hb2);(try clear hk);(try clear hi)))
   go_meet
   case rel=>exact⟨_,(true),(by first|rfl|(simp;done)|(simp[*];done)),H',⟨by first|omega|exact Nat.le_refl _⟩,⟨bf kP.out⟩,⟨bU HB.out xA.out⟩⟩
 case rest=>
  clear HC2
  try clear p2
  try clear c5
  try clear c6
  try clear uH
  try clear II
  try clear c7
  try clear Cm
  try clear J_
  try clear c9
  try clear Kv Kw Ky NT NU
  try clear KD KE KF KG KH
  try clear NZ N7 N8 N9 N_
  try clear IV IW IX IY IZ
  try clear Qs Qu Qv Qw Qx
  try clear DC DF DI DJ DK
  try clear Qy Qz QA QB QC
  try clear UK UL UM UN UO
  try clear Oa Ob Oc Oe Og
  try clear KN KO KP Oh Oi
  try clear KU KW KX KY KZ
  try clear Om Oo Oq Ot Ou
  try clear I4 I5 I7 I8 I9
  try clear QS QT QU QV QW
  try clear DL DN DR DT DU
  try clear QX QY QZ Q5 Q7
  try clear U1 U2 U3 U4 U5
  try clear Ov Ox Oy Oz OA
  obtain⟨kq,Zi,rfl,HA,HJ1,kP,HB⟩:=hcut
  cases kq with
  | zero=>exact absurd HA.out (by simp[iY.j0])
  | succ zD=>
   have H:=HA.out;clear HA;simp only[iY.j0] at H;by_cases c25:Zi=true
   .
    subst c25
    have H1:(some false)=some r:=by rw[if_pos rfl] at H;exact H
    clear H;have H:=H1;clear H1;obtain rfl:=Option.some.inj H
    go_wp2
    go_ret;exact⟨fO,bU HB.out xA.out⟩
   .
    replace c25:=Bool.eq_false_iff.mpr c25;subst c25
    have H1:(if 0<(au.length:Int) then (if fE false au 0=true then (if 0<=ay then (if ay<(au.length:Int) then (if fE false au ay=true then ((fQ.f zD ah au ay).bind fun t121=>(if t121 >= 0 then (some (decide (t121<=aC))) else (some false))) else (some false)) else (none)) else (none)) else (some false)) else (none))=some r:=by rw[if_neg (show ¬ (false=true) by decide)] at H;exact H
    clear H;have H:=H1;clear H1;by_cases c26:0<(au.length:Int)
    .
     rw[if_pos c26] at H;have Un:decide (0<(au.length:Int))=true:=decide_eq_true c26;have qax:decide (0<au.length)=true:=decide_eq_true (by omega);clear c26
     obtain⟨Ui,NR⟩:∃ b_:Bool,b_=(fE false au 0):=⟨_,rfl⟩
     replace H:(if Ui=true then (if 0<=ay then (if ay<(au.length:Int) then (if fE false au ay=true then ((fQ.f zD ah au ay).bind fun t121=>(if t121 >= 0 then (some (decide (t121<=aC))) else (some false))) else (some false)) else (none)) else (none)) else (some false))=some r:=by rw[<- NR] at H;exact H
     have yX:=ak NR;clear NR;by_cases c28:Ui=true
     .
      subst c28
      have H1:(if 0<=ay then (if ay<(au.length:Int) then (if fE false au ay=true then ((fQ.f zD ah au ay).bind fun t121=>(if t121 >= 0 then (some (decide (t121<=aC))) else (some false))) else (some false)) else (none)) else (none))=some r:=by rw[if_pos rfl] at H;exact H
      clear H;have H:=H1;clear H1;by_cases c29:0<=ay
      .
       rw[if_pos c29] at H;have XD:decide (0<=ay)=true:=decide_eq_true c29;clear c29;by_cases c30:ay<(au.length:Int)
       .
        rw[if_pos c30] at H;have qgs:decide (ay<(au.length:Int))=true:=decide_eq_true c30;clear c30
        obtain⟨Uj,NS⟩:∃ b_:Bool,b_=(fE false au ay):=⟨_,rfl⟩
        replace H:(if Uj=true then ((fQ.f zD ah au ay).bind fun t121=>(if t121 >= 0 then (some (decide (t121<=aC))) else (some false))) else (some false))=some r:=by rw[<- NS] at H;exact H
        have Cb:=ak NS;clear NS;by_cases c32:Uj=true
        .
         subst c32
         have H1:((fQ.f zD ah au ay).bind fun t121=>(if t121 >= 0 then (some (decide (t121<=aC))) else (some false)))=some r:=by rw[if_pos rfl] at H;exact H
         clear H;have H:=H1;clear H1;replace H:=Option.bind_eq_some_iff.mp H;obtain⟨t121,SG,H⟩:=H;replace H:(if t121 >= 0 then (some (decide (t121<=aC))) else (some false))=some r:=H;have SE:=ak SG;clear SG;by_cases c34:t121 >= 0
         .
          rw[if_pos c34] at H;have qq7:decide (0<=t121)=true:=decide_eq_true c34;clear c34;obtain rfl:=Option.some.inj H;obtain⟨qt7,qt8,qt9,qub,quc⟩:=aX kP.out;obtain⟨qvz,qv0,qv1,qv2,qv3⟩:=aZ kP.out
          have zN:0<=(0:Int):=(by omega)
          have zS:0<(au.length:Int):=d_;obtain⟨J6,e119,rF⟩:=Kd.oh iL.out 0 zN zS;(try rw[<- yX.out] at rF);(try rw[<- Cb.out] at rF);cases e119;have qem:(0<au.length)=True:=eq_true (by omega);(try rw[show ((0:Int)).toNat=0 from rfl] at rF);(try rw[Addr.add_zero'] at rF);replace rF:=bn HB.out rF;replace zN:=eq_true zN;replace zS:=eq_true zS;have Fe:0<=(ay:Int):=d_;have Fz:ay<(au.length:Int):=d_;obtain⟨Ug,e120,Bc⟩:=Kd.oh iL.out ay Fe Fz;(try rw[<- yX.out] at Bc);(try rw[<- Cb.out] at Bc)
          obtain rfl:J6=Ug:=(by injection e120)
          replace Bc:=bn HB.out Bc;replace Fe:=eq_true Fe;replace Fz:=eq_true Fz
          go_wp2_with (first|((with_reducible refine bZ (f:=88) rfl ?_);refine bY (some 52) Try.func88 #[.slice cu ah.length bV,.slice (some J6) au.length dF,.int .i64 ay] ?_;(with_reducible refine(fQ.calls zD _ _ ah _ _ au ay t121 _ ?eH ?eP ?fU ?fV SE.out).mono ?_);(case eH=>exact dW (Kd.dU jh.out HB.out));(case eP=>exact jM.out);(case fU=>exact dW (Kd.dU iL.out HB.out));(case fV=>exact lF.out);rintro e Ig ⟨rfl,hb⟩;refine⟨_,rfl,?_⟩;replace kP:=ak (aI (bf kP.out) hb);replace HB:=ak (aU (bU HB.out xA.out) hb);(try clear hb);(try clear hb2);(try clear hk);(try clear hi);obtain⟨qit,qiu,qiv,qiw,qix⟩:=aX kP.out;obtain⟨qks,qkt,qku,qkv,qkw⟩:=aZ kP.out))
          go_ret;exact⟨fO,bU HB.out xA.out⟩
         .
          rw[if_neg c34] at H;have qq7:decide (0<=t121)=false:=decide_eq_false c34;clear c34;obtain rfl:=Option.some.inj H;obtain⟨qud,que,quf,qug,quh⟩:=aX kP.out;obtain⟨qv4,qv5,qv6,qv7,qv8⟩:=aZ kP.out
          have zN:0<=(0:Int):=(by omega)
          have zS:0<(au.length:Int):=d_;obtain⟨J6,e119,rF⟩:=Kd.oh iL.out 0 zN zS;(try rw[<- yX.out] at rF);(try rw[<- Cb.out] at rF);cases e119;have qem:(0<au.length)=True:=eq_true (by omega);(try rw[show ((0:Int)).toNat=0 from rfl] at rF);(try rw[Addr.add_zero'] at rF);replace rF:=bn HB.out rF;replace zN:=eq_true zN;replace zS:=eq_true zS;have Fe:0<=(ay:Int):=d_;have Fz:ay<(au.length:Int):=d_;obtain⟨Ug,e120,Bc⟩:=Kd.oh iL.out ay Fe Fz;(try rw[<- yX.out] at Bc);(try rw[<- Cb.out] at Bc)
          obtain rfl:J6=Ug:=(by injection e120)
          replace Bc:=bn HB.out Bc;replace Fe:=eq_true Fe;replace Fz:=eq_true Fz
          go_wp2_with (first|((with_reducible refine bZ (f:=88) rfl ?_);refine bY (some 52) Try.func88 #[.slice cu ah.length bV,.slice (some J6) au.length dF,.int .i64 ay] ?_;(with_reducible refine(fQ.calls zD _ _ ah _ _ au ay t121 _ ?eH ?eP ?fU ?fV SE.out).mono ?_);(case eH=>exact dW (Kd.dU jh.out HB.out));(case eP=>exact jM.out);(case fU=>exact dW (Kd.dU iL.out HB.out));(case fV=>exact lF.out);rintro e w39 ⟨rfl,hb⟩;refine⟨_,rfl,?_⟩;replace kP:=ak (aI (bf kP.out) hb);replace HB:=ak (aU (bU HB.out xA.out) hb);(try clear hb);(try clear hb2);(try clear hk);(try clear hi)))
          go_ret;exact⟨fO,bU HB.out xA.out⟩
        .
         replace c32:=Bool.eq_false_iff.mpr c32;subst c32
         have H1:(some false)=some r:=by rw[if_neg (show ¬ (false=true) by decide)] at H;exact H
         clear H;have H:=H1;clear H1;obtain rfl:=Option.some.inj H;obtain⟨qiy,qiz,qi0,qi1,qi2⟩:=aX kP.out;obtain⟨qkx,qky,qkz,qk0,qk1⟩:=aZ kP.out
         have zN:0<=(0:Int):=(by omega)
         have zS:0<(au.length:Int):=d_;obtain⟨J6,e119,rF⟩:=Kd.oh iL.out 0 zN zS;(try rw[<- yX.out] at rF);(try rw[<- Cb.out] at rF);cases e119;have qem:(0<au.length)=True:=eq_true (by omega);(try rw[show ((0:Int)).toNat=0 from rfl] at rF);(try rw[Addr.add_zero'] at rF);replace rF:=bn HB.out rF;replace zN:=eq_true zN;replace zS:=eq_true zS;have Fe:0<=(ay:Int):=d_;have Fz:ay<(au.length:Int):=d_;obtain⟨Ug,e120,Bc⟩:=Kd.oh iL.out ay Fe Fz;(try rw[<- yX.out] at Bc);(try rw[<- Cb.out] at Bc)
         obtain rfl:J6=Ug:=(by injection e120)
         replace Bc:=bn HB.out Bc;replace Fe:=eq_true Fe;replace Fz:=eq_true Fz
         go_wp2
         go_ret;exact⟨fO,bU HB.out xA.out⟩
       .
        rw[if_neg c30] at H;exact absurd H (by simp)
      .
       rw[if_neg c29] at H;exact absurd H (by simp)
     .
      replace c28:=Bool.eq_false_iff.mpr c28;subst c28
      have H1:(some false)=some r:=by rw[if_neg (show ¬ (false=true) by decide)] at H;exact H
      clear H;have H:=H1;clear H1;obtain rfl:=Option.some.inj H;obtain⟨qb5,qb6,qb7,qb8,qb9⟩:=aX kP.out;obtain⟨qcr,qcs,qct,qcu,qcv⟩:=aZ kP.out
      have zN:0<=(0:Int):=(by omega)
      have zS:0<(au.length:Int):=d_;obtain⟨J6,e119,rF⟩:=Kd.oh iL.out 0 zN zS;(try rw[<- yX.out] at rF);cases e119;have qem:(0<au.length)=True:=eq_true (by omega);(try rw[show ((0:Int)).toNat=0 from rfl] at rF);(try rw[Addr.add_zero'] at rF);replace rF:=bn HB.out rF;replace zN:=eq_true zN;replace zS:=eq_true zS
      go_wp2
      go_ret;exact⟨fO,bU HB.out xA.out⟩
    .
     rw[if_neg c26] at H;exact absurd H (by simp)
def Wj.f (k:Nat)(ah:List (aN))(au:List Bool)(aG:List Bool)(ay:Int)(aC:Int):Option (Bool):=(iY.f k ah au aG ay aC).bind fun t123=>(some t123)
theorem Wj.calls (k:Nat)(cu:Option Addr)(bV:Nat)(ah:List (aN))(dM:Option Addr)(dF:Nat)(au:List Bool)(dI:Option Addr)(dH:Nat)(aG:List Bool)(ay:Int)(aC:Int)(r:Bool)(w:World)(jq:Kd.C k37 w cu ah.length ah)(jl:ah.length<=bV)(jr:Kd.C Kd.bool w dM au.length au)(jm:au.length<=dF)(jv:Kd.C Kd.bool w dI aG.length aG)(jo:aG.length<=dH)(h:Wj.f k ah au aG ay aC=some r) :
  Calls Try.prog 16 #[.agg #[.slice cu ah.length bV,.slice dM au.length dF,.slice dI aG.length dH,.int .i64 ay,.int .i64 aC]] w fun e w'=>e=.returned (.bool r)/\Below w.heap.size w w':=by
 have tJ:=Try.underlying30;have jh:=ak jq;have jM:=ak jl;clear jq jl;have iL:=ak jr;have lF:=ak jm;clear jr jm;have l9:=ak jv;have l7:=ak jo;clear jv jo;have HB:=ak (Below.refl w.heap.size w);have H:((iY.f k ah au aG ay aC).bind fun t123=>(some t123))=some r:=h;clear h;replace H:=Option.bind_eq_some_iff.mp H;obtain⟨t123,lC,H⟩:=H;replace H:(some t123)=some r:=H;have A2:=ak lC;clear lC;obtain rfl:=Option.some.inj H
 go_enter Try.func16,Try.ntmps16
 go_wp2_with (first|((with_reducible refine bT (N:=1) rfl ?_);refine dN ?hg (N:=1) ?hd (cs:=#[.slice cu ah.length bV,.slice dM au.length dF,.slice dI aG.length dH,.int .i64 ay,.int .i64 aC]) (t:=30) ?hr ?_;(case hd=>rfl);(case hg=>rfl);(case hr=>first|(go_simp;done)|(go_simp;rfl));intro qFl hg w3 hbox hb;have WU:=ak (hbox);have qDu:=ak ((bH hg (bF HB.out)));have qfr:=ak ((bH hg (bF HB.out)));replace HB:=ak (aU (bF HB.out) hb);clear hb hbox hg;obtain⟨qGz,qG0,qG1,qG2,qG3⟩:=aX WU.out;obtain⟨qK7,qK8,qK9,qLa,qLb⟩:=aZ WU.out)|((with_reducible refine bZ (f:=67) rfl ?_);refine bY (some 4) Try.func67 #[.agg #[.slice cu ah.length bV,.slice dM au.length dF,.slice dI aG.length dH,.int .i64 ay,.int .i64 aC]] ?_;(with_reducible refine(iY.calls k _ _ ah _ _ au _ _ aG ay aC t123 _ ?eH ?eP ?fU ?fV ?iR ?iT A2.out).mono ?_);(case eH=>exact dW (Kd.dU jh.out HB.out));(case eP=>exact jM.out);(case fU=>exact dW (Kd.dU iL.out HB.out));(case fV=>exact lF.out);(case iR=>exact dW (Kd.dU l9.out HB.out));(case iT=>exact l7.out);rintro e w5 ⟨rfl,hb⟩;refine⟨_,rfl,?_⟩;replace WU:=ak (aI (bf WU.out) hb);replace HB:=ak (aU (bU HB.out qfr.out) hb);(try clear hb);(try clear hb2);(try clear hk);(try clear hi)))
 go_ret;exact⟨fO,bU HB.out qfr.out⟩
def jZ.f (a0:Int)(a1:Int)(a2:Int):Option (Bool):=if a0 >= a1 then (some (decide (a0<=a2))) else (some false)
theorem jZ.calls (a0:Int)(a1:Int)(a2:Int)(r:Bool)(w:World)(h:jZ.f a0 a1 a2=some r) :
  Calls Try.prog 71 #[.int .i64 a0,.int .i64 a1,.int .i64 a2] w fun e w'=>e=.returned (.bool r)/\gu w w':=by
 have H:(if a0 >= a1 then (some (decide (a0<=a2))) else (some false))=some r:=h;clear h;by_cases c4:a0 >= a1
 .
  rw[if_pos c4] at H;have Aw:decide (a1<=a0)=true:=decide_eq_true c4;clear c4;obtain rfl:=Option.some.inj H
  go_enter Try.func71,Try.ntmps71
  go_wp2
  go_ret;exact⟨by first|rfl|(simp;done)|(simp[*];done),by repeat(first|exact gu.refl _|apply gu.step)⟩
 .
  rw[if_neg c4] at H;have Aw:decide (a1<=a0)=false:=decide_eq_false c4;clear c4;obtain rfl:=Option.some.inj H
  go_enter Try.func71,Try.ntmps71
  go_wp2
  go_ret;exact⟨by first|rfl|(simp;done)|(simp[*];done),by repeat(first|exact gu.refl _|apply gu.step)⟩
def qV.f (a0:Int):Option (Bool):=(jZ.f a0 0 7).bind fun t154=>(some t154)
theorem qV.calls (a0:Int)(r:Bool)(w:World)(h:qV.f a0=some r) :
  Calls Try.prog 70 #[.int .i64 a0] w fun e w'=>e=.returned (.bool r)/\gu w w':=by
 have H:((jZ.f a0 0 7).bind fun t154=>(some t154))=some r:=h;clear h;replace H:=Option.bind_eq_some_iff.mp H;obtain⟨t154,lC,H⟩:=H;replace H:(some t154)=some r:=H;have A2:=ak lC;clear lC;obtain rfl:=Option.some.inj H
 go_enter Try.func70,Try.ntmps70
 go_wp2_with (first|((with_reducible refine bZ (f:=71) rfl ?_);refine bY (some 4) Try.func71 #[.int .i64 a0,.int .i64 0,.int .i64 7] ?_;(with_reducible refine(jZ.calls a0 0 7 t154 _ A2.out).mono ?_);rintro e w' ⟨rfl,⟨nd,rfl⟩⟩;refine⟨_,rfl,?_⟩))
 go_ret;exact⟨by first|rfl|(simp;done)|(simp[*];done),by repeat(first|exact gu.refl _|apply gu.step)⟩
def CU.f (a0:Int):Option (Bool):=(jZ.f a0 0 359).bind fun t155=>(some t155)
theorem CU.calls (a0:Int)(r:Bool)(w:World)(h:CU.f a0=some r) :
  Calls Try.prog 117 #[.int .i64 a0] w fun e w'=>e=.returned (.bool r)/\gu w w':=by
 have H:((jZ.f a0 0 359).bind fun t155=>(some t155))=some r:=h;clear h;replace H:=Option.bind_eq_some_iff.mp H;obtain⟨t155,lC,H⟩:=H;replace H:(some t155)=some r:=H;have A2:=ak lC;clear lC;obtain rfl:=Option.some.inj H
 go_enter Try.func117,Try.ntmps117
 go_wp2_with (first|((with_reducible refine bZ (f:=71) rfl ?_);refine bY (some 4) Try.func71 #[.int .i64 a0,.int .i64 0,.int .i64 359] ?_;(with_reducible refine(jZ.calls a0 0 359 t155 _ A2.out).mono ?_);rintro e w' ⟨rfl,⟨nd,rfl⟩⟩;refine⟨_,rfl,?_⟩))
 go_ret;exact⟨by first|rfl|(simp;done)|(simp[*];done),by repeat(first|exact gu.refl _|apply gu.step)⟩
def zC.f (fM:Int)(gB:Int)(gX:Int)(ay:Int)(aC:Int):Option (Bool):=(qV.f fM).bind fun t157=>(if t157=true then ((qV.f gB).bind fun t158=>(if t158=true then (if fM=gB then (some false) else ((jZ.f gX 1 500).bind fun t159=>(if t159=true then ((CU.f ay).bind fun t160=>(if t160=true then ((jZ.f aC (-90) 90).bind fun t161=>(some t161)) else (some false))) else (some false)))) else (some false))) else (some false))
theorem zC.calls (fM:Int)(gB:Int)(gX:Int)(ay:Int)(aC:Int)(r:Bool)(w:World)(h:zC.f fM gB gX ay aC=some r) :
  Calls Try.prog 102 #[.agg #[.int .i64 fM,.int .i64 gB,.int .i64 gX,.int .i64 ay,.int .i64 aC]] w fun e w'=>e=.returned (.bool r)/\Below w.heap.size w w':=by
 have zB:=Try.underlying37;have HB:=ak (Below.refl w.heap.size w);have H:((qV.f fM).bind fun t157=>(if t157=true then ((qV.f gB).bind fun t158=>(if t158=true then (if fM=gB then (some false) else ((jZ.f gX 1 500).bind fun t159=>(if t159=true then ((CU.f ay).bind fun t160=>(if t160=true then ((jZ.f aC (-90) 90).bind fun t161=>(some t161)) else (some false))) else (some false)))) else (some false))) else (some false)))=some r:=h;clear h;replace H:=Option.bind_eq_some_iff.mp H;obtain⟨t157,lC,H⟩:=H;replace H:(if t157=true then ((qV.f gB).bind fun t158=>(if t158=true then (if fM=gB then (some false) else ((jZ.f gX 1 500).bind fun t159=>(if t159=true then ((CU.f ay).bind fun t160=>(if t160=true then ((jZ.f aC (-90) 90).bind fun t161=>(some t161)) else (some false))) else (some false)))) else (some false))) else (some false))=some r:=H;have A2:=ak lC;clear lC;by_cases c3:t157=true
 .
  subst c3
  have H1:((qV.f gB).bind fun t158=>(if t158=true then (if fM=gB then (some false) else ((jZ.f gX 1 500).bind fun t159=>(if t159=true then ((CU.f ay).bind fun t160=>(if t160=true then ((jZ.f aC (-90) 90).bind fun t161=>(some t161)) else (some false))) else (some false)))) else (some false)))=some r:=by rw[if_pos rfl] at H;exact H
  clear H;have H:=H1;clear H1;replace H:=Option.bind_eq_some_iff.mp H;obtain⟨t158,nY,H⟩:=H;replace H:(if t158=true then (if fM=gB then (some false) else ((jZ.f gX 1 500).bind fun t159=>(if t159=true then ((CU.f ay).bind fun t160=>(if t160=true then ((jZ.f aC (-90) 90).bind fun t161=>(some t161)) else (some false))) else (some false)))) else (some false))=some r:=H;have A4:=ak nY;clear nY;by_cases c5:t158=true
  .
   subst c5
   have H1:(if fM=gB then (some false) else ((jZ.f gX 1 500).bind fun t159=>(if t159=true then ((CU.f ay).bind fun t160=>(if t160=true then ((jZ.f aC (-90) 90).bind fun t161=>(some t161)) else (some false))) else (some false))))=some r:=by rw[if_pos rfl] at H;exact H
   clear H;have H:=H1;clear H1;by_cases c6:fM=gB
   .
    rw[if_pos c6] at H;have uH:(fM==gB)=true:=beq_iff_eq.mpr c6;have II:(fM != gB)=false:=bne_eq_false_iff_eq.mpr c6;clear c6;obtain rfl:=Option.some.inj H
    go_enter Try.func102,Try.ntmps102
    go_wp2_with (first|((with_reducible refine bT (N:=1) rfl ?_);refine dN ?hg (N:=1) ?hd (cs:=#[.int .i64 fM,.int .i64 gB,.int .i64 gX,.int .i64 ay,.int .i64 aC]) (t:=37) ?hr ?_;(case hd=>rfl);(case hg=>rfl);(case hr=>first|(go_simp;done)|(go_simp;rfl));intro UJ hg w7 hbox hb;have xk:=ak (hbox);have Tc:=ak ((bH hg (bF HB.out)));have Eh:=ak ((bH hg (bF HB.out)));replace HB:=ak (aU (bF HB.out) hb);clear hb hbox hg;obtain⟨X_,Ya,Yb,qcc,qcd⟩:=aX xk.out;obtain⟨qcz,Yj,Yk,qc0,qc7⟩:=aZ xk.out)|((with_reducible refine bZ (f:=70) rfl ?_);refine bY (some 5) Try.func70 #[.int .i64 fM] ?_;(with_reducible refine(qV.calls fM true _ A2.out).mono ?_);rintro e w' ⟨rfl,⟨nd,rfl⟩⟩;refine⟨_,rfl,?_⟩)|(go_at_call 70;(with_reducible refine(qV.calls gB true _ A4.out).mono ?_);rintro e w' ⟨rfl,⟨nd,rfl⟩⟩))
    go_ret;exact⟨fO,bU HB.out Eh.out⟩
   .
    rw[if_neg c6] at H;have uH:(fM==gB)=false:=beq_eq_false_iff_ne.mpr c6;have II:(fM != gB)=true:=bne_iff_ne.mpr c6;replace H:=Option.bind_eq_some_iff.mp H;obtain⟨t159,zZ,H⟩:=H;replace H:(if t159=true then ((CU.f ay).bind fun t160=>(if t160=true then ((jZ.f aC (-90) 90).bind fun t161=>(some t161)) else (some false))) else (some false))=some r:=H;have A9:=ak zZ;clear zZ;by_cases c10:t159=true
    .
     subst c10
     have H1:((CU.f ay).bind fun t160=>(if t160=true then ((jZ.f aC (-90) 90).bind fun t161=>(some t161)) else (some false)))=some r:=by rw[if_pos rfl] at H;exact H
     clear H;have H:=H1;clear H1;replace H:=Option.bind_eq_some_iff.mp H;obtain⟨t160,JA,H⟩:=H;replace H:(if t160=true then ((jZ.f aC (-90) 90).bind fun t161=>(some t161)) else (some false))=some r:=H;have Jz:=ak JA;clear JA;by_cases c12:t160=true
     .
      subst c12
      have H1:((jZ.f aC (-90) 90).bind fun t161=>(some t161))=some r:=by rw[if_pos rfl] at H;exact H
      clear H;have H:=H1;clear H1;replace H:=Option.bind_eq_some_iff.mp H;obtain⟨t161,D8,H⟩:=H;replace H:(some t161)=some r:=H;have Ik:=ak D8;clear D8;obtain rfl:=Option.some.inj H
      go_enter Try.func102,Try.ntmps102
      go_wp2_with (first|((with_reducible refine bT (N:=1) rfl ?_);refine dN ?hg (N:=1) ?hd (cs:=#[.int .i64 fM,.int .i64 gB,.int .i64 gX,.int .i64 ay,.int .i64 aC]) (t:=37) ?hr ?_;(case hd=>rfl);(case hg=>rfl);(case hr=>first|(go_simp;done)|(go_simp;rfl));intro UJ hg Wq hbox hb;have xk:=ak (hbox);have Tc:=ak ((bH hg (bF HB.out)));have Eh:=ak ((bH hg (bF HB.out)));replace HB:=ak (aU (bF HB.out) hb);clear hb hbox hg;obtain⟨qh4,qh5,qh6,qh7,qh8⟩:=aX xk.out;obtain⟨qj3,qj4,qj5,qj6,qj7⟩:=aZ xk.out)|((with_reducible refine bZ (f:=70) rfl ?_);refine bY (some 5) Try.func70 #[.int .i64 fM] ?_;(with_reducible refine(qV.calls fM true _ A2.out).mono ?_);rintro e w' ⟨rfl,⟨nd,rfl⟩⟩;refine⟨_,rfl,?_⟩)|(go_at_call 70;(with_reducible refine(qV.calls gB true _ A4.out).mono ?_);rintro e w' ⟨rfl,⟨nd,rfl⟩⟩)|(go_at_call 71;(with_reducible refine(jZ.calls gX 1 500 true _ A9.out).mono ?_);rintro e w' ⟨rfl,⟨nd,rfl⟩⟩)|(go_at_call 117;(with_reducible refine(CU.calls ay true _ Jz.out).mono ?_);rintro e w' ⟨rfl,⟨nd,rfl⟩⟩)|(go_at_call 71;(with_reducible refine(jZ.calls aC (-90) 90 t161 _ Ik.out).mono ?_);rintro e w' ⟨rfl,⟨nd,rfl⟩⟩))
      go_ret;exact⟨fO,bU HB.out Eh.out⟩
     .
      replace c12:=Bool.eq_false_iff.mpr c12;subst c12
      have H1:(some false)=some r:=by rw[if_neg (show ¬ (false=true) by decide)] at H;exact H
      clear H;have H:=H1;clear H1;obtain rfl:=Option.some.inj H
      go_enter Try.func102,Try.ntmps102
      go_wp2_with (first|((with_reducible refine bT (N:=1) rfl ?_);refine dN ?hg (N:=1) ?hd (cs:=#[.int .i64 fM,.int .i64 gB,.int .i64 gX,.int .i64 ay,.int .i64 aC]) (t:=37) ?hr ?_;(case hd=>rfl);(case hg=>rfl);(case hr=>first|(go_simp;done)|(go_simp;rfl));intro UJ hg w16 hbox hb;have xk:=ak (hbox);have Tc:=ak ((bH hg (bF HB.out)));have Eh:=ak ((bH hg (bF HB.out)));replace HB:=ak (aU (bF HB.out) hb);clear hb hbox hg;obtain⟨Qs,Qu,Qv,Qw,Qx⟩:=aX xk.out;obtain⟨QS,QT,QU,QV,QW⟩:=aZ xk.out)|((with_reducible refine bZ (f:=70) rfl ?_);refine bY (some 5) Try.func70 #[.int .i64 fM] ?_;(with_reducible refine(qV.calls fM true _ A2.out).mono ?_);rintro e w' ⟨rfl,⟨nd,rfl⟩⟩;refine⟨_,rfl,?_⟩)|(go_at_call 70;(with_reducible refine(qV.calls gB true _ A4.out).mono ?_);rintro e w' ⟨rfl,⟨nd,rfl⟩⟩)|(go_at_call 71;(with_reducible refine(jZ.calls gX 1 500 true _ A9.out).mono ?_);rintro e w' ⟨rfl,⟨nd,rfl⟩⟩)|(go_at_call 117;(with_reducible refine(CU.calls ay false _ Jz.out).mono ?_);rintro e w' ⟨rfl,⟨nd,rfl⟩⟩))
      go_ret;exact⟨fO,bU HB.out Eh.out⟩
    .
     replace c10:=Bool.eq_false_iff.mpr c10;subst c10
     have H1:(some false)=some r:=by rw[if_neg (show ¬ (false=true) by decide)] at H;exact H
     clear H;have H:=H1;clear H1;obtain rfl:=Option.some.inj H
     go_enter Try.func102,Try.ntmps102
     go_wp2_with (first|((with_reducible refine bT (N:=1) rfl ?_);refine dN ?hg (N:=1) ?hd (cs:=#[.int .i64 fM,.int .i64 gB,.int .i64 gX,.int .i64 ay,.int .i64 aC]) (t:=37) ?hr ?_;(case hd=>rfl);(case hg=>rfl);(case hr=>first|(go_simp;done)|(go_simp;rfl));intro UJ hg Ws hbox hb;have xk:=ak (hbox);have Tc:=ak ((bH hg (bF HB.out)));have Eh:=ak ((bH hg (bF HB.out)));replace HB:=ak (aU (bF HB.out) hb);clear hb hbox hg;obtain⟨DC,DF,DI,DJ,DK⟩:=aX xk.out;obtain⟨DL,DN,DR,DT,DU⟩:=aZ xk.out)|((with_reducible refine bZ (f:=70) rfl ?_);refine bY (some 5) Try.func70 #[.int .i64 fM] ?_;(with_reducible refine(qV.calls fM true _ A2.out).mono ?_);rintro e w' ⟨rfl,⟨nd,rfl⟩⟩;refine⟨_,rfl,?_⟩)|(go_at_call 70;(with_reducible refine(qV.calls gB true _ A4.out).mono ?_);rintro e w' ⟨rfl,⟨nd,rfl⟩⟩)|(go_at_call 71;(with_reducible refine(jZ.calls gX 1 500 false _ A9.out).mono ?_);rintro e w' ⟨rfl,⟨nd,rfl⟩⟩))
     go_ret;exact⟨fO,bU HB.out Eh.out⟩
  .
   replace c5:=Bool.eq_false_iff.mpr c5;subst c5
   have H1:(some false)=some r:=by rw[if_neg (show ¬ (false=true) by decide)] at H;exact H
   clear H;have H:=H1;clear H1;obtain rfl:=Option.some.inj H
   go_enter Try.func102,Try.ntmps102
   go_wp2_with (first|((with_reducible refine bT (N:=1) rfl ?_);refine dN ?hg (N:=1) ?hd (cs:=#[.int .i64 fM,.int .i64 gB,.int .i64 gX,.int .i64 ay,.int .i64 aC]) (t:=37) ?hr ?_;(case hd=>rfl);(case hg=>rfl);(case hr=>first|(go_simp;done)|(go_simp;rfl));intro UJ hg yc hbox hb;have xk:=ak (hbox);have Tc:=ak ((bH hg (bF HB.out)));have Eh:=ak ((bH hg (bF HB.out)));replace HB:=ak (aU (bF HB.out) hb);clear hb hbox hg;obtain⟨qbx,qby,qbz,qb3,qb4⟩:=aX xk.out;obtain⟨qcm,qcn,qco,qcp,qcq⟩:=aZ xk.out)|((with_reducible refine bZ (f:=70) rfl ?_);refine bY (some 5) Try.func70 #[.int .i64 fM] ?_;(with_reducible refine(qV.calls fM true _ A2.out).mono ?_);rintro e w' ⟨rfl,⟨nd,rfl⟩⟩;refine⟨_,rfl,?_⟩)|(go_at_call 70;(with_reducible refine(qV.calls gB false _ A4.out).mono ?_);rintro e w' ⟨rfl,⟨nd,rfl⟩⟩))
   go_ret;exact⟨fO,bU HB.out Eh.out⟩
 .
  replace c3:=Bool.eq_false_iff.mpr c3;subst c3
  have H1:(some false)=some r:=by rw[if_neg (show ¬ (false=true) by decide)] at H;exact H
  clear H;have H:=H1;clear H1;obtain rfl:=Option.some.inj H
  go_enter Try.func102,Try.ntmps102
  go_wp2_with (first|((with_reducible refine bT (N:=1) rfl ?_);refine dN ?hg (N:=1) ?hd (cs:=#[.int .i64 fM,.int .i64 gB,.int .i64 gX,.int .i64 ay,.int .i64 aC]) (t:=37) ?hr ?_;(case hd=>rfl);(case hg=>rfl);(case hr=>first|(go_simp;done)|(go_simp;rfl));intro UJ hg Y6 hbox hb;have xk:=ak (hbox);have Tc:=ak ((bH hg (bF HB.out)));have Eh:=ak ((bH hg (bF HB.out)));replace HB:=ak (aU (bF HB.out) hb);clear hb hbox hg;obtain⟨Oa,Ob,Oc,Oe,Og⟩:=aX xk.out;obtain⟨Ov,Ox,Oy,Oz,OA⟩:=aZ xk.out)|((with_reducible refine bZ (f:=70) rfl ?_);refine bY (some 5) Try.func70 #[.int .i64 fM] ?_;(with_reducible refine(qV.calls fM false _ A2.out).mono ?_);rintro e w' ⟨rfl,⟨nd,rfl⟩⟩;refine⟨_,rfl,?_⟩))
  go_ret;exact⟨fO,bU HB.out Eh.out⟩
def nN.l0:Nat->List (aN)->List (aN)->Int->Int->Option (Bool)
 | 0,_,_,_,_=>none
 | k+1,x0,x5,x6,x7=>if x7<x6 then (if 0<=x7 then (if x7<(x5.length:Int) then ((zC.f ((aj x5 x7).f0) ((aj x5 x7).f1) ((aj x5 x7).f2) ((aj x5 x7).f3) ((aj x5 x7).f4)).bind fun t164=>(if t164=true then (nN.l0 k x0 x5 x6 (wrap64 (x7+1))) else (some false))) else (none)) else (none)) else (some (decide ((x0.length:Int)<=12)))
def nN.f (k:Nat)(l0:List (aN)):Option (Bool):=nN.l0 k l0 l0 (l0.length:Int) 0
theorem nN.LQ:∀ k,(∀ y0 y1 y2 y3,gy (nN.l0 k y0 y1 y2 y3) (nN.l0 (k+1) y0 y1 y2 y3))
 | 0=>fun _ _ _ _ r h=>by simp[nN.l0] at h
 | k+1=>by
  have wB:=nN.LQ k
  .
   intro y0 y1 y2 y3;unfold nN.l0
   repeat' first
   | (with_reducible exact wB _ _ _ _)
   | (with_reducible exact gy.refl _)
   | (with_reducible exact gy.none _)
   | (with_reducible refine gy.ite ?_ ?_)
   | (with_reducible refine gy.bind ?_ (fun _=>?_))
   | exact wB _ _ _ _
   | exact gy.none _
   | refine gy.ite ?_ ?_
   | refine gy.bind ?_ (fun _=>?_)
theorem nN.mono:∀ a0 k,gy (nN.f k a0) (nN.f (k+1) a0):=by
 intro a0 k;have wB:=nN.LQ k;unfold nN.f
 repeat' first
   | (with_reducible exact wB _ _ _ _)
   | (with_reducible exact gy.refl _)
   | (with_reducible exact gy.none _)
   | (with_reducible refine gy.ite ?_ ?_)
   | (with_reducible refine gy.bind ?_ (fun _=>?_))
   | exact wB _ _ _ _
   | exact gy.none _
   | refine gy.ite ?_ ?_
   | refine gy.bind ?_ (fun _=>?_)
theorem nN.calls (k:Nat)(A0:Option Addr)(c0:Nat)(l0:List (aN))(r:Bool)(w:World)(hr0:Kd.C k37 w A0 l0.length l0)(hc0:l0.length<=c0)(h:nN.f k l0=some r) :
  Calls Try.prog 69 #[.slice A0 l0.length c0] w fun e w'=>e=.returned (.bool r)/\Below w.heap.size w w':=by
 have zB:=Try.underlying37;have HR0:=ak hr0;have yu:=ak hc0;clear hr0 hc0;have HB:=ak (Below.refl w.heap.size w);have H:(nN.l0 k l0 l0 (l0.length:Int) 0)=some r:=h;clear h;have H':=ak H;clear H
 go_enter Try.func69,Try.ntmps69
 go_wp2
 go_loopg [7] k (fun kq v7 w'=>∃ (kN:Int),v7=.int .i64 kN/\Aside0 (nN.l0 kq l0 l0 (l0.length:Int) kN=some r)/\Aside0 (kq<=k)/\Aside0 (Below w.heap.size w w'))
 case atStart=>exact⟨(0),(by first|rfl|(simp;done)|(simp[*];done)),H',⟨Nat.le_refl _⟩,⟨bF HB.out⟩⟩
 case round=>
  clear H';obtain⟨kN,rfl,HA,qR,HB⟩:=hrel
  cases gk with
  | zero=>exact absurd HA.out (by simp[nN.l0])
  | succ k1=>
   have H:=HA.out;clear HA;simp only[nN.l0] at H;by_cases c2:kN<(l0.length:Int)
   .
    rw[if_pos c2] at H;have J9:decide (kN<(l0.length:Int))=true:=decide_eq_true c2;clear c2;by_cases c3:0<=kN
    .
     rw[if_pos c3] at H;have xO:decide (0<=kN)=true:=decide_eq_true c3;clear c3;by_cases c4:kN<(l0.length:Int)
     .
      rw[if_pos c4] at H;have Aw:decide (kN<(l0.length:Int))=true:=decide_eq_true c4;clear c4;replace H:=Option.bind_eq_some_iff.mp H;obtain⟨t164,zY,H⟩:=H;replace H:(if t164=true then (nN.l0 k1 l0 l0 (l0.length:Int) (wrap64 (kN+1))) else (some false))=some r:=H;have A5:=ak zY;clear zY;by_cases c6:t164=true
      .
       subst c6
       have H1:(nN.l0 k1 l0 l0 (l0.length:Int) (wrap64 (kN+1)))=some r:=by rw[if_pos rfl] at H;exact H
       clear H;have H:=H1;clear H1;have H':=ak H;clear H;have OI:0<=(kN:Int):=d_;have OZ:kN<(l0.length:Int):=d_;obtain⟨qp5,e162,Vp,Vq,Vr,Vs,Vt⟩:=uS HR0.out kN OI OZ;cases e162;replace Vp:=bn HB.out Vp;replace Vq:=bn HB.out Vq;replace Vr:=bn HB.out Vr;replace Vs:=bn HB.out Vs;replace Vt:=bn HB.out Vt;replace OI:=eq_true OI;replace OZ:=eq_true OZ
       go_wp2_with (first|((with_reducible refine bT (N:=4) rfl ?_);refine dN ?hg (N:=4) ?hd (cs:=#[.int .i64 0,.int .i64 0,.int .i64 0,.int .i64 0,.int .i64 0]) (t:=37) ?hr ?_;(case hd=>rfl);(case hg=>rfl);(case hr=>first|(go_simp;done)|(go_simp;rfl));intro qbi hg w7 hbox hb;have Io:=ak (hbox);have qoz:=ak ((bH hg (bF HB.out)));have SV:=ak ((bH hg (bF HB.out)));replace HB:=ak (aU (bF HB.out) hb);clear hb hbox hg;obtain⟨X_,Ya,Yb,qcc,qcd⟩:=aX Io.out;obtain⟨qcz,Yj,Yk,qc0,qc7⟩:=aZ Io.out)|((with_reducible refine bZ (f:=102) rfl ?_);refine bY (some 12) Try.func102 #[.agg #[.int .i64 ((aj l0 kN).f0),.int .i64 ((aj l0 kN).f1),.int .i64 ((aj l0 kN).f2),.int .i64 ((aj l0 kN).f3),.int .i64 ((aj l0 kN).f4)]] ?_;(with_reducible refine(zC.calls ((aj l0 kN).f0) ((aj l0 kN).f1) ((aj l0 kN).f2) ((aj l0 kN).f3) ((aj l0 kN).f4) true _ A5.out).mono ?_);rintro e w9 ⟨rfl,hb⟩;refine⟨_,rfl,?_⟩;replace Io:=ak (pK (g:=qbi) (o:=.cells #[.int .i64 ((aj l0 kN).f0),.int .i64 ((aj l0 kN).f1),.int .i64 ((aj l0 kN).f2),.int .i64 ((aj l0 kN).f3),.int .i64 ((aj l0 kN).f4)] 37 (0,0)) (by(with_reducible repeat(first|refine dn ?_ _|refine bG ?_|refine cO ?_ _));exact(LU Io.out _ _ _ _ _)) hb);replace HB:=ak (aU (bU HB.out SV.out) hb);(try clear hb);(try clear hb2);(try clear hk);(try clear hi)))
       go_roundg k1
       case measure=>have:=qR.out;omega
       case rel=>exact⟨(wrap64 (kN+1)),(by first|rfl|(simp;done)|(simp[*];done)),H',⟨by have:=qR.out;omega⟩,⟨bU HB.out SV.out⟩⟩
      .
       replace c6:=Bool.eq_false_iff.mpr c6;subst c6
       have H1:(some false)=some r:=by rw[if_neg (show ¬ (false=true) by decide)] at H;exact H
       clear H;have H:=H1;clear H1;obtain rfl:=Option.some.inj H;have OI:0<=(kN:Int):=d_;have OZ:kN<(l0.length:Int):=d_;obtain⟨qp5,e162,Vp,Vq,Vr,Vs,Vt⟩:=uS HR0.out kN OI OZ;cases e162;replace Vp:=bn HB.out Vp;replace Vq:=bn HB.out Vq;replace Vr:=bn HB.out Vr;replace Vs:=bn HB.out Vs;replace Vt:=bn HB.out Vt;replace OI:=eq_true OI;replace OZ:=eq_true OZ
       go_wp2_with (first|((with_reducible refine bT (N:=4) rfl ?_);refine dN ?hg (N:=4) ?hd (cs:=#[.int .i64 0,.int .i64 0,.int .i64 0,.int .i64 0,.int .i64 0]) (t:=37) ?hr ?_;(case hd=>rfl);(case hg=>rfl);(case hr=>first|(go_simp;done)|(go_simp;rfl));intro qbi hg w10 hbox hb;have Io:=ak (hbox);have qoz:=ak ((bH hg (bF HB.out)));have SV:=ak ((bH hg (bF HB.out)));replace HB:=ak (aU (bF HB.out) hb);clear hb hbox hg;obtain⟨Kv,Kw,Ky,NT,NU⟩:=aX Io.out;obtain⟨KN,KO,KP,Oh,Oi⟩:=aZ Io.out)|((with_reducible refine bZ (f:=102) rfl ?_);refine bY (some 12) Try.func102 #[.agg #[.int .i64 ((aj l0 kN).f0),.int .i64 ((aj l0 kN).f1),.int .i64 ((aj l0 kN).f2),.int .i64 ((aj l0 kN).f3),.int .i64 ((aj l0 kN).f4)]] ?_;(with_reducible refine(zC.calls ((aj l0 kN).f0) ((aj l0 kN).f1) ((aj l0 kN).f2) ((aj l0 kN).f3) ((aj l0 kN).f4) false _ A5.out).mono ?_);rintro e w12 ⟨rfl,hb⟩;refine⟨_,rfl,?_⟩;replace Io:=ak (pK (g:=qbi) (o:=.cells #[.int .i64 ((aj l0 kN).f0),.int .i64 ((aj l0 kN).f1),.int .i64 ((aj l0 kN).f2),.int .i64 ((aj l0 kN).f3),.int .i64 ((aj l0 kN).f4)] 37 (0,0)) (by(with_reducible repeat(first|refine dn ?_ _|refine bG ?_|refine cO ?_ _));exact(LU Io.out _ _ _ _ _)) hb);replace HB:=ak (aU (bU HB.out SV.out) hb);(try clear hb);(try clear hb2);(try clear hk);(try clear hi)))
       go_ret;exact⟨fO,bU HB.out SV.out⟩
     .
      rw[if_neg c4] at H;exact absurd H (by simp)
    .
     rw[if_neg c3] at H;exact absurd H (by simp)
   .
    rw[if_neg c2] at H;have J9:decide (kN<(l0.length:Int))=false:=decide_eq_false c2;clear c2;obtain rfl:=Option.some.inj H
    go_wp2
    go_ret;exact⟨fO,bF HB.out⟩
theorem qu9 (w:World)(cs:Array Value)(t:TypeId):(w.alloc (.cells cs t)).heap[w.heap.size]? = some (.cells cs t (0,0)):=by
 show (w.heap.push _)[w.heap.size]? = _
 simp
theorem qva (w:World)(o:Obj):(w.alloc o).heap.size=w.heap.size+1:=by
 show (w.heap.push o).size=_
 simp
def bits_Mul64.f (a0:Int)(a1:Int):Option (Int×Int):=some (IntKind.u64.wrap ((IntKind.u64.wrap ((IntKind.u64.wrap ((a0 / 4294967296)*(a1 / 4294967296)))+((IntKind.u64.wrap ((IntKind.u64.wrap ((a0 / 4294967296)*(Go.bits .and .u64 a1 4294967295)))+((IntKind.u64.wrap ((Go.bits .and .u64 a0 4294967295)*(Go.bits .and .u64 a1 4294967295))) / 4294967296))) / 4294967296)))+((IntKind.u64.wrap ((Go.bits .and .u64 (IntKind.u64.wrap ((IntKind.u64.wrap ((a0 / 4294967296)*(Go.bits .and .u64 a1 4294967295)))+((IntKind.u64.wrap ((Go.bits .and .u64 a0 4294967295)*(Go.bits .and .u64 a1 4294967295))) / 4294967296))) 4294967295)+(IntKind.u64.wrap ((Go.bits .and .u64 a0 4294967295)*(a1 / 4294967296))))) / 4294967296)),IntKind.u64.wrap (a0*a1))
theorem bits_Mul64.calls (a0:Int)(a1:Int)(r1:Int)(r2:Int)(w:World)(h:bits_Mul64.f a0 a1=some (r1,r2)) :
  Calls Try.prog 126 #[.int .u64 a0,.int .u64 a1] w fun e w'=>e=.returned (.tuple #[.int .u64 r1,.int .u64 r2])/\gu w w':=by
 have H:(some (IntKind.u64.wrap ((IntKind.u64.wrap ((IntKind.u64.wrap ((a0 / 4294967296)*(a1 / 4294967296)))+((IntKind.u64.wrap ((IntKind.u64.wrap ((a0 / 4294967296)*(Go.bits .and .u64 a1 4294967295)))+((IntKind.u64.wrap ((Go.bits .and .u64 a0 4294967295)*(Go.bits .and .u64 a1 4294967295))) / 4294967296))) / 4294967296)))+((IntKind.u64.wrap ((Go.bits .and .u64 (IntKind.u64.wrap ((IntKind.u64.wrap ((a0 / 4294967296)*(Go.bits .and .u64 a1 4294967295)))+((IntKind.u64.wrap ((Go.bits .and .u64 a0 4294967295)*(Go.bits .and .u64 a1 4294967295))) / 4294967296))) 4294967295)+(IntKind.u64.wrap ((Go.bits .and .u64 a0 4294967295)*(a1 / 4294967296))))) / 4294967296)),IntKind.u64.wrap (a0*a1)))=some (r1,r2):=h;clear h;simp only[Option.some.injEq,Prod.mk.injEq] at H;obtain⟨rfl,rfl⟩:=H
 go_enter Try.func126,Try.ntmps126
 go_wp2
 go_ret2
 exact⟨by first|rfl|(simp;done)|(simp[*];done),by repeat(first|exact gu.refl _|apply gu.step)⟩
def bits_Mul.f (a0:Int)(a1:Int):Option (Int×Int):=(bits_Mul64.f a0 a1).bind fun Uk=>(some (Uk.1,Uk.2))
theorem bits_Mul.calls (a0:Int)(a1:Int)(r1:Int)(r2:Int)(w:World)(h:bits_Mul.f a0 a1=some (r1,r2)) :
  Calls Try.prog 118 #[.int .u64 a0,.int .u64 a1] w fun e w'=>e=.returned (.tuple #[.int .u64 r1,.int .u64 r2])/\gu w w':=by
 have H:((bits_Mul64.f a0 a1).bind fun Uk=>(some (Uk.1,Uk.2)))=some (r1,r2):=h;clear h;replace H:=Option.bind_eq_some_iff.mp H;obtain⟨⟨t165,t166⟩,qN,H⟩:=H;replace H:(some (t165,t166))=some (r1,r2):=H;have A3:=ak qN;clear qN;simp only[Option.some.injEq,Prod.mk.injEq] at H;obtain⟨rfl,rfl⟩:=H
 go_enter Try.func118,Try.ntmps118
 go_wp2_with (first|((with_reducible refine bZ (f:=126) rfl ?_);refine bY (some 25) Try.func126 #[.int .u64 a0,.int .u64 a1] ?_;(with_reducible refine(bits_Mul64.calls a0 a1 t165 t166 _ A3.out).mono ?_);rintro e w' ⟨rfl,⟨nd,rfl⟩⟩;refine⟨_,rfl,?_⟩))
 go_ret2
 exact⟨by first|rfl|(simp;done)|(simp[*];done),by repeat(first|exact gu.refl _|apply gu.step)⟩
def Pm.f (l0:List Int)(a1:Int):Option (List Int):=if l0.length=1/\a1=8 then some (List.replicate 8 (rd l0 0)) else none
theorem qzs:madeCells (Value.int .i64 0).cells 8=#[.int .i64 0,.int .i64 0,.int .i64 0,.int .i64 0,.int .i64 0,.int .i64 0,.int .i64 0,.int .i64 0]:=by
 apply Array.ext
 .
  simp[madeCells]
 .
  intro i h1 h2
  match i,h2 with
  | 0,_=>simp[madeCells,Value.cells]
  | 1,_=>simp[madeCells,Value.cells]
  | 2,_=>simp[madeCells,Value.cells]
  | 3,_=>simp[madeCells,Value.cells]
  | 4,_=>simp[madeCells,Value.cells]
  | 5,_=>simp[madeCells,Value.cells]
  | 6,_=>simp[madeCells,Value.cells]
  | 7,_=>simp[madeCells,Value.cells]
  | n+8,h=>exact absurd h (by simp)
theorem qay (W:World)(g j:Nat):W.cell? ((⟨g,0,none⟩:Addr).add j)=W.cell? ⟨g,j,none⟩:=by
 unfold Addr.add
 split
 .
  rename_i h;rw[h]
 .
  simp only[Nat.zero_add]
theorem qz3:bits_Mul.f 1 8=some (0,8):=by decide +kernel
theorem Pm.calls (A0:Option Addr)(c0:Nat)(l0:List Int)(a1:Int)(r:List Int)(w:World)(hr0:Kd.C (Kd.int .i64) w A0 l0.length l0)(hc0:l0.length<=c0)(h:Pm.f l0 a1=some r) :
  Calls Try.prog 103 #[.slice A0 l0.length c0,.int .i64 a1] w fun e w'=>∃ ku:Value,e=.returned (ku)/\Kd.R (Kd.int .i64) 3 w' w.heap.size (fun _=>True) ku r/\Below w.heap.size w w':=by
 unfold Pm.f at h;by_cases hl:l0.length=1/\a1=8
 .
  rw[if_pos hl] at h;obtain rfl:=Option.some.inj h;obtain⟨hl1,rfl⟩:=hl;obtain⟨ad,rfl,hx⟩:=Kd.Au hr0 0 (by omega) (by omega);have HR:=ak hr0;clear hr0;rw[hl1] at hc0 ⊢
  have hm:∀ W:World,Sem.run Try.prog (Instr.makeSlice 60 (.int .i64 8) (.int .i64 8)) W=.ok (.slice (some ⟨W.heap.size,0,none⟩) 8 8) (W.alloc (.cells #[.int .i64 0,.int .i64 0,.int .i64 0,.int .i64 0,.int .i64 0,.int .i64 0,.int .i64 0,.int .i64 0] 3)):=fun W=>by
   obtain⟨i0,hi,hz0,hz1,hz2⟩:=info_parts info3;have h:=run_makeSlice (P:=Try.prog) W 60 3 i0 (.int .i64 0) Try.underlying60 hi hz0 .i64 .i64 8 8 (by decide) (by decide) (by rw[hz1];decide) (by rw[hz2];decide) (by decide);rw[hz1] at h;rw[h,show Int.toNat 8*1=8 from rfl,qzs];rfl
  generalize rd l0 0=x at hx ⊢
  have hsrc:Aside0 (∀ W:World,Below w.heap.size w W->∀ (j:Nat) (v:Value),[Value.int .i64 x][j]? = some v->W.cell? (ad.add j)=some v):=⟨fun W hb j v hj=>by
   match j,hj with
   | 0,hj=>
    have:v=.int .i64 x:=(by simpa using hj:Value.int .i64 x=v).symm;subst this
    exact RV hb hx⟩
  have hsz:Aside0 ((Try.prog.info? 3).map (·.size)=some 1):=⟨by kernel_rfl⟩
  have hone:Aside0 (∀ v∈[Value.int .i64 x],v.oneCell'=true):=⟨fun v hv=>by rw[List.mem_singleton.1 hv];rfl⟩
  go_enter Try.func103,Try.ntmps103
  go_wp2_with (first|(go_at_call 118;refine(bits_Mul.calls 1 8 0 8 _ qz3).mono ?_;rintro e w1 ⟨rfl,⟨n1,rfl⟩⟩)|(refine wpList_copy_splice rfl (.tmp 31) (.tmp 32) 60 60 rfl 3 Try.underlying60 hsz.out _ _ _ _ _ _ rfl rfl w.heap.size 0 [.int .i64 0,.int .i64 0,.int .i64 0,.int .i64 0,.int .i64 0,.int .i64 0,.int .i64 0,.int .i64 0] 3 (qu9 _ _ _) [.int .i64 x] rfl (fun _=>⟨rfl,ad,rfl,hsrc.out _ (gK (ig (Below.refl _ _) _) _)⟩) (by simp) hone.out w.heap.size w (gK (ig (Below.refl _ _) _) _) (Nat.le_refl _) ?_;intro w2 hg2 hb2))
  have HG0:=ak hg2;have HB0:=ak hb2;clear hg2 hb2
  go_loopg [8] 3 (fun gg s8 wr=>Aside0 (Below w.heap.size w wr)/\((3<=gg/\s8=.int .i64 1/\Aside0 (Hid (wr.heap[w.heap.size]? = some (.cells (List.toArray [.int .i64 x,.int .i64 0,.int .i64 0,.int .i64 0,.int .i64 0,.int .i64 0,.int .i64 0,.int .i64 0]) 3 (0,0)))))\/(2<=gg/\s8=.int .i64 2/\Aside0 (Hid (wr.heap[w.heap.size]? = some (.cells (List.toArray [.int .i64 x,.int .i64 x,.int .i64 0,.int .i64 0,.int .i64 0,.int .i64 0,.int .i64 0,.int .i64 0]) 3 (0,0)))))\/(1<=gg/\s8=.int .i64 4/\Aside0 (Hid (wr.heap[w.heap.size]? = some (.cells (List.toArray [.int .i64 x,.int .i64 x,.int .i64 x,.int .i64 x,.int .i64 0,.int .i64 0,.int .i64 0,.int .i64 0]) 3 (0,0)))))\/(s8=.int .i64 8/\Aside0 (Hid (wr.heap[w.heap.size]? = some (.cells (List.toArray [.int .i64 x,.int .i64 x,.int .i64 x,.int .i64 x,.int .i64 x,.int .i64 x,.int .i64 x,.int .i64 x]) 3 (0,0)))))))
  case atStart=>exact⟨HB0,.inl ⟨Nat.le_refl _,rfl,HG0⟩⟩
  case round=>
  obtain⟨HB,⟨hg,rfl,HG⟩|⟨hg,rfl,HG⟩|⟨hg,rfl,HG⟩|⟨rfl,HG⟩⟩:=hrel
  .
   have hsrc1:Aside0 (∀ W:World,Hid (W.heap[w.heap.size]? = some (.cells (List.toArray [.int .i64 x,.int .i64 0,.int .i64 0,.int .i64 0,.int .i64 0,.int .i64 0,.int .i64 0,.int .i64 0]) 3 (0,0)))->∀ (j:Nat) (v:Value),[Value.int .i64 x][j]? = some v->W.cell? ((⟨w.heap.size,0,none⟩:Addr).add j)=some v):=⟨fun W hg j v hj=>by
    have e:=cell_of_row W w.heap.size (0+j) _ 3 (0,0) hg;rw[Nat.zero_add] at e;refine Eq.trans (qay W w.heap.size j) (e.trans ?_);clear e hg;have hl:=(List.getElem?_eq_some_iff.1 hj).1
    match j,hl,hj with
    | 0,_,hj=>exact hj
    | m+1,hl,_=>exact absurd hl (by simp)⟩
   have qyn:Aside0 (∀ v∈[Value.int .i64 x],v.oneCell'=true):=⟨fun v hv=>by simp at hv;rw[hv];rfl⟩
   go_wp2_with fail
   go_region_held3 (fun W=>True) (exact trivial) ((first|(refine step_copy_splice rfl (.tmp 41) (.tmp 44) 60 60 rfl 3 Try.underlying60 hsz.out _ _ _ _ _ _ rfl rfl w.heap.size 1 [.int .i64 x,.int .i64 0,.int .i64 0,.int .i64 0,.int .i64 0,.int .i64 0,.int .i64 0,.int .i64 0] 3 HG.out [Value.int .i64 x] rfl (fun _=>⟨rfl,_,rfl,hsrc1.out _ HG.out⟩) (by simp) qyn.out w.heap.size w (iq HB.out) (Nat.le_refl _) ?_;intro w3 hg3 hb3)|fail))
   all_goals go_wp2_with fail
   go_roundg 2
   case measure=>omega
   case rel=>exact⟨⟨hb3⟩,.inr (.inl ⟨by omega,by rfl,⟨hg3⟩⟩)⟩
  .
   have qys:Aside0 (∀ W:World,Hid (W.heap[w.heap.size]? = some (.cells (List.toArray [.int .i64 x,.int .i64 x,.int .i64 0,.int .i64 0,.int .i64 0,.int .i64 0,.int .i64 0,.int .i64 0]) 3 (0,0)))->∀ (j:Nat) (v:Value),[Value.int .i64 x,Value.int .i64 x][j]? = some v->W.cell? ((⟨w.heap.size,0,none⟩:Addr).add j)=some v):=⟨fun W hg j v hj=>by
    have e:=cell_of_row W w.heap.size (0+j) _ 3 (0,0) hg;rw[Nat.zero_add] at e;refine Eq.trans (qay W w.heap.size j) (e.trans ?_);clear e hg;have hl:=(List.getElem?_eq_some_iff.1 hj).1
    match j,hl,hj with
    | 0,_,hj=>exact hj
    | 1,_,hj=>exact hj
    | m+2,hl,_=>exact absurd hl (by simp)⟩
   have qyo:Aside0 (∀ v∈[Value.int .i64 x,Value.int .i64 x],v.oneCell'=true):=⟨fun v hv=>by simp at hv;rw[hv];rfl⟩
   go_wp2_with fail
   go_region_held3 (fun W=>True) (exact trivial) ((first|(refine step_copy_splice rfl (.tmp 41) (.tmp 44) 60 60 rfl 3 Try.underlying60 hsz.out _ _ _ _ _ _ rfl rfl w.heap.size 2 [.int .i64 x,.int .i64 x,.int .i64 0,.int .i64 0,.int .i64 0,.int .i64 0,.int .i64 0,.int .i64 0] 3 HG.out [Value.int .i64 x,Value.int .i64 x] rfl (fun _=>⟨rfl,_,rfl,qys.out _ HG.out⟩) (by simp) qyo.out w.heap.size w (iq HB.out) (Nat.le_refl _) ?_;intro w3 hg3 hb3)|fail))
   all_goals go_wp2_with fail
   go_roundg 1
   case measure=>omega
   case rel=>exact⟨⟨hb3⟩,.inr (.inr (.inl ⟨by omega,by rfl,⟨hg3⟩⟩))⟩
  .
   have qyt:Aside0 (∀ W:World,Hid (W.heap[w.heap.size]? = some (.cells (List.toArray [.int .i64 x,.int .i64 x,.int .i64 x,.int .i64 x,.int .i64 0,.int .i64 0,.int .i64 0,.int .i64 0]) 3 (0,0)))->∀ (j:Nat) (v:Value),[Value.int .i64 x,Value.int .i64 x,Value.int .i64 x,Value.int .i64 x][j]? = some v->W.cell? ((⟨w.heap.size,0,none⟩:Addr).add j)=some v):=⟨fun W hg j v hj=>by
    have e:=cell_of_row W w.heap.size (0+j) _ 3 (0,0) hg;rw[Nat.zero_add] at e;refine Eq.trans (qay W w.heap.size j) (e.trans ?_);clear e hg;have hl:=(List.getElem?_eq_some_iff.1 hj).1
    match j,hl,hj with
    | 0,_,hj=>exact hj
    | 1,_,hj=>exact hj
    | 2,_,hj=>exact hj
    | 3,_,hj=>exact hj
    | m+4,hl,_=>exact absurd hl (by simp)⟩
   have qyp:Aside0 (∀ v∈[Value.int .i64 x,Value.int .i64 x,Value.int .i64 x,Value.int .i64 x],v.oneCell'=true):=⟨fun v hv=>by simp at hv;rw[hv];rfl⟩
   go_wp2_with fail
   go_region_held3 (fun W=>True) (exact trivial) ((first|(refine step_copy_splice rfl (.tmp 41) (.tmp 44) 60 60 rfl 3 Try.underlying60 hsz.out _ _ _ _ _ _ rfl rfl w.heap.size 4 [.int .i64 x,.int .i64 x,.int .i64 x,.int .i64 x,.int .i64 0,.int .i64 0,.int .i64 0,.int .i64 0] 3 HG.out [Value.int .i64 x,Value.int .i64 x,Value.int .i64 x,Value.int .i64 x] rfl (fun _=>⟨rfl,_,rfl,qyt.out _ HG.out⟩) (by simp) qyp.out w.heap.size w (iq HB.out) (Nat.le_refl _) ?_;intro w3 hg3 hb3)|fail))
   all_goals go_wp2_with fail
   go_roundg 0
   case measure=>omega
   case rel=>exact⟨⟨hb3⟩,.inr (.inr (.inr ⟨by rfl,⟨hg3⟩⟩))⟩
  .
   go_wp2
   go_ret;refine⟨_,rfl,Kd.qge ⟨rfl,.inr ⟨_,8,_,rfl,Nat.le_refl _,HG.out,Nat.le_refl _,by decide,rfl,rfl⟩⟩ (fun _ _=>trivial),HB.out⟩
 .
  rw[if_neg hl] at h;cases h
mutual
def bK.l0:Nat->List Int->Int->List (aN)->List Bool->List Bool->Int->Int->Option (Int×Bool)
 | 0,_,_,_,_,_,_,_=>none
 | k+1,x4,x11,L_,Ih,Sm,Ii,Sr=>if x11<8 then (bK.l1 k x4 x11 L_ (L_.length:Int) 0 L_ Ih Sm Ii Sr) else (if 0<=Ii then (if Ii<(x4.length:Int) then (some (rd x4 Ii,decide ((rd x4 Ii)<1073741824))) else (none)) else (none))
def bK.l1:Nat->List Int->Int->List (aN)->Int->Int->List (aN)->List Bool->List Bool->Int->Int->Option (Int×Bool)
 | 0,_,_,_,_,_,_,_,_,_,_=>none
 | k+1,x4,x11,x14,x15,x16,L_,Ih,Sm,Ii,Sr=>if x16<x15 then (if 0<=x16 then (if x16<(x14.length:Int) then (if 0<=((aj x14 x16).f0) then (if ((aj x14 x16).f0)<(Ih.length:Int) then (if fE false Ih ((aj x14 x16).f0)=true then (if 0<=((aj x14 x16).f1) then (if ((aj x14 x16).f1)<(Ih.length:Int) then (if fE false Ih ((aj x14 x16).f1)=true then (if ((aj x14 x16).f0)<(x4.length:Int) then (if ((aj x14 x16).f1)<(x4.length:Int) then ((some (x4.set (((aj x14 x16).f0):Int).toNat (mn (rd x4 ((aj x14 x16).f0)) (wrap64 ((rd x4 ((aj x14 x16).f1))+((aj x14 x16).f2)))):List Int)).bind fun mO=>(bK.l1 k (mO.set (((aj x14 x16).f1):Int).toNat (mn (rd mO ((aj x14 x16).f1)) (wrap64 ((rd mO ((aj x14 x16).f0))+((aj x14 x16).f2))))) x11 x14 x15 (wrap64 (x16+1)) L_ Ih Sm Ii Sr)) else (none)) else (none)) else (bK.l1 k x4 x11 x14 x15 (wrap64 (x16+1)) L_ Ih Sm Ii Sr)) else (none)) else (none)) else (bK.l1 k x4 x11 x14 x15 (wrap64 (x16+1)) L_ Ih Sm Ii Sr)) else (none)) else (none)) else (none)) else (none)) else (bK.l0 k x4 (wrap64 (x11+1)) L_ Ih Sm Ii Sr)
end
def bK.f (k:Nat)(ah:List (aN))(au:List Bool)(aG:List Bool)(ay:Int)(aC:Int):Option (Int×Bool):=(Pm.f (([1073741824]:List Int)) 8).bind fun t171=>(if 0<(t171.length:Int) then (bK.l0 k (t171.set (0:Int).toNat 0) 0 ah au aG ay aC) else (none))
theorem bK.LQ:∀ k,(∀ y0 y1 y2 y3 y4 y5 y6,gy (bK.l0 k y0 y1 y2 y3 y4 y5 y6) (bK.l0 (k+1) y0 y1 y2 y3 y4 y5 y6))/\(∀ y0 y1 y2 y3 y4 y5 y6 y7 y8 y9,gy (bK.l1 k y0 y1 y2 y3 y4 y5 y6 y7 y8 y9) (bK.l1 (k+1) y0 y1 y2 y3 y4 y5 y6 y7 y8 y9))
 | 0=>⟨fun _ _ _ _ _ _ _ r h=>by simp[bK.l0] at h,fun _ _ _ _ _ _ _ _ _ _ r h=>by simp[bK.l1] at h⟩
 | k+1=>by
  obtain⟨wB,ih1⟩:=bK.LQ k;refine⟨?_,?_⟩
  .
   intro y0 y1 y2 y3 y4 y5 y6;unfold bK.l0
   repeat' first
   | (with_reducible exact wB _ _ _ _ _ _ _)
   | (with_reducible exact ih1 _ _ _ _ _ _ _ _ _ _)
   | (with_reducible exact gy.refl _)
   | (with_reducible exact gy.none _)
   | (with_reducible refine gy.ite ?_ ?_)
   | (with_reducible refine gy.bind ?_ (fun _=>?_))
   | exact wB _ _ _ _ _ _ _
   | exact ih1 _ _ _ _ _ _ _ _ _ _
   | exact gy.none _
   | refine gy.ite ?_ ?_
   | refine gy.bind ?_ (fun _=>?_)
  .
   intro y0 y1 y2 y3 y4 y5 y6 y7 y8 y9;unfold bK.l1
   repeat' first
   | (with_reducible exact wB _ _ _ _ _ _ _)
   | (with_reducible exact ih1 _ _ _ _ _ _ _ _ _ _)
   | (with_reducible exact gy.refl _)
   | (with_reducible exact gy.none _)
   | (with_reducible refine gy.ite ?_ ?_)
   | (with_reducible refine gy.bind ?_ (fun _=>?_))
   | exact wB _ _ _ _ _ _ _
   | exact ih1 _ _ _ _ _ _ _ _ _ _
   | exact gy.none _
   | refine gy.ite ?_ ?_
   | refine gy.bind ?_ (fun _=>?_)
theorem bK.mono:∀ a0 a1 a2 a3 a4 k,gy (bK.f k a0 a1 a2 a3 a4) (bK.f (k+1) a0 a1 a2 a3 a4):=by
 intro a0 a1 a2 a3 a4 k;obtain⟨wB,ih1⟩:=bK.LQ k;unfold bK.f
 repeat' first
   | (with_reducible exact wB _ _ _ _ _ _ _)
   | (with_reducible exact ih1 _ _ _ _ _ _ _ _ _ _)
   | (with_reducible exact gy.refl _)
   | (with_reducible exact gy.none _)
   | (with_reducible refine gy.ite ?_ ?_)
   | (with_reducible refine gy.bind ?_ (fun _=>?_))
   | exact wB _ _ _ _ _ _ _
   | exact ih1 _ _ _ _ _ _ _ _ _ _
   | exact gy.none _
   | refine gy.ite ?_ ?_
   | refine gy.bind ?_ (fun _=>?_)
def bK.T9:Bool×List (List Nat×List Nat):=(true,[([],[]),([],[]),([1],[1]),([],[]),([],[]),([4],[4]),([3,5],[3,5]),([6],[6]),([],[]),([],[]),([9],[9]),([8,10],[8,10]),([11],[11]),([],[]),([13],[13]),([12,14],[12,14]),([7,15],[7,15]),([0,2,0,1,2,3,4,5,6,7,8,9,10,11,12,13,14,15,16],[0,2]),([17,16,0,1,2,3,4,5,6,7,8,9,10,11,12,13,14,15,16],[16,17])])
def bK.B9:List Nat:=[0,0,2,0,0,16,56,120,0,0,512,1792,3840,0,8192,32512,65528,131071,262143]
theorem bK.tab9:ji .any (opsOf Try.f72 9)=bK.T9:=by kernel_rfl
theorem bK.qq0:o_ bK.T9.2 bK.B9=true:=by kernel_rfl
def bK.T10:Bool×List (List Nat×List Nat):=(true,[([],[]),([],[]),([1],[1]),([],[]),([],[]),([4],[4]),([3,5],[3,5]),([6],[6]),([],[]),([],[]),([9],[9]),([8,10],[8,10]),([11],[11]),([],[]),([13],[13]),([12,14],[12,14]),([7,15],[7,15]),([0,2,0,1,2,3,4,5,6,7,8,9,10,11,12,13,14,15,16],[0,2]),([17,16,0,1,2,3,4,5,6,7,8,9,10,11,12,13,14,15,16],[16,17])])
def bK.B10:List Nat:=[0,0,2,0,0,16,56,120,0,0,512,1792,3840,0,8192,32512,65528,131071,262143]
theorem bK.tab10:ji .any (opsOf Try.f72 10)=bK.T10:=by kernel_rfl
theorem bK.qqx:o_ bK.T10.2 bK.B10=true:=by kernel_rfl
def bK.T13:Bool×List (List Nat×List Nat):=(true,[([],[]),([],[]),([1],[1]),([0,2],[0,2]),([3],[3]),([],[]),([],[]),([6],[6]),([5,7],[5,7]),([8],[8]),([9],[9]),([4,0,1,2,3,4],[4]),([10,11,0,1,2,3,4,5,6,7,8,9,10,11],[10])])
def bK.B13:List Nat:=[0,0,2,7,15,0,0,64,224,480,992,31,4095]
theorem bK.tab13:ji .any (opsOf Try.f72 13)=bK.T13:=by kernel_rfl
theorem bK.qqy:o_ bK.T13.2 bK.B13=true:=by kernel_rfl
abbrev bK.mk0:Array Bool:=#[fF,fF,fF,fF,fF,fF,fF,fF,fF,fF,fF,fF,fF,fF,fF,fF,fF,fF,fF]
abbrev bK.mk1:Array Bool:=#[tT,fF,fF,fF,fF,fF,fF,fF,fF,fF,fF,fF,fF,fF,fF,fF,fF,fF,fF]
abbrev bK.mk2:Array Bool:=#[tT,tT,fF,fF,fF,fF,fF,fF,fF,fF,fF,fF,fF,fF,fF,fF,fF,fF,fF]
abbrev bK.mk3:Array Bool:=#[tT,tT,fF,tT,fF,fF,fF,fF,fF,fF,fF,fF,fF,fF,fF,fF,fF,fF,fF]
abbrev bK.mk4:Array Bool:=#[tT,tT,fF,tT,tT,fF,fF,fF,fF,fF,fF,fF,fF,fF,fF,fF,fF,fF,fF]
abbrev bK.qJ:Array Bool:=#[tT,tT,fF,tT,tT,fF,fF,fF,tT,fF,fF,fF,fF,fF,fF,fF,fF,fF,fF]
abbrev bK.mk6:Array Bool:=#[tT,tT,fF,tT,tT,fF,fF,fF,tT,tT,fF,fF,fF,fF,fF,fF,fF,fF,fF]
abbrev bK.gY:Array Bool:=#[tT,tT,fF,tT,tT,fF,fF,fF,tT,tT,fF,fF,fF,tT,fF,fF,fF,fF,fF]
abbrev bK.qK:Array Bool:=#[tT,tT,tT,tT,tT,fF,fF,fF,tT,tT,fF,fF,fF,tT,fF,fF,fF,fF,fF]
abbrev bK.sH:Array Bool:=#[tT,tT,tT,tT,tT,tT,fF,fF,tT,tT,fF,fF,fF,tT,fF,fF,fF,fF,fF]
abbrev bK.sG:Array Bool:=#[tT,tT,tT,tT,tT,tT,tT,fF,tT,tT,fF,fF,fF,tT,fF,fF,fF,fF,fF]
abbrev bK.uj:Array Bool:=#[tT,tT,tT,tT,tT,tT,tT,tT,tT,tT,fF,fF,fF,tT,fF,fF,fF,fF,fF]
abbrev bK.um:Array Bool:=#[tT,tT,tT,tT,tT,tT,tT,tT,tT,tT,tT,fF,fF,tT,fF,fF,fF,fF,fF]
abbrev bK.vw:Array Bool:=#[tT,tT,tT,tT,tT,tT,tT,tT,tT,tT,tT,tT,fF,tT,fF,fF,fF,fF,fF]
abbrev bK.vC:Array Bool:=#[tT,tT,tT,tT,tT,tT,tT,tT,tT,tT,tT,tT,tT,tT,fF,fF,fF,fF,fF]
abbrev bK.jU:Array Bool:=#[tT,tT,tT,tT,tT,tT,tT,tT,tT,tT,tT,tT,tT,tT,tT,fF,fF,fF,fF]
abbrev bK.BF:Array Bool:=#[tT,tT,tT,tT,tT,tT,tT,tT,tT,tT,tT,tT,tT,tT,tT,tT,fF,fF,fF]
abbrev bK.E5:Array Bool:=#[tT,tT,tT,tT,tT,tT,tT,tT,tT,tT,tT,tT,tT,tT,tT,tT,tT,fF,fF]
abbrev bK.E8:Array Bool:=#[tT,tT,tT,tT,tT,tT,tT,tT,tT,tT,tT,tT,tT,tT,tT,tT,tT,tT,fF]
abbrev bK.Fa:Array Bool:=#[tT,tT,tT,tT,tT,tT,tT,tT,tT,tT,tT,tT,tT,tT,tT,tT,tT,tT,tT]
abbrev bK.H9:Array Bool:=#[fF,fF,fF,fF,fF,fF,fF,fF,fF,fF,fF,fF,fF]
abbrev bK.LP:Array Bool:=#[tT,fF,fF,fF,fF,fF,fF,fF,fF,fF,fF,fF,fF]
abbrev bK.Ru:Array Bool:=#[tT,tT,fF,fF,fF,fF,fF,fF,fF,fF,fF,fF,fF]
abbrev bK.Rw:Array Bool:=#[tT,tT,fF,fF,fF,tT,fF,fF,fF,fF,fF,fF,fF]
abbrev bK.Rx:Array Bool:=#[tT,tT,fF,fF,fF,tT,tT,fF,fF,fF,fF,fF,fF]
abbrev bK.mk25:Array Bool:=#[tT,tT,tT,fF,fF,tT,tT,fF,fF,fF,fF,fF,fF]
abbrev bK.Ry:Array Bool:=#[tT,tT,tT,tT,fF,tT,tT,fF,fF,fF,fF,fF,fF]
abbrev bK.Rz:Array Bool:=#[tT,tT,tT,tT,tT,tT,tT,fF,fF,fF,fF,fF,fF]
abbrev bK.RD:Array Bool:=#[tT,tT,tT,tT,tT,tT,tT,fF,fF,fF,fF,tT,fF]
abbrev bK.RF:Array Bool:=#[tT,tT,tT,tT,tT,tT,tT,tT,fF,fF,fF,tT,fF]
abbrev bK.RG:Array Bool:=#[tT,tT,tT,tT,tT,tT,tT,tT,tT,fF,fF,tT,fF]
abbrev bK.RH:Array Bool:=#[tT,tT,tT,tT,tT,tT,tT,tT,tT,tT,fF,tT,fF]
abbrev bK.RI:Array Bool:=#[tT,tT,tT,tT,tT,tT,tT,tT,tT,tT,tT,tT,fF]
abbrev bK.RJ:Array Bool:=#[tT,tT,tT,tT,tT,tT,tT,tT,tT,tT,tT,tT,tT]
theorem bK.calls (k:Nat)(cu:Option Addr)(bV:Nat)(ah:List (aN))(dM:Option Addr)(dF:Nat)(au:List Bool)(dI:Option Addr)(dH:Nat)(aG:List Bool)(ay:Int)(aC:Int)(r1:Int)(r2:Bool)(w:World)(jq:Kd.C k37 w cu ah.length ah)(jl:ah.length<=bV)(jr:Kd.C Kd.bool w dM au.length au)(jm:au.length<=dF)(jv:Kd.C Kd.bool w dI aG.length aG)(jo:aG.length<=dH)(h:bK.f k ah au aG ay aC=some (r1,r2)) :
  Calls Try.prog 72 #[.agg #[.slice cu ah.length bV,.slice dM au.length dF,.slice dI aG.length dH,.int .i64 ay,.int .i64 aC]] w fun e w'=>e=.returned (.tuple #[.int .i64 r1,.bool r2])/\Below w.heap.size w w':=by
 have tJ:=Try.underlying30;have zB:=Try.underlying37;have jh:=ak jq;have jM:=ak jl;clear jq jl;have iL:=ak jr;have lF:=ak jm;clear jr jm;have l9:=ak jv;have l7:=ak jo;clear jv jo;have HB:=ak (Below.refl w.heap.size w);have H:((Pm.f (([1073741824]:List Int)) 8).bind fun t171=>(if 0<(t171.length:Int) then (bK.l0 k (t171.set (0:Int).toNat 0) 0 ah au aG ay aC) else (none)))=some (r1,r2):=h;clear h
 obtain⟨y168,hy168⟩:∃ y_:List Int,y_=(([1073741824]:List Int)):=⟨_,rfl⟩
 replace H:((Pm.f y168 8).bind fun t171=>(if 0<(t171.length:Int) then (bK.l0 k (t171.set (0:Int).toNat 0) 0 ah au aG ay aC) else (none)))=some (r1,r2):=by first|(rw[hy168];with_reducible exact H)|(have qQ:=(Option.bind_some _ _).symm.trans H;rw[hy168];with_reducible exact qQ)|(have qQ:=(Option.bind_some _ _).symm.trans H;with_reducible exact qQ)|with_reducible exact H|(rw[hy168];exact H)|exact H
 have qpu:=ak hy168;clear hy168;replace H:=Option.bind_eq_some_iff.mp H;obtain⟨t171,lC,H⟩:=H;replace H:(if 0<(t171.length:Int) then (bK.l0 k (t171.set (0:Int).toNat 0) 0 ah au aG ay aC) else (none))=some (r1,r2):=H;have A2:=ak lC;clear lC;by_cases c3:0<(t171.length:Int)
 .
  rw[if_pos c3] at H;have xO:decide (0<(t171.length:Int))=true:=decide_eq_true c3;have G5:decide (0<t171.length)=true:=decide_eq_true (by omega);clear c3
  obtain⟨qfi,VK⟩:∃ y_:List Int,y_=(t171.set (0:Int).toNat 0):=⟨_,rfl⟩
  replace H:(bK.l0 k qfi 0 ah au aG ay aC)=some (r1,r2):=by first|(rw[VK];with_reducible exact H)|(have qQ:=(Option.bind_some _ _).symm.trans H;rw[VK];with_reducible exact qQ)|(have qQ:=(Option.bind_some _ _).symm.trans H;with_reducible exact qQ)|with_reducible exact H|(rw[VK];exact H)|exact H
  have qpv:=ak VK;clear VK;have H':=ak H;clear H
  go_enter Try.func72,Try.ntmps72
  go_wp2_with (first|((with_reducible refine bT (N:=1) rfl ?_);refine dN ?hg (N:=1) ?hd (cs:=#[.slice cu ah.length bV,.slice dM au.length dF,.slice dI aG.length dH,.int .i64 ay,.int .i64 aC]) (t:=30) ?hr ?_;(case hd=>rfl);(case hg=>rfl);(case hr=>first|(go_simp;done)|(go_simp;rfl));intro Hg hg w5 hbox hb;have jy:=ak (hbox);have qDv:=ak ((bH hg (bF HB.out)));have tY:=ak ((bH hg (bF HB.out)));replace HB:=ak (aU (bF HB.out) hb);clear hb hbox hg)|((with_reducible refine bT (N:=7) rfl ?_);refine Kd.ru (Kd.int .i64) _ 3 ?hg (N:=7) ?hd (xs:=([1073741824]:List Int)) (inner:=[.int .i64 1073741824]) (ok:=fun _=>True) (iJ:=fun _=>True) ?hr ?hp (fun _ hk=>hk) trivial (Below.refl _ _) (Nat.le_refl _) (by simp) ?_;(case hd=>rfl);(case hg=>rfl);(case hr=>first|(go_simp;done)|(go_simp;rfl));(case hp=>exact(bW.one (show Kd.M (Kd.int .i64) _ _ _ 1073741824 [.int .i64 1073741824] from rfl) (bW.none _ _)));intro v169 w6 Hw hb iP OC;clear iP OC;replace Hw:=ry_ qpu.out Hw;have JL:=ak (Kd.fB Hw (eG (bU HB.out tY.out)));replace jy:=ak (aI (bf jy.out) hb);replace HB:=ak (aU (bU HB.out tY.out) hb);clear hb Hw;obtain⟨WR,Uy,Qn⟩:=Kd.bM JL.out;subst Qn)|((with_reducible refine bZ (f:=103) rfl ?_);refine bY (some 8) Try.func103 #[.slice WR y168.length Uy,.int .i64 8] ?_;(with_reducible refine(Pm.calls _ _ y168 8 t171 _ ?eH ?eP A2.out).mono ?_);(case eH=>exact dW (Kd.aT JL.out).2.2);(case eP=>exact(Kd.aT JL.out).2.1);rintro e w9 ⟨v172,rfl,ho0,hb⟩;refine⟨_,rfl,?_⟩;have GY:=ak (Kd.fB (Kd.oU ho0 (Kd.oJ (dX JL.out))) (eG (bU HB.out tY.out)));replace JL:=ak (Kd.J4 (dX JL.out) (Kd.oQ ho0) hb);replace jy:=ak (aI (bf jy.out) hb);replace HB:=ak (aU (bU HB.out tY.out) hb);(try clear hb);(try clear hb2);(try clear hk);(try clear hi);(try clear ho0);have p4:0<=(0:Int):=(by omega);have q4:(0:Int)<((t171.length:Int):Int):=d_;have qi4:(0<t171.length)=True:=eq_true (by omega);obtain⟨rE,Nh,eo4,Kr,gl4,cl4,Tm⟩:=Kd.Uc GY.out (by omega);(first|cases eo4|(injection eo4 with AA UC UA;(first|subst AA|(injection AA with AA;subst AA));subst UA;clear UC));have Zx:=ak Kr;have GG4:=ak Tm;clear Kr gl4 Tm;obtain⟨YC,qj2⟩:=Kd.rY 0 GY.out (0:Int) p4 q4;(try rw[show ((0:Int)).toNat=0 from rfl] at YC);(try simp only[Nat.reduceMul,Nat.zero_mul,Nat.zero_add,Nat.reduceAdd] at YC);(try rw[show ((0:Int)).toNat=0 from rfl] at qj2);(try simp only[Nat.reduceMul,Nat.zero_mul,Nat.zero_add,Nat.reduceAdd] at qj2);replace p4:=eq_true p4;replace q4:=eq_true q4;have n_:=ak (Kd.dV (ok':=(fun k_=>some k_≠(.slice WR y168.length Uy:Value).ownBlock)) GY.out (fun k_ hk=>hk.2));clear GY;have GY:=n_;clear n_;obtain⟨qmp,qmq⟩:=Kd.rY 0 GY.out (0:Int) (by omega) (d_);(try simp only[Int.reduceToNat,Int.toNat_zero,Int.toNat_ofNat,Nat.reduceMul,Nat.zero_mul,Nat.zero_add] at qmp qmq);(try rw[show ((0:Int)).toNat=0 from rfl] at qmp);(try rw[show ((0:Int)).toNat=0 from rfl] at qmq);have ZI:=Kd.J5 GY.out (0:Int) 0)|((with_reducible refine mW (t:=3) (p:=10) rfl ?_);refine ny (t:=3) (p:=10) (v:=?qSh) (w1:=(w9.setCell ⟨rE,(0:Int).toNat,none⟩ (.int .i64 0))) ?hg ?ho ?hn ?hr ?_;(case ho=>rfl);(case hg=>rfl);(case hn=>rfl);(case hr=>first|(go_simp;done)|(go_simp;rfl));intro Pv hw;have hg:w9.grownBy Pv (some rE):=(by rw[hw];exact ZI.2);have Le:Kd.R (Kd.int .i64) 3 Pv w.heap.size (fun k_=>some k_≠(.slice WR y168.length Uy:Value).ownBlock) (.slice (some ⟨rE,0,none⟩) t171.length Nh) qfi:=(by rw[hw,qpv.out];exact ZI.1);clear ZI;replace jy:=ak (Cc (g:=Hg) (o:=.cells #[.slice cu ah.length bV,.slice dM au.length dF,.slice dI aG.length dH,.int .i64 ay,.int .i64 aC] 30 (0,0)) (bf jy.out) hg (Kd.Aq GY.out jy.out (by decide)));replace JL:=ak (Kd.qal (v:=(.slice (some ⟨rE,0,none⟩) t171.length Nh)) (v1:=(.slice (some ⟨rE,0,none⟩) t171.length Nh)) (ok:=(fun _=>True)) (dX JL.out) hg (.inl rfl));replace GY:=ak (Le);replace HB:=ak ((by rw[hw];exact aK (HB.out) Zx.out:Below w.heap.size w Pv));clear hg hw Le))
  go_loopg [11] k (fun kq v11 w'=>∃ (qM:List Int) (uq:Int),v11=.int .i64 uq/\Aside0 (bK.l0 kq qM uq ah au aG ay aC=some (r1,r2))/\Aside0 (kq<=k)/\Aside0 (Kd.R (Kd.int .i64) 3 w' w.heap.size (fun _=>True) (.slice (some ⟨rE,0,none⟩) t171.length Nh) qM)/\Aside0 (w'.heap[Hg]? = some (.cells #[(.slice cu ah.length bV),(.slice dM au.length dF),(.slice dI aG.length dH),.int .i64 ay,.int .i64 aC] 30 (0,0)))/\Aside0 (Below w.heap.size w w'))
  case atStart=>exact⟨(qfi),(0),(by first|rfl|(simp;done)|(simp[*];done)),H',⟨Nat.le_refl _⟩,⟨sF GY.out (fun _ hk=>trivial)⟩,⟨bf jy.out⟩,⟨bU HB.out tY.out⟩⟩
  case round=>
   clear H'
   try clear c1
   try clear p2
   try clear c3
   try clear xO
   try clear G5
   try clear p4
   try clear q4
   try clear hx4
   try clear qi4
   try clear hf4
   try clear c7
   try clear c10
   try clear YC
   try clear p4
   try clear q4
   obtain⟨qM,uq,rfl,HA,qR,lG,jy,HB⟩:=hrel;have AL:=(Kd.aT lG.out).1;rw[AL] at lG;(try simp only[AL]);(try simp only[AL] at jy)
   cases gk with
   | zero=>exact absurd HA.out (by simp[bK.l0])
   | succ k1=>
    have H:=HA.out;clear HA;simp only[bK.l0] at H;by_cases c12:uq<8
    .
     rw[if_pos c12] at H;have Qk:decide (uq<8)=true:=decide_eq_true c12;clear c12;have H':=ak H;clear H;obtain⟨KD,KE,KF,KG,KH⟩:=aX jy.out;obtain⟨KU,KW,KX,KY,KZ⟩:=aZ jy.out
     go_wp2
     go_loopg [16] k1 (fun kq v16 w'=>∃ (jG:List Int) (aW:Int),v16=.int .i64 aW/\Aside0 (bK.l1 kq jG uq ah (ah.length:Int) aW ah au aG ay aC=some (r1,r2))/\Aside0 (kq<=k1)/\Aside0 (Kd.R (Kd.int .i64) 3 w' w.heap.size (fun _=>True) (.slice (some ⟨rE,0,none⟩) qM.length Nh) jG)/\Aside0 (w'.heap[Hg]? = some (.cells #[(.slice cu ah.length bV),(.slice dM au.length dF),(.slice dI aG.length dH),.int .i64 ay,.int .i64 aC] 30 (0,0)))/\Aside0 (Below w.heap.size w w'))
     case atStart=>exact⟨(qM),(0),(by first|rfl|(simp;done)|(simp[*];done)),H',⟨Nat.le_refl _⟩,⟨by(try simp only[AL]);(with_reducible repeat(first|apply Kd.jJ|apply Kd.jK|apply Kd.iw));exact lG.out⟩,⟨by(try simp only[AL]);(with_reducible repeat(first|refine dn ?_ _|refine bG ?_|refine cO ?_ _));exact jy.out⟩,⟨bU HB.out tY.out⟩⟩
     case round=>
      clear H'
      try clear c1
      try clear p2
      try clear c3
      try clear xO
      try clear G5
      try clear p4
      try clear q4
      try clear hx4
      try clear qi4
      try clear hf4
      try clear c7
      try clear c10
      try clear c12
      try clear Qk
      try clear KD KE KF KG KH
      try clear KU KW KX KY KZ
      try clear YC
      try clear p2
      try clear p4
      try clear q4
      obtain⟨jG,aW,rfl,HA,nI,lG,jy,HB⟩:=hrel;have zA:=(Kd.aT lG.out).1;rw[zA] at lG;(try simp only[zA]);(try simp only[zA] at jy)
      cases gk with
      | zero=>exact absurd HA.out (by simp[bK.l1])
      | succ k2=>
       have H:=HA.out;clear HA;simp only[bK.l1] at H;by_cases c14:aW<(ah.length:Int)
       .
        rw[if_pos c14] at H;have qq3:decide (aW<(ah.length:Int))=true:=decide_eq_true c14;clear c14;by_cases c15:0<=aW
        .
         rw[if_pos c15] at H;have qav:decide (0<=aW)=true:=decide_eq_true c15;clear c15;by_cases c16:aW<(ah.length:Int)
         .
          rw[if_pos c16] at H;have Um:decide (aW<(ah.length:Int))=true:=decide_eq_true c16;clear c16;by_cases c17:0<=((aj ah aW).f0)
          .
           rw[if_pos c17] at H;have qEq:decide (0<=((aj ah aW).f0))=true:=decide_eq_true c17;clear c17;by_cases c18:((aj ah aW).f0)<(au.length:Int)
           .
            rw[if_pos c18] at H;have qEr:decide (((aj ah aW).f0)<(au.length:Int))=true:=decide_eq_true c18;clear c18
            obtain⟨qgq,qbu⟩:∃ b_:Bool,b_=(fE false au ((aj ah aW).f0)):=⟨_,rfl⟩
            replace H:(if qgq=true then (if 0<=((aj ah aW).f1) then (if ((aj ah aW).f1)<(au.length:Int) then (if fE false au ((aj ah aW).f1)=true then (if ((aj ah aW).f0)<(jG.length:Int) then (if ((aj ah aW).f1)<(jG.length:Int) then ((some (jG.set (((aj ah aW).f0):Int).toNat (mn (rd jG ((aj ah aW).f0)) (wrap64 ((rd jG ((aj ah aW).f1))+((aj ah aW).f2)))):List Int)).bind fun mO=>(bK.l1 k2 (mO.set (((aj ah aW).f1):Int).toNat (mn (rd mO ((aj ah aW).f1)) (wrap64 ((rd mO ((aj ah aW).f0))+((aj ah aW).f2))))) uq ah (ah.length:Int) (wrap64 (aW+1)) ah au aG ay aC)) else (none)) else (none)) else (bK.l1 k2 jG uq ah (ah.length:Int) (wrap64 (aW+1)) ah au aG ay aC)) else (none)) else (none)) else (bK.l1 k2 jG uq ah (ah.length:Int) (wrap64 (aW+1)) ah au aG ay aC))=some (r1,r2):=by rw[<- qbu] at H;exact H
            have TW:=ak qbu;clear qbu;by_cases c20:qgq=true
            .
             subst c20
             have H1:(if 0<=((aj ah aW).f1) then (if ((aj ah aW).f1)<(au.length:Int) then (if fE false au ((aj ah aW).f1)=true then (if ((aj ah aW).f0)<(jG.length:Int) then (if ((aj ah aW).f1)<(jG.length:Int) then ((some (jG.set (((aj ah aW).f0):Int).toNat (mn (rd jG ((aj ah aW).f0)) (wrap64 ((rd jG ((aj ah aW).f1))+((aj ah aW).f2)))):List Int)).bind fun mO=>(bK.l1 k2 (mO.set (((aj ah aW).f1):Int).toNat (mn (rd mO ((aj ah aW).f1)) (wrap64 ((rd mO ((aj ah aW).f0))+((aj ah aW).f2))))) uq ah (ah.length:Int) (wrap64 (aW+1)) ah au aG ay aC)) else (none)) else (none)) else (bK.l1 k2 jG uq ah (ah.length:Int) (wrap64 (aW+1)) ah au aG ay aC)) else (none)) else (none))=some (r1,r2):=by rw[if_pos rfl] at H;exact H
             clear H;have H:=H1;clear H1;by_cases c21:0<=((aj ah aW).f1)
             .
              rw[if_pos c21] at H;have qEu:decide (0<=((aj ah aW).f1))=true:=decide_eq_true c21;clear c21;by_cases c22:((aj ah aW).f1)<(au.length:Int)
              .
               rw[if_pos c22] at H;have qEv:decide (((aj ah aW).f1)<(au.length:Int))=true:=decide_eq_true c22;clear c22
               obtain⟨qgr,qbw⟩:∃ b_:Bool,b_=(fE false au ((aj ah aW).f1)):=⟨_,rfl⟩
               replace H:(if qgr=true then (if ((aj ah aW).f0)<(jG.length:Int) then (if ((aj ah aW).f1)<(jG.length:Int) then ((some (jG.set (((aj ah aW).f0):Int).toNat (mn (rd jG ((aj ah aW).f0)) (wrap64 ((rd jG ((aj ah aW).f1))+((aj ah aW).f2)))):List Int)).bind fun mO=>(bK.l1 k2 (mO.set (((aj ah aW).f1):Int).toNat (mn (rd mO ((aj ah aW).f1)) (wrap64 ((rd mO ((aj ah aW).f0))+((aj ah aW).f2))))) uq ah (ah.length:Int) (wrap64 (aW+1)) ah au aG ay aC)) else (none)) else (none)) else (bK.l1 k2 jG uq ah (ah.length:Int) (wrap64 (aW+1)) ah au aG ay aC))=some (r1,r2):=by rw[<- qbw] at H;exact H
               have Xq:=ak qbw;clear qbw;by_cases c24:qgr=true
               .
                subst c24
                have H1:(if ((aj ah aW).f0)<(jG.length:Int) then (if ((aj ah aW).f1)<(jG.length:Int) then ((some (jG.set (((aj ah aW).f0):Int).toNat (mn (rd jG ((aj ah aW).f0)) (wrap64 ((rd jG ((aj ah aW).f1))+((aj ah aW).f2)))):List Int)).bind fun mO=>(bK.l1 k2 (mO.set (((aj ah aW).f1):Int).toNat (mn (rd mO ((aj ah aW).f1)) (wrap64 ((rd mO ((aj ah aW).f0))+((aj ah aW).f2))))) uq ah (ah.length:Int) (wrap64 (aW+1)) ah au aG ay aC)) else (none)) else (none))=some (r1,r2):=by rw[if_pos rfl] at H;exact H
                clear H;have H:=H1;clear H1;by_cases c25:((aj ah aW).f0)<(jG.length:Int)
                .
                 rw[if_pos c25] at H;have qaw:decide (((aj ah aW).f0)<(jG.length:Int))=true:=decide_eq_true c25;clear c25;by_cases c26:((aj ah aW).f1)<(jG.length:Int)
                 .
                  rw[if_pos c26] at H;have Un:decide (((aj ah aW).f1)<(jG.length:Int))=true:=decide_eq_true c26;clear c26
                  obtain⟨nH,Ld⟩:∃ j_:Int,(mn (rd jG ((aj ah aW).f0)) (wrap64 ((rd jG ((aj ah aW).f1))+((aj ah aW).f2))))=j_:=⟨_,rfl⟩
                  replace H:((some (jG.set (((aj ah aW).f0):Int).toNat (nH):List Int)).bind fun mO=>(bK.l1 k2 (mO.set (((aj ah aW).f1):Int).toNat (mn (rd mO ((aj ah aW).f1)) (wrap64 ((rd mO ((aj ah aW).f0))+((aj ah aW).f2))))) uq ah (ah.length:Int) (wrap64 (aW+1)) ah au aG ay aC))=some (r1,r2):=by first|(rw[Ld] at H;exact H)|(simp only[Ld] at H ⊢;exact H)
                  have qNr:(if (wrap64 ((rd jG ((aj ah aW).f1))+((aj ah aW).f2)))<(rd jG ((aj ah aW).f0)) then (wrap64 ((rd jG ((aj ah aW).f1))+((aj ah aW).f2))) else (rd jG ((aj ah aW).f0)))=nH:=Ld
                  obtain⟨mO,VL⟩:∃ y_:List Int,y_=(jG.set (((aj ah aW).f0):Int).toNat (nH)):=⟨_,rfl⟩
                  replace H:(bK.l1 k2 (mO.set (((aj ah aW).f1):Int).toNat (mn (rd mO ((aj ah aW).f1)) (wrap64 ((rd mO ((aj ah aW).f0))+((aj ah aW).f2))))) uq ah (ah.length:Int) (wrap64 (aW+1)) ah au aG ay aC)=some (r1,r2):=by first|(rw[VL];with_reducible exact H)|(have qQ:=(Option.bind_some _ _).symm.trans H;rw[VL];with_reducible exact qQ)|(have qQ:=(Option.bind_some _ _).symm.trans H;with_reducible exact qQ)|with_reducible exact H|(rw[VL];exact H)|exact H
                  have qak:=ak VL;clear VL
                  obtain⟨YD,qda⟩:∃ j_:Int,(mn (rd mO ((aj ah aW).f1)) (wrap64 ((rd mO ((aj ah aW).f0))+((aj ah aW).f2))))=j_:=⟨_,rfl⟩
                  replace H:(bK.l1 k2 (mO.set (((aj ah aW).f1):Int).toNat (YD)) uq ah (ah.length:Int) (wrap64 (aW+1)) ah au aG ay aC)=some (r1,r2):=by first|(rw[qda] at H;exact H)|(simp only[qda] at H ⊢;exact H)
                  have qNt:(if (wrap64 ((rd mO ((aj ah aW).f0))+((aj ah aW).f2)))<(rd mO ((aj ah aW).f1)) then (wrap64 ((rd mO ((aj ah aW).f0))+((aj ah aW).f2))) else (rd mO ((aj ah aW).f1)))=YD:=qda
                  obtain⟨qn8,VN⟩:∃ y_:List Int,y_=(mO.set (((aj ah aW).f1):Int).toNat (YD)):=⟨_,rfl⟩
                  replace H:(bK.l1 k2 qn8 uq ah (ah.length:Int) (wrap64 (aW+1)) ah au aG ay aC)=some (r1,r2):=by first|(rw[VN];with_reducible exact H)|(have qQ:=(Option.bind_some _ _).symm.trans H;rw[VN];with_reducible exact qQ)|(have qQ:=(Option.bind_some _ _).symm.trans H;with_reducible exact qQ)|with_reducible exact H|(rw[VN];exact H)|exact H
                  have qpw:=ak VN;clear VN;have H':=ak H;clear H;have Fg:0<=(aW:Int):=d_;have FB:aW<(ah.length:Int):=d_;obtain⟨Xw,e177,Lh,Lj,Ll,Lm,Lu⟩:=uS jh.out aW Fg FB;cases e177;replace Lh:=bn HB.out Lh;replace Lj:=bn HB.out Lj;replace Ll:=bn HB.out Ll;replace Lm:=bn HB.out Lm;replace Lu:=bn HB.out Lu;replace Fg:=eq_true Fg;replace FB:=eq_true FB
                  try go_wp2_with (first|((with_reducible refine bT (N:=6) rfl ?_);refine dN ?hg (N:=6) ?hd (cs:=#[.int .i64 0,.int .i64 0,.int .i64 0,.int .i64 0,.int .i64 0]) (t:=37) ?hr ?_;(case hd=>rfl);(case hg=>rfl);(case hr=>first|(go_simp;done)|(go_simp;rfl));intro fK hg PD hbox hb;replace lG:=ak (Kd.dL (dX lG.out) hb);have oq:=ak (hbox);have qO:=ak ((bH hg (bU HB.out tY.out)));have MK:=ak ((bH hg (bU HB.out tY.out)));replace HB:=ak (aU (bU HB.out tY.out) hb);have yB:=ak (dS hg jy.out);have Tt:=ak (fJ hg jy.out);replace jy:=ak (aI (bf jy.out) hb);clear hb hbox hg;have qw8:=Tt.out;have qx0:=yB.out;obtain⟨qt2,qt3,qt4,qt5,qt6⟩:=aX oq.out;obtain⟨qvu,qvv,qvw,qvx,qvy⟩:=aZ oq.out;obtain⟨qio,qip,qiq,qir,qis⟩:=aX jy.out;obtain⟨qkn,qko,qkp,qkq,qkr⟩:=aZ jy.out;have Fh:0<=(((aj ah aW).f0):Int):=d_;have FC:((aj ah aW).f0)<(au.length:Int):=d_;obtain⟨pz,e179,jB⟩:=Kd.oh iL.out ((aj ah aW).f0) Fh FC;(try rw[<- TW.out] at jB);(try rw[<- Xq.out] at jB);cases e179;have AO:pz.block≠fK:=Nat.ne_of_lt (Nat.lt_of_lt_of_le (by have:=World.block_lt_of_cell? _ _ jB;first|rwa [add_block] at this|exact this) qO.out);have AP:pz.block≠fK:=Nat.ne_of_lt (Nat.lt_of_lt_of_le (by have:=World.block_lt_of_cell? _ _ jB;first|rwa [add_block] at this|exact this) qO.out);have AQ:pz.block≠fK:=Nat.ne_of_lt (Nat.lt_of_lt_of_le (by have:=World.block_lt_of_cell? _ _ jB;first|rwa [add_block] at this|exact this) qO.out);have AU:pz.block≠fK:=Nat.ne_of_lt (Nat.lt_of_lt_of_le (by have:=World.block_lt_of_cell? _ _ jB;first|rwa [add_block] at this|exact this) qO.out);have AV:pz.block≠fK:=Nat.ne_of_lt (Nat.lt_of_lt_of_le (by have:=World.block_lt_of_cell? _ _ jB;first|rwa [add_block] at this|exact this) qO.out);replace jB:=bn HB.out jB;replace jB:=(cell_far (p:=⟨fK,0,none⟩) (by first|(rw[add_block];exact AO)|(show (Addr.add _ _).block≠_;rw[add_block];exact AO)|exact AO) (.int .i64 ((aj ah aW).f0))).trans jB;replace jB:=(cell_far (p:=⟨fK,1,none⟩) (by first|(rw[add_block];exact AP)|(show (Addr.add _ _).block≠_;rw[add_block];exact AP)|exact AP) (.int .i64 ((aj ah aW).f1))).trans jB;replace jB:=(cell_far (p:=⟨fK,2,none⟩) (by first|(rw[add_block];exact AQ)|(show (Addr.add _ _).block≠_;rw[add_block];exact AQ)|exact AQ) (.int .i64 ((aj ah aW).f2))).trans jB;replace jB:=(cell_far (p:=⟨fK,3,none⟩) (by first|(rw[add_block];exact AU)|(show (Addr.add _ _).block≠_;rw[add_block];exact AU)|exact AU) (.int .i64 ((aj ah aW).f3))).trans jB;replace jB:=(cell_far (p:=⟨fK,4,none⟩) (by first|(rw[add_block];exact AV)|(show (Addr.add _ _).block≠_;rw[add_block];exact AV)|exact AV) (.int .i64 ((aj ah aW).f4))).trans jB;clear AO;clear AP;clear AQ;clear AU;clear AV;replace Fh:=eq_true Fh;replace FC:=eq_true FC;have OJ:0<=(((aj ah aW).f1):Int):=d_;have O1:((aj ah aW).f1)<(au.length:Int):=d_;obtain⟨qaq,e180,mX⟩:=Kd.oh iL.out ((aj ah aW).f1) OJ O1;(try rw[<- TW.out] at mX);(try rw[<- Xq.out] at mX);obtain rfl:pz=qaq:=(by injection e180);have Ja:pz.block≠fK:=Nat.ne_of_lt (Nat.lt_of_lt_of_le (by have:=World.block_lt_of_cell? _ _ mX;first|rwa [add_block] at this|exact this) qO.out);have Jb:pz.block≠fK:=Nat.ne_of_lt (Nat.lt_of_lt_of_le (by have:=World.block_lt_of_cell? _ _ mX;first|rwa [add_block] at this|exact this) qO.out);have Jc:pz.block≠fK:=Nat.ne_of_lt (Nat.lt_of_lt_of_le (by have:=World.block_lt_of_cell? _ _ mX;first|rwa [add_block] at this|exact this) qO.out);have Jd:pz.block≠fK:=Nat.ne_of_lt (Nat.lt_of_lt_of_le (by have:=World.block_lt_of_cell? _ _ mX;first|rwa [add_block] at this|exact this) qO.out);have Je:pz.block≠fK:=Nat.ne_of_lt (Nat.lt_of_lt_of_le (by have:=World.block_lt_of_cell? _ _ mX;first|rwa [add_block] at this|exact this) qO.out);replace mX:=bn HB.out mX;replace mX:=(cell_far (p:=⟨fK,0,none⟩) (by first|(rw[add_block];exact Ja)|(show (Addr.add _ _).block≠_;rw[add_block];exact Ja)|exact Ja) (.int .i64 ((aj ah aW).f0))).trans mX;replace mX:=(cell_far (p:=⟨fK,1,none⟩) (by first|(rw[add_block];exact Jb)|(show (Addr.add _ _).block≠_;rw[add_block];exact Jb)|exact Jb) (.int .i64 ((aj ah aW).f1))).trans mX;replace mX:=(cell_far (p:=⟨fK,2,none⟩) (by first|(rw[add_block];exact Jc)|(show (Addr.add _ _).block≠_;rw[add_block];exact Jc)|exact Jc) (.int .i64 ((aj ah aW).f2))).trans mX;replace mX:=(cell_far (p:=⟨fK,3,none⟩) (by first|(rw[add_block];exact Jd)|(show (Addr.add _ _).block≠_;rw[add_block];exact Jd)|exact Jd) (.int .i64 ((aj ah aW).f3))).trans mX;replace mX:=(cell_far (p:=⟨fK,4,none⟩) (by first|(rw[add_block];exact Je)|(show (Addr.add _ _).block≠_;rw[add_block];exact Je)|exact Je) (.int .i64 ((aj ah aW).f4))).trans mX;clear Ja;clear Jb;clear Jc;clear Jd;clear Je;replace OJ:=eq_true OJ;replace O1:=eq_true O1))
                  have eu:Aside0 (Kd.R (Kd.int .i64) 3 (((((PD.setCell ⟨fK,0,none⟩ (.int .i64 ((aj ah aW).f0))).setCell ⟨fK,1,none⟩ (.int .i64 ((aj ah aW).f1))).setCell ⟨fK,2,none⟩ (.int .i64 ((aj ah aW).f2))).setCell ⟨fK,3,none⟩ (.int .i64 ((aj ah aW).f3))).setCell ⟨fK,4,none⟩ (.int .i64 ((aj ah aW).f4))) w.heap.size (fun _=>True) (.slice (some ⟨rE,0,none⟩) jG.length Nh) jG):=⟨Kd.dV (tV lG.out oq.out (by decide) _ _ _ _ _) (fun _ hk=>trivial)⟩
                  have dB:Aside0 ((((((PD.setCell ⟨fK,0,none⟩ (.int .i64 ((aj ah aW).f0))).setCell ⟨fK,1,none⟩ (.int .i64 ((aj ah aW).f1))).setCell ⟨fK,2,none⟩ (.int .i64 ((aj ah aW).f2))).setCell ⟨fK,3,none⟩ (.int .i64 ((aj ah aW).f3))).setCell ⟨fK,4,none⟩ (.int .i64 ((aj ah aW).f4))).heap[Hg]? = some (.cells #[.slice (some Xw) ah.length bV,.slice (some pz) au.length dF,.slice dI aG.length dH,.int .i64 ay,.int .i64 aC] 30 (0,0))):=⟨by exact(jf jy.out yB.out _ _ _ _ _)⟩
                  have qA:Aside0 ((((((PD.setCell ⟨fK,0,none⟩ (.int .i64 ((aj ah aW).f0))).setCell ⟨fK,1,none⟩ (.int .i64 ((aj ah aW).f1))).setCell ⟨fK,2,none⟩ (.int .i64 ((aj ah aW).f2))).setCell ⟨fK,3,none⟩ (.int .i64 ((aj ah aW).f3))).setCell ⟨fK,4,none⟩ (.int .i64 ((aj ah aW).f4))).heap[fK]? = some (.cells #[.int .i64 ((aj ah aW).f0),.int .i64 ((aj ah aW).f1),.int .i64 ((aj ah aW).f2),.int .i64 ((aj ah aW).f3),.int .i64 ((aj ah aW).f4)] 37 (0,0))):=⟨by exact(LU oq.out _ _ _ _ _)⟩
                  have uo:Aside0 (Below w.heap.size w (((((PD.setCell ⟨fK,0,none⟩ (.int .i64 ((aj ah aW).f0))).setCell ⟨fK,1,none⟩ (.int .i64 ((aj ah aW).f1))).setCell ⟨fK,2,none⟩ (.int .i64 ((aj ah aW).f2))).setCell ⟨fK,3,none⟩ (.int .i64 ((aj ah aW).f3))).setCell ⟨fK,4,none⟩ (.int .i64 ((aj ah aW).f4)))):=⟨fC HB.out tY.out MK.out⟩
                  (try clear lG);(try clear jy);(try clear oq);(try clear HB);generalize (((((PD.setCell ⟨fK,0,none⟩ (.int .i64 ((aj ah aW).f0))).setCell ⟨fK,1,none⟩ (.int .i64 ((aj ah aW).f1))).setCell ⟨fK,2,none⟩ (.int .i64 ((aj ah aW).f2))).setCell ⟨fK,3,none⟩ (.int .i64 ((aj ah aW).f3))).setCell ⟨fK,4,none⟩ (.int .i64 ((aj ah aW).f4)))=w35 at eu dB qA uo ⊢;have lG:=eu;have jy:=dB;have oq:=qA;have HB:=uo;clear eu dB qA uo;replace lG:=ak (Kd.iw lG.out);replace jy:=ak (bG jy.out);replace oq:=ak (bG oq.out);replace HB:=ak (kS HB.out);have qdx:0<=(((aj ah aW).f0):Int):=d_;have qec:((aj ah aW).f0)<(jG.length:Int):=d_;obtain⟨qp8,e181,Vx⟩:=Kd.Au (Kd.aT lG.out).2.2 ((aj ah aW).f0) qdx qec
                  obtain rfl:(⟨rE,0,none⟩:Addr)=qp8:=(by injection e181)
                  (first|simp only[add_plain] at Vx|simp only[Qd] at Vx|simp only[Addr.add,Nat.zero_add] at Vx|skip)
                  replace qdx:=eq_true qdx;replace qec:=eq_true qec;have qdy:0<=(((aj ah aW).f1):Int):=d_;have qee:((aj ah aW).f1)<(jG.length:Int):=d_;obtain⟨qp9,e182,Vy⟩:=Kd.Au (Kd.aT lG.out).2.2 ((aj ah aW).f1) qdy qee
                  obtain rfl:(⟨rE,0,none⟩:Addr)=qp9:=(by injection e182)
                  (first|simp only[add_plain] at Vy|simp only[Qd] at Vy|simp only[Addr.add,Nat.zero_add] at Vy|skip)
                  replace qdy:=eq_true qdy;replace qee:=eq_true qee;have p28:0<=(((aj ah aW).f0):Int):=d_;have q28:(((aj ah aW).f0):Int)<((jG.length:Int):Int):=d_;obtain⟨qyw,qvb⟩:=Kd.rY 0 lG.out (((aj ah aW).f0):Int) p28 q28;replace p28:=eq_true p28;replace q28:=eq_true q28;have ZK:=Kd.qgg lG.out (((aj ah aW).f0):Int) nH;rw[<- qak.out] at ZK;have ZN:=ak ZK;clear ZK;refine oM (n:=19) (S:=fun w'=>w'.cell? ⟨fK,0,none⟩=some (.int .i64 ((aj ah aW).f0))/\w'.cell? ⟨fK,1,none⟩=some (.int .i64 ((aj ah aW).f1))/\w'.cell? ⟨fK,2,none⟩=some (.int .i64 ((aj ah aW).f2))/\w'.cell? ⟨fK,3,none⟩=some (.int .i64 ((aj ah aW).f3))/\w'.cell? ⟨fK,4,none⟩=some (.int .i64 ((aj ah aW).f4))/\w'.cell? ⟨rE,(((aj ah aW).f0)).toNat,none⟩=some (.int .i64 (rd jG ((aj ah aW).f0)))/\w'.cell? ⟨rE,(((aj ah aW).f1)).toNat,none⟩=some (.int .i64 (rd jG ((aj ah aW).f1)))) (ds:=[18]) bK.mk0 (by kernel_rfl) rfl rfl ⟨(aH oq.out 0).trans rfl,(aH oq.out 1).trans rfl,(aH oq.out 2).trans rfl,(aH oq.out 3).trans rfl,(aH oq.out 4).trans rfl,Vx,Vy⟩ (fun hHeld=>?_);refine pW bK.tab9 bK.qq0 (fun aA dZ=>?_);generalize w35.drew=Ig at lG jy oq HB ZN qvb Vx Vy qyw hHeld ⊢;refine aQ aA 0 (some 34) bK.mk1 ?_;refine aQ aA 1 (some 35) bK.mk2 ?_;refine aQ aA 3 (some 37) bK.mk3 ?_;refine aQ aA 4 (some 38) bK.mk4 ?_;refine aQ aA 8 (some 42) bK.qJ ?_;refine aQ aA 9 (some 43) bK.mk6 ?_;refine aQ aA 13 (some 47) bK.gY ?_;refine fP aA dZ hHeld 2 (some 36) bK.qK ?_;refine fP aA dZ hHeld 5 (some 39) bK.sH ?_;refine aQ aA 6 (some 40) bK.sG ?_;refine fP aA dZ hHeld 7 (some 41) bK.uj ?_;refine fP aA dZ hHeld 10 (some 44) bK.um ?_;refine aQ aA 11 (some 45) bK.vw ?_;refine fP aA dZ hHeld 12 (some 46) bK.vC ?_;refine fP aA dZ hHeld 14 (some 48) bK.jU ?_;refine aQ aA 15 (some 49) bK.BF ?_;refine aQ aA 16 (some 50) bK.E5 ?_;refine aQ aA 17 (some 51) bK.E8 ?_;refine u_ (i:=18) (N:=none) bK.Fa rfl rfl (jg aA.out (by kernel_rfl)) (by decide) (fun K hK=>?_);refine vH (w1:=?_) (by rfl) rfl ?_ ?_;rotate_left
                  .
                   go_simp;rfl
                  refine hK.out _ _ ?_;clear hK K;refine pF (qH aA.out (by kernel_rfl)) ?_
                  try go_wp2
                  have eu:Aside0 (Kd.R (Kd.int .i64) 3 (Ig.setCell ⟨rE,(((aj ah aW).f0):Int).toNat,none⟩ (.int .i64 nH)) w.heap.size (fun _=>True) (.slice (some ⟨rE,0,none⟩) jG.length Nh) mO):=⟨dX ZN.out⟩
                  have dB:Aside0 ((Ig.setCell ⟨rE,(((aj ah aW).f0):Int).toNat,none⟩ (.int .i64 nH)).heap[Hg]? = some (.cells #[.slice (some Xw) ah.length bV,.slice (some pz) au.length dF,.slice dI aG.length dH,.int .i64 ay,.int .i64 aC] 30 (0,0))):=⟨by(with_reducible repeat(first|refine dn ?_ _|refine bG ?_|refine cO ?_ _));refine eU ?_ (by have h_:=Kd.Aq lG.out jy.out (by decide);intro e_;exact h_ (by rw[e_];rfl)) _;(with_reducible repeat(first|refine dn ?_ _|refine bG ?_|refine cO ?_ _));exact jy.out⟩
                  have qA:Aside0 ((Ig.setCell ⟨rE,(((aj ah aW).f0):Int).toNat,none⟩ (.int .i64 nH)).heap[fK]? = some (.cells #[.int .i64 ((aj ah aW).f0),.int .i64 ((aj ah aW).f1),.int .i64 ((aj ah aW).f2),.int .i64 ((aj ah aW).f3),.int .i64 ((aj ah aW).f4)] 37 (0,0))):=⟨by(with_reducible repeat(first|refine dn ?_ _|refine bG ?_|refine cO ?_ _));refine eU ?_ (by have h_:=Kd.Aq lG.out oq.out (by decide);intro e_;exact h_ (by rw[e_];rfl)) _;(with_reducible repeat(first|refine dn ?_ _|refine bG ?_|refine cO ?_ _));exact oq.out⟩
                  have uo:Aside0 (Below w.heap.size w (Ig.setCell ⟨rE,(((aj ah aW).f0):Int).toNat,none⟩ (.int .i64 nH))):=⟨gQ HB.out Zx.out tY.out MK.out⟩
                  (try clear lG);(try clear jy);(try clear oq);(try clear HB);generalize (Ig.setCell ⟨rE,(((aj ah aW).f0):Int).toNat,none⟩ (.int .i64 nH))=Y7 at eu dB qA uo ⊢;have lG:=eu;have jy:=dB;have oq:=qA;have HB:=uo;clear eu dB qA uo;replace lG:=ak (Kd.iw lG.out);replace jy:=ak (bG jy.out);replace oq:=ak (bG oq.out);replace HB:=ak (kS HB.out);have qdz:0<=(((aj ah aW).f1):Int):=d_
                  have qef:((aj ah aW).f1)<(mO.length:Int):=(by have h_:(((aj ah aW).f1):Int)<((jG.length:Int):Int):=d_;first|(have e_:=(Kd.aT lG.out).1;omega)|simpa only [qak.out,List.length_set] using h_)
                  have qR6:((((aj ah aW).f1):Int)<((jG.length:Int):Int))=True:=eq_true (d_);obtain⟨qqa,e184,Vz⟩:=Kd.Au (Kd.aT lG.out).2.2 ((aj ah aW).f1) qdz qef
                  obtain rfl:(⟨rE,0,none⟩:Addr)=qqa:=(by injection e184)
                  (first|simp only[add_plain] at Vz|simp only[Qd] at Vz|simp only[Addr.add,Nat.zero_add] at Vz|skip)
                  replace qdz:=eq_true qdz;replace qef:=eq_true qef;have qd0:0<=(((aj ah aW).f0):Int):=d_
                  have qeg:((aj ah aW).f0)<(mO.length:Int):=(by have h_:(((aj ah aW).f0):Int)<((jG.length:Int):Int):=d_;first|(have e_:=(Kd.aT lG.out).1;omega)|simpa only [qak.out,List.length_set] using h_)
                  have qR7:((((aj ah aW).f0):Int)<((jG.length:Int):Int))=True:=eq_true (d_);obtain⟨qqb,e185,VA⟩:=Kd.Au (Kd.aT lG.out).2.2 ((aj ah aW).f0) qd0 qeg
                  obtain rfl:(⟨rE,0,none⟩:Addr)=qqb:=(by injection e185)
                  (first|simp only[add_plain] at VA|simp only[Qd] at VA|simp only[Addr.add,Nat.zero_add] at VA|skip)
                  replace qd0:=eq_true qd0;replace qeg:=eq_true qeg;have p30:0<=(((aj ah aW).f1):Int):=d_;have q30:(((aj ah aW).f1):Int)<((jG.length:Int):Int):=d_;obtain⟨qmo,qj1⟩:=Kd.rY 0 lG.out (((aj ah aW).f1):Int) p30 q30;replace p30:=eq_true p30;replace q30:=eq_true q30;have ZL:=Kd.qgg lG.out (((aj ah aW).f1):Int) YD;rw[<- qpw.out] at ZL;have qf1:=ak ZL;clear ZL;refine oM (n:=19) (S:=fun w'=>w'.cell? ⟨fK,0,none⟩=some (.int .i64 ((aj ah aW).f0))/\w'.cell? ⟨fK,1,none⟩=some (.int .i64 ((aj ah aW).f1))/\w'.cell? ⟨fK,2,none⟩=some (.int .i64 ((aj ah aW).f2))/\w'.cell? ⟨fK,3,none⟩=some (.int .i64 ((aj ah aW).f3))/\w'.cell? ⟨fK,4,none⟩=some (.int .i64 ((aj ah aW).f4))/\w'.cell? ⟨rE,(((aj ah aW).f1)).toNat,none⟩=some (.int .i64 (rd mO ((aj ah aW).f1)))/\w'.cell? ⟨rE,(((aj ah aW).f0)).toNat,none⟩=some (.int .i64 (rd mO ((aj ah aW).f0)))) (ds:=[18]) bK.mk0 (by kernel_rfl) rfl rfl ⟨(aH oq.out 0).trans rfl,(aH oq.out 1).trans rfl,(aH oq.out 2).trans rfl,(aH oq.out 3).trans rfl,(aH oq.out 4).trans rfl,Vz,VA⟩ (fun hHeld=>?_);refine pW bK.tab10 bK.qqx (fun aA dZ=>?_);generalize Y7.drew=w39 at lG jy oq HB ZN qf1 qj1 Vz VA qmo hHeld ⊢;refine aQ aA 0 (some 52) bK.mk1 ?_;refine aQ aA 1 (some 53) bK.mk2 ?_;refine aQ aA 3 (some 55) bK.mk3 ?_;refine aQ aA 4 (some 56) bK.mk4 ?_;refine aQ aA 8 (some 60) bK.qJ ?_;refine aQ aA 9 (some 61) bK.mk6 ?_;refine aQ aA 13 (some 65) bK.gY ?_;refine fP aA dZ hHeld 2 (some 54) bK.qK ?_;refine fP aA dZ hHeld 5 (some 57) bK.sH ?_;refine aQ aA 6 (some 58) bK.sG ?_;refine fP aA dZ hHeld 7 (some 59) bK.uj ?_;refine fP aA dZ hHeld 10 (some 62) bK.um ?_;refine aQ aA 11 (some 63) bK.vw ?_;refine fP aA dZ hHeld 12 (some 64) bK.vC ?_;refine fP aA dZ hHeld 14 (some 66) bK.jU ?_;refine aQ aA 15 (some 67) bK.BF ?_;refine aQ aA 16 (some 68) bK.E5 ?_;refine aQ aA 17 (some 69) bK.E8 ?_;refine u_ (i:=18) (N:=none) bK.Fa rfl rfl (jg aA.out (by kernel_rfl)) (by decide) (fun K hK=>?_);refine vH (w1:=?_) (by rfl) rfl ?_ ?_;rotate_left
                  .
                   go_simp;rfl
                  refine hK.out _ _ ?_;clear hK K;refine pF (qH aA.out (by kernel_rfl)) ?_
                  try go_wp2
                  (try simp only[<- zA])
                  go_roundg k2
                  case measure=>have:=qR.out;have:=nI.out;omega
                  case rel=>exact⟨(qn8),(wrap64 (aW+1)),(by first|rfl|(simp;done)|(simp[*];done)),H',⟨by have:=qR.out;have:=nI.out;omega⟩,⟨by(try simp only[AL]);(try simp only[zA]);(with_reducible repeat(first|apply Kd.jJ|apply Kd.jK|apply Kd.iw));exact qf1.out⟩,⟨by(try simp only[AL]);(try simp only[zA]);(with_reducible repeat(first|refine dn ?_ _|refine bG ?_|refine cO ?_ _));refine eU ?_ (by have h_:=Kd.Aq lG.out jy.out (by decide);intro e_;exact h_ (by rw[e_];rfl)) _;(with_reducible repeat(first|refine dn ?_ _|refine bG ?_|refine cO ?_ _));exact jy.out⟩,⟨gQ HB.out Zx.out tY.out MK.out⟩⟩
                 .
                  rw[if_neg c26] at H;exact absurd H (by simp)
                .
                 rw[if_neg c25] at H;exact absurd H (by simp)
               .
                replace c24:=Bool.eq_false_iff.mpr c24;subst c24
                have H1:(bK.l1 k2 jG uq ah (ah.length:Int) (wrap64 (aW+1)) ah au aG ay aC)=some (r1,r2):=by rw[if_neg (show ¬ (false=true) by decide)] at H;exact H
                clear H;have H:=H1;clear H1;have H':=ak H;clear H;have Fg:0<=(aW:Int):=d_;have FB:aW<(ah.length:Int):=d_;obtain⟨Xw,e177,Lh,Lj,Ll,Lm,Lu⟩:=uS jh.out aW Fg FB;cases e177;replace Lh:=bn HB.out Lh;replace Lj:=bn HB.out Lj;replace Ll:=bn HB.out Ll;replace Lm:=bn HB.out Lm;replace Lu:=bn HB.out Lu;replace Fg:=eq_true Fg;replace FB:=eq_true FB
                go_wp2_with (first|((with_reducible refine bT (N:=6) rfl ?_);refine dN ?hg (N:=6) ?hd (cs:=#[.int .i64 0,.int .i64 0,.int .i64 0,.int .i64 0,.int .i64 0]) (t:=37) ?hr ?_;(case hd=>rfl);(case hg=>rfl);(case hr=>first|(go_simp;done)|(go_simp;rfl));intro fK hg w41 hbox hb;replace lG:=ak (Kd.dL (dX lG.out) hb);have oq:=ak (hbox);have qO:=ak ((bH hg (bU HB.out tY.out)));have MK:=ak ((bH hg (bU HB.out tY.out)));replace HB:=ak (aU (bU HB.out tY.out) hb);have yB:=ak (dS hg jy.out);have Tt:=ak (fJ hg jy.out);replace jy:=ak (aI (bf jy.out) hb);clear hb hbox hg;have qxd:=Tt.out;have qx5:=yB.out;obtain⟨qi3,qi5,qi6,qi7,qi8⟩:=aX oq.out;obtain⟨qk2,qk3,qk4,qk5,qk6⟩:=aZ oq.out;obtain⟨qGd,qGe,qGf,qGg,qGh⟩:=aX jy.out;obtain⟨qKl,qKm,qKn,qKo,qKp⟩:=aZ jy.out;have Fh:0<=(((aj ah aW).f0):Int):=d_;have FC:((aj ah aW).f0)<(au.length:Int):=d_;obtain⟨pz,e179,jB⟩:=Kd.oh iL.out ((aj ah aW).f0) Fh FC;(try rw[<- TW.out] at jB);(try rw[<- Xq.out] at jB);cases e179;have AO:pz.block≠fK:=Nat.ne_of_lt (Nat.lt_of_lt_of_le (by have:=World.block_lt_of_cell? _ _ jB;first|rwa [add_block] at this|exact this) qO.out);have AP:pz.block≠fK:=Nat.ne_of_lt (Nat.lt_of_lt_of_le (by have:=World.block_lt_of_cell? _ _ jB;first|rwa [add_block] at this|exact this) qO.out);have AQ:pz.block≠fK:=Nat.ne_of_lt (Nat.lt_of_lt_of_le (by have:=World.block_lt_of_cell? _ _ jB;first|rwa [add_block] at this|exact this) qO.out);have AU:pz.block≠fK:=Nat.ne_of_lt (Nat.lt_of_lt_of_le (by have:=World.block_lt_of_cell? _ _ jB;first|rwa [add_block] at this|exact this) qO.out);have AV:pz.block≠fK:=Nat.ne_of_lt (Nat.lt_of_lt_of_le (by have:=World.block_lt_of_cell? _ _ jB;first|rwa [add_block] at this|exact this) qO.out);replace jB:=bn HB.out jB;replace jB:=(cell_far (p:=⟨fK,0,none⟩) (by first|(rw[add_block];exact AO)|(show (Addr.add _ _).block≠_;rw[add_block];exact AO)|exact AO) (.int .i64 ((aj ah aW).f0))).trans jB;replace jB:=(cell_far (p:=⟨fK,1,none⟩) (by first|(rw[add_block];exact AP)|(show (Addr.add _ _).block≠_;rw[add_block];exact AP)|exact AP) (.int .i64 ((aj ah aW).f1))).trans jB;replace jB:=(cell_far (p:=⟨fK,2,none⟩) (by first|(rw[add_block];exact AQ)|(show (Addr.add _ _).block≠_;rw[add_block];exact AQ)|exact AQ) (.int .i64 ((aj ah aW).f2))).trans jB;replace jB:=(cell_far (p:=⟨fK,3,none⟩) (by first|(rw[add_block];exact AU)|(show (Addr.add _ _).block≠_;rw[add_block];exact AU)|exact AU) (.int .i64 ((aj ah aW).f3))).trans jB;replace jB:=(cell_far (p:=⟨fK,4,none⟩) (by first|(rw[add_block];exact AV)|(show (Addr.add _ _).block≠_;rw[add_block];exact AV)|exact AV) (.int .i64 ((aj ah aW).f4))).trans jB;clear AO;clear AP;clear AQ;clear AU;clear AV;replace Fh:=eq_true Fh;replace FC:=eq_true FC;have OJ:0<=(((aj ah aW).f1):Int):=d_;have O1:((aj ah aW).f1)<(au.length:Int):=d_;obtain⟨qaq,e180,mX⟩:=Kd.oh iL.out ((aj ah aW).f1) OJ O1;(try rw[<- TW.out] at mX);(try rw[<- Xq.out] at mX);obtain rfl:pz=qaq:=(by injection e180);have Ja:pz.block≠fK:=Nat.ne_of_lt (Nat.lt_of_lt_of_le (by have:=World.block_lt_of_cell? _ _ mX;first|rwa [add_block] at this|exact this) qO.out);have Jb:pz.block≠fK:=Nat.ne_of_lt (Nat.lt_of_lt_of_le (by have:=World.block_lt_of_cell? _ _ mX;first|rwa [add_block] at this|exact this) qO.out);have Jc:pz.block≠fK:=Nat.ne_of_lt (Nat.lt_of_lt_of_le (by have:=World.block_lt_of_cell? _ _ mX;first|rwa [add_block] at this|exact this) qO.out);have Jd:pz.block≠fK:=Nat.ne_of_lt (Nat.lt_of_lt_of_le (by have:=World.block_lt_of_cell? _ _ mX;first|rwa [add_block] at this|exact this) qO.out);have Je:pz.block≠fK:=Nat.ne_of_lt (Nat.lt_of_lt_of_le (by have:=World.block_lt_of_cell? _ _ mX;first|rwa [add_block] at this|exact this) qO.out);replace mX:=bn HB.out mX;replace mX:=(cell_far (p:=⟨fK,0,none⟩) (by first|(rw[add_block];exact Ja)|(show (Addr.add _ _).block≠_;rw[add_block];exact Ja)|exact Ja) (.int .i64 ((aj ah aW).f0))).trans mX;replace mX:=(cell_far (p:=⟨fK,1,none⟩) (by first|(rw[add_block];exact Jb)|(show (Addr.add _ _).block≠_;rw[add_block];exact Jb)|exact Jb) (.int .i64 ((aj ah aW).f1))).trans mX;replace mX:=(cell_far (p:=⟨fK,2,none⟩) (by first|(rw[add_block];exact Jc)|(show (Addr.add _ _).block≠_;rw[add_block];exact Jc)|exact Jc) (.int .i64 ((aj ah aW).f2))).trans mX;replace mX:=(cell_far (p:=⟨fK,3,none⟩) (by first|(rw[add_block];exact Jd)|(show (Addr.add _ _).block≠_;rw[add_block];exact Jd)|exact Jd) (.int .i64 ((aj ah aW).f3))).trans mX;replace mX:=(cell_far (p:=⟨fK,4,none⟩) (by first|(rw[add_block];exact Je)|(show (Addr.add _ _).block≠_;rw[add_block];exact Je)|exact Je) (.int .i64 ((aj ah aW).f4))).trans mX;clear Ja;clear Jb;clear Jc;clear Jd;clear Je;replace OJ:=eq_true OJ;replace O1:=eq_true O1))
                (try simp only[<- zA])
                go_roundg k2
                case measure=>have:=qR.out;have:=nI.out;omega
                case rel=>exact⟨(jG),(wrap64 (aW+1)),(by first|rfl|(simp;done)|(simp[*];done)),H',⟨by have:=qR.out;have:=nI.out;omega⟩,⟨by(try simp only[AL]);(try simp only[zA]);(with_reducible repeat(first|apply Kd.jJ|apply Kd.jK|apply Kd.iw));exact Kd.dV (Kd.bD (p:=⟨fK,4,none⟩) (Kd.bD (p:=⟨fK,3,none⟩) (Kd.bD (p:=⟨fK,2,none⟩) (Kd.bD (p:=⟨fK,1,none⟩) (Kd.bD (p:=⟨fK,0,none⟩) (Kd.jO lG.out oq.out (by decide)) (fun _ hk=>hk.2) (.int .i64 ((aj ah aW).f0))) (fun _ hk=>hk.2) (.int .i64 ((aj ah aW).f1))) (fun _ hk=>hk.2) (.int .i64 ((aj ah aW).f2))) (fun _ hk=>hk.2) (.int .i64 ((aj ah aW).f3))) (fun _ hk=>hk.2) (.int .i64 ((aj ah aW).f4))) (fun _ hk=>trivial)⟩,⟨by(try simp only[AL]);(try simp only[zA]);(with_reducible repeat(first|refine dn ?_ _|refine bG ?_|refine cO ?_ _));refine eU ?_ yB.out _;(with_reducible repeat(first|refine dn ?_ _|refine bG ?_|refine cO ?_ _));refine eU ?_ yB.out _;(with_reducible repeat(first|refine dn ?_ _|refine bG ?_|refine cO ?_ _));refine eU ?_ yB.out _;(with_reducible repeat(first|refine dn ?_ _|refine bG ?_|refine cO ?_ _));refine eU ?_ yB.out _;(with_reducible repeat(first|refine dn ?_ _|refine bG ?_|refine cO ?_ _));refine eU ?_ yB.out _;(with_reducible repeat(first|refine dn ?_ _|refine bG ?_|refine cO ?_ _));exact jy.out⟩,⟨fC HB.out tY.out MK.out⟩⟩
              .
               rw[if_neg c22] at H;exact absurd H (by simp)
             .
              rw[if_neg c21] at H;exact absurd H (by simp)
            .
             replace c20:=Bool.eq_false_iff.mpr c20;subst c20
             have H1:(bK.l1 k2 jG uq ah (ah.length:Int) (wrap64 (aW+1)) ah au aG ay aC)=some (r1,r2):=by rw[if_neg (show ¬ (false=true) by decide)] at H;exact H
             clear H;have H:=H1;clear H1;have H':=ak H;clear H;have Fg:0<=(aW:Int):=d_;have FB:aW<(ah.length:Int):=d_;obtain⟨Xw,e177,Lh,Lj,Ll,Lm,Lu⟩:=uS jh.out aW Fg FB;cases e177;replace Lh:=bn HB.out Lh;replace Lj:=bn HB.out Lj;replace Ll:=bn HB.out Ll;replace Lm:=bn HB.out Lm;replace Lu:=bn HB.out Lu;replace Fg:=eq_true Fg;replace FB:=eq_true FB
             go_wp2_with (first|((with_reducible refine bT (N:=6) rfl ?_);refine dN ?hg (N:=6) ?hd (cs:=#[.int .i64 0,.int .i64 0,.int .i64 0,.int .i64 0,.int .i64 0]) (t:=37) ?hr ?_;(case hd=>rfl);(case hg=>rfl);(case hr=>first|(go_simp;done)|(go_simp;rfl));intro fK hg Wu hbox hb;replace lG:=ak (Kd.dL (dX lG.out) hb);have oq:=ak (hbox);have qO:=ak ((bH hg (bU HB.out tY.out)));have MK:=ak ((bH hg (bU HB.out tY.out)));replace HB:=ak (aU (bU HB.out tY.out) hb);have yB:=ak (dS hg jy.out);have Tt:=ak (fJ hg jy.out);replace jy:=ak (aI (bf jy.out) hb);clear hb hbox hg;have qxe:=Tt.out;have qx6:=yB.out;obtain⟨qi9,qja,qjb,qjc,qjd⟩:=aX oq.out;obtain⟨qk7,qk8,qk9,qla,qlb⟩:=aZ oq.out;obtain⟨qGu,qGv,qGw,qGx,qGy⟩:=aX jy.out;obtain⟨qK2,qK3,qK4,qK5,qK6⟩:=aZ jy.out;have Fh:0<=(((aj ah aW).f0):Int):=d_;have FC:((aj ah aW).f0)<(au.length:Int):=d_;obtain⟨pz,e179,jB⟩:=Kd.oh iL.out ((aj ah aW).f0) Fh FC;(try rw[<- TW.out] at jB);cases e179;have AO:pz.block≠fK:=Nat.ne_of_lt (Nat.lt_of_lt_of_le (by have:=World.block_lt_of_cell? _ _ jB;first|rwa [add_block] at this|exact this) qO.out);have AP:pz.block≠fK:=Nat.ne_of_lt (Nat.lt_of_lt_of_le (by have:=World.block_lt_of_cell? _ _ jB;first|rwa [add_block] at this|exact this) qO.out);have AQ:pz.block≠fK:=Nat.ne_of_lt (Nat.lt_of_lt_of_le (by have:=World.block_lt_of_cell? _ _ jB;first|rwa [add_block] at this|exact this) qO.out);have AU:pz.block≠fK:=Nat.ne_of_lt (Nat.lt_of_lt_of_le (by have:=World.block_lt_of_cell? _ _ jB;first|rwa [add_block] at this|exact this) qO.out);have AV:pz.block≠fK:=Nat.ne_of_lt (Nat.lt_of_lt_of_le (by have:=World.block_lt_of_cell? _ _ jB;first|rwa [add_block] at this|exact this) qO.out);replace jB:=bn HB.out jB;replace jB:=(cell_far (p:=⟨fK,0,none⟩) (by first|(rw[add_block];exact AO)|(show (Addr.add _ _).block≠_;rw[add_block];exact AO)|exact AO) (.int .i64 ((aj ah aW).f0))).trans jB;replace jB:=(cell_far (p:=⟨fK,1,none⟩) (by first|(rw[add_block];exact AP)|(show (Addr.add _ _).block≠_;rw[add_block];exact AP)|exact AP) (.int .i64 ((aj ah aW).f1))).trans jB;replace jB:=(cell_far (p:=⟨fK,2,none⟩) (by first|(rw[add_block];exact AQ)|(show (Addr.add _ _).block≠_;rw[add_block];exact AQ)|exact AQ) (.int .i64 ((aj ah aW).f2))).trans jB;replace jB:=(cell_far (p:=⟨fK,3,none⟩) (by first|(rw[add_block];exact AU)|(show (Addr.add _ _).block≠_;rw[add_block];exact AU)|exact AU) (.int .i64 ((aj ah aW).f3))).trans jB;replace jB:=(cell_far (p:=⟨fK,4,none⟩) (by first|(rw[add_block];exact AV)|(show (Addr.add _ _).block≠_;rw[add_block];exact AV)|exact AV) (.int .i64 ((aj ah aW).f4))).trans jB;clear AO;clear AP;clear AQ;clear AU;clear AV;replace Fh:=eq_true Fh;replace FC:=eq_true FC))
             (try simp only[<- zA])
             go_roundg k2
             case measure=>have:=qR.out;have:=nI.out;omega
             case rel=>exact⟨(jG),(wrap64 (aW+1)),(by first|rfl|(simp;done)|(simp[*];done)),H',⟨by have:=qR.out;have:=nI.out;omega⟩,⟨by(try simp only[AL]);(try simp only[zA]);(with_reducible repeat(first|apply Kd.jJ|apply Kd.jK|apply Kd.iw));exact Kd.dV (Kd.bD (p:=⟨fK,4,none⟩) (Kd.bD (p:=⟨fK,3,none⟩) (Kd.bD (p:=⟨fK,2,none⟩) (Kd.bD (p:=⟨fK,1,none⟩) (Kd.bD (p:=⟨fK,0,none⟩) (Kd.jO lG.out oq.out (by decide)) (fun _ hk=>hk.2) (.int .i64 ((aj ah aW).f0))) (fun _ hk=>hk.2) (.int .i64 ((aj ah aW).f1))) (fun _ hk=>hk.2) (.int .i64 ((aj ah aW).f2))) (fun _ hk=>hk.2) (.int .i64 ((aj ah aW).f3))) (fun _ hk=>hk.2) (.int .i64 ((aj ah aW).f4))) (fun _ hk=>trivial)⟩,⟨by(try simp only[AL]);(try simp only[zA]);(with_reducible repeat(first|refine dn ?_ _|refine bG ?_|refine cO ?_ _));refine eU ?_ yB.out _;(with_reducible repeat(first|refine dn ?_ _|refine bG ?_|refine cO ?_ _));refine eU ?_ yB.out _;(with_reducible repeat(first|refine dn ?_ _|refine bG ?_|refine cO ?_ _));refine eU ?_ yB.out _;(with_reducible repeat(first|refine dn ?_ _|refine bG ?_|refine cO ?_ _));refine eU ?_ yB.out _;(with_reducible repeat(first|refine dn ?_ _|refine bG ?_|refine cO ?_ _));refine eU ?_ yB.out _;(with_reducible repeat(first|refine dn ?_ _|refine bG ?_|refine cO ?_ _));exact jy.out⟩,⟨fC HB.out tY.out MK.out⟩⟩
           .
            rw[if_neg c18] at H;exact absurd H (by simp)
          .
           rw[if_neg c17] at H;exact absurd H (by simp)
         .
          rw[if_neg c16] at H;exact absurd H (by simp)
        .
         rw[if_neg c15] at H;exact absurd H (by simp)
       .
        rw[if_neg c14] at H;have qq3:decide (aW<(ah.length:Int))=false:=decide_eq_false c14;clear c14;have H':=ak H;clear H
        go_wp2
        (try simp only[<- AL,<- zA])
        go_roundg k2
        case measure=>have:=qR.out;have:=nI.out;omega
        case rel=>exact⟨(jG),(wrap64 (uq+1)),(by first|rfl|(simp;done)|(simp[*];done)),H',⟨by have:=qR.out;have:=nI.out;omega⟩,⟨by(try simp only[AL]);(try simp only[zA]);(with_reducible repeat(first|apply Kd.jJ|apply Kd.jK|apply Kd.iw));exact lG.out⟩,⟨by(try simp only[AL]);(try simp only[zA]);(with_reducible repeat(first|refine dn ?_ _|refine bG ?_|refine cO ?_ _));exact jy.out⟩,⟨bU HB.out tY.out⟩⟩
    .
     rw[if_neg c12] at H;have Qk:decide (uq<8)=false:=decide_eq_false c12;clear c12;by_cases c49:0<=ay
     .
      rw[if_pos c49] at H;have qEw:decide (0<=ay)=true:=decide_eq_true c49;clear c49;by_cases c50:ay<(qM.length:Int)
      .
       rw[if_pos c50] at H;have qEx:decide (ay<(qM.length:Int))=true:=decide_eq_true c50;clear c50;simp only[Option.some.injEq,Prod.mk.injEq] at H;obtain⟨rfl,rfl⟩:=H
       try go_wp2
       replace lG:=ak (Kd.iw lG.out);replace jy:=ak (bG jy.out);replace HB:=ak (kS HB.out);have qdv:0<=(ay:Int):=d_;have qea:ay<(qM.length:Int):=d_;obtain⟨qp6,e175,Vu⟩:=Kd.Au (Kd.aT lG.out).2.2 ay qdv qea
       obtain rfl:(⟨rE,0,none⟩:Addr)=qp6:=(by injection e175)
       (first|simp only[add_plain] at Vu|simp only[Qd] at Vu|simp only[Addr.add,Nat.zero_add] at Vu|skip)
       replace qdv:=eq_true qdv;replace qea:=eq_true qea;have qdw:0<=(ay:Int):=d_;have qeb:ay<(qM.length:Int):=d_;obtain⟨qp7,e176,Vw⟩:=Kd.Au (Kd.aT lG.out).2.2 ay qdw qeb
       obtain rfl:(⟨rE,0,none⟩:Addr)=qp7:=(by injection e176)
       (first|simp only[add_plain] at Vw|simp only[Qd] at Vw|simp only[Addr.add,Nat.zero_add] at Vw|skip)
       replace qdw:=eq_true qdw;replace qeb:=eq_true qeb;refine oM (n:=13) (S:=fun w'=>w'.cell? ⟨Hg,0,none⟩=some (.slice cu ah.length bV)/\w'.cell? ⟨Hg,1,none⟩=some (.slice dM au.length dF)/\w'.cell? ⟨Hg,2,none⟩=some (.slice dI aG.length dH)/\w'.cell? ⟨Hg,3,none⟩=some (.int .i64 ay)/\w'.cell? ⟨Hg,4,none⟩=some (.int .i64 aC)/\w'.cell? ⟨rE,(ay).toNat,none⟩=some (.int .i64 (rd qM ay))/\w'.cell? ⟨rE,(ay).toNat,none⟩=some (.int .i64 (rd qM ay))) (ds:=[]) bK.H9 (by kernel_rfl) rfl rfl ⟨(aH jy.out 0).trans rfl,(aH jy.out 1).trans rfl,(aH jy.out 2).trans rfl,(aH jy.out 3).trans rfl,(aH jy.out 4).trans rfl,Vu,Vw⟩ (fun hHeld=>?_);refine pW bK.tab13 bK.qqy (fun aA dZ=>?_);generalize wr.drew=w51 at lG jy HB Vu Vw hHeld ⊢;refine aQ aA 0 (some 72) bK.LP ?_;refine aQ aA 1 (some 73) bK.Ru ?_;refine aQ aA 5 (some 77) bK.Rw ?_;refine aQ aA 6 (some 78) bK.Rx ?_;refine fP aA dZ hHeld 2 (some 74) bK.mk25 ?_;refine aQ aA 3 (some 75) bK.Ry ?_;refine fP aA dZ hHeld 4 (some 76) bK.Rz ?_;refine aQ aA 11 (some 2) bK.RD ?_;refine fP aA dZ hHeld 7 (some 79) bK.RF ?_;refine aQ aA 8 (some 80) bK.RG ?_;refine fP aA dZ hHeld 9 (some 81) bK.RH ?_;refine aQ aA 10 (some 82) bK.RI ?_;refine aQ aA 12 (some 3) bK.RJ ?_;refine pF (qH aA.out (by kernel_rfl)) ?_
       try go_wp2
       go_ret2
       exact⟨fO,bU HB.out tY.out⟩
      .
       rw[if_neg c50] at H;exact absurd H (by simp)
     .
      rw[if_neg c49] at H;exact absurd H (by simp)
 .
  rw[if_neg c3] at H;exact absurd H (by simp)
def g_.j0:Nat->Bool->List (aN)->List Bool->List Bool->Int->Int->Option (Bool)
 | 0,_,_,_,_,_,_=>none
 | k+1,x32,qCk,WA,qCl,Zc,qn6=>if x32=true then (some false) else (if 0<(WA.length:Int) then (if fE false WA 0=true then (if 0<=Zc then (if Zc<(WA.length:Int) then (if fE false WA Zc=true then ((bK.f k qCk WA qCl Zc qn6).bind fun xM=>(if xM.2=true then (some (decide (xM.1<=qn6))) else (some false))) else (some false)) else (none)) else (none)) else (some false)) else (none))
def g_.f (k:Nat)(ah:List (aN))(au:List Bool)(aG:List Bool)(ay:Int)(aC:Int):Option (Bool):=(nN.f k ah).bind fun t188=>(if t188=true then (if (au.length:Int)=8 then (if (aG.length:Int)=8 then ((qV.f ay).bind fun t189=>(if t189=true then ((jZ.f aC 0 100000).bind fun t190=>(g_.j0 k (!t190) ah au aG ay aC)) else (g_.j0 k true ah au aG ay aC))) else (g_.j0 k true ah au aG ay aC)) else (g_.j0 k true ah au aG ay aC)) else (g_.j0 k true ah au aG ay aC))
theorem g_.LQ:∀ k,(∀ y0 y1 y2 y3 y4 y5,gy (g_.j0 k y0 y1 y2 y3 y4 y5) (g_.j0 (k+1) y0 y1 y2 y3 y4 y5))
 | 0=>fun _ _ _ _ _ _ r h=>by simp[g_.j0] at h
 | k+1=>by
  have wB:=g_.LQ k
  .
   intro y0 y1 y2 y3 y4 y5;unfold g_.j0
   repeat' first
   | (with_reducible exact wB _ _ _ _ _ _)
   | (with_reducible exact bK.mono _ _ _ _ _ _)
   | (with_reducible exact nN.mono _ _)
   | (with_reducible exact gy.refl _)
   | (with_reducible exact gy.none _)
   | (with_reducible refine gy.ite ?_ ?_)
   | (with_reducible refine gy.bind ?_ (fun _=>?_))
   | exact wB _ _ _ _ _ _
   | exact bK.mono _ _ _ _ _ _
   | exact nN.mono _ _
   | exact gy.none _
   | refine gy.ite ?_ ?_
   | refine gy.bind ?_ (fun _=>?_)
theorem g_.mono:∀ a0 a1 a2 a3 a4 k,gy (g_.f k a0 a1 a2 a3 a4) (g_.f (k+1) a0 a1 a2 a3 a4):=by
 intro a0 a1 a2 a3 a4 k;have wB:=g_.LQ k;unfold g_.f
 repeat' first
   | (with_reducible exact wB _ _ _ _ _ _)
   | (with_reducible exact bK.mono _ _ _ _ _ _)
   | (with_reducible exact nN.mono _ _)
   | (with_reducible exact gy.refl _)
   | (with_reducible exact gy.none _)
   | (with_reducible refine gy.ite ?_ ?_)
   | (with_reducible refine gy.bind ?_ (fun _=>?_))
   | exact wB _ _ _ _ _ _
   | exact bK.mono _ _ _ _ _ _
   | exact nN.mono _ _
   | exact gy.none _
   | refine gy.ite ?_ ?_
   | refine gy.bind ?_ (fun _=>?_)
theorem g_.calls (k:Nat)(cu:Option Addr)(bV:Nat)(ah:List (aN))(dM:Option Addr)(dF:Nat)(au:List Bool)(dI:Option Addr)(dH:Nat)(aG:List Bool)(ay:Int)(aC:Int)(r:Bool)(w:World)(jq:Kd.C k37 w cu ah.length ah)(jl:ah.length<=bV)(jr:Kd.C Kd.bool w dM au.length au)(jm:au.length<=dF)(jv:Kd.C Kd.bool w dI aG.length aG)(jo:aG.length<=dH)(h:g_.f k ah au aG ay aC=some r) :
  Calls Try.prog 18 #[.agg #[.slice cu ah.length bV,.slice dM au.length dF,.slice dI aG.length dH,.int .i64 ay,.int .i64 aC]] w fun e w'=>e=.returned (.bool r)/\Below w.heap.size w w':=by
 have tJ:=Try.underlying30;have jh:=ak jq;have jM:=ak jl;clear jq jl;have iL:=ak jr;have lF:=ak jm;clear jr jm;have l9:=ak jv;have l7:=ak jo;clear jv jo;have HB:=ak (Below.refl w.heap.size w);have H:((nN.f k ah).bind fun t188=>(if t188=true then (if (au.length:Int)=8 then (if (aG.length:Int)=8 then ((qV.f ay).bind fun t189=>(if t189=true then ((jZ.f aC 0 100000).bind fun t190=>(g_.j0 k (!t190) ah au aG ay aC)) else (g_.j0 k true ah au aG ay aC))) else (g_.j0 k true ah au aG ay aC)) else (g_.j0 k true ah au aG ay aC)) else (g_.j0 k true ah au aG ay aC)))=some r:=h;clear h;have HC2:=ak H;clear H
 go_enter Try.func18,Try.ntmps18
 go_upto_region 1 with (first|((with_reducible refine bT (N:=1) rfl ?_);(try(refine Dy (by rfl) ?_;dsimp only));refine dN ?hg (N:=1) ?hd (cs:=#[.slice cu ah.length bV,.slice dM au.length dF,.slice dI aG.length dH,.int .i64 ay,.int .i64 aC]) (t:=30) ?hr ?_;(case hd=>rfl);(case hg=>rfl);(case hr=>first|(go_simp;done)|(go_simp;rfl));intro qs5 hg w3 hbox hb;have kQ:=ak (hbox);have qDw:=ak ((bH hg (bF HB.out)));have xB:=ak ((bH hg (bF HB.out)));replace HB:=ak (aU (bF HB.out) hb);clear hb hbox hg))
 (try simp only[Act.put,List.setIfInBounds_toArray,List.set_cons_zero,List.set_cons_succ])
 go_cut [32] (fun v32 wc=>∃ (kq:Nat) (Zj:Bool),v32=.bool Zj/\Aside0 (g_.j0 kq Zj ah au aG ay aC=some r)/\Aside0 (kq<=k)/\Aside0 (wc.heap[qs5]? = some (.cells #[(.slice cu ah.length bV),(.slice dM au.length dF),(.slice dI aG.length dH),.int .i64 ay,.int .i64 aC] 30 (0,0)))/\Aside0 (Below w.heap.size w wc))
 case first=>
  have H:=HC2.out;clear HC2;replace H:=Option.bind_eq_some_iff.mp H;obtain⟨t188,nY,H⟩:=H;replace H:(if t188=true then (if (au.length:Int)=8 then (if (aG.length:Int)=8 then ((qV.f ay).bind fun t189=>(if t189=true then ((jZ.f aC 0 100000).bind fun t190=>(g_.j0 k (!t190) ah au aG ay aC)) else (g_.j0 k true ah au aG ay aC))) else (g_.j0 k true ah au aG ay aC)) else (g_.j0 k true ah au aG ay aC)) else (g_.j0 k true ah au aG ay aC))=some r:=H;have A4:=ak nY;clear nY;by_cases c5:t188=true
  .
   subst c5
   have H1:(if (au.length:Int)=8 then (if (aG.length:Int)=8 then ((qV.f ay).bind fun t189=>(if t189=true then ((jZ.f aC 0 100000).bind fun t190=>(g_.j0 k (!t190) ah au aG ay aC)) else (g_.j0 k true ah au aG ay aC))) else (g_.j0 k true ah au aG ay aC)) else (g_.j0 k true ah au aG ay aC))=some r:=by rw[if_pos rfl] at H;exact H
   clear H;have H:=H1;clear H1;by_cases c6:(au.length:Int)=8
   .
    rw[if_pos c6] at H;have uH:((au.length:Int)==8)=true:=beq_iff_eq.mpr c6;have II:((au.length:Int) != 8)=false:=bne_eq_false_iff_eq.mpr c6;clear c6
    (first|rw[uH]|(simp only[nM,pO];rw[uH])|skip)
    by_cases c7:(aG.length:Int)=8
    .
     rw[if_pos c7] at H;have Cm:((aG.length:Int)==8)=true:=beq_iff_eq.mpr c7;have J_:((aG.length:Int) != 8)=false:=bne_eq_false_iff_eq.mpr c7;clear c7;replace H:=Option.bind_eq_some_iff.mp H;obtain⟨t189,JC,H⟩:=H;replace H:(if t189=true then ((jZ.f aC 0 100000).bind fun t190=>(g_.j0 k (!t190) ah au aG ay aC)) else (g_.j0 k true ah au aG ay aC))=some r:=H;have A8:=ak JC;clear JC;by_cases c9:t189=true
     .
      subst c9
      have H1:((jZ.f aC 0 100000).bind fun t190=>(g_.j0 k (!t190) ah au aG ay aC))=some r:=by rw[if_pos rfl] at H;exact H
      clear H;have H:=H1;clear H1;replace H:=Option.bind_eq_some_iff.mp H;obtain⟨t190,Jy,H⟩:=H;replace H:(g_.j0 k (!t190) ah au aG ay aC)=some r:=H;have PI:=ak Jy;clear Jy;have H':=ak H;clear H;obtain⟨Kv,Kw,Ky,NT,NU⟩:=aX kQ.out;obtain⟨KN,KO,KP,Oh,Oi⟩:=aZ kQ.out
      go_wp2_with (first|((with_reducible refine bZ (f:=69) rfl ?_);refine bY (some 7) Try.func69 #[.slice cu ah.length bV] ?_;(with_reducible refine(nN.calls k _ _ ah true _ ?eH ?eP A4.out).mono ?_);(case eH=>exact dW (Kd.dU jh.out HB.out));(case eP=>exact jM.out);rintro e w12 ⟨rfl,hb⟩;refine⟨_,rfl,?_⟩;replace kQ:=ak (aI (bf kQ.out) hb);replace HB:=ak (aU (bU HB.out xB.out) hb);(try clear hb);(try clear hb2);(try clear hk);(try clear hi);obtain⟨KD,KE,KF,KG,KH⟩:=aX kQ.out;obtain⟨KU,KW,KX,KY,KZ⟩:=aZ kQ.out)|(go_at_call 70;(with_reducible refine(qV.calls ay true _ A8.out).mono ?_);rintro e w' ⟨rfl,⟨nd,rfl⟩⟩)|(go_at_call 71;(with_reducible refine(jZ.calls aC 0 100000 t190 _ PI.out).mono ?_);rintro e w' ⟨rfl,⟨nd,rfl⟩⟩))
      go_meet
      case rel=>exact⟨_,(!t190),(by first|rfl|(simp;done)|(simp[*];done)),H',⟨by first|omega|exact Nat.le_refl _⟩,⟨bf kQ.out⟩,⟨bU HB.out xB.out⟩⟩
     .
      replace c9:=Bool.eq_false_iff.mpr c9;subst c9
      have H1:(g_.j0 k true ah au aG ay aC)=some r:=by rw[if_neg (show ¬ (false=true) by decide)] at H;exact H
      clear H;have H:=H1;clear H1;have H':=ak H;clear H;obtain⟨NZ,N7,N8,N9,N_⟩:=aX kQ.out;obtain⟨Om,Oo,Oq,Ot,Ou⟩:=aZ kQ.out
      go_wp2_with (first|((with_reducible refine bZ (f:=69) rfl ?_);refine bY (some 7) Try.func69 #[.slice cu ah.length bV] ?_;(with_reducible refine(nN.calls k _ _ ah true _ ?eH ?eP A4.out).mono ?_);(case eH=>exact dW (Kd.dU jh.out HB.out));(case eP=>exact jM.out);rintro e Y5 ⟨rfl,hb⟩;refine⟨_,rfl,?_⟩;replace kQ:=ak (aI (bf kQ.out) hb);replace HB:=ak (aU (bU HB.out xB.out) hb);(try clear hb);(try clear hb2);(try clear hk);(try clear hi);obtain⟨IV,IW,IX,IY,IZ⟩:=aX kQ.out;obtain⟨I4,I5,I7,I8,I9⟩:=aZ kQ.out)|(go_at_call 70;(with_reducible refine(qV.calls ay false _ A8.out).mono ?_);rintro e w' ⟨rfl,⟨nd,rfl⟩⟩))
      go_meet
      case rel=>exact⟨_,(true),(by first|rfl|(simp;done)|(simp[*];done)),H',⟨by first|omega|exact Nat.le_refl _⟩,⟨bf kQ.out⟩,⟨bU HB.out xB.out⟩⟩
    .
     rw[if_neg c7] at H;have Cm:((aG.length:Int)==8)=false:=beq_eq_false_iff_ne.mpr c7;have J_:((aG.length:Int) != 8)=true:=bne_iff_ne.mpr c7;have H':=ak H;clear H;obtain⟨Qs,Qu,Qv,Qw,Qx⟩:=aX kQ.out;obtain⟨QS,QT,QU,QV,QW⟩:=aZ kQ.out
     go_wp2_with (first|((with_reducible refine bZ (f:=69) rfl ?_);refine bY (some 7) Try.func69 #[.slice cu ah.length bV] ?_;(with_reducible refine(nN.calls k _ _ ah true _ ?eH ?eP A4.out).mono ?_);(case eH=>exact dW (Kd.dU jh.out HB.out));(case eP=>exact jM.out);rintro e Ws ⟨rfl,hb⟩;refine⟨_,rfl,?_⟩;replace kQ:=ak (aI (bf kQ.out) hb);replace HB:=ak (aU (bU HB.out xB.out) hb);(try clear hb);(try clear hb2);(try clear hk);(try clear hi);obtain⟨DC,DF,DI,DJ,DK⟩:=aX kQ.out;obtain⟨DL,DN,DR,DT,DU⟩:=aZ kQ.out))
     go_meet
     case rel=>exact⟨_,(true),(by first|rfl|(simp;done)|(simp[*];done)),H',⟨by first|omega|exact Nat.le_refl _⟩,⟨bf kQ.out⟩,⟨bU HB.out xB.out⟩⟩
   .
    rw[if_neg c6] at H;have uH:((au.length:Int)==8)=false:=beq_eq_false_iff_ne.mpr c6;have II:((au.length:Int) != 8)=true:=bne_iff_ne.mpr c6
    (first|rw[uH]|(simp only[nM,pO];rw[uH])|skip)
    have H':=ak H;clear H;obtain⟨Qy,Qz,QA,QB,QC⟩:=aX kQ.out;obtain⟨QX,QY,QZ,Q5,Q7⟩:=aZ kQ.out
    go_wp2_with (first|((with_reducible refine bZ (f:=69) rfl ?_);refine bY (some 7) Try.func69 #[.slice cu ah.length bV] ?_;(with_reducible refine(nN.calls k _ _ ah true _ ?eH ?eP A4.out).mono ?_);(case eH=>exact dW (Kd.dU jh.out HB.out));(case eP=>exact jM.out);rintro e Jw ⟨rfl,hb⟩;refine⟨_,rfl,?_⟩;replace kQ:=ak (aI (bf kQ.out) hb);replace HB:=ak (aU (bU HB.out xB.out) hb);(try clear hb);(try clear hb2);(try clear hk);(try clear hi);obtain⟨UK,UL,UM,UN,UO⟩:=aX kQ.out;obtain⟨U1,U2,U3,U4,U5⟩:=aZ kQ.out))
    go_meet
    case rel=>exact⟨_,(true),(by first|rfl|(simp;done)|(simp[*];done)),H',⟨by first|omega|exact Nat.le_refl _⟩,⟨bf kQ.out⟩,⟨bU HB.out xB.out⟩⟩
  .
   replace c5:=Bool.eq_false_iff.mpr c5;subst c5
   have H1:(g_.j0 k true ah au aG ay aC)=some r:=by rw[if_neg (show ¬ (false=true) by decide)] at H;exact H
   clear H;have H:=H1;clear H1;have H':=ak H;clear H;obtain⟨Oa,Ob,Oc,Oe,Og⟩:=aX kQ.out;obtain⟨Ov,Ox,Oy,Oz,OA⟩:=aZ kQ.out
   go_wp2_with (first|((with_reducible refine bZ (f:=69) rfl ?_);refine bY (some 7) Try.func69 #[.slice cu ah.length bV] ?_;(with_reducible refine(nN.calls k _ _ ah false _ ?eH ?eP A4.out).mono ?_);(case eH=>exact dW (Kd.dU jh.out HB.out));(case eP=>exact jM.out);rintro e w24 ⟨rfl,hb⟩;refine⟨_,rfl,?_⟩;replace kQ:=ak (aI (bf kQ.out) hb);replace HB:=ak (aU (bU HB.out xB.out) hb);(try clear hb);(try clear hb2);(try clear hk);(try clear hi)))
   go_meet
   case rel=>exact⟨_,(true),(by first|rfl|(simp;done)|(simp[*];done)),H',⟨by first|omega|exact Nat.le_refl _⟩,⟨bf kQ.out⟩,⟨bU HB.out xB.out⟩⟩
 case rest=>
  clear HC2
  try clear c1
  try clear p2
  try clear c5
  try clear c6
  try clear uH
  try clear II
  try clear c7
  try clear Cm
  try clear J_
  try clear c9
  try clear c18
  try clear Kv Kw Ky NT NU
  try clear KD KE KF KG KH
  try clear NZ N7 N8 N9 N_
  try clear IV IW IX IY IZ
  try clear Qs Qu Qv Qw Qx
  try clear DC DF DI DJ DK
  try clear Qy Qz QA QB QC
  try clear UK UL UM UN UO
  try clear Oa Ob Oc Oe Og
  try clear KN KO KP Oh Oi
  try clear KU KW KX KY KZ
  try clear Om Oo Oq Ot Ou
  try clear I4 I5 I7 I8 I9
  try clear QS QT QU QV QW
  try clear DL DN DR DT DU
  try clear QX QY QZ Q5 Q7
  try clear U1 U2 U3 U4 U5
  try clear Ov Ox Oy Oz OA
  obtain⟨kq,Zj,rfl,HA,HJ1,kQ,HB⟩:=hcut
  cases kq with
  | zero=>exact absurd HA.out (by simp[g_.j0])
  | succ zD=>
   have H:=HA.out;clear HA;simp only[g_.j0] at H;by_cases c25:Zj=true
   .
    subst c25
    have H1:(some false)=some r:=by rw[if_pos rfl] at H;exact H
    clear H;have H:=H1;clear H1;obtain rfl:=Option.some.inj H
    go_wp2
    go_ret;exact⟨fO,bU HB.out xB.out⟩
   .
    replace c25:=Bool.eq_false_iff.mpr c25;subst c25
    have H1:(if 0<(au.length:Int) then (if fE false au 0=true then (if 0<=ay then (if ay<(au.length:Int) then (if fE false au ay=true then ((bK.f zD ah au aG ay aC).bind fun xM=>(if xM.2=true then (some (decide (xM.1<=aC))) else (some false))) else (some false)) else (none)) else (none)) else (some false)) else (none))=some r:=by rw[if_neg (show ¬ (false=true) by decide)] at H;exact H
    clear H;have H:=H1;clear H1;by_cases c26:0<(au.length:Int)
    .
     rw[if_pos c26] at H;have Un:decide (0<(au.length:Int))=true:=decide_eq_true c26;have qax:decide (0<au.length)=true:=decide_eq_true (by omega);clear c26
     obtain⟨Ui,NR⟩:∃ b_:Bool,b_=(fE false au 0):=⟨_,rfl⟩
     replace H:(if Ui=true then (if 0<=ay then (if ay<(au.length:Int) then (if fE false au ay=true then ((bK.f zD ah au aG ay aC).bind fun xM=>(if xM.2=true then (some (decide (xM.1<=aC))) else (some false))) else (some false)) else (none)) else (none)) else (some false))=some r:=by rw[<- NR] at H;exact H
     have yX:=ak NR;clear NR;by_cases c28:Ui=true
     .
      subst c28
      have H1:(if 0<=ay then (if ay<(au.length:Int) then (if fE false au ay=true then ((bK.f zD ah au aG ay aC).bind fun xM=>(if xM.2=true then (some (decide (xM.1<=aC))) else (some false))) else (some false)) else (none)) else (none))=some r:=by rw[if_pos rfl] at H;exact H
      clear H;have H:=H1;clear H1;by_cases c29:0<=ay
      .
       rw[if_pos c29] at H;have XD:decide (0<=ay)=true:=decide_eq_true c29;clear c29;by_cases c30:ay<(au.length:Int)
       .
        rw[if_pos c30] at H;have qgs:decide (ay<(au.length:Int))=true:=decide_eq_true c30;clear c30
        obtain⟨Uj,NS⟩:∃ b_:Bool,b_=(fE false au ay):=⟨_,rfl⟩
        replace H:(if Uj=true then ((bK.f zD ah au aG ay aC).bind fun xM=>(if xM.2=true then (some (decide (xM.1<=aC))) else (some false))) else (some false))=some r:=by rw[<- NS] at H;exact H
        have Cb:=ak NS;clear NS;by_cases c32:Uj=true
        .
         subst c32
         have H1:((bK.f zD ah au aG ay aC).bind fun xM=>(if xM.2=true then (some (decide (xM.1<=aC))) else (some false)))=some r:=by rw[if_pos rfl] at H;exact H
         clear H;have H:=H1;clear H1;replace H:=Option.bind_eq_some_iff.mp H;obtain⟨⟨t193,t194⟩,SG,H⟩:=H;replace H:(if t194=true then (some (decide (t193<=aC))) else (some false))=some r:=H;have SE:=ak SG;clear SG;by_cases c34:t194=true
         .
          subst c34
          have H1:(some (decide (t193<=aC)))=some r:=by rw[if_pos rfl] at H;exact H
          clear H;have H:=H1;clear H1;obtain rfl:=Option.some.inj H;obtain⟨qt7,qt8,qt9,qub,quc⟩:=aX kQ.out;obtain⟨qvz,qv0,qv1,qv2,qv3⟩:=aZ kQ.out
          have zO:0<=(0:Int):=(by omega)
          have zT:0<(au.length:Int):=d_;obtain⟨J7,e191,rG⟩:=Kd.oh iL.out 0 zO zT;(try rw[<- yX.out] at rG);(try rw[<- Cb.out] at rG);cases e191;have qen:(0<au.length)=True:=eq_true (by omega);(try rw[show ((0:Int)).toNat=0 from rfl] at rG);(try rw[Addr.add_zero'] at rG);replace rG:=bn HB.out rG;replace zO:=eq_true zO;replace zT:=eq_true zT;have Fj:0<=(ay:Int):=d_;have FH:ay<(au.length:Int):=d_;obtain⟨Uh,e192,Bf⟩:=Kd.oh iL.out ay Fj FH;(try rw[<- yX.out] at Bf);(try rw[<- Cb.out] at Bf)
          obtain rfl:J7=Uh:=(by injection e192)
          replace Bf:=bn HB.out Bf;replace Fj:=eq_true Fj;replace FH:=eq_true FH
          go_wp2_with (first|((with_reducible refine bZ (f:=72) rfl ?_);refine bY (some 49) Try.func72 #[.agg #[.slice cu ah.length bV,.slice (some J7) au.length dF,.slice dI aG.length dH,.int .i64 ay,.int .i64 aC]] ?_;(with_reducible refine(bK.calls zD _ _ ah _ _ au _ _ aG ay aC t193 true _ ?eH ?eP ?fU ?fV ?iR ?iT SE.out).mono ?_);(case eH=>exact dW (Kd.dU jh.out HB.out));(case eP=>exact jM.out);(case fU=>exact dW (Kd.dU iL.out HB.out));(case fV=>exact lF.out);(case iR=>exact dW (Kd.dU l9.out HB.out));(case iT=>exact l7.out);rintro e Ig ⟨rfl,hb⟩;refine⟨_,rfl,?_⟩;replace kQ:=ak (aI (bf kQ.out) hb);replace HB:=ak (aU (bU HB.out xB.out) hb);(try clear hb);(try clear hb2);(try clear hk);(try clear hi);obtain⟨qit,qiu,qiv,qiw,qix⟩:=aX kQ.out;obtain⟨qks,qkt,qku,qkv,qkw⟩:=aZ kQ.out))
          go_ret;exact⟨fO,bU HB.out xB.out⟩
         .
          replace c34:=Bool.eq_false_iff.mpr c34;subst c34
          have H1:(some false)=some r:=by rw[if_neg (show ¬ (false=true) by decide)] at H;exact H
          clear H;have H:=H1;clear H1;obtain rfl:=Option.some.inj H;obtain⟨qud,que,quf,qug,quh⟩:=aX kQ.out;obtain⟨qv4,qv5,qv6,qv7,qv8⟩:=aZ kQ.out
          have zO:0<=(0:Int):=(by omega)
          have zT:0<(au.length:Int):=d_;obtain⟨J7,e191,rG⟩:=Kd.oh iL.out 0 zO zT;(try rw[<- yX.out] at rG);(try rw[<- Cb.out] at rG);cases e191;have qen:(0<au.length)=True:=eq_true (by omega);(try rw[show ((0:Int)).toNat=0 from rfl] at rG);(try rw[Addr.add_zero'] at rG);replace rG:=bn HB.out rG;replace zO:=eq_true zO;replace zT:=eq_true zT;have Fj:0<=(ay:Int):=d_;have FH:ay<(au.length:Int):=d_;obtain⟨Uh,e192,Bf⟩:=Kd.oh iL.out ay Fj FH;(try rw[<- yX.out] at Bf);(try rw[<- Cb.out] at Bf)
          obtain rfl:J7=Uh:=(by injection e192)
          replace Bf:=bn HB.out Bf;replace Fj:=eq_true Fj;replace FH:=eq_true FH
          go_wp2_with (first|((with_reducible refine bZ (f:=72) rfl ?_);refine bY (some 49) Try.func72 #[.agg #[.slice cu ah.length bV,.slice (some J7) au.length dF,.slice dI aG.length dH,.int .i64 ay,.int .i64 aC]] ?_;(with_reducible refine(bK.calls zD _ _ ah _ _ au _ _ aG ay aC t193 false _ ?eH ?eP ?fU ?fV ?iR ?iT SE.out).mono ?_);(case eH=>exact dW (Kd.dU jh.out HB.out));(case eP=>exact jM.out);(case fU=>exact dW (Kd.dU iL.out HB.out));(case fV=>exact lF.out);(case iR=>exact dW (Kd.dU l9.out HB.out));(case iT=>exact l7.out);rintro e w39 ⟨rfl,hb⟩;refine⟨_,rfl,?_⟩;replace kQ:=ak (aI (bf kQ.out) hb);replace HB:=ak (aU (bU HB.out xB.out) hb);(try clear hb);(try clear hb2);(try clear hk);(try clear hi)))
          go_ret;exact⟨fO,bU HB.out xB.out⟩
        .
         replace c32:=Bool.eq_false_iff.mpr c32;subst c32
         have H1:(some false)=some r:=by rw[if_neg (show ¬ (false=true) by decide)] at H;exact H
         clear H;have H:=H1;clear H1;obtain rfl:=Option.some.inj H;obtain⟨qiy,qiz,qi0,qi1,qi2⟩:=aX kQ.out;obtain⟨qkx,qky,qkz,qk0,qk1⟩:=aZ kQ.out
         have zO:0<=(0:Int):=(by omega)
         have zT:0<(au.length:Int):=d_;obtain⟨J7,e191,rG⟩:=Kd.oh iL.out 0 zO zT;(try rw[<- yX.out] at rG);(try rw[<- Cb.out] at rG);cases e191;have qen:(0<au.length)=True:=eq_true (by omega);(try rw[show ((0:Int)).toNat=0 from rfl] at rG);(try rw[Addr.add_zero'] at rG);replace rG:=bn HB.out rG;replace zO:=eq_true zO;replace zT:=eq_true zT;have Fj:0<=(ay:Int):=d_;have FH:ay<(au.length:Int):=d_;obtain⟨Uh,e192,Bf⟩:=Kd.oh iL.out ay Fj FH;(try rw[<- yX.out] at Bf);(try rw[<- Cb.out] at Bf)
         obtain rfl:J7=Uh:=(by injection e192)
         replace Bf:=bn HB.out Bf;replace Fj:=eq_true Fj;replace FH:=eq_true FH
         go_wp2
         go_ret;exact⟨fO,bU HB.out xB.out⟩
       .
        rw[if_neg c30] at H;exact absurd H (by simp)
      .
       rw[if_neg c29] at H;exact absurd H (by simp)
     .
      replace c28:=Bool.eq_false_iff.mpr c28;subst c28
      have H1:(some false)=some r:=by rw[if_neg (show ¬ (false=true) by decide)] at H;exact H
      clear H;have H:=H1;clear H1;obtain rfl:=Option.some.inj H;obtain⟨qb5,qb6,qb7,qb8,qb9⟩:=aX kQ.out;obtain⟨qcr,qcs,qct,qcu,qcv⟩:=aZ kQ.out
      have zO:0<=(0:Int):=(by omega)
      have zT:0<(au.length:Int):=d_;obtain⟨J7,e191,rG⟩:=Kd.oh iL.out 0 zO zT;(try rw[<- yX.out] at rG);cases e191;have qen:(0<au.length)=True:=eq_true (by omega);(try rw[show ((0:Int)).toNat=0 from rfl] at rG);(try rw[Addr.add_zero'] at rG);replace rG:=bn HB.out rG;replace zO:=eq_true zO;replace zT:=eq_true zT
      go_wp2
      go_ret;exact⟨fO,bU HB.out xB.out⟩
    .
     rw[if_neg c26] at H;exact absurd H (by simp)
def VX.f (l0:List Int):Option (Bool):=some (decide ((l0.length:Int) > 65536))
theorem VX.calls (A0:Option Addr)(c0:Nat)(l0:List Int)(r:Bool)(w:World)(hr0:Kd.C (Kd.int .u8) w A0 l0.length l0)(hc0:l0.length<=c0)(h:VX.f l0=some r) :
  Calls Try.prog 20 #[.slice A0 l0.length c0] w fun e w'=>e=.returned (.bool r)/\gu w w':=by
 have HR0:=ak hr0;have yu:=ak hc0;clear hr0 hc0;have H:(some (decide ((l0.length:Int) > 65536)))=some r:=h;clear h;obtain rfl:=Option.some.inj H
 go_enter Try.func20,Try.ntmps20
 go_wp2
 go_ret;exact⟨by first|rfl|(simp;done)|(simp[*];done),by repeat(first|exact gu.refl _|apply gu.step)⟩
theorem RQ {α:Type}{d:Kd α}{e base:Nat}{ok:Nat->Prop}{w:World}{v:Value}{xs:List α}(h:d.R e w base ok v xs)(hn:0<xs.length):∃ gv cap,v=.slice (some ⟨gv,0,none⟩) xs.length cap/\base<=gv/\xs.length<=cap/\v.ownBlock=some gv:=by
 obtain⟨inner,ho⟩:=Kd.Qc h
 rcases ho.2 with ⟨_,h0⟩|⟨gv,cap,cur,rfl,hb,_,hc,_⟩
 .
  omega
 .
  exact⟨gv,cap,rfl,hb,hc,rfl⟩
theorem Fb {α:Type}{d:Kd α}{e base:Nat}{ok:Nat->Prop}{w:World}{v:Value}{xs:List α}(h:d.R e w base ok v xs)(hE:d.E=[]) {g t:Nat}{cs:Array Value}(hb:w.heap[g]? = some (.cells cs t (0,0)))(ht:e≠t):d.R e w base (fun k=>ok k/\k≠g) v xs:=by
 refine Kd.dV (Kd.uQ h) (fun k hk=>⟨hk.1,fun he=>?_⟩);obtain⟨q,hq,cells,hc⟩:=hk.2.2.2;subst he;rw[hE,List.mem_singleton] at hq;subst hq;rw[hb] at hc
 injection hc with hc
 injection hc with _ hc
 exact ht hc.symm
structure ExS (w:World)(base g:Nat)(vL vV vD:Value)(L:List aN)(V D:List Bool)(p t:Int):Prop where
 blk:w.heap[g]? = some (.cells #[vL,vV,vD,.int .i64 p,.int .i64 t] 30 (0,0))
 gb:base<=g
 rL:Kd.R k37 37 w base (fun _=>True) vL L
 rV:Kd.R Kd.bool 4 w base (fun k=>some k≠vD.ownBlock) vV V
 rD:Kd.R Kd.bool 4 w base (fun k=>some k≠vV.ownBlock) vD D
namespace ExS
variable {w w1:World}{base g:Nat}{vL vV vD:Value}{L:List aN}{V D:List Bool}{p t:Int}
theorem below (h:ExS w base g vL vV vD L V D p t)(hb:Below w.heap.size w w1):ExS w1 base g vL vV vD L V D p t:=
 ⟨pK h.blk hb,h.gb,Kd.dL h.rL hb,Kd.dL h.rV hb,Kd.dL h.rD hb⟩
theorem keep (h:ExS w base g vL vV vD L V D p t)(hk:gJ w w1 g none) {p' t':Int}(hb:w1.heap[g]? = some (.cells #[vL,vV,vD,.int .i64 p',.int .i64 t'] 30 (0,0))):ExS w1 base g vL vV vD L V D p' t':=
 ⟨hb,h.gb,Kd.dV (Kd.MZ (Fb h.rL rfl h.blk (by decide)) hk (fun _ hk=>hk.2)) (fun _ hk=>hk.1),Kd.dV (Kd.MZ (Fb h.rV rfl h.blk (by decide)) hk (fun _ hk=>hk.2)) (fun _ hk=>hk.1),Kd.dV (Kd.MZ (Fb h.rD rfl h.blk (by decide)) hk (fun _ hk=>hk.2)) (fun _ hk=>hk.1)⟩
theorem qnf (h:ExS w base g vL vV vD L V D p t)(p':Int):ExS (w.setCell ⟨g,3,none⟩ (.int .i64 p')) base g vL vV vD L V D p' t:=
 h.keep (gJ.Wh (gJ.refl _ _ _) 3 _) (dG h.blk 3 _ rfl)
theorem YP (h:ExS w base g vL vV vD L V D p t)(t':Int):ExS (w.setCell ⟨g,4,none⟩ (.int .i64 t')) base g vL vV vD L V D p t':=
 h.keep (gJ.Wh (gJ.refl _ _ _) 4 _) (dG h.blk 4 _ rfl)
theorem RU {gv cap:Nat}(h:ExS w base g vL (.slice (some ⟨gv,0,none⟩) V.length cap) vD L V D p t)(i:Int)(x:Bool):ExS (w.setCell ⟨gv,i.toNat,none⟩ (.bool x)) base g vL (.slice (some ⟨gv,0,none⟩) V.length cap) vD L (V.set i.toNat x) D p t:=by
 obtain⟨h1,h2⟩:=Kd.J5 (enc:=Value.bool) h.rV i x;have hne:=h.rV.1 gv rfl;have hg:gv≠g:=((Fb h.rV rfl h.blk (by decide)).1 gv rfl).2;refine⟨eU h.blk (p:=⟨gv,i.toNat,none⟩) (fun e=>hg e.symm) _,h.gb,?_,h1,?_⟩
 .
  exact Kd.qao h.rL rfl h2 (fun k hk he=>by
   injection hk with hk
   subst hk;obtain⟨q,hq,cells,hc⟩:=((Kd.uQ h.rL).1 gv he.symm).2.2.2;obtain⟨q',hq',cells',hc'⟩:=((Kd.uQ h.rV).1 gv rfl).2.2.2;rw[hc] at hc';rw[show (k37).E=[] from rfl,List.mem_singleton] at hq;rw[show (Kd.bool).E=[] from rfl,List.mem_singleton] at hq'
   injection hc' with hc'
   injection hc' with _ hc'
   rw[hq,hq'] at hc'
   exact absurd hc' (by decide))
 .
  exact Kd.qan h.rD h2 (fun k hk=>hk)
theorem qng {gv cap:Nat}(h:ExS w base g vL vV (.slice (some ⟨gv,0,none⟩) D.length cap) L V D p t)(i:Int)(x:Bool):ExS (w.setCell ⟨gv,i.toNat,none⟩ (.bool x)) base g vL vV (.slice (some ⟨gv,0,none⟩) D.length cap) L V (D.set i.toNat x) p t:=by
 obtain⟨h1,h2⟩:=Kd.J5 (enc:=Value.bool) h.rD i x;have hg:gv≠g:=((Fb h.rD rfl h.blk (by decide)).1 gv rfl).2;refine⟨eU h.blk (p:=⟨gv,i.toNat,none⟩) (fun e=>hg e.symm) _,h.gb,?_,?_,h1⟩
 .
  exact Kd.qao h.rL rfl h2 (fun k hk he=>by
   injection hk with hk
   subst hk;obtain⟨q,hq,cells,hc⟩:=((Kd.uQ h.rL).1 gv he.symm).2.2.2;obtain⟨q',hq',cells',hc'⟩:=((Kd.uQ h.rD).1 gv rfl).2.2.2;rw[hc] at hc';rw[show (k37).E=[] from rfl,List.mem_singleton] at hq;rw[show (Kd.bool).E=[] from rfl,List.mem_singleton] at hq'
   injection hc' with hc'
   injection hc' with _ hc'
   rw[hq,hq'] at hc'
   exact absurd hc' (by decide))
 .
  exact Kd.qan h.rV h2 (fun k hk=>hk)
end ExS
end Go.Proofs.Ythmjimboajmhmaa.Pr

namespace Go.Proofs.Ythmjimboajmhmaa.Pr
open Go.RowKit Go.Proofs.YthmjimboajmhmaaW.PrintWords Go.Proofs.YthmjimboajmhmaaW.PrintLast Go.Proofs.YthmjimboajmhmaaW.PrintMore
attribute [local go_sem] zF zJ zI zM zH zL zG zK   -- for this text's walks alone
set_option linter.unusedVariables false
set_option linter.unusedSimpArgs false
def DV.f (l0:List aN):Option (List aN):=if l0.length<=3518437208883 then some l0 else none
set_option maxHeartbeats 4000000 in
set_option maxRecDepth 100000 in
theorem DV.calls (A0:Option Addr)(c0:Nat)(l0:List aN)(r:List aN)(w:World)(hr0:Kd.C k37 w A0 l0.length l0)(hc0:l0.length<=c0)(h:DV.f l0=some r) :
  Calls Try.prog 87 #[.slice A0 l0.length c0] w fun e w'=>∃ ku:Value,e=.returned (ku)/\Kd.R k37 37 w' w.heap.size (fun _=>True) ku r/\Below w.heap.size w w':=by
 unfold DV.f at h;by_cases hl:l0.length<=3518437208883
 .
  rw[if_pos hl] at h;obtain rfl:=Option.some.inj h;have HR:=ak hr0;clear hr0
  cases A0 with
  | none=>
   have hn:l0=[]:=by
    rcases Nat.eq_zero_or_pos l0.length with h0|h0
    .
     exact List.length_eq_zero_iff.1 h0
    .
     obtain⟨ad,e,_⟩:=HR.out.2.2 h0;cases e
   subst hn
   have hq:∀ w,Sem.run Try.prog (binOp .eql 28 (.slice none 0 c0) (.slice none 0 0)) w=.ok (.bool true) w:=fun w=>by rfl
   go_enter Try.func87,Try.ntmps87
   go_wp2
   go_ret;exact⟨_,rfl,Kd.oV _ _ _ _ _,Below.refl _ _⟩
  | some ad=>
   have hq:∀ w,Sem.run Try.prog (binOp .eql 28 (.slice (some ad) l0.length c0) (.slice none 0 0)) w=.ok (.bool false) w:=fun w=>by rfl
   go_enter Try.func87,Try.ntmps87
   go_wp2_with (first|((with_reducible refine bT (N:=5) rfl ?_);refine Kd.ru k37 _ 37 ?hg (N:=5) ?hd (xs:=[]) (inner:=[]) (ok:=fun _=>True) (iJ:=fun _=>True) ?hr ?hp (fun _ hk=>hk) trivial (Below.refl _ _) (Nat.le_refl _) (by simp) ?_;(case hd=>rfl);(case hg=>rfl);(case hr=>first|(go_simp;done)|(go_simp;rfl));(case hp=>exact(bW.none _ _));intro v5 w4 Vh hb5 iP OC;clear iP OC;have ZG:=ak Vh;have MP:=ak hb5;clear Vh hb5)|((with_reducible refine EC (b:=.append) (xs:=#[.tmp 5,.tmp 6]) rfl ?_);at_builtin;refine Kd.qam k37 (w0:=w) w.heap.size rfl (.tmp 5) (.tmp 6) 28 37 (.agg #[(.int .i64 0),(.int .i64 0),(.int .i64 0),(.int .i64 0),(.int .i64 0)]) 40 rfl Try.underlying28 info37 rfl (by decide) (by omega) v5 [] l0 (some ad) _ _ (fun _=>True) (fun _=>False) rfl rfl ZG.out (Kd.dU HR.out MP.out) (fun _ _ h=>h) (fun _ h=>h.elim) (fun _ _=>trivial) MP.out (eG MP.out) (by simp;omega) ?_;intro v7 w7 Hw hb7 hg7 qbn;have ZH:=ak Hw;have ZA:=ak hb7;clear Hw hb7 hg7 qbn))
   go_ret;exact⟨_,rfl,ZH.out,ZA.out⟩
 .
  rw[if_neg hl] at h;cases h
def CX.f (l0:List Bool):Option (List Bool):=if l0.length<=140737488355328 then some l0 else none
set_option maxHeartbeats 4000000 in
set_option maxRecDepth 100000 in
theorem CX.calls (A0:Option Addr)(c0:Nat)(l0:List Bool)(r:List Bool)(w:World)(hr0:Kd.C Kd.bool w A0 l0.length l0)(hc0:l0.length<=c0)(h:CX.f l0=some r) :
  Calls Try.prog 109 #[.slice A0 l0.length c0] w fun e w'=>∃ ku:Value,e=.returned (ku)/\Kd.R Kd.bool 4 w' w.heap.size (fun _=>True) ku r/\Below w.heap.size w w':=by
 unfold CX.f at h;by_cases hl:l0.length<=140737488355328
 .
  rw[if_pos hl] at h;obtain rfl:=Option.some.inj h;have HR:=ak hr0;clear hr0
  cases A0 with
  | none=>
   have hn:l0=[]:=by
    rcases Nat.eq_zero_or_pos l0.length with h0|h0
    .
     exact List.length_eq_zero_iff.1 h0
    .
     obtain⟨ad,e,_⟩:=HR.out.2.2 h0;cases e
   subst hn
   have hq:∀ w,Sem.run Try.prog (binOp .eql 23 (.slice none 0 c0) (.slice none 0 0)) w=.ok (.bool true) w:=fun w=>by rfl
   go_enter Try.func109,Try.ntmps109
   go_wp2
   go_ret;exact⟨_,rfl,Kd.oV _ _ _ _ _,Below.refl _ _⟩
  | some ad=>
   have hq:∀ w,Sem.run Try.prog (binOp .eql 23 (.slice (some ad) l0.length c0) (.slice none 0 0)) w=.ok (.bool false) w:=fun w=>by rfl
   go_enter Try.func109,Try.ntmps109
   go_wp2_with (first|((with_reducible refine bT (N:=5) rfl ?_);refine Kd.ru Kd.bool _ 4 ?hg (N:=5) ?hd (xs:=[]) (inner:=[]) (ok:=fun _=>True) (iJ:=fun _=>True) ?hr ?hp (fun _ hk=>hk) trivial (Below.refl _ _) (Nat.le_refl _) (by simp) ?_;(case hd=>rfl);(case hg=>rfl);(case hr=>first|(go_simp;done)|(go_simp;rfl));(case hp=>exact(bW.none _ _));intro v5 w4 Vh hb5 iP OC;clear iP OC;have ZG:=ak Vh;have MP:=ak hb5;clear Vh hb5)|((with_reducible refine EC (b:=.append) (xs:=#[.tmp 5,.tmp 6]) rfl ?_);at_builtin;refine Kd.qam Kd.bool (w0:=w) w.heap.size rfl (.tmp 5) (.tmp 6) 23 4 (.bool false) 1 rfl Try.underlying23 info4 rfl (by decide) (by omega) v5 [] l0 (some ad) _ _ (fun _=>True) (fun _=>False) rfl rfl ZG.out (Kd.dU HR.out MP.out) (fun _ _ h=>h) (fun _ h=>h.elim) (fun _ _=>trivial) MP.out (eG MP.out) (by simp;omega) ?_;intro v7 w7 Hw hb7 hg7 qbn;have ZH:=ak Hw;have ZA:=ak hb7;clear Hw hb7 hg7 qbn))
   go_ret;exact⟨_,rfl,ZH.out,ZA.out⟩
 .
  rw[if_neg hl] at h;cases h
end Go.Proofs.Ythmjimboajmhmaa.Pr

