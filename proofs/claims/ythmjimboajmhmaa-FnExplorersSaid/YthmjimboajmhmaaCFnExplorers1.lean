/-
What is proved: parts of the law FnExplorers: what the functions that it reaches compute, and the plain law.
Conditions: those of each theorem.
-/
import Derived.ArgAppend
import Derived.Below
import Derived.BigQuiet
import Derived.Deep.AppendLies
import Derived.Deep.CutBlock
import Derived.Deep.DeepCutAuto
import Derived.Deep.Draws
import Derived.Deep.LoopGhost
import Derived.Deep.OwnRows
import Derived.Deep.QuietTactic
import Derived.Deep.RegionHeld3
import Derived.Deep.RegionLaw
import Derived.KernelRfl
import Derived.Laws.BitsLemmas
import Derived.Laws.BytesArg
import Derived.Laws.CopyOwn
import Derived.Laws.Cover1
import Derived.Laws.IdiomCopy
import Derived.Laws.IdiomStrings
import Derived.Laws.MakeOwn
import Derived.Laws.OwnMore
import Derived.Laws.Rows
import Derived.Laws.Slices
import Derived.Lib.AppendStr
import Derived.Lib.ConvBytes
import Derived.Maps.AppendAt
import Derived.OrdersHeld
import Derived.OwnWalk
import Derived.RowKit
import Derived.RowKit3
import Derived.Shelf.Abstract
import Derived.StillTailTactics
import Derived.Tactics
import Derived.Test.YthmjimboajmhmaaProg
import Derived.WalkKit
import Derived.WideLaws
import Derived.Test.YthmjimboajmhmaaCFnExplorers0
set_option maxHeartbeats 8000000
set_option maxRecDepth 100000
namespace Go.Proofs.Ythmjimboajmhmaa.Pr
open Go.RowKit Go.Proofs.YthmjimboajmhmaaW.PrintWords Go.Proofs.YthmjimboajmhmaaW.PrintLast Go.Proofs.YthmjimboajmhmaaW.PrintMore
attribute [local go_sem] max2_int min2_int max_two min_two max_three min_three max_four min_four   -- for this text's walks alone
set_option linter.unusedVariables false
set_option linter.unusedSimpArgs false
def errW:Option Int -> Value
 | none=>.nilIface
 | some c=>.iface 0 (.int .i64 c)
theorem errW_none:errW none = .nilIface:=rfl
theorem errW_some (c:Int):errW (some c) = .iface 0 (.int .i64 c):=rfl
theorem info3:(Try.prog.info? 3).map (fun i=>(i.zero,i.size,i.bytes)) = some (some (.int .i64 0),1,8):=by kernel_rfl
theorem info4:(Try.prog.info? 4).map (fun i=>(i.zero,i.size,i.bytes)) = some (some (.bool false),1,1):=by kernel_rfl
theorem info37:(Try.prog.info? 37).map (fun i=>(i.zero,i.size,i.bytes)) = some (some (.agg #[(.int .i64 0),(.int .i64 0),(.int .i64 0),(.int .i64 0),(.int .i64 0)]),5,40):=by kernel_rfl
theorem info118:(Try.prog.info? 118).map (fun i=>(i.zero,i.size,i.bytes)) = some (some (.agg #[(.int .i64 0),(.int .i64 0),(.int .i64 0)]),3,24):=by kernel_rfl
structure S37 where
 f0:Int
 f1:Int
 f2:Int
 f3:Int
 f4:Int
def z37:S37:=⟨(0:Int),(0:Int),(0:Int),(0:Int),(0:Int)⟩
def k37:Kd S37:=Kd.iso (Kd.pair (Kd.int .i64) (Kd.pair (Kd.int .i64) (Kd.pair (Kd.int .i64) (Kd.pair (Kd.int .i64) (Kd.int .i64))))) (fun x:S37=>(x.f0,x.f1,x.f2,x.f3,x.f4))
theorem k37_open {w:World} {x:S37} {cs:List Value} (h:k37.K w x cs):cs = [.int .i64 x.f0,.int .i64 x.f1,.int .i64 x.f2,.int .i64 x.f3,.int .i64 x.f4]:=by
 obtain ⟨_,_,rfl,rfl,⟨_,_,rfl,rfl,⟨_,_,rfl,rfl,⟨_,_,rfl,rfl,rfl⟩⟩⟩⟩:=h
 exact rfl
theorem k37_openM {w:World} {base:Nat} {ok:Nat -> Prop} {x:S37} {cs:List Value} (h:k37.M w base ok x cs):cs = [.int .i64 x.f0,.int .i64 x.f1,.int .i64 x.f2,.int .i64 x.f3,.int .i64 x.f4]:=by
 obtain ⟨_,_,rfl,rfl,⟨_,_,rfl,rfl,⟨_,_,rfl,rfl,⟨_,_,rfl,rfl,rfl⟩⟩⟩⟩:=h
 exact rfl
theorem k37_mkM (w:World) (base:Nat) (ok:Nat -> Prop) (x:S37)  : k37.M w base ok x [.int .i64 x.f0,.int .i64 x.f1,.int .i64 x.f2,.int .i64 x.f3,.int .i64 x.f4]:=⟨[.int .i64 x.f0],[.int .i64 x.f1,.int .i64 x.f2,.int .i64 x.f3,.int .i64 x.f4],rfl,rfl,⟨[.int .i64 x.f1],[.int .i64 x.f2,.int .i64 x.f3,.int .i64 x.f4],rfl,rfl,⟨[.int .i64 x.f2],[.int .i64 x.f3,.int .i64 x.f4],rfl,rfl,⟨[.int .i64 x.f3],[.int .i64 x.f4],rfl,rfl,rfl⟩⟩⟩⟩
def rd_T37 (xs:List S37) (i:Int):S37:=xs.getD i.toNat z37
theorem at_T37 {w:World} {A:Option Addr} {n:Nat} {xs:List S37} (h:Kd.C k37 w A n xs) (i:Int) (h0:0 <= i) (h1:i < n):∃ ad ,A = some ad /\ w.cell? (ad.add (i.toNat * 5)) = some (.int .i64 (rd_T37 xs i).f0) /\ w.cell? ⟨(ad.add (i.toNat * 5)).block,(ad.add (i.toNat * 5)).off + 1,none⟩ = some (.int .i64 (rd_T37 xs i).f1) /\ w.cell? ⟨(ad.add (i.toNat * 5)).block,(ad.add (i.toNat * 5)).off + 2,none⟩ = some (.int .i64 (rd_T37 xs i).f2) /\ w.cell? ⟨(ad.add (i.toNat * 5)).block,(ad.add (i.toNat * 5)).off + 3,none⟩ = some (.int .i64 (rd_T37 xs i).f3) /\ w.cell? ⟨(ad.add (i.toNat * 5)).block,(ad.add (i.toNat * 5)).off + 4,none⟩ = some (.int .i64 (rd_T37 xs i).f4):=by
 obtain ⟨ad,c,e,_,hK,hc0⟩:=Kd.C_get h z37 i h0 h1
 have hc:∀ j u,c[j]? = some u -> w.cell? (ad.add (i.toNat * 5 + j)) = some u:=hc0
 obtain rfl:=k37_open hK
 exact ⟨ad,e,hc 0 _ rfl,by rw [<- add_field _ _ 1 (by omega)];exact hc 1 _ rfl,by rw [<- add_field _ _ 2 (by omega)];exact hc 2 _ rfl,by rw [<- add_field _ _ 3 (by omega)];exact hc 3 _ rfl,by rw [<- add_field _ _ 4 (by omega)];exact hc 4 _ rfl⟩
structure S118 where
 f0:Int
 f1:Int
 f2:Int
def z118:S118:=⟨(0:Int),(0:Int),(0:Int)⟩
def k118:Kd S118:=Kd.iso (Kd.pair (Kd.int .i64) (Kd.pair (Kd.int .i64) (Kd.int .i64))) (fun x:S118=>(x.f0,x.f1,x.f2))
theorem k118_open {w:World} {x:S118} {cs:List Value} (h:k118.K w x cs):cs = [.int .i64 x.f0,.int .i64 x.f1,.int .i64 x.f2]:=by
 obtain ⟨_,_,rfl,rfl,⟨_,_,rfl,rfl,rfl⟩⟩:=h
 exact rfl
theorem k118_mkM (w:World) (base:Nat) (ok:Nat -> Prop) (x:S118)  : k118.M w base ok x [.int .i64 x.f0,.int .i64 x.f1,.int .i64 x.f2]:=⟨[.int .i64 x.f0],[.int .i64 x.f1,.int .i64 x.f2],rfl,rfl,⟨[.int .i64 x.f1],[.int .i64 x.f2],rfl,rfl,rfl⟩⟩
def rd_T118 (xs:List S118) (i:Int):S118:=xs.getD i.toNat z118
theorem at_T118 {w:World} {A:Option Addr} {n:Nat} {xs:List S118} (h:Kd.C k118 w A n xs) (i:Int) (h0:0 <= i) (h1:i < n):∃ ad ,A = some ad /\ w.cell? (ad.add (i.toNat * 3)) = some (.int .i64 (rd_T118 xs i).f0) /\ w.cell? ⟨(ad.add (i.toNat * 3)).block,(ad.add (i.toNat * 3)).off + 1,none⟩ = some (.int .i64 (rd_T118 xs i).f1) /\ w.cell? ⟨(ad.add (i.toNat * 3)).block,(ad.add (i.toNat * 3)).off + 2,none⟩ = some (.int .i64 (rd_T118 xs i).f2):=by
 obtain ⟨ad,c,e,_,hK,hc0⟩:=Kd.C_get h z118 i h0 h1
 have hc:∀ j u,c[j]? = some u -> w.cell? (ad.add (i.toNat * 3 + j)) = some u:=hc0
 obtain rfl:=k118_open hK
 exact ⟨ad,e,hc 0 _ rfl,by rw [<- add_field _ _ 1 (by omega)];exact hc 1 _ rfl,by rw [<- add_field _ _ 2 (by omega)];exact hc 2 _ rfl⟩
end Go.Proofs.Ythmjimboajmhmaa.Pr

namespace Go.Proofs.Ythmjimboajmhmaa.Pr
open Go.RowKit Go.Proofs.YthmjimboajmhmaaW.PrintWords Go.Proofs.YthmjimboajmhmaaW.PrintLast Go.Proofs.YthmjimboajmhmaaW.PrintMore
set_option linter.unusedVariables false
set_option linter.unusedSimpArgs false
section
variable {P:Program} {md:Region.Mode} {ops:Array Oper} {Q:Exit -> Act -> World -> Prop} {S:World -> Prop} {ds:List Nat} {T:Bool × List (List Nat × List Nat)}
theorem pz_ {fuel:Nat} {l:Array Bool} {a:Act} {w:World} {oi:Oper} {v:Value} {a':Act} (HT:Aside0 (rtab md ops = T)) (i:Nat) (N:Option Tmp) (l':Array Bool) (h:wpAnyLast P md ops Q S ds fuel l' a' w)
  (hi:ops[i]? = some oi:=by exact rfl) (hN:oi.dst = N:=by exact rfl) (hc:anyT T l.toList l'.toList i = true:=by kernel_rfl) (hQ:∀ c a w,Q (.panic c) (a.put oi.dst v) w -> Q (.panic c) a w:=by exact fun _ _ _ h=>h)
  (hy:Yields P ops oi v a:=by exact Or.inl ⟨by rfl,by intro w';go_simp;with_reducible rfl⟩) (ha:a.put N v = a':=by simp only [Act.put,List.setIfInBounds_toArray,List.set_cons_zero,List.set_cons_succ,i64_w,i32_w];rfl) :
  wpAnyLast P md ops Q S ds (fuel + 1) l a w:=pure_ l' hi hN (any_of HT.out hc) hQ hy ha h
theorem ga_ {rest:List Oper} {oi:Oper} {a:Act} {w:World} {f:FuncId} {fn:Func} {ar:Array Operand} {ts:Array TypeId} (N:Option Tmp) (hf:P.funcs[f]? = some fn) (args:Array Value) (h:Calls P f args w fun e w'=>∃ v,e = .returned v /\ wpList P ops Q rest (a.put N v) w')
  (hd:oi.dst = N:=by exact rfl) (hg:oi.guard = none:=by exact rfl) (hname:(fn.name == "runtime.NumGoroutine") = false:=by kernel_rfl) (hb:fn.body.isSome = true:=by exact rfl) (hop:oi.op = .call { callee:=.value (.func f),args:=ar,argTypes:=ts }:=by exact rfl)
  (hargs:ar.map a.eval = args:=by (try simp only [List.map_toArray,List.map_cons,List.map_nil]);first|done|rfl|(simp only [List.length_drop,List.length_take];rfl)):wpList P ops Q (oi :: rest) a w:=goesL_ N hd hg hf hname hb args hop hargs h
end
theorem lb0_ {n:Nat} {w w0 w1:World} (HB:Below n w w0) (h:Below n w w0 -> Below n w w1:=by intro HB_;repeat (first|(with_reducible first|exact HB_|apply below_alloc|apply pw_below_drewN|apply below_drew1)|exact HB_)):Below n w w1:=h HB
theorem lb1_ {n:Nat} {w w0 w1:World} {A:Prop} (HB:Below n w w0) (G:A) (h:Below n w w0 -> A -> Below n w w1:=by intro HB_ G_;repeat (first|(with_reducible first|exact HB_|apply below_alloc|apply pw_below_drewN|apply below_drew1|refine below_set ?_ G_)|exact HB_)):Below n w w1:=h HB G
theorem lb2_ {n:Nat} {w w0 w1:World} {A B:Prop} (HB:Below n w w0) (G:A) (H:B) (h:Below n w w0 -> A -> B -> Below n w w1:=by intro HB_ G_ H_;repeat (first|(with_reducible first|exact HB_|apply below_alloc|apply pw_below_drewN|apply below_drew1|refine below_set ?_ G_|refine below_set ?_ H_)|exact HB_)):Below n w w1:=h HB G H
theorem rr_ {α:Sort _} {a b:α} (h:a = b:=by first|rfl|(simp [errW_none,errW_some] <;> rfl)|(simp [*,errW_none,errW_some] <;> rfl)):a = b:=h
theorem kr_ {α:Type} {d:Kd α} {e base:Nat} {w w1:World} {ok:Nat -> Prop} {v:Value} {xs:List α} (h:d.R e w base ok v xs) (hh:d.R e w base ok v xs -> d.R e w1 base ok v xs:=by intro h_;(with_reducible repeat (first|apply Kd.R_alloc|apply Kd.R_drewN|apply Kd.R_drew));exact h_):d.R e w1 base ok v xs:=hh h
theorem kc_ {α:Type} {d:Kd α} {w w1:World} {A:Option Addr} {n:Nat} {xs:List α} (h:d.C w A n xs) (hh:d.C w A n xs -> d.C w1 A n xs:=by intro h_;repeat (first|exact h_|(with_reducible refine Kd.C_alloc ?_ _)|(with_reducible refine Kd.C_drewN ?_ _)|(with_reducible refine Kd.C_drew ?_))):d.C w1 A n xs:=hh h
theorem bk_ {w w1:World} {g:Nat} {o:Obj} (h:w.heap[g]? = some o) (hh:w.heap[g]? = some o -> w1.heap[g]? = some o:=by intro h_;(with_reducible repeat (first|refine blk_drewN ?_ _|refine blk_drew ?_|refine blk_alloc ?_ _));exact h_):w1.heap[g]? = some o:=hh h
theorem dt_ {p:Prop} [inst:Decidable p] (h:decide p = true:=by first|(with_reducible assumption)|assumption):p:=of_decide_eq_true h
theorem bc_ {w w0:World} {a:Addr} {v:Value} (hb:Below w.heap.size w w0) (h:w.cell? a = some v):w0.cell? a = some v:=(hb.cell (World.block_lt_of_cell? w _ h)).trans h
section
variable {P:Program} {md:Region.Mode} {ops:Array Oper} {Q:Exit -> Act -> World -> Prop} {S:World -> Prop} {ds:List Nat}
theorem na_ {fuel:Nat} {l:Array Bool} {a a':Act} {w:World} (h:wpAnyLast P md ops Q S ds fuel l a' w) (ha:a = a':=by show Act.put _ (some _) _ = _;simp only [Act.put,List.setIfInBounds_toArray,List.set_cons_zero,List.set_cons_succ,i64_w,i32_w];rfl):wpAnyLast P md ops Q S ds fuel l a w:=norm_ ha h
theorem nb_ {fuel:Nat} {l:Array Bool} {a a':Act} {w:World} (h:wpAnyLast P md ops Q S ds fuel l a' w) (ha:a = a':=by simp only [putAll,Act.put,List.setIfInBounds_toArray,List.set_cons_zero,List.set_cons_succ];rfl):wpAnyLast P md ops Q S ds fuel l a w:=norm_ ha h
end
theorem bz_ {w W:World} {g:Nat} (hg:g = W.heap.size) (h:Below w.heap.size w W):w.heap.size <= g:=by rw [hg];exact h.size
theorem lb3_ {n:Nat} {w w0 w1:World} {A B C:Prop} (HB:Below n w w0) (G:A) (H:B) (I:C) (h:Below n w w0 -> A -> B -> C -> Below n w w1:=by intro HB_ G_ H_ I_;repeat (first|(with_reducible first|exact HB_|apply below_alloc|apply pw_below_drewN|apply below_drew1|refine below_set ?_ G_|refine below_set ?_ H_|refine below_set ?_ I_)|exact HB_)):Below n w w1:=h HB G H I
theorem kb0_ {w w0 w1:World} {g:Nat} {row:Option Nat} (h:KeepBut w w0 g row) (hh:KeepBut w w0 g row -> KeepBut w w1 g row:=by intro h_;repeat (first|(with_reducible first|exact h_|apply KeepBut.set_|apply keep_drewN|apply keep_drew|apply keep_alloc)|exact h_)):KeepBut w w1 g row:=hh h
theorem kt_ {w w0 w1:World} {S:Nat -> Prop} (h:Kept w w0 S) (hh:Kept w w0 S -> Kept w w1 S:=by intro h_;repeat (first|(with_reducible first|exact h_|apply Kept.alloc|apply Kept.drewN|apply Kept.drew)|exact h_)):Kept w w1 S:=hh h
theorem krm_ {α:Type} {d:Kd α} {e base:Nat} {w w1:World} {ok ok':Nat -> Prop} {v:Value} {xs:List α} (h:d.R e w base ok v xs) (hm:∀ k,ok k -> ok' k) (hh:d.R e w base ok v xs -> d.R e w1 base ok v xs:=by intro h_;(with_reducible repeat (first|apply Kd.R_alloc|apply Kd.R_drewN|apply Kd.R_drew));exact h_):d.R e w1 base ok' v xs:=Kd.R_mono (hh h) hm
theorem bb_ {w1 w2:World} {g:Nat} {o:Obj} (h:w1.heap[g]? = some o) (hb:Below w1.heap.size w1 w2):w2.heap[g]? = some o:=blk_below h hb
theorem ry_ {α:Type} {d:Kd α} {e base:Nat} {w:World} {ok:Nat -> Prop} {v:Value} {xs ys:List α} (he:ys = xs) (h:d.R e w base ok v xs):d.R e w base ok v ys:=by rw [he];exact h
section
variable {P:Program} {ops:Array Oper} {Q:Exit -> Act -> World -> Prop}
theorem gs_ {oi:Oper} {N:Option Tmp} {a:Act} {w:World} {K:Act -> World -> Prop} {f:FuncId} {fn:Func} {ar:Array Operand} {ts:Array TypeId} (hf:P.funcs[f]? = some fn) (args:Array Value) (h:Calls P f args w fun e w'=>∃ v,e = .returned v /\ K (a.put N v) w')
  (hname:(fn.name == "runtime.NumGoroutine") = false:=by kernel_rfl) (hb:fn.body.isSome = true:=by exact rfl) (hw:Region.wanted oi (yielded ops a.tmps) = true:=by rfl) (hN:oi.dst = N:=by exact rfl) (hop:oi.op = .call { callee:=.value (.func f),args:=ar,argTypes:=ts }:=by exact rfl)
  (hargs:ar.map a.eval = args:=by (try simp only [List.map_toArray,List.map_cons,List.map_nil]);first|done|rfl|(simp only [List.length_drop,List.length_take];rfl)):if Region.wanted oi (yielded ops a.tmps) = true then Oper.wp P oi a w K Q else K (a.put N undef) w:=goes_ hf hname hb args hw hN hop hargs h
end
theorem cz3_ {w:World} {g:Nat} {t:TypeId} {a0 a1 a2:Value} (h:w.heap[g]? = some (.cells #[a0,a1,a2] t (0,0))):w.cell? ⟨g,0,none⟩ = some a0 /\ w.cell? ⟨g,1,none⟩ = some a1 /\ w.cell? ⟨g,2,none⟩ = some a2:=⟨(blk_cell h 0).trans rfl,(blk_cell h 1).trans rfl,(blk_cell h 2).trans rfl⟩
theorem fz3_ {w:World} {g:Nat} {t:TypeId} {a0 a1 a2:Value} (h:w.heap[g]? = some (.cells #[a0,a1,a2] t (0,0))):w.frozen? ⟨g,0,none⟩ = false /\ w.frozen? ⟨g,1,none⟩ = false /\ w.frozen? ⟨g,2,none⟩ = false:=⟨blk_frozen h 0,blk_frozen h 1,blk_frozen h 2⟩
theorem cz5_ {w:World} {g:Nat} {t:TypeId} {a0 a1 a2 a3 a4:Value} (h:w.heap[g]? = some (.cells #[a0,a1,a2,a3,a4] t (0,0))):w.cell? ⟨g,0,none⟩ = some a0 /\ w.cell? ⟨g,1,none⟩ = some a1 /\ w.cell? ⟨g,2,none⟩ = some a2 /\ w.cell? ⟨g,3,none⟩ = some a3 /\ w.cell? ⟨g,4,none⟩ = some a4:=⟨(blk_cell h 0).trans rfl,(blk_cell h 1).trans rfl,(blk_cell h 2).trans rfl,(blk_cell h 3).trans rfl,(blk_cell h 4).trans rfl⟩
theorem fz5_ {w:World} {g:Nat} {t:TypeId} {a0 a1 a2 a3 a4:Value} (h:w.heap[g]? = some (.cells #[a0,a1,a2,a3,a4] t (0,0))):w.frozen? ⟨g,0,none⟩ = false /\ w.frozen? ⟨g,1,none⟩ = false /\ w.frozen? ⟨g,2,none⟩ = false /\ w.frozen? ⟨g,3,none⟩ = false /\ w.frozen? ⟨g,4,none⟩ = false:=⟨blk_frozen h 0,blk_frozen h 1,blk_frozen h 2,blk_frozen h 3,blk_frozen h 4⟩
theorem cz7_ {w:World} {g:Nat} {t:TypeId} {a0 a1 a2 a3 a4 a5 a6:Value} (h:w.heap[g]? = some (.cells #[a0,a1,a2,a3,a4,a5,a6] t (0,0))):w.cell? ⟨g,0,none⟩ = some a0 /\ w.cell? ⟨g,1,none⟩ = some a1 /\ w.cell? ⟨g,2,none⟩ = some a2 /\ w.cell? ⟨g,3,none⟩ = some a3 /\ w.cell? ⟨g,4,none⟩ = some a4 /\ w.cell? ⟨g,5,none⟩ = some a5 /\ w.cell? ⟨g,6,none⟩ = some a6:=⟨(blk_cell h 0).trans rfl,(blk_cell h 1).trans rfl,(blk_cell h 2).trans rfl,(blk_cell h 3).trans rfl,(blk_cell h 4).trans rfl,(blk_cell h 5).trans rfl,(blk_cell h 6).trans rfl⟩
theorem fz7_ {w:World} {g:Nat} {t:TypeId} {a0 a1 a2 a3 a4 a5 a6:Value} (h:w.heap[g]? = some (.cells #[a0,a1,a2,a3,a4,a5,a6] t (0,0))):w.frozen? ⟨g,0,none⟩ = false /\ w.frozen? ⟨g,1,none⟩ = false /\ w.frozen? ⟨g,2,none⟩ = false /\ w.frozen? ⟨g,3,none⟩ = false /\ w.frozen? ⟨g,4,none⟩ = false /\ w.frozen? ⟨g,5,none⟩ = false /\ w.frozen? ⟨g,6,none⟩ = false:=⟨blk_frozen h 0,blk_frozen h 1,blk_frozen h 2,blk_frozen h 3,blk_frozen h 4,blk_frozen h 5,blk_frozen h 6⟩
abbrev tT:Bool:=true
abbrev fF:Bool:=false
section
variable {P:Program} {md:Region.Mode} {ops:Array Oper} {Q:Exit -> Act -> World -> Prop} {S:World -> Prop} {ds:List Nat} {T:Bool × List (List Nat × List Nat)} {B:List Nat}
theorem tk_ {fuel:Nat} {l:Array Bool} {a:Act} {w:World} {oi:Oper} {v:Value} {a':Act} (HT:Aside0 (rtab md ops = T)) (HW:Aside0 (waitsOk T.2 B = true)) (hS:S w) (i:Nat) (N:Option Tmp) (l':Array Bool) (h:wpAnyLast P md ops Q S ds fuel l' a' w)
  (hi:ops[i]? = some oi:=by exact rfl) (hN:oi.dst = N:=by exact rfl) (hc:takeW T B ds l.toList l'.toList i = true:=by kernel_rfl) (hQ:∀ c a w,Q (.panic c) (a.put oi.dst v) w -> Q (.panic c) a w:=by exact fun _ _ _ h=>h)
  (hy:YieldsIf P ops S oi v a:=by exact Or.inl ⟨by rfl,by intro w' hs;(repeat (obtain ⟨s_,hs⟩:=hs));go_simp;with_reducible rfl⟩) (ha:a.put N v = a':=by simp only [Act.put,List.setIfInBounds_toArray,List.set_cons_zero,List.set_cons_succ,i64_w,i32_w];rfl) :
  wpAnyLast P md ops Q S ds (fuel + 1) l a w:=take_ l' hi hN (take_ofW HT.out HW.out hc) hQ hy hS ha h
theorem pu_ {fuel:Nat} {l:Array Bool} {a:Act} {w:World} {oi:Oper} {a':Act} (HT:Aside0 (rtab md ops = T)) (i:Nat) (N:Option Tmp) (l':Array Bool) (h:wpAnyLast P md ops Q S ds fuel l' a' w)
  (hi:ops[i]? = some oi:=by exact rfl) (hN:oi.dst = N:=by exact rfl) (hc:anyT T l.toList l'.toList i = true:=by kernel_rfl) (hQ:∀ c a w,Q (.panic c) (a.put oi.dst undef) w -> Q (.panic c) a w:=by exact fun _ _ _ h=>h)
  (hy:Yields P ops oi undef a:=by exact Or.inr ⟨by rfl,rfl⟩) (ha:a.put N undef = a':=by simp only [Act.put,List.setIfInBounds_toArray,List.set_cons_zero,List.set_cons_succ,i64_w,i32_w];rfl) :
  wpAnyLast P md ops Q S ds (fuel + 1) l a w:=pure_ l' hi hN (any_of HT.out hc) hQ hy ha h
end
theorem nl_ {w W:World} {g g':Nat} {o:Obj} (hg:g' = W.heap.size) (h:w.heap[g]? = some o) (hh:w.heap[g]? = some o -> W.heap[g]? = some o:=by intro h_;(with_reducible repeat (first|refine blk_drewN ?_ _|refine blk_drew ?_|refine blk_alloc ?_ _));exact h_):g ≠ g':=by rw [hg];exact Nat.ne_of_lt (blk_lt (hh h))
theorem ng_ {w W:World} {g g':Nat} {o:Obj} (hg:g' = W.heap.size) (h:w.heap[g]? = some o) (hh:w.heap[g]? = some o -> W.heap[g]? = some o:=by intro h_;(with_reducible repeat (first|refine blk_drewN ?_ _|refine blk_drew ?_|refine blk_alloc ?_ _));exact h_):g' ≠ g:=by rw [hg];exact Nat.ne_of_gt (blk_lt (hh h))
theorem f2_ {w:World} {g g':Nat} {t:TypeId} {cs:Array Value} {j0 j1:Nat} (h:w.heap[g]? = some (.cells cs t (0,0))) (hne:g ≠ g') (a0 a1:Value):((w.setCell ⟨g',j0,none⟩ a0).setCell ⟨g',j1,none⟩ a1).heap[g]? = some (.cells cs t (0,0)):=(blk_far (p:=⟨g',j1,none⟩) (blk_far (p:=⟨g',j0,none⟩) h hne _) hne _)
theorem p3_ {w:World} {g:Nat} {t:TypeId} {b0 b1 b2:Value} (h:w.heap[g]? = some (.cells #[b0,b1,b2] t (0,0))) (a0 a1 a2:Value):(((w.setCell ⟨g,0,none⟩ a0).setCell ⟨g,1,none⟩ a1).setCell ⟨g,2,none⟩ a2).heap[g]? = some (.cells #[a0,a1,a2] t (0,0)):=(blk_put (cs:=#[a0,a1,b2]) (blk_put (cs:=#[a0,b1,b2]) (blk_put (cs:=#[b0,b1,b2]) h 0 _ rfl) 1 _ rfl) 2 _ rfl)
theorem f3_ {w:World} {g g':Nat} {t:TypeId} {cs:Array Value} {j0 j1 j2:Nat} (h:w.heap[g]? = some (.cells cs t (0,0))) (hne:g ≠ g') (a0 a1 a2:Value):(((w.setCell ⟨g',j0,none⟩ a0).setCell ⟨g',j1,none⟩ a1).setCell ⟨g',j2,none⟩ a2).heap[g]? = some (.cells cs t (0,0)):=(blk_far (p:=⟨g',j2,none⟩) (blk_far (p:=⟨g',j1,none⟩) (blk_far (p:=⟨g',j0,none⟩) h hne _) hne _) hne _)
theorem f4_ {w:World} {g g':Nat} {t:TypeId} {cs:Array Value} {j0 j1 j2 j3:Nat} (h:w.heap[g]? = some (.cells cs t (0,0))) (hne:g ≠ g') (a0 a1 a2 a3:Value):((((w.setCell ⟨g',j0,none⟩ a0).setCell ⟨g',j1,none⟩ a1).setCell ⟨g',j2,none⟩ a2).setCell ⟨g',j3,none⟩ a3).heap[g]? = some (.cells cs t (0,0)):=(blk_far (p:=⟨g',j3,none⟩) (blk_far (p:=⟨g',j2,none⟩) (blk_far (p:=⟨g',j1,none⟩) (blk_far (p:=⟨g',j0,none⟩) h hne _) hne _) hne _) hne _)
theorem p5_ {w:World} {g:Nat} {t:TypeId} {b0 b1 b2 b3 b4:Value} (h:w.heap[g]? = some (.cells #[b0,b1,b2,b3,b4] t (0,0))) (a0 a1 a2 a3 a4:Value):(((((w.setCell ⟨g,0,none⟩ a0).setCell ⟨g,1,none⟩ a1).setCell ⟨g,2,none⟩ a2).setCell ⟨g,3,none⟩ a3).setCell ⟨g,4,none⟩ a4).heap[g]? = some (.cells #[a0,a1,a2,a3,a4] t (0,0)):=(blk_put (cs:=#[a0,a1,a2,a3,b4]) (blk_put (cs:=#[a0,a1,a2,b3,b4]) (blk_put (cs:=#[a0,a1,b2,b3,b4]) (blk_put (cs:=#[a0,b1,b2,b3,b4]) (blk_put (cs:=#[b0,b1,b2,b3,b4]) h 0 _ rfl) 1 _ rfl) 2 _ rfl) 3 _ rfl) 4 _ rfl)
theorem f5_ {w:World} {g g':Nat} {t:TypeId} {cs:Array Value} {j0 j1 j2 j3 j4:Nat} (h:w.heap[g]? = some (.cells cs t (0,0))) (hne:g ≠ g') (a0 a1 a2 a3 a4:Value):(((((w.setCell ⟨g',j0,none⟩ a0).setCell ⟨g',j1,none⟩ a1).setCell ⟨g',j2,none⟩ a2).setCell ⟨g',j3,none⟩ a3).setCell ⟨g',j4,none⟩ a4).heap[g]? = some (.cells cs t (0,0)):=(blk_far (p:=⟨g',j4,none⟩) (blk_far (p:=⟨g',j3,none⟩) (blk_far (p:=⟨g',j2,none⟩) (blk_far (p:=⟨g',j1,none⟩) (blk_far (p:=⟨g',j0,none⟩) h hne _) hne _) hne _) hne _) hne _)
theorem r5_ {α:Type} {d:Kd α} {e base:Nat} {ok:Nat -> Prop} {w:World} {g:Nat} {t:TypeId} {v:Value} {xs:List α} {cs:Array Value} (h:d.R e w base ok v xs) (hb:w.heap[g]? = some (.cells cs t (0,0))) (ht:∀ q,q ∈ e :: d.E -> q ≠ t) (a0 a1 a2 a3 a4:Value):d.R e (((((w.setCell ⟨g,0,none⟩ a0).setCell ⟨g,1,none⟩ a1).setCell ⟨g,2,none⟩ a2).setCell ⟨g,3,none⟩ a3).setCell ⟨g,4,none⟩ a4) base ok v xs:=Kd.R_mono (Kd.R_far (p:=⟨g,4,none⟩) (Kd.R_far (p:=⟨g,3,none⟩) (Kd.R_far (p:=⟨g,2,none⟩) (Kd.R_far (p:=⟨g,1,none⟩) (Kd.R_far (p:=⟨g,0,none⟩) (Kd.R_types h hb ht) (fun _ hk=>hk.2) _) (fun _ hk=>hk.2) _) (fun _ hk=>hk.2) _) (fun _ hk=>hk.2) _) (fun _ hk=>hk.2) _) (fun _ hk=>hk.1)
end Go.Proofs.Ythmjimboajmhmaa.Pr

namespace Go.Proofs.Ythmjimboajmhmaa.Pr
open Go.RowKit Go.Proofs.YthmjimboajmhmaaW.PrintWords Go.Proofs.YthmjimboajmhmaaW.PrintLast Go.Proofs.YthmjimboajmhmaaW.PrintMore
attribute [local go_sem] max2_int min2_int max_two min_two max_three min_three max_four min_four   -- for this text's walks alone
set_option linter.unusedVariables false
set_option linter.unusedSimpArgs false
def laws_vBig.f (l0:List Int):Option (Bool):=some (decide ((l0.length:Int) > 65536))
theorem laws_vBig.calls (A0:Option Addr) (c0:Nat) (l0:List Int) (r:Bool) (w:World) (hr0:Kd.C (Kd.int .u8) w A0 l0.length l0) (hc0:l0.length <= c0) (h:laws_vBig.f l0 = some r) :
  Calls Try.prog 20 #[.slice A0 l0.length c0] w fun e w'=>e = .returned (.bool r) /\ Drawn0 w w':=by
 have HR0:=ak hr0
 have HC0:=ak hc0
 clear hr0 hc0
 have H:(some (decide ((l0.length:Int) > 65536))) = some r:=h
 clear h
 obtain rfl:=Option.some.inj H
 go_enter Try.func20,Try.ntmps20
 go_wp2
 go_ret
 exact ⟨by first|rfl|(simp;done)|(simp [*];done),by repeat (first|exact Drawn0.refl _|apply Drawn0.step)⟩
def impl_within.f (a0:Int) (a1:Int) (a2:Int):Option (Bool):=if a0 >= a1 then (some (decide (a0 <= a2))) else (some false)
theorem impl_within.calls (a0:Int) (a1:Int) (a2:Int) (r:Bool) (w:World) (h:impl_within.f a0 a1 a2 = some r) :
  Calls Try.prog 71 #[.int .i64 a0,.int .i64 a1,.int .i64 a2] w fun e w'=>e = .returned (.bool r) /\ Drawn0 w w':=by
 have H:(if a0 >= a1 then (some (decide (a0 <= a2))) else (some false)) = some r:=h
 clear h
 by_cases c4:a0 >= a1
 .
  rw [if_pos c4] at H
  have c4b0:decide (a1 <= a0) = true:=decide_eq_true c4
  clear c4
  obtain rfl:=Option.some.inj H
  go_enter Try.func71,Try.ntmps71
  go_wp2
  go_ret
  exact ⟨by first|rfl|(simp;done)|(simp [*];done),by repeat (first|exact Drawn0.refl _|apply Drawn0.step)⟩
 .
  rw [if_neg c4] at H
  have c4b0:decide (a1 <= a0) = false:=decide_eq_false c4
  clear c4
  obtain rfl:=Option.some.inj H
  go_enter Try.func71,Try.ntmps71
  go_wp2
  go_ret
  exact ⟨by first|rfl|(simp;done)|(simp [*];done),by repeat (first|exact Drawn0.refl _|apply Drawn0.step)⟩
def impl_isStation.f (a0:Int):Option (Bool):=(impl_within.f a0 0 7).bind fun t154=>(some t154)
theorem impl_isStation.calls (a0:Int) (r:Bool) (w:World) (h:impl_isStation.f a0 = some r) :
  Calls Try.prog 70 #[.int .i64 a0] w fun e w'=>e = .returned (.bool r) /\ Drawn0 w w':=by
 have H:((impl_within.f a0 0 7).bind fun t154=>(some t154)) = some r:=h
 clear h
 replace H:=Option.bind_eq_some_iff.mp H
 obtain ⟨t154,A20,H⟩:=H
 replace H:(some t154) = some r:=H
 have A2:=ak A20
 clear A20
 obtain rfl:=Option.some.inj H
 go_enter Try.func70,Try.ntmps70
 go_wp2_with (first|((with_reducible refine gate_callee (f:=71) rfl ?_);refine ga_ (some 4) Try.func71 #[.int .i64 a0,.int .i64 0,.int .i64 7] ?_;(with_reducible refine (impl_within.calls a0 0 7 t154 _ A2.out).mono ?_);rintro e w' ⟨rfl,⟨nd,rfl⟩⟩;refine ⟨_,rfl,?_⟩))
 go_ret
 exact ⟨by first|rfl|(simp;done)|(simp [*];done),by repeat (first|exact Drawn0.refl _|apply Drawn0.step)⟩
def impl_isBearing.f (a0:Int):Option (Bool):=(impl_within.f a0 0 359).bind fun t155=>(some t155)
theorem impl_isBearing.calls (a0:Int) (r:Bool) (w:World) (h:impl_isBearing.f a0 = some r) :
  Calls Try.prog 117 #[.int .i64 a0] w fun e w'=>e = .returned (.bool r) /\ Drawn0 w w':=by
 have H:((impl_within.f a0 0 359).bind fun t155=>(some t155)) = some r:=h
 clear h
 replace H:=Option.bind_eq_some_iff.mp H
 obtain ⟨t155,A20,H⟩:=H
 replace H:(some t155) = some r:=H
 have A2:=ak A20
 clear A20
 obtain rfl:=Option.some.inj H
 go_enter Try.func117,Try.ntmps117
 go_wp2_with (first|((with_reducible refine gate_callee (f:=71) rfl ?_);refine ga_ (some 4) Try.func71 #[.int .i64 a0,.int .i64 0,.int .i64 359] ?_;(with_reducible refine (impl_within.calls a0 0 359 t155 _ A2.out).mono ?_);rintro e w' ⟨rfl,⟨nd,rfl⟩⟩;refine ⟨_,rfl,?_⟩))
 go_ret
 exact ⟨by first|rfl|(simp;done)|(simp [*];done),by repeat (first|exact Drawn0.refl _|apply Drawn0.step)⟩
def impl_IsLeg.f (a0_0:Int) (a0_1:Int) (a0_2:Int) (a0_3:Int) (a0_4:Int):Option (Bool):=(impl_isStation.f a0_0).bind fun t157=>(if t157 = true then ((impl_isStation.f a0_1).bind fun t158=>(if t158 = true then (if a0_0 = a0_1 then (some false) else ((impl_within.f a0_2 1 500).bind fun t159=>(if t159 = true then ((impl_isBearing.f a0_3).bind fun t160=>(if t160 = true then ((impl_within.f a0_4 (-90) 90).bind fun t161=>(some t161)) else (some false))) else (some false)))) else (some false))) else (some false))
theorem impl_IsLeg.calls (a0_0:Int) (a0_1:Int) (a0_2:Int) (a0_3:Int) (a0_4:Int) (r:Bool) (w:World) (h:impl_IsLeg.f a0_0 a0_1 a0_2 a0_3 a0_4 = some r) :
  Calls Try.prog 102 #[.agg #[.int .i64 a0_0,.int .i64 a0_1,.int .i64 a0_2,.int .i64 a0_3,.int .i64 a0_4]] w fun e w'=>e = .returned (.bool r) /\ Below w.heap.size w w':=by
 have hu37:=Try.underlying37
 have HB:=ak (Below.refl w.heap.size w)
 have H:((impl_isStation.f a0_0).bind fun t157=>(if t157 = true then ((impl_isStation.f a0_1).bind fun t158=>(if t158 = true then (if a0_0 = a0_1 then (some false) else ((impl_within.f a0_2 1 500).bind fun t159=>(if t159 = true then ((impl_isBearing.f a0_3).bind fun t160=>(if t160 = true then ((impl_within.f a0_4 (-90) 90).bind fun t161=>(some t161)) else (some false))) else (some false)))) else (some false))) else (some false))) = some r:=h
 clear h
 replace H:=Option.bind_eq_some_iff.mp H
 obtain ⟨t157,A20,H⟩:=H
 replace H:(if t157 = true then ((impl_isStation.f a0_1).bind fun t158=>(if t158 = true then (if a0_0 = a0_1 then (some false) else ((impl_within.f a0_2 1 500).bind fun t159=>(if t159 = true then ((impl_isBearing.f a0_3).bind fun t160=>(if t160 = true then ((impl_within.f a0_4 (-90) 90).bind fun t161=>(some t161)) else (some false))) else (some false)))) else (some false))) else (some false)) = some r:=H
 have A2:=ak A20
 clear A20
 by_cases c3:t157 = true
 .
  subst c3
  have H1:((impl_isStation.f a0_1).bind fun t158=>(if t158 = true then (if a0_0 = a0_1 then (some false) else ((impl_within.f a0_2 1 500).bind fun t159=>(if t159 = true then ((impl_isBearing.f a0_3).bind fun t160=>(if t160 = true then ((impl_within.f a0_4 (-90) 90).bind fun t161=>(some t161)) else (some false))) else (some false)))) else (some false))) = some r:=by rw [if_pos rfl] at H;exact H
  clear H
  have H:=H1
  clear H1
  replace H:=Option.bind_eq_some_iff.mp H
  obtain ⟨t158,A40,H⟩:=H
  replace H:(if t158 = true then (if a0_0 = a0_1 then (some false) else ((impl_within.f a0_2 1 500).bind fun t159=>(if t159 = true then ((impl_isBearing.f a0_3).bind fun t160=>(if t160 = true then ((impl_within.f a0_4 (-90) 90).bind fun t161=>(some t161)) else (some false))) else (some false)))) else (some false)) = some r:=H
  have A4:=ak A40
  clear A40
  by_cases c5:t158 = true
  .
   subst c5
   have H1:(if a0_0 = a0_1 then (some false) else ((impl_within.f a0_2 1 500).bind fun t159=>(if t159 = true then ((impl_isBearing.f a0_3).bind fun t160=>(if t160 = true then ((impl_within.f a0_4 (-90) 90).bind fun t161=>(some t161)) else (some false))) else (some false)))) = some r:=by rw [if_pos rfl] at H;exact H
   clear H
   have H:=H1
   clear H1
   by_cases c6:a0_0 = a0_1
   .
    rw [if_pos c6] at H
    have c6b0:(a0_0 == a0_1) = true:=beq_iff_eq.mpr c6
    have c6b1:(a0_0 != a0_1) = false:=bne_eq_false_iff_eq.mpr c6
    clear c6
    obtain rfl:=Option.some.inj H
    go_enter Try.func102,Try.ntmps102
    go_wp2_with (first|((with_reducible refine gate_dst (N:=1) rfl ?_);refine box_event ?hg (N:=1) ?hd (cs:=#[.int .i64 a0_0,.int .i64 a0_1,.int .i64 a0_2,.int .i64 a0_3,.int .i64 a0_4]) (t:=37) ?hr ?_;(case hd=>rfl);(case hg=>rfl);(case hr=>first|(go_simp;done)|(go_simp;rfl));intro gb156 hg w7 hbox hb;have BK156:=ak (hbox);have GW156:=ak ((bz_ hg (lb0_ HB.out)));have GE156:=ak ((bz_ hg (lb0_ HB.out)));replace HB:=ak (below_step (lb0_ HB.out) hb);clear hb hbox hg;obtain ⟨hcz8_0,hcz8_1,hcz8_2,hcz8_3,hcz8_4⟩:=cz5_ BK156.out;obtain ⟨hfz8_0,hfz8_1,hfz8_2,hfz8_3,hfz8_4⟩:=fz5_ BK156.out)|((with_reducible refine gate_callee (f:=70) rfl ?_);refine ga_ (some 5) Try.func70 #[.int .i64 a0_0] ?_;(with_reducible refine (impl_isStation.calls a0_0 true _ A2.out).mono ?_);rintro e w' ⟨rfl,⟨nd,rfl⟩⟩;refine ⟨_,rfl,?_⟩)|(go_at_call 70;(with_reducible refine (impl_isStation.calls a0_1 true _ A4.out).mono ?_);rintro e w' ⟨rfl,⟨nd,rfl⟩⟩))
    go_ret
    exact ⟨rr_,lb1_ HB.out GE156.out⟩
   .
    rw [if_neg c6] at H
    have c6b0:(a0_0 == a0_1) = false:=beq_eq_false_iff_ne.mpr c6
    have c6b1:(a0_0 != a0_1) = true:=bne_iff_ne.mpr c6
    replace H:=Option.bind_eq_some_iff.mp H
    obtain ⟨t159,A90,H⟩:=H
    replace H:(if t159 = true then ((impl_isBearing.f a0_3).bind fun t160=>(if t160 = true then ((impl_within.f a0_4 (-90) 90).bind fun t161=>(some t161)) else (some false))) else (some false)) = some r:=H
    have A9:=ak A90
    clear A90
    by_cases c10:t159 = true
    .
     subst c10
     have H1:((impl_isBearing.f a0_3).bind fun t160=>(if t160 = true then ((impl_within.f a0_4 (-90) 90).bind fun t161=>(some t161)) else (some false))) = some r:=by rw [if_pos rfl] at H;exact H
     clear H
     have H:=H1
     clear H1
     replace H:=Option.bind_eq_some_iff.mp H
     obtain ⟨t160,A110,H⟩:=H
     replace H:(if t160 = true then ((impl_within.f a0_4 (-90) 90).bind fun t161=>(some t161)) else (some false)) = some r:=H
     have A11:=ak A110
     clear A110
     by_cases c12:t160 = true
     .
      subst c12
      have H1:((impl_within.f a0_4 (-90) 90).bind fun t161=>(some t161)) = some r:=by rw [if_pos rfl] at H;exact H
      clear H
      have H:=H1
      clear H1
      replace H:=Option.bind_eq_some_iff.mp H
      obtain ⟨t161,A130,H⟩:=H
      replace H:(some t161) = some r:=H
      have A13:=ak A130
      clear A130
      obtain rfl:=Option.some.inj H
      go_enter Try.func102,Try.ntmps102
      go_wp2_with (first|((with_reducible refine gate_dst (N:=1) rfl ?_);refine box_event ?hg (N:=1) ?hd (cs:=#[.int .i64 a0_0,.int .i64 a0_1,.int .i64 a0_2,.int .i64 a0_3,.int .i64 a0_4]) (t:=37) ?hr ?_;(case hd=>rfl);(case hg=>rfl);(case hr=>first|(go_simp;done)|(go_simp;rfl));intro gb156 hg w14 hbox hb;have BK156:=ak (hbox);have GW156:=ak ((bz_ hg (lb0_ HB.out)));have GE156:=ak ((bz_ hg (lb0_ HB.out)));replace HB:=ak (below_step (lb0_ HB.out) hb);clear hb hbox hg;obtain ⟨hcz15_0,hcz15_1,hcz15_2,hcz15_3,hcz15_4⟩:=cz5_ BK156.out;obtain ⟨hfz15_0,hfz15_1,hfz15_2,hfz15_3,hfz15_4⟩:=fz5_ BK156.out)|((with_reducible refine gate_callee (f:=70) rfl ?_);refine ga_ (some 5) Try.func70 #[.int .i64 a0_0] ?_;(with_reducible refine (impl_isStation.calls a0_0 true _ A2.out).mono ?_);rintro e w' ⟨rfl,⟨nd,rfl⟩⟩;refine ⟨_,rfl,?_⟩)|(go_at_call 70;(with_reducible refine (impl_isStation.calls a0_1 true _ A4.out).mono ?_);rintro e w' ⟨rfl,⟨nd,rfl⟩⟩)|(go_at_call 71;(with_reducible refine (impl_within.calls a0_2 1 500 true _ A9.out).mono ?_);rintro e w' ⟨rfl,⟨nd,rfl⟩⟩)|(go_at_call 117;(with_reducible refine (impl_isBearing.calls a0_3 true _ A11.out).mono ?_);rintro e w' ⟨rfl,⟨nd,rfl⟩⟩)|(go_at_call 71;(with_reducible refine (impl_within.calls a0_4 (-90) 90 t161 _ A13.out).mono ?_);rintro e w' ⟨rfl,⟨nd,rfl⟩⟩))
      go_ret
      exact ⟨rr_,lb1_ HB.out GE156.out⟩
     .
      replace c12:=Bool.eq_false_iff.mpr c12
      subst c12
      have H1:(some false) = some r:=by rw [if_neg (show ¬ (false = true) by decide)] at H;exact H
      clear H
      have H:=H1
      clear H1
      obtain rfl:=Option.some.inj H
      go_enter Try.func102,Try.ntmps102
      go_wp2_with (first|((with_reducible refine gate_dst (N:=1) rfl ?_);refine box_event ?hg (N:=1) ?hd (cs:=#[.int .i64 a0_0,.int .i64 a0_1,.int .i64 a0_2,.int .i64 a0_3,.int .i64 a0_4]) (t:=37) ?hr ?_;(case hd=>rfl);(case hg=>rfl);(case hr=>first|(go_simp;done)|(go_simp;rfl));intro gb156 hg w16 hbox hb;have BK156:=ak (hbox);have GW156:=ak ((bz_ hg (lb0_ HB.out)));have GE156:=ak ((bz_ hg (lb0_ HB.out)));replace HB:=ak (below_step (lb0_ HB.out) hb);clear hb hbox hg;obtain ⟨hcz17_0,hcz17_1,hcz17_2,hcz17_3,hcz17_4⟩:=cz5_ BK156.out;obtain ⟨hfz17_0,hfz17_1,hfz17_2,hfz17_3,hfz17_4⟩:=fz5_ BK156.out)|((with_reducible refine gate_callee (f:=70) rfl ?_);refine ga_ (some 5) Try.func70 #[.int .i64 a0_0] ?_;(with_reducible refine (impl_isStation.calls a0_0 true _ A2.out).mono ?_);rintro e w' ⟨rfl,⟨nd,rfl⟩⟩;refine ⟨_,rfl,?_⟩)|(go_at_call 70;(with_reducible refine (impl_isStation.calls a0_1 true _ A4.out).mono ?_);rintro e w' ⟨rfl,⟨nd,rfl⟩⟩)|(go_at_call 71;(with_reducible refine (impl_within.calls a0_2 1 500 true _ A9.out).mono ?_);rintro e w' ⟨rfl,⟨nd,rfl⟩⟩)|(go_at_call 117;(with_reducible refine (impl_isBearing.calls a0_3 false _ A11.out).mono ?_);rintro e w' ⟨rfl,⟨nd,rfl⟩⟩))
      go_ret
      exact ⟨rr_,lb1_ HB.out GE156.out⟩
    .
     replace c10:=Bool.eq_false_iff.mpr c10
     subst c10
     have H1:(some false) = some r:=by rw [if_neg (show ¬ (false = true) by decide)] at H;exact H
     clear H
     have H:=H1
     clear H1
     obtain rfl:=Option.some.inj H
     go_enter Try.func102,Try.ntmps102
     go_wp2_with (first|((with_reducible refine gate_dst (N:=1) rfl ?_);refine box_event ?hg (N:=1) ?hd (cs:=#[.int .i64 a0_0,.int .i64 a0_1,.int .i64 a0_2,.int .i64 a0_3,.int .i64 a0_4]) (t:=37) ?hr ?_;(case hd=>rfl);(case hg=>rfl);(case hr=>first|(go_simp;done)|(go_simp;rfl));intro gb156 hg w18 hbox hb;have BK156:=ak (hbox);have GW156:=ak ((bz_ hg (lb0_ HB.out)));have GE156:=ak ((bz_ hg (lb0_ HB.out)));replace HB:=ak (below_step (lb0_ HB.out) hb);clear hb hbox hg;obtain ⟨hcz19_0,hcz19_1,hcz19_2,hcz19_3,hcz19_4⟩:=cz5_ BK156.out;obtain ⟨hfz19_0,hfz19_1,hfz19_2,hfz19_3,hfz19_4⟩:=fz5_ BK156.out)|((with_reducible refine gate_callee (f:=70) rfl ?_);refine ga_ (some 5) Try.func70 #[.int .i64 a0_0] ?_;(with_reducible refine (impl_isStation.calls a0_0 true _ A2.out).mono ?_);rintro e w' ⟨rfl,⟨nd,rfl⟩⟩;refine ⟨_,rfl,?_⟩)|(go_at_call 70;(with_reducible refine (impl_isStation.calls a0_1 true _ A4.out).mono ?_);rintro e w' ⟨rfl,⟨nd,rfl⟩⟩)|(go_at_call 71;(with_reducible refine (impl_within.calls a0_2 1 500 false _ A9.out).mono ?_);rintro e w' ⟨rfl,⟨nd,rfl⟩⟩))
     go_ret
     exact ⟨rr_,lb1_ HB.out GE156.out⟩
  .
   replace c5:=Bool.eq_false_iff.mpr c5
   subst c5
   have H1:(some false) = some r:=by rw [if_neg (show ¬ (false = true) by decide)] at H;exact H
   clear H
   have H:=H1
   clear H1
   obtain rfl:=Option.some.inj H
   go_enter Try.func102,Try.ntmps102
   go_wp2_with (first|((with_reducible refine gate_dst (N:=1) rfl ?_);refine box_event ?hg (N:=1) ?hd (cs:=#[.int .i64 a0_0,.int .i64 a0_1,.int .i64 a0_2,.int .i64 a0_3,.int .i64 a0_4]) (t:=37) ?hr ?_;(case hd=>rfl);(case hg=>rfl);(case hr=>first|(go_simp;done)|(go_simp;rfl));intro gb156 hg w20 hbox hb;have BK156:=ak (hbox);have GW156:=ak ((bz_ hg (lb0_ HB.out)));have GE156:=ak ((bz_ hg (lb0_ HB.out)));replace HB:=ak (below_step (lb0_ HB.out) hb);clear hb hbox hg;obtain ⟨hcz21_0,hcz21_1,hcz21_2,hcz21_3,hcz21_4⟩:=cz5_ BK156.out;obtain ⟨hfz21_0,hfz21_1,hfz21_2,hfz21_3,hfz21_4⟩:=fz5_ BK156.out)|((with_reducible refine gate_callee (f:=70) rfl ?_);refine ga_ (some 5) Try.func70 #[.int .i64 a0_0] ?_;(with_reducible refine (impl_isStation.calls a0_0 true _ A2.out).mono ?_);rintro e w' ⟨rfl,⟨nd,rfl⟩⟩;refine ⟨_,rfl,?_⟩)|(go_at_call 70;(with_reducible refine (impl_isStation.calls a0_1 false _ A4.out).mono ?_);rintro e w' ⟨rfl,⟨nd,rfl⟩⟩))
   go_ret
   exact ⟨rr_,lb1_ HB.out GE156.out⟩
 .
  replace c3:=Bool.eq_false_iff.mpr c3
  subst c3
  have H1:(some false) = some r:=by rw [if_neg (show ¬ (false = true) by decide)] at H;exact H
  clear H
  have H:=H1
  clear H1
  obtain rfl:=Option.some.inj H
  go_enter Try.func102,Try.ntmps102
  go_wp2_with (first|((with_reducible refine gate_dst (N:=1) rfl ?_);refine box_event ?hg (N:=1) ?hd (cs:=#[.int .i64 a0_0,.int .i64 a0_1,.int .i64 a0_2,.int .i64 a0_3,.int .i64 a0_4]) (t:=37) ?hr ?_;(case hd=>rfl);(case hg=>rfl);(case hr=>first|(go_simp;done)|(go_simp;rfl));intro gb156 hg w22 hbox hb;have BK156:=ak (hbox);have GW156:=ak ((bz_ hg (lb0_ HB.out)));have GE156:=ak ((bz_ hg (lb0_ HB.out)));replace HB:=ak (below_step (lb0_ HB.out) hb);clear hb hbox hg;obtain ⟨hcz23_0,hcz23_1,hcz23_2,hcz23_3,hcz23_4⟩:=cz5_ BK156.out;obtain ⟨hfz23_0,hfz23_1,hfz23_2,hfz23_3,hfz23_4⟩:=fz5_ BK156.out)|((with_reducible refine gate_callee (f:=70) rfl ?_);refine ga_ (some 5) Try.func70 #[.int .i64 a0_0] ?_;(with_reducible refine (impl_isStation.calls a0_0 false _ A2.out).mono ?_);rintro e w' ⟨rfl,⟨nd,rfl⟩⟩;refine ⟨_,rfl,?_⟩))
  go_ret
  exact ⟨rr_,lb1_ HB.out GE156.out⟩
def impl_areLegs.l0:Nat -> List (S37) -> List (S37) -> Int -> Int -> Option (Bool)
 | 0,_,_,_,_=>none
 | k + 1,x0,x5,x6,x7=>if x7 < x6 then (if 0 <= x7 then (if x7 < (x5.length:Int) then ((impl_IsLeg.f ((rd_T37 x5 x7).f0) ((rd_T37 x5 x7).f1) ((rd_T37 x5 x7).f2) ((rd_T37 x5 x7).f3) ((rd_T37 x5 x7).f4)).bind fun t164=>(if t164 = true then (impl_areLegs.l0 k x0 x5 x6 (wrap64 (x7 + 1))) else (some false))) else (none)) else (none)) else (some (decide ((x0.length:Int) <= 12)))
def impl_areLegs.f (k:Nat) (l0:List (S37)):Option (Bool):=impl_areLegs.l0 k l0 l0 (l0.length:Int) 0
theorem impl_areLegs.mono_l:∀ k,(∀ y0 y1 y2 y3,LeO (impl_areLegs.l0 k y0 y1 y2 y3) (impl_areLegs.l0 (k + 1) y0 y1 y2 y3))
 | 0=>fun _ _ _ _ r h=>by simp [impl_areLegs.l0] at h
 | k + 1=>by
  have ih0:=impl_areLegs.mono_l k
  .
   intro y0 y1 y2 y3
   unfold impl_areLegs.l0
   repeat' first
   | (with_reducible exact ih0 _ _ _ _)
   | (with_reducible exact LeO.refl _)
   | (with_reducible exact LeO.none _)
   | (with_reducible refine LeO.ite ?_ ?_)
   | (with_reducible refine LeO.bind ?_ (fun _=>?_))
   | exact ih0 _ _ _ _
   | exact LeO.none _
   | refine LeO.ite ?_ ?_
   | refine LeO.bind ?_ (fun _=>?_)
theorem impl_areLegs.mono:∀ a0 k,LeO (impl_areLegs.f k a0) (impl_areLegs.f (k + 1) a0):=by
 intro a0 k
 have ih0:=impl_areLegs.mono_l k
 unfold impl_areLegs.f
 repeat' first
   | (with_reducible exact ih0 _ _ _ _)
   | (with_reducible exact LeO.refl _)
   | (with_reducible exact LeO.none _)
   | (with_reducible refine LeO.ite ?_ ?_)
   | (with_reducible refine LeO.bind ?_ (fun _=>?_))
   | exact ih0 _ _ _ _
   | exact LeO.none _
   | refine LeO.ite ?_ ?_
   | refine LeO.bind ?_ (fun _=>?_)
theorem impl_areLegs.calls (k:Nat) (A0:Option Addr) (c0:Nat) (l0:List (S37)) (r:Bool) (w:World) (hr0:Kd.C k37 w A0 l0.length l0) (hc0:l0.length <= c0) (h:impl_areLegs.f k l0 = some r) :
  Calls Try.prog 69 #[.slice A0 l0.length c0] w fun e w'=>e = .returned (.bool r) /\ Below w.heap.size w w':=by
 have hu37:=Try.underlying37
 have HR0:=ak hr0
 have HC0:=ak hc0
 clear hr0 hc0
 have HB:=ak (Below.refl w.heap.size w)
 have H:(impl_areLegs.l0 k l0 l0 (l0.length:Int) 0) = some r:=h
 clear h
 have H':=ak H
 clear H
 go_enter Try.func69,Try.ntmps69
 go_wp2
 go_loopg [7] k (fun kq v7 w'=>∃ (x7_1:Int),v7 = .int .i64 x7_1 /\ Aside0 (impl_areLegs.l0 kq l0 l0 (l0.length:Int) x7_1 = some r) /\ Aside0 (kq <= k) /\ Aside0 (Below w.heap.size w w'))
 case atStart=>exact ⟨(0),(by first|rfl|(simp;done)|(simp [*];done)),H',⟨Nat.le_refl _⟩,⟨lb0_ HB.out⟩⟩
 case round=>
  clear H'
  obtain ⟨x7_1,rfl,HA,HK1,HB⟩:=hrel
  cases gk with
  | zero=>exact absurd HA.out (by simp [impl_areLegs.l0])
  | succ k1=>
   have H:=HA.out
   clear HA
   simp only [impl_areLegs.l0] at H
   by_cases c2:x7_1 < (l0.length:Int)
   .
    rw [if_pos c2] at H
    have c2b0:decide (x7_1 < (l0.length:Int)) = true:=decide_eq_true c2
    clear c2
    by_cases c3:0 <= x7_1
    .
     rw [if_pos c3] at H
     have c3b0:decide (0 <= x7_1) = true:=decide_eq_true c3
     clear c3
     by_cases c4:x7_1 < (l0.length:Int)
     .
      rw [if_pos c4] at H
      have c4b0:decide (x7_1 < (l0.length:Int)) = true:=decide_eq_true c4
      clear c4
      replace H:=Option.bind_eq_some_iff.mp H
      obtain ⟨t164,A50,H⟩:=H
      replace H:(if t164 = true then (impl_areLegs.l0 k1 l0 l0 (l0.length:Int) (wrap64 (x7_1 + 1))) else (some false)) = some r:=H
      have A5:=ak A50
      clear A50
      by_cases c6:t164 = true
      .
       subst c6
       have H1:(impl_areLegs.l0 k1 l0 l0 (l0.length:Int) (wrap64 (x7_1 + 1))) = some r:=by rw [if_pos rfl] at H;exact H
       clear H
       have H:=H1
       clear H1
       have H':=ak H
       clear H
       have p162:0 <= (x7_1:Int):=dt_
       have q162:x7_1 < (l0.length:Int):=dt_
       obtain ⟨ad162,e162,hx162_0,hx162_1,hx162_2,hx162_3,hx162_4⟩:=at_T37 HR0.out x7_1 p162 q162
       cases e162
       replace hx162_0:=bc_ HB.out hx162_0
       replace hx162_1:=bc_ HB.out hx162_1
       replace hx162_2:=bc_ HB.out hx162_2
       replace hx162_3:=bc_ HB.out hx162_3
       replace hx162_4:=bc_ HB.out hx162_4
       replace p162:=eq_true p162
       replace q162:=eq_true q162
       go_wp2_with (first|((with_reducible refine gate_dst (N:=4) rfl ?_);refine box_event ?hg (N:=4) ?hd (cs:=#[.int .i64 0,.int .i64 0,.int .i64 0,.int .i64 0,.int .i64 0]) (t:=37) ?hr ?_;(case hd=>rfl);(case hg=>rfl);(case hr=>first|(go_simp;done)|(go_simp;rfl));intro gb163 hg w7 hbox hb;have BK163:=ak (hbox);have GW163:=ak ((bz_ hg (lb0_ HB.out)));have GE163:=ak ((bz_ hg (lb0_ HB.out)));replace HB:=ak (below_step (lb0_ HB.out) hb);clear hb hbox hg;obtain ⟨hcz8_0,hcz8_1,hcz8_2,hcz8_3,hcz8_4⟩:=cz5_ BK163.out;obtain ⟨hfz8_0,hfz8_1,hfz8_2,hfz8_3,hfz8_4⟩:=fz5_ BK163.out)|((with_reducible refine gate_callee (f:=102) rfl ?_);refine ga_ (some 12) Try.func102 #[.agg #[.int .i64 ((rd_T37 l0 x7_1).f0),.int .i64 ((rd_T37 l0 x7_1).f1),.int .i64 ((rd_T37 l0 x7_1).f2),.int .i64 ((rd_T37 l0 x7_1).f3),.int .i64 ((rd_T37 l0 x7_1).f4)]] ?_;(with_reducible refine (impl_IsLeg.calls ((rd_T37 l0 x7_1).f0) ((rd_T37 l0 x7_1).f1) ((rd_T37 l0 x7_1).f2) ((rd_T37 l0 x7_1).f3) ((rd_T37 l0 x7_1).f4) true _ A5.out).mono ?_);rintro e w9 ⟨rfl,hb⟩;refine ⟨_,rfl,?_⟩;replace BK163:=ak (blk_below (g:=gb163) (o:=.cells #[.int .i64 ((rd_T37 l0 x7_1).f0),.int .i64 ((rd_T37 l0 x7_1).f1),.int .i64 ((rd_T37 l0 x7_1).f2),.int .i64 ((rd_T37 l0 x7_1).f3),.int .i64 ((rd_T37 l0 x7_1).f4)] 37 (0,0)) (by (with_reducible repeat (first|refine blk_drewN ?_ _|refine blk_drew ?_|refine blk_alloc ?_ _));exact (p5_ BK163.out _ _ _ _ _)) hb);replace HB:=ak (below_step (lb1_ HB.out GE163.out) hb);(try clear hb);(try clear hb2);(try clear hk);(try clear hi)))
       go_roundg k1
       case measure=>have:=HK1.out;omega
       case rel=>exact ⟨(wrap64 (x7_1 + 1)),(by first|rfl|(simp;done)|(simp [*];done)),H',⟨by have:=HK1.out;omega⟩,⟨lb1_ HB.out GE163.out⟩⟩
      .
       replace c6:=Bool.eq_false_iff.mpr c6
       subst c6
       have H1:(some false) = some r:=by rw [if_neg (show ¬ (false = true) by decide)] at H;exact H
       clear H
       have H:=H1
       clear H1
       obtain rfl:=Option.some.inj H
       have p162:0 <= (x7_1:Int):=dt_
       have q162:x7_1 < (l0.length:Int):=dt_
       obtain ⟨ad162,e162,hx162_0,hx162_1,hx162_2,hx162_3,hx162_4⟩:=at_T37 HR0.out x7_1 p162 q162
       cases e162
       replace hx162_0:=bc_ HB.out hx162_0
       replace hx162_1:=bc_ HB.out hx162_1
       replace hx162_2:=bc_ HB.out hx162_2
       replace hx162_3:=bc_ HB.out hx162_3
       replace hx162_4:=bc_ HB.out hx162_4
       replace p162:=eq_true p162
       replace q162:=eq_true q162
       go_wp2_with (first|((with_reducible refine gate_dst (N:=4) rfl ?_);refine box_event ?hg (N:=4) ?hd (cs:=#[.int .i64 0,.int .i64 0,.int .i64 0,.int .i64 0,.int .i64 0]) (t:=37) ?hr ?_;(case hd=>rfl);(case hg=>rfl);(case hr=>first|(go_simp;done)|(go_simp;rfl));intro gb163 hg w10 hbox hb;have BK163:=ak (hbox);have GW163:=ak ((bz_ hg (lb0_ HB.out)));have GE163:=ak ((bz_ hg (lb0_ HB.out)));replace HB:=ak (below_step (lb0_ HB.out) hb);clear hb hbox hg;obtain ⟨hcz11_0,hcz11_1,hcz11_2,hcz11_3,hcz11_4⟩:=cz5_ BK163.out;obtain ⟨hfz11_0,hfz11_1,hfz11_2,hfz11_3,hfz11_4⟩:=fz5_ BK163.out)|((with_reducible refine gate_callee (f:=102) rfl ?_);refine ga_ (some 12) Try.func102 #[.agg #[.int .i64 ((rd_T37 l0 x7_1).f0),.int .i64 ((rd_T37 l0 x7_1).f1),.int .i64 ((rd_T37 l0 x7_1).f2),.int .i64 ((rd_T37 l0 x7_1).f3),.int .i64 ((rd_T37 l0 x7_1).f4)]] ?_;(with_reducible refine (impl_IsLeg.calls ((rd_T37 l0 x7_1).f0) ((rd_T37 l0 x7_1).f1) ((rd_T37 l0 x7_1).f2) ((rd_T37 l0 x7_1).f3) ((rd_T37 l0 x7_1).f4) false _ A5.out).mono ?_);rintro e w12 ⟨rfl,hb⟩;refine ⟨_,rfl,?_⟩;replace BK163:=ak (blk_below (g:=gb163) (o:=.cells #[.int .i64 ((rd_T37 l0 x7_1).f0),.int .i64 ((rd_T37 l0 x7_1).f1),.int .i64 ((rd_T37 l0 x7_1).f2),.int .i64 ((rd_T37 l0 x7_1).f3),.int .i64 ((rd_T37 l0 x7_1).f4)] 37 (0,0)) (by (with_reducible repeat (first|refine blk_drewN ?_ _|refine blk_drew ?_|refine blk_alloc ?_ _));exact (p5_ BK163.out _ _ _ _ _)) hb);replace HB:=ak (below_step (lb1_ HB.out GE163.out) hb);(try clear hb);(try clear hb2);(try clear hk);(try clear hi)))
       go_ret
       exact ⟨rr_,lb1_ HB.out GE163.out⟩
     .
      rw [if_neg c4] at H
      exact absurd H (by simp)
    .
     rw [if_neg c3] at H
     exact absurd H (by simp)
   .
    rw [if_neg c2] at H
    have c2b0:decide (x7_1 < (l0.length:Int)) = false:=decide_eq_false c2
    clear c2
    obtain rfl:=Option.some.inj H
    go_wp2
    go_ret
    exact ⟨rr_,lb0_ HB.out⟩
theorem heap_new_ (w:World) (cs:Array Value) (t:TypeId):(w.alloc (.cells cs t)).heap[w.heap.size]? = some (.cells cs t (0,0)):=by
 show (w.heap.push _)[w.heap.size]? = _
 simp
theorem heap_size_ (w:World) (o:Obj):(w.alloc o).heap.size = w.heap.size + 1:=by
 show (w.heap.push o).size = _
 simp
def bits_Mul64.f (a0:Int) (a1:Int):Option (Int × Int):=some (IntKind.u64.wrap ((IntKind.u64.wrap ((IntKind.u64.wrap ((a0 / 4294967296) * (a1 / 4294967296))) + ((IntKind.u64.wrap ((IntKind.u64.wrap ((a0 / 4294967296) * (Go.bits .and .u64 a1 4294967295))) + ((IntKind.u64.wrap ((Go.bits .and .u64 a0 4294967295) * (Go.bits .and .u64 a1 4294967295))) / 4294967296))) / 4294967296))) + ((IntKind.u64.wrap ((Go.bits .and .u64 (IntKind.u64.wrap ((IntKind.u64.wrap ((a0 / 4294967296) * (Go.bits .and .u64 a1 4294967295))) + ((IntKind.u64.wrap ((Go.bits .and .u64 a0 4294967295) * (Go.bits .and .u64 a1 4294967295))) / 4294967296))) 4294967295) + (IntKind.u64.wrap ((Go.bits .and .u64 a0 4294967295) * (a1 / 4294967296))))) / 4294967296)),IntKind.u64.wrap (a0 * a1))
theorem bits_Mul64.calls (a0:Int) (a1:Int) (r1:Int) (r2:Int) (w:World) (h:bits_Mul64.f a0 a1 = some (r1,r2)) :
  Calls Try.prog 126 #[.int .u64 a0,.int .u64 a1] w fun e w'=>e = .returned (.tuple #[.int .u64 r1,.int .u64 r2]) /\ Drawn0 w w':=by
 have H:(some (IntKind.u64.wrap ((IntKind.u64.wrap ((IntKind.u64.wrap ((a0 / 4294967296) * (a1 / 4294967296))) + ((IntKind.u64.wrap ((IntKind.u64.wrap ((a0 / 4294967296) * (Go.bits .and .u64 a1 4294967295))) + ((IntKind.u64.wrap ((Go.bits .and .u64 a0 4294967295) * (Go.bits .and .u64 a1 4294967295))) / 4294967296))) / 4294967296))) + ((IntKind.u64.wrap ((Go.bits .and .u64 (IntKind.u64.wrap ((IntKind.u64.wrap ((a0 / 4294967296) * (Go.bits .and .u64 a1 4294967295))) + ((IntKind.u64.wrap ((Go.bits .and .u64 a0 4294967295) * (Go.bits .and .u64 a1 4294967295))) / 4294967296))) 4294967295) + (IntKind.u64.wrap ((Go.bits .and .u64 a0 4294967295) * (a1 / 4294967296))))) / 4294967296)),IntKind.u64.wrap (a0 * a1))) = some (r1,r2):=h
 clear h
 simp only [Option.some.injEq,Prod.mk.injEq] at H
 obtain ⟨rfl,rfl⟩:=H
 go_enter Try.func126,Try.ntmps126
 go_wp2
 go_ret2
 exact ⟨by first|rfl|(simp;done)|(simp [*];done),by repeat (first|exact Drawn0.refl _|apply Drawn0.step)⟩
def bits_Mul.f (a0:Int) (a1:Int):Option (Int × Int):=(bits_Mul64.f a0 a1).bind fun bt165=>(some (bt165.1,bt165.2))
theorem bits_Mul.calls (a0:Int) (a1:Int) (r1:Int) (r2:Int) (w:World) (h:bits_Mul.f a0 a1 = some (r1,r2)) :
  Calls Try.prog 118 #[.int .u64 a0,.int .u64 a1] w fun e w'=>e = .returned (.tuple #[.int .u64 r1,.int .u64 r2]) /\ Drawn0 w w':=by
 have H:((bits_Mul64.f a0 a1).bind fun bt165=>(some (bt165.1,bt165.2))) = some (r1,r2):=h
 clear h
 replace H:=Option.bind_eq_some_iff.mp H
 obtain ⟨⟨t165,t166⟩,A30,H⟩:=H
 replace H:(some (t165,t166)) = some (r1,r2):=H
 have A3:=ak A30
 clear A30
 simp only [Option.some.injEq,Prod.mk.injEq] at H
 obtain ⟨rfl,rfl⟩:=H
 go_enter Try.func118,Try.ntmps118
 go_wp2_with (first|((with_reducible refine gate_callee (f:=126) rfl ?_);refine ga_ (some 25) Try.func126 #[.int .u64 a0,.int .u64 a1] ?_;(with_reducible refine (bits_Mul64.calls a0 a1 t165 t166 _ A3.out).mono ?_);rintro e w' ⟨rfl,⟨nd,rfl⟩⟩;refine ⟨_,rfl,?_⟩))
 go_ret2
 exact ⟨by first|rfl|(simp;done)|(simp [*];done),by repeat (first|exact Drawn0.refl _|apply Drawn0.step)⟩
def slices_Repeat_int_int.f (l0:List Int) (a1:Int):Option (List Int):=if l0.length = 1 /\ a1 = 8 then some (List.replicate 8 (rd l0 0)) else none
theorem made8:madeCells (Value.int .i64 0).cells 8 = #[.int .i64 0,.int .i64 0,.int .i64 0,.int .i64 0,.int .i64 0,.int .i64 0,.int .i64 0,.int .i64 0]:=by
 apply Array.ext
 .
  simp [madeCells]
 .
  intro i h1 h2
  match i,h2 with
  | 0,_=>simp [madeCells,Value.cells]
  | 1,_=>simp [madeCells,Value.cells]
  | 2,_=>simp [madeCells,Value.cells]
  | 3,_=>simp [madeCells,Value.cells]
  | 4,_=>simp [madeCells,Value.cells]
  | 5,_=>simp [madeCells,Value.cells]
  | 6,_=>simp [madeCells,Value.cells]
  | 7,_=>simp [madeCells,Value.cells]
  | n + 8,h=>exact absurd h (by simp)
theorem cell_add0_ (W:World) (g j:Nat):W.cell? ((⟨g,0,none⟩:Addr).add j) = W.cell? ⟨g,j,none⟩:=by
 unfold Addr.add
 split
 .
  rename_i h
  rw [h]
 .
  simp only [Nat.zero_add]
theorem mul_1_8:bits_Mul.f 1 8 = some (0,8):=by decide +kernel
theorem slices_Repeat_int_int.calls (A0:Option Addr) (c0:Nat) (l0:List Int) (a1:Int) (r:List Int) (w:World) (hr0:Kd.C (Kd.int .i64) w A0 l0.length l0) (hc0:l0.length <= c0) (h:slices_Repeat_int_int.f l0 a1 = some r) :
  Calls Try.prog 103 #[.slice A0 l0.length c0,.int .i64 a1] w fun e w'=>∃ v0_:Value,e = .returned (v0_) /\ Kd.R (Kd.int .i64) 3 w' w.heap.size (fun _=>True) v0_ r /\ Below w.heap.size w w':=by
 unfold slices_Repeat_int_int.f at h
 by_cases hl:l0.length = 1 /\ a1 = 8
 .
  rw [if_pos hl] at h
  obtain rfl:=Option.some.inj h
  obtain ⟨hl1,rfl⟩:=hl
  obtain ⟨ad,rfl,hx⟩:=Kd.at_int hr0 0 (by omega) (by omega)
  have HR:=ak hr0
  clear hr0
  rw [hl1] at hc0 ⊢
  have hm:∀ W:World,Sem.run Try.prog (Instr.makeSlice 60 (.int .i64 8) (.int .i64 8)) W = .ok (.slice (some ⟨W.heap.size,0,none⟩) 8 8) (W.alloc (.cells #[.int .i64 0,.int .i64 0,.int .i64 0,.int .i64 0,.int .i64 0,.int .i64 0,.int .i64 0,.int .i64 0] 3)):=fun W=>by
   obtain ⟨i0,hi,hz0,hz1,hz2⟩:=info_parts info3
   have h:=run_makeSlice (P:=Try.prog) W 60 3 i0 (.int .i64 0) Try.underlying60 hi hz0 .i64 .i64 8 8 (by decide) (by decide) (by rw [hz1];decide) (by rw [hz2];decide) (by decide)
   rw [hz1] at h
   rw [h,show Int.toNat 8 * 1 = 8 from rfl,made8]
   rfl
  generalize rd l0 0 = x at hx ⊢
  have hsrc:Aside0 (∀ W:World,Below w.heap.size w W -> ∀ (j:Nat) (v:Value),[Value.int .i64 x][j]? = some v -> W.cell? (ad.add j) = some v):=⟨fun W hb j v hj=>by
   match j,hj with
   | 0,hj=>
    have:v = .int .i64 x:=(by simpa using hj:Value.int .i64 x = v).symm
    subst this
    exact pw_cell_below hb hx⟩
  have hsz:Aside0 ((Try.prog.info? 3).map (·.size) = some 1):=⟨by kernel_rfl⟩
  have hone:Aside0 (∀ v ∈ [Value.int .i64 x],v.oneCell' = true):=⟨fun v hv=>by rw [List.mem_singleton.1 hv];rfl⟩
  go_enter Try.func103,Try.ntmps103
  go_wp2_with (first|(go_at_call 118;refine (bits_Mul.calls 1 8 0 8 _ mul_1_8).mono ?_;rintro e w1 ⟨rfl,⟨n1,rfl⟩⟩)|(refine wpList_copy_splice rfl (.tmp 31) (.tmp 32) 60 60 rfl 3 Try.underlying60 hsz.out _ _ _ _ _ _ rfl rfl w.heap.size 0 [.int .i64 0,.int .i64 0,.int .i64 0,.int .i64 0,.int .i64 0,.int .i64 0,.int .i64 0,.int .i64 0] 3 (heap_new_ _ _ _) [.int .i64 x] rfl (fun _=>⟨rfl,ad,rfl,hsrc.out _ (below_alloc (pw_below_drewN (Below.refl _ _) _) _)⟩) (by simp) hone.out w.heap.size w (below_alloc (pw_below_drewN (Below.refl _ _) _) _) (Nat.le_refl _) ?_;intro w2 hg2 hb2))
  have HG0:=ak hg2
  have HB0:=ak hb2
  clear hg2 hb2
  go_loopg [8] 3 (fun gg s8 wr=>Aside0 (Below w.heap.size w wr) /\ ((3 <= gg /\ s8 = .int .i64 1 /\ Aside0 (Hid (wr.heap[w.heap.size]? = some (.cells (List.toArray [.int .i64 x,.int .i64 0,.int .i64 0,.int .i64 0,.int .i64 0,.int .i64 0,.int .i64 0,.int .i64 0]) 3 (0,0))))) \/ (2 <= gg /\ s8 = .int .i64 2 /\ Aside0 (Hid (wr.heap[w.heap.size]? = some (.cells (List.toArray [.int .i64 x,.int .i64 x,.int .i64 0,.int .i64 0,.int .i64 0,.int .i64 0,.int .i64 0,.int .i64 0]) 3 (0,0))))) \/ (1 <= gg /\ s8 = .int .i64 4 /\ Aside0 (Hid (wr.heap[w.heap.size]? = some (.cells (List.toArray [.int .i64 x,.int .i64 x,.int .i64 x,.int .i64 x,.int .i64 0,.int .i64 0,.int .i64 0,.int .i64 0]) 3 (0,0))))) \/ (s8 = .int .i64 8 /\ Aside0 (Hid (wr.heap[w.heap.size]? = some (.cells (List.toArray [.int .i64 x,.int .i64 x,.int .i64 x,.int .i64 x,.int .i64 x,.int .i64 x,.int .i64 x,.int .i64 x]) 3 (0,0)))))))
  case atStart=>exact ⟨HB0,.inl ⟨Nat.le_refl _,rfl,HG0⟩⟩
  case round=>
  obtain ⟨HB,⟨hg,rfl,HG⟩|⟨hg,rfl,HG⟩|⟨hg,rfl,HG⟩|⟨rfl,HG⟩⟩:=hrel
  .
   have hsrc1:Aside0 (∀ W:World,Hid (W.heap[w.heap.size]? = some (.cells (List.toArray [.int .i64 x,.int .i64 0,.int .i64 0,.int .i64 0,.int .i64 0,.int .i64 0,.int .i64 0,.int .i64 0]) 3 (0,0))) -> ∀ (j:Nat) (v:Value),[Value.int .i64 x][j]? = some v -> W.cell? ((⟨w.heap.size,0,none⟩:Addr).add j) = some v):=⟨fun W hg j v hj=>by
    have e:=cell_of_row W w.heap.size (0 + j) _ 3 (0,0) hg
    rw [Nat.zero_add] at e
    refine Eq.trans (cell_add0_ W w.heap.size j) (e.trans ?_)
    clear e hg
    have hl:=(List.getElem?_eq_some_iff.1 hj).1
    match j,hl,hj with
    | 0,_,hj=>exact hj
    | m + 1,hl,_=>exact absurd hl (by simp)⟩
   have hone1:Aside0 (∀ v ∈ [Value.int .i64 x],v.oneCell' = true):=⟨fun v hv=>by simp at hv;rw [hv];rfl⟩
   go_wp2_with fail
   go_region_held3 (fun W=>True) (exact trivial) ((first|(refine step_copy_splice rfl (.tmp 41) (.tmp 44) 60 60 rfl 3 Try.underlying60 hsz.out _ _ _ _ _ _ rfl rfl w.heap.size 1 [.int .i64 x,.int .i64 0,.int .i64 0,.int .i64 0,.int .i64 0,.int .i64 0,.int .i64 0,.int .i64 0] 3 HG.out [Value.int .i64 x] rfl (fun _=>⟨rfl,_,rfl,hsrc1.out _ HG.out⟩) (by simp) hone1.out w.heap.size w (below_drew HB.out) (Nat.le_refl _) ?_;intro w3 hg3 hb3)|fail))
   all_goals go_wp2_with fail
   go_roundg 2
   case measure=>omega
   case rel=>exact ⟨⟨hb3⟩,.inr (.inl ⟨by omega,by rfl,⟨hg3⟩⟩)⟩
  .
   have hsrc2:Aside0 (∀ W:World,Hid (W.heap[w.heap.size]? = some (.cells (List.toArray [.int .i64 x,.int .i64 x,.int .i64 0,.int .i64 0,.int .i64 0,.int .i64 0,.int .i64 0,.int .i64 0]) 3 (0,0))) -> ∀ (j:Nat) (v:Value),[Value.int .i64 x,Value.int .i64 x][j]? = some v -> W.cell? ((⟨w.heap.size,0,none⟩:Addr).add j) = some v):=⟨fun W hg j v hj=>by
    have e:=cell_of_row W w.heap.size (0 + j) _ 3 (0,0) hg
    rw [Nat.zero_add] at e
    refine Eq.trans (cell_add0_ W w.heap.size j) (e.trans ?_)
    clear e hg
    have hl:=(List.getElem?_eq_some_iff.1 hj).1
    match j,hl,hj with
    | 0,_,hj=>exact hj
    | 1,_,hj=>exact hj
    | m + 2,hl,_=>exact absurd hl (by simp)⟩
   have hone2:Aside0 (∀ v ∈ [Value.int .i64 x,Value.int .i64 x],v.oneCell' = true):=⟨fun v hv=>by simp at hv;rw [hv];rfl⟩
   go_wp2_with fail
   go_region_held3 (fun W=>True) (exact trivial) ((first|(refine step_copy_splice rfl (.tmp 41) (.tmp 44) 60 60 rfl 3 Try.underlying60 hsz.out _ _ _ _ _ _ rfl rfl w.heap.size 2 [.int .i64 x,.int .i64 x,.int .i64 0,.int .i64 0,.int .i64 0,.int .i64 0,.int .i64 0,.int .i64 0] 3 HG.out [Value.int .i64 x,Value.int .i64 x] rfl (fun _=>⟨rfl,_,rfl,hsrc2.out _ HG.out⟩) (by simp) hone2.out w.heap.size w (below_drew HB.out) (Nat.le_refl _) ?_;intro w3 hg3 hb3)|fail))
   all_goals go_wp2_with fail
   go_roundg 1
   case measure=>omega
   case rel=>exact ⟨⟨hb3⟩,.inr (.inr (.inl ⟨by omega,by rfl,⟨hg3⟩⟩))⟩
  .
   have hsrc4:Aside0 (∀ W:World,Hid (W.heap[w.heap.size]? = some (.cells (List.toArray [.int .i64 x,.int .i64 x,.int .i64 x,.int .i64 x,.int .i64 0,.int .i64 0,.int .i64 0,.int .i64 0]) 3 (0,0))) -> ∀ (j:Nat) (v:Value),[Value.int .i64 x,Value.int .i64 x,Value.int .i64 x,Value.int .i64 x][j]? = some v -> W.cell? ((⟨w.heap.size,0,none⟩:Addr).add j) = some v):=⟨fun W hg j v hj=>by
    have e:=cell_of_row W w.heap.size (0 + j) _ 3 (0,0) hg
    rw [Nat.zero_add] at e
    refine Eq.trans (cell_add0_ W w.heap.size j) (e.trans ?_)
    clear e hg
    have hl:=(List.getElem?_eq_some_iff.1 hj).1
    match j,hl,hj with
    | 0,_,hj=>exact hj
    | 1,_,hj=>exact hj
    | 2,_,hj=>exact hj
    | 3,_,hj=>exact hj
    | m + 4,hl,_=>exact absurd hl (by simp)⟩
   have hone4:Aside0 (∀ v ∈ [Value.int .i64 x,Value.int .i64 x,Value.int .i64 x,Value.int .i64 x],v.oneCell' = true):=⟨fun v hv=>by simp at hv;rw [hv];rfl⟩
   go_wp2_with fail
   go_region_held3 (fun W=>True) (exact trivial) ((first|(refine step_copy_splice rfl (.tmp 41) (.tmp 44) 60 60 rfl 3 Try.underlying60 hsz.out _ _ _ _ _ _ rfl rfl w.heap.size 4 [.int .i64 x,.int .i64 x,.int .i64 x,.int .i64 x,.int .i64 0,.int .i64 0,.int .i64 0,.int .i64 0] 3 HG.out [Value.int .i64 x,Value.int .i64 x,Value.int .i64 x,Value.int .i64 x] rfl (fun _=>⟨rfl,_,rfl,hsrc4.out _ HG.out⟩) (by simp) hone4.out w.heap.size w (below_drew HB.out) (Nat.le_refl _) ?_;intro w3 hg3 hb3)|fail))
   all_goals go_wp2_with fail
   go_roundg 0
   case measure=>omega
   case rel=>exact ⟨⟨hb3⟩,.inr (.inr (.inr ⟨by rfl,⟨hg3⟩⟩))⟩
  .
   go_wp2
   go_ret
   refine ⟨_,rfl,Kd.R_of_own ⟨rfl,.inr ⟨_,8,_,rfl,Nat.le_refl _,HG.out,Nat.le_refl _,by decide,rfl,rfl⟩⟩ (fun _ _=>trivial),HB.out⟩
 .
  rw [if_neg hl] at h
  cases h
mutual
def impl_Exploration_wayOut.l0:Nat -> List Int -> Int -> List (S37) -> List Bool -> List Bool -> Int -> Int -> Option (Int × Bool)
 | 0,_,_,_,_,_,_,_=>none
 | k + 1,x4,x11,x168000,x168001,x168002,x168003,x168004=>if x11 < 8 then (impl_Exploration_wayOut.l1 k x4 x11 x168000 (x168000.length:Int) 0 x168000 x168001 x168002 x168003 x168004) else (if 0 <= x168003 then (if x168003 < (x4.length:Int) then (some (rd x4 x168003,decide ((rd x4 x168003) < 1073741824))) else (none)) else (none))
def impl_Exploration_wayOut.l1:Nat -> List Int -> Int -> List (S37) -> Int -> Int -> List (S37) -> List Bool -> List Bool -> Int -> Int -> Option (Int × Bool)
 | 0,_,_,_,_,_,_,_,_,_,_=>none
 | k + 1,x4,x11,x14,x15,x16,x168000,x168001,x168002,x168003,x168004=>if x16 < x15 then (if 0 <= x16 then (if x16 < (x14.length:Int) then (if 0 <= ((rd_T37 x14 x16).f0) then (if ((rd_T37 x14 x16).f0) < (x168001.length:Int) then (if rdOf false x168001 ((rd_T37 x14 x16).f0) = true then (if 0 <= ((rd_T37 x14 x16).f1) then (if ((rd_T37 x14 x16).f1) < (x168001.length:Int) then (if rdOf false x168001 ((rd_T37 x14 x16).f1) = true then (if ((rd_T37 x14 x16).f0) < (x4.length:Int) then (if ((rd_T37 x14 x16).f1) < (x4.length:Int) then ((some (x4.set (((rd_T37 x14 x16).f0):Int).toNat (mn (rd x4 ((rd_T37 x14 x16).f0)) (wrap64 ((rd x4 ((rd_T37 x14 x16).f1)) + ((rd_T37 x14 x16).f2)))):List Int)).bind fun y183=>(impl_Exploration_wayOut.l1 k (y183.set (((rd_T37 x14 x16).f1):Int).toNat (mn (rd y183 ((rd_T37 x14 x16).f1)) (wrap64 ((rd y183 ((rd_T37 x14 x16).f0)) + ((rd_T37 x14 x16).f2))))) x11 x14 x15 (wrap64 (x16 + 1)) x168000 x168001 x168002 x168003 x168004)) else (none)) else (none)) else (impl_Exploration_wayOut.l1 k x4 x11 x14 x15 (wrap64 (x16 + 1)) x168000 x168001 x168002 x168003 x168004)) else (none)) else (none)) else (impl_Exploration_wayOut.l1 k x4 x11 x14 x15 (wrap64 (x16 + 1)) x168000 x168001 x168002 x168003 x168004)) else (none)) else (none)) else (none)) else (none)) else (impl_Exploration_wayOut.l0 k x4 (wrap64 (x11 + 1)) x168000 x168001 x168002 x168003 x168004)
end
def impl_Exploration_wayOut.f (k:Nat) (l0_0:List (S37)) (l0_1:List Bool) (l0_2:List Bool) (a0_3:Int) (a0_4:Int):Option (Int × Bool):=(slices_Repeat_int_int.f (([1073741824]:List Int)) 8).bind fun t171=>(if 0 < (t171.length:Int) then (impl_Exploration_wayOut.l0 k (t171.set (0:Int).toNat 0) 0 l0_0 l0_1 l0_2 a0_3 a0_4) else (none))
theorem impl_Exploration_wayOut.mono_l:∀ k,(∀ y0 y1 y2 y3 y4 y5 y6,LeO (impl_Exploration_wayOut.l0 k y0 y1 y2 y3 y4 y5 y6) (impl_Exploration_wayOut.l0 (k + 1) y0 y1 y2 y3 y4 y5 y6)) /\ (∀ y0 y1 y2 y3 y4 y5 y6 y7 y8 y9,LeO (impl_Exploration_wayOut.l1 k y0 y1 y2 y3 y4 y5 y6 y7 y8 y9) (impl_Exploration_wayOut.l1 (k + 1) y0 y1 y2 y3 y4 y5 y6 y7 y8 y9))
 | 0=>⟨fun _ _ _ _ _ _ _ r h=>by simp [impl_Exploration_wayOut.l0] at h,fun _ _ _ _ _ _ _ _ _ _ r h=>by simp [impl_Exploration_wayOut.l1] at h⟩
 | k + 1=>by
  obtain ⟨ih0,ih1⟩:=impl_Exploration_wayOut.mono_l k
  refine ⟨?_,?_⟩
  .
   intro y0 y1 y2 y3 y4 y5 y6
   unfold impl_Exploration_wayOut.l0
   repeat' first
   | (with_reducible exact ih0 _ _ _ _ _ _ _)
   | (with_reducible exact ih1 _ _ _ _ _ _ _ _ _ _)
   | (with_reducible exact LeO.refl _)
   | (with_reducible exact LeO.none _)
   | (with_reducible refine LeO.ite ?_ ?_)
   | (with_reducible refine LeO.bind ?_ (fun _=>?_))
   | exact ih0 _ _ _ _ _ _ _
   | exact ih1 _ _ _ _ _ _ _ _ _ _
   | exact LeO.none _
   | refine LeO.ite ?_ ?_
   | refine LeO.bind ?_ (fun _=>?_)
  .
   intro y0 y1 y2 y3 y4 y5 y6 y7 y8 y9
   unfold impl_Exploration_wayOut.l1
   repeat' first
   | (with_reducible exact ih0 _ _ _ _ _ _ _)
   | (with_reducible exact ih1 _ _ _ _ _ _ _ _ _ _)
   | (with_reducible exact LeO.refl _)
   | (with_reducible exact LeO.none _)
   | (with_reducible refine LeO.ite ?_ ?_)
   | (with_reducible refine LeO.bind ?_ (fun _=>?_))
   | exact ih0 _ _ _ _ _ _ _
   | exact ih1 _ _ _ _ _ _ _ _ _ _
   | exact LeO.none _
   | refine LeO.ite ?_ ?_
   | refine LeO.bind ?_ (fun _=>?_)
theorem impl_Exploration_wayOut.mono:∀ a0 a1 a2 a3 a4 k,LeO (impl_Exploration_wayOut.f k a0 a1 a2 a3 a4) (impl_Exploration_wayOut.f (k + 1) a0 a1 a2 a3 a4):=by
 intro a0 a1 a2 a3 a4 k
 obtain ⟨ih0,ih1⟩:=impl_Exploration_wayOut.mono_l k
 unfold impl_Exploration_wayOut.f
 repeat' first
   | (with_reducible exact ih0 _ _ _ _ _ _ _)
   | (with_reducible exact ih1 _ _ _ _ _ _ _ _ _ _)
   | (with_reducible exact LeO.refl _)
   | (with_reducible exact LeO.none _)
   | (with_reducible refine LeO.ite ?_ ?_)
   | (with_reducible refine LeO.bind ?_ (fun _=>?_))
   | exact ih0 _ _ _ _ _ _ _
   | exact ih1 _ _ _ _ _ _ _ _ _ _
   | exact LeO.none _
   | refine LeO.ite ?_ ?_
   | refine LeO.bind ?_ (fun _=>?_)
def impl_Exploration_wayOut.T9:Bool × List (List Nat × List Nat):=(true,[([],[]),([],[]),([1],[1]),([],[]),([],[]),([4],[4]),([3,5],[3,5]),([6],[6]),([],[]),([],[]),([9],[9]),([8,10],[8,10]),([11],[11]),([],[]),([13],[13]),([12,14],[12,14]),([7,15],[7,15]),([0,2,0,1,2,3,4,5,6,7,8,9,10,11,12,13,14,15,16],[0,2]),([17,16,0,1,2,3,4,5,6,7,8,9,10,11,12,13,14,15,16],[16,17])])
def impl_Exploration_wayOut.B9:List Nat:=[0,0,2,0,0,16,56,120,0,0,512,1792,3840,0,8192,32512,65528,131071,262143]
theorem impl_Exploration_wayOut.tab9:rtab .any (opsOf Try.f72 9) = impl_Exploration_wayOut.T9:=by kernel_rfl
theorem impl_Exploration_wayOut.bits9:waitsOk impl_Exploration_wayOut.T9.2 impl_Exploration_wayOut.B9 = true:=by kernel_rfl
def impl_Exploration_wayOut.T10:Bool × List (List Nat × List Nat):=(true,[([],[]),([],[]),([1],[1]),([],[]),([],[]),([4],[4]),([3,5],[3,5]),([6],[6]),([],[]),([],[]),([9],[9]),([8,10],[8,10]),([11],[11]),([],[]),([13],[13]),([12,14],[12,14]),([7,15],[7,15]),([0,2,0,1,2,3,4,5,6,7,8,9,10,11,12,13,14,15,16],[0,2]),([17,16,0,1,2,3,4,5,6,7,8,9,10,11,12,13,14,15,16],[16,17])])
def impl_Exploration_wayOut.B10:List Nat:=[0,0,2,0,0,16,56,120,0,0,512,1792,3840,0,8192,32512,65528,131071,262143]
theorem impl_Exploration_wayOut.tab10:rtab .any (opsOf Try.f72 10) = impl_Exploration_wayOut.T10:=by kernel_rfl
theorem impl_Exploration_wayOut.bits10:waitsOk impl_Exploration_wayOut.T10.2 impl_Exploration_wayOut.B10 = true:=by kernel_rfl
def impl_Exploration_wayOut.T13:Bool × List (List Nat × List Nat):=(true,[([],[]),([],[]),([1],[1]),([0,2],[0,2]),([3],[3]),([],[]),([],[]),([6],[6]),([5,7],[5,7]),([8],[8]),([9],[9]),([4,0,1,2,3,4],[4]),([10,11,0,1,2,3,4,5,6,7,8,9,10,11],[10])])
def impl_Exploration_wayOut.B13:List Nat:=[0,0,2,7,15,0,0,64,224,480,992,31,4095]
theorem impl_Exploration_wayOut.tab13:rtab .any (opsOf Try.f72 13) = impl_Exploration_wayOut.T13:=by kernel_rfl
theorem impl_Exploration_wayOut.bits13:waitsOk impl_Exploration_wayOut.T13.2 impl_Exploration_wayOut.B13 = true:=by kernel_rfl
abbrev impl_Exploration_wayOut.mk0:Array Bool:=#[fF,fF,fF,fF,fF,fF,fF,fF,fF,fF,fF,fF,fF,fF,fF,fF,fF,fF,fF]
abbrev impl_Exploration_wayOut.mk1:Array Bool:=#[tT,fF,fF,fF,fF,fF,fF,fF,fF,fF,fF,fF,fF,fF,fF,fF,fF,fF,fF]
abbrev impl_Exploration_wayOut.mk2:Array Bool:=#[tT,tT,fF,fF,fF,fF,fF,fF,fF,fF,fF,fF,fF,fF,fF,fF,fF,fF,fF]
abbrev impl_Exploration_wayOut.mk3:Array Bool:=#[tT,tT,fF,tT,fF,fF,fF,fF,fF,fF,fF,fF,fF,fF,fF,fF,fF,fF,fF]
abbrev impl_Exploration_wayOut.mk4:Array Bool:=#[tT,tT,fF,tT,tT,fF,fF,fF,fF,fF,fF,fF,fF,fF,fF,fF,fF,fF,fF]
abbrev impl_Exploration_wayOut.mk5:Array Bool:=#[tT,tT,fF,tT,tT,fF,fF,fF,tT,fF,fF,fF,fF,fF,fF,fF,fF,fF,fF]
abbrev impl_Exploration_wayOut.mk6:Array Bool:=#[tT,tT,fF,tT,tT,fF,fF,fF,tT,tT,fF,fF,fF,fF,fF,fF,fF,fF,fF]
abbrev impl_Exploration_wayOut.mk7:Array Bool:=#[tT,tT,fF,tT,tT,fF,fF,fF,tT,tT,fF,fF,fF,tT,fF,fF,fF,fF,fF]
abbrev impl_Exploration_wayOut.mk8:Array Bool:=#[tT,tT,tT,tT,tT,fF,fF,fF,tT,tT,fF,fF,fF,tT,fF,fF,fF,fF,fF]
abbrev impl_Exploration_wayOut.mk9:Array Bool:=#[tT,tT,tT,tT,tT,tT,fF,fF,tT,tT,fF,fF,fF,tT,fF,fF,fF,fF,fF]
abbrev impl_Exploration_wayOut.mk10:Array Bool:=#[tT,tT,tT,tT,tT,tT,tT,fF,tT,tT,fF,fF,fF,tT,fF,fF,fF,fF,fF]
abbrev impl_Exploration_wayOut.mk11:Array Bool:=#[tT,tT,tT,tT,tT,tT,tT,tT,tT,tT,fF,fF,fF,tT,fF,fF,fF,fF,fF]
abbrev impl_Exploration_wayOut.mk12:Array Bool:=#[tT,tT,tT,tT,tT,tT,tT,tT,tT,tT,tT,fF,fF,tT,fF,fF,fF,fF,fF]
abbrev impl_Exploration_wayOut.mk13:Array Bool:=#[tT,tT,tT,tT,tT,tT,tT,tT,tT,tT,tT,tT,fF,tT,fF,fF,fF,fF,fF]
abbrev impl_Exploration_wayOut.mk14:Array Bool:=#[tT,tT,tT,tT,tT,tT,tT,tT,tT,tT,tT,tT,tT,tT,fF,fF,fF,fF,fF]
abbrev impl_Exploration_wayOut.mk15:Array Bool:=#[tT,tT,tT,tT,tT,tT,tT,tT,tT,tT,tT,tT,tT,tT,tT,fF,fF,fF,fF]
abbrev impl_Exploration_wayOut.mk16:Array Bool:=#[tT,tT,tT,tT,tT,tT,tT,tT,tT,tT,tT,tT,tT,tT,tT,tT,fF,fF,fF]
abbrev impl_Exploration_wayOut.mk17:Array Bool:=#[tT,tT,tT,tT,tT,tT,tT,tT,tT,tT,tT,tT,tT,tT,tT,tT,tT,fF,fF]
abbrev impl_Exploration_wayOut.mk18:Array Bool:=#[tT,tT,tT,tT,tT,tT,tT,tT,tT,tT,tT,tT,tT,tT,tT,tT,tT,tT,fF]
abbrev impl_Exploration_wayOut.mk19:Array Bool:=#[tT,tT,tT,tT,tT,tT,tT,tT,tT,tT,tT,tT,tT,tT,tT,tT,tT,tT,tT]
abbrev impl_Exploration_wayOut.mk20:Array Bool:=#[fF,fF,fF,fF,fF,fF,fF,fF,fF,fF,fF,fF,fF]
abbrev impl_Exploration_wayOut.mk21:Array Bool:=#[tT,fF,fF,fF,fF,fF,fF,fF,fF,fF,fF,fF,fF]
abbrev impl_Exploration_wayOut.mk22:Array Bool:=#[tT,tT,fF,fF,fF,fF,fF,fF,fF,fF,fF,fF,fF]
abbrev impl_Exploration_wayOut.mk23:Array Bool:=#[tT,tT,fF,fF,fF,tT,fF,fF,fF,fF,fF,fF,fF]
abbrev impl_Exploration_wayOut.mk24:Array Bool:=#[tT,tT,fF,fF,fF,tT,tT,fF,fF,fF,fF,fF,fF]
abbrev impl_Exploration_wayOut.mk25:Array Bool:=#[tT,tT,tT,fF,fF,tT,tT,fF,fF,fF,fF,fF,fF]
abbrev impl_Exploration_wayOut.mk26:Array Bool:=#[tT,tT,tT,tT,fF,tT,tT,fF,fF,fF,fF,fF,fF]
abbrev impl_Exploration_wayOut.mk27:Array Bool:=#[tT,tT,tT,tT,tT,tT,tT,fF,fF,fF,fF,fF,fF]
abbrev impl_Exploration_wayOut.mk28:Array Bool:=#[tT,tT,tT,tT,tT,tT,tT,fF,fF,fF,fF,tT,fF]
abbrev impl_Exploration_wayOut.mk29:Array Bool:=#[tT,tT,tT,tT,tT,tT,tT,tT,fF,fF,fF,tT,fF]
abbrev impl_Exploration_wayOut.mk30:Array Bool:=#[tT,tT,tT,tT,tT,tT,tT,tT,tT,fF,fF,tT,fF]
abbrev impl_Exploration_wayOut.mk31:Array Bool:=#[tT,tT,tT,tT,tT,tT,tT,tT,tT,tT,fF,tT,fF]
abbrev impl_Exploration_wayOut.mk32:Array Bool:=#[tT,tT,tT,tT,tT,tT,tT,tT,tT,tT,tT,tT,fF]
abbrev impl_Exploration_wayOut.mk33:Array Bool:=#[tT,tT,tT,tT,tT,tT,tT,tT,tT,tT,tT,tT,tT]
theorem impl_Exploration_wayOut.calls (k:Nat) (A0_0:Option Addr) (c0_0:Nat) (l0_0:List (S37)) (A0_1:Option Addr) (c0_1:Nat) (l0_1:List Bool) (A0_2:Option Addr) (c0_2:Nat) (l0_2:List Bool) (a0_3:Int) (a0_4:Int) (r1:Int) (r2:Bool) (w:World) (hr0_0:Kd.C k37 w A0_0 l0_0.length l0_0) (hc0_0:l0_0.length <= c0_0) (hr0_1:Kd.C Kd.bool w A0_1 l0_1.length l0_1) (hc0_1:l0_1.length <= c0_1) (hr0_2:Kd.C Kd.bool w A0_2 l0_2.length l0_2) (hc0_2:l0_2.length <= c0_2) (h:impl_Exploration_wayOut.f k l0_0 l0_1 l0_2 a0_3 a0_4 = some (r1,r2)) :
  Calls Try.prog 72 #[.agg #[.slice A0_0 l0_0.length c0_0,.slice A0_1 l0_1.length c0_1,.slice A0_2 l0_2.length c0_2,.int .i64 a0_3,.int .i64 a0_4]] w fun e w'=>e = .returned (.tuple #[.int .i64 r1,.bool r2]) /\ Below w.heap.size w w':=by
 have hu30:=Try.underlying30
 have hu37:=Try.underlying37
 have HR0_0:=ak hr0_0
 have HC0_0:=ak hc0_0
 clear hr0_0 hc0_0
 have HR0_1:=ak hr0_1
 have HC0_1:=ak hc0_1
 clear hr0_1 hc0_1
 have HR0_2:=ak hr0_2
 have HC0_2:=ak hc0_2
 clear hr0_2 hc0_2
 have HB:=ak (Below.refl w.heap.size w)
 have H:((slices_Repeat_int_int.f (([1073741824]:List Int)) 8).bind fun t171=>(if 0 < (t171.length:Int) then (impl_Exploration_wayOut.l0 k (t171.set (0:Int).toNat 0) 0 l0_0 l0_1 l0_2 a0_3 a0_4) else (none))) = some (r1,r2):=h
 clear h
 obtain ⟨y168,hy168⟩:∃ y_:List Int,y_ = (([1073741824]:List Int)):=⟨_,rfl⟩
 replace H:((slices_Repeat_int_int.f y168 8).bind fun t171=>(if 0 < (t171.length:Int) then (impl_Exploration_wayOut.l0 k (t171.set (0:Int).toNat 0) 0 l0_0 l0_1 l0_2 a0_3 a0_4) else (none))) = some (r1,r2):=by first|(rw [hy168];with_reducible exact H)|(have H2_:=(Option.bind_some _ _).symm.trans H;rw [hy168];with_reducible exact H2_)|(have H2_:=(Option.bind_some _ _).symm.trans H;with_reducible exact H2_)|with_reducible exact H|(rw [hy168];exact H)|exact H
 have Ny168:=ak hy168
 clear hy168
 replace H:=Option.bind_eq_some_iff.mp H
 obtain ⟨t171,A20,H⟩:=H
 replace H:(if 0 < (t171.length:Int) then (impl_Exploration_wayOut.l0 k (t171.set (0:Int).toNat 0) 0 l0_0 l0_1 l0_2 a0_3 a0_4) else (none)) = some (r1,r2):=H
 have A2:=ak A20
 clear A20
 by_cases c3:0 < (t171.length:Int)
 .
  rw [if_pos c3] at H
  have c3b0:decide (0 < (t171.length:Int)) = true:=decide_eq_true c3
  have c3b1:decide (0 < t171.length) = true:=decide_eq_true (by omega)
  clear c3
  obtain ⟨y174,hy174⟩:∃ y_:List Int,y_ = (t171.set (0:Int).toNat 0):=⟨_,rfl⟩
  replace H:(impl_Exploration_wayOut.l0 k y174 0 l0_0 l0_1 l0_2 a0_3 a0_4) = some (r1,r2):=by first|(rw [hy174];with_reducible exact H)|(have H2_:=(Option.bind_some _ _).symm.trans H;rw [hy174];with_reducible exact H2_)|(have H2_:=(Option.bind_some _ _).symm.trans H;with_reducible exact H2_)|with_reducible exact H|(rw [hy174];exact H)|exact H
  have Ny174:=ak hy174
  clear hy174
  have H':=ak H
  clear H
  go_enter Try.func72,Try.ntmps72
  go_wp2_with (first|((with_reducible refine gate_dst (N:=1) rfl ?_);refine box_event ?hg (N:=1) ?hd (cs:=#[.slice A0_0 l0_0.length c0_0,.slice A0_1 l0_1.length c0_1,.slice A0_2 l0_2.length c0_2,.int .i64 a0_3,.int .i64 a0_4]) (t:=30) ?hr ?_;(case hd=>rfl);(case hg=>rfl);(case hr=>first|(go_simp;done)|(go_simp;rfl));intro gb167 hg w5 hbox hb;have BK167:=ak (hbox);have GW167:=ak ((bz_ hg (lb0_ HB.out)));have GE167:=ak ((bz_ hg (lb0_ HB.out)));replace HB:=ak (below_step (lb0_ HB.out) hb);clear hb hbox hg)|((with_reducible refine gate_dst (N:=7) rfl ?_);refine Kd.R_lit (Kd.int .i64) _ 3 ?hg (N:=7) ?hd (xs:=([1073741824]:List Int)) (inner:=[.int .i64 1073741824]) (ok:=fun _=>True) (okp:=fun _=>True) ?hr ?hp (fun _ hk=>hk) trivial (Below.refl _ _) (Nat.le_refl _) (by simp) ?_;(case hd=>rfl);(case hg=>rfl);(case hr=>first|(go_simp;done)|(go_simp;rfl));(case hp=>exact (Reps.one (show Kd.M (Kd.int .i64) _ _ _ 1073741824 [.int .i64 1073741824] from rfl) (Reps.none _ _)));intro v169 w6 ho7 hb hg_ hnew_;clear hg_ hnew_;replace ho7:=ry_ Ny168.out ho7;have HO170:=ak (Kd.R_lower ho7 (below_size (lb1_ HB.out GE167.out)));replace BK167:=ak (bb_ (bk_ BK167.out) hb);replace HB:=ak (below_step (lb1_ HB.out GE167.out) hb);clear hb ho7;obtain ⟨Ao8,co8,eo8⟩:=Kd.R_slice HO170.out;subst eo8)|((with_reducible refine gate_callee (f:=103) rfl ?_);refine ga_ (some 8) Try.func103 #[.slice Ao8 y168.length co8,.int .i64 8] ?_;(with_reducible refine (slices_Repeat_int_int.calls _ _ y168 8 t171 _ ?side1 ?side2 A2.out).mono ?_);(case side1=>exact kc_ (Kd.R_reads' HO170.out).2.2);(case side2=>exact (Kd.R_reads' HO170.out).2.1);rintro e w9 ⟨v172,rfl,ho0,hb⟩;refine ⟨_,rfl,?_⟩;have HO173:=ak (Kd.R_lower (Kd.R_new' ho0 (Kd.R_lt (kr_ HO170.out))) (below_size (lb1_ HB.out GE167.out)));replace HO170:=ak (Kd.R_elder' (kr_ HO170.out) (Kd.R_base ho0) hb);replace BK167:=ak (bb_ (bk_ BK167.out) hb);replace HB:=ak (below_step (lb1_ HB.out GE167.out) hb);(try clear hb);(try clear hb2);(try clear hk);(try clear hi);(try clear ho0);have p4:0 <= (0:Int):=(by omega);have q4:(0:Int) < ((t171.length:Int):Int):=dt_;have qi4:(0 < t171.length) = True:=eq_true (by omega);obtain ⟨go4,co4,eo4,gb4,gl4,cl4,HG4⟩:=Kd.R_form HO173.out (by omega);(first|cases eo4|(injection eo4 with ea_ en_ ec_;(first|subst ea_|(injection ea_ with ea_;subst ea_));subst ec_;clear en_));have GB4:=ak gb4;have GG4:=ak HG4;clear gb4 gl4 HG4;obtain ⟨hx4_0,hf4_0⟩:=Kd.R_celln 0 HO173.out (0:Int) p4 q4;(try rw [show ((0:Int)).toNat = 0 from rfl] at hx4_0);(try simp only [Nat.reduceMul,Nat.zero_mul,Nat.zero_add,Nat.reduceAdd] at hx4_0);(try rw [show ((0:Int)).toNat = 0 from rfl] at hf4_0);(try simp only [Nat.reduceMul,Nat.zero_mul,Nat.zero_add,Nat.reduceAdd] at hf4_0);replace p4:=eq_true p4;replace q4:=eq_true q4;have n_:=ak (Kd.R_mono (ok':=(fun k_=>some k_ ≠ (.slice Ao8 y168.length co8:Value).ownBlock)) HO173.out (fun k_ hk=>hk.2));clear HO173;have HO173:=n_;clear n_;obtain ⟨hy10_,hz10_⟩:=Kd.R_celln 0 HO173.out (0:Int) (by omega) (dt_);(try simp only [Int.reduceToNat,Int.toNat_zero,Int.toNat_ofNat,Nat.reduceMul,Nat.zero_mul,Nat.zero_add] at hy10_ hz10_);(try rw [show ((0:Int)).toNat = 0 from rfl] at hy10_);(try rw [show ((0:Int)).toNat = 0 from rfl] at hz10_);have HP10:=Kd.R_putg HO173.out (0:Int) 0)|((with_reducible refine gate_store (t:=3) (p:=10) rfl ?_);refine store_event (t:=3) (p:=10) (v:=?vo_w11) (w1:=(w9.setCell ⟨go4,(0:Int).toNat,none⟩ (.int .i64 0))) ?hg ?ho ?hn ?hr ?_;(case ho=>rfl);(case hg=>rfl);(case hn=>rfl);(case hr=>first|(go_simp;done)|(go_simp;rfl));intro w11 hw;have hg:w9.grownBy w11 (some go4):=(by rw [hw];exact HP10.2);have hp_:Kd.R (Kd.int .i64) 3 w11 w.heap.size (fun k_=>some k_ ≠ (.slice Ao8 y168.length co8:Value).ownBlock) (.slice (some ⟨go4,0,none⟩) t171.length co4) y174:=(by rw [hw,Ny174.out];exact HP10.1);clear HP10;replace BK167:=ak (blk_grown (g:=gb167) (o:=.cells #[.slice A0_0 l0_0.length c0_0,.slice A0_1 l0_1.length c0_1,.slice A0_2 l0_2.length c0_2,.int .i64 a0_3,.int .i64 a0_4] 30 (0,0)) (bk_ BK167.out) hg (Kd.R_ne HO173.out BK167.out (by decide)));replace HO170:=ak (Kd.R_after (v:=(.slice (some ⟨go4,0,none⟩) t171.length co4)) (v1:=(.slice (some ⟨go4,0,none⟩) t171.length co4)) (ok:=(fun _=>True)) (kr_ HO170.out) hg (.inl rfl));replace HO173:=ak (hp_);replace HB:=ak ((by rw [hw];exact below_set (HB.out) GB4.out:Below w.heap.size w w11));clear hg hw hp_))
  go_loopg [11] k (fun kq v11 w'=>∃ (x4_1:List Int) (x11_1:Int),v11 = .int .i64 x11_1 /\ Aside0 (impl_Exploration_wayOut.l0 kq x4_1 x11_1 l0_0 l0_1 l0_2 a0_3 a0_4 = some (r1,r2)) /\ Aside0 (kq <= k) /\ Aside0 (Kd.R (Kd.int .i64) 3 w' w.heap.size (fun _=>True) (.slice (some ⟨go4,0,none⟩) t171.length co4) x4_1) /\ Aside0 (w'.heap[gb167]? = some (.cells #[(.slice A0_0 l0_0.length c0_0),(.slice A0_1 l0_1.length c0_1),(.slice A0_2 l0_2.length c0_2),.int .i64 a0_3,.int .i64 a0_4] 30 (0,0))) /\ Aside0 (Below w.heap.size w w'))
  case atStart=>exact ⟨(y174),(0),(by first|rfl|(simp;done)|(simp [*];done)),H',⟨Nat.le_refl _⟩,⟨krm_ HO173.out (fun _ hk=>trivial)⟩,⟨bk_ BK167.out⟩,⟨lb1_ HB.out GE167.out⟩⟩
  case round=>
   clear H'
   try clear c1
   try clear p2
   try clear c3
   try clear c3b0
   try clear c3b1
   try clear p4
   try clear q4
   try clear hx4
   try clear qi4
   try clear hf4
   try clear c7
   try clear c10
   try clear hx4_0
   try clear p4
   try clear q4
   obtain ⟨x4_1,x11_1,rfl,HA,HK1,HO_4,BK167,HB⟩:=hrel
   have hl4_1:=(Kd.R_reads' HO_4.out).1
   rw [hl4_1] at HO_4
   (try simp only [hl4_1])
   (try simp only [hl4_1] at BK167)
   cases gk with
   | zero=>exact absurd HA.out (by simp [impl_Exploration_wayOut.l0])
   | succ k1=>
    have H:=HA.out
    clear HA
    simp only [impl_Exploration_wayOut.l0] at H
    by_cases c12:x11_1 < 8
    .
     rw [if_pos c12] at H
     have c12b0:decide (x11_1 < 8) = true:=decide_eq_true c12
     clear c12
     have H':=ak H
     clear H
     obtain ⟨hcz13_0,hcz13_1,hcz13_2,hcz13_3,hcz13_4⟩:=cz5_ BK167.out
     obtain ⟨hfz13_0,hfz13_1,hfz13_2,hfz13_3,hfz13_4⟩:=fz5_ BK167.out
     go_wp2
     go_loopg [16] k1 (fun kq v16 w'=>∃ (x4_2:List Int) (x16_2:Int),v16 = .int .i64 x16_2 /\ Aside0 (impl_Exploration_wayOut.l1 kq x4_2 x11_1 l0_0 (l0_0.length:Int) x16_2 l0_0 l0_1 l0_2 a0_3 a0_4 = some (r1,r2)) /\ Aside0 (kq <= k1) /\ Aside0 (Kd.R (Kd.int .i64) 3 w' w.heap.size (fun _=>True) (.slice (some ⟨go4,0,none⟩) x4_1.length co4) x4_2) /\ Aside0 (w'.heap[gb167]? = some (.cells #[(.slice A0_0 l0_0.length c0_0),(.slice A0_1 l0_1.length c0_1),(.slice A0_2 l0_2.length c0_2),.int .i64 a0_3,.int .i64 a0_4] 30 (0,0))) /\ Aside0 (Below w.heap.size w w'))
     case atStart=>exact ⟨(x4_1),(0),(by first|rfl|(simp;done)|(simp [*];done)),H',⟨Nat.le_refl _⟩,⟨by (try simp only [hl4_1]);(with_reducible repeat (first|apply Kd.R_alloc|apply Kd.R_drewN|apply Kd.R_drew));exact HO_4.out⟩,⟨by (try simp only [hl4_1]);(with_reducible repeat (first|refine blk_drewN ?_ _|refine blk_drew ?_|refine blk_alloc ?_ _));exact BK167.out⟩,⟨lb1_ HB.out GE167.out⟩⟩
     case round=>
      clear H'
      try clear c1
      try clear p2
      try clear c3
      try clear c3b0
      try clear c3b1
      try clear p4
      try clear q4
      try clear hx4
      try clear qi4
      try clear hf4
      try clear c7
      try clear c10
      try clear c12
      try clear c12b0
      try clear hcz13_0 hcz13_1 hcz13_2 hcz13_3 hcz13_4
      try clear hfz13_0 hfz13_1 hfz13_2 hfz13_3 hfz13_4
      try clear hx4_0
      try clear p2
      try clear p4
      try clear q4
      obtain ⟨x4_2,x16_2,rfl,HA,HK2,HO_4,BK167,HB⟩:=hrel
      have hl4_2:=(Kd.R_reads' HO_4.out).1
      rw [hl4_2] at HO_4
      (try simp only [hl4_2])
      (try simp only [hl4_2] at BK167)
      cases gk with
      | zero=>exact absurd HA.out (by simp [impl_Exploration_wayOut.l1])
      | succ k2=>
       have H:=HA.out
       clear HA
       simp only [impl_Exploration_wayOut.l1] at H
       by_cases c14:x16_2 < (l0_0.length:Int)
       .
        rw [if_pos c14] at H
        have c14b0:decide (x16_2 < (l0_0.length:Int)) = true:=decide_eq_true c14;clear c14
        by_cases c15:0 <= x16_2
        .
         rw [if_pos c15] at H
         have c15b0:decide (0 <= x16_2) = true:=decide_eq_true c15;clear c15
         by_cases c16:x16_2 < (l0_0.length:Int)
         .
          rw [if_pos c16] at H
          have c16b0:decide (x16_2 < (l0_0.length:Int)) = true:=decide_eq_true c16;clear c16
          by_cases c17:0 <= ((rd_T37 l0_0 x16_2).f0)
          .
           rw [if_pos c17] at H
           have c17b0:decide (0 <= ((rd_T37 l0_0 x16_2).f0)) = true:=decide_eq_true c17;clear c17
           by_cases c18:((rd_T37 l0_0 x16_2).f0) < (l0_1.length:Int)
           .
            rw [if_pos c18] at H
            have c18b0:decide (((rd_T37 l0_0 x16_2).f0) < (l0_1.length:Int)) = true:=decide_eq_true c18;clear c18
            obtain ⟨bq19,hbq19⟩:∃ b_:Bool,b_ = (rdOf false l0_1 ((rd_T37 l0_0 x16_2).f0)):=⟨_,rfl⟩
            replace H:(if bq19 = true then (if 0 <= ((rd_T37 l0_0 x16_2).f1) then (if ((rd_T37 l0_0 x16_2).f1) < (l0_1.length:Int) then (if rdOf false l0_1 ((rd_T37 l0_0 x16_2).f1) = true then (if ((rd_T37 l0_0 x16_2).f0) < (x4_2.length:Int) then (if ((rd_T37 l0_0 x16_2).f1) < (x4_2.length:Int) then ((some (x4_2.set (((rd_T37 l0_0 x16_2).f0):Int).toNat (mn (rd x4_2 ((rd_T37 l0_0 x16_2).f0)) (wrap64 ((rd x4_2 ((rd_T37 l0_0 x16_2).f1)) + ((rd_T37 l0_0 x16_2).f2)))):List Int)).bind fun y183=>(impl_Exploration_wayOut.l1 k2 (y183.set (((rd_T37 l0_0 x16_2).f1):Int).toNat (mn (rd y183 ((rd_T37 l0_0 x16_2).f1)) (wrap64 ((rd y183 ((rd_T37 l0_0 x16_2).f0)) + ((rd_T37 l0_0 x16_2).f2))))) x11_1 l0_0 (l0_0.length:Int) (wrap64 (x16_2 + 1)) l0_0 l0_1 l0_2 a0_3 a0_4)) else (none)) else (none)) else (impl_Exploration_wayOut.l1 k2 x4_2 x11_1 l0_0 (l0_0.length:Int) (wrap64 (x16_2 + 1)) l0_0 l0_1 l0_2 a0_3 a0_4)) else (none)) else (none)) else (impl_Exploration_wayOut.l1 k2 x4_2 x11_1 l0_0 (l0_0.length:Int) (wrap64 (x16_2 + 1)) l0_0 l0_1 l0_2 a0_3 a0_4)) = some (r1,r2):=by rw [<- hbq19] at H;exact H
            have Nbq19:=ak hbq19;clear hbq19
            by_cases c20:bq19 = true
            .
             subst c20
             have H1:(if 0 <= ((rd_T37 l0_0 x16_2).f1) then (if ((rd_T37 l0_0 x16_2).f1) < (l0_1.length:Int) then (if rdOf false l0_1 ((rd_T37 l0_0 x16_2).f1) = true then (if ((rd_T37 l0_0 x16_2).f0) < (x4_2.length:Int) then (if ((rd_T37 l0_0 x16_2).f1) < (x4_2.length:Int) then ((some (x4_2.set (((rd_T37 l0_0 x16_2).f0):Int).toNat (mn (rd x4_2 ((rd_T37 l0_0 x16_2).f0)) (wrap64 ((rd x4_2 ((rd_T37 l0_0 x16_2).f1)) + ((rd_T37 l0_0 x16_2).f2)))):List Int)).bind fun y183=>(impl_Exploration_wayOut.l1 k2 (y183.set (((rd_T37 l0_0 x16_2).f1):Int).toNat (mn (rd y183 ((rd_T37 l0_0 x16_2).f1)) (wrap64 ((rd y183 ((rd_T37 l0_0 x16_2).f0)) + ((rd_T37 l0_0 x16_2).f2))))) x11_1 l0_0 (l0_0.length:Int) (wrap64 (x16_2 + 1)) l0_0 l0_1 l0_2 a0_3 a0_4)) else (none)) else (none)) else (impl_Exploration_wayOut.l1 k2 x4_2 x11_1 l0_0 (l0_0.length:Int) (wrap64 (x16_2 + 1)) l0_0 l0_1 l0_2 a0_3 a0_4)) else (none)) else (none)) = some (r1,r2):=by rw [if_pos rfl] at H;exact H
             clear H;have H:=H1;clear H1
             by_cases c21:0 <= ((rd_T37 l0_0 x16_2).f1)
             .
              rw [if_pos c21] at H
              have c21b0:decide (0 <= ((rd_T37 l0_0 x16_2).f1)) = true:=decide_eq_true c21;clear c21
              by_cases c22:((rd_T37 l0_0 x16_2).f1) < (l0_1.length:Int)
              .
               rw [if_pos c22] at H
               have c22b0:decide (((rd_T37 l0_0 x16_2).f1) < (l0_1.length:Int)) = true:=decide_eq_true c22;clear c22
               obtain ⟨bq23,hbq23⟩:∃ b_:Bool,b_ = (rdOf false l0_1 ((rd_T37 l0_0 x16_2).f1)):=⟨_,rfl⟩
               replace H:(if bq23 = true then (if ((rd_T37 l0_0 x16_2).f0) < (x4_2.length:Int) then (if ((rd_T37 l0_0 x16_2).f1) < (x4_2.length:Int) then ((some (x4_2.set (((rd_T37 l0_0 x16_2).f0):Int).toNat (mn (rd x4_2 ((rd_T37 l0_0 x16_2).f0)) (wrap64 ((rd x4_2 ((rd_T37 l0_0 x16_2).f1)) + ((rd_T37 l0_0 x16_2).f2)))):List Int)).bind fun y183=>(impl_Exploration_wayOut.l1 k2 (y183.set (((rd_T37 l0_0 x16_2).f1):Int).toNat (mn (rd y183 ((rd_T37 l0_0 x16_2).f1)) (wrap64 ((rd y183 ((rd_T37 l0_0 x16_2).f0)) + ((rd_T37 l0_0 x16_2).f2))))) x11_1 l0_0 (l0_0.length:Int) (wrap64 (x16_2 + 1)) l0_0 l0_1 l0_2 a0_3 a0_4)) else (none)) else (none)) else (impl_Exploration_wayOut.l1 k2 x4_2 x11_1 l0_0 (l0_0.length:Int) (wrap64 (x16_2 + 1)) l0_0 l0_1 l0_2 a0_3 a0_4)) = some (r1,r2):=by rw [<- hbq23] at H;exact H
               have Nbq23:=ak hbq23;clear hbq23
               by_cases c24:bq23 = true
               .
                subst c24
                have H1:(if ((rd_T37 l0_0 x16_2).f0) < (x4_2.length:Int) then (if ((rd_T37 l0_0 x16_2).f1) < (x4_2.length:Int) then ((some (x4_2.set (((rd_T37 l0_0 x16_2).f0):Int).toNat (mn (rd x4_2 ((rd_T37 l0_0 x16_2).f0)) (wrap64 ((rd x4_2 ((rd_T37 l0_0 x16_2).f1)) + ((rd_T37 l0_0 x16_2).f2)))):List Int)).bind fun y183=>(impl_Exploration_wayOut.l1 k2 (y183.set (((rd_T37 l0_0 x16_2).f1):Int).toNat (mn (rd y183 ((rd_T37 l0_0 x16_2).f1)) (wrap64 ((rd y183 ((rd_T37 l0_0 x16_2).f0)) + ((rd_T37 l0_0 x16_2).f2))))) x11_1 l0_0 (l0_0.length:Int) (wrap64 (x16_2 + 1)) l0_0 l0_1 l0_2 a0_3 a0_4)) else (none)) else (none)) = some (r1,r2):=by rw [if_pos rfl] at H;exact H
                clear H;have H:=H1;clear H1
                by_cases c25:((rd_T37 l0_0 x16_2).f0) < (x4_2.length:Int)
                .
                 rw [if_pos c25] at H
                 have c25b0:decide (((rd_T37 l0_0 x16_2).f0) < (x4_2.length:Int)) = true:=decide_eq_true c25;clear c25
                 by_cases c26:((rd_T37 l0_0 x16_2).f1) < (x4_2.length:Int)
                 .
                  rw [if_pos c26] at H
                  have c26b0:decide (((rd_T37 l0_0 x16_2).f1) < (x4_2.length:Int)) = true:=decide_eq_true c26;clear c26
                  obtain ⟨ji27,hji27⟩:∃ j_:Int,(mn (rd x4_2 ((rd_T37 l0_0 x16_2).f0)) (wrap64 ((rd x4_2 ((rd_T37 l0_0 x16_2).f1)) + ((rd_T37 l0_0 x16_2).f2)))) = j_:=⟨_,rfl⟩
                  replace H:((some (x4_2.set (((rd_T37 l0_0 x16_2).f0):Int).toNat (ji27):List Int)).bind fun y183=>(impl_Exploration_wayOut.l1 k2 (y183.set (((rd_T37 l0_0 x16_2).f1):Int).toNat (mn (rd y183 ((rd_T37 l0_0 x16_2).f1)) (wrap64 ((rd y183 ((rd_T37 l0_0 x16_2).f0)) + ((rd_T37 l0_0 x16_2).f2))))) x11_1 l0_0 (l0_0.length:Int) (wrap64 (x16_2 + 1)) l0_0 l0_1 l0_2 a0_3 a0_4)) = some (r1,r2):=by first|(rw [hji27] at H;exact H)|(simp only [hji27] at H ⊢;exact H)
                  have hji27_:(if (wrap64 ((rd x4_2 ((rd_T37 l0_0 x16_2).f1)) + ((rd_T37 l0_0 x16_2).f2))) < (rd x4_2 ((rd_T37 l0_0 x16_2).f0)) then (wrap64 ((rd x4_2 ((rd_T37 l0_0 x16_2).f1)) + ((rd_T37 l0_0 x16_2).f2))) else (rd x4_2 ((rd_T37 l0_0 x16_2).f0))) = ji27:=hji27
                  obtain ⟨y183,hy183⟩:∃ y_:List Int,y_ = (x4_2.set (((rd_T37 l0_0 x16_2).f0):Int).toNat (ji27)):=⟨_,rfl⟩
                  replace H:(impl_Exploration_wayOut.l1 k2 (y183.set (((rd_T37 l0_0 x16_2).f1):Int).toNat (mn (rd y183 ((rd_T37 l0_0 x16_2).f1)) (wrap64 ((rd y183 ((rd_T37 l0_0 x16_2).f0)) + ((rd_T37 l0_0 x16_2).f2))))) x11_1 l0_0 (l0_0.length:Int) (wrap64 (x16_2 + 1)) l0_0 l0_1 l0_2 a0_3 a0_4) = some (r1,r2):=by first|(rw [hy183];with_reducible exact H)|(have H2_:=(Option.bind_some _ _).symm.trans H;rw [hy183];with_reducible exact H2_)|(have H2_:=(Option.bind_some _ _).symm.trans H;with_reducible exact H2_)|with_reducible exact H|(rw [hy183];exact H)|exact H
                  have Ny183:=ak hy183;clear hy183
                  obtain ⟨ji29,hji29⟩:∃ j_:Int,(mn (rd y183 ((rd_T37 l0_0 x16_2).f1)) (wrap64 ((rd y183 ((rd_T37 l0_0 x16_2).f0)) + ((rd_T37 l0_0 x16_2).f2)))) = j_:=⟨_,rfl⟩
                  replace H:(impl_Exploration_wayOut.l1 k2 (y183.set (((rd_T37 l0_0 x16_2).f1):Int).toNat (ji29)) x11_1 l0_0 (l0_0.length:Int) (wrap64 (x16_2 + 1)) l0_0 l0_1 l0_2 a0_3 a0_4) = some (r1,r2):=by first|(rw [hji29] at H;exact H)|(simp only [hji29] at H ⊢;exact H)
                  have hji29_:(if (wrap64 ((rd y183 ((rd_T37 l0_0 x16_2).f0)) + ((rd_T37 l0_0 x16_2).f2))) < (rd y183 ((rd_T37 l0_0 x16_2).f1)) then (wrap64 ((rd y183 ((rd_T37 l0_0 x16_2).f0)) + ((rd_T37 l0_0 x16_2).f2))) else (rd y183 ((rd_T37 l0_0 x16_2).f1))) = ji29:=hji29
                  obtain ⟨y186,hy186⟩:∃ y_:List Int,y_ = (y183.set (((rd_T37 l0_0 x16_2).f1):Int).toNat (ji29)):=⟨_,rfl⟩
                  replace H:(impl_Exploration_wayOut.l1 k2 y186 x11_1 l0_0 (l0_0.length:Int) (wrap64 (x16_2 + 1)) l0_0 l0_1 l0_2 a0_3 a0_4) = some (r1,r2):=by first|(rw [hy186];with_reducible exact H)|(have H2_:=(Option.bind_some _ _).symm.trans H;rw [hy186];with_reducible exact H2_)|(have H2_:=(Option.bind_some _ _).symm.trans H;with_reducible exact H2_)|with_reducible exact H|(rw [hy186];exact H)|exact H
                  have Ny186:=ak hy186;clear hy186;have H':=ak H;clear H;have p177:0 <= (x16_2:Int):=dt_;have q177:x16_2 < (l0_0.length:Int):=dt_;obtain ⟨ad177,e177,hx177_0,hx177_1,hx177_2,hx177_3,hx177_4⟩:=at_T37 HR0_0.out x16_2 p177 q177
                  cases e177
                  replace hx177_0:=bc_ HB.out hx177_0;replace hx177_1:=bc_ HB.out hx177_1;replace hx177_2:=bc_ HB.out hx177_2;replace hx177_3:=bc_ HB.out hx177_3;replace hx177_4:=bc_ HB.out hx177_4;replace p177:=eq_true p177;replace q177:=eq_true q177
                  try go_wp2_with (first|((with_reducible refine gate_dst (N:=6) rfl ?_);refine box_event ?hg (N:=6) ?hd (cs:=#[.int .i64 0,.int .i64 0,.int .i64 0,.int .i64 0,.int .i64 0]) (t:=37) ?hr ?_;(case hd=>rfl);(case hg=>rfl);(case hr=>first|(go_simp;done)|(go_simp;rfl));intro gb178 hg w31 hbox hb;replace HO_4:=ak (Kd.R_below (kr_ HO_4.out) hb);have BK178:=ak (hbox);have GW178:=ak ((bz_ hg (lb1_ HB.out GE167.out)));have GE178:=ak ((bz_ hg (lb1_ HB.out GE167.out)));replace HB:=ak (below_step (lb1_ HB.out GE167.out) hb);have NB167_178:=ak (nl_ hg BK167.out);have NB178_167:=ak (ng_ hg BK167.out);replace BK167:=ak (bb_ (bk_ BK167.out) hb);clear hb hbox hg;have hnb32:=NB178_167.out;have hnc32:=NB167_178.out;obtain ⟨hcz33_0,hcz33_1,hcz33_2,hcz33_3,hcz33_4⟩:=cz5_ BK178.out;obtain ⟨hfz33_0,hfz33_1,hfz33_2,hfz33_3,hfz33_4⟩:=fz5_ BK178.out;obtain ⟨hcz34_0,hcz34_1,hcz34_2,hcz34_3,hcz34_4⟩:=cz5_ BK167.out;obtain ⟨hfz34_0,hfz34_1,hfz34_2,hfz34_3,hfz34_4⟩:=fz5_ BK167.out;have p179:0 <= (((rd_T37 l0_0 x16_2).f0):Int):=dt_;have q179:((rd_T37 l0_0 x16_2).f0) < (l0_1.length:Int):=dt_;obtain ⟨ad179,e179,hx179_0⟩:=Kd.at_bool HR0_1.out ((rd_T37 l0_0 x16_2).f0) p179 q179;(try rw [<- Nbq19.out] at hx179_0);(try rw [<- Nbq23.out] at hx179_0);cases e179;have hn179_0:ad179.block ≠ gb178:=Nat.ne_of_lt (Nat.lt_of_lt_of_le (by have:=World.block_lt_of_cell? _ _ hx179_0;first|rwa [add_block] at this|exact this) GW178.out);have hn179_1:ad179.block ≠ gb178:=Nat.ne_of_lt (Nat.lt_of_lt_of_le (by have:=World.block_lt_of_cell? _ _ hx179_0;first|rwa [add_block] at this|exact this) GW178.out);have hn179_2:ad179.block ≠ gb178:=Nat.ne_of_lt (Nat.lt_of_lt_of_le (by have:=World.block_lt_of_cell? _ _ hx179_0;first|rwa [add_block] at this|exact this) GW178.out);have hn179_3:ad179.block ≠ gb178:=Nat.ne_of_lt (Nat.lt_of_lt_of_le (by have:=World.block_lt_of_cell? _ _ hx179_0;first|rwa [add_block] at this|exact this) GW178.out);have hn179_4:ad179.block ≠ gb178:=Nat.ne_of_lt (Nat.lt_of_lt_of_le (by have:=World.block_lt_of_cell? _ _ hx179_0;first|rwa [add_block] at this|exact this) GW178.out);replace hx179_0:=bc_ HB.out hx179_0;replace hx179_0:=(cell_far (p:=⟨gb178,0,none⟩) (by first|(rw [add_block];exact hn179_0)|(show (Addr.add _ _).block ≠ _;rw [add_block];exact hn179_0)|exact hn179_0) (.int .i64 ((rd_T37 l0_0 x16_2).f0))).trans hx179_0;replace hx179_0:=(cell_far (p:=⟨gb178,1,none⟩) (by first|(rw [add_block];exact hn179_1)|(show (Addr.add _ _).block ≠ _;rw [add_block];exact hn179_1)|exact hn179_1) (.int .i64 ((rd_T37 l0_0 x16_2).f1))).trans hx179_0;replace hx179_0:=(cell_far (p:=⟨gb178,2,none⟩) (by first|(rw [add_block];exact hn179_2)|(show (Addr.add _ _).block ≠ _;rw [add_block];exact hn179_2)|exact hn179_2) (.int .i64 ((rd_T37 l0_0 x16_2).f2))).trans hx179_0;replace hx179_0:=(cell_far (p:=⟨gb178,3,none⟩) (by first|(rw [add_block];exact hn179_3)|(show (Addr.add _ _).block ≠ _;rw [add_block];exact hn179_3)|exact hn179_3) (.int .i64 ((rd_T37 l0_0 x16_2).f3))).trans hx179_0;replace hx179_0:=(cell_far (p:=⟨gb178,4,none⟩) (by first|(rw [add_block];exact hn179_4)|(show (Addr.add _ _).block ≠ _;rw [add_block];exact hn179_4)|exact hn179_4) (.int .i64 ((rd_T37 l0_0 x16_2).f4))).trans hx179_0;clear hn179_0;clear hn179_1;clear hn179_2;clear hn179_3;clear hn179_4;replace p179:=eq_true p179;replace q179:=eq_true q179;have p180:0 <= (((rd_T37 l0_0 x16_2).f1):Int):=dt_;have q180:((rd_T37 l0_0 x16_2).f1) < (l0_1.length:Int):=dt_;obtain ⟨ad180,e180,hx180_0⟩:=Kd.at_bool HR0_1.out ((rd_T37 l0_0 x16_2).f1) p180 q180;(try rw [<- Nbq19.out] at hx180_0);(try rw [<- Nbq23.out] at hx180_0);obtain rfl:ad179 = ad180:=(by injection e180);have hn180_0:ad179.block ≠ gb178:=Nat.ne_of_lt (Nat.lt_of_lt_of_le (by have:=World.block_lt_of_cell? _ _ hx180_0;first|rwa [add_block] at this|exact this) GW178.out);have hn180_1:ad179.block ≠ gb178:=Nat.ne_of_lt (Nat.lt_of_lt_of_le (by have:=World.block_lt_of_cell? _ _ hx180_0;first|rwa [add_block] at this|exact this) GW178.out);have hn180_2:ad179.block ≠ gb178:=Nat.ne_of_lt (Nat.lt_of_lt_of_le (by have:=World.block_lt_of_cell? _ _ hx180_0;first|rwa [add_block] at this|exact this) GW178.out);have hn180_3:ad179.block ≠ gb178:=Nat.ne_of_lt (Nat.lt_of_lt_of_le (by have:=World.block_lt_of_cell? _ _ hx180_0;first|rwa [add_block] at this|exact this) GW178.out);have hn180_4:ad179.block ≠ gb178:=Nat.ne_of_lt (Nat.lt_of_lt_of_le (by have:=World.block_lt_of_cell? _ _ hx180_0;first|rwa [add_block] at this|exact this) GW178.out);replace hx180_0:=bc_ HB.out hx180_0;replace hx180_0:=(cell_far (p:=⟨gb178,0,none⟩) (by first|(rw [add_block];exact hn180_0)|(show (Addr.add _ _).block ≠ _;rw [add_block];exact hn180_0)|exact hn180_0) (.int .i64 ((rd_T37 l0_0 x16_2).f0))).trans hx180_0;replace hx180_0:=(cell_far (p:=⟨gb178,1,none⟩) (by first|(rw [add_block];exact hn180_1)|(show (Addr.add _ _).block ≠ _;rw [add_block];exact hn180_1)|exact hn180_1) (.int .i64 ((rd_T37 l0_0 x16_2).f1))).trans hx180_0;replace hx180_0:=(cell_far (p:=⟨gb178,2,none⟩) (by first|(rw [add_block];exact hn180_2)|(show (Addr.add _ _).block ≠ _;rw [add_block];exact hn180_2)|exact hn180_2) (.int .i64 ((rd_T37 l0_0 x16_2).f2))).trans hx180_0;replace hx180_0:=(cell_far (p:=⟨gb178,3,none⟩) (by first|(rw [add_block];exact hn180_3)|(show (Addr.add _ _).block ≠ _;rw [add_block];exact hn180_3)|exact hn180_3) (.int .i64 ((rd_T37 l0_0 x16_2).f3))).trans hx180_0;replace hx180_0:=(cell_far (p:=⟨gb178,4,none⟩) (by first|(rw [add_block];exact hn180_4)|(show (Addr.add _ _).block ≠ _;rw [add_block];exact hn180_4)|exact hn180_4) (.int .i64 ((rd_T37 l0_0 x16_2).f4))).trans hx180_0;clear hn180_0;clear hn180_1;clear hn180_2;clear hn180_3;clear hn180_4;replace p180:=eq_true p180;replace q180:=eq_true q180))
                  have n0_:Aside0 (Kd.R (Kd.int .i64) 3 (((((w31.setCell ⟨gb178,0,none⟩ (.int .i64 ((rd_T37 l0_0 x16_2).f0))).setCell ⟨gb178,1,none⟩ (.int .i64 ((rd_T37 l0_0 x16_2).f1))).setCell ⟨gb178,2,none⟩ (.int .i64 ((rd_T37 l0_0 x16_2).f2))).setCell ⟨gb178,3,none⟩ (.int .i64 ((rd_T37 l0_0 x16_2).f3))).setCell ⟨gb178,4,none⟩ (.int .i64 ((rd_T37 l0_0 x16_2).f4))) w.heap.size (fun _=>True) (.slice (some ⟨go4,0,none⟩) x4_2.length co4) x4_2):=⟨Kd.R_mono (r5_ HO_4.out BK178.out (by decide) _ _ _ _ _) (fun _ hk=>trivial)⟩
                  have n1_:Aside0 ((((((w31.setCell ⟨gb178,0,none⟩ (.int .i64 ((rd_T37 l0_0 x16_2).f0))).setCell ⟨gb178,1,none⟩ (.int .i64 ((rd_T37 l0_0 x16_2).f1))).setCell ⟨gb178,2,none⟩ (.int .i64 ((rd_T37 l0_0 x16_2).f2))).setCell ⟨gb178,3,none⟩ (.int .i64 ((rd_T37 l0_0 x16_2).f3))).setCell ⟨gb178,4,none⟩ (.int .i64 ((rd_T37 l0_0 x16_2).f4))).heap[gb167]? = some (.cells #[.slice (some ad177) l0_0.length c0_0,.slice (some ad179) l0_1.length c0_1,.slice A0_2 l0_2.length c0_2,.int .i64 a0_3,.int .i64 a0_4] 30 (0,0))):=⟨by exact (f5_ BK167.out NB167_178.out _ _ _ _ _)⟩
                  have n2_:Aside0 ((((((w31.setCell ⟨gb178,0,none⟩ (.int .i64 ((rd_T37 l0_0 x16_2).f0))).setCell ⟨gb178,1,none⟩ (.int .i64 ((rd_T37 l0_0 x16_2).f1))).setCell ⟨gb178,2,none⟩ (.int .i64 ((rd_T37 l0_0 x16_2).f2))).setCell ⟨gb178,3,none⟩ (.int .i64 ((rd_T37 l0_0 x16_2).f3))).setCell ⟨gb178,4,none⟩ (.int .i64 ((rd_T37 l0_0 x16_2).f4))).heap[gb178]? = some (.cells #[.int .i64 ((rd_T37 l0_0 x16_2).f0),.int .i64 ((rd_T37 l0_0 x16_2).f1),.int .i64 ((rd_T37 l0_0 x16_2).f2),.int .i64 ((rd_T37 l0_0 x16_2).f3),.int .i64 ((rd_T37 l0_0 x16_2).f4)] 37 (0,0))):=⟨by exact (p5_ BK178.out _ _ _ _ _)⟩
                  have n3_:Aside0 (Below w.heap.size w (((((w31.setCell ⟨gb178,0,none⟩ (.int .i64 ((rd_T37 l0_0 x16_2).f0))).setCell ⟨gb178,1,none⟩ (.int .i64 ((rd_T37 l0_0 x16_2).f1))).setCell ⟨gb178,2,none⟩ (.int .i64 ((rd_T37 l0_0 x16_2).f2))).setCell ⟨gb178,3,none⟩ (.int .i64 ((rd_T37 l0_0 x16_2).f3))).setCell ⟨gb178,4,none⟩ (.int .i64 ((rd_T37 l0_0 x16_2).f4)))):=⟨lb2_ HB.out GE167.out GE178.out⟩
                  (try clear HO_4);(try clear BK167);(try clear BK178);(try clear HB);generalize (((((w31.setCell ⟨gb178,0,none⟩ (.int .i64 ((rd_T37 l0_0 x16_2).f0))).setCell ⟨gb178,1,none⟩ (.int .i64 ((rd_T37 l0_0 x16_2).f1))).setCell ⟨gb178,2,none⟩ (.int .i64 ((rd_T37 l0_0 x16_2).f2))).setCell ⟨gb178,3,none⟩ (.int .i64 ((rd_T37 l0_0 x16_2).f3))).setCell ⟨gb178,4,none⟩ (.int .i64 ((rd_T37 l0_0 x16_2).f4))) = w35 at n0_ n1_ n2_ n3_ ⊢;have HO_4:=n0_;have BK167:=n1_;have BK178:=n2_;have HB:=n3_;clear n0_ n1_ n2_ n3_;replace HO_4:=ak (Kd.R_drew HO_4.out);replace BK167:=ak (blk_drew BK167.out);replace BK178:=ak (blk_drew BK178.out);replace HB:=ak (below_drew1 HB.out);have p181:0 <= (((rd_T37 l0_0 x16_2).f0):Int):=dt_;have q181:((rd_T37 l0_0 x16_2).f0) < (x4_2.length:Int):=dt_;obtain ⟨ad181,e181,hx181_0⟩:=Kd.at_int (Kd.R_reads' HO_4.out).2.2 ((rd_T37 l0_0 x16_2).f0) p181 q181
                  obtain rfl:(⟨go4,0,none⟩:Addr) = ad181:=(by injection e181)
                  (first|simp only [add_plain] at hx181_0|simp only [add_at] at hx181_0|simp only [Addr.add,Nat.zero_add] at hx181_0|skip)
                  replace p181:=eq_true p181;replace q181:=eq_true q181;have p182:0 <= (((rd_T37 l0_0 x16_2).f1):Int):=dt_;have q182:((rd_T37 l0_0 x16_2).f1) < (x4_2.length:Int):=dt_;obtain ⟨ad182,e182,hx182_0⟩:=Kd.at_int (Kd.R_reads' HO_4.out).2.2 ((rd_T37 l0_0 x16_2).f1) p182 q182
                  obtain rfl:(⟨go4,0,none⟩:Addr) = ad182:=(by injection e182)
                  (first|simp only [add_plain] at hx182_0|simp only [add_at] at hx182_0|simp only [Addr.add,Nat.zero_add] at hx182_0|skip)
                  replace p182:=eq_true p182;replace q182:=eq_true q182;have p28:0 <= (((rd_T37 l0_0 x16_2).f0):Int):=dt_;have q28:(((rd_T37 l0_0 x16_2).f0):Int) < ((x4_2.length:Int):Int):=dt_;obtain ⟨hx28_0,hf28_0⟩:=Kd.R_celln 0 HO_4.out (((rd_T37 l0_0 x16_2).f0):Int) p28 q28;replace p28:=eq_true p28;replace q28:=eq_true q28;have HP37:=Kd.R_putn HO_4.out (((rd_T37 l0_0 x16_2).f0):Int) ji27
                  rw [<- Ny183.out] at HP37
                  have HQ37:=ak HP37;clear HP37;refine start_ (n:=19) (S:=fun w'=>w'.cell? ⟨gb178,0,none⟩ = some (.int .i64 ((rd_T37 l0_0 x16_2).f0)) /\ w'.cell? ⟨gb178,1,none⟩ = some (.int .i64 ((rd_T37 l0_0 x16_2).f1)) /\ w'.cell? ⟨gb178,2,none⟩ = some (.int .i64 ((rd_T37 l0_0 x16_2).f2)) /\ w'.cell? ⟨gb178,3,none⟩ = some (.int .i64 ((rd_T37 l0_0 x16_2).f3)) /\ w'.cell? ⟨gb178,4,none⟩ = some (.int .i64 ((rd_T37 l0_0 x16_2).f4)) /\ w'.cell? ⟨go4,(((rd_T37 l0_0 x16_2).f0)).toNat,none⟩ = some (.int .i64 (rd x4_2 ((rd_T37 l0_0 x16_2).f0))) /\ w'.cell? ⟨go4,(((rd_T37 l0_0 x16_2).f1)).toNat,none⟩ = some (.int .i64 (rd x4_2 ((rd_T37 l0_0 x16_2).f1)))) (ds:=[18]) impl_Exploration_wayOut.mk0 (by kernel_rfl) rfl rfl ⟨(blk_cell BK178.out 0).trans rfl,(blk_cell BK178.out 1).trans rfl,(blk_cell BK178.out 2).trans rfl,(blk_cell BK178.out 3).trans rfl,(blk_cell BK178.out 4).trans rfl,hx181_0,hx182_0⟩ (fun hHeld=>?_);refine with_tabW impl_Exploration_wayOut.tab9 impl_Exploration_wayOut.bits9 (fun HT_ HW_=>?_);generalize w35.drew = w36 at HO_4 BK167 BK178 HB HQ37 hf28_0 hx181_0 hx182_0 hx28_0 hHeld ⊢;refine pz_ HT_ 0 (some 34) impl_Exploration_wayOut.mk1 ?_;refine pz_ HT_ 1 (some 35) impl_Exploration_wayOut.mk2 ?_;refine pz_ HT_ 3 (some 37) impl_Exploration_wayOut.mk3 ?_;refine pz_ HT_ 4 (some 38) impl_Exploration_wayOut.mk4 ?_;refine pz_ HT_ 8 (some 42) impl_Exploration_wayOut.mk5 ?_;refine pz_ HT_ 9 (some 43) impl_Exploration_wayOut.mk6 ?_;refine pz_ HT_ 13 (some 47) impl_Exploration_wayOut.mk7 ?_;refine tk_ HT_ HW_ hHeld 2 (some 36) impl_Exploration_wayOut.mk8 ?_;refine tk_ HT_ HW_ hHeld 5 (some 39) impl_Exploration_wayOut.mk9 ?_;refine pz_ HT_ 6 (some 40) impl_Exploration_wayOut.mk10 ?_;refine tk_ HT_ HW_ hHeld 7 (some 41) impl_Exploration_wayOut.mk11 ?_;refine tk_ HT_ HW_ hHeld 10 (some 44) impl_Exploration_wayOut.mk12 ?_;refine pz_ HT_ 11 (some 45) impl_Exploration_wayOut.mk13 ?_;refine tk_ HT_ HW_ hHeld 12 (some 46) impl_Exploration_wayOut.mk14 ?_;refine tk_ HT_ HW_ hHeld 14 (some 48) impl_Exploration_wayOut.mk15 ?_;refine pz_ HT_ 15 (some 49) impl_Exploration_wayOut.mk16 ?_;refine pz_ HT_ 16 (some 50) impl_Exploration_wayOut.mk17 ?_;refine pz_ HT_ 17 (some 51) impl_Exploration_wayOut.mk18 ?_;refine last_ (i:=18) (N:=none) impl_Exploration_wayOut.mk19 rfl rfl (one_of HT_.out (by kernel_rfl)) (by decide) (fun K hK=>?_);refine skip_ (w1:=?_) (by rfl) rfl ?_ ?_;rotate_left
                  .
                   go_simp;rfl
                  refine hK.out _ _ ?_;clear hK K;refine done_ (done_of HT_.out (by kernel_rfl)) ?_
                  try go_wp2
                  have n0_:Aside0 (Kd.R (Kd.int .i64) 3 (w36.setCell ⟨go4,(((rd_T37 l0_0 x16_2).f0):Int).toNat,none⟩ (.int .i64 ji27)) w.heap.size (fun _=>True) (.slice (some ⟨go4,0,none⟩) x4_2.length co4) y183):=⟨kr_ HQ37.out⟩
                  have n1_:Aside0 ((w36.setCell ⟨go4,(((rd_T37 l0_0 x16_2).f0):Int).toNat,none⟩ (.int .i64 ji27)).heap[gb167]? = some (.cells #[.slice (some ad177) l0_0.length c0_0,.slice (some ad179) l0_1.length c0_1,.slice A0_2 l0_2.length c0_2,.int .i64 a0_3,.int .i64 a0_4] 30 (0,0))):=⟨by (with_reducible repeat (first|refine blk_drewN ?_ _|refine blk_drew ?_|refine blk_alloc ?_ _));refine blk_far ?_ (by have h_:=Kd.R_ne HO_4.out BK167.out (by decide);intro e_;exact h_ (by rw [e_];rfl)) _;(with_reducible repeat (first|refine blk_drewN ?_ _|refine blk_drew ?_|refine blk_alloc ?_ _));exact BK167.out⟩
                  have n2_:Aside0 ((w36.setCell ⟨go4,(((rd_T37 l0_0 x16_2).f0):Int).toNat,none⟩ (.int .i64 ji27)).heap[gb178]? = some (.cells #[.int .i64 ((rd_T37 l0_0 x16_2).f0),.int .i64 ((rd_T37 l0_0 x16_2).f1),.int .i64 ((rd_T37 l0_0 x16_2).f2),.int .i64 ((rd_T37 l0_0 x16_2).f3),.int .i64 ((rd_T37 l0_0 x16_2).f4)] 37 (0,0))):=⟨by (with_reducible repeat (first|refine blk_drewN ?_ _|refine blk_drew ?_|refine blk_alloc ?_ _));refine blk_far ?_ (by have h_:=Kd.R_ne HO_4.out BK178.out (by decide);intro e_;exact h_ (by rw [e_];rfl)) _;(with_reducible repeat (first|refine blk_drewN ?_ _|refine blk_drew ?_|refine blk_alloc ?_ _));exact BK178.out⟩
                  have n3_:Aside0 (Below w.heap.size w (w36.setCell ⟨go4,(((rd_T37 l0_0 x16_2).f0):Int).toNat,none⟩ (.int .i64 ji27))):=⟨lb3_ HB.out GB4.out GE167.out GE178.out⟩
                  (try clear HO_4);(try clear BK167);(try clear BK178);(try clear HB);generalize (w36.setCell ⟨go4,(((rd_T37 l0_0 x16_2).f0):Int).toNat,none⟩ (.int .i64 ji27)) = w38 at n0_ n1_ n2_ n3_ ⊢;have HO_4:=n0_;have BK167:=n1_;have BK178:=n2_;have HB:=n3_;clear n0_ n1_ n2_ n3_;replace HO_4:=ak (Kd.R_drew HO_4.out);replace BK167:=ak (blk_drew BK167.out);replace BK178:=ak (blk_drew BK178.out);replace HB:=ak (below_drew1 HB.out);have p184:0 <= (((rd_T37 l0_0 x16_2).f1):Int):=dt_
                  have q184:((rd_T37 l0_0 x16_2).f1) < (y183.length:Int):=(by have h_:(((rd_T37 l0_0 x16_2).f1):Int) < ((x4_2.length:Int):Int):=dt_;first|(have e_:=(Kd.R_reads' HO_4.out).1;omega)|simpa only [Ny183.out,List.length_set] using h_)
                  have ql184:((((rd_T37 l0_0 x16_2).f1):Int) < ((x4_2.length:Int):Int)) = True:=eq_true (dt_);obtain ⟨ad184,e184,hx184_0⟩:=Kd.at_int (Kd.R_reads' HO_4.out).2.2 ((rd_T37 l0_0 x16_2).f1) p184 q184
                  obtain rfl:(⟨go4,0,none⟩:Addr) = ad184:=(by injection e184)
                  (first|simp only [add_plain] at hx184_0|simp only [add_at] at hx184_0|simp only [Addr.add,Nat.zero_add] at hx184_0|skip)
                  replace p184:=eq_true p184;replace q184:=eq_true q184;have p185:0 <= (((rd_T37 l0_0 x16_2).f0):Int):=dt_
                  have q185:((rd_T37 l0_0 x16_2).f0) < (y183.length:Int):=(by have h_:(((rd_T37 l0_0 x16_2).f0):Int) < ((x4_2.length:Int):Int):=dt_;first|(have e_:=(Kd.R_reads' HO_4.out).1;omega)|simpa only [Ny183.out,List.length_set] using h_)
                  have ql185:((((rd_T37 l0_0 x16_2).f0):Int) < ((x4_2.length:Int):Int)) = True:=eq_true (dt_);obtain ⟨ad185,e185,hx185_0⟩:=Kd.at_int (Kd.R_reads' HO_4.out).2.2 ((rd_T37 l0_0 x16_2).f0) p185 q185
                  obtain rfl:(⟨go4,0,none⟩:Addr) = ad185:=(by injection e185)
                  (first|simp only [add_plain] at hx185_0|simp only [add_at] at hx185_0|simp only [Addr.add,Nat.zero_add] at hx185_0|skip)
                  replace p185:=eq_true p185;replace q185:=eq_true q185;have p30:0 <= (((rd_T37 l0_0 x16_2).f1):Int):=dt_;have q30:(((rd_T37 l0_0 x16_2).f1):Int) < ((x4_2.length:Int):Int):=dt_;obtain ⟨hx30_0,hf30_0⟩:=Kd.R_celln 0 HO_4.out (((rd_T37 l0_0 x16_2).f1):Int) p30 q30;replace p30:=eq_true p30;replace q30:=eq_true q30;have HP40:=Kd.R_putn HO_4.out (((rd_T37 l0_0 x16_2).f1):Int) ji29
                  rw [<- Ny186.out] at HP40
                  have HQ40:=ak HP40;clear HP40;refine start_ (n:=19) (S:=fun w'=>w'.cell? ⟨gb178,0,none⟩ = some (.int .i64 ((rd_T37 l0_0 x16_2).f0)) /\ w'.cell? ⟨gb178,1,none⟩ = some (.int .i64 ((rd_T37 l0_0 x16_2).f1)) /\ w'.cell? ⟨gb178,2,none⟩ = some (.int .i64 ((rd_T37 l0_0 x16_2).f2)) /\ w'.cell? ⟨gb178,3,none⟩ = some (.int .i64 ((rd_T37 l0_0 x16_2).f3)) /\ w'.cell? ⟨gb178,4,none⟩ = some (.int .i64 ((rd_T37 l0_0 x16_2).f4)) /\ w'.cell? ⟨go4,(((rd_T37 l0_0 x16_2).f1)).toNat,none⟩ = some (.int .i64 (rd y183 ((rd_T37 l0_0 x16_2).f1))) /\ w'.cell? ⟨go4,(((rd_T37 l0_0 x16_2).f0)).toNat,none⟩ = some (.int .i64 (rd y183 ((rd_T37 l0_0 x16_2).f0)))) (ds:=[18]) impl_Exploration_wayOut.mk0 (by kernel_rfl) rfl rfl ⟨(blk_cell BK178.out 0).trans rfl,(blk_cell BK178.out 1).trans rfl,(blk_cell BK178.out 2).trans rfl,(blk_cell BK178.out 3).trans rfl,(blk_cell BK178.out 4).trans rfl,hx184_0,hx185_0⟩ (fun hHeld=>?_);refine with_tabW impl_Exploration_wayOut.tab10 impl_Exploration_wayOut.bits10 (fun HT_ HW_=>?_);generalize w38.drew = w39 at HO_4 BK167 BK178 HB HQ37 HQ40 hf30_0 hx184_0 hx185_0 hx30_0 hHeld ⊢;refine pz_ HT_ 0 (some 52) impl_Exploration_wayOut.mk1 ?_;refine pz_ HT_ 1 (some 53) impl_Exploration_wayOut.mk2 ?_;refine pz_ HT_ 3 (some 55) impl_Exploration_wayOut.mk3 ?_;refine pz_ HT_ 4 (some 56) impl_Exploration_wayOut.mk4 ?_;refine pz_ HT_ 8 (some 60) impl_Exploration_wayOut.mk5 ?_;refine pz_ HT_ 9 (some 61) impl_Exploration_wayOut.mk6 ?_;refine pz_ HT_ 13 (some 65) impl_Exploration_wayOut.mk7 ?_;refine tk_ HT_ HW_ hHeld 2 (some 54) impl_Exploration_wayOut.mk8 ?_;refine tk_ HT_ HW_ hHeld 5 (some 57) impl_Exploration_wayOut.mk9 ?_;refine pz_ HT_ 6 (some 58) impl_Exploration_wayOut.mk10 ?_;refine tk_ HT_ HW_ hHeld 7 (some 59) impl_Exploration_wayOut.mk11 ?_;refine tk_ HT_ HW_ hHeld 10 (some 62) impl_Exploration_wayOut.mk12 ?_;refine pz_ HT_ 11 (some 63) impl_Exploration_wayOut.mk13 ?_;refine tk_ HT_ HW_ hHeld 12 (some 64) impl_Exploration_wayOut.mk14 ?_;refine tk_ HT_ HW_ hHeld 14 (some 66) impl_Exploration_wayOut.mk15 ?_;refine pz_ HT_ 15 (some 67) impl_Exploration_wayOut.mk16 ?_;refine pz_ HT_ 16 (some 68) impl_Exploration_wayOut.mk17 ?_;refine pz_ HT_ 17 (some 69) impl_Exploration_wayOut.mk18 ?_;refine last_ (i:=18) (N:=none) impl_Exploration_wayOut.mk19 rfl rfl (one_of HT_.out (by kernel_rfl)) (by decide) (fun K hK=>?_);refine skip_ (w1:=?_) (by rfl) rfl ?_ ?_;rotate_left
                  .
                   go_simp;rfl
                  refine hK.out _ _ ?_;clear hK K;refine done_ (done_of HT_.out (by kernel_rfl)) ?_
                  try go_wp2
                  (try simp only [<- hl4_2])
                  go_roundg k2
                  case measure=>have:=HK1.out;have:=HK2.out;omega
                  case rel=>exact ⟨(y186),(wrap64 (x16_2 + 1)),(by first|rfl|(simp;done)|(simp [*];done)),H',⟨by have:=HK1.out;have:=HK2.out;omega⟩,⟨by (try simp only [hl4_1]);(try simp only [hl4_2]);(with_reducible repeat (first|apply Kd.R_alloc|apply Kd.R_drewN|apply Kd.R_drew));exact HQ40.out⟩,⟨by (try simp only [hl4_1]);(try simp only [hl4_2]);(with_reducible repeat (first|refine blk_drewN ?_ _|refine blk_drew ?_|refine blk_alloc ?_ _));refine blk_far ?_ (by have h_:=Kd.R_ne HO_4.out BK167.out (by decide);intro e_;exact h_ (by rw [e_];rfl)) _;(with_reducible repeat (first|refine blk_drewN ?_ _|refine blk_drew ?_|refine blk_alloc ?_ _));exact BK167.out⟩,⟨lb3_ HB.out GB4.out GE167.out GE178.out⟩⟩
                 .
                  rw [if_neg c26] at H
                  exact absurd H (by simp)
                .
                 rw [if_neg c25] at H
                 exact absurd H (by simp)
               .
                replace c24:=Bool.eq_false_iff.mpr c24;subst c24
                have H1:(impl_Exploration_wayOut.l1 k2 x4_2 x11_1 l0_0 (l0_0.length:Int) (wrap64 (x16_2 + 1)) l0_0 l0_1 l0_2 a0_3 a0_4) = some (r1,r2):=by rw [if_neg (show ¬ (false = true) by decide)] at H;exact H
                clear H;have H:=H1;clear H1;have H':=ak H;clear H;have p177:0 <= (x16_2:Int):=dt_;have q177:x16_2 < (l0_0.length:Int):=dt_;obtain ⟨ad177,e177,hx177_0,hx177_1,hx177_2,hx177_3,hx177_4⟩:=at_T37 HR0_0.out x16_2 p177 q177
                cases e177
                replace hx177_0:=bc_ HB.out hx177_0;replace hx177_1:=bc_ HB.out hx177_1;replace hx177_2:=bc_ HB.out hx177_2;replace hx177_3:=bc_ HB.out hx177_3;replace hx177_4:=bc_ HB.out hx177_4;replace p177:=eq_true p177;replace q177:=eq_true q177
                go_wp2_with (first|((with_reducible refine gate_dst (N:=6) rfl ?_);refine box_event ?hg (N:=6) ?hd (cs:=#[.int .i64 0,.int .i64 0,.int .i64 0,.int .i64 0,.int .i64 0]) (t:=37) ?hr ?_;(case hd=>rfl);(case hg=>rfl);(case hr=>first|(go_simp;done)|(go_simp;rfl));intro gb178 hg w41 hbox hb;replace HO_4:=ak (Kd.R_below (kr_ HO_4.out) hb);have BK178:=ak (hbox);have GW178:=ak ((bz_ hg (lb1_ HB.out GE167.out)));have GE178:=ak ((bz_ hg (lb1_ HB.out GE167.out)));replace HB:=ak (below_step (lb1_ HB.out GE167.out) hb);have NB167_178:=ak (nl_ hg BK167.out);have NB178_167:=ak (ng_ hg BK167.out);replace BK167:=ak (bb_ (bk_ BK167.out) hb);clear hb hbox hg;have hnb42:=NB178_167.out;have hnc42:=NB167_178.out;obtain ⟨hcz43_0,hcz43_1,hcz43_2,hcz43_3,hcz43_4⟩:=cz5_ BK178.out;obtain ⟨hfz43_0,hfz43_1,hfz43_2,hfz43_3,hfz43_4⟩:=fz5_ BK178.out;obtain ⟨hcz44_0,hcz44_1,hcz44_2,hcz44_3,hcz44_4⟩:=cz5_ BK167.out;obtain ⟨hfz44_0,hfz44_1,hfz44_2,hfz44_3,hfz44_4⟩:=fz5_ BK167.out;have p179:0 <= (((rd_T37 l0_0 x16_2).f0):Int):=dt_;have q179:((rd_T37 l0_0 x16_2).f0) < (l0_1.length:Int):=dt_;obtain ⟨ad179,e179,hx179_0⟩:=Kd.at_bool HR0_1.out ((rd_T37 l0_0 x16_2).f0) p179 q179;(try rw [<- Nbq19.out] at hx179_0);(try rw [<- Nbq23.out] at hx179_0);cases e179;have hn179_0:ad179.block ≠ gb178:=Nat.ne_of_lt (Nat.lt_of_lt_of_le (by have:=World.block_lt_of_cell? _ _ hx179_0;first|rwa [add_block] at this|exact this) GW178.out);have hn179_1:ad179.block ≠ gb178:=Nat.ne_of_lt (Nat.lt_of_lt_of_le (by have:=World.block_lt_of_cell? _ _ hx179_0;first|rwa [add_block] at this|exact this) GW178.out);have hn179_2:ad179.block ≠ gb178:=Nat.ne_of_lt (Nat.lt_of_lt_of_le (by have:=World.block_lt_of_cell? _ _ hx179_0;first|rwa [add_block] at this|exact this) GW178.out);have hn179_3:ad179.block ≠ gb178:=Nat.ne_of_lt (Nat.lt_of_lt_of_le (by have:=World.block_lt_of_cell? _ _ hx179_0;first|rwa [add_block] at this|exact this) GW178.out);have hn179_4:ad179.block ≠ gb178:=Nat.ne_of_lt (Nat.lt_of_lt_of_le (by have:=World.block_lt_of_cell? _ _ hx179_0;first|rwa [add_block] at this|exact this) GW178.out);replace hx179_0:=bc_ HB.out hx179_0;replace hx179_0:=(cell_far (p:=⟨gb178,0,none⟩) (by first|(rw [add_block];exact hn179_0)|(show (Addr.add _ _).block ≠ _;rw [add_block];exact hn179_0)|exact hn179_0) (.int .i64 ((rd_T37 l0_0 x16_2).f0))).trans hx179_0;replace hx179_0:=(cell_far (p:=⟨gb178,1,none⟩) (by first|(rw [add_block];exact hn179_1)|(show (Addr.add _ _).block ≠ _;rw [add_block];exact hn179_1)|exact hn179_1) (.int .i64 ((rd_T37 l0_0 x16_2).f1))).trans hx179_0;replace hx179_0:=(cell_far (p:=⟨gb178,2,none⟩) (by first|(rw [add_block];exact hn179_2)|(show (Addr.add _ _).block ≠ _;rw [add_block];exact hn179_2)|exact hn179_2) (.int .i64 ((rd_T37 l0_0 x16_2).f2))).trans hx179_0;replace hx179_0:=(cell_far (p:=⟨gb178,3,none⟩) (by first|(rw [add_block];exact hn179_3)|(show (Addr.add _ _).block ≠ _;rw [add_block];exact hn179_3)|exact hn179_3) (.int .i64 ((rd_T37 l0_0 x16_2).f3))).trans hx179_0;replace hx179_0:=(cell_far (p:=⟨gb178,4,none⟩) (by first|(rw [add_block];exact hn179_4)|(show (Addr.add _ _).block ≠ _;rw [add_block];exact hn179_4)|exact hn179_4) (.int .i64 ((rd_T37 l0_0 x16_2).f4))).trans hx179_0;clear hn179_0;clear hn179_1;clear hn179_2;clear hn179_3;clear hn179_4;replace p179:=eq_true p179;replace q179:=eq_true q179;have p180:0 <= (((rd_T37 l0_0 x16_2).f1):Int):=dt_;have q180:((rd_T37 l0_0 x16_2).f1) < (l0_1.length:Int):=dt_;obtain ⟨ad180,e180,hx180_0⟩:=Kd.at_bool HR0_1.out ((rd_T37 l0_0 x16_2).f1) p180 q180;(try rw [<- Nbq19.out] at hx180_0);(try rw [<- Nbq23.out] at hx180_0);obtain rfl:ad179 = ad180:=(by injection e180);have hn180_0:ad179.block ≠ gb178:=Nat.ne_of_lt (Nat.lt_of_lt_of_le (by have:=World.block_lt_of_cell? _ _ hx180_0;first|rwa [add_block] at this|exact this) GW178.out);have hn180_1:ad179.block ≠ gb178:=Nat.ne_of_lt (Nat.lt_of_lt_of_le (by have:=World.block_lt_of_cell? _ _ hx180_0;first|rwa [add_block] at this|exact this) GW178.out);have hn180_2:ad179.block ≠ gb178:=Nat.ne_of_lt (Nat.lt_of_lt_of_le (by have:=World.block_lt_of_cell? _ _ hx180_0;first|rwa [add_block] at this|exact this) GW178.out);have hn180_3:ad179.block ≠ gb178:=Nat.ne_of_lt (Nat.lt_of_lt_of_le (by have:=World.block_lt_of_cell? _ _ hx180_0;first|rwa [add_block] at this|exact this) GW178.out);have hn180_4:ad179.block ≠ gb178:=Nat.ne_of_lt (Nat.lt_of_lt_of_le (by have:=World.block_lt_of_cell? _ _ hx180_0;first|rwa [add_block] at this|exact this) GW178.out);replace hx180_0:=bc_ HB.out hx180_0;replace hx180_0:=(cell_far (p:=⟨gb178,0,none⟩) (by first|(rw [add_block];exact hn180_0)|(show (Addr.add _ _).block ≠ _;rw [add_block];exact hn180_0)|exact hn180_0) (.int .i64 ((rd_T37 l0_0 x16_2).f0))).trans hx180_0;replace hx180_0:=(cell_far (p:=⟨gb178,1,none⟩) (by first|(rw [add_block];exact hn180_1)|(show (Addr.add _ _).block ≠ _;rw [add_block];exact hn180_1)|exact hn180_1) (.int .i64 ((rd_T37 l0_0 x16_2).f1))).trans hx180_0;replace hx180_0:=(cell_far (p:=⟨gb178,2,none⟩) (by first|(rw [add_block];exact hn180_2)|(show (Addr.add _ _).block ≠ _;rw [add_block];exact hn180_2)|exact hn180_2) (.int .i64 ((rd_T37 l0_0 x16_2).f2))).trans hx180_0;replace hx180_0:=(cell_far (p:=⟨gb178,3,none⟩) (by first|(rw [add_block];exact hn180_3)|(show (Addr.add _ _).block ≠ _;rw [add_block];exact hn180_3)|exact hn180_3) (.int .i64 ((rd_T37 l0_0 x16_2).f3))).trans hx180_0;replace hx180_0:=(cell_far (p:=⟨gb178,4,none⟩) (by first|(rw [add_block];exact hn180_4)|(show (Addr.add _ _).block ≠ _;rw [add_block];exact hn180_4)|exact hn180_4) (.int .i64 ((rd_T37 l0_0 x16_2).f4))).trans hx180_0;clear hn180_0;clear hn180_1;clear hn180_2;clear hn180_3;clear hn180_4;replace p180:=eq_true p180;replace q180:=eq_true q180))
                (try simp only [<- hl4_2])
                go_roundg k2
                case measure=>have:=HK1.out;have:=HK2.out;omega
                case rel=>exact ⟨(x4_2),(wrap64 (x16_2 + 1)),(by first|rfl|(simp;done)|(simp [*];done)),H',⟨by have:=HK1.out;have:=HK2.out;omega⟩,⟨by (try simp only [hl4_1]);(try simp only [hl4_2]);(with_reducible repeat (first|apply Kd.R_alloc|apply Kd.R_drewN|apply Kd.R_drew));exact Kd.R_mono (Kd.R_far (p:=⟨gb178,4,none⟩) (Kd.R_far (p:=⟨gb178,3,none⟩) (Kd.R_far (p:=⟨gb178,2,none⟩) (Kd.R_far (p:=⟨gb178,1,none⟩) (Kd.R_far (p:=⟨gb178,0,none⟩) (Kd.R_types HO_4.out BK178.out (by decide)) (fun _ hk=>hk.2) (.int .i64 ((rd_T37 l0_0 x16_2).f0))) (fun _ hk=>hk.2) (.int .i64 ((rd_T37 l0_0 x16_2).f1))) (fun _ hk=>hk.2) (.int .i64 ((rd_T37 l0_0 x16_2).f2))) (fun _ hk=>hk.2) (.int .i64 ((rd_T37 l0_0 x16_2).f3))) (fun _ hk=>hk.2) (.int .i64 ((rd_T37 l0_0 x16_2).f4))) (fun _ hk=>trivial)⟩,⟨by (try simp only [hl4_1]);(try simp only [hl4_2]);(with_reducible repeat (first|refine blk_drewN ?_ _|refine blk_drew ?_|refine blk_alloc ?_ _));refine blk_far ?_ NB167_178.out _;(with_reducible repeat (first|refine blk_drewN ?_ _|refine blk_drew ?_|refine blk_alloc ?_ _));refine blk_far ?_ NB167_178.out _;(with_reducible repeat (first|refine blk_drewN ?_ _|refine blk_drew ?_|refine blk_alloc ?_ _));refine blk_far ?_ NB167_178.out _;(with_reducible repeat (first|refine blk_drewN ?_ _|refine blk_drew ?_|refine blk_alloc ?_ _));refine blk_far ?_ NB167_178.out _;(with_reducible repeat (first|refine blk_drewN ?_ _|refine blk_drew ?_|refine blk_alloc ?_ _));refine blk_far ?_ NB167_178.out _;(with_reducible repeat (first|refine blk_drewN ?_ _|refine blk_drew ?_|refine blk_alloc ?_ _));exact BK167.out⟩,⟨lb2_ HB.out GE167.out GE178.out⟩⟩
              .
               rw [if_neg c22] at H
               exact absurd H (by simp)
             .
              rw [if_neg c21] at H
              exact absurd H (by simp)
            .
             replace c20:=Bool.eq_false_iff.mpr c20;subst c20
             have H1:(impl_Exploration_wayOut.l1 k2 x4_2 x11_1 l0_0 (l0_0.length:Int) (wrap64 (x16_2 + 1)) l0_0 l0_1 l0_2 a0_3 a0_4) = some (r1,r2):=by rw [if_neg (show ¬ (false = true) by decide)] at H;exact H
             clear H;have H:=H1;clear H1;have H':=ak H;clear H;have p177:0 <= (x16_2:Int):=dt_;have q177:x16_2 < (l0_0.length:Int):=dt_;obtain ⟨ad177,e177,hx177_0,hx177_1,hx177_2,hx177_3,hx177_4⟩:=at_T37 HR0_0.out x16_2 p177 q177
             cases e177
             replace hx177_0:=bc_ HB.out hx177_0;replace hx177_1:=bc_ HB.out hx177_1;replace hx177_2:=bc_ HB.out hx177_2;replace hx177_3:=bc_ HB.out hx177_3;replace hx177_4:=bc_ HB.out hx177_4;replace p177:=eq_true p177;replace q177:=eq_true q177
             go_wp2_with (first|((with_reducible refine gate_dst (N:=6) rfl ?_);refine box_event ?hg (N:=6) ?hd (cs:=#[.int .i64 0,.int .i64 0,.int .i64 0,.int .i64 0,.int .i64 0]) (t:=37) ?hr ?_;(case hd=>rfl);(case hg=>rfl);(case hr=>first|(go_simp;done)|(go_simp;rfl));intro gb178 hg w45 hbox hb;replace HO_4:=ak (Kd.R_below (kr_ HO_4.out) hb);have BK178:=ak (hbox);have GW178:=ak ((bz_ hg (lb1_ HB.out GE167.out)));have GE178:=ak ((bz_ hg (lb1_ HB.out GE167.out)));replace HB:=ak (below_step (lb1_ HB.out GE167.out) hb);have NB167_178:=ak (nl_ hg BK167.out);have NB178_167:=ak (ng_ hg BK167.out);replace BK167:=ak (bb_ (bk_ BK167.out) hb);clear hb hbox hg;have hnb46:=NB178_167.out;have hnc46:=NB167_178.out;obtain ⟨hcz47_0,hcz47_1,hcz47_2,hcz47_3,hcz47_4⟩:=cz5_ BK178.out;obtain ⟨hfz47_0,hfz47_1,hfz47_2,hfz47_3,hfz47_4⟩:=fz5_ BK178.out;obtain ⟨hcz48_0,hcz48_1,hcz48_2,hcz48_3,hcz48_4⟩:=cz5_ BK167.out;obtain ⟨hfz48_0,hfz48_1,hfz48_2,hfz48_3,hfz48_4⟩:=fz5_ BK167.out;have p179:0 <= (((rd_T37 l0_0 x16_2).f0):Int):=dt_;have q179:((rd_T37 l0_0 x16_2).f0) < (l0_1.length:Int):=dt_;obtain ⟨ad179,e179,hx179_0⟩:=Kd.at_bool HR0_1.out ((rd_T37 l0_0 x16_2).f0) p179 q179;(try rw [<- Nbq19.out] at hx179_0);cases e179;have hn179_0:ad179.block ≠ gb178:=Nat.ne_of_lt (Nat.lt_of_lt_of_le (by have:=World.block_lt_of_cell? _ _ hx179_0;first|rwa [add_block] at this|exact this) GW178.out);have hn179_1:ad179.block ≠ gb178:=Nat.ne_of_lt (Nat.lt_of_lt_of_le (by have:=World.block_lt_of_cell? _ _ hx179_0;first|rwa [add_block] at this|exact this) GW178.out);have hn179_2:ad179.block ≠ gb178:=Nat.ne_of_lt (Nat.lt_of_lt_of_le (by have:=World.block_lt_of_cell? _ _ hx179_0;first|rwa [add_block] at this|exact this) GW178.out);have hn179_3:ad179.block ≠ gb178:=Nat.ne_of_lt (Nat.lt_of_lt_of_le (by have:=World.block_lt_of_cell? _ _ hx179_0;first|rwa [add_block] at this|exact this) GW178.out);have hn179_4:ad179.block ≠ gb178:=Nat.ne_of_lt (Nat.lt_of_lt_of_le (by have:=World.block_lt_of_cell? _ _ hx179_0;first|rwa [add_block] at this|exact this) GW178.out);replace hx179_0:=bc_ HB.out hx179_0;replace hx179_0:=(cell_far (p:=⟨gb178,0,none⟩) (by first|(rw [add_block];exact hn179_0)|(show (Addr.add _ _).block ≠ _;rw [add_block];exact hn179_0)|exact hn179_0) (.int .i64 ((rd_T37 l0_0 x16_2).f0))).trans hx179_0;replace hx179_0:=(cell_far (p:=⟨gb178,1,none⟩) (by first|(rw [add_block];exact hn179_1)|(show (Addr.add _ _).block ≠ _;rw [add_block];exact hn179_1)|exact hn179_1) (.int .i64 ((rd_T37 l0_0 x16_2).f1))).trans hx179_0;replace hx179_0:=(cell_far (p:=⟨gb178,2,none⟩) (by first|(rw [add_block];exact hn179_2)|(show (Addr.add _ _).block ≠ _;rw [add_block];exact hn179_2)|exact hn179_2) (.int .i64 ((rd_T37 l0_0 x16_2).f2))).trans hx179_0;replace hx179_0:=(cell_far (p:=⟨gb178,3,none⟩) (by first|(rw [add_block];exact hn179_3)|(show (Addr.add _ _).block ≠ _;rw [add_block];exact hn179_3)|exact hn179_3) (.int .i64 ((rd_T37 l0_0 x16_2).f3))).trans hx179_0;replace hx179_0:=(cell_far (p:=⟨gb178,4,none⟩) (by first|(rw [add_block];exact hn179_4)|(show (Addr.add _ _).block ≠ _;rw [add_block];exact hn179_4)|exact hn179_4) (.int .i64 ((rd_T37 l0_0 x16_2).f4))).trans hx179_0;clear hn179_0;clear hn179_1;clear hn179_2;clear hn179_3;clear hn179_4;replace p179:=eq_true p179;replace q179:=eq_true q179))
             (try simp only [<- hl4_2])
             go_roundg k2
             case measure=>have:=HK1.out;have:=HK2.out;omega
             case rel=>exact ⟨(x4_2),(wrap64 (x16_2 + 1)),(by first|rfl|(simp;done)|(simp [*];done)),H',⟨by have:=HK1.out;have:=HK2.out;omega⟩,⟨by (try simp only [hl4_1]);(try simp only [hl4_2]);(with_reducible repeat (first|apply Kd.R_alloc|apply Kd.R_drewN|apply Kd.R_drew));exact Kd.R_mono (Kd.R_far (p:=⟨gb178,4,none⟩) (Kd.R_far (p:=⟨gb178,3,none⟩) (Kd.R_far (p:=⟨gb178,2,none⟩) (Kd.R_far (p:=⟨gb178,1,none⟩) (Kd.R_far (p:=⟨gb178,0,none⟩) (Kd.R_types HO_4.out BK178.out (by decide)) (fun _ hk=>hk.2) (.int .i64 ((rd_T37 l0_0 x16_2).f0))) (fun _ hk=>hk.2) (.int .i64 ((rd_T37 l0_0 x16_2).f1))) (fun _ hk=>hk.2) (.int .i64 ((rd_T37 l0_0 x16_2).f2))) (fun _ hk=>hk.2) (.int .i64 ((rd_T37 l0_0 x16_2).f3))) (fun _ hk=>hk.2) (.int .i64 ((rd_T37 l0_0 x16_2).f4))) (fun _ hk=>trivial)⟩,⟨by (try simp only [hl4_1]);(try simp only [hl4_2]);(with_reducible repeat (first|refine blk_drewN ?_ _|refine blk_drew ?_|refine blk_alloc ?_ _));refine blk_far ?_ NB167_178.out _;(with_reducible repeat (first|refine blk_drewN ?_ _|refine blk_drew ?_|refine blk_alloc ?_ _));refine blk_far ?_ NB167_178.out _;(with_reducible repeat (first|refine blk_drewN ?_ _|refine blk_drew ?_|refine blk_alloc ?_ _));refine blk_far ?_ NB167_178.out _;(with_reducible repeat (first|refine blk_drewN ?_ _|refine blk_drew ?_|refine blk_alloc ?_ _));refine blk_far ?_ NB167_178.out _;(with_reducible repeat (first|refine blk_drewN ?_ _|refine blk_drew ?_|refine blk_alloc ?_ _));refine blk_far ?_ NB167_178.out _;(with_reducible repeat (first|refine blk_drewN ?_ _|refine blk_drew ?_|refine blk_alloc ?_ _));exact BK167.out⟩,⟨lb2_ HB.out GE167.out GE178.out⟩⟩
           .
            rw [if_neg c18] at H
            exact absurd H (by simp)
          .
           rw [if_neg c17] at H
           exact absurd H (by simp)
         .
          rw [if_neg c16] at H
          exact absurd H (by simp)
        .
         rw [if_neg c15] at H
         exact absurd H (by simp)
       .
        rw [if_neg c14] at H
        have c14b0:decide (x16_2 < (l0_0.length:Int)) = false:=decide_eq_false c14;clear c14;have H':=ak H;clear H
        go_wp2
        (try simp only [<- hl4_1,<- hl4_2])
        go_roundg k2
        case measure=>have:=HK1.out;have:=HK2.out;omega
        case rel=>exact ⟨(x4_2),(wrap64 (x11_1 + 1)),(by first|rfl|(simp;done)|(simp [*];done)),H',⟨by have:=HK1.out;have:=HK2.out;omega⟩,⟨by (try simp only [hl4_1]);(try simp only [hl4_2]);(with_reducible repeat (first|apply Kd.R_alloc|apply Kd.R_drewN|apply Kd.R_drew));exact HO_4.out⟩,⟨by (try simp only [hl4_1]);(try simp only [hl4_2]);(with_reducible repeat (first|refine blk_drewN ?_ _|refine blk_drew ?_|refine blk_alloc ?_ _));exact BK167.out⟩,⟨lb1_ HB.out GE167.out⟩⟩
    .
     rw [if_neg c12] at H
     have c12b0:decide (x11_1 < 8) = false:=decide_eq_false c12
     clear c12
     by_cases c49:0 <= a0_3
     .
      rw [if_pos c49] at H
      have c49b0:decide (0 <= a0_3) = true:=decide_eq_true c49
      clear c49
      by_cases c50:a0_3 < (x4_1.length:Int)
      .
       rw [if_pos c50] at H
       have c50b0:decide (a0_3 < (x4_1.length:Int)) = true:=decide_eq_true c50
       clear c50
       simp only [Option.some.injEq,Prod.mk.injEq] at H
       obtain ⟨rfl,rfl⟩:=H
       try go_wp2
       replace HO_4:=ak (Kd.R_drew HO_4.out)
       replace BK167:=ak (blk_drew BK167.out)
       replace HB:=ak (below_drew1 HB.out)
       have p175:0 <= (a0_3:Int):=dt_
       have q175:a0_3 < (x4_1.length:Int):=dt_
       obtain ⟨ad175,e175,hx175_0⟩:=Kd.at_int (Kd.R_reads' HO_4.out).2.2 a0_3 p175 q175
       obtain rfl:(⟨go4,0,none⟩:Addr) = ad175:=(by injection e175)
       (first|simp only [add_plain] at hx175_0|simp only [add_at] at hx175_0|simp only [Addr.add,Nat.zero_add] at hx175_0|skip)
       replace p175:=eq_true p175
       replace q175:=eq_true q175
       have p176:0 <= (a0_3:Int):=dt_
       have q176:a0_3 < (x4_1.length:Int):=dt_
       obtain ⟨ad176,e176,hx176_0⟩:=Kd.at_int (Kd.R_reads' HO_4.out).2.2 a0_3 p176 q176
       obtain rfl:(⟨go4,0,none⟩:Addr) = ad176:=(by injection e176)
       (first|simp only [add_plain] at hx176_0|simp only [add_at] at hx176_0|simp only [Addr.add,Nat.zero_add] at hx176_0|skip)
       replace p176:=eq_true p176
       replace q176:=eq_true q176
       refine start_ (n:=13) (S:=fun w'=>w'.cell? ⟨gb167,0,none⟩ = some (.slice A0_0 l0_0.length c0_0) /\ w'.cell? ⟨gb167,1,none⟩ = some (.slice A0_1 l0_1.length c0_1) /\ w'.cell? ⟨gb167,2,none⟩ = some (.slice A0_2 l0_2.length c0_2) /\ w'.cell? ⟨gb167,3,none⟩ = some (.int .i64 a0_3) /\ w'.cell? ⟨gb167,4,none⟩ = some (.int .i64 a0_4) /\ w'.cell? ⟨go4,(a0_3).toNat,none⟩ = some (.int .i64 (rd x4_1 a0_3)) /\ w'.cell? ⟨go4,(a0_3).toNat,none⟩ = some (.int .i64 (rd x4_1 a0_3))) (ds:=[]) impl_Exploration_wayOut.mk20 (by kernel_rfl) rfl rfl ⟨(blk_cell BK167.out 0).trans rfl,(blk_cell BK167.out 1).trans rfl,(blk_cell BK167.out 2).trans rfl,(blk_cell BK167.out 3).trans rfl,(blk_cell BK167.out 4).trans rfl,hx175_0,hx176_0⟩ (fun hHeld=>?_);refine with_tabW impl_Exploration_wayOut.tab13 impl_Exploration_wayOut.bits13 (fun HT_ HW_=>?_)
       generalize wr.drew = w51 at HO_4 BK167 HB hx175_0 hx176_0 hHeld ⊢
       refine pz_ HT_ 0 (some 72) impl_Exploration_wayOut.mk21 ?_
       refine pz_ HT_ 1 (some 73) impl_Exploration_wayOut.mk22 ?_
       refine pz_ HT_ 5 (some 77) impl_Exploration_wayOut.mk23 ?_
       refine pz_ HT_ 6 (some 78) impl_Exploration_wayOut.mk24 ?_
       refine tk_ HT_ HW_ hHeld 2 (some 74) impl_Exploration_wayOut.mk25 ?_
       refine pz_ HT_ 3 (some 75) impl_Exploration_wayOut.mk26 ?_
       refine tk_ HT_ HW_ hHeld 4 (some 76) impl_Exploration_wayOut.mk27 ?_
       refine pz_ HT_ 11 (some 2) impl_Exploration_wayOut.mk28 ?_
       refine tk_ HT_ HW_ hHeld 7 (some 79) impl_Exploration_wayOut.mk29 ?_
       refine pz_ HT_ 8 (some 80) impl_Exploration_wayOut.mk30 ?_
       refine tk_ HT_ HW_ hHeld 9 (some 81) impl_Exploration_wayOut.mk31 ?_
       refine pz_ HT_ 10 (some 82) impl_Exploration_wayOut.mk32 ?_
       refine pz_ HT_ 12 (some 3) impl_Exploration_wayOut.mk33 ?_
       refine done_ (done_of HT_.out (by kernel_rfl)) ?_
       try go_wp2
       go_ret2
       exact ⟨rr_,lb1_ HB.out GE167.out⟩
      .
       rw [if_neg c50] at H
       exact absurd H (by simp)
     .
      rw [if_neg c49] at H
      exact absurd H (by simp)
 .
  rw [if_neg c3] at H
  exact absurd H (by simp)
def impl_IsExploration.j0:Nat -> Bool -> List (S37) -> List Bool -> List Bool -> Int -> Int -> Option (Bool)
 | 0,_,_,_,_,_,_=>none
 | k + 1,x32,x188000,x188001,x188002,x188003,x188004=>if x32 = true then (some false) else (if 0 < (x188001.length:Int) then (if rdOf false x188001 0 = true then (if 0 <= x188003 then (if x188003 < (x188001.length:Int) then (if rdOf false x188001 x188003 = true then ((impl_Exploration_wayOut.f k x188000 x188001 x188002 x188003 x188004).bind fun bt193=>(if bt193.2 = true then (some (decide (bt193.1 <= x188004))) else (some false))) else (some false)) else (none)) else (none)) else (some false)) else (none))
def impl_IsExploration.f (k:Nat) (l0_0:List (S37)) (l0_1:List Bool) (l0_2:List Bool) (a0_3:Int) (a0_4:Int):Option (Bool):=(impl_areLegs.f k l0_0).bind fun t188=>(if t188 = true then (if (l0_1.length:Int) = 8 then (if (l0_2.length:Int) = 8 then ((impl_isStation.f a0_3).bind fun t189=>(if t189 = true then ((impl_within.f a0_4 0 100000).bind fun t190=>(impl_IsExploration.j0 k (!t190) l0_0 l0_1 l0_2 a0_3 a0_4)) else (impl_IsExploration.j0 k true l0_0 l0_1 l0_2 a0_3 a0_4))) else (impl_IsExploration.j0 k true l0_0 l0_1 l0_2 a0_3 a0_4)) else (impl_IsExploration.j0 k true l0_0 l0_1 l0_2 a0_3 a0_4)) else (impl_IsExploration.j0 k true l0_0 l0_1 l0_2 a0_3 a0_4))
theorem impl_IsExploration.mono_l:∀ k,(∀ y0 y1 y2 y3 y4 y5,LeO (impl_IsExploration.j0 k y0 y1 y2 y3 y4 y5) (impl_IsExploration.j0 (k + 1) y0 y1 y2 y3 y4 y5))
 | 0=>fun _ _ _ _ _ _ r h=>by simp [impl_IsExploration.j0] at h
 | k + 1=>by
  have ih0:=impl_IsExploration.mono_l k
  .
   intro y0 y1 y2 y3 y4 y5
   unfold impl_IsExploration.j0
   repeat' first
   | (with_reducible exact ih0 _ _ _ _ _ _)
   | (with_reducible exact impl_Exploration_wayOut.mono _ _ _ _ _ _)
   | (with_reducible exact impl_areLegs.mono _ _)
   | (with_reducible exact LeO.refl _)
   | (with_reducible exact LeO.none _)
   | (with_reducible refine LeO.ite ?_ ?_)
   | (with_reducible refine LeO.bind ?_ (fun _=>?_))
   | exact ih0 _ _ _ _ _ _
   | exact impl_Exploration_wayOut.mono _ _ _ _ _ _
   | exact impl_areLegs.mono _ _
   | exact LeO.none _
   | refine LeO.ite ?_ ?_
   | refine LeO.bind ?_ (fun _=>?_)
theorem impl_IsExploration.mono:∀ a0 a1 a2 a3 a4 k,LeO (impl_IsExploration.f k a0 a1 a2 a3 a4) (impl_IsExploration.f (k + 1) a0 a1 a2 a3 a4):=by
 intro a0 a1 a2 a3 a4 k
 have ih0:=impl_IsExploration.mono_l k
 unfold impl_IsExploration.f
 repeat' first
   | (with_reducible exact ih0 _ _ _ _ _ _)
   | (with_reducible exact impl_Exploration_wayOut.mono _ _ _ _ _ _)
   | (with_reducible exact impl_areLegs.mono _ _)
   | (with_reducible exact LeO.refl _)
   | (with_reducible exact LeO.none _)
   | (with_reducible refine LeO.ite ?_ ?_)
   | (with_reducible refine LeO.bind ?_ (fun _=>?_))
   | exact ih0 _ _ _ _ _ _
   | exact impl_Exploration_wayOut.mono _ _ _ _ _ _
   | exact impl_areLegs.mono _ _
   | exact LeO.none _
   | refine LeO.ite ?_ ?_
   | refine LeO.bind ?_ (fun _=>?_)
theorem impl_IsExploration.calls (k:Nat) (A0_0:Option Addr) (c0_0:Nat) (l0_0:List (S37)) (A0_1:Option Addr) (c0_1:Nat) (l0_1:List Bool) (A0_2:Option Addr) (c0_2:Nat) (l0_2:List Bool) (a0_3:Int) (a0_4:Int) (r:Bool) (w:World) (hr0_0:Kd.C k37 w A0_0 l0_0.length l0_0) (hc0_0:l0_0.length <= c0_0) (hr0_1:Kd.C Kd.bool w A0_1 l0_1.length l0_1) (hc0_1:l0_1.length <= c0_1) (hr0_2:Kd.C Kd.bool w A0_2 l0_2.length l0_2) (hc0_2:l0_2.length <= c0_2) (h:impl_IsExploration.f k l0_0 l0_1 l0_2 a0_3 a0_4 = some r) :
  Calls Try.prog 18 #[.agg #[.slice A0_0 l0_0.length c0_0,.slice A0_1 l0_1.length c0_1,.slice A0_2 l0_2.length c0_2,.int .i64 a0_3,.int .i64 a0_4]] w fun e w'=>e = .returned (.bool r) /\ Below w.heap.size w w':=by
 have hu30:=Try.underlying30
 have HR0_0:=ak hr0_0
 have HC0_0:=ak hc0_0
 clear hr0_0 hc0_0
 have HR0_1:=ak hr0_1
 have HC0_1:=ak hc0_1
 clear hr0_1 hc0_1
 have HR0_2:=ak hr0_2
 have HC0_2:=ak hc0_2
 clear hr0_2 hc0_2
 have HB:=ak (Below.refl w.heap.size w)
 have H:((impl_areLegs.f k l0_0).bind fun t188=>(if t188 = true then (if (l0_1.length:Int) = 8 then (if (l0_2.length:Int) = 8 then ((impl_isStation.f a0_3).bind fun t189=>(if t189 = true then ((impl_within.f a0_4 0 100000).bind fun t190=>(impl_IsExploration.j0 k (!t190) l0_0 l0_1 l0_2 a0_3 a0_4)) else (impl_IsExploration.j0 k true l0_0 l0_1 l0_2 a0_3 a0_4))) else (impl_IsExploration.j0 k true l0_0 l0_1 l0_2 a0_3 a0_4)) else (impl_IsExploration.j0 k true l0_0 l0_1 l0_2 a0_3 a0_4)) else (impl_IsExploration.j0 k true l0_0 l0_1 l0_2 a0_3 a0_4))) = some r:=h
 clear h
 have HC2:=ak H
 clear H
 go_enter Try.func18,Try.ntmps18
 go_upto_region 1 with (first|((with_reducible refine gate_dst (N:=1) rfl ?_);(try (refine gate_guard (by rfl) ?_;dsimp only));refine box_event ?hg (N:=1) ?hd (cs:=#[.slice A0_0 l0_0.length c0_0,.slice A0_1 l0_1.length c0_1,.slice A0_2 l0_2.length c0_2,.int .i64 a0_3,.int .i64 a0_4]) (t:=30) ?hr ?_;(case hd=>rfl);(case hg=>rfl);(case hr=>first|(go_simp;done)|(go_simp;rfl));intro gb187 hg w3 hbox hb;have BK187:=ak (hbox);have GW187:=ak ((bz_ hg (lb0_ HB.out)));have GE187:=ak ((bz_ hg (lb0_ HB.out)));replace HB:=ak (below_step (lb0_ HB.out) hb);clear hb hbox hg))
 (try simp only [Act.put,List.setIfInBounds_toArray,List.set_cons_zero,List.set_cons_succ])
 go_cut [32] (fun v32 wc=>∃ (kq:Nat) (x32_1:Bool),v32 = .bool x32_1 /\ Aside0 (impl_IsExploration.j0 kq x32_1 l0_0 l0_1 l0_2 a0_3 a0_4 = some r) /\ Aside0 (kq <= k) /\ Aside0 (wc.heap[gb187]? = some (.cells #[(.slice A0_0 l0_0.length c0_0),(.slice A0_1 l0_1.length c0_1),(.slice A0_2 l0_2.length c0_2),.int .i64 a0_3,.int .i64 a0_4] 30 (0,0))) /\ Aside0 (Below w.heap.size w wc))
 case first=>
  have H:=HC2.out
  clear HC2
  replace H:=Option.bind_eq_some_iff.mp H
  obtain ⟨t188,A40,H⟩:=H
  replace H:(if t188 = true then (if (l0_1.length:Int) = 8 then (if (l0_2.length:Int) = 8 then ((impl_isStation.f a0_3).bind fun t189=>(if t189 = true then ((impl_within.f a0_4 0 100000).bind fun t190=>(impl_IsExploration.j0 k (!t190) l0_0 l0_1 l0_2 a0_3 a0_4)) else (impl_IsExploration.j0 k true l0_0 l0_1 l0_2 a0_3 a0_4))) else (impl_IsExploration.j0 k true l0_0 l0_1 l0_2 a0_3 a0_4)) else (impl_IsExploration.j0 k true l0_0 l0_1 l0_2 a0_3 a0_4)) else (impl_IsExploration.j0 k true l0_0 l0_1 l0_2 a0_3 a0_4)) = some r:=H
  have A4:=ak A40
  clear A40
  by_cases c5:t188 = true
  .
   subst c5
   have H1:(if (l0_1.length:Int) = 8 then (if (l0_2.length:Int) = 8 then ((impl_isStation.f a0_3).bind fun t189=>(if t189 = true then ((impl_within.f a0_4 0 100000).bind fun t190=>(impl_IsExploration.j0 k (!t190) l0_0 l0_1 l0_2 a0_3 a0_4)) else (impl_IsExploration.j0 k true l0_0 l0_1 l0_2 a0_3 a0_4))) else (impl_IsExploration.j0 k true l0_0 l0_1 l0_2 a0_3 a0_4)) else (impl_IsExploration.j0 k true l0_0 l0_1 l0_2 a0_3 a0_4)) = some r:=by rw [if_pos rfl] at H;exact H
   clear H
   have H:=H1
   clear H1
   by_cases c6:(l0_1.length:Int) = 8
   .
    rw [if_pos c6] at H
    have c6b0:((l0_1.length:Int) == 8) = true:=beq_iff_eq.mpr c6
    have c6b1:((l0_1.length:Int) != 8) = false:=bne_eq_false_iff_eq.mpr c6
    clear c6
    (first|rw [c6b0]|(simp only [i64_w,i32_w];rw [c6b0])|skip)
    by_cases c7:(l0_2.length:Int) = 8
    .
     rw [if_pos c7] at H
     have c7b0:((l0_2.length:Int) == 8) = true:=beq_iff_eq.mpr c7
     have c7b1:((l0_2.length:Int) != 8) = false:=bne_eq_false_iff_eq.mpr c7
     clear c7
     replace H:=Option.bind_eq_some_iff.mp H
     obtain ⟨t189,A80,H⟩:=H
     replace H:(if t189 = true then ((impl_within.f a0_4 0 100000).bind fun t190=>(impl_IsExploration.j0 k (!t190) l0_0 l0_1 l0_2 a0_3 a0_4)) else (impl_IsExploration.j0 k true l0_0 l0_1 l0_2 a0_3 a0_4)) = some r:=H
     have A8:=ak A80
     clear A80
     by_cases c9:t189 = true
     .
      subst c9
      have H1:((impl_within.f a0_4 0 100000).bind fun t190=>(impl_IsExploration.j0 k (!t190) l0_0 l0_1 l0_2 a0_3 a0_4)) = some r:=by rw [if_pos rfl] at H;exact H
      clear H
      have H:=H1
      clear H1
      replace H:=Option.bind_eq_some_iff.mp H
      obtain ⟨t190,A100,H⟩:=H
      replace H:(impl_IsExploration.j0 k (!t190) l0_0 l0_1 l0_2 a0_3 a0_4) = some r:=H
      have A10:=ak A100
      clear A100
      have H':=ak H
      clear H
      obtain ⟨hcz11_0,hcz11_1,hcz11_2,hcz11_3,hcz11_4⟩:=cz5_ BK187.out
      obtain ⟨hfz11_0,hfz11_1,hfz11_2,hfz11_3,hfz11_4⟩:=fz5_ BK187.out
      go_wp2_with (first|((with_reducible refine gate_callee (f:=69) rfl ?_);refine ga_ (some 7) Try.func69 #[.slice A0_0 l0_0.length c0_0] ?_;(with_reducible refine (impl_areLegs.calls k _ _ l0_0 true _ ?side1 ?side2 A4.out).mono ?_);(case side1=>exact kc_ (Kd.C_below HR0_0.out HB.out));(case side2=>exact HC0_0.out);rintro e w12 ⟨rfl,hb⟩;refine ⟨_,rfl,?_⟩;replace BK187:=ak (bb_ (bk_ BK187.out) hb);replace HB:=ak (below_step (lb1_ HB.out GE187.out) hb);(try clear hb);(try clear hb2);(try clear hk);(try clear hi);obtain ⟨hcz13_0,hcz13_1,hcz13_2,hcz13_3,hcz13_4⟩:=cz5_ BK187.out;obtain ⟨hfz13_0,hfz13_1,hfz13_2,hfz13_3,hfz13_4⟩:=fz5_ BK187.out)|(go_at_call 70;(with_reducible refine (impl_isStation.calls a0_3 true _ A8.out).mono ?_);rintro e w' ⟨rfl,⟨nd,rfl⟩⟩)|(go_at_call 71;(with_reducible refine (impl_within.calls a0_4 0 100000 t190 _ A10.out).mono ?_);rintro e w' ⟨rfl,⟨nd,rfl⟩⟩))
      go_meet
      case rel=>exact ⟨_,(!t190),(by first|rfl|(simp;done)|(simp [*];done)),H',⟨by first|omega|exact Nat.le_refl _⟩,⟨bk_ BK187.out⟩,⟨lb1_ HB.out GE187.out⟩⟩
     .
      replace c9:=Bool.eq_false_iff.mpr c9
      subst c9
      have H1:(impl_IsExploration.j0 k true l0_0 l0_1 l0_2 a0_3 a0_4) = some r:=by rw [if_neg (show ¬ (false = true) by decide)] at H;exact H
      clear H
      have H:=H1
      clear H1
      have H':=ak H
      clear H
      obtain ⟨hcz14_0,hcz14_1,hcz14_2,hcz14_3,hcz14_4⟩:=cz5_ BK187.out
      obtain ⟨hfz14_0,hfz14_1,hfz14_2,hfz14_3,hfz14_4⟩:=fz5_ BK187.out
      go_wp2_with (first|((with_reducible refine gate_callee (f:=69) rfl ?_);refine ga_ (some 7) Try.func69 #[.slice A0_0 l0_0.length c0_0] ?_;(with_reducible refine (impl_areLegs.calls k _ _ l0_0 true _ ?side1 ?side2 A4.out).mono ?_);(case side1=>exact kc_ (Kd.C_below HR0_0.out HB.out));(case side2=>exact HC0_0.out);rintro e w15 ⟨rfl,hb⟩;refine ⟨_,rfl,?_⟩;replace BK187:=ak (bb_ (bk_ BK187.out) hb);replace HB:=ak (below_step (lb1_ HB.out GE187.out) hb);(try clear hb);(try clear hb2);(try clear hk);(try clear hi);obtain ⟨hcz16_0,hcz16_1,hcz16_2,hcz16_3,hcz16_4⟩:=cz5_ BK187.out;obtain ⟨hfz16_0,hfz16_1,hfz16_2,hfz16_3,hfz16_4⟩:=fz5_ BK187.out)|(go_at_call 70;(with_reducible refine (impl_isStation.calls a0_3 false _ A8.out).mono ?_);rintro e w' ⟨rfl,⟨nd,rfl⟩⟩))
      go_meet
      case rel=>exact ⟨_,(true),(by first|rfl|(simp;done)|(simp [*];done)),H',⟨by first|omega|exact Nat.le_refl _⟩,⟨bk_ BK187.out⟩,⟨lb1_ HB.out GE187.out⟩⟩
    .
     rw [if_neg c7] at H
     have c7b0:((l0_2.length:Int) == 8) = false:=beq_eq_false_iff_ne.mpr c7
     have c7b1:((l0_2.length:Int) != 8) = true:=bne_iff_ne.mpr c7
     have H':=ak H
     clear H
     obtain ⟨hcz17_0,hcz17_1,hcz17_2,hcz17_3,hcz17_4⟩:=cz5_ BK187.out
     obtain ⟨hfz17_0,hfz17_1,hfz17_2,hfz17_3,hfz17_4⟩:=fz5_ BK187.out
     go_wp2_with (first|((with_reducible refine gate_callee (f:=69) rfl ?_);refine ga_ (some 7) Try.func69 #[.slice A0_0 l0_0.length c0_0] ?_;(with_reducible refine (impl_areLegs.calls k _ _ l0_0 true _ ?side1 ?side2 A4.out).mono ?_);(case side1=>exact kc_ (Kd.C_below HR0_0.out HB.out));(case side2=>exact HC0_0.out);rintro e w18 ⟨rfl,hb⟩;refine ⟨_,rfl,?_⟩;replace BK187:=ak (bb_ (bk_ BK187.out) hb);replace HB:=ak (below_step (lb1_ HB.out GE187.out) hb);(try clear hb);(try clear hb2);(try clear hk);(try clear hi);obtain ⟨hcz19_0,hcz19_1,hcz19_2,hcz19_3,hcz19_4⟩:=cz5_ BK187.out;obtain ⟨hfz19_0,hfz19_1,hfz19_2,hfz19_3,hfz19_4⟩:=fz5_ BK187.out))
     go_meet
     case rel=>exact ⟨_,(true),(by first|rfl|(simp;done)|(simp [*];done)),H',⟨by first|omega|exact Nat.le_refl _⟩,⟨bk_ BK187.out⟩,⟨lb1_ HB.out GE187.out⟩⟩
   .
    rw [if_neg c6] at H
    have c6b0:((l0_1.length:Int) == 8) = false:=beq_eq_false_iff_ne.mpr c6
    have c6b1:((l0_1.length:Int) != 8) = true:=bne_iff_ne.mpr c6
    (first|rw [c6b0]|(simp only [i64_w,i32_w];rw [c6b0])|skip)
    have H':=ak H
    clear H
    obtain ⟨hcz20_0,hcz20_1,hcz20_2,hcz20_3,hcz20_4⟩:=cz5_ BK187.out
    obtain ⟨hfz20_0,hfz20_1,hfz20_2,hfz20_3,hfz20_4⟩:=fz5_ BK187.out
    go_wp2_with (first|((with_reducible refine gate_callee (f:=69) rfl ?_);refine ga_ (some 7) Try.func69 #[.slice A0_0 l0_0.length c0_0] ?_;(with_reducible refine (impl_areLegs.calls k _ _ l0_0 true _ ?side1 ?side2 A4.out).mono ?_);(case side1=>exact kc_ (Kd.C_below HR0_0.out HB.out));(case side2=>exact HC0_0.out);rintro e w21 ⟨rfl,hb⟩;refine ⟨_,rfl,?_⟩;replace BK187:=ak (bb_ (bk_ BK187.out) hb);replace HB:=ak (below_step (lb1_ HB.out GE187.out) hb);(try clear hb);(try clear hb2);(try clear hk);(try clear hi);obtain ⟨hcz22_0,hcz22_1,hcz22_2,hcz22_3,hcz22_4⟩:=cz5_ BK187.out;obtain ⟨hfz22_0,hfz22_1,hfz22_2,hfz22_3,hfz22_4⟩:=fz5_ BK187.out))
    go_meet
    case rel=>exact ⟨_,(true),(by first|rfl|(simp;done)|(simp [*];done)),H',⟨by first|omega|exact Nat.le_refl _⟩,⟨bk_ BK187.out⟩,⟨lb1_ HB.out GE187.out⟩⟩
  .
   replace c5:=Bool.eq_false_iff.mpr c5
   subst c5
   have H1:(impl_IsExploration.j0 k true l0_0 l0_1 l0_2 a0_3 a0_4) = some r:=by rw [if_neg (show ¬ (false = true) by decide)] at H;exact H
   clear H
   have H:=H1
   clear H1
   have H':=ak H
   clear H
   obtain ⟨hcz23_0,hcz23_1,hcz23_2,hcz23_3,hcz23_4⟩:=cz5_ BK187.out
   obtain ⟨hfz23_0,hfz23_1,hfz23_2,hfz23_3,hfz23_4⟩:=fz5_ BK187.out
   go_wp2_with (first|((with_reducible refine gate_callee (f:=69) rfl ?_);refine ga_ (some 7) Try.func69 #[.slice A0_0 l0_0.length c0_0] ?_;(with_reducible refine (impl_areLegs.calls k _ _ l0_0 false _ ?side1 ?side2 A4.out).mono ?_);(case side1=>exact kc_ (Kd.C_below HR0_0.out HB.out));(case side2=>exact HC0_0.out);rintro e w24 ⟨rfl,hb⟩;refine ⟨_,rfl,?_⟩;replace BK187:=ak (bb_ (bk_ BK187.out) hb);replace HB:=ak (below_step (lb1_ HB.out GE187.out) hb);(try clear hb);(try clear hb2);(try clear hk);(try clear hi)))
   go_meet
   case rel=>exact ⟨_,(true),(by first|rfl|(simp;done)|(simp [*];done)),H',⟨by first|omega|exact Nat.le_refl _⟩,⟨bk_ BK187.out⟩,⟨lb1_ HB.out GE187.out⟩⟩
 case rest=>
  clear HC2
  try clear c1
  try clear p2
  try clear c5
  try clear c6
  try clear c6b0
  try clear c6b1
  try clear c7
  try clear c7b0
  try clear c7b1
  try clear c9
  try clear c18
  try clear hcz11_0 hcz11_1 hcz11_2 hcz11_3 hcz11_4
  try clear hcz13_0 hcz13_1 hcz13_2 hcz13_3 hcz13_4
  try clear hcz14_0 hcz14_1 hcz14_2 hcz14_3 hcz14_4
  try clear hcz16_0 hcz16_1 hcz16_2 hcz16_3 hcz16_4
  try clear hcz17_0 hcz17_1 hcz17_2 hcz17_3 hcz17_4
  try clear hcz19_0 hcz19_1 hcz19_2 hcz19_3 hcz19_4
  try clear hcz20_0 hcz20_1 hcz20_2 hcz20_3 hcz20_4
  try clear hcz22_0 hcz22_1 hcz22_2 hcz22_3 hcz22_4
  try clear hcz23_0 hcz23_1 hcz23_2 hcz23_3 hcz23_4
  try clear hfz11_0 hfz11_1 hfz11_2 hfz11_3 hfz11_4
  try clear hfz13_0 hfz13_1 hfz13_2 hfz13_3 hfz13_4
  try clear hfz14_0 hfz14_1 hfz14_2 hfz14_3 hfz14_4
  try clear hfz16_0 hfz16_1 hfz16_2 hfz16_3 hfz16_4
  try clear hfz17_0 hfz17_1 hfz17_2 hfz17_3 hfz17_4
  try clear hfz19_0 hfz19_1 hfz19_2 hfz19_3 hfz19_4
  try clear hfz20_0 hfz20_1 hfz20_2 hfz20_3 hfz20_4
  try clear hfz22_0 hfz22_1 hfz22_2 hfz22_3 hfz22_4
  try clear hfz23_0 hfz23_1 hfz23_2 hfz23_3 hfz23_4
  obtain ⟨kq,x32_1,rfl,HA,HJ1,BK187,HB⟩:=hcut
  cases kq with
  | zero=>exact absurd HA.out (by simp [impl_IsExploration.j0])
  | succ kj1=>
   have H:=HA.out
   clear HA
   simp only [impl_IsExploration.j0] at H
   by_cases c25:x32_1 = true
   .
    subst c25
    have H1:(some false) = some r:=by rw [if_pos rfl] at H;exact H
    clear H
    have H:=H1
    clear H1
    obtain rfl:=Option.some.inj H
    go_wp2
    go_ret
    exact ⟨rr_,lb1_ HB.out GE187.out⟩
   .
    replace c25:=Bool.eq_false_iff.mpr c25
    subst c25
    have H1:(if 0 < (l0_1.length:Int) then (if rdOf false l0_1 0 = true then (if 0 <= a0_3 then (if a0_3 < (l0_1.length:Int) then (if rdOf false l0_1 a0_3 = true then ((impl_Exploration_wayOut.f kj1 l0_0 l0_1 l0_2 a0_3 a0_4).bind fun bt193=>(if bt193.2 = true then (some (decide (bt193.1 <= a0_4))) else (some false))) else (some false)) else (none)) else (none)) else (some false)) else (none)) = some r:=by rw [if_neg (show ¬ (false = true) by decide)] at H;exact H
    clear H
    have H:=H1
    clear H1
    by_cases c26:0 < (l0_1.length:Int)
    .
     rw [if_pos c26] at H
     have c26b0:decide (0 < (l0_1.length:Int)) = true:=decide_eq_true c26
     have c26b1:decide (0 < l0_1.length) = true:=decide_eq_true (by omega)
     clear c26
     obtain ⟨bq27,hbq27⟩:∃ b_:Bool,b_ = (rdOf false l0_1 0):=⟨_,rfl⟩
     replace H:(if bq27 = true then (if 0 <= a0_3 then (if a0_3 < (l0_1.length:Int) then (if rdOf false l0_1 a0_3 = true then ((impl_Exploration_wayOut.f kj1 l0_0 l0_1 l0_2 a0_3 a0_4).bind fun bt193=>(if bt193.2 = true then (some (decide (bt193.1 <= a0_4))) else (some false))) else (some false)) else (none)) else (none)) else (some false)) = some r:=by rw [<- hbq27] at H;exact H
     have Nbq27:=ak hbq27
     clear hbq27
     by_cases c28:bq27 = true
     .
      subst c28
      have H1:(if 0 <= a0_3 then (if a0_3 < (l0_1.length:Int) then (if rdOf false l0_1 a0_3 = true then ((impl_Exploration_wayOut.f kj1 l0_0 l0_1 l0_2 a0_3 a0_4).bind fun bt193=>(if bt193.2 = true then (some (decide (bt193.1 <= a0_4))) else (some false))) else (some false)) else (none)) else (none)) = some r:=by rw [if_pos rfl] at H;exact H
      clear H
      have H:=H1
      clear H1
      by_cases c29:0 <= a0_3
      .
       rw [if_pos c29] at H
       have c29b0:decide (0 <= a0_3) = true:=decide_eq_true c29
       clear c29
       by_cases c30:a0_3 < (l0_1.length:Int)
       .
        rw [if_pos c30] at H
        have c30b0:decide (a0_3 < (l0_1.length:Int)) = true:=decide_eq_true c30;clear c30
        obtain ⟨bq31,hbq31⟩:∃ b_:Bool,b_ = (rdOf false l0_1 a0_3):=⟨_,rfl⟩
        replace H:(if bq31 = true then ((impl_Exploration_wayOut.f kj1 l0_0 l0_1 l0_2 a0_3 a0_4).bind fun bt193=>(if bt193.2 = true then (some (decide (bt193.1 <= a0_4))) else (some false))) else (some false)) = some r:=by rw [<- hbq31] at H;exact H
        have Nbq31:=ak hbq31;clear hbq31
        by_cases c32:bq31 = true
        .
         subst c32
         have H1:((impl_Exploration_wayOut.f kj1 l0_0 l0_1 l0_2 a0_3 a0_4).bind fun bt193=>(if bt193.2 = true then (some (decide (bt193.1 <= a0_4))) else (some false))) = some r:=by rw [if_pos rfl] at H;exact H
         clear H;have H:=H1;clear H1;replace H:=Option.bind_eq_some_iff.mp H;obtain ⟨⟨t193,t194⟩,A330,H⟩:=H;replace H:(if t194 = true then (some (decide (t193 <= a0_4))) else (some false)) = some r:=H;have A33:=ak A330;clear A330
         by_cases c34:t194 = true
         .
          subst c34
          have H1:(some (decide (t193 <= a0_4))) = some r:=by rw [if_pos rfl] at H;exact H
          clear H;have H:=H1;clear H1;obtain rfl:=Option.some.inj H;obtain ⟨hcz35_0,hcz35_1,hcz35_2,hcz35_3,hcz35_4⟩:=cz5_ BK187.out;obtain ⟨hfz35_0,hfz35_1,hfz35_2,hfz35_3,hfz35_4⟩:=fz5_ BK187.out
          have p191:0 <= (0:Int):=(by omega)
          have q191:0 < (l0_1.length:Int):=dt_;obtain ⟨ad191,e191,hx191_0⟩:=Kd.at_bool HR0_1.out 0 p191 q191;(try rw [<- Nbq27.out] at hx191_0);(try rw [<- Nbq31.out] at hx191_0)
          cases e191
          have qi191:(0 < l0_1.length) = True:=eq_true (by omega);(try rw [show ((0:Int)).toNat = 0 from rfl] at hx191_0);(try rw [Addr.add_zero'] at hx191_0);replace hx191_0:=bc_ HB.out hx191_0;replace p191:=eq_true p191;replace q191:=eq_true q191;have p192:0 <= (a0_3:Int):=dt_;have q192:a0_3 < (l0_1.length:Int):=dt_;obtain ⟨ad192,e192,hx192_0⟩:=Kd.at_bool HR0_1.out a0_3 p192 q192;(try rw [<- Nbq27.out] at hx192_0);(try rw [<- Nbq31.out] at hx192_0)
          obtain rfl:ad191 = ad192:=(by injection e192)
          replace hx192_0:=bc_ HB.out hx192_0;replace p192:=eq_true p192;replace q192:=eq_true q192
          go_wp2_with (first|((with_reducible refine gate_callee (f:=72) rfl ?_);refine ga_ (some 49) Try.func72 #[.agg #[.slice A0_0 l0_0.length c0_0,.slice (some ad191) l0_1.length c0_1,.slice A0_2 l0_2.length c0_2,.int .i64 a0_3,.int .i64 a0_4]] ?_;(with_reducible refine (impl_Exploration_wayOut.calls kj1 _ _ l0_0 _ _ l0_1 _ _ l0_2 a0_3 a0_4 t193 true _ ?side1 ?side2 ?side3 ?side4 ?side5 ?side6 A33.out).mono ?_);(case side1=>exact kc_ (Kd.C_below HR0_0.out HB.out));(case side2=>exact HC0_0.out);(case side3=>exact kc_ (Kd.C_below HR0_1.out HB.out));(case side4=>exact HC0_1.out);(case side5=>exact kc_ (Kd.C_below HR0_2.out HB.out));(case side6=>exact HC0_2.out);rintro e w36 ⟨rfl,hb⟩;refine ⟨_,rfl,?_⟩;replace BK187:=ak (bb_ (bk_ BK187.out) hb);replace HB:=ak (below_step (lb1_ HB.out GE187.out) hb);(try clear hb);(try clear hb2);(try clear hk);(try clear hi);obtain ⟨hcz37_0,hcz37_1,hcz37_2,hcz37_3,hcz37_4⟩:=cz5_ BK187.out;obtain ⟨hfz37_0,hfz37_1,hfz37_2,hfz37_3,hfz37_4⟩:=fz5_ BK187.out))
          go_ret
          exact ⟨rr_,lb1_ HB.out GE187.out⟩
         .
          replace c34:=Bool.eq_false_iff.mpr c34;subst c34
          have H1:(some false) = some r:=by rw [if_neg (show ¬ (false = true) by decide)] at H;exact H
          clear H;have H:=H1;clear H1;obtain rfl:=Option.some.inj H;obtain ⟨hcz38_0,hcz38_1,hcz38_2,hcz38_3,hcz38_4⟩:=cz5_ BK187.out;obtain ⟨hfz38_0,hfz38_1,hfz38_2,hfz38_3,hfz38_4⟩:=fz5_ BK187.out
          have p191:0 <= (0:Int):=(by omega)
          have q191:0 < (l0_1.length:Int):=dt_;obtain ⟨ad191,e191,hx191_0⟩:=Kd.at_bool HR0_1.out 0 p191 q191;(try rw [<- Nbq27.out] at hx191_0);(try rw [<- Nbq31.out] at hx191_0)
          cases e191
          have qi191:(0 < l0_1.length) = True:=eq_true (by omega);(try rw [show ((0:Int)).toNat = 0 from rfl] at hx191_0);(try rw [Addr.add_zero'] at hx191_0);replace hx191_0:=bc_ HB.out hx191_0;replace p191:=eq_true p191;replace q191:=eq_true q191;have p192:0 <= (a0_3:Int):=dt_;have q192:a0_3 < (l0_1.length:Int):=dt_;obtain ⟨ad192,e192,hx192_0⟩:=Kd.at_bool HR0_1.out a0_3 p192 q192;(try rw [<- Nbq27.out] at hx192_0);(try rw [<- Nbq31.out] at hx192_0)
          obtain rfl:ad191 = ad192:=(by injection e192)
          replace hx192_0:=bc_ HB.out hx192_0;replace p192:=eq_true p192;replace q192:=eq_true q192
          go_wp2_with (first|((with_reducible refine gate_callee (f:=72) rfl ?_);refine ga_ (some 49) Try.func72 #[.agg #[.slice A0_0 l0_0.length c0_0,.slice (some ad191) l0_1.length c0_1,.slice A0_2 l0_2.length c0_2,.int .i64 a0_3,.int .i64 a0_4]] ?_;(with_reducible refine (impl_Exploration_wayOut.calls kj1 _ _ l0_0 _ _ l0_1 _ _ l0_2 a0_3 a0_4 t193 false _ ?side1 ?side2 ?side3 ?side4 ?side5 ?side6 A33.out).mono ?_);(case side1=>exact kc_ (Kd.C_below HR0_0.out HB.out));(case side2=>exact HC0_0.out);(case side3=>exact kc_ (Kd.C_below HR0_1.out HB.out));(case side4=>exact HC0_1.out);(case side5=>exact kc_ (Kd.C_below HR0_2.out HB.out));(case side6=>exact HC0_2.out);rintro e w39 ⟨rfl,hb⟩;refine ⟨_,rfl,?_⟩;replace BK187:=ak (bb_ (bk_ BK187.out) hb);replace HB:=ak (below_step (lb1_ HB.out GE187.out) hb);(try clear hb);(try clear hb2);(try clear hk);(try clear hi)))
          go_ret
          exact ⟨rr_,lb1_ HB.out GE187.out⟩
        .
         replace c32:=Bool.eq_false_iff.mpr c32;subst c32
         have H1:(some false) = some r:=by rw [if_neg (show ¬ (false = true) by decide)] at H;exact H
         clear H;have H:=H1;clear H1;obtain rfl:=Option.some.inj H;obtain ⟨hcz40_0,hcz40_1,hcz40_2,hcz40_3,hcz40_4⟩:=cz5_ BK187.out;obtain ⟨hfz40_0,hfz40_1,hfz40_2,hfz40_3,hfz40_4⟩:=fz5_ BK187.out
         have p191:0 <= (0:Int):=(by omega)
         have q191:0 < (l0_1.length:Int):=dt_;obtain ⟨ad191,e191,hx191_0⟩:=Kd.at_bool HR0_1.out 0 p191 q191;(try rw [<- Nbq27.out] at hx191_0);(try rw [<- Nbq31.out] at hx191_0)
         cases e191
         have qi191:(0 < l0_1.length) = True:=eq_true (by omega);(try rw [show ((0:Int)).toNat = 0 from rfl] at hx191_0);(try rw [Addr.add_zero'] at hx191_0);replace hx191_0:=bc_ HB.out hx191_0;replace p191:=eq_true p191;replace q191:=eq_true q191;have p192:0 <= (a0_3:Int):=dt_;have q192:a0_3 < (l0_1.length:Int):=dt_;obtain ⟨ad192,e192,hx192_0⟩:=Kd.at_bool HR0_1.out a0_3 p192 q192;(try rw [<- Nbq27.out] at hx192_0);(try rw [<- Nbq31.out] at hx192_0)
         obtain rfl:ad191 = ad192:=(by injection e192)
         replace hx192_0:=bc_ HB.out hx192_0;replace p192:=eq_true p192;replace q192:=eq_true q192
         go_wp2
         go_ret
         exact ⟨rr_,lb1_ HB.out GE187.out⟩
       .
        rw [if_neg c30] at H
        exact absurd H (by simp)
      .
       rw [if_neg c29] at H
       exact absurd H (by simp)
     .
      replace c28:=Bool.eq_false_iff.mpr c28
      subst c28
      have H1:(some false) = some r:=by rw [if_neg (show ¬ (false = true) by decide)] at H;exact H
      clear H
      have H:=H1
      clear H1
      obtain rfl:=Option.some.inj H
      obtain ⟨hcz41_0,hcz41_1,hcz41_2,hcz41_3,hcz41_4⟩:=cz5_ BK187.out
      obtain ⟨hfz41_0,hfz41_1,hfz41_2,hfz41_3,hfz41_4⟩:=fz5_ BK187.out
      have p191:0 <= (0:Int):=(by omega)
      have q191:0 < (l0_1.length:Int):=dt_
      obtain ⟨ad191,e191,hx191_0⟩:=Kd.at_bool HR0_1.out 0 p191 q191
      (try rw [<- Nbq27.out] at hx191_0)
      cases e191
      have qi191:(0 < l0_1.length) = True:=eq_true (by omega)
      (try rw [show ((0:Int)).toNat = 0 from rfl] at hx191_0)
      (try rw [Addr.add_zero'] at hx191_0)
      replace hx191_0:=bc_ HB.out hx191_0
      replace p191:=eq_true p191
      replace q191:=eq_true q191
      go_wp2
      go_ret
      exact ⟨rr_,lb1_ HB.out GE187.out⟩
    .
     rw [if_neg c26] at H
     exact absurd H (by simp)
theorem own_block_ {α:Type} {d:Kd α} {e base:Nat} {ok:Nat -> Prop} {w:World} {v:Value} {xs:List α} (h:d.R e w base ok v xs) (hn:0 < xs.length):∃ gv cap,v = .slice (some ⟨gv,0,none⟩) xs.length cap /\ base <= gv /\ xs.length <= cap /\ v.ownBlock = some gv:=by
 obtain ⟨inner,ho⟩:=Kd.R_own h
 rcases ho.2 with ⟨_,h0⟩|⟨gv,cap,cur,rfl,hb,_,hc,_⟩
 .
  omega
 .
  exact ⟨gv,cap,rfl,hb,hc,rfl⟩
theorem own_ne_ {α:Type} {d:Kd α} {e base:Nat} {ok:Nat -> Prop} {w:World} {v:Value} {xs:List α} (h:d.R e w base ok v xs) (hE:d.E = []) {g t:Nat} {cs:Array Value} (hb:w.heap[g]? = some (.cells cs t (0,0))) (ht:e ≠ t):d.R e w base (fun k=>ok k /\ k ≠ g) v xs:=by
 refine Kd.R_mono (Kd.R_bound h) (fun k hk=>⟨hk.1,fun he=>?_⟩)
 obtain ⟨q,hq,cells,hc⟩:=hk.2.2.2
 subst he
 rw [hE,List.mem_singleton] at hq
 subst hq
 rw [hb] at hc
 injection hc with hc
 injection hc with _ hc
 exact ht hc.symm
structure ExS (w:World) (base g:Nat) (vL vV vD:Value) (L:List S37) (V D:List Bool) (p t:Int):Prop where
 blk:w.heap[g]? = some (.cells #[vL,vV,vD,.int .i64 p,.int .i64 t] 30 (0,0))
 gb:base <= g
 rL:Kd.R k37 37 w base (fun _=>True) vL L
 rV:Kd.R Kd.bool 4 w base (fun k=>some k ≠ vD.ownBlock) vV V
 rD:Kd.R Kd.bool 4 w base (fun k=>some k ≠ vV.ownBlock) vD D
namespace ExS
variable {w w1:World} {base g:Nat} {vL vV vD:Value} {L:List S37} {V D:List Bool} {p t:Int}
theorem below (h:ExS w base g vL vV vD L V D p t) (hb:Below w.heap.size w w1):ExS w1 base g vL vV vD L V D p t:=
 ⟨blk_below h.blk hb,h.gb,Kd.R_below h.rL hb,Kd.R_below h.rV hb,Kd.R_below h.rD hb⟩
theorem keep (h:ExS w base g vL vV vD L V D p t) (hk:KeepBut w w1 g none) {p' t':Int} (hb:w1.heap[g]? = some (.cells #[vL,vV,vD,.int .i64 p',.int .i64 t'] 30 (0,0))):ExS w1 base g vL vV vD L V D p' t':=
 ⟨hb,h.gb,Kd.R_mono (Kd.R_keep (own_ne_ h.rL rfl h.blk (by decide)) hk (fun _ hk=>hk.2)) (fun _ hk=>hk.1),Kd.R_mono (Kd.R_keep (own_ne_ h.rV rfl h.blk (by decide)) hk (fun _ hk=>hk.2)) (fun _ hk=>hk.1),Kd.R_mono (Kd.R_keep (own_ne_ h.rD rfl h.blk (by decide)) hk (fun _ hk=>hk.2)) (fun _ hk=>hk.1)⟩
theorem put3 (h:ExS w base g vL vV vD L V D p t) (p':Int):ExS (w.setCell ⟨g,3,none⟩ (.int .i64 p')) base g vL vV vD L V D p' t:=
 h.keep (KeepBut.set_ (KeepBut.refl _ _ _) 3 _) (blk_put h.blk 3 _ rfl)
theorem put4 (h:ExS w base g vL vV vD L V D p t) (t':Int):ExS (w.setCell ⟨g,4,none⟩ (.int .i64 t')) base g vL vV vD L V D p t':=
 h.keep (KeepBut.set_ (KeepBut.refl _ _ _) 4 _) (blk_put h.blk 4 _ rfl)
theorem putV {gv cap:Nat} (h:ExS w base g vL (.slice (some ⟨gv,0,none⟩) V.length cap) vD L V D p t) (i:Int) (x:Bool):ExS (w.setCell ⟨gv,i.toNat,none⟩ (.bool x)) base g vL (.slice (some ⟨gv,0,none⟩) V.length cap) vD L (V.set i.toNat x) D p t:=by
 obtain ⟨h1,h2⟩:=Kd.R_putg (enc:=Value.bool) h.rV i x
 have hne:=h.rV.1 gv rfl
 have hg:gv ≠ g:=((own_ne_ h.rV rfl h.blk (by decide)).1 gv rfl).2
 refine ⟨blk_far h.blk (p:=⟨gv,i.toNat,none⟩) (fun e=>hg e.symm) _,h.gb,?_,h1,?_⟩
 .
  exact Kd.R_grown2 h.rL rfl h2 (fun k hk he=>by
   injection hk with hk
   subst hk
   obtain ⟨q,hq,cells,hc⟩:=((Kd.R_bound h.rL).1 gv he.symm).2.2.2
   obtain ⟨q',hq',cells',hc'⟩:=((Kd.R_bound h.rV).1 gv rfl).2.2.2
   rw [hc] at hc'
   rw [show (k37).E = [] from rfl,List.mem_singleton] at hq
   rw [show (Kd.bool).E = [] from rfl,List.mem_singleton] at hq'
   injection hc' with hc'
   injection hc' with _ hc'
   rw [hq,hq'] at hc'
   exact absurd hc' (by decide))
 .
  exact Kd.R_grown h.rD h2 (fun k hk=>hk)
theorem putD {gv cap:Nat} (h:ExS w base g vL vV (.slice (some ⟨gv,0,none⟩) D.length cap) L V D p t) (i:Int) (x:Bool):ExS (w.setCell ⟨gv,i.toNat,none⟩ (.bool x)) base g vL vV (.slice (some ⟨gv,0,none⟩) D.length cap) L V (D.set i.toNat x) p t:=by
 obtain ⟨h1,h2⟩:=Kd.R_putg (enc:=Value.bool) h.rD i x
 have hg:gv ≠ g:=((own_ne_ h.rD rfl h.blk (by decide)).1 gv rfl).2
 refine ⟨blk_far h.blk (p:=⟨gv,i.toNat,none⟩) (fun e=>hg e.symm) _,h.gb,?_,?_,h1⟩
 .
  exact Kd.R_grown2 h.rL rfl h2 (fun k hk he=>by
   injection hk with hk
   subst hk
   obtain ⟨q,hq,cells,hc⟩:=((Kd.R_bound h.rL).1 gv he.symm).2.2.2
   obtain ⟨q',hq',cells',hc'⟩:=((Kd.R_bound h.rD).1 gv rfl).2.2.2
   rw [hc] at hc'
   rw [show (k37).E = [] from rfl,List.mem_singleton] at hq
   rw [show (Kd.bool).E = [] from rfl,List.mem_singleton] at hq'
   injection hc' with hc'
   injection hc' with _ hc'
   rw [hq,hq'] at hc'
   exact absurd hc' (by decide))
 .
  exact Kd.R_grown h.rV h2 (fun k hk=>hk)
end ExS
end Go.Proofs.Ythmjimboajmhmaa.Pr

namespace Go.Proofs.Ythmjimboajmhmaa.Pr
open Go.RowKit Go.Proofs.YthmjimboajmhmaaW.PrintWords Go.Proofs.YthmjimboajmhmaaW.PrintLast Go.Proofs.YthmjimboajmhmaaW.PrintMore
attribute [local go_sem] max2_int min2_int max_two min_two max_three min_three max_four min_four   -- for this text's walks alone
set_option linter.unusedVariables false
set_option linter.unusedSimpArgs false
def impl_Leg_87.f (l0:List S37):Option (List S37):=if l0.length <= 3518437208883 then some l0 else none
set_option maxHeartbeats 4000000 in
set_option maxRecDepth 100000 in
theorem impl_Leg_87.calls (A0:Option Addr) (c0:Nat) (l0:List S37) (r:List S37) (w:World) (hr0:Kd.C k37 w A0 l0.length l0) (hc0:l0.length <= c0) (h:impl_Leg_87.f l0 = some r) :
  Calls Try.prog 87 #[.slice A0 l0.length c0] w fun e w'=>∃ v0_:Value,e = .returned (v0_) /\ Kd.R k37 37 w' w.heap.size (fun _=>True) v0_ r /\ Below w.heap.size w w':=by
 unfold impl_Leg_87.f at h
 by_cases hl:l0.length <= 3518437208883
 .
  rw [if_pos hl] at h
  obtain rfl:=Option.some.inj h
  have HR:=ak hr0
  clear hr0
  cases A0 with
  | none=>
   have hn:l0 = []:=by
    rcases Nat.eq_zero_or_pos l0.length with h0|h0
    .
     exact List.length_eq_zero_iff.1 h0
    .
     obtain ⟨ad,e,_⟩:=HR.out.2.2 h0
     cases e
   subst hn
   have hq:∀ w,Sem.run Try.prog (binOp .eql 28 (.slice none 0 c0) (.slice none 0 0)) w = .ok (.bool true) w:=fun w=>by rfl
   go_enter Try.func87,Try.ntmps87
   go_wp2
   go_ret
   exact ⟨_,rfl,Kd.R_nil _ _ _ _ _,Below.refl _ _⟩
  | some ad=>
   have hq:∀ w,Sem.run Try.prog (binOp .eql 28 (.slice (some ad) l0.length c0) (.slice none 0 0)) w = .ok (.bool false) w:=fun w=>by rfl
   go_enter Try.func87,Try.ntmps87
   go_wp2_with (first|((with_reducible refine gate_dst (N:=5) rfl ?_);refine Kd.R_lit k37 _ 37 ?hg (N:=5) ?hd (xs:=[]) (inner:=[]) (ok:=fun _=>True) (okp:=fun _=>True) ?hr ?hp (fun _ hk=>hk) trivial (Below.refl _ _) (Nat.le_refl _) (by simp) ?_;(case hd=>rfl);(case hg=>rfl);(case hr=>first|(go_simp;done)|(go_simp;rfl));(case hp=>exact (Reps.none _ _));intro v5 w4 ho5 hb5 hg_ hnew_;clear hg_ hnew_;have HO5:=ak ho5;have HB5:=ak hb5;clear ho5 hb5)|((with_reducible refine gate_builtin (b:=.append) (xs:=#[.tmp 5,.tmp 6]) rfl ?_);at_builtin;refine Kd.R_append_rows k37 (w0:=w) w.heap.size rfl (.tmp 5) (.tmp 6) 28 37 (.agg #[(.int .i64 0),(.int .i64 0),(.int .i64 0),(.int .i64 0),(.int .i64 0)]) 40 rfl Try.underlying28 info37 rfl (by decide) (by omega) v5 [] l0 (some ad) _ _ (fun _=>True) (fun _=>False) rfl rfl HO5.out (Kd.C_below HR.out HB5.out) (fun _ _ h=>h) (fun _ h=>h.elim) (fun _ _=>trivial) HB5.out (below_size HB5.out) (by simp;omega) ?_;intro v7 w7 ho7 hb7 hg7 hat7;have HO7:=ak ho7;have HB7:=ak hb7;clear ho7 hb7 hg7 hat7))
   go_ret
   exact ⟨_,rfl,HO7.out,HB7.out⟩
 .
  rw [if_neg hl] at h
  cases h
def slices_Clone_bool_bool.f (l0:List Bool):Option (List Bool):=if l0.length <= 140737488355328 then some l0 else none
set_option maxHeartbeats 4000000 in
set_option maxRecDepth 100000 in
theorem slices_Clone_bool_bool.calls (A0:Option Addr) (c0:Nat) (l0:List Bool) (r:List Bool) (w:World) (hr0:Kd.C Kd.bool w A0 l0.length l0) (hc0:l0.length <= c0) (h:slices_Clone_bool_bool.f l0 = some r) :
  Calls Try.prog 109 #[.slice A0 l0.length c0] w fun e w'=>∃ v0_:Value,e = .returned (v0_) /\ Kd.R Kd.bool 4 w' w.heap.size (fun _=>True) v0_ r /\ Below w.heap.size w w':=by
 unfold slices_Clone_bool_bool.f at h
 by_cases hl:l0.length <= 140737488355328
 .
  rw [if_pos hl] at h
  obtain rfl:=Option.some.inj h
  have HR:=ak hr0
  clear hr0
  cases A0 with
  | none=>
   have hn:l0 = []:=by
    rcases Nat.eq_zero_or_pos l0.length with h0|h0
    .
     exact List.length_eq_zero_iff.1 h0
    .
     obtain ⟨ad,e,_⟩:=HR.out.2.2 h0
     cases e
   subst hn
   have hq:∀ w,Sem.run Try.prog (binOp .eql 23 (.slice none 0 c0) (.slice none 0 0)) w = .ok (.bool true) w:=fun w=>by rfl
   go_enter Try.func109,Try.ntmps109
   go_wp2
   go_ret
   exact ⟨_,rfl,Kd.R_nil _ _ _ _ _,Below.refl _ _⟩
  | some ad=>
   have hq:∀ w,Sem.run Try.prog (binOp .eql 23 (.slice (some ad) l0.length c0) (.slice none 0 0)) w = .ok (.bool false) w:=fun w=>by rfl
   go_enter Try.func109,Try.ntmps109
   go_wp2_with (first|((with_reducible refine gate_dst (N:=5) rfl ?_);refine Kd.R_lit Kd.bool _ 4 ?hg (N:=5) ?hd (xs:=[]) (inner:=[]) (ok:=fun _=>True) (okp:=fun _=>True) ?hr ?hp (fun _ hk=>hk) trivial (Below.refl _ _) (Nat.le_refl _) (by simp) ?_;(case hd=>rfl);(case hg=>rfl);(case hr=>first|(go_simp;done)|(go_simp;rfl));(case hp=>exact (Reps.none _ _));intro v5 w4 ho5 hb5 hg_ hnew_;clear hg_ hnew_;have HO5:=ak ho5;have HB5:=ak hb5;clear ho5 hb5)|((with_reducible refine gate_builtin (b:=.append) (xs:=#[.tmp 5,.tmp 6]) rfl ?_);at_builtin;refine Kd.R_append_rows Kd.bool (w0:=w) w.heap.size rfl (.tmp 5) (.tmp 6) 23 4 (.bool false) 1 rfl Try.underlying23 info4 rfl (by decide) (by omega) v5 [] l0 (some ad) _ _ (fun _=>True) (fun _=>False) rfl rfl HO5.out (Kd.C_below HR.out HB5.out) (fun _ _ h=>h) (fun _ h=>h.elim) (fun _ _=>trivial) HB5.out (below_size HB5.out) (by simp;omega) ?_;intro v7 w7 ho7 hb7 hg7 hat7;have HO7:=ak ho7;have HB7:=ak hb7;clear ho7 hb7 hg7 hat7))
   go_ret
   exact ⟨_,rfl,HO7.out,HB7.out⟩
 .
  rw [if_neg hl] at h
  cases h
def impl_Exploration_clone.f (l0_0:List (S37)) (l0_1:List Bool) (l0_2:List Bool) (a0_3:Int) (a0_4:Int):Option ((List (S37)) × List Bool × List Bool × Int × Int):=(impl_Leg_87.f l0_0).bind fun t664=>((slices_Clone_bool_bool.f l0_1).bind fun t667=>((slices_Clone_bool_bool.f l0_2).bind fun t670=>(some (t664,t667,t670,a0_3,a0_4))))
def impl_Exploration_clone.T1:Bool × List (List Nat × List Nat):=(true,[([],[]),([0],[0]),([1],[1]),([],[]),([3],[3]),([4,2],[4]),([],[]),([6],[6]),([7,5],[7]),([0,1,2,3,4,6,7],[]),([9,2,8,0,1,2,3,4,6,7],[2,9]),([0,1,2,3,4,5,6,7,9,10],[]),([11,5,10,0,1,2,3,4,5,6,7,9,10],[5,11]),([0,1,2,3,4,5,6,7,8,9,10,11,12],[]),([13,8,12,0,1,2,3,4,5,6,7,8,9,10,11,12],[8,13])])
def impl_Exploration_clone.B1:List Nat:=[0,1,3,0,8,31,0,64,255,223,1023,2047,4095,8191,16383]
theorem impl_Exploration_clone.tab1:rtab .any (opsOf Try.f83 1) = impl_Exploration_clone.T1:=by kernel_rfl
theorem impl_Exploration_clone.bits1:waitsOk impl_Exploration_clone.T1.2 impl_Exploration_clone.B1 = true:=by kernel_rfl
abbrev impl_Exploration_clone.mk0:Array Bool:=#[fF,fF,fF,fF,fF,fF,fF,fF,fF,fF,fF,fF,fF,fF,fF]
abbrev impl_Exploration_clone.mk1:Array Bool:=#[tT,fF,fF,fF,fF,fF,fF,fF,fF,fF,fF,fF,fF,fF,fF]
abbrev impl_Exploration_clone.mk2:Array Bool:=#[tT,fF,fF,tT,fF,fF,fF,fF,fF,fF,fF,fF,fF,fF,fF]
abbrev impl_Exploration_clone.mk3:Array Bool:=#[tT,fF,fF,tT,fF,fF,tT,fF,fF,fF,fF,fF,fF,fF,fF]
abbrev impl_Exploration_clone.mk4:Array Bool:=#[tT,tT,fF,tT,fF,fF,tT,fF,fF,fF,fF,fF,fF,fF,fF]
abbrev impl_Exploration_clone.mk5:Array Bool:=#[tT,tT,fF,tT,tT,fF,tT,fF,fF,fF,fF,fF,fF,fF,fF]
abbrev impl_Exploration_clone.mk6:Array Bool:=#[tT,tT,fF,tT,tT,fF,tT,tT,fF,fF,fF,fF,fF,fF,fF]
abbrev impl_Exploration_clone.mk7:Array Bool:=#[tT,tT,tT,tT,tT,fF,tT,tT,fF,fF,fF,fF,fF,fF,fF]
abbrev impl_Exploration_clone.mk8:Array Bool:=#[tT,tT,tT,tT,tT,fF,tT,tT,fF,tT,fF,fF,fF,fF,fF]
abbrev impl_Exploration_clone.mk9:Array Bool:=#[tT,tT,tT,tT,tT,tT,tT,tT,fF,tT,fF,fF,fF,fF,fF]
abbrev impl_Exploration_clone.mk10:Array Bool:=#[tT,tT,tT,tT,tT,tT,tT,tT,tT,tT,fF,fF,fF,fF,fF]
abbrev impl_Exploration_clone.mk11:Array Bool:=#[tT,tT,tT,tT,tT,tT,tT,tT,tT,tT,tT,fF,fF,fF,fF]
abbrev impl_Exploration_clone.mk12:Array Bool:=#[tT,tT,tT,tT,tT,tT,tT,tT,tT,tT,tT,tT,fF,fF,fF]
abbrev impl_Exploration_clone.mk13:Array Bool:=#[tT,tT,tT,tT,tT,tT,tT,tT,tT,tT,tT,tT,tT,fF,fF]
abbrev impl_Exploration_clone.mk14:Array Bool:=#[tT,tT,tT,tT,tT,tT,tT,tT,tT,tT,tT,tT,tT,tT,fF]
abbrev impl_Exploration_clone.mk15:Array Bool:=#[tT,tT,tT,tT,tT,tT,tT,tT,tT,tT,tT,tT,tT,tT,tT]
theorem impl_Exploration_clone.calls (A0_0:Option Addr) (c0_0:Nat) (l0_0:List (S37)) (A0_1:Option Addr) (c0_1:Nat) (l0_1:List Bool) (A0_2:Option Addr) (c0_2:Nat) (l0_2:List Bool) (a0_3:Int) (a0_4:Int) (r1:List (S37)) (r2:List Bool) (r3:List Bool) (r4:Int) (r5:Int) (w:World) (hr0_0:Kd.C k37 w A0_0 l0_0.length l0_0) (hc0_0:l0_0.length <= c0_0) (hr0_1:Kd.C Kd.bool w A0_1 l0_1.length l0_1) (hc0_1:l0_1.length <= c0_1) (hr0_2:Kd.C Kd.bool w A0_2 l0_2.length l0_2) (hc0_2:l0_2.length <= c0_2) (h:impl_Exploration_clone.f l0_0 l0_1 l0_2 a0_3 a0_4 = some (r1,r2,r3,r4,r5)) :
  Calls Try.prog 83 #[.agg #[.slice A0_0 l0_0.length c0_0,.slice A0_1 l0_1.length c0_1,.slice A0_2 l0_2.length c0_2,.int .i64 a0_3,.int .i64 a0_4]] w fun e w'=>∃ v0_ v1_ v2_:Value,e = .returned (.agg #[v0_,v1_,v2_,.int .i64 r4,.int .i64 r5]) /\ Kd.R k37 37 w' w.heap.size (fun _=>True) v0_ r1 /\ Kd.R Kd.bool 4 w' w.heap.size (fun k_=>some k_ ≠ (v2_:Value).ownBlock) v1_ r2 /\ Kd.R Kd.bool 4 w' w.heap.size (fun k_=>some k_ ≠ (v1_:Value).ownBlock) v2_ r3 /\ Below w.heap.size w w':=by
 have hu30:=Try.underlying30
 have HR0_0:=ak hr0_0
 have HC0_0:=ak hc0_0
 clear hr0_0 hc0_0
 have HR0_1:=ak hr0_1
 have HC0_1:=ak hc0_1
 clear hr0_1 hc0_1
 have HR0_2:=ak hr0_2
 have HC0_2:=ak hc0_2
 clear hr0_2 hc0_2
 have HB:=ak (Below.refl w.heap.size w)
 have H:((impl_Leg_87.f l0_0).bind fun t664=>((slices_Clone_bool_bool.f l0_1).bind fun t667=>((slices_Clone_bool_bool.f l0_2).bind fun t670=>(some (t664,t667,t670,a0_3,a0_4))))) = some (r1,r2,r3,r4,r5):=h
 clear h
 replace H:=Option.bind_eq_some_iff.mp H
 obtain ⟨t664,A20,H⟩:=H
 replace H:((slices_Clone_bool_bool.f l0_1).bind fun t667=>((slices_Clone_bool_bool.f l0_2).bind fun t670=>(some (t664,t667,t670,a0_3,a0_4)))) = some (r1,r2,r3,r4,r5):=H
 have A2:=ak A20
 clear A20
 replace H:=Option.bind_eq_some_iff.mp H
 obtain ⟨t667,A30,H⟩:=H
 replace H:((slices_Clone_bool_bool.f l0_2).bind fun t670=>(some (t664,t667,t670,a0_3,a0_4))) = some (r1,r2,r3,r4,r5):=H
 have A3:=ak A30
 clear A30
 replace H:=Option.bind_eq_some_iff.mp H
 obtain ⟨t670,A40,H⟩:=H
 replace H:(some (t664,t667,t670,a0_3,a0_4)) = some (r1,r2,r3,r4,r5):=H
 have A4:=ak A40
 clear A40
 simp only [Option.some.injEq,Prod.mk.injEq] at H
 obtain ⟨rfl,rfl,rfl,rfl,rfl⟩:=H
 go_enter Try.func83,Try.ntmps83
 try go_wp2_with (first|((with_reducible refine gate_dst (N:=1) rfl ?_);refine box_event ?hg (N:=1) ?hd (cs:=#[.slice A0_0 l0_0.length c0_0,.slice A0_1 l0_1.length c0_1,.slice A0_2 l0_2.length c0_2,.int .i64 a0_3,.int .i64 a0_4]) (t:=30) ?hr ?_;(case hd=>rfl);(case hg=>rfl);(case hr=>first|(go_simp;done)|(go_simp;rfl));intro gb662 hg w5 hbox hb;have BK662:=ak (hbox);have GW662:=ak ((bz_ hg (lb0_ HB.out)));have GE662:=ak ((bz_ hg (lb0_ HB.out)));replace HB:=ak (below_step (lb0_ HB.out) hb);clear hb hbox hg)|((with_reducible refine gate_dst (N:=2) rfl ?_);refine box_event ?hg (N:=2) ?hd (cs:=#[.slice none 0 0,.slice none 0 0,.slice none 0 0,.int .i64 0,.int .i64 0]) (t:=30) ?hr ?_;(case hd=>rfl);(case hg=>rfl);(case hr=>first|(go_simp;done)|(go_simp;rfl));intro gb663 hg w6 hbox hb;have BK663:=ak (hbox);have GW663:=ak ((bz_ hg (lb1_ HB.out GE662.out)));have GE663:=ak ((bz_ hg (lb1_ HB.out GE662.out)));replace HB:=ak (below_step (lb1_ HB.out GE662.out) hb);have NB662_663:=ak (nl_ hg BK662.out);have NB663_662:=ak (ng_ hg BK662.out);replace BK662:=ak (bb_ (bk_ BK662.out) hb);clear hb hbox hg))
 replace BK662:=ak (blk_drew BK662.out)
 replace BK663:=ak (blk_drew BK663.out)
 replace HB:=ak (below_drew1 HB.out)
 refine start_ (n:=15) (S:=fun w'=>w'.cell? ⟨gb662,0,none⟩ = some (.slice A0_0 l0_0.length c0_0) /\ w'.cell? ⟨gb662,1,none⟩ = some (.slice A0_1 l0_1.length c0_1) /\ w'.cell? ⟨gb662,2,none⟩ = some (.slice A0_2 l0_2.length c0_2) /\ w'.cell? ⟨gb662,3,none⟩ = some (.int .i64 a0_3) /\ w'.cell? ⟨gb662,4,none⟩ = some (.int .i64 a0_4)) (ds:=[10,12,14]) impl_Exploration_clone.mk0 (by kernel_rfl) rfl rfl ⟨(blk_cell BK662.out 0).trans rfl,(blk_cell BK662.out 1).trans rfl,(blk_cell BK662.out 2).trans rfl,(blk_cell BK662.out 3).trans rfl,(blk_cell BK662.out 4).trans rfl⟩ (fun hHeld=>?_);refine with_tabW impl_Exploration_clone.tab1 impl_Exploration_clone.bits1 (fun HT_ HW_=>?_)
 generalize w6.drew = w7 at BK662 BK663 HB hHeld ⊢
 refine pz_ HT_ 0 (some 3) impl_Exploration_clone.mk1 ?_
 refine pz_ HT_ 3 (some 6) impl_Exploration_clone.mk2 ?_
 refine pz_ HT_ 6 (some 9) impl_Exploration_clone.mk3 ?_
 refine tk_ HT_ HW_ hHeld 1 (some 4) impl_Exploration_clone.mk4 ?_
 refine tk_ HT_ HW_ hHeld 4 (some 7) impl_Exploration_clone.mk5 ?_
 refine tk_ HT_ HW_ hHeld 7 (some 10) impl_Exploration_clone.mk6 ?_
 refine one_ (i:=2) (N:=some 5) impl_Exploration_clone.mk7 rfl rfl (one_of HT_.out (by kernel_rfl)) (by decide) (fun K hK=>?_)
 refine gs_ Try.func87 #[.slice A0_0 l0_0.length c0_0] ?_
 with_reducible refine (impl_Leg_87.calls _ _ l0_0 t664 _ ?side1 ?side2 A2.out).mono ?_
 (case side1=>exact kc_ (Kd.C_below HR0_0.out HB.out))
 (case side2=>exact HC0_0.out)
 rintro e w8 ⟨v665,rfl,ho0,hb⟩
 refine ⟨_,rfl,?_⟩
 have HO666:=ak (Kd.R_lower ho0 (below_size (lb2_ HB.out GE662.out GE663.out)))
 replace BK662:=ak (bb_ (bk_ BK662.out) hb)
 replace BK663:=ak (bb_ (bk_ BK663.out) hb)
 replace HB:=ak (below_step (lb2_ HB.out GE662.out GE663.out) hb)
 (try clear hb)
 (try clear hb2)
 (try clear hk)
 (try clear hi)
 (try clear ho0)
 refine hK.out _ _ ⟨(blk_cell BK662.out 0).trans rfl,(blk_cell BK662.out 1).trans rfl,(blk_cell BK662.out 2).trans rfl,(blk_cell BK662.out 3).trans rfl,(blk_cell BK662.out 4).trans rfl⟩ (fun hHeld=>?_)
 clear hK K
 refine na_ ?_
 refine pz_ HT_ 9 (some 12) impl_Exploration_clone.mk8 ?_
 refine one_ (i:=5) (N:=some 8) impl_Exploration_clone.mk9 rfl rfl (one_of HT_.out (by kernel_rfl)) (by decide) (fun K hK=>?_)
 refine gs_ Try.func109 #[.slice A0_1 l0_1.length c0_1] ?_
 with_reducible refine (slices_Clone_bool_bool.calls _ _ l0_1 t667 _ ?side1 ?side2 A3.out).mono ?_
 (case side1=>exact kc_ (Kd.C_below HR0_1.out HB.out))
 (case side2=>exact HC0_1.out)
 rintro e w9 ⟨v668,rfl,ho0,hb⟩
 refine ⟨_,rfl,?_⟩
 replace HO666:=ak (Kd.R_below (kr_ HO666.out) hb)
 have HO669:=ak (Kd.R_lower ho0 (below_size (lb2_ HB.out GE662.out GE663.out)))
 replace BK662:=ak (bb_ (bk_ BK662.out) hb)
 replace BK663:=ak (bb_ (bk_ BK663.out) hb)
 replace HB:=ak (below_step (lb2_ HB.out GE662.out GE663.out) hb)
 (try clear hb)
 (try clear hb2)
 (try clear hk)
 (try clear hi)
 (try clear ho0)
 refine hK.out _ _ ⟨(blk_cell BK662.out 0).trans rfl,(blk_cell BK662.out 1).trans rfl,(blk_cell BK662.out 2).trans rfl,(blk_cell BK662.out 3).trans rfl,(blk_cell BK662.out 4).trans rfl⟩ (fun hHeld=>?_)
 clear hK K
 refine na_ ?_
 refine one_ (i:=8) (N:=some 11) impl_Exploration_clone.mk10 rfl rfl (one_of HT_.out (by kernel_rfl)) (by decide) (fun K hK=>?_)
 refine gs_ Try.func109 #[.slice A0_2 l0_2.length c0_2] ?_
 with_reducible refine (slices_Clone_bool_bool.calls _ _ l0_2 t670 _ ?side1 ?side2 A4.out).mono ?_
 (case side1=>exact kc_ (Kd.C_below HR0_2.out HB.out))
 (case side2=>exact HC0_2.out)
 rintro e w10 ⟨v671,rfl,ho0,hb⟩
 refine ⟨_,rfl,?_⟩
 replace HO666:=ak (Kd.R_below (kr_ HO666.out) hb)
 have HO672:=ak (Kd.R_lower (Kd.R_new' ho0 (Kd.R_lt (kr_ HO669.out))) (below_size (lb2_ HB.out GE662.out GE663.out)))
 replace HO669:=ak (Kd.R_elder' (kr_ HO669.out) (Kd.R_base ho0) hb)
 replace BK662:=ak (bb_ (bk_ BK662.out) hb)
 replace BK663:=ak (bb_ (bk_ BK663.out) hb)
 replace HB:=ak (below_step (lb2_ HB.out GE662.out GE663.out) hb)
 (try clear hb)
 (try clear hb2)
 (try clear hk)
 (try clear hi)
 (try clear ho0)
 obtain ⟨Ao11,co11,eo11⟩:=Kd.R_slice HO666.out
 (first|subst eo11|(injection eo11 with f1_ f2_ f3_;have f4_:=f1_.symm;have f5_:=f3_.symm;clear f1_ f2_ f3_;subst f4_;subst f5_))
 obtain ⟨Ao13,co13,eo13⟩:=Kd.R_slice HO669.out
 (first|subst eo13|(injection eo13 with f1_ f2_ f3_;have f4_:=f1_.symm;have f5_:=f3_.symm;clear f1_ f2_ f3_;subst f4_;subst f5_))
 obtain ⟨Ao15,co15,eo15⟩:=Kd.R_slice HO672.out
 (first|subst eo15|(injection eo15 with f1_ f2_ f3_;have f4_:=f1_.symm;have f5_:=f3_.symm;clear f1_ f2_ f3_;subst f4_;subst f5_))
 refine hK.out _ _ ⟨(blk_cell BK662.out 0).trans rfl,(blk_cell BK662.out 1).trans rfl,(blk_cell BK662.out 2).trans rfl,(blk_cell BK662.out 3).trans rfl,(blk_cell BK662.out 4).trans rfl⟩ (fun hHeld=>?_)
 clear hK K
 refine na_ ?_
 refine last_ (i:=10) (N:=none) impl_Exploration_clone.mk11 rfl rfl (one_of HT_.out (by kernel_rfl)) (by decide) (fun K hK=>?_)
 have hs12:w10.cell? ⟨gb662,0,none⟩ = some (.slice A0_0 l0_0.length c0_0):=(blk_cell BK662.out 0).trans rfl
 have hfs12:=blk_frozen BK662.out 0
 have hns12_1:=NB663_662.out
 have hms12_1:=NB662_663.out
 refine skip_ (w1:=?_) (by rfl) rfl ?_ ?_
 rotate_left
 .
  go_simp
  rfl
 refine hK.out _ _ ?_
 clear hK K
 refine pz_ HT_ 11 (some 13) impl_Exploration_clone.mk12 ?_
 refine last_ (i:=12) (N:=none) impl_Exploration_clone.mk13 rfl rfl (one_of HT_.out (by kernel_rfl)) (by decide) (fun K hK=>?_)
 have hs14:w10.cell? ⟨gb662,1,none⟩ = some (.slice A0_1 l0_1.length c0_1):=(blk_cell BK662.out 1).trans rfl
 have hfs14:=blk_frozen BK662.out 1
 have hns14_1:=NB663_662.out
 have hms14_1:=NB662_663.out
 refine skip_ (w1:=?_) (by rfl) rfl ?_ ?_
 rotate_left
 .
  go_simp
  rfl
 refine hK.out _ _ ?_
 clear hK K
 refine pz_ HT_ 13 (some 14) impl_Exploration_clone.mk14 ?_
 refine last_ (i:=14) (N:=none) impl_Exploration_clone.mk15 rfl rfl (one_of HT_.out (by kernel_rfl)) (by decide) (fun K hK=>?_)
 have hs16:w10.cell? ⟨gb662,2,none⟩ = some (.slice A0_2 l0_2.length c0_2):=(blk_cell BK662.out 2).trans rfl
 have hfs16:=blk_frozen BK662.out 2
 have hns16_1:=NB663_662.out
 have hms16_1:=NB662_663.out
 refine skip_ (w1:=?_) (by rfl) rfl ?_ ?_
 rotate_left
 .
  go_simp
  rfl
 refine hK.out _ _ ?_
 clear hK K
 refine done_ (done_of HT_.out (by kernel_rfl)) ?_
 have hnb17:=NB662_663.out
 have hnc17:=NB663_662.out
 obtain ⟨hcz18_0,hcz18_1,hcz18_2,hcz18_3,hcz18_4⟩:=cz5_ BK662.out
 obtain ⟨hfz18_0,hfz18_1,hfz18_2,hfz18_3,hfz18_4⟩:=fz5_ BK662.out
 obtain ⟨hcz19_0,hcz19_1,hcz19_2,hcz19_3,hcz19_4⟩:=cz5_ BK663.out
 obtain ⟨hfz19_0,hfz19_1,hfz19_2,hfz19_3,hfz19_4⟩:=fz5_ BK663.out
 try go_wp2
 refine bodyPost_ret (results_cell_row rfl _ _ gb663 30 #[.slice Ao11 t664.length co11,.slice Ao13 t667.length co13,.slice Ao15 t670.length co15,.int .i64 a0_3,.int .i64 a0_4] (0,0) _ rfl (by (with_reducible repeat (first|refine blk_drewN ?_ _|refine blk_drew ?_|refine blk_alloc ?_ _));refine blk_put (cs:=#[.slice Ao11 t664.length co11,.slice Ao13 t667.length co13,.slice Ao15 t670.length co15,.int .i64 a0_3,.int .i64 0]) ?_ 4 _ rfl;(with_reducible repeat (first|refine blk_drewN ?_ _|refine blk_drew ?_|refine blk_alloc ?_ _));refine blk_put (cs:=#[.slice Ao11 t664.length co11,.slice Ao13 t667.length co13,.slice Ao15 t670.length co15,.int .i64 0,.int .i64 0]) ?_ 3 _ rfl;(with_reducible repeat (first|refine blk_drewN ?_ _|refine blk_drew ?_|refine blk_alloc ?_ _));refine blk_put (cs:=#[.slice Ao11 t664.length co11,.slice Ao13 t667.length co13,.slice none 0 0,.int .i64 0,.int .i64 0]) ?_ 2 _ rfl;(with_reducible repeat (first|refine blk_drewN ?_ _|refine blk_drew ?_|refine blk_alloc ?_ _));refine blk_put (cs:=#[.slice Ao11 t664.length co11,.slice none 0 0,.slice none 0 0,.int .i64 0,.int .i64 0]) ?_ 1 _ rfl;(with_reducible repeat (first|refine blk_drewN ?_ _|refine blk_drew ?_|refine blk_alloc ?_ _));refine blk_put (cs:=#[.slice none 0 0,.slice none 0 0,.slice none 0 0,.int .i64 0,.int .i64 0]) ?_ 0 _ rfl;(with_reducible repeat (first|refine blk_drewN ?_ _|refine blk_drew ?_|refine blk_alloc ?_ _));refine blk_far ?_ NB663_662.out _;(with_reducible repeat (first|refine blk_drewN ?_ _|refine blk_drew ?_|refine blk_alloc ?_ _));refine blk_far ?_ NB663_662.out _;(with_reducible repeat (first|refine blk_drewN ?_ _|refine blk_drew ?_|refine blk_alloc ?_ _));refine blk_far ?_ NB663_662.out _;(with_reducible repeat (first|refine blk_drewN ?_ _|refine blk_drew ?_|refine blk_alloc ?_ _));exact BK663.out) Try.underlying30 rfl (by kernel_rfl)) rfl ?_
 exact ⟨_,_,_,rr_,by (with_reducible repeat (first|apply Kd.R_alloc|apply Kd.R_drewN|apply Kd.R_drew));exact Kd.R_mono (Kd.R_far (p:=⟨gb663,4,none⟩) (Kd.R_far (p:=⟨gb663,3,none⟩) (Kd.R_far (p:=⟨gb663,2,none⟩) (Kd.R_far (p:=⟨gb663,1,none⟩) (Kd.R_far (p:=⟨gb663,0,none⟩) (Kd.R_far (p:=⟨gb662,2,none⟩) (Kd.R_far (p:=⟨gb662,1,none⟩) (Kd.R_far (p:=⟨gb662,0,none⟩) (Kd.R_types (Kd.R_types HO666.out BK662.out (by decide)) BK663.out (by decide)) (fun _ hk=>hk.1.2) (.slice Ao11 t664.length co11)) (fun _ hk=>hk.1.2) (.slice Ao13 t667.length co13)) (fun _ hk=>hk.1.2) (.slice Ao15 t670.length co15)) (fun _ hk=>hk.2) (.slice Ao11 t664.length co11)) (fun _ hk=>hk.2) (.slice Ao13 t667.length co13)) (fun _ hk=>hk.2) (.slice Ao15 t670.length co15)) (fun _ hk=>hk.2) (.int .i64 a0_3)) (fun _ hk=>hk.2) (.int .i64 a0_4)) (fun _ hk=>trivial),by (with_reducible repeat (first|apply Kd.R_alloc|apply Kd.R_drewN|apply Kd.R_drew));exact Kd.R_mono (Kd.R_far (p:=⟨gb663,4,none⟩) (Kd.R_far (p:=⟨gb663,3,none⟩) (Kd.R_far (p:=⟨gb663,2,none⟩) (Kd.R_far (p:=⟨gb663,1,none⟩) (Kd.R_far (p:=⟨gb663,0,none⟩) (Kd.R_far (p:=⟨gb662,2,none⟩) (Kd.R_far (p:=⟨gb662,1,none⟩) (Kd.R_far (p:=⟨gb662,0,none⟩) (Kd.R_types (Kd.R_types HO669.out BK662.out (by decide)) BK663.out (by decide)) (fun _ hk=>hk.1.2) (.slice Ao11 t664.length co11)) (fun _ hk=>hk.1.2) (.slice Ao13 t667.length co13)) (fun _ hk=>hk.1.2) (.slice Ao15 t670.length co15)) (fun _ hk=>hk.2) (.slice Ao11 t664.length co11)) (fun _ hk=>hk.2) (.slice Ao13 t667.length co13)) (fun _ hk=>hk.2) (.slice Ao15 t670.length co15)) (fun _ hk=>hk.2) (.int .i64 a0_3)) (fun _ hk=>hk.2) (.int .i64 a0_4)) (fun _ hk=>hk.1.1.2),by (with_reducible repeat (first|apply Kd.R_alloc|apply Kd.R_drewN|apply Kd.R_drew));exact Kd.R_mono (Kd.R_far (p:=⟨gb663,4,none⟩) (Kd.R_far (p:=⟨gb663,3,none⟩) (Kd.R_far (p:=⟨gb663,2,none⟩) (Kd.R_far (p:=⟨gb663,1,none⟩) (Kd.R_far (p:=⟨gb663,0,none⟩) (Kd.R_far (p:=⟨gb662,2,none⟩) (Kd.R_far (p:=⟨gb662,1,none⟩) (Kd.R_far (p:=⟨gb662,0,none⟩) (Kd.R_types (Kd.R_types HO672.out BK662.out (by decide)) BK663.out (by decide)) (fun _ hk=>hk.1.2) (.slice Ao11 t664.length co11)) (fun _ hk=>hk.1.2) (.slice Ao13 t667.length co13)) (fun _ hk=>hk.1.2) (.slice Ao15 t670.length co15)) (fun _ hk=>hk.2) (.slice Ao11 t664.length co11)) (fun _ hk=>hk.2) (.slice Ao13 t667.length co13)) (fun _ hk=>hk.2) (.slice Ao15 t670.length co15)) (fun _ hk=>hk.2) (.int .i64 a0_3)) (fun _ hk=>hk.2) (.int .i64 a0_4)) (fun _ hk=>hk.1.1.2),lb2_ HB.out GE662.out GE663.out⟩
theorem goAlong_calls (g:Nat) (vL vV vD:Value) (L:List S37) (V D:List Bool) (p t a b tp c s m:Int) (w0 w:World) (hS:ExS w w0.heap.size g vL vV vD L V D p t) (hB:Below w0.heap.size w0 w) (h0:0 <= wrap64 (wrap64 (a + b) - p)) (h1:wrap64 (wrap64 (a + b) - p) < (V.length:Int)) :
  Calls Try.prog 119 #[.pointer (some ⟨g,0,none⟩),.agg #[.int .i64 a,.int .i64 b,.int .i64 tp,.int .i64 c,.int .i64 s],.int .i64 m] w fun e w'=>e = .returned (.tuple #[]) /\ ExS w' w0.heap.size g vL vV vD L (V.set (wrap64 (wrap64 (a + b) - p)).toNat true) D (wrap64 (wrap64 (a + b) - p)) (wrap64 (t - wrap64 (m * tp))) /\ Below w0.heap.size w0 w':=by
 have hgw:g < w.heap.size:=blk_lt hS.blk
 obtain ⟨gv,cap,rfl,hgv,hcap,_⟩:=own_block_ hS.rV (by omega)
 have hx0:=blk_new w (.cells #[.int .i64 a,.int .i64 b,.int .i64 tp,.int .i64 c,.int .i64 s] 37 (0,0))
 have hS1:=hS.below (below_alloc (Below.refl _ w) (.cells #[.int .i64 a,.int .i64 b,.int .i64 tp,.int .i64 c,.int .i64 s] 37 (0,0)))
 have hB1:=below_alloc hB (.cells #[.int .i64 a,.int .i64 b,.int .i64 tp,.int .i64 c,.int .i64 s] 37 (0,0))
 have HX:=ak hx0
 have HS:=ak hS1
 have HB:=ak hB1
 have hne:w.heap.size ≠ g:=by omega
 have hgv':Aside0 (gv < w.heap.size):=⟨((Kd.R_bound hS.rV).1 gv rfl).2.2.1⟩
 clear hS hx0 hS1 hB1 hB
 go_enter Try.func119,Try.ntmps119
 go_wp2_with fail
 have hW:Aside0 ((w.alloc (.cells #[.int .i64 a,.int .i64 b,.int .i64 tp,.int .i64 c,.int .i64 s] 37)).heap.size = w.heap.size + 1):=⟨heap_size_ _ _⟩
 generalize w.alloc (.cells #[.int .i64 a,.int .i64 b,.int .i64 tp,.int .i64 c,.int .i64 s] 37) = W at HX HS HB hW ⊢
 have x0:W.cell? ⟨w.heap.size,0,none⟩ = some (.int .i64 a):=(blk_cell HX.out 0).trans rfl
 have x1:W.cell? ⟨w.heap.size,1,none⟩ = some (.int .i64 b):=(blk_cell HX.out 1).trans rfl
 have g3:W.cell? ⟨g,3,none⟩ = some (.int .i64 p):=(blk_cell HS.out.blk 3).trans rfl
 have z3:=blk_frozen HS.out.blk 3
 go_still_tail 13,(by kernel_rfl)
 go_wp2_with fail
 have n1:=ak (blk_drew (blk_far (p:=⟨g,3,none⟩) HX.out hne (.int .i64 (wrap64 (wrap64 (a + b) - p)))))
 have n2:=ak ((HS.out.put3 (wrap64 (wrap64 (a + b) - p))).below (below_drew (Below.refl _ _)))
 have n3:=ak (below_drew (below_set (j:=3) (v:=.int .i64 (wrap64 (wrap64 (a + b) - p))) HB.out HS.out.gb))
 clear HX HS HB hW x0 x1 g3 z3
 have HX:=n1
 have HS:=n2
 have HB:=n3
 clear n1 n2 n3
 generalize (W.setCell ⟨g,3,none⟩ (.int .i64 (wrap64 (wrap64 (a + b) - p)))).drew = W2 at HX HS HB ⊢
 clear W
 have hpw:IntKind.i64.wrap (IntKind.i64.wrap (a + b) - p) = wrap64 (wrap64 (a + b) - p):=by rw [i64_w,i64_w]
 generalize hq:wrap64 (wrap64 (a + b) - p) = q at h0 h1 HS hpw ⊢
 have g1:W2.cell? ⟨g,1,none⟩ = some (.slice (some ⟨gv,0,none⟩) V.length cap):=(blk_cell HS.out.blk 1).trans rfl
 have g3:W2.cell? ⟨g,3,none⟩ = some (.int .i64 q):=(blk_cell HS.out.blk 3).trans rfl
 obtain ⟨yv,zv⟩:=Kd.R_celln false HS.out.rV q h0 h1
 go_still_tail 9,(by kernel_rfl)
 go_wp2_with fail
 have hgvg:gv ≠ w.heap.size:=by have:=hgv'.out;omega
 have n1:=ak (blk_drew (blk_far (p:=⟨gv,q.toNat,none⟩) HX.out hgvg.symm (.bool true)))
 have n2:=ak ((HS.out.putV q true).below (below_drew (Below.refl _ _)))
 have n3:=ak (below_drew (below_set (j:=q.toNat) (v:=.bool true) HB.out hgv))
 clear HX HS HB g1 g3 yv zv
 have HX:=n1
 have HS:=n2
 have HB:=n3
 clear n1 n2 n3
 generalize (W2.setCell ⟨gv,q.toNat,none⟩ (.bool true)).drew = W3 at HX HS HB ⊢
 clear W2
 have x2:W3.cell? ⟨w.heap.size,2,none⟩ = some (.int .i64 tp):=(blk_cell HX.out 2).trans rfl
 have g4:W3.cell? ⟨g,4,none⟩ = some (.int .i64 t):=(blk_cell HS.out.blk 4).trans rfl
 have z4:=blk_frozen HS.out.blk 4
 go_still_tail 11,(by kernel_rfl)
 go_wp2_with fail

 go_end0
 rw [hq]
 exact ⟨rfl,(HS.out.put4 (wrap64 (t - wrap64 (m * tp)))).below (below_drew (Below.refl _ _)),below_drew (below_set (j:=4) (v:=.int .i64 (wrap64 (t - wrap64 (m * tp)))) HB.out HS.out.gb)⟩
end Go.Proofs.Ythmjimboajmhmaa.Pr

