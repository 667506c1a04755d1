/-
  Part 2 of the proof. gladstonelaw04.PileCount answers true for every list of numbers, and leaves its argument as it was. No conditions.
-/
import Derived.Test.YtidgnkmjgioapaaGreatG1
import Derived.Conc.CrowdTrace
import Derived.Conc.CrowdRun
import Derived.Orders
import Derived.WalkKit
import Derived.Conc.WgGenN3
set_option maxRecDepth 100000
set_option maxHeartbeats 8000000
set_option linter.all false
open Array renaming all_eq_true_iff_forall_mem → qaD,getD_eq_getD_getElem? → qau,getElem?_eq_getElem → q8B,getElem?_eq_some_iff → q3h,getElem?_setIfInBounds → q9A,getElem?_setIfInBounds_ne → qap,getElem_ofFn → qd9,mem_map → qdm,mem_of_getElem? → qaF,replicate → qa7
open Bool renaming and_eq_true → q85,false_eq_true → q9g,not_eq_true' → qbH,or_eq_true → qbC
open Classical renaming byContradiction → qb6,choose → qc9,choose_spec → qcs
open Go renaming Addr → qai,Calls → qa0,Code → qbs,CommCase → qch,CommShape → qbF,Deferred → qba,Event → qaz,Frame → q7n,FuncId → qam,GStep → qby,GoStatus → qc6,Goroutine → q4y,Item → qcG,MapEntry → qct,Next → qdb,Oper → qaG,Operand → qa4,Program → q7m,Question → qbe,TypeId → q7x,Value → q4k,World → q2v,callDeferred → qbd,deafBehind → qcc,doReturn → qbh,stepG → qag,step_lone_go → qdG,tryRecover → q92,undef → q4D
open Go.Conc renaming Deaf_other → qd2,aside_setCell → qdd,crowd → qcu,getElem?_append_cases → qdp,ofEvents_eq → qdh,runT_crowd_go → qdn,semEvents → qda,stepG_region_end → q4E,stepG_ret' → qbG,stepG_seq → q7j,stepG_skip → qay,touchAt → qdx,woken_quitsD → qdi
open Go.Conc.Goes renaming cases → qcp,rely → qcB,running → qbB,stop → qbi
open Go.ConcN renaming Mode → qdo,WgLive → qc2,get_map_set → qcy,get_map_set_same → qd6,sumTo → qdt,upd_ne → qd0,upd_same → qc8
open Go.ConcN.Gen.WgLive renaming cell0 → qdj,cell1 → qak
open Go.ConcR renaming mk → qbv,WgAt → qdD
open Go.Frame renaming enter → q9v,finish_at → qbl
open Go.GStep renaming after → qan
open Go.Instr renaming endRound → qc5
open Go.MemAct renaming ofEvent → qaE,touch? → qbo
open Go.MemOp renaming ofEvents → qbn
open Go.Region renaming Mode → qcz,binds → qah,ready → q7H,schedule → qdB,wanted → qac
open Go.Region.linearise renaming go → qa9
open Go.Sem renaming run → qar,runT_eq → q9h
open Go.stepG renaming apply → qaw,exec → qcg
open List renaming all_eq_true → qaf,append_assoc → qbr,cons_append → q8G,getElem?_append_left → q9p,getElem?_eq_none → qcd,length_cons → q7q,length_filter_le → qbA,mem_cons → qaH,mem_of_getElem? → q8u,mem_range → qbt,mem_toArray → qcl,nil_append → q9k,not_mem_nil → qb9,range → q99
open List.cons renaming injEq → qc7
open Nat renaming le_refl → q4u,le_trans → q6s,lt_of_lt_of_le → q7u,lt_or_ge → qb5,mul_lt_mul_of_pos_left → qdu,zero_add → q8l,zero_le → q9j
open Option renaming getD_some → q72,map_eq_some_iff → qd4,map_some → qaC
open Option.some renaming injEq → q9B
section
namespace Go.Sim
section
variable[JunkSet]{Q P:q7m}{base:Nat}{F:q4y->q2v->Prop}{f:qam}{real:List q7n}
theorem q4z{ρ:Ren}{b:q7n}(h:qu Q P ρ (qi f) b):b=qi f:=by
 obtain⟨fn,tmps,todo,defers,mode,kind,ro⟩:=b;obtain⟨h1,_,_,h4,h5,h6,h7,h8,h9⟩:=h;dsimp only[qi] at h1 h4 h5 h6 h7 h8 h9;have e4:tmps=#[]:=by
  have:=h4.1;exact Array.eq_empty_of_size_eq_zero (by simpa using this.symm)
 have e5:todo=[.code (.exit 0)]:=by
  cases h5 with
  | cons hx hk=>cases hx;cases hk;rfl
 have e6:defers=[{ target:=.nil,args:=#[] }]:=by
  cases h6 with
  | cons hx hk =>
   cases hk
   rename_i d
   obtain⟨t,a⟩:=d;rcases hx with⟨ht,ha⟩ | ⟨h1,_,_⟩
   case bound=>cases h1
   dsimp only at ht ha;cases ht;have:a=#[]:=Array.eq_empty_of_size_eq_zero (by simpa using ha.1.symm);rw[this]
 have e7:mode=.run:=by cases h7;rfl
 have e9:ro=none:=by
  rcases h9 with⟨_,h⟩ | ⟨_,_,h,_⟩
  ·exact h
  ·cases h
 subst e4 e5 e6 e7 e9;subst h1;subst h8;rfl
theorem kX{ρ:Ren}:∀{pre cs':List q7n},LsR (qu Q P ρ) (pre++[qi f]) cs'->∃pre',cs'=pre'++[qi f]/\LsR (qu Q P ρ) pre pre':=by
 intro pre;induction pre with
 | nil =>
  intro cs' h;cases h with
  | cons hx hk=>cases hk;exact⟨[],by rw[q4z hx];rfl,.nil⟩
 | cons p pre ih =>
  intro cs' h;cases h with
  | cons hx hk =>
   obtain⟨pre',e,hp⟩:=ih hk;exact⟨_::pre',by rw[e];rfl,.cons hx hp⟩
structure Sub(Q P:q7m)(base:Nat)(F:q4y->q2v->Prop)(f:qam)(real:List q7n)(ρ:Ren)(g:q4y)(wq:q2v)(g':q4y)(w:q2v):Prop where
 len:base<=ρ.length
 wr:WR Q base ρ wq w
 gl:Gl P ρ
 tree:LT Q F g wq
 stack:∃pre,g.callers=pre++[qi f]
 rel:∃gv,kw Q P ρ g gv/\g'=swap real gv
theorem Y4{ρ:Ren}{g gv:q4y}(h:kw Q P ρ g gv):q5A gv:=λr a k e=>by
 have:=h.frame.todo;rw[e] at this;generalize g.frame.todo=l at this;cases this with
 | cons hx _=>cases hx
theorem Sub.ret(H:Duo Q P){c:q7n}{ρ:Ren}{g:q4y}{wq:q2v}{g':q4y}{w:q2v}(h:Sub Q P base F f (c::real) ρ g wq g' w)(hcs:g.callers=[qi f]){T:Nat->qbe->Nat}{v:q4k}(hl:g.frame.leaving Q (wq.tp T) (.returned v))(b:Bool) :
  ∃σ wq1 v' w1 es,qag P b g' w true=.go { frame:=c.finish v',callers:=real,status:=.running,dying:=none } w1 es/\VR σ v v'/\WR Q base σ wq1 w1/\wq1=wq.tp T/\Eff base ρ σ w w1/\(∀e∈es,kz base σ e):=by
 obtain⟨gv,hg,rfl⟩:=h.rel;obtain⟨hm,hd,hk,fn,hfn,a7⟩:=hl;obtain⟨fr,cs,st,dy,off⟩:=g;obtain⟨Z,cs',st',dy',a9⟩:=gv;obtain⟨h1,h2,h3,h4,h5,h6⟩:=hg;dsimp only at h1 h2 h3 h4 h5 h6 hm hd hk hfn a7 hcs;subst h6;subst hcs;obtain⟨pre',hp,hl⟩:=kX (pre:=[]) h2;cases hl;have hp:cs'=[qi f]:=hp;subst hp;obtain⟨gf,b0,c8⟩:=h1.same;have c9:fn=gf:=by rw[hfn] at b0;exact Option.some.inj b0
 subst c9;have hm':Z.mode=.returning:=by
  have:=h1.mode;rw[hm] at this;generalize Z.mode=m at this;cases this;rfl
 have d7:Z.defers=[]:=by
  have:=h1.defers;rw[hd] at this;generalize Z.defers=m at this;cases this;rfl
 have hk':Z.kind=.normal:=h1.kind.trans hk;have hs:=Qz H h.gl fn h1.tmps (Q:=Q) (P:=P);have b8:=Dry.run Q (w:=wq.tp T) (J5 fn fr.tmps);have c3:WR Q base ρ (wq.tp T) w:=⟨h.wr.len,h.wr.nodup,h.wr.lt,h.wr.obj,h.wr.low,h.wr.env,h.wr.below,h.wr.gar⟩
 obtain⟨σ,d8,w2,a8,a6,hes,d5,b9,_,d6,_⟩:=SR.runs (es:=#[]) (D:=(wq.tp T).drawn) hs h.len c3 (λn q hn=>absurd hn (by omega)) (Nat.le_of_eq b8) (by rw[a7];trivial);rw[a7] at a6;have hst:∀{v'},qar P (results fn Z.tmps) w=.ok v' w2->qag P b (swap (c::real) { frame:=Z,callers:=[qi f],status:=st',dying:=none,offers:=a9 }) w true =
   .go { frame:=c.finish v',callers:=real,status:=.running,dying:=none } w2 (seen P Z.fn a8):=by
  intro v' hr;have b7:(results fn Z.tmps).events P w #[]=a8:=by
   show((results fn Z.tmps).runT P w #[]).2=a8;rw[hes];simp
  have b6:P.funcs[Z.fn]?=some fn:=by rw[h1.fn];exact c8
  simp[qag,swap,hm',unwind,d7,b6,q9h,hr,b7,qbh,hk',qan]
 generalize hr:qar P (results fn Z.tmps) w=r at a6;cases a6 with
 | ok _ _ hv=>exact⟨σ,_,_,w2,_,hst hr,hv,b9,rfl,d6,λe he=>d5 e (yY _ _ _ e he)⟩
theorem q1a{ρ:Ren}(hf:Q.inits.idxOf? f=none)(hs:∃g,Q.funcs[f]?=some g/\P.funcs[f]?=some g):qu Q P ρ (qi f) (qi f) :=
 ⟨rfl,hs,hf,⟨rfl,λi x y hx=>by simp[qi] at hx⟩,.cons (.code (.exit 0)) .nil,.cons (.mk .nil ⟨rfl,λi x y hx=>by simp at hx⟩) .nil,.run,rfl,.inl ⟨rfl,rfl⟩⟩
theorem Yt(H:Duo Q P){ρ:Ren}(hf:JunkSet.okf f)(hs:Q.funcs[f]?=P.funcs[f]?){a a':Array q4k}(ha:AsR ρ a a'):kw Q P ρ (jQ Q f a [qi f]) (jQ P f a' [qi f]):=by
 obtain⟨fq,fp,h1,h2,_⟩:=H.funcs f hf;have e:fp=fq:=by rw[h1,h2] at hs;exact(Option.some.inj hs).symm
 subst e;exact⟨enterR H hf hs ha .normal,.cons (q1a (H.inits f hf) ⟨fp,h1,h2⟩) .nil,rfl,rfl,rfl,rfl⟩
theorem Sub.enter(H:Duo Q P){ρ:Ren}(hf:JunkSet.okf f)(hs:Q.funcs[f]?=P.funcs[f]?){a a':Array q4k}(ha:AsR ρ a a'){wq w:q2v}(hb:base<=ρ.length)(hw:WR Q base ρ wq w)(hG:Gl P ρ)(ht:LT Q F (jQ Q f a [qi f]) wq) :
  Sub Q P base F f real ρ (jQ Q f a [qi f]) wq { frame:=q9v P f a' .normal,callers:=real,status:=.running,dying:=none } w :=
 ⟨hb,hw,hG,ht,⟨[],rfl⟩,jQ P f a' [qi f],Yt H hf hs ha,rfl⟩
end
end Go.Sim
end
section
namespace Go.Sim
section
variable[JunkSet]{Q:q7m}{ρ:Ren}{base:Nat}{wq w:q2v}
end
end Go.Sim
end
section
namespace Go.Sim
section
variable[JunkSet]{Q P:q7m}{base:Nat}{F:q4y->q2v->Prop}{f:qam}{real:List q7n}
structure KSub(Q P:q7m)(base:Nat)(F:q4y->q2v->Prop)(f:qam)(real:List q7n)(ρ:Ren)(fk:qam)(k:CallKind)(a a':Array q4k)(c c':q7n)(pre pre':List q7n)(wq w:q2v):Prop where
 len:base<=ρ.length
 wr:WR Q base ρ wq w
 gl:Gl P ρ
 tree:LT Q F { frame:=q9v Q fk a k,callers:=c::(pre++[qi f]),status:=.running,dying:=none } wq
 diff:Q.funcs[fk]?≠P.funcs[fk]?
 okf:JunkSet.okf fk
 args:AsR ρ a a'
 top:qu Q P ρ c c'
 rest:LsR (qu Q P ρ) pre pre'
theorem Sub.stepK(H:Duo Q P)(hrf:P.follows .rangeFuncRecover=true)(hR:∀fr,q92 fr real=none){ρ:Ren}{g:q4y}{wq:q2v}{g':q4y}{w:q2v}(h:Sub Q P base F f real ρ g wq g' w)(hn:¬ F g wq)(b:Bool)
  (hF:∀g u,F g u->g.callers≠[]) :
  ∃σ g1 wq1 g1' w1 es,qag P b g' w true=.go g1' w1 es/\Below Q F (g1,wq1) (g,wq)/\Eff base ρ σ w w1/\(∀e∈es,kz base σ e)/\Live g1' /\
   (Sub Q P base F f real σ g1 wq1 g1' w1\/∃fk k a a' c c' pre pre',KSub Q P base F f real σ fk k a a' c c' pre pre' wq1 w1 /\
    g1={ frame:=q9v Q fk a k,callers:=c::(pre++[qi f]),status:=.running,dying:=none } /\
    g1'={ frame:=q9v P fk a' k,callers:=c'::(pre'++real),status:=.running,dying:=none }):=by
 obtain⟨gv,hg,rfl⟩:=h.rel;obtain⟨pre,b0⟩:=h.stack;have hcs:=hg.callers;rw[b0] at hcs;obtain⟨pre',a9,_⟩:=kX hcs;obtain⟨σ,g1,wq1,b8,w1,es,k0,k1,k2,k3,k4,k5,k6,k7,k8,c3,hd1⟩:=Yd H h.len h.wr h.gl hg h.tree hn b;obtain⟨_,T,b6,e1⟩:=k6;dsimp only at e1;have c8:Q.follows .rangeFuncRecover=true:=H.rfr;have a8:g1.callers≠[]:=λa8=>by
  rcases xy (f:=f) c8 b0 hg.dy (wq.tp T) g1 wq1 b6 e1 c3 hd1 with⟨Z,hh⟩ | ⟨_,hp⟩
  ·rw[a8] at hh
   cases Z<;>simp at hh
  ·cases k5 with
   | done hh=>exact hF _ _ hh a8
   | step _ h1 _ =>
    obtain⟨g2,u2,d8,e2,_,_⟩:=h1 wq1.tape;obtain⟨d6,e4,d5,d9,b9⟩:=g1;dsimp only at a8 hp hd1;subst a8;subst hd1;obtain⟨o,u3,d7,h3⟩:=xC (Q:=Q) hp d5 b9 (wq1.tp wq1.tape);rw[h3] at e2;cases e2
 have hst:∃Z,g1.callers=Z++[qi f]:=by
  rcases xy (f:=f) c8 b0 hg.dy (wq.tp T) g1 wq1 b6 e1 c3 hd1 with hh | ⟨hh,_⟩
  ·exact hh
  ·exact absurd hh a8
 obtain⟨Z,a7⟩:=hst;rcases k1 with⟨_,k1⟩ | ⟨fk,k,a,a',c,c',cs,cs',hne,hok,rfl,rfl,ha,hc,hcs1,hm⟩
 ·have hcs1:=k1.callers
  rw[a7] at hcs1;obtain⟨a6,c9,_⟩:=kX hcs1;have b7:=Ki hrf hR (f:=f) a9 hg.dy' b b w b8 w1 es k0 ⟨k1.st',k1.dy'⟩ (by rw[c9];simp) (Y4 k1);exact⟨σ,g1,wq1,swap real b8,w1,es,b7,⟨hn,T,b6,e1⟩,k7,k8,⟨k1.st',k1.dy'⟩,.inl ⟨k4,k2,k3,k5,⟨Z,a7⟩,b8,k1,rfl⟩⟩
 ·cases Z with
  | nil =>
   exfalso;simp only[q9k,qc7] at a7;rw[a7.1] at hm;rcases hm with hm | hm
   ·exact hm rfl
   ·exact hm _ _ rfl
  | cons p Z =>
   simp only[q8G,qc7] at a7;obtain⟨rfl,rfl⟩:=a7;obtain⟨a6,rfl,hl⟩:=kX hcs1;have b7:=Ki hrf hR (f:=f) a9 hg.dy' b b w _ w1 es k0 ⟨rfl,rfl⟩ (by simp) (by intro r x l hx;unfold q9v at hx;simp at hx);refine⟨σ,_,wq1,_,w1,es,b7,⟨hn,T,b6,e1⟩,k7,k8,⟨rfl,rfl⟩,.inr ⟨fk,k,a,a',c,c',Z,a6,⟨k4,k2,k3,k5,hne,hok,ha,hc,hl⟩,rfl,?_⟩⟩;have:c'::(a6++[qi f])=(c'::a6)++[qi f]:=rfl;simp only[swap,this,List.dropLast_concat];rfl
end
end Go.Sim
end
section
namespace Go.Co
open Go.Conc Go.ConcN
inductive Cl where
 | mine (g:Nat)
 | ro (lo:Nat)
 | sync
def blk:Loc->Option Nat
 | .cell a=>some a.block
 | .obj r=>some r
 | _=>none
theorem blk_mem{l:Loc}(h:l.isMemory=true):∃b,blk l=some b:=by
 cases l<;>first | exact⟨_,rfl⟩ | cases h
structure Tr(cl:Nat->Cl)(n size:Nat)(t:Trace):Prop where
 inb:∀i a b,qdx t i=some a->blk a.loc=some b->b<size
 sync:∀i a b,qdx t i=some a->blk a.loc=some b->cl b=.sync->a.kind≠.plain/\(a.kind=.said->t.g? i=some 0)
 plain:∀i a b,qdx t i=some a->blk a.loc=some b->cl b≠.sync->a.kind=.plain
 mine:∀i a b g,qdx t i=some a->blk a.loc=some b->cl b=.mine g->Knows t g i
 ro:∀i a b lo,qdx t i=some a->blk a.loc=some b->cl b=.ro lo->a.write=true->Knows t 0 i/\∀g,lo<=g->g<n->Knows t g i
 nr:∀said,¬ Race said t
 gs:∀(i:Nat) (op:MemOp),t[i]?=some op->op.g<n
def MayT(cl:Nat->Cl)(size g:Nat)(x:Touch):Prop:=∀b,blk x.loc=some b->b<size /\
 ((cl b=.mine g/\x.kind=.plain)\/(∃lo,cl b=.ro lo/\(g=0\/lo<=g)/\x.write=false/\x.kind=.plain)\/(cl b=.sync/\x.kind≠.plain/\(x.kind=.said->g=0)))
def MayOp(cl:Nat->Cl)(size g:Nat)(op:MemOp):Prop:=op.g=g/\∀x,op.act.touch?=some x->MayT cl size g x
section
variable{cl cl':Nat->Cl}{n size size' g:Nat}{t u:Trace}
theorem yQ{i:Nat}{a:Touch}(h:qdx (t++u) i=some a):(i<t.size/\qdx t i=some a)\/(t.size<=i/\∃op,(t++u)[i]?=some op/\op∈u/\op.act.touch?=some a):=by
 obtain⟨x,hx,Z⟩:=touch_of h;rcases qdp hx with⟨hi,hx'⟩ | ⟨hi,hxu⟩
 ·exact .inl ⟨hi,by rw[touchAt_of hx'];exact Z⟩
 ·exact .inr ⟨hi,x,hx,hxu,Z⟩
theorem KW{i:Nat}{op:MemOp}(h:t[i]?=some op):t.g? i=some op.g:=by simp[Trace.g?,h]
theorem Tr.fresh'(h:Tr cl n size t){m:Nat}(hm:∀i a b,qdx t i=some a->blk a.loc=some b->b<m)(hc:∀b,b<m->cl' b=cl b):Tr cl' n size t :=
 ⟨h.inb,λi a b h1 h2 h3=>h.sync i a b h1 h2 (by rw[<- hc b (hm i a b h1 h2)];exact h3),λi a b h1 h2 h3=>h.plain i a b h1 h2 (by rw[<- hc b (hm i a b h1 h2)];exact h3),
  λi a b g h1 h2 h3=>h.mine i a b g h1 h2 (by rw[<- hc b (hm i a b h1 h2)];exact h3),
  λi a b lo h1 h2 h3=>h.ro i a b lo h1 h2 (by rw[<- hc b (hm i a b h1 h2)];exact h3),h.nr,h.gs⟩
theorem Tr.grow(h:Tr cl n size t)(hs:size<=size'):Tr cl n size' t :=
 ⟨λi a b h1 h2=>q7u (h.inb i a b h1 h2) hs,h.sync,h.plain,h.mine,h.ro,h.nr,h.gs⟩
theorem Tr.step(h:Tr cl n size t)(hg:g<n)(hu:∀op∈u,MayOp cl size g op):Tr cl n size (t++u):=by
 refine⟨λi a b h1 h2=>?_,λi a b h1 h2 h3=>?_,λi a b h1 h2 h3=>?_,λi a b g' h1 h2 h3=>?_,λi a b lo h1 h2 h3 h4=>?_,λsaid=>?_,λi op hi=>?_⟩
 ·rcases yQ h1 with⟨_,h1⟩ | ⟨_,op,_,hop,hx⟩
  ·exact h.inb i a b h1 h2
  ·exact((hu op hop).2 a hx b h2).1
 ·rcases yQ h1 with⟨hi,h1⟩ | ⟨_,op,ho,hop,hx⟩
  ·obtain⟨k1,k2⟩:=h.sync i a b h1 h2 h3
   exact⟨k1,λe=>by rw[g?_old hi];exact k2 e⟩
  ·rcases((hu op hop).2 a hx b h2).2 with⟨k,_⟩ | ⟨lo,k,_⟩ | ⟨_,k1,k2⟩
   ·rw[h3] at k;cases k
   ·rw[h3] at k;cases k
   ·exact⟨k1,λe=>by rw[KW ho,(hu op hop).1,k2 e]⟩
 ·rcases yQ h1 with⟨_,h1⟩ | ⟨_,op,ho,hop,hx⟩
  ·exact h.plain i a b h1 h2 h3
  ·rcases((hu op hop).2 a hx b h2).2 with⟨_,k⟩ | ⟨lo,_,_,_,k⟩ | ⟨k,_⟩
   ·exact k
   ·exact k
   ·exact absurd k h3
 ·rcases yQ h1 with⟨_,h1⟩ | ⟨_,op,ho,hop,hx⟩
  ·exact(h.mine i a b g' h1 h2 h3).app u
  ·rcases((hu op hop).2 a hx b h2).2 with⟨k,_⟩ | ⟨lo,k,_⟩ | ⟨k,_⟩
   ·rw[h3] at k
    cases k;have:=knows_own ho
    rwa [(hu op hop).1] at this
   ·rw[h3] at k;cases k
   ·rw[h3] at k;cases k
 ·rcases yQ h1 with⟨_,h1⟩ | ⟨_,op,ho,hop,hx⟩
  ·obtain⟨k1,k2⟩:=h.ro i a b lo h1 h2 h3 h4
   exact⟨k1.app u,λg' hl hn=>(k2 g' hl hn).app u⟩
  ·rcases((hu op hop).2 a hx b h2).2 with⟨k,_⟩ | ⟨lo,_,_,k,_⟩ | ⟨k,_⟩
   ·rw[h3] at k;cases k
   ·rw[h4] at k;cases k
   ·rw[h3] at k;cases k
 ·refine noRace_append (h.nr said) (λop hop=>(hu op hop).1) (λi a ha op hop b hb hc=>?_)
  obtain⟨a6,Z,a9,hk⟩:=hc;obtain⟨bb,hbb⟩:=blk_mem Z;have a7:blk b.loc=some bb:=by rw[<- a6];exact hbb
  rcases((hu op hop).2 b hb bb a7).2 with⟨k,_⟩ | ⟨lo,k,hgl,k1,_⟩ | ⟨k,k1,k2⟩
  ·exact h.mine i a bb g ha hbb k
  ·have b6:a.write=true:=a9.resolve_right (by simp[k1])
   obtain⟨m1,m2⟩:=h.ro i a bb lo ha hbb k b6;rcases hgl with rfl | hgl
   ·exact m1
   ·exact m2 g hgl hg
  ·obtain⟨m1,m2⟩:=h.sync i a bb ha hbb k
   rcases hk with hk | hk | ⟨_,hk,hk'⟩
   ·exact absurd hk m1
   ·exact absurd hk k1
   ·have e:=m2 hk
    have e':=k2 hk';obtain⟨z,hz,a8⟩:=qd4.1 e;have:=knows_own hz
    rwa [a8,<- e'] at this
 ·rcases qdp hi with⟨_,b0⟩ | ⟨_,hiu⟩
  ·exact h.gs i op b0
  ·rw[(hu op hiu).1];exact hg
theorem kT{x y:MemOp}{k:Nat}{p:Nat}(hx:x.g=p/\x.act=.go k)(hy:y.g=k/\y.act=.start){i:Nat}{a:Touch}(h:qdx (t++#[x,y]) i=some a):i<t.size/\qdx t i=some a:=by
 rcases yQ h with h | ⟨_,op,_,hop,hb⟩
 ·exact h
 ·simp only[qcl,qaH,qb9,or_false] at hop
  rcases hop with rfl | rfl
  ·rw[hx.2] at hb;cases hb
  ·rw[hy.2] at hb;cases hb
theorem Tr.fork(h:Tr cl n size t)(a6:0<n){x y:MemOp}(hx:x.g=0/\x.act=.go n)(hy:y.g=n/\y.act=.start)(hd:Deaf t 0=0):Tr cl (n+1) size (t++#[x,y]):=by
 have hk:Deaf t n=0:=Deaf_absent λi op hi e=>by have:=h.gs i op hi;omega
 refine⟨λi a b h1 h2=>h.inb i a b (kT hx hy h1).2 h2,λi a b h1 h2 h3=>?_,λi a b h1 h2 h3=>h.plain i a b (kT hx hy h1).2 h2 h3,λi a b g h1 h2 h3=>(h.mine i a b g (kT hx hy h1).2 h2 h3).app _,
  λi a b lo h1 h2 h3 h4=>?_,λsaid=>?_,λi op hi=>?_⟩
 ·obtain⟨hi,h1⟩:=kT hx hy h1
  obtain⟨k1,k2⟩:=h.sync i a b h1 h2 h3;exact⟨k1,λe=>by rw[g?_old hi];exact k2 e⟩
 ·obtain⟨k1,k2⟩:=h.ro i a b lo (kT hx hy h1).2 h2 h3 h4
  refine⟨k1.app _,λg hl hn=>?_⟩;rcases qb5 g n with hlt | hge
  ·exact(k2 g hl hlt).app _
  ·obtain rfl:g=n:=by omega
   exact fork_knows hx hy hd hk k1
 ·have hnt:∀op∈#[x,y],∀b,op.act.touch?=some b->False:=by
   intro op hop b hb;simp only[qcl,qaH,qb9,or_false] at hop;rcases hop with rfl | rfl
   ·rw[hx.2] at hb;cases hb
   ·rw[hy.2] at hb;cases hb
  have e:t++#[x,y]=(t++#[x])++#[y]:=by apply Array.ext';simp
  rw[e];exact noRace_append (g:=n) (noRace_append (g:=0) (h.nr said) (λop hop=>by simp at hop;rw[hop];exact hx.1) (λi a _ op hop b hb _=>(hnt op (by simp at hop ⊢;exact .inl hop) b hb).elim))
   (λop hop=>by simp at hop;rw[hop];exact hy.1) (λi a _ op hop b hb _=>(hnt op (by simp at hop ⊢;exact .inr hop) b hb).elim)
 ·rcases qdp hi with⟨_,Z⟩ | ⟨_,hiu⟩
  ·exact Nat.lt_succ_of_lt (h.gs i op Z)
  ·simp only[qcl,qaH,qb9,or_false] at hiu
   rcases hiu with rfl | rfl
   ·rw[hx.1];omega
   ·rw[hy.1];exact Nat.lt_succ_self _
theorem Tr.fork_deaf(h:Tr cl n size t){x y:MemOp}(hx:x.g=0/\x.act=.go n)(hy:y.g=n/\y.act=.start)(g:Nat):Deaf (t++#[x,y]) n=0/\Deaf (t++#[x,y]) g=Deaf t g:=by
 have hk:Deaf t n=0:=Deaf_absent λi op hi e=>by have:=h.gs i op hi;omega
 have key:∀g,Deaf (t++#[x,y]) g=Deaf t g:=λg=>by
  have:=Deaf_append t g [x,y];simp only[List.foldl_cons,List.foldl_nil] at this;rw[show t++#[x,y]=t++[x,y].toArray from rfl,this];simp only[deafStep,hx.2,hy.2]
 exact⟨by rw[key,hk],key g⟩
theorem Tr.recl(h:Tr cl n size t)(hc:∀b,b<size->cl' b=cl b\/(cl b=.mine 0/\cl' b=.ro n)\/(cl b≠.sync/\cl' b=.mine 0/\∀i a,qdx t i=some a->blk a.loc=some b->Knows t 0 i)\/(cl' b=.sync/\∀i a,qdx t i=some a->blk a.loc≠some b)):Tr cl' n size t:=by
 refine⟨h.inb,λi a b h1 h2 h3=>?_,λi a b h1 h2 h3=>?_,λi a b g h1 h2 h3=>?_,λi a b lo h1 h2 h3 h4=>?_,h.nr,h.gs⟩
 ·rcases hc b (h.inb i a b h1 h2) with e | ⟨_,e⟩ | ⟨_,e,_⟩ | ⟨_,e⟩
  ·exact h.sync i a b h1 h2 (e ▸ h3)
  ·rw[h3] at e;cases e
  ·rw[h3] at e;cases e
  ·exact absurd h2 (e i a h1)
 ·rcases hc b (h.inb i a b h1 h2) with e | ⟨k,_⟩ | ⟨k,_,_⟩ | ⟨e,_⟩
  ·exact h.plain i a b h1 h2 (e ▸ h3)
  ·exact h.plain i a b h1 h2 (by rw[k];simp)
  ·exact h.plain i a b h1 h2 k
  ·exact absurd e h3
 ·rcases hc b (h.inb i a b h1 h2) with e | ⟨_,e⟩ | ⟨_,e,k⟩ | ⟨e,_⟩
  ·exact h.mine i a b g h1 h2 (e ▸ h3)
  ·rw[h3] at e;cases e
  ·rw[h3] at e;cases e;exact k i a h1 h2
  ·rw[h3] at e;cases e
 ·rcases hc b (h.inb i a b h1 h2) with e | ⟨k,e⟩ | ⟨_,e,_⟩ | ⟨e,_⟩
  ·exact h.ro i a b lo h1 h2 (e ▸ h3) h4
  ·rw[h3] at e
   cases e;exact⟨h.mine i a b 0 h1 h2 k,λg hl hn=>by omega⟩
  ·rw[h3] at e;cases e
  ·rw[h3] at e;cases e
def Hd(lo:Nat)(t:Trace):Prop:=∀i g,t.g? i=some g->g≠0->g<lo->t.counts i->Knows t 0 i
theorem Hd.app{lo:Nat}(h:Hd lo t)(hu:∀op∈u,op.g=0\/lo<=op.g\/op.act.touch?=none):Hd lo (t++u):=by
 intro i g hg hne hlo hc;obtain⟨op,ho,a6⟩:=qd4.1 hg;rcases qdp ho with⟨hi,ho'⟩ | ⟨_,hou⟩
 ·exact(h i g (by rw[KW ho',a6]) hne hlo ((counts_old hi).1 hc)).app u
 ·rcases hu op hou with e | e | e
  ·rw[a6] at e;exact absurd e hne
  ·omega
  ·obtain⟨x,hx,_⟩:=hc
   obtain⟨y,hy,Z⟩:=touch_of hx;rw[ho] at hy;cases hy;rw[e] at Z;cases Z
theorem Hd.join{lo:Nat}{a:qai}(h:Hd lo t){q:Nat}(all:∀g,lo<=g->g≠0->(∃i,t.g? i=some g)->∃r,RelBy a t g r/\r<q)(hn:NoRelease a t)
  (hq:t.act? q=some (.mark (.acquire a))) (hg:t.g? q=some 0) (hh:t.heard q) (m:Nat):Hd m t:=by
 intro i g Z hne _ hc;rcases qb5 g lo with hlt | hge
 ·exact h i g Z hne hlt hc
 ·obtain⟨r,hr,a8⟩:=all g hge hne ⟨i,Z⟩
  have a6:HappensBefore t r q:=.single (.inr ⟨.marked a8 (.inr hr.act) hq (λk _ _=>hn k),hr.heard,hh⟩);have hle:i<=r:=Nat.le_of_not_lt λhlt=>hr.after i hlt Z hc;obtain⟨z,hz,a7⟩:=qd4.1 hg;refine⟨q,z,hz,a7,.inr ?_⟩;rcases qb5 i r with hlt | hge
  ·exact .trans (.single (.inl ⟨hlt,g,Z,hr.g⟩)) a6
  ·obtain rfl:i=r:=by omega
   exact a6
theorem Tr.known0(h:Tr cl n size t){m:Nat}(hd:Hd m t)(hm:n<=m){i:Nat}{a:Touch}{b:Nat}(h1:qdx t i=some a)(h2:blk a.loc=some b)(h3:cl b≠.sync):Knows t 0 i:=by
 obtain⟨x,hx,Z⟩:=touch_of h1;by_cases e:x.g=0
 ·have:=knows_own hx
  rwa [e] at this
 ·refine hd i x.g (KW hx) e (q7u (h.gs i x hx) hm) ⟨a,h1,?_,.inl ?_⟩
  ·cases hl:a.loc<;>rw[hl] at h2<;>first | rfl | cases h2
  ·rw[h.plain i a b h1 h2 h3];decide
theorem q6y{m:Nat}(hd:Hd m t)(a6:∀(i:Nat) (op:MemOp),t[i]?=some op->op.g<m):t.HandedOver:=by
 intro i g hg hne hc;obtain⟨op,ho,Z⟩:=qd4.1 hg;obtain⟨q,z,h1,h2,h3⟩:=hd i g hg hne (by rw[<- Z];exact a6 i op ho) hc;refine⟨q,by rw[KW h1,h2],?_⟩;rcases h3 with rfl | h3
 ·rw[ho] at h1
  cases h1;exact absurd (Z.symm.trans h2) hne
 ·exact h3
end
end Go.Co
end
section
namespace Go.Co
open Go.Conc Go.ConcN
open Go.ConcR (loc_of_ofEvent deafBehind_cons deafBehind_one g_of_ofEvents ofEvent_loc_mark)
def Ends(P:q7m)(Post:q4k->q2v->Prop)(m:Machine)(t:Trace):Prop :=
 ∃N last o w' t',runNT P (N+1) m t=(.ended o w',t')/\runN P N m=.next last/\step P last=.ended o w'/\Go.Conc.Good P Post last o w' t'
section
variable{P:q7m}{Post:q4k->q2v->Prop}{m m':Machine}{t:Trace}{ops:Array MemOp}
theorem Ends.next(hs:stepT P m=(.next m',ops))(h:Ends P Post m' (t++ops)):Ends P Post m t:=by
 obtain⟨N,last,o,w,t',h1,h2,h3,h4⟩:=h;exact⟨N+1,last,o,w,t',by rw[runNT_succ_next hs];exact h1,by rw[runN_succ_next hs];exact h2,h3,h4⟩
theorem Ends.ended{o:Outcome}{w:q2v}(hs:stepT P m=(.ended o w,ops))(h:Go.Conc.Good P Post m o w (t++ops)):Ends P Post m t :=
 ⟨0,m,o,w,t++ops,by simp[runNT,hs],rfl,by simp[step,hs],h⟩
end
def EvG(cl:Nat->Cl)(size g:Nat)(e:qaz):Prop:=(∀x,(qaE e).touch?=some x->MayT cl size g x)
def jm(e:qaz):Prop:=e.loc≠.mark .disable/\e.loc≠.mark .enable/\∀a,e.loc≠.mark (.release a)
section
variable{cl:Nat->Cl}{n size g d:Nat}{t:Trace}{es:Array qaz}{fn:qam}{pos:String}
theorem ZE(h:∀e∈es,EvG cl size g e):∀op∈qbn g fn pos es,MayOp cl size g op:=by
 intro op hop;rw[qdh] at hop;obtain⟨e,he,rfl⟩:=qdm.1 hop;exact⟨rfl,h e he⟩
theorem deafBehind_idle{es:Array qaz}(h:∀e∈es,jm e)(d:Nat):qcc d es=d:=by
 obtain⟨l⟩:=es;induction l with
 | nil=>rfl
 | cons e l ih =>
  rw[deafBehind_cons,deafBehind_one (h e (by simp)).1 (h e (by simp)).2.1];exact ih λx hx=>h x (by simp at hx ⊢;exact .inr hx)
theorem Y5{e:qaz}(h:e.mute=true):(qaE e).touch?=none:=by
 obtain⟨Z,wr,sy⟩:=e;cases Z with
 | mark m=>cases m<;>first | rfl | cases h
 | _=>cases h
theorem Qm{es:Array qaz}(h:∀e∈es,e.mute=true):∀op∈qbn g fn pos es,op.g=g/\op.act.touch?=none:=by
 intro op hop;rw[qdh] at hop;obtain⟨e,he,rfl⟩:=qdm.1 hop;exact⟨rfl,Y5 (h e he)⟩
end
section
variable{g:Nat}{es:Array qaz}{fn:qam}{pos:String}
theorem q8F{a:qai}{es:Array qaz}(h:∀e∈es,e.mute=true):∀op∈qbn g fn pos es,op.act≠.mark (.release a):=by
 intro op hop hm;rw[qdh] at hop;obtain⟨x,hx,rfl⟩:=qdm.1 hop;have h1:=h x hx;have h2:=loc_of_ofEvent hm;obtain⟨Z,wr,sy⟩:=x;simp only at h2;subst h2;cases h1
theorem KD{a:qai}{es:Array qaz}(h:∀e∈es,jm e):∀op∈qbn g fn pos es,op.act≠.mark (.release a):=by
 intro op hop hm;rw[qdh] at hop;obtain⟨x,hx,rfl⟩:=qdm.1 hop;exact(h x hx).2.2 a (loc_of_ofEvent hm)
end
structure Al(P:q7m)(cl:Nat->Cl)(gs:Array q4y)(w:q2v)(t:Trace)(g0:q4y)(fu:Nat->Nat):Prop where
 main:gs[0]?=some g0
 lv:∀i,1<=i->i<gs.size->∃g,gs[i]?=some g/\QuitsD P (fu i) (Deaf t i) g
 tr:Tr cl gs.size w.heap.size t
 cl0:∀b,w.heap.size<=b->cl b=.mine 0
 d0:Deaf t 0=0
 hd:Hd gs.size t
 nor:∀a,NoRelease a t
def E(P:q7m)(Post:q4k->q2v->Prop)(cl:Nat->Cl)(g0:q4y)(w:q2v):Prop :=
 ∀gs sl t fu,Al P cl gs w t g0 fu->Ends P Post (qcu gs w sl) t
section
variable{P:q7m}{Post:q4k->q2v->Prop}{cl:Nat->Cl}{gs:Array q4y}{w:q2v}{t:Trace}{g0:q4y}{fu:Nat->Nat}{sl:Option (Nat × Nat)}
theorem Al.at(h:Al P cl gs w t g0 fu)(d:Nat):Al P cl gs (w.at d) t g0 fu:=⟨h.main,h.lv,h.tr,h.cl0,h.d0,h.hd,h.nor⟩
theorem ZU{q d:Nat}{g:q4y}(h:QuitsD P q d g):awake g:=by
 intro tm;rcases h.status with e | e<;>rw[e]<;>simp
theorem Al.awake(h:Al P cl gs w t g0 fu)(h0:g0.status=.running):∀g∈gs,Go.Conc.awake g:=by
 intro g hg;obtain⟨i,hi⟩:=Array.mem_iff_getElem?.1 hg;cases i with
 | zero =>
  rw[h.main] at hi;cases hi;intro tm;rw[h0];simp
 | succ i =>
  obtain⟨g',Z,hq⟩:=h.lv (i+1) (by omega) (q3h.1 hi).1;rw[hi] at Z;cases Z;exact ZU hq
theorem Al.leave(h:Al P cl gs w t g0 fu)(h0:g0.status=.running){i:Nat}{g:q4y}(h1:1<=i)(hg:gs[i]?=some g)(hr:g.status=.running) :
  ∃gs' ops q,runT P (qcu gs w sl) i=(.next (qcu gs' w sl),ops)/\gs'.size=gs.size/\q<fu i/\Al P cl gs' w (t++ops) g0 (upd fu i q):=by
 have hi:=(q3h.1 hg).1;obtain⟨g',a7,hq⟩:=h.lv i h1 hi;rw[hg] at a7;cases a7;cases hf:fu i with
 | zero=>rw[hf] at hq;rw[hq.1] at hr;cases hr
 | succ q =>
  rw[hf] at hq;rcases hq with⟨hx,_⟩ | ⟨_,g1,es,hmute,hstep,hq⟩
  ·rw[hr] at hx;cases hx
  ·have a6:=qdn (P:=P) (sl:=sl) (i:=i) hg (by rw[show(i == 0)=false by simp;omega];exact hstep w)
   have hsz:((gs.map (woken P g g1 w)).setIfInBounds i g1).size=gs.size:=by simp
   have hops:=Qm (g:=i) (fn:=g.frame.fn) (pos:=g.frame.place) hmute;refine⟨_,_,q,a6,hsz,Nat.lt_succ_self q,?_,?_,?_,h.cl0,?_,?_,λa=>(h.nor a).app (q8F hmute)⟩
   ·rw[qcy _ _ _ _ (by omega),h.main,qaC]
    unfold woken;split
    ·rw[again_running _ (.inl h0)]
    ·rfl
   ·intro j a8 hj
    rw[hsz] at hj;by_cases e:j=i
    ·subst e
     refine⟨g1,qd6 _ _ _ hi,?_⟩;rw[qc8,Deaf_own];exact hq
    ·obtain⟨x,hx,Z⟩:=h.lv j a8 hj
     refine⟨x,?_,?_⟩
     ·rw[qcy _ _ _ _ (by omega),hx,qaC,qdi Z]
     ·rw[qd0 _ _ e,qd2 t (Ne.symm e) _ λop hop=>(hops op hop).1]
      exact Z
   ·rw[hsz]
    exact h.tr.step hi λop hop=>⟨(hops op hop).1,λx hx=>by rw[(hops op hop).2] at hx;cases hx⟩
   ·rw[qd2 t (by omega:i≠(0:Nat)) _ λop hop=>(hops op hop).1]
    exact h.d0
   ·rw[hsz]
    exact h.hd.app λop hop=>.inr (.inr (hops op hop).2)
theorem q0f{fu:Nat->Nat}{i q n:Nat}(hi:i<n)(h:q<fu i):qdt n (λa=>upd fu i q a)<qdt n fu:=by
 have:=sumTo_upd fu q id hi;simp only[id] at this;have e:(qdt n λa=>fu a)=qdt n fu:=rfl;omega
theorem E.stepC(hs:g0.status=.running)(h:∀d,∃g' w' es cl',qag P true g0 (w.at d)=.go g' w' es/\w.heap.size<=w'.heap.size/\(∀b,b<w.heap.size->cl' b=cl b)/\(∀b,w'.heap.size<=b->cl' b=.mine 0)/\(∀e∈es,EvG cl' w'.heap.size 0 e/\jm e)/\E P Post cl' g' w'):E P Post cl g0 w:=by
 have key:∀(N:Nat) (gs:Array q4y) (sl:Option (Nat × Nat)) (t:Trace) (fu:Nat->Nat) (d0:Nat),qdt gs.size fu=N->Al P cl gs (w.at d0) t g0 fu->Ends P Post (qcu gs (w.at d0) sl) t:=by
  intro N;induction N using Nat.strongRecOn with
  | _ N ih =>
   intro gs sl t fu d0 hN hA;obtain⟨i,g,d,a7,hg,hr,hst⟩:=crowd_pick (P:=P) (w:=w.at d0) (sl:=sl) (hA.awake hs) ⟨0,g0,hA.main,hs⟩;have hi:=(q3h.1 hg).1;cases i with
   | zero =>
    rw[hA.main] at hg;cases hg;obtain⟨g',w',es,cl',b9,hsz,b6,b7,a8,hE⟩:=h d;have b0:qag P ((0:Nat) == 0) g0 ((w.at d0).at d)=.go g' w' es:=b9;have a6:=qdn (P:=P) (sl:=a7) (i:=0) hA.main b0;rw[a6] at hst;refine Ends.next hst (hE _ _ _ fu ?_)
    have Z:((gs.map (woken P g0 g' w')).setIfInBounds 0 g').size=gs.size:=by simp
    have hlt:0<gs.size:=hi;have hops:∀op∈qbn 0 g0.frame.fn g0.frame.place es,op.g=0:=g_of_ofEvents;refine⟨qd6 _ _ _ hlt,?_,?_,b7,?_,?_,λa=>(hA.nor a).app (KD λe he=>(a8 e he).2)⟩
    ·intro j b8 hj
     rw[Z] at hj;obtain⟨x,hx,a9⟩:=hA.lv j b8 hj;refine⟨x,?_,?_⟩
     ·rw[qcy _ _ _ _ (by omega),hx,qaC,qdi a9]
     ·rw[qd2 t (by omega:(0:Nat)≠j) _ hops]
      exact a9
    ·rw[Z]
     exact((hA.tr.grow hsz).fresh' (m:=w.heap.size) hA.tr.inb b6).step hlt (ZE λe he=>(a8 e he).1)
    ·rw[Deaf_own,deafBehind_idle λe he=>(a8 e he).2]
     exact hA.d0
    ·rw[Z]
     exact hA.hd.app λop hop=>.inl (hops op hop)
   | succ i =>
    obtain⟨gs',ops,q,a6,hsz,hq,c3⟩:=(hA.at d).leave (sl:=a7) hs (by omega) hg hr;rw[a6] at hst;exact Ends.next hst (ih _ (by rw[<- hN,hsz];exact q0f hi hq) gs' a7 _ _ d rfl c3)
 intro gs sl t fu hA;exact key _ gs sl t fu w.drawn rfl hA
theorem E.step(hs:g0.status=.running)(h:∀d,∃g' w' es,qag P true g0 (w.at d)=.go g' w' es/\w.heap.size<=w'.heap.size/\(∀e∈es,EvG cl w'.heap.size 0 e/\jm e)/\E P Post cl g' w'):E P Post cl g0 w:=by
 have key:∀(N:Nat) (gs:Array q4y) (sl:Option (Nat × Nat)) (t:Trace) (fu:Nat->Nat) (d0:Nat),qdt gs.size fu=N->Al P cl gs (w.at d0) t g0 fu->Ends P Post (qcu gs (w.at d0) sl) t:=by
  intro N;induction N using Nat.strongRecOn with
  | _ N ih =>
   intro gs sl t fu d0 hN hA;obtain⟨i,g,d,a7,hg,hr,hst⟩:=crowd_pick (P:=P) (w:=w.at d0) (sl:=sl) (hA.awake hs) ⟨0,g0,hA.main,hs⟩;have hi:=(q3h.1 hg).1;cases i with
   | zero =>
    rw[hA.main] at hg;cases hg;obtain⟨g',w',es,b7,hsz,a8,hE⟩:=h d;have b0:qag P ((0:Nat) == 0) g0 ((w.at d0).at d)=.go g' w' es:=b7;have a6:=qdn (P:=P) (sl:=a7) (i:=0) hA.main b0;rw[a6] at hst;refine Ends.next hst (hE _ _ _ fu ?_)
    have Z:((gs.map (woken P g0 g' w')).setIfInBounds 0 g').size=gs.size:=by simp
    have hlt:0<gs.size:=hi;have hops:∀op∈qbn 0 g0.frame.fn g0.frame.place es,op.g=0:=g_of_ofEvents;refine⟨qd6 _ _ _ hlt,?_,?_,λb hb=>hA.cl0 b (q6s hsz hb),?_,?_,λa=>(hA.nor a).app (KD λe he=>(a8 e he).2)⟩
    ·intro j b6 hj
     rw[Z] at hj;obtain⟨x,hx,a9⟩:=hA.lv j b6 hj;refine⟨x,?_,?_⟩
     ·rw[qcy _ _ _ _ (by omega),hx,qaC,qdi a9]
     ·rw[qd2 t (by omega:(0:Nat)≠j) _ hops]
      exact a9
    ·rw[Z]
     exact(hA.tr.grow hsz).step hlt (ZE λe he=>(a8 e he).1)
    ·rw[Deaf_own,deafBehind_idle λe he=>(a8 e he).2]
     exact hA.d0
    ·rw[Z]
     exact hA.hd.app λop hop=>.inl (hops op hop)
   | succ i =>
    obtain⟨gs',ops,q,a6,hsz,hq,b8⟩:=(hA.at d).leave (sl:=a7) hs (by omega) hg hr;rw[a6] at hst;exact Ends.next hst (ih _ (by rw[<- hN,hsz];exact q0f hi hq) gs' a7 _ _ d rfl b8)
 intro gs sl t fu hA;exact key _ gs sl t fu w.drawn rfl hA
theorem E.done(hs:g0.status=.running)(h:∀d,∃v w' es,qag P true g0 (w.at d)=.ended (.done v) w' es/\(∀e∈es,EvG cl w.heap.size 0 e/\jm e)/\Post v w'):E P Post cl g0 w:=by
 have key:∀(N:Nat) (gs:Array q4y) (sl:Option (Nat × Nat)) (t:Trace) (fu:Nat->Nat) (d0:Nat),qdt gs.size fu=N->Al P cl gs (w.at d0) t g0 fu->Ends P Post (qcu gs (w.at d0) sl) t:=by
  intro N;induction N using Nat.strongRecOn with
  | _ N ih =>
   intro gs sl t fu d0 hN hA;obtain⟨i,g,d,a7,hg,hr,hst⟩:=crowd_pick (P:=P) (w:=w.at d0) (sl:=sl) (hA.awake hs) ⟨0,g0,hA.main,hs⟩;have hi:=(q3h.1 hg).1;cases i with
   | zero =>
    rw[hA.main] at hg;cases hg;obtain⟨v,w',es,b7,b0,hP⟩:=h d;have a9:qag P ((0:Nat) == 0) g0 ((w.at d0).at d)=.ended (.done v) w' es:=b7;have hlt:0<gs.size:=hi;have Z:runT P (qcu gs ((w.at d0).at d) a7) 0=(.ended (.done v) w',qbn 0 g0.frame.fn g0.frame.place es):=by
     have h0:=hA.main;obtain⟨_,h0⟩:=q3h.1 h0;subst h0;have b6:=swapAt_of_lt hlt { (default:q4y) with status:=.finished };show runT P { world:=(w.at d0).at d,gs:=gs,rest:={ timers:=#[],alone:=none,slice:=a7 } } 0=_;unfold runT;simp only[b6,a9,GStep.es]
    rw[Z] at hst;have hops:∀op∈qbn 0 g0.frame.fn g0.frame.place es,op.g=0:=g_of_ofEvents;refine Ends.ended hst ⟨v,rfl,hP,?_,?_,⟨?_,rfl⟩,?_⟩
    ·exact(hA.tr.step hlt (ZE λe he=>(b0 e he).1)).nr
    ·exact q6y (hA.hd.app λop hop=>.inl (hops op hop)) λi op hi=>(hA.tr.step hlt (ZE λe he=>(b0 e he).1)).gs i op hi
    ·intro x hx
     obtain⟨j,hj⟩:=List.mem_iff_getElem?.1 hx;rw[List.getElem?_drop] at hj;have a6:gs[1+j]?=some x:=by simpa[qcu] using hj
     obtain⟨y,hy,a8⟩:=hA.lv (1+j) (by omega) (q3h.1 a6).1;rw[a6] at hy;cases hy;exact⟨_,a8.leaves⟩
    ·intro j x hj hne
     have a6:gs[j]?=some x:=hj;obtain⟨y,hy,a8⟩:=hA.lv j (by omega) (q3h.1 a6).1;rw[a6] at hy;cases hy;refine⟨fu j,?_⟩;have:=qd2 t (Ne.symm hne) _ hops;unfold Deaf at this a8;rw[this];exact a8.hears _
   | succ i =>
    obtain⟨gs',ops,q,Z,hsz,hq,b8⟩:=(hA.at d).leave (sl:=a7) hs (by omega) hg hr;rw[Z] at hst;exact Ends.next hst (ih _ (by rw[<- hN,hsz];exact q0f hi hq) gs' a7 _ _ d rfl b8)
 intro gs sl t fu hA;exact key _ gs sl t fu w.drawn rfl hA
theorem E.solo(h:E P Post cl g0 w)(hc:∀b,cl b=.mine 0):Ends P Post (solo g0 w) #[]:=by
 rw[solo_eq_crowd];refine h #[g0] none #[] (λ_=>0) ⟨rfl,λi h1 hi=>by simp at hi;omega,?_,λb _=>hc b,rfl,λi g hg=>by simp[Trace.g?] at hg,λa i hi=>by simp[Trace.act?] at hi⟩;refine⟨λi a b ha=>?_,λi a b ha=>?_,λi a b ha=>?_,λi a b g ha=>?_,λi a b lo ha=>?_,noRace_nil,λi op hi=>by simp at hi⟩<;>simp[qdx,Trace.act?] at ha
end
end Go.Co
end
section
namespace Go.Co
open Go.Conc Go.ConcN Go.Sim
def ky(cl:Nat->Cl)(ρ:Ren):Prop:=∀i j,BR ρ i j->cl j=.mine 0
structure yI(β N:Nat)(W:q2v)(ρ:Ren)(w:q2v):Prop where
 old:∀j,j<W.heap.size->(∀i,BR ρ i j->i<β)->w.heap[j]?=W.heap[j]?
 os:w.os=W.os
 output:w.output=W.output
 size:W.heap.size<=w.heap.size
 inn:∀i j,BR ρ i j->β<=i->N<=j
 nsz:N<=w.heap.size
section
variable[JunkSet]{Q P:q7m}{F:q4y->q2v->Prop}{f:qam}{real:List q7n}{Post:q4k->q2v->Prop}{W:q2v}{β N:Nat}
theorem yI.step{ρ σ:Ren}{w w1:q2v}(h:yI β N W ρ w)(he:Eff β ρ σ w w1):yI β N W σ w1 where
 old j hj hn:=by
  have Z:∀i,BR ρ i j->i<β:=λi hi=>hn i (hi.mono he.le);rw[he.keep j (q7u hj h.size) Z,h.old j hj Z]
 os:=he.os.trans h.os
 output:=he.output.trans h.output
 size:=q6s h.size he.size
 inn i j hij hi:=by
  rcases qb5 i ρ.length with hlt | hge
  ·exact h.inn i j (BR.back he.le hij hlt) hi
  ·exact q6s h.nsz (he.fresh i j hij hge)
 nsz:=q6s h.nsz he.size
theorem yI.at{ρ:Ren}{w:q2v}(h:yI β N W ρ w)(d:Nat):yI β N W ρ (w.at d):=⟨h.old,h.os,h.output,h.size,h.inn,h.nsz⟩
theorem ky.step{cl:Nat->Cl}{ρ σ:Ren}{w w1:q2v}{base:Nat}(h:ky cl ρ)(he:Eff base ρ σ w w1)(hc:∀b,w.heap.size<=b->cl b=.mine 0):ky cl σ:=by
 intro i j hij;rcases qb5 i ρ.length with hlt | hge
 ·obtain⟨⟨τ,rfl⟩,_⟩:=he.le
  refine h i j ?_;unfold BR at hij ⊢
  rwa [q9p hlt] at hij
 ·exact hc j (he.fresh i j hij hge)
theorem kH{cl:Nat->Cl}{σ:Ren}{wq w:q2v}{base:Nat}(ho:ky cl σ)(hw:WR Q base σ wq w){e:qaz}(h:kz base σ e):EvG cl w.heap.size 0 e/\jm e:=by
 cases h with
 | @cell i j off spot wr h1 _ _ =>
  refine⟨λx hx b hb=>?_,by simp[jm],by simp,by simp⟩;have hx':x=⟨.cell ⟨j,off,spot⟩,wr,.plain⟩:=by cases wr<;>(simp[qaE,qbo] at hx;exact hx.symm)
  subst hx';simp only[blk,q9B] at hb;subst hb;exact⟨hw.lt _ _ h1,.inl ⟨ho _ _ h1,rfl⟩⟩
 | @obj i j wr h1 _ =>
  refine⟨λx hx b hb=>?_,by simp[jm],by simp,by simp⟩;have hx':x=⟨.obj j,wr,.plain⟩:=by cases wr<;>(simp[qaE,qbo] at hx;exact hx.symm)
  subst hx';simp only[blk,q9B] at hb;subst hb;exact⟨hw.lt _ _ h1,.inl ⟨ho _ _ h1,rfl⟩⟩
 | noRoom=>exact⟨λx hx=>by simp[qaE,qbo] at hx,by simp[jm],by simp,by simp⟩
 | env =>
  refine⟨λx hx b hb=>?_,by simp[jm],by simp,by simp⟩;have hx':x=⟨.output,true,.plain⟩:=by simp[qaE,qbo] at hx;exact hx.symm
  subst hx';cases hb
theorem wr_at{ρ:Ren}{base:Nat}{wq w:q2v}(h:WR Q base ρ wq w)(d:Nat):WR Q base ρ wq (w.at d):=⟨h.len,h.nodup,h.lt,h.obj,h.low,h.env,h.below,h.gar⟩
theorem q0g{ρ:Ren}{base:Nat}{g g':q4y}{wq w:q2v}(h:Sub Q P base F f real ρ g wq g' w)(d:Nat):Sub Q P base F f real ρ g wq g' (w.at d):=⟨h.len,wr_at h.wr d,h.gl,h.tree,h.stack,h.rel⟩
theorem kB{ρ:Ren}{base:Nat}{g g':q4y}{wq w:q2v}(h:Sub Q P base F f real ρ g wq g' w):g'.status=.running:=by
 obtain⟨gv,hg,rfl⟩:=h.rel;exact hg.st'
theorem E.sub{Cp:(Nat->Cl)->Prop}(H:Duo Q P)(hrf:P.follows .rangeFuncRecover=true)(hR:∀fr,q92 fr real=none)(hF:∀g u,F g u->g.callers≠[])
  (hstop:∀ρ g wq g' w cl,Sub Q P β F f real ρ g wq g' w->F g wq->ky cl ρ->(∀b,w.heap.size<=b->cl b=.mine 0)->yI β N W ρ w->Cp cl->E P Post cl g' w)
  (hK:∀ρ fk k a a' c c' pre pre' wq w cl,KSub Q P β F f real ρ fk k a a' c c' pre pre' wq w->ky cl ρ->(∀b,w.heap.size<=b->cl b=.mine 0)->yI β N W ρ w->Cp cl ->
   (∀σ g2 a6 a9 w2 Z,Sub Q P β F f real σ g2 a6 a9 w2->ky Z σ->(∀b,w2.heap.size<=b->Z b=.mine 0)->yI β N W σ w2->Cp Z ->
    Relation.TransGen (Below Q F) (g2,a6) ({ frame:=q9v Q fk a k,callers:=c::(pre++[qi f]),status:=.running,dying:=none },wq)->E P Post Z a9 w2) ->
   E P Post cl { frame:=q9v P fk a' k,callers:=c'::(pre'++real),status:=.running,dying:=none } w)
  {ρ:Ren} {g g':q4y} {wq w:q2v} {cl:Nat->Cl} (h:Sub Q P β F f real ρ g wq g' w) (ho:ky cl ρ) (hc:∀b,w.heap.size<=b->cl b=.mine 0) (hk:yI β N W ρ w) (hp:Cp cl):E P Post cl g' w:=by
 have a7:Acc (Relation.TransGen (Below Q F)) (g,wq):=h.tree.acc.transGen;generalize hx:(g,wq)=x at a7;induction a7 generalizing ρ g wq g' w cl with
 | intro x _ ih =>
  subst hx;by_cases hn:F g wq
  ·exact hstop ρ g wq g' w cl h hn ho hc hk hp
  ·refine E.step (kB h) λd=>?_
   obtain⟨σ,g1,wq1,g1',w1,es,h1,h2,h3,h4,_,h6⟩:=(q0g h d).stepK H hrf hR hn true hF;have a8:ky cl σ:=ho.step (w:=w.at d) h3 hc;have b6:∀b,w1.heap.size<=b->cl b=.mine 0:=λb hb=>hc b (q6s h3.size hb);have b0:yI β N W σ w1:=yI.step (w:=w.at d) (hk.at d) h3;have b7:WR Q β σ wq1 w1:=by
    rcases h6 with h6 | ⟨_,_,_,_,_,_,_,_,h6,_⟩
    ·exact h6.wr
    ·exact h6.wr
   refine⟨g1',w1,es,h1,h3.size,λe he=>kH a8 b7 (h4 e he),?_⟩;rcases h6 with h6 | ⟨fk,k,a,a',c,c',pre,pre',h6,rfl,rfl⟩
   ·exact ih (g1,wq1) (.single h2) h6 a8 b6 b0 hp rfl
   ·exact hK σ fk k a a' c c' pre pre' wq1 w1 cl h6 a8 b6 b0 hp λσ2 g2 a6 a9 w2 Z s1 s2 s3 s4 s6 s5=>ih (g2,a6) (s5.tail h2) s1 s2 s3 s4 s6 rfl
end
end Go.Co
end
section
namespace Go.Co
open Go.Conc Go.ConcN Go.Sim
abbrev Bs:=Nat->Prop
structure St where
 S:Bs
 g:q4y
 w:q2v
inductive Rk where
 | leaf
 | nd (f:St->Rk)
def Rk.sub:Rk->Rk->Prop
 | _,.leaf=>False
 | x,.nd f=>∃s,x=f s
theorem Rk.acc:∀r:Rk,Acc Rk.sub r
 | .leaf=>.intro _ λ_ h=>h.elim
 | .nd f=>.intro _ λ_ ⟨s,e⟩=>e ▸ Rk.acc (f s)
def grow(S:Bs)(w w':q2v):Bs:=λb=>S b\/(w.heap.size<=b/\b<w'.heap.size)
structure RC(Fz:Bs)(K:q2v->q2v->Prop)(S:Bs)(w w₁:q2v):Prop where
 own:∀b,S b->w₁.heap[b]?=w.heap[b]?
 fz:∀b,Fz b->w₁.heap[b]?=w.heap[b]?
 size:w.heap.size<=w₁.heap.size
 os:w₁.os=w.os
 output:w₁.output=w.output
 k:K w w₁
def EvC(Fz S:Bs)(size:Nat)(e:qaz):Prop :=
 jm e/\(∀m,e.loc=.mark m->m=.noRoom)/\∀x,(qaE e).touch?=some x->∀b,blk x.loc=some b->b<size/\x.kind=.plain/\(S b\/(Fz b/\x.write=false))
structure DC(Fz:Bs)(S:Bs)(w w':q2v)(es:Array qaz):Prop where
 keep:∀b,b<w.heap.size->¬ S b->w'.heap[b]?=w.heap[b]?
 size:w.heap.size<=w'.heap.size
 os:w'.os=w.os
 output:w'.output=w.output
 evs:∀e∈es,EvC Fz (grow S w w') w'.heap.size e
section
variable(P:q7m)(Fz:Bs)(K:q2v->q2v->Prop)(Stop:Bs->q4y->q2v->Prop)
def Cot:Rk->Bs->q4y->q2v->Prop
 | .leaf,S,g,w=>∀w₁,RC Fz K S w w₁->Stop S g w₁
 | .nd f,S,g,w=>g.status=.running/\∀w₁,RC Fz K S w w₁->∃g' w' es,qag P false g w₁=.go g' w' es/\DC Fz S w₁ w' es/\Cot (f ⟨grow S w₁ w',g',w'⟩) (grow S w₁ w') g' w'
def qk(S:Bs)(g:q4y)(w:q2v):Prop:=∃r,Cot P Fz K Stop r S g w
end
section
variable{P:q7m}{Fz:Bs}{K:q2v->q2v->Prop}{Stop:Bs->q4y->q2v->Prop}{S:Bs}{g:q4y}{w w₁ w₂:q2v}
theorem RC.trans(hK:∀a b c,K a b->K b c->K a c)(h:RC Fz K S w w₁)(h':RC Fz K S w₁ w₂):RC Fz K S w w₂ :=
 ⟨λb hb=>(h'.own b hb).trans (h.own b hb),λb hb=>(h'.fz b hb).trans (h.fz b hb),q6s h.size h'.size,h'.os.trans h.os,h'.output.trans h.output,hK _ _ _ h.k h'.k⟩
theorem qk.stop(h:∀w₁,RC Fz K S w w₁->Stop S g w₁):qk P Fz K Stop S g w:=⟨.leaf,h⟩
theorem qk.step(hs:g.status=.running)(h:∀w₁,RC Fz K S w w₁->∃g' w' es,qag P false g w₁=.go g' w' es/\DC Fz S w₁ w' es/\qk P Fz K Stop (grow S w₁ w') g' w'):qk P Fz K Stop S g w:=by
 classical
 refine⟨.nd λs=>if hx:∃r,Cot P Fz K Stop r s.S s.g s.w then qc9 hx else .leaf,hs,λw₁ h₁=>?_⟩;obtain⟨g',w',es,h1,h2,h3⟩:=h w₁ h₁;refine⟨g',w',es,h1,h2,?_⟩;have hx:∃r,Cot P Fz K Stop r (grow S w₁ w') g' w':=h3;dsimp only;rw[dif_pos hx];exact qcs hx
theorem Cot.rely(hK:∀a b c,K a b->K b c->K a c){r:Rk}(h:Cot P Fz K Stop r S g w)(hr:RC Fz K S w w₁):Cot P Fz K Stop r S g w₁:=by
 cases r with
 | leaf=>exact λw₂ h₂=>h w₂ (hr.trans hK h₂)
 | nd f=>exact⟨h.1,λw₂ h₂=>h.2 w₂ (hr.trans hK h₂)⟩
theorem qk.rely(hK:∀a b c,K a b->K b c->K a c)(h:qk P Fz K Stop S g w)(hr:RC Fz K S w w₁):qk P Fz K Stop S g w₁:=let ⟨r,h⟩:=h;⟨r,h.rely hK hr⟩
theorem q35(S:Bs)(w:q2v):DC Fz S w w #[]:=⟨λ_ _ _=>rfl,q4u _,rfl,rfl,by simp⟩
theorem vp(S:Bs)(w:q2v):grow S w w=S:=by
 funext b
 simp only[grow,eq_iff_iff];exact⟨λh=>h.elim id λ⟨a,b⟩=>by omega,.inl⟩
theorem qk.still{g':q4y}(hs:g.status=.running)(h:∀w₁,RC Fz K S w w₁->qag P false g w₁=.go g' w₁ #[])(h':∀w₁,RC Fz K S w w₁->qk P Fz K Stop S g' w₁):qk P Fz K Stop S g w :=
 .step hs λw₁ h₁=>⟨g',w₁,#[],h w₁ h₁,q35 S w₁,by rw[vp];exact h' w₁ h₁⟩
end
end Go.Co
end
section
namespace Go.Sim
section
variable[JunkSet]{P:q7m}{c1 c2:q7n}{e1 e2:List q7n}
def Und(c1 c2:q7n)(e1 e2:List q7n)(r r':qby):Prop:=∀g1 u1 es,r=.go g1 u1 es->Live g1->q5A g1 ->
 (∃pre,g1.callers=pre++c1::e1/\r'=.go { g1 with callers:=pre++c2::e2 } u1 es) \/
 (∃φ:q7n->q7n,((∃v,φ=(·.finish v))\/φ=id)/\g1.frame=φ c1/\g1.callers=e1/\r'=.go { g1 with frame:=φ c2,callers:=e2 } u1 es) \/
 (∃ch,g1.frame=c1.raise ch/\g1.callers=e1)
theorem kS{r r':qby}{es:Array qaz}(h:Und c1 c2 e1 e2 r r'):Und c1 c2 e1 e2 (qan es r) (qan es r'):=λg1 u1 es' e hl hn=>by
 obtain⟨e0,h0,rfl⟩:=zR e;rcases h _ _ _ h0 hl hn with⟨pre,h1,h2⟩ | ⟨φ,h1,h2,h3,h4⟩ | h1
 ·exact .inl ⟨pre,h1,by rw[h2];rfl⟩
 ·exact .inr (.inl ⟨φ,h1,h2,h3,by rw[h4];rfl⟩)
 ·exact .inr (.inr h1)
theorem qU{o:Outcome}{u:q2v}{es:Array qaz}{r':qby}:Und c1 c2 e1 e2 (.ended o u es) r':=λ_ _ _ e _ _=>by cases e
theorem xk{r r':qby}(h:∀g u es,r≠.go g u es):Und c1 c2 e1 e2 r r':=λg u es e _ _=>absurd e (h g u es)
theorem un_dead{g:q4y}{u:q2v}{es:Array qaz}{r':qby}(h:¬ Live g):Und c1 c2 e1 e2 (.go g u es) r':=λ_ _ _ e hl _=>by cases e;exact absurd hl h
theorem q1m{fr:q7n}{cs:List q7n}{m:String}{u:q2v}{r':qby}:Und c1 c2 e1 e2 (endFatal P fr cs none m u) r':=λg1 u1 es e hl _=>absurd hl.2 (qY e)
theorem JB{fr:q7n}{m:String}{u:q2v}{r':qby}:Und c1 c2 e1 e2 (endThrow fr m u) r':=un_dead λh=>by cases h.2
theorem jU{fr:q7n}{pre:List q7n}{st:qc6}{dy:Option Dying}{off:Option (Array qch × qbF)}{u:q2v}{es:Array qaz} :
  Und c1 c2 e1 e2 (.go { frame:=fr,callers:=pre++c1::e1,status:=st,dying:=dy,offers:=off } u es) (.go { frame:=fr,callers:=pre++c2::e2,status:=st,dying:=dy,offers:=off } u es):=λ_ _ _ e _ _=>by
 cases e;exact .inl ⟨pre,rfl,rfl⟩
theorem q4H{fr fr2:q7n}{pre:List q7n}{st:qc6}{dy:Option Dying}{off:Option (Array qch × qbF)}{u:q2v}{es:Array qaz} :
  Und c1 c2 e1 e2 (.go { frame:=fr,callers:=fr2::(pre++c1::e1),status:=st,dying:=dy,offers:=off } u es) (.go { frame:=fr,callers:=fr2::(pre++c2::e2),status:=st,dying:=dy,offers:=off } u es) :=
 jU (pre:=fr2::pre)
theorem un_app{fr fr2:q7n}{X pre:List q7n}{st:qc6}{dy:Option Dying}{off:Option (Array qch × qbF)}{u:q2v}{es:Array qaz} :
  Und c1 c2 e1 e2 (.go { frame:=fr,callers:=X++fr2::(pre++c1::e1),status:=st,dying:=dy,offers:=off } u es) (.go { frame:=fr,callers:=X++fr2::(pre++c2::e2),status:=st,dying:=dy,offers:=off } u es):=λ_ _ _ e _ _=>by
 cases e;exact .inl ⟨X++fr2::pre,by simp,by simp⟩
theorem un_ext{fr:q7n}{cs:List q7n}{st:qc6}{dy:Option Dying}{off:Option (Array qch × qbF)}{u:q2v}{es:Array qaz}{r':qby}{x:String}{a:Array q4k}{k:List qcG}(h:fr.todo=.extern x a::k):Und c1 c2 e1 e2 (.go { frame:=fr,callers:=cs,status:=st,dying:=dy,offers:=off } u es) r':=λ_ _ _ e _ hn=>by
 cases e;exact absurd h (hn _ _ _)
structure Jd(c1 c2:q7n)(e1 e2:List q7n):Prop where
 m1:c1.mode=.run
 m2:c2.mode=.run
 r1:∀fr,q92 fr (c1::e1)=none
 r2:∀fr,q92 fr (c2::e2)=none
theorem q2e{c:q7n}{e:List q7n}(hm:c.mode=.run)(hr:∀fr,q92 fr e=none)(fr:q7n):q92 fr (c::e)=none:=by
 unfold q92;cases fr.kind with
 | deferred=>simp[hm]
 | wrapped=>simp[hr]
 | _=>rfl
theorem JC(hR:Jd c1 c2 e1 e2):∀(pre:List q7n) (fr:q7n),
  (q92 fr (pre++c1::e1)=none/\q92 fr (pre++c2::e2)=none)\/∃v pre',q92 fr (pre++c1::e1)=some (v,pre'++c1::e1)/\q92 fr (pre++c2::e2)=some (v,pre'++c2::e2):=by
 intro pre;induction pre with
 | nil=>intro fr;exact .inl ⟨hR.r1 fr,hR.r2 fr⟩
 | cons p pre ih =>
  intro fr;simp only[q8G];unfold q92;cases hk:fr.kind with
  | deferred =>
   dsimp only;split
   ·exact .inr ⟨_,_::pre,rfl,rfl⟩
   ·exact .inl ⟨rfl,rfl⟩
  | wrapped =>
   dsimp only;rcases ih p with⟨h1,h2⟩ | ⟨v,pre',h1,h2⟩
   ·rw[h1,h2];exact .inl ⟨rfl,rfl⟩
   ·rw[h1,h2];exact .inr ⟨v,p::pre',rfl,rfl⟩
  | _=>exact .inl ⟨rfl,rfl⟩
theorem Zp(hR:Jd c1 c2 e1 e2){fr:q7n}{pre:List q7n}(b b':Bool)(v:q4k)(u:q2v):Und c1 c2 e1 e2 (qbh P b fr (pre++c1::e1) none v u) (qbh P b' fr (pre++c2::e2) none v u):=by
 unfold qbh;cases pre with
 | nil =>
  simp only[q9k,hR.m1,hR.m2];intro g1 u1 es e _ _;cases hk:fr.kind<;>simp only[hk] at e ⊢<;>cases e
  ·exact .inr (.inl ⟨(·.finish v),.inl ⟨v,rfl⟩,rfl,rfl,rfl⟩)
  ·exact .inr (.inl ⟨id,.inr rfl,rfl,rfl,rfl⟩)
  ·exact .inr (.inl ⟨(·.finish v),.inl ⟨v,rfl⟩,rfl,rfl,rfl⟩)
  ·exact .inr (.inl ⟨id,.inr rfl,rfl,rfl,rfl⟩)
  ·exact .inr (.inl ⟨id,.inr rfl,rfl,rfl,rfl⟩)
 | cons p pre =>
  simp only[q8G];split<;>exact jU
theorem q7r{fr:q7n}{pre:List q7n}(g:Nat)(u:q2v):Und c1 c2 e1 e2 (early P fr (pre++c1::e1) none g u) (early P fr (pre++c2::e2) none g u):=by
 unfold early;dsimp only
 repeat' split
 all_goals first
  | exact jU
  | exact qU
  | exact un_app
theorem xm(hrf:P.follows .rangeFuncRecover=true)(hR:Jd c1 c2 e1 e2){fr:q7n}{pre:List q7n}(s:Sem qdb)(u:q2v):Und c1 c2 e1 e2 (qaw P true fr (pre++c1::e1) none s u) (qaw P true fr (pre++c2::e2) none s u):=by
 unfold qaw;simp only[if_true,q9h,hrf];refine kS ?_;cases s.run P u with
 | ok a w =>
  cases a with
  | recover =>
   rcases JC hR pre fr with⟨h1,h2⟩ | ⟨v,pre',h1,h2⟩<;>cases hro:fr.roundOf<;>simp only[h1,h2,hro]<;>exact jU
  | stack r sv =>
   dsimp only;split
   ·exact un_ext rfl
   ·exact un_ext rfl
  | spawn d =>
   dsimp only
   repeat' split
   all_goals first
    | exact JB
    | exact xk (λ_ _ _ e=>by cases e)
  | _ =>
   dsimp only
   repeat' split
   all_goals first
    | exact jU
    | exact q4H
    | exact xk (λ_ _ _ e=>by cases e)
 | halt x w =>
  cases x with
  | fatal m=>exact q1m
  | throw m=>exact JB
  | unsupported x=>cases x<;>first | exact q7r _ _ | exact qU
  | _=>first | exact jU | exact qU
theorem q1n(hR:Jd c1 c2 e1 e2){fr:q7n}{pre:List q7n}(d:qba)(u:q2v):Und c1 c2 e1 e2 (qbd P fr (pre++c1::e1) none d u) (qbd P fr (pre++c2::e2) none d u):=by
 unfold qbd;by_cases hc:(kb d.target && ka fr.mode)=true
 ·have:∀(a b r':qby),(∃o u es,a=.ended o u es)->Und c1 c2 e1 e2 (if(kb d.target && ka fr.mode)=true then a else b) r':=λa b r' ⟨o,u,es,e⟩=>by
   rw[if_pos hc,e];exact qU
  exact this _ _ _ ⟨_,_,_,rfl⟩
 have Z:∀(a b a' b':qby),Und c1 c2 e1 e2 b b'->Und c1 c2 e1 e2 (if(kb d.target && ka fr.mode)=true then a else b) (if(kb d.target && ka fr.mode)=true then a' else b'):=λa b a' b' hb=>by rw[if_neg hc,if_neg hc];exact hb
 refine Z _ _ _ _ ?_;simp only[q9h];refine kS ?_;cases qar P (invoke d.target d.args) u with
 | ok a w =>
  cases a with
  | recover =>
   dsimp only;rcases JC hR pre fr with⟨h1,h2⟩ | ⟨v,pre',h1,h2⟩<;>rw[h1,h2]<;>cases fr.mode<;>exact jU
  | coroswitch c e=>cases e<;>first | exact qU | exact xk (λ_ _ _ e=>by cases e)
  | alone on v=>cases on<;>first | exact qU | exact xk (λ_ _ _ e=>by cases e)
  | _ =>
   first
    | exact jU
    | exact q4H
    | exact qU
    | exact xk (λ_ _ _ e=>by cases e)
 | halt x w =>
  cases x with
  | fatal m=>exact q1m
  | throw m=>exact JB
  | _=>first | exact jU | exact qU
theorem Kd(hR:Jd c1 c2 e1 e2){fr:q7n}{pre:List q7n}(b b':Bool)(u:q2v):Und c1 c2 e1 e2 (unwind P b fr (pre++c1::e1) none u) (unwind P b' fr (pre++c2::e2) none u):=by
 unfold unwind;split
 ·simp only[q9h]
  refine kS ?_;split
  ·exact jU
  ·exact qU
 ·exact q1n hR _ _
 ·split
  ·exact qU
  ·split
   ·exact qU
   ·cases pre with
    | nil =>
     intro g1 u1 es e _ _;cases e;exact .inr (.inr ⟨_,rfl,rfl⟩)
    | cons p pre=>exact jU
  ·split
   ·exact Zp hR _ _ _ _
   ·simp only[q9h]
    refine kS ?_;split
    ·exact Zp hR _ _ _ _
    all_goals exact qU
theorem un_exec(hrf:P.follows .rangeFuncRecover=true)(hR:Jd c1 c2 e1 e2){fr:q7n}{pre:List q7n}(b b':Bool)(u:q2v) :
  Und c1 c2 e1 e2 (qcg P b true fr (pre++c1::e1) none u) (qcg P b' true fr (pre++c2::e2) none u):=by
 have Z:∀(j:Bool) (jj:Option qbs) (s s':String),Und c1 c2 e1 e2 (match fr.roundOf with
   | none=>if j=true then .go { frame:={ fr with mode:=.returning },callers:=pre++c1::e1,status:=.running,dying:=none } u else .ended (.stuck s (fr.pos P)) u
   | some l =>
    let (r,es):=(qc5 l jj).runT P u #[]
    qan (seen P fr.fn es) <| match r with
    | .ok v w=>qbh P b fr (pre++c1::e1) none v w
    | .halt _ w=>.ended (.stuck s' (fr.pos P)) w) (match fr.roundOf with
   | none=>if j=true then .go { frame:={ fr with mode:=.returning },callers:=pre++c2::e2,status:=.running,dying:=none } u else .ended (.stuck s (fr.pos P)) u
   | some l =>
    let (r,es):=(qc5 l jj).runT P u #[]
    qan (seen P fr.fn es) <| match r with
    | .ok v w=>qbh P b' fr (pre++c2::e2) none v w
    | .halt _ w=>.ended (.stuck s' (fr.pos P)) w):=λj jj s s'=>by
  split
  ·split
   ·exact jU
   ·exact qU
  ·simp only[q9h]
   refine kS ?_;split
   ·exact Zp hR _ _ _ _
   ·exact qU
 unfold qcg;dsimp only;split
 ·exact Z true _ _ _
 ·exact Z true _ _ _
 all_goals first
  | exact jU
  | exact qU
  | exact xm hrf hR _ _
  | (
    generalize exitTo _ _=X;cases X
    ·exact Z false _ _ _
    ·exact jU)
  | (
    generalize gotoIn _ _=X;cases X
    ·exact Z false _ _ _
    ·exact jU)
  | (
    unfold stepG.oper
    repeat' split
    all_goals first
     | exact jU
     | exact qU
     | exact xm hrf hR _ _)
  | (
    simp only[q9h];refine kS ?_
    repeat' split
    all_goals first
     | exact jU
     | exact qU
     | exact xm hrf hR _ _)
  | (
    repeat' split
    all_goals first
     | exact jU
     | exact qU
     | exact xm hrf hR _ _)
  | (
    generalize Extern.next _=X
    cases X
    ·exact qU
    ·exact xm hrf hR _ _)
theorem q3m(hrf:P.follows .rangeFuncRecover=true)(hR:Jd c1 c2 e1 e2){g:q4y}{pre:List q7n}(h:g.callers=pre++c1::e1)(hd:g.dying=none)(b b':Bool)(u:q2v) :
  Und c1 c2 e1 e2 (qag P b g u true) (qag P b' { g with callers:=pre++c2::e2 } u true):=by
 obtain⟨fr,cs,st,dy,off⟩:=g;dsimp only at h hd;subst hd;subst h;unfold qag;dsimp only;cases fr.mode with
 | run=>exact un_exec hrf hR b b' u
 | returning=>exact Kd hR b b' u
 | panicking l=>exact Kd hR b b' u
end
end Go.Sim
end
section
namespace Go.Sim
def tl(k:List qcG)(D:List qba)(fr:q7n):q7n:={ fr with todo:=fr.todo++k,defers:=fr.defers++D }
def Plain:qcG->Bool
 | .call .. | .extern ..=>false
 | _=>true
structure Pc(fr:q7n):Prop where
 mode:fr.mode=.run
 round:fr.roundOf=none
 todo:∃x l,fr.todo=x::l/\Plain x=true
section
variable[JunkSet]{P:q7m}{k:List qcG}{D:List qba}{e1 e2:List q7n}
def Top(k:List qcG)(D:List qba)(e1 e2:List q7n)(r r':qby):Prop:=∀g1 u1 es,r=.go g1 u1 es->Live g1->q5A g1 ->
 (g1.callers=e1/\g1.frame.mode=.run/\g1.frame.roundOf=none/\r'=.go { g1 with frame:=tl k D g1.frame,callers:=e2 } u1 es) \/
 (∃pre c,g1.callers=pre++c::e1/\Pc c/\r'=.go { g1 with callers:=pre++tl k D c::e2 } u1 es) \/
 (g1.callers=e1/\g1.frame.mode≠.run)
theorem JE{r r':qby}{es:Array qaz}(h:Top k D e1 e2 r r'):Top k D e1 e2 (qan es r) (qan es r'):=λg1 u1 es' e hl hn=>by
 obtain⟨e0,h0,rfl⟩:=zR e;rcases h _ _ _ h0 hl hn with⟨h1,h2,h3,h5⟩ | ⟨pre,c,h1,h2,h3⟩ | h1
 ·exact .inl ⟨h1,h2,h3,by rw[h5];rfl⟩
 ·exact .inr (.inl ⟨pre,c,h1,h2,by rw[h3];rfl⟩)
 ·exact .inr (.inr h1)
theorem zO{o:Outcome}{u:q2v}{es:Array qaz}{r':qby}:Top k D e1 e2 (.ended o u es) r':=λ_ _ _ e _ _=>by cases e
theorem q1q{r r':qby}(h:∀g u es,r≠.go g u es):Top k D e1 e2 r r':=λg u es e _ _=>absurd e (h g u es)
theorem Jn{g:q4y}{u:q2v}{es:Array qaz}{r':qby}(h:¬ Live g):Top k D e1 e2 (.go g u es) r':=λ_ _ _ e hl _=>by cases e;exact absurd hl h
theorem q7y{fr:q7n}{cs:List q7n}{m:String}{u:q2v}{r':qby}:Top k D e1 e2 (endFatal P fr cs none m u) r':=λg1 u1 es e hl _=>absurd hl.2 (qY e)
theorem q1p{fr:q7n}{m:String}{u:q2v}{r':qby}:Top k D e1 e2 (endThrow fr m u) r':=Jn λh=>by cases h.2
theorem tp_go{fr:q7n}(hm:fr.mode=.run)(hr:fr.roundOf=none){st:qc6}{dy:Option Dying}{off:Option (Array qch × qbF)}{u:q2v}{es:Array qaz}{Z:q7n}(e:Z=tl k D fr) :
  Top k D e1 e2 (.go { frame:=fr,callers:=e1,status:=st,dying:=dy,offers:=off } u es) (.go { frame:=Z,callers:=e2,status:=st,dying:=dy,offers:=off } u es):=λ_ _ _ h _ _=>by
 cases h;exact .inl ⟨rfl,hm,hr,by rw[e]⟩
theorem QT{fr c:q7n}(hc:Pc c){X:List q7n}{st:qc6}{dy:Option Dying}{off:Option (Array qch × qbF)}{u:q2v}{es:Array qaz} :
  Top k D e1 e2 (.go { frame:=fr,callers:=X++c::e1,status:=st,dying:=dy,offers:=off } u es) (.go { frame:=fr,callers:=X++tl k D c::e2,status:=st,dying:=dy,offers:=off } u es):=λ_ _ _ h _ _=>by
 cases h;exact .inr (.inl ⟨X,c,rfl,hc,rfl⟩)
theorem tp_ext{fr:q7n}{cs:List q7n}{st:qc6}{dy:Option Dying}{off:Option (Array qch × qbF)}{u:q2v}{es:Array qaz}{r':qby}{x:String}{a:Array q4k}{l:List qcG}(h:fr.todo=.extern x a::l):Top k D e1 e2 (.go { frame:=fr,callers:=cs,status:=st,dying:=dy,offers:=off } u es) r':=λ_ _ _ e _ hn=>by
 cases e;exact absurd h (hn _ _ _)
theorem q0d{fr:q7n}(hm:fr.mode≠.run){st:qc6}{dy:Option Dying}{off:Option (Array qch × qbF)}{u:q2v}{es:Array qaz}{r':qby} :
  Top k D e1 e2 (.go { frame:=fr,callers:=e1,status:=st,dying:=dy,offers:=off } u es) r':=λ_ _ _ h _ _=>by
 cases h;exact .inr (.inr ⟨rfl,hm⟩)
theorem yR(fr:q7n)(ch:List PanicEntry):(fr.raise ch).mode≠.run:=by
 unfold Frame.raise;split<;>simp
theorem tl_eval(fr:q7n):(tl k D fr).eval=fr.eval:=by funext x;cases x<;>rfl
theorem Kh{fr:q7n}(h:Pc fr)(v:q4k):(tl k D fr).finish v=tl k D (fr.finish v):=by
 obtain⟨x,l,e,hp⟩:=h.todo;obtain⟨fn,tmps,todo,defers,mode,kind,ro⟩:=fr;dsimp only at e;subst e;unfold tl Frame.finish;cases x with
 | inRegion ops is=>cases is<;>rfl
 | call=>cases hp
 | extern=>cases hp
 | _=>rfl
theorem xL(fr:q7n)(v:q4k):(fr.finish v).mode=fr.mode/\(fr.finish v).kind=fr.kind/\(fr.finish v).roundOf=fr.roundOf:=by
 unfold Frame.finish;split<;>exact⟨rfl,rfl,rfl⟩
theorem JD{fr:q7n}(h:Pc fr)(v:q4k){st:qc6}{dy:Option Dying}{off:Option (Array qch × qbF)}{u:q2v}{es:Array qaz} :
  Top k D e1 e2 (.go { frame:=fr.finish v,callers:=e1,status:=st,dying:=dy,offers:=off } u es) (.go { frame:=(tl k D fr).finish v,callers:=e2,status:=st,dying:=dy,offers:=off } u es):=by
 obtain⟨h1,h2,h3⟩:=xL fr v;exact tp_go (h1.trans h.mode) (h3.trans h.round) (Kh h v)
theorem q7z{fr:q7n}(h:Pc fr)(g:Nat)(u:q2v):Top k D e1 e2 (early P fr e1 none g u) (early P (tl k D fr) e2 none g u):=by
 have hg:∀{u:q2v} {es:Array qaz},Top k D e1 e2 (.go { frame:=fr,callers:=e1,status:=.running,dying:=none } u es) (.go { frame:=tl k D fr,callers:=e2,status:=.running,dying:=none } u es):=tp_go h.mode h.round rfl;unfold early;have hk:(tl k D fr).kind=fr.kind:=rfl;dsimp only;simp only[hk]
 repeat' split
 all_goals first
  | exact hg
  | exact zO
  | exact QT h
theorem q1r(hrf:P.follows .rangeFuncRecover=true)(a7:∀fr,q92 fr e1=none)(a6:∀fr,q92 fr e2=none){fr:q7n}(h:Pc fr)(s:Sem qdb)(u:q2v):Top k D e1 e2 (qaw P true fr e1 none s u) (qaw P true (tl k D fr) e2 none s u):=by
 obtain⟨fn,tmps,todo,defers,mode,kind,ro⟩:=fr;obtain⟨h1,h3,h4⟩:=h;dsimp only at h1 h3;subst h1 h3;obtain⟨fr,Z⟩:∃fr:q7n,fr={ fn,tmps,todo,defers,mode:=.run,kind,roundOf:=none }:=⟨_,rfl⟩
 have h:Pc { fn,tmps,todo,defers,mode:=.run,kind,roundOf:=none }:=⟨rfl,rfl,h4⟩
 rw[<- Z] at h ⊢;obtain⟨x,l,e,hp⟩:=h.todo;have hro:(tl k D fr).roundOf=none:=h.round;have a8:(tl k D fr).kind=fr.kind:=rfl;have hfn:(tl k D fr).fn=fr.fn:=rfl;have ht:(tl k D fr).todo=x::(l++k):=by show fr.todo++k=_;rw[e];rfl
 have a9:∀d:qba,({ (tl k D fr) with defers:=d::(tl k D fr).defers }:q7n)=tl k D { fr with defers:=d::fr.defers }:=λd=>rfl;unfold qaw;simp only[if_true,q9h,hrf,h.round,hro,a8,hfn];refine JE ?_;cases s.run P u with
 | ok a w =>
  cases a with
  | recover =>
   simp only[a7,a6];exact JD h _
  | stack r sv =>
   dsimp only;rw[e,ht];cases x<;>first | (cases hp;done) | exact tp_ext rfl
  | spawn d =>
   dsimp only
   repeat' split
   all_goals first
    | exact q1p
    | exact q1q (λ_ _ _ e=>by cases e)
  | value v=>exact JD h v
  | skip=>exact JD h _
  | defer d =>
   subst Z;have hP:Pc { fn,tmps,todo,defers:=d::defers,mode:=.run,kind,roundOf:=none }:=⟨rfl,rfl,h4⟩
   exact JD (k:=k) (D:=D) hP q4D
  | enter f args =>
   dsimp only;rw[e,ht];cases x<;>first | (cases hp;done) | exact(QT (X:=[]) h)
  | callThen d r sv wr =>
   dsimp only;rw[e,ht];cases x<;>first | (cases hp;done) | exact(QT (X:=[]) h)
  | row r args =>
   dsimp only;rw[e,ht];cases x<;>first | (cases hp;done) | exact(QT (X:=[]) h)
  | round l f tm ag bd=>exact(QT (X:=[]) h)
  | sleep t=>exact Jn λhl=>by cases hl.1
  | _=>exact q1q (λ_ _ _ e=>by cases e)
 | halt x w =>
  cases x with
  | fatal m=>exact q7y
  | throw m=>exact q1p
  | unsupported x=>cases x<;>first | exact q7z h _ _ | exact zO
  | panic v=>exact q0d (yR _ _)
  | goexit=>exact q0d (yR _ _)
  | blocked=>exact Jn λhl=>by cases hl.1
  | waiting=>exact Jn λhl=>by cases hl.1
  | _=>exact zO
theorem QP{id:Nat}{k':List qcG}:∀{l:List qcG},exitTo id l=some k'->exitTo id (l++k)=some (k'++k)
 | [],h=>by simp[exitTo] at h
 | x::l,h=>by
  cases x with
  | inBlock id' =>
   simp only[exitTo,q8G] at h ⊢;split
   ·rename_i he;rw[if_pos he] at h;cases h;rfl
   ·rename_i he;rw[if_neg he] at h;exact QP h
  | _=>simp only[exitTo,q8G] at h ⊢;exact QP h
theorem QK{id:Nat}{k':List qcG}:∀{l:List qcG},gotoIn id l=some k'->gotoIn id (l++k)=some (k'++k)
 | [],h=>by simp[gotoIn] at h
 | x::l,h=>by
  cases x with
  | inScope body =>
   simp only[gotoIn,q8G] at h ⊢;cases hf:findLabel body id with
   | none=>rw[hf] at h;exact QK h
   | some r=>rw[hf] at h;cases h;rfl
  | _=>simp only[gotoIn,q8G] at h ⊢;exact QK h
theorem q7A(hrf:P.follows .rangeFuncRecover=true)(a9:∀fr,q92 fr e1=none)(a8:∀fr,q92 fr e2=none){g:q4y}(h:Pc g.frame)(hc:g.callers=e1)(hd:g.dying=none)(b b':Bool)(u:q2v) :
  Top k D e1 e2 (qag P b g u true) (qag P b' { g with frame:=tl k D g.frame,callers:=e2 } u true):=by
 obtain⟨⟨fn,tmps,todo,defers,mode,kind,ro⟩,cs,st,dy,off⟩:=g;dsimp only at h hc hd;subst hd;subst hc;obtain⟨h1,h3,h4⟩:=h;dsimp only at h1 h3;subst h1 h3;obtain⟨fr,b0⟩:∃fr:q7n,fr={ fn,tmps,todo,defers,mode:=.run,kind,roundOf:=none }:=⟨_,rfl⟩
 have h:Pc { fn,tmps,todo,defers,mode:=.run,kind,roundOf:=none }:=⟨rfl,rfl,h4⟩
 rw[<- b0] at h ⊢;obtain⟨x,l,e,hp⟩:=h.todo;have hm:=h.mode;have hro:=h.round;have Z:∀(t:List qcG) {st:qc6} {dy:Option Dying} {off:Option (Array qch × qbF)} {u:q2v} {es:Array qaz},
   Top k D cs e2 (.go { frame:={ fr with todo:=t },callers:=cs,status:=st,dying:=dy,offers:=off } u es) (.go { frame:={ (tl k D fr) with todo:=t++k },callers:=e2,status:=st,dying:=dy,offers:=off } u es):=λt=>tp_go (fr:={ fr with todo:=t }) h.mode h.round rfl
 have ha:∀(s:Sem qdb) (u:q2v),Top k D cs e2 (qaw P true fr cs none s u) (qaw P true (tl k D fr) e2 none s u):=λs u=>q1r hrf a9 a8 h s u;have ht:(tl k D fr).todo=x::(l++k):=by show fr.todo++k=_;rw[e];rfl
 have b7:(tl k D fr).mode=.run:=hm;have a6:(tl k D fr).roundOf=none:=hro;have b6:(tl k D fr).eval=fr.eval:=tl_eval fr;have hfn:(tl k D fr).fn=fr.fn:=rfl;have a7:(tl k D fr).tmps=fr.tmps:=rfl;unfold qag;dsimp only;rw[hm,b7];dsimp only;unfold qcg;dsimp only;rw[e,ht];cases x with
 | code c =>
  cases c with
  | skip=>exact Z l
  | label n=>exact Z l
  | seq a b=>exact Z (.code a::.code b::l)
  | block id body=>exact Z (.code body::.inBlock id::l)
  | loop body=>exact Z (.code body::.inLoop body::l)
  | scope body=>exact Z (.code body::.inScope body::l)
  | refuse w=>exact zO
  | ret =>
   dsimp only;rw[hro];exact q0d (by simp)
  | cond c a b =>
   dsimp only;rw[b6];split
   ·exact Z (_::l)
   ·exact zO
  | exit id =>
   dsimp only;cases hx:exitTo id l with
   | none=>simp only[Option.elim_none,hro];exact zO
   | some k1=>rw[QP hx];exact Z k1
  | goto id =>
   dsimp only;cases hx:gotoIn id l with
   | none=>simp only[Option.elim_none,hro];exact zO
   | some k1=>rw[QK hx];exact Z k1
  | region id ops draw =>
   dsimp only;split
   ·exact Z (.inRegion ops (q99 ops.size)::l)
   ·rw[hfn]
    split
    ·exact Z (.inRegion ops _::l)
    ·exact zO
  | rangeFunc fv ps as body =>
   dsimp only;rw[hfn,a7,hro,a6];simp only[q9h];refine JE ?_;split
   ·rename_i lm mk w _
    subst b0;have hP:Pc { fn,tmps,todo:=.inRangeFunc lm::l,defers:=mk++defers,mode:=.run,kind,roundOf:=none }:=⟨rfl,rfl,_,_,rfl,rfl⟩
    have:=q1r (k:=k) (D:=D) (e1:=cs) (e2:=e2) (P:=P) hrf a9 a8 hP (do let d <- resolve (Frame.eval { fn,tmps,todo:=.inRangeFunc lm::l,defers:=mk++defers,mode:=.run,kind,roundOf:=none }) { callee:=.value fv,args:=#[.const (.func (.yield lm) #[] #[])],argTypes:=#[] } 0;invoke d.target d.args) w;have e5:tl k D { fn,tmps,todo:=.inRangeFunc lm::l,defers:=mk++defers,mode:=.run,kind,roundOf:=none }={ fn,tmps,todo:=.inRangeFunc lm::(l++k),defers:=mk++(defers++D),mode:=.run,kind,roundOf:=none }:=by
     simp[tl]
    rw[e5] at this;exact this
   ·exact zO
 | inBlock id=>exact Z l
 | inScope c=>exact Z l
 | inLoop body=>exact Z (.code body::.inLoop body::l)
 | inRangeFunc n=>exact zO
 | beginRound =>
  dsimp only;rw[hro,a6];exact ha _ u
 | endRangeFunc n =>
  dsimp only;rw[hfn];simp only[q9h];refine JE ?_;split
  ·rename_i j w _
   have:=Z ((j.map Item.code).toList++l) (st:=.running) (dy:=none) (off:=none) (u:=w) (es:=#[]);rw[qbr] at this;exact this
  ·exact q0d (yR _ _)
  ·exact zO
 | inRegion ops is =>
  cases is with
  | nil=>exact Z l
  | cons i is =>
   dsimp only;rw[a7];split
   ·unfold stepG.oper
    have ho:(tl k D fr).oper?=fr.oper?:=by unfold Frame.oper?;rw[e,ht]
    rw[ho];split
    ·exact zO
    ·rw[hro,a6,b6]
     exact ha _ u
   ·exact JD h q4D
 | call=>cases hp
 | extern=>cases hp
end
end Go.Sim
end
section
namespace Go.Sim
def Doom(e1:List q7n)(g:q4y):Prop:=(g.callers=e1/\g.frame.mode≠.run)\/∃pre c,g.callers=pre++c::e1/\c.mode≠.run
section
variable[JunkSet]{P:q7m}{e1:List q7n}
def Dm(e1:List q7n)(r:qby):Prop:=∀g1 u1 es,r=.go g1 u1 es->Live g1->Doom e1 g1\/(∃x,e1=x::g1.callers)
theorem jR{r:qby}{es:Array qaz}(h:Dm e1 r):Dm e1 (qan es r):=λg1 u1 es' e hl=>by
 obtain⟨e0,h0,rfl⟩:=zR e;exact h _ _ _ h0 hl
theorem qH{o:Outcome}{u:q2v}{es:Array qaz}:Dm e1 (.ended o u es):=λ_ _ _ e _=>by cases e
theorem yD{r:qby}(h:∀g u es,r≠.go g u es):Dm e1 r:=λg u es e _=>absurd e (h g u es)
theorem dm_dead{g:q4y}{u:q2v}{es:Array qaz}(h:¬ Live g):Dm e1 (.go g u es):=λ_ _ _ e hl=>by cases e;exact absurd hl h
theorem Yw{fr:q7n}{cs:List q7n}{m:String}{u:q2v}:Dm e1 (endFatal P fr cs none m u):=λg1 u1 es e hl=>absurd hl.2 (qY e)
theorem Zj{fr:q7n}{m:String}{u:q2v}:Dm e1 (endThrow fr m u):=dm_dead λh=>by cases h.2
theorem jE{fr c:q7n}{pre:List q7n}(hc:c.mode≠.run){st:qc6}{dy:Option Dying}{off:Option (Array qch × qbF)}{u:q2v}{es:Array qaz} :
  Dm e1 (.go { frame:=fr,callers:=pre++c::e1,status:=st,dying:=dy,offers:=off } u es):=λ_ _ _ e _=>by
 cases e;exact .inl (.inr ⟨pre,c,rfl,hc⟩)
theorem q5t{fr fr2 c:q7n}{pre:List q7n}(hc:c.mode≠.run){st:qc6}{dy:Option Dying}{off:Option (Array qch × qbF)}{u:q2v}{es:Array qaz} :
  Dm e1 (.go { frame:=fr,callers:=fr2::(pre++c::e1),status:=st,dying:=dy,offers:=off } u es):=jE (pre:=fr2::pre) hc
theorem dm_app{fr fr2 c:q7n}{X pre:List q7n}(hc:c.mode≠.run){st:qc6}{dy:Option Dying}{off:Option (Array qch × qbF)}{u:q2v}{es:Array qaz} :
  Dm e1 (.go { frame:=fr,callers:=X++fr2::(pre++c::e1),status:=st,dying:=dy,offers:=off } u es):=λ_ _ _ e _=>by
 cases e;exact .inl (.inr ⟨X++fr2::pre,c,by simp,hc⟩)
theorem kL{fr:q7n}(hc:fr.mode≠.run){st:qc6}{dy:Option Dying}{off:Option (Array qch × qbF)}{u:q2v}{es:Array qaz} :
  Dm e1 (.go { frame:=fr,callers:=e1,status:=st,dying:=dy,offers:=off } u es):=λ_ _ _ e _=>by
 cases e;exact .inl (.inl ⟨rfl,hc⟩)
theorem q4s:∀(pre:List q7n) (fr c:q7n) (v:q4k) (cs:List q7n),c.mode≠.run->q92 fr (pre++c::e1)=some (v,cs)->(∀fr,q92 fr e1=none)->∃pre' c',cs=pre'++c'::e1/\c'.mode≠.run:=by
 intro pre;induction pre with
 | nil =>
  intro fr c v cs hc h hR;simp only[q9k] at h;unfold q92 at h;cases hk:fr.kind with
  | deferred =>
   rw[hk] at h;dsimp only at h;split at h
   ·simp only[q9B,Prod.mk.injEq] at h
    exact⟨[],_,h.2.symm,by simp⟩
   ·cases h
  | wrapped =>
   rw[hk] at h;dsimp only at h;rw[hR] at h;cases h
  | _=>rw[hk] at h;cases h
 | cons p pre ih =>
  intro fr c v cs hc h hR;simp only[q8G] at h;unfold q92 at h;cases hk:fr.kind with
  | deferred =>
   rw[hk] at h;dsimp only at h;split at h
   ·simp only[q9B,Prod.mk.injEq] at h
    exact⟨_::pre,c,h.2.symm,hc⟩
   ·cases h
  | wrapped =>
   rw[hk] at h;dsimp only at h;cases ht:q92 p (pre++c::e1) with
   | none=>rw[ht] at h;cases h
   | some x =>
    obtain⟨v',k'⟩:=x;rw[ht] at h;simp only[qaC,q9B,Prod.mk.injEq] at h;obtain⟨pre',c',e,Z⟩:=ih _ _ _ _ hc ht hR;exact⟨p::pre',c',by rw[<- h.2,e];rfl,Z⟩
  | _=>rw[hk] at h;cases h
theorem KZ(fr:q7n)(v:q4k):(fr.finish v).mode=fr.mode:=(xL fr v).1
theorem ZM{fr c:q7n}{pre:List q7n}(hc:c.mode≠.run)(b:Bool)(v:q4k)(u:q2v):Dm e1 (qbh P b fr (pre++c::e1) none v u):=by
 unfold qbh;cases pre with
 | nil =>
  simp only[q9k];split
  ·exact kL (by rw[KZ];exact hc)
  ·exact kL (by rw[KZ];exact hc)
  ·exact kL hc
  ·refine kL ?_
   split
   ·split<;>simp
   ·exact hc
 | cons p pre =>
  simp only[q8G];split<;>exact jE hc
theorem q9C{fr c:q7n}{pre:List q7n}(hc:c.mode≠.run)(g:Nat)(u:q2v):Dm e1 (early P fr (pre++c::e1) none g u):=by
 unfold early;dsimp only
 repeat' split
 all_goals first
  | exact jE hc
  | exact qH
  | exact dm_app hc
variable(hrf:P.follows .rangeFuncRecover=true)(hR:∀fr,q92 fr e1=none)
include hR
theorem dm_rec{fr c:q7n}{pre:List q7n}(hc:c.mode≠.run){v:q4k}{cs:List q7n}(h:q92 fr (pre++c::e1)=some (v,cs)){a6:q7n}{u:q2v}{es:Array qaz}:Dm e1 (.go { frame:=a6,callers:=cs,status:=.running,dying:=none } u es):=by
 obtain⟨pre',c',e,Z⟩:=q4s pre fr c v cs hc h hR;rw[e];exact jE Z
theorem xP(hrf:P.follows .rangeFuncRecover=true){fr c:q7n}{pre:List q7n}(hc:c.mode≠.run)(s:Sem qdb)(u:q2v):Dm e1 (qaw P true fr (pre++c::e1) none s u):=by
 unfold qaw;simp only[if_true,q9h,hrf];refine jR ?_;cases s.run P u with
 | ok a w =>
  cases a with
  | recover =>
   rcases hX:q92 fr (pre++c::e1) with _ | ⟨v,k⟩<;>cases hro:fr.roundOf<;>simp only[hX,hro]<;>first | exact dm_rec hR hc hX | exact jE hc
  | spawn d =>
   dsimp only
   repeat' split
   all_goals first
    | exact Zj
    | exact yD (λ_ _ _ e=>by cases e)
  | _ =>
   dsimp only
   repeat' split
   all_goals first
    | exact jE hc
    | exact q5t hc
    | exact yD (λ_ _ _ e=>by cases e)
 | halt x w =>
  cases x with
  | fatal m=>exact Yw
  | throw m=>exact Zj
  | unsupported x=>cases x<;>first | exact q9C hc _ _ | exact qH
  | _=>first | exact jE hc | exact qH
theorem q34{fr c:q7n}{pre:List q7n}(hc:c.mode≠.run)(d:qba)(u:q2v):Dm e1 (qbd P fr (pre++c::e1) none d u):=by
 unfold qbd;by_cases Z:(kb d.target && ka fr.mode)=true
 ·have:∀(a b:qby),(∃o u es,a=.ended o u es)->Dm e1 (if(kb d.target && ka fr.mode)=true then a else b):=λa b ⟨o,u,es,e⟩=>by
   rw[if_pos Z,e];exact qH
  exact this _ _ ⟨_,_,_,rfl⟩
 have a6:∀(a b:qby),Dm e1 b->Dm e1 (if(kb d.target && ka fr.mode)=true then a else b):=λa b hb=>by rw[if_neg Z];exact hb
 refine a6 _ _ ?_;simp only[q9h];refine jR ?_;cases qar P (invoke d.target d.args) u with
 | ok a w =>
  cases a with
  | recover =>
   dsimp only;split
   ·rename_i hX
    exact dm_rec hR hc hX
   ·exact jE hc
  | coroswitch c e=>cases e<;>first | exact qH | exact yD (λ_ _ _ e=>by cases e)
  | alone on v=>cases on<;>first | exact qH | exact yD (λ_ _ _ e=>by cases e)
  | _ =>
   first
    | exact jE hc
    | exact q5t hc
    | exact qH
    | exact yD (λ_ _ _ e=>by cases e)
 | halt x w =>
  cases x with
  | fatal m=>exact Yw
  | throw m=>exact Zj
  | _=>first | exact jE hc | exact qH
theorem q02{fr c:q7n}{pre:List q7n}(hc:c.mode≠.run)(b:Bool)(u:q2v):Dm e1 (unwind P b fr (pre++c::e1) none u):=by
 unfold unwind;split
 ·simp only[q9h]
  refine jR ?_;split
  ·exact jE hc
  ·exact qH
 ·exact q34 hR hc _ _
 ·split
  ·exact qH
  ·split
   ·exact qH
   ·cases pre with
    | nil=>exact kL (yR _ _)
    | cons p pre=>exact jE hc
  ·split
   ·exact ZM hc _ _ _
   ·simp only[q9h]
    refine jR ?_;split
    ·exact ZM hc _ _ _
    all_goals exact qH
theorem dm_exec(hrf:P.follows .rangeFuncRecover=true){fr c:q7n}{pre:List q7n}(hc:c.mode≠.run)(b:Bool)(u:q2v):Dm e1 (qcg P b true fr (pre++c::e1) none u):=by
 have Z:∀(j:Bool) (jj:Option qbs) (s s':String),Dm e1 (match fr.roundOf with
   | none=>if j=true then .go { frame:={ fr with mode:=.returning },callers:=pre++c::e1,status:=.running,dying:=none } u else .ended (.stuck s (fr.pos P)) u
   | some l =>
    let (r,es):=(qc5 l jj).runT P u #[]
    qan (seen P fr.fn es) <| match r with
    | .ok v w=>qbh P b fr (pre++c::e1) none v w
    | .halt _ w=>.ended (.stuck s' (fr.pos P)) w):=λj jj s s'=>by
  split
  ·split
   ·exact jE hc
   ·exact qH
  ·simp only[q9h]
   refine jR ?_;split
   ·exact ZM hc _ _ _
   ·exact qH
 unfold qcg;dsimp only;split
 ·exact Z true _ _ _
 ·exact Z true _ _ _
 all_goals first
  | exact jE hc
  | exact qH
  | exact xP hR hrf hc _ _
  | (
    generalize exitTo _ _=X;cases X
    ·exact Z false _ _ _
    ·exact jE hc)
  | (
    generalize gotoIn _ _=X;cases X
    ·exact Z false _ _ _
    ·exact jE hc)
  | (
    unfold stepG.oper
    repeat' split
    all_goals first
     | exact jE hc
     | exact qH
     | exact xP hR hrf hc _ _)
  | (
    simp only[q9h];refine jR ?_
    repeat' split
    all_goals first
     | exact jE hc
     | exact qH
     | exact xP hR hrf hc _ _)
  | (
    repeat' split
    all_goals first
     | exact jE hc
     | exact qH
     | exact xP hR hrf hc _ _)
  | (
    generalize Extern.next _=X
    cases X
    ·exact qH
    ·exact xP hR hrf hc _ _)
theorem dm_self{fr x:q7n}(hc:fr.mode≠.run)(b:Bool)(u:q2v)(h1:∀fr,q92 fr (x::e1)=none):Dm (x::e1) (unwind P b fr (x::e1) none u):=by
 have Z:∀{fr2:q7n} {st:qc6} {dy:Option Dying} {off:Option (Array qch × qbF)} {u:q2v} {es:Array qaz} {fr:q7n},fr.mode≠.run->Dm (x::e1) (.go { frame:=fr2,callers:=fr::x::e1,status:=st,dying:=dy,offers:=off } u es):=λh=>jE (pre:=[]) h;have a6:∀{fr2:q7n} {st:qc6} {dy:Option Dying} {off:Option (Array qch × qbF)} {u:q2v} {es:Array qaz},Dm (x::e1) (.go { frame:=fr2,callers:=e1,status:=st,dying:=dy,offers:=off } u es):=λ_ _ _ e _=>by
  cases e;exact .inr ⟨x,rfl⟩
 have ret:∀(v:q4k) (u:q2v),Dm (x::e1) (qbh P b fr (x::e1) none v u):=λv u=>by
  unfold qbh;dsimp only;split<;>exact a6
 unfold unwind;split
 ·simp only[q9h]
  refine jR ?_;split
  ·(refine kL ?_;exact hc)
  ·exact qH
 ·rename_i d ds _ _
  unfold qbd;by_cases a7:(kb d.target && ka fr.mode)=true
  ·have:∀(a b:qby),(∃o u es,a=.ended o u es)->Dm (x::e1) (if(kb d.target && ka fr.mode)=true then a else b):=λa b ⟨o,u,es,e⟩=>by
    rw[if_pos a7,e];exact qH
   exact this _ _ ⟨_,_,_,rfl⟩
  have a8:∀(a b:qby),Dm (x::e1) b->Dm (x::e1) (if(kb d.target && ka fr.mode)=true then a else b):=λa b hb=>by rw[if_neg a7];exact hb
  refine a8 _ _ ?_;simp only[q9h];refine jR ?_;cases qar P (invoke d.target d.args) u with
  | ok a w =>
   cases a with
   | recover =>
    dsimp only;rw[h1];split
    ·rename_i hX;cases hX
    ·(refine kL ?_;exact hc)
   | coroswitch c e=>cases e<;>first | exact qH | exact yD (λ_ _ _ e=>by cases e)
   | alone on v=>cases on<;>first | exact qH | exact yD (λ_ _ _ e=>by cases e)
   | _ =>
    first
     | (refine kL ?_;exact hc)
     | (refine Z ?_;exact hc)
     | exact qH
     | exact yD (λ_ _ _ e=>by cases e)
  | halt y w =>
   cases y with
   | fatal m=>exact Yw
   | throw m=>exact Zj
   | _=>first | (refine kL ?_;exact hc) | exact qH | (refine kL ?_;exact yR _ _)
 ·split
  ·rename_i hm;exact absurd hm hc
  ·split
   ·exact qH
   ·exact a6
  ·split
   ·exact ret _ _
   ·simp only[q9h]
    refine jR ?_;split
    ·exact ret _ _
    all_goals exact qH
end
end Go.Sim
end
section
namespace Go.Sim
inductive Lay (k:List qcG) (D:List qba) (real:List q7n) (f:qam) (gv:q4y):q4y->Prop
 | top:gv.callers=[qi f]->gv.frame.mode=.run->gv.frame.roundOf=none->Lay k D real f gv { gv with frame:=tl k D gv.frame,callers:=real }
 | und (pre:List q7n) (c:q7n):gv.callers=pre++[c,qi f]->Pc c->Lay k D real f gv { gv with callers:=pre++tl k D c::real }
section
variable[JunkSet](Q P:q7m)(base:Nat)(F:q4y->q2v->Prop)(f:qam)(k:List qcG)(D:List qba)(real:List q7n)
structure YI(ρ:Ren)(g:q4y)(wq:q2v)(g':q4y)(w:q2v):Prop where
 len:base<=ρ.length
 wr:WR Q base ρ wq w
 gl:Gl P ρ
 tree:LT Q F g wq
 stack:∃pre,g.callers=pre++[qi f]
 rel:∃gv,kw Q P ρ g gv/\Lay k D real f gv g'
structure q3g:Prop where
 cs:∀g u,F g u->g.callers=[qi f]
 md:∀g u,F g u->g.frame.mode=.run
end
section
variable[JunkSet]{Q P:q7m}{base:Nat}{F:q4y->q2v->Prop}{f:qam}{k:List qcG}{D:List qba}{real:List q7n}
theorem q5z{α:Type}{pre:List α}{c x:α}(h:pre++[c,x]=[x]):False:=by
 have:=congrArg List.length h;simp at this
theorem KB(a7:Q.follows .rangeFuncRecover=true)(hF:q3g F f){g1:q4y}{u1:q2v}(h:LT Q F g1 u1)(hp:Popped f g1.frame)(hc:g1.callers=[])(hd:g1.dying=none):False:=by
 cases h with
 | done h=>have:=hF.cs _ _ h;rw[hc] at this;cases this
 | step _ h1 _ =>
  obtain⟨g2,u2,b0,e2,_,_⟩:=h1 u1.tape;obtain⟨a8,b7,a6,b6,Z⟩:=g1;dsimp only at hc hp hd;subst hc;subst hd;obtain⟨o,u3,a9,h3⟩:=xC (Q:=Q) hp a6 Z (u1.tp u1.tape);rw[h3] at e2;cases e2
theorem LT.doom(a6:Q.follows .rangeFuncRecover=true)(hF:q3g F f){g:q4y}{u:q2v}(h:LT Q F g u)(hd:Doom [qi f] g)(a7:g.dying=none):False:=by
 induction h with
 | done h =>
  rcases hd with⟨_,hm⟩ | ⟨pre,c,e,_⟩
  ·exact hm (hF.md _ _ h)
  ·rw[hF.cs _ _ h] at e
   exact q5z e.symm
 | @step g u hn h1 h2 ih =>
  obtain⟨g1,u1,es,e,hs,hd1⟩:=h1 u.tape;have Z:=jJ (f:=f);have hst:∃pre,g.callers=pre++[qi f]:=by
   rcases hd with⟨e,_⟩ | ⟨pre,c,e,_⟩
   ·exact⟨[],e⟩
   ·exact⟨pre++[c],by rw[e];simp⟩
  obtain⟨b7,b0⟩:=hst;have a8:Doom [qi f] g1\/∃x,[qi f]=x::g1.callers:=by
   obtain⟨fr,cs,st,dy,off⟩:=g;dsimp only at a7 hd;subst a7;rcases hd with⟨hc,hm⟩ | ⟨pre,c,hc,hm⟩
   ·subst hc
    have:qag Q true { frame:=fr,callers:=[qi f],status:=st,dying:=none,offers:=off } (u.tp u.tape) true=unwind Q true fr [qi f] none (u.tp u.tape):=by
     unfold qag;dsimp only;cases hmm:fr.mode<;>first | exact absurd hmm hm | rfl
    rw[this] at e;exact dm_self (P:=Q) (e1:=[]) (by intro fr;unfold q92;cases fr.kind<;>rfl) hm true _ Z _ _ _ e ⟨hs,hd1⟩
   ·subst hc
    have key:Dm [qi f] (qag Q true { frame:=fr,callers:=pre++c::[qi f],status:=st,dying:=none,offers:=off } (u.tp u.tape) true):=by
     unfold qag;dsimp only;cases fr.mode with
     | run=>exact dm_exec Z a6 hm true _
     | returning=>exact q02 Z hm true _
     | panicking l=>exact q02 Z hm true _
    exact key _ _ _ e ⟨hs,hd1⟩
  rcases a8 with a8 | ⟨x,hx⟩
  ·exact ih _ _ _ _ e a8 hd1
  ·have b6:g1.callers=[]:=by simpa using(List.cons.inj hx).2.symm
   rcases xy (f:=f) a6 b0 a7 (u.tp u.tape) g1 u1 es e hs hd1 with⟨a9,hh⟩ | ⟨_,hp⟩
   ·rw[b6] at hh
    cases a9<;>simp at hh
   ·exact KB a6 hF (h2 _ _ _ _ e) hp b6 hd1
theorem zh.plain{ρ:Ren}{x x':qcG}(h:zh Q ρ x x'):Plain x'=true:=by cases h<;>rfl
theorem KH{ρ:Ren}{m m':FrameMode}(h:ku ρ m m'):m=.run↔m'=.run:=by cases h<;>simp
theorem YC{ρ:Ren}{cs:List q7n}(h:LsR (qu Q P ρ) cs [qi f])(hcs:∃pre,cs=pre++[qi f]):cs=[qi f]:=by
 obtain⟨pre,rfl⟩:=hcs;have:=h.length;cases pre with
 | nil=>rfl
 | cons x pre=>simp at this
theorem YI.step(H:Duo Q P)(hrf:P.follows .rangeFuncRecover=true)(hrr:∀fr,q92 fr real=none)(hF:q3g F f)
  (stub:∀fk,Q.funcs[fk]?≠P.funcs[fk]?->∀a k cs u,∃o w es,qag Q true { frame:=q9v Q fk a k,callers:=cs,status:=.running,dying:=none } u true=.ended o w es)
  {ρ:Ren} {g:q4y} {wq:q2v} {g':q4y} {w:q2v} (h:YI Q P base F f k D real ρ g wq g' w) (hn:¬ F g wq) (b:Bool) :
  ∃σ g1 wq1 g1' w1 es,qag P b g' w true=.go g1' w1 es/\YI Q P base F f k D real σ g1 wq1 g1' w1/\Below Q F (g1,wq1) (g,wq)/\Eff base ρ σ w w1/\(∀e∈es,kz base σ e)/\Live g1':=by
 have b8:Q.follows .rangeFuncRecover=true:=H.rfr;obtain⟨gv,hg,hl⟩:=h.rel;obtain⟨e6,b9⟩:=h.stack;obtain⟨σ,g1,wq1,a6,w1,es,k0,k1,k2,k3,k4,k5,k6,k7,k8,e4,hd1⟩:=Yd H h.len h.wr h.gl hg h.tree hn b;obtain⟨_,T,d8,e1⟩:=k6;dsimp only at e1;have hst:∃a7,g1.callers=a7++[qi f]:=by
  rcases xy (f:=f) b8 b9 hg.dy (wq.tp T) g1 wq1 d8 e1 e4 hd1 with hh | ⟨hh,hp⟩
  ·exact hh
  ·exact(KB b8 hF k5 hp hh hd1).elim
 have hR:kw Q P σ g1 a6:=by
  rcases k1 with⟨_,k1⟩ | ⟨fk,kk,a,a',c,c',cs,cs',hne,hok,rfl,rfl,ha,hc,hcs1,hm⟩
  ·exact k1
  ·exfalso
   obtain⟨o,u,e8,e2⟩:=stub fk hne a kk (c::cs) (wq1.tp wq1.tape);cases k5 with
   | done hh =>
    have b6:=hF.cs _ _ hh;dsimp only at b6;simp only[qc7] at b6;rw[b6.1] at hm;rcases hm with hm | hm
    ·exact hm rfl
    ·exact hm _ _ rfl
   | step _ h1 _ =>
    obtain⟨g3,u3,e7,e3,_⟩:=h1 wq1.tape;rw[e2] at e3;cases e3
 have b0:Doom [qi f] g1->False:=λhd=>LT.doom b8 hF k5 hd hd1;have mk:∀g1',Lay k D real f a6 g1'->qag P b g' w true=.go g1' w1 es->Live g1'->∃σ g1 wq1 g1' w1 es,qag P b g' w true=.go g1' w1 es/\YI Q P base F f k D real σ g1 wq1 g1' w1/\Below Q F (g1,wq1) (g,wq)/\Eff base ρ σ w w1/\(∀e∈es,kz base σ e)/\Live g1' :=
  λg1' d5 he e5=>⟨σ,g1,wq1,g1',w1,es,he,⟨k4,k2,k3,k5,hst,a6,hR,d5⟩,⟨hn,T,d8,e1⟩,k7,k8,e5⟩
 have a9:a6.callers=[qi f]->a6.frame.mode≠.run->False:=λhc hm=>by
  have d7:=hR.callers;rw[hc] at d7;exact b0 (.inl ⟨YC d7 hst,λe=>hm ((KH hR.frame.mode).1 e)⟩)
 cases hl with
 | top hc hm hro =>
  have c3:=hg.callers;rw[hc] at c3;have b7:g.callers=[qi f]:=YC c3 h.stack;clear c3;have Z:=hg.frame.todo;cases ht:g.frame.todo with
  | nil =>
   exfalso;have c9:g.frame.mode=.run:=(KH hg.frame.mode).2 hm;have c8:g.frame.roundOf=none:=by
    rcases hg.frame.round with⟨hh,_⟩ | ⟨_,_,_,hh,_⟩
    ·exact hh
    ·rw[hro] at hh;cases hh
   have d6:=hg.dy;obtain⟨⟨fn,tmps,todo,defers,mode,kind,ro⟩,cs,st,dy,off⟩:=g;dsimp only at c9 c8 d6 ht b7;subst c9 c8 d6 ht;subst b7;have e2:qag Q true { frame:={ fn:=fn,tmps:=tmps,todo:=[],defers:=defers,mode:=.run,kind:=kind,roundOf:=none },callers:=[qi f],status:=st,dying:=none,offers:=off } (wq.tp T) true=.go { frame:={ fn:=fn,tmps:=tmps,todo:=[],defers:=defers,mode:=.returning,kind:=kind,roundOf:=none },callers:=[qi f],status:=.running,dying:=none } (wq.tp T) #[]:=by
    simp[qag,qcg]
   rw[e2] at e1;cases e1;exact b0 (.inl ⟨rfl,by simp⟩)
  | cons x l =>
   rw[ht] at Z;generalize d9:gv.frame.todo=vt at Z;cases Z with
   | cons hx hxl =>
    rename_i x' l'
    have hP:Pc gv.frame:=⟨hm,hro,x',l',d9,zh.plain hx⟩
    have a8:=q7A (k:=k) (D:=D) (e2:=real) hrf jJ hrr hP hc hg.dy' b b w;rcases a8 a6 w1 es k0 ⟨hR.st',hR.dy'⟩ (Y4 hR) with⟨h1,h2,h3,h5⟩ | ⟨pre,c,h1,h2,h3⟩ | ⟨h1,h2⟩
    ·exact mk _ (.top h1 h2 h3) h5 ⟨hR.st',hR.dy'⟩
    ·exact mk _ (.und pre c h1 h2) h3 ⟨hR.st',hR.dy'⟩
    ·exact(a9 h1 h2).elim
 | und pre c hc hP =>
  have hN:Jd c (tl k D c) [qi f] real:=⟨hP.mode,hP.mode,λfr=>q2e hP.mode jJ fr,λfr=>q2e (c:=tl k D c) hP.mode hrr fr⟩
  have a8:=q3m (c1:=c) (c2:=tl k D c) (e1:=[qi f]) (e2:=real) hrf hN (g:=gv) (pre:=pre) hc hg.dy' b b w;rcases a8 a6 w1 es k0 ⟨hR.st',hR.dy'⟩ (Y4 hR) with⟨a7,h1,h2⟩ | ⟨φ,hφ,h1,h2,h3⟩ | ⟨ch,h1,h2⟩
  ·exact mk _ (.und a7 c h1 hP) h2 ⟨hR.st',hR.dy'⟩
  ·have hφ1:φ (tl k D c)=tl k D (φ c)/\(φ c).mode=.run/\(φ c).roundOf=none:=by
    rcases hφ with⟨v,rfl⟩ | rfl
    ·obtain⟨q1,q2,q3⟩:=xL c v
     exact⟨Kh hP v,q1.trans hP.mode,q3.trans hP.round⟩
    ·exact⟨rfl,hP.mode,hP.round⟩
   rw[hφ1.1,<- h1] at h3;exact mk _ (.top h2 (by rw[h1];exact hφ1.2.1) (by rw[h1];exact hφ1.2.2)) h3 ⟨hR.st',hR.dy'⟩
  ·exact(a9 h2 (by rw[h1];exact yR _ _)).elim
theorem YI.rely{ρ:Ren}{g:q4y}{wq:q2v}{g':q4y}{w w2:q2v}(h:YI Q P base F f k D real ρ g wq g' w)(hsz:w.heap.size<=w2.heap.size)(Z:w2.os.env=w.os.env)
  (hk:∀i j,BR ρ i j->¬ JunkSet.jk i->w2.heap[j]?=w.heap[j]?) (hj:∀i j,BR ρ i j->JunkSet.jk i->∃c e f,w2.heap[j]?=some (.cells c e f)):YI Q P base F f k D real ρ g wq g' w2 :=
 ⟨h.len,h.wr.rely hsz Z hk hj,h.gl,h.tree,h.stack,h.rel⟩
end
end Go.Sim
end
section
namespace Go.Co
open Go.Conc Go.ConcN Go.Sim
structure Own(base:Nat)(ρ:Ren)(jk:Nat->Prop)(Fz S:Bs):Prop where
 low:∀i j,BR ρ i j->i<base->¬ jk i->Fz j
 own:∀i j,BR ρ i j->base<=i->S j
section
variable[JunkSet]{Q P:q7m}{base:Nat}{F:q4y->q2v->Prop}{f:qam}{k:List qcG}{D:List qba}{real:List q7n}{Fz:Bs}{K:q2v->q2v->Prop}{Stop:Bs->q4y->q2v->Prop}
theorem q2q{gv g':q4y}(h:Lay k D real f gv g')(hs:gv.status=.running):g'.status=.running:=by cases h<;>exact hs
theorem Own.step{ρ σ:Ren}{S:Bs}{w w1:q2v}(h:Own base ρ JunkSet.jk Fz S)(he:Eff base ρ σ w w1)(hb:base<=ρ.length)(hlt:∀i j,BR σ i j->j<w1.heap.size):Own base σ JunkSet.jk Fz (grow S w w1):=by
 have Z:∀i j,BR σ i j->i<ρ.length->BR ρ i j:=λi j hij hi=>by
  obtain⟨⟨τ,rfl⟩,_⟩:=he.le;unfold BR at hij ⊢
  rwa [q9p hi] at hij
 refine⟨λi j hij hi hj=>h.low i j (Z i j hij (by omega)) hi hj,λi j hij hi=>?_⟩;rcases qb5 i ρ.length with hlt2 | hge
 ·exact .inl (h.own i j (Z i j hij hlt2) hi)
 ·exact .inr ⟨he.fresh i j hij hge,hlt i j hij⟩
theorem q75{ρ σ:Ren}{S:Bs}{wq w w1:q2v}{es:Array qaz}(h:Own base ρ JunkSet.jk Fz S)(he:Eff base ρ σ w w1)(hb:base<=ρ.length)(hw:WR Q base σ wq w1)(hes:∀e∈es,kz base σ e):DC Fz S w w1 es:=by
 have Z:∀i j,BR σ i j->i<ρ.length->BR ρ i j:=λi j hij hi=>by
  obtain⟨⟨τ,rfl⟩,_⟩:=he.le;unfold BR at hij ⊢
  rwa [q9p hi] at hij
 have hown:∀i j,BR σ i j->base<=i->grow S w w1 j:=(h.step he hb hw.lt).own;refine⟨λb hb1 hS=>he.keep b hb1 λi hi=>Nat.lt_of_not_le λhle=>hS (h.own i b hi hle),he.size,he.os,he.output,λe a6=>?_⟩;cases hes e a6 with
 | @cell i j off spot wr h1 h2 h3 =>
  refine⟨⟨by simp,by simp,by simp⟩,λm hm=>by simp at hm,λx hx b hbb=>?_⟩;have hx':x=⟨.cell ⟨j,off,spot⟩,wr,.plain⟩:=by cases wr<;>(simp[qaE,qbo] at hx;exact hx.symm)
  subst hx';simp only[blk,q9B] at hbb;subst hbb;refine⟨hw.lt _ _ h1,rfl,?_⟩;rcases qb5 i base with hlt | hge
  ·refine .inr ⟨h.low i j (Z i j h1 (by omega)) hlt h2,?_⟩
   cases wr with
   | false=>rfl
   | true=>exact absurd (h3 rfl) (by omega)
  ·exact .inl (hown i j h1 hge)
 | @obj i j wr h1 h2 =>
  refine⟨⟨by simp,by simp,by simp⟩,λm hm=>by simp at hm,λx hx b hbb=>?_⟩;have hx':x=⟨.obj j,wr,.plain⟩:=by cases wr<;>(simp[qaE,qbo] at hx;exact hx.symm)
  subst hx';simp only[blk,q9B] at hbb;subst hbb;exact⟨hw.lt _ _ h1,rfl,.inl (hown i j h1 h2)⟩
 | noRoom=>exact⟨⟨by simp,by simp,by simp⟩,λm hm=>by simp at hm;exact hm.symm,λx hx=>by simp[qaE,qbo] at hx⟩
 | env =>
  refine⟨⟨by simp,by simp,by simp⟩,λm hm=>by simp at hm,λx hx b hbb=>?_⟩;have hx':x=⟨.output,true,.plain⟩:=by simp[qaE,qbo] at hx;exact hx.symm
  subst hx';cases hbb
theorem qk.tsub(H:Duo Q P)(hrf:P.follows .rangeFuncRecover=true)(hrr:∀fr,q92 fr real=none)(hF:q3g F f)
  (stub:∀fk,Q.funcs[fk]?≠P.funcs[fk]?->∀a k cs u,∃o w es,qag Q true { frame:=q9v Q fk a k,callers:=cs,status:=.running,dying:=none } u true=.ended o w es)
  (Jc Jb:Bs) (Liv:q2v->Prop) (hL1:∀S w w₁,RC Fz K S w w₁->Liv w->Liv w₁) (hL2:∀S w w' es,DC Fz S w w' es->(∀b,Jb b->w'.heap[b]?=w.heap[b]?)->Liv w->Liv w') (hL3:∀w b,Liv w->Jc b->∃c e f,w.heap[b]?=some (.cells c e f)) (hL4:∀w b,Liv w->Jb b->b<w.heap.size) {ρ0:Ren}
  (hend:∀σ g wq g' w S,YI Q P base F f k D real σ g wq g' w->F g wq->Le ρ0 σ->Own base σ JunkSet.jk Fz S->(∀i j,BR σ i j->JunkSet.jk i->Jc j)->Liv w->(∀j,Jb j->¬ S j)->qk P Fz K Stop S g' w)
  {ρ:Ren} {g:q4y} {wq:q2v} {g':q4y} {w:q2v} {S:Bs} (h:YI Q P base F f k D real ρ g wq g' w) (hle:Le ρ0 ρ) (ho:Own base ρ JunkSet.jk Fz S) (hj:∀i j,BR ρ i j->JunkSet.jk i->Jc j) (hv:Liv w) (hjs:∀j,Jb j->¬ S j):qk P Fz K Stop S g' w:=by
 have a7:Acc (Below Q F) (g,wq):=h.tree.acc;generalize hx:(g,wq)=x at a7;induction a7 generalizing ρ g wq g' w S with
 | intro x _ ih =>
  subst hx;by_cases hn:F g wq
  ·exact hend ρ g wq g' w S h hn hle ho hj hv hjs
  ·have b0:g'.status=.running:=by
    obtain⟨gv,hg,hl⟩:=h.rel;exact q2q hl hg.st'
   refine qk.step b0 λw₁ hr=>?_;have a8:Liv w₁:=hL1 _ w w₁ hr hv;have h1:YI Q P base F f k D real ρ g wq g' w₁:=h.rely hr.size (by rw[hr.os]) (λi j hij Z=>by
     rcases qb5 i base with hlt | hge
     ·exact hr.fz j (ho.low i j hij hlt Z)
     ·exact hr.own j (ho.own i j hij hge)) (λi j hij Z=>hL3 w₁ j a8 (hj i j hij Z))
   obtain⟨σ,g1,wq1,g1',w1,es,k1,k2,k3,k4,k5,_⟩:=h1.step H hrf hrr hF stub hn false;have a9:=q75 ho k4 h1.len k2.wr k5;have hlt:∀j,Jb j->j<w₁.heap.size:=λj a6=>hL4 w₁ j a8 a6;refine⟨g1',w1,es,k1,a9,ih (g1,wq1) k3 k2 (hle.trans k4.le) (ho.step k4 h1.len k2.wr.lt) (λi j hij Z=>?_) (hL2 _ w₁ w1 es a9 (λb hb=>a9.keep b (hlt b hb) (hjs b hb)) a8) (λj a6 hS=>?_) rfl⟩;rotate_left
   ·rcases hS with hS | ⟨hS,_⟩
    ·exact hjs j a6 hS
    ·have:=hlt j a6
     omega
   refine hj i j ?_ Z;have hi:i<ρ.length:=q7u (h1.wr.below i Z) h1.len;obtain⟨⟨τ,rfl⟩,_⟩:=k4.le;unfold BR at hij ⊢
   rwa [q9p hi] at hij
def AtEnd(f:qam)(b:q7n)(R:Act->q2v->Prop)(g:q4y)(u:q2v):Prop:=Live g/\g.callers=[qi f]/\∃a T,g.frame=b.at a []/\R a (u.tp T)
theorem AtEnd.leafs{b:q7n}{R:Act->q2v->Prop}:q3g (AtEnd f b R) f:=⟨λ_ _ h=>h.2.1,λ_ _ ⟨_,_,a,_,e,_⟩=>by rw[e];rfl⟩
theorem AtEnd.tape{b:q7n}{R:Act->q2v->Prop}{g:q4y}{u:q2v}(T:Nat->qbe->Nat)(h:AtEnd f b R g u):AtEnd f b R g (u.tp T):=by
 obtain⟨h1,h2,a,T0,h3,h4⟩:=h;exact⟨h1,h2,a,T0,h3,h4⟩
def jT(R:Act->q2v->Prop):Exit->Act->q2v->Prop
 | .normal,a,w=>R a w
 | _,_,_=>False
theorem LT.of_wp(H:Duo Q Q){b:q7n}{a:Act}{c:qbs}{wq:q2v}{R:Act->q2v->Prop}(h:∀T,c.wp Q (jT R) a (wq.tp T))(hr:vY Q base (G (b.at a [.code c]) [qi f]) wq):LT Q (AtEnd f b R) (G (b.at a [.code c]) [qi f]) wq:=by
 refine LT.of_all H (λg u T=>AtEnd.tape T) hr λT=>?_;obtain⟨e,a',w',hq,Z⟩:=h T b [] [qi f];cases e with
 | normal =>
  obtain⟨n,hn⟩:=Z;exact LP.of_runs H n (g:=G (b.at a [.code c]) [qi f]) (g1:=G (b.at a' []) [qi f]) (u:=wq.tp T) (pre:=[]) (hr.tape T) ⟨rfl,rfl⟩ rfl hn ⟨rfl,rfl⟩ ⟨[],rfl⟩ ⟨⟨rfl,rfl⟩,rfl,a',w'.tape,rfl,by rw[Jm];exact hq⟩
 | exit id=>exact hq.elim
 | goto l=>exact hq.elim
 | ret=>exact hq.elim
 | panic chain=>exact hq.elim
 | outgrown=>exact hq.elim
end
end Go.Co
end
section
namespace Go.Co
open Go
theorem zT{md:qcz}{ops:Array qaG}{listed:Array Bool}{i:Nat}(h:i∈q7H md ops listed):i<ops.size/\listed.getD i true=false:=by
 simp only[q7H,List.mem_filter,qbt,q85,qbH] at h;exact⟨h.1,h.2.1⟩
def unl(listed:Array Bool)(n:Nat):Nat:=((q99 n).filter λi=>!listed.getD i true).length
theorem xU{listed:Array Bool}{n i:Nat}(hi:i<n)(hs:listed.size=n)(h:listed.getD i true=false):unl (listed.setIfInBounds i true) n<unl listed n:=by
 unfold unl;have key:∀l:List Nat,i∈l->(l.filter λk=>!(listed.setIfInBounds i true).getD k true).length<(l.filter λk=>!listed.getD k true).length:=by
  intro l;have hle:∀l:List Nat,(l.filter λk=>!(listed.setIfInBounds i true).getD k true).length<=(l.filter λk=>!listed.getD k true).length:=by
   intro l;induction l with
   | nil=>simp
   | cons x l ih =>
    simp only[List.filter_cons];by_cases hx:x=i
    ·subst hx
     have:(listed.setIfInBounds x true).getD x true=true:=by simp[qau,hs,hi]
     rw[this,h];simp only[Bool.not_true,Bool.not_false,q9g,if_true,if_false,q7q];omega
    ·have:(listed.setIfInBounds i true).getD x true=listed.getD x true:=by simp[qau,q9A,Ne.symm hx]
     rw[this];split
     ·simp only[q7q];omega
     ·exact ih
  induction l with
  | nil=>intro h;cases h
  | cons x l ih =>
   intro hm;simp only[List.filter_cons];by_cases hx:x=i
   ·subst hx
    have:(listed.setIfInBounds x true).getD x true=true:=by simp[qau,hs,hi]
    rw[this,h];have:=hle l;simp only[Bool.not_true,Bool.not_false,q9g,if_true,if_false,q7q];omega
   ·have:(listed.setIfInBounds i true).getD x true=listed.getD x true:=by simp[qau,q9A,Ne.symm hx]
    rw[this];have hm':i∈l:=by simpa[Ne.symm hx] using hm
    split
    ·have:=ih hm';simp only[q7q];omega
    ·exact ih hm'
 exact key _ (by simp[hi])
theorem q5D{P:q7m}{md:qcz}{ops:Array qaG}{Q:Exit->Act->q2v->Prop}(I:Array Bool->Act->q2v->Prop)
  (hstep:∀listed a w i,listed.size=ops.size->I listed a w->i∈q7H md ops listed->wpOp P ops Q i (I (listed.setIfInBounds i true)) a w)
  (hend:∀listed a w,listed.size=ops.size->I listed a w->q7H md ops listed=[]->Q .normal a w) :
  ∀(Z:Nat) (listed:Array Bool) (a:Act) (w:q2v),listed.size=ops.size->unl listed ops.size<=Z->I listed a w->wpAny P md ops Q Z listed a w:=by
 intro Z;induction Z with
 | zero =>
  intro listed a w hs hu hI;have hr:q7H md ops listed=[]:=by
   cases hr:q7H md ops listed with
   | nil=>rfl
   | cons i l =>
    exfalso;obtain⟨h1,h2⟩:=zT (md:=md) (ops:=ops) (listed:=listed) (i:=i) (by rw[hr];simp);have:=xU h1 hs h2;omega
  exact⟨hr,hend listed a w hs hI hr⟩
 | succ Z ih =>
  intro listed a w hs hu hI;refine⟨hend listed a w hs hI,λi hi=>?_⟩;obtain⟨h1,h2⟩:=zT hi;have hlt:=xU h1 hs h2;exact wpOp_mono (λa' w' h'=>ih _ a' w' (by simpa using hs) (by omega) h') (hstep listed a w i hs hI hi)
theorem YL{P:q7m}{id:Nat}{ops:Array qaG}{Q:Exit->Act->q2v->Prop}{a:Act}{w:q2v}(hm:P.follows .mixedOrders=true)(I:Array Bool->Act->q2v->Prop)
  (h0:I (qa7 ops.size false) a { w with drawn:=w.drawn+1 })
  (hstep:∀listed a w i,listed.size=ops.size->I listed a w->i∈q7H .any ops listed->wpOp P ops Q i (I (listed.setIfInBounds i true)) a w)
  (hend:∀listed a w,listed.size=ops.size->I listed a w->q7H .any ops listed=[]->Q .normal a w):(Code.region id ops true).wp P Q a w :=
 wp_region_any hm (q5D I hstep hend ops.size _ a _ (by simp) (by
  unfold unl;refine q6s (qbA _ _) (by simp)) h0)
theorem zr{P:q7m}{ops:Array qaG}{R K:Act->q2v->Prop}{i:Nat}{o:qaG}{a:Act}{w:q2v}(ho:ops[i]?=some o)(h:wpList P ops (jT K) [o] a w):wpOp P ops (jT R) i K a w:=by
 have no:∀X:Act->q2v->Prop,¬ LetsOut (jT X):=λX ⟨_,_,h⟩=>h;unfold wpOp;rw[ho];dsimp only;simp only[wpList] at h;split
 ·rename_i hw
  rw[if_pos hw] at h;rcases h with h | ⟨_,h⟩
  ·refine .inl ?_
   unfold Oper.wp at h ⊢;generalize (execOp a.eval o).run P w=r at h ⊢;cases r with
   | ok x w' =>
    cases x with
    | enter f args=>exact Calls.mono h λe w q=>by cases e<;>first | exact q | exact q.elim | exact absurd q (no _)
    | row r args=>exact Rows.mono h λv w q=>q
    | value v=>exact h
    | skip=>exact h
    | defer d=>exact h
    | _=>exact h.elim
   | halt x w'=>cases x<;>first | exact h | exact h.elim
  ·exact absurd h (no _)
 ·rename_i hw
  rw[if_neg hw] at h;exact h
end Go.Co
namespace Go.Co
open Go
theorem zl{md:qcz}{ops:Array qaG}{listed:Array Bool}{i:Nat}{o:qaG}(h:i∈q7H md ops listed)(ho:ops[i]?=some o):(o.after.all λe=>!qah md e || listed.getD e.on false)=true:=by
 simp only[q7H,List.mem_filter,qbt,q85,qbH] at h;have:=h.2.2;rw[ho] at this;simpa using this
end Go.Co
namespace Go.Co
open Go
theorem zK{md:qcz}{ops:Array qaG}{listed:Array Bool}(hr:q7H md ops listed=[])(hs:listed.size=ops.size){i:Nat}{o:qaG}(ho:ops[i]?=some o)(Z:(o.after.all λe=>!qah md e || listed.getD e.on false)=true):listed[i]?.getD false=true:=by
 have hi:i<ops.size:=(q3h.1 ho).1;refine qb6 λhn=>?_;have hl:i<listed.size:=by omega
 have:i∈q7H md ops listed:=by
  simp only[q7H,List.mem_filter,qbt,q85,qbH];refine⟨hi,?_,?_⟩
  ·simp[qau,q8B hl] at hn ⊢
   exact hn
  ·rw[ho]
   simpa using Z
 rw[hr] at this;cases this
theorem Zh(listed:Array Bool)(i j:Nat)(h:i<listed.size):(listed.setIfInBounds i true)[j]?.getD false=if i=j then true else listed[j]?.getD false:=by
 simp only[q9A];split
 ·rename_i e;subst e;simp[h]
 ·rfl
theorem Y2{md:qcz}{ops:Array qaG}{listed:Array Bool}{i:Nat}(h:i∈q7H md ops listed):listed[i]?.getD false=false:=by
 have:=(zT h).2;simp only[qau] at this;cases hx:listed[i]? with
 | none=>rfl
 | some b=>rw[hx] at this;exact this
end Go.Co
end
section
namespace Go.Sim
structure Lets where
 f:Nat->Bool
 m:String->Bool
 b:Builtin->Array q7x->Bool
section
variable(Q:q7m)(s:Lets)
def yj:qa4->Bool
 | .tmp _=>true
 | .const v=>bareB v
 | .global g=>decide (g<Q.globals.size)
 | .func f=>s.f f
def xa(l:List qa4):Bool:=l.all (yj Q s)
def q3c:Call->Bool
 | ⟨.value f,a,_⟩=>yj Q s f && xa Q s a.toList
 | ⟨.invoke r n,a,_⟩=>yj Q s r && s.m n && xa Q s a.toList
 | ⟨.builtin b,a,ts⟩=>s.b b ts && xa Q s a.toList
def opC:Op->Bool
 | .move x | .assign x | .nilCheck x | .box _ x | .load _ x | .unOp _ _ x | .makeInterface _ x | .field _ x _ | .extract x _ | .panic x=>yj Q s x
 | .pick c a b=>yj Q s c && yj Q s a && yj Q s b
 | .alloc t=>kA Q t
 | .build t ps=>kA Q t && xa Q s (ps.toList.map (·.2))
 | .buildSlice t _ ps=>xN Q t && xa Q s (ps.toList.map (·.2))
 | .store _ a x=>yj Q s a && yj Q s x
 | .binOp op t x y _=>(if YZ op then eqOk Q t x y else q0r Q t) && yj Q s x && yj Q s y
 | .convert a d x=>q5u Q a d && yj Q s x
 | .makeFunc (.func f) a b=>s.f f && xa Q s a.toList && xa Q s b.toList
 | .makeMap _ r=>xa Q s r.toList
 | .makeSlice t l c=>xN Q t && yj Q s l && yj Q s c
 | .slice _ x l h m=>yj Q s x && xa Q s l.toList && xa Q s h.toList && xa Q s m.toList
 | .fieldAddr t x f=>q0G Q t f && yj Q s x
 | .indexAddr _ x i | .index _ x i=>yj Q s x && yj Q s i
 | .lookup t x i _=>Ya Q t && yj Q s x && yj Q s i
 | .mapUpdate t m k x | .insert t m k x=>Ya Q t && yj Q s m && yj Q s k && yj Q s x
 | .typeAssert x _ a _=>kA Q a && yj Q s x
 | .call c | .defer c=>q3c Q s c
 | _=>false
def yM:qbs->Bool
 | .skip | .exit _ | .label _ | .goto _ | .ret=>true
 | .region _ ops _=>ops.toList.all λo=>opC Q s o.op
 | .seq a b=>yM a && yM b
 | .cond c a b=>yj Q s c && yM a && yM b
 | .block _ c | .loop c | .scope c=>yM c
 | .rangeFunc f _ a c=>yj Q s f && yM a && yM c
 | _=>false
end
section
variable[JunkSet]{Q:q7m}{s:Lets}(hf:∀f,s.f f=true->JunkSet.okf f)(hm:∀n,s.m n=true->JunkSet.okm n)(hb:∀b ts,s.b b ts=true->JunkSet.okb b ts)
include hf in
theorem qA{x:qa4}(h:yj Q s x=true):qF Q x:=by
 cases x with
 | tmp t=>exact .tmp t
 | const v=>exact .const (q1b h)
 | global g=>exact .global (of_decide_eq_true h)
 | func f=>exact .func (hf f h)
include hf in
theorem j5{l:List qa4}(h:xa Q s l=true):je Q l:=λx hx=>qA hf (qaf.1 h x hx)
include hf hm hb in
theorem q3b{c:Call}(h:q3c Q s c=true):yJ Q c:=by
 obtain⟨ca,a,ts⟩:=c;cases ca with
 | value f=>simp only[q3c,q85] at h;exact .value (qA hf h.1) (j5 hf h.2)
 | invoke r n=>simp only[q3c,q85] at h;exact .invoke (qA hf h.1.1) (hm _ h.1.2) (j5 hf h.2)
 | builtin b=>simp only[q3c,q85] at h;exact .builtin (hb _ _ h.1) (j5 hf h.2)
include hf hm hb in
theorem opC_ok{o:Op}(h:opC Q s o=true):qJ Q o:=by
 cases o with
 | makeFunc fn a b =>
  cases fn with
  | func f=>simp only[opC,q85] at h;exact .makeFunc (hf _ h.1.1) (j5 hf h.1.2) (j5 hf h.2)
  | _=>cases h
 | binOp op t x y u =>
  simp only[opC,q85] at h;obtain⟨⟨h1,h2⟩,h3⟩:=h;split at h1
  ·rename_i he
   exact .eql he h1 (qA hf h2) (qA hf h3)
  ·rename_i he
   exact .arith (by simpa using he) h1 (qA hf h2) (qA hf h3)
 | move x=>exact .move (qA hf h)
 | assign x=>exact .assign (qA hf h)
 | nilCheck x=>exact .nilCheck (qA hf h)
 | box t x=>exact .box (qA hf h)
 | load t x=>exact .load (qA hf h)
 | unOp o t x=>exact .unOp (qA hf h)
 | makeInterface t x=>exact .makeInterface (qA hf h)
 | field t x f=>exact .field (qA hf h)
 | extract x i=>exact .extract (qA hf h)
 | panic x=>exact .panic (qA hf h)
 | pick c a b=>simp only[opC,q85] at h;exact .pick (qA hf h.1.1) (qA hf h.1.2) (qA hf h.2)
 | alloc t=>exact .alloc h
 | build t ps=>simp only[opC,q85] at h;exact .build h.1 (j5 hf h.2)
 | buildSlice t n ps=>simp only[opC,q85] at h;exact .buildSlice h.1 (j5 hf h.2)
 | store t a x=>simp only[opC,q85] at h;exact .store (qA hf h.1) (qA hf h.2)
 | convert a d x=>simp only[opC,q85] at h;exact .convert h.1 (qA hf h.2)
 | makeMap t r=>exact .makeMap (j5 hf h)
 | makeSlice t l c=>simp only[opC,q85] at h;exact .makeSlice h.1.1 (qA hf h.1.2) (qA hf h.2)
 | slice t x l hh m=>simp only[opC,q85] at h;exact .slice (qA hf h.1.1.1) (j5 hf h.1.1.2) (j5 hf h.1.2) (j5 hf h.2)
 | fieldAddr t x f=>simp only[opC,q85] at h;exact .fieldAddr h.1 (qA hf h.2)
 | indexAddr t x i=>simp only[opC,q85] at h;exact .indexAddr (qA hf h.1) (qA hf h.2)
 | index t x i=>simp only[opC,q85] at h;exact .index (qA hf h.1) (qA hf h.2)
 | lookup t x i c=>simp only[opC,q85] at h;exact .lookup h.1.1 (qA hf h.1.2) (qA hf h.2)
 | mapUpdate t m k x=>simp only[opC,q85] at h;exact .mapUpdate h.1.1.1 (qA hf h.1.1.2) (qA hf h.1.2) (qA hf h.2)
 | insert t m k x=>simp only[opC,q85] at h;exact .insert h.1.1.1 (qA hf h.1.1.2) (qA hf h.1.2) (qA hf h.2)
 | typeAssert x t a c=>simp only[opC,q85] at h;exact .typeAssert h.1 (qA hf h.2)
 | call c=>exact .call (q3b hf hm hb h)
 | defer c=>exact .defer (q3b hf hm hb h)
 | _=>cases h
include hf hm hb in
theorem q38{c:qbs}(h:yM Q s c=true):qz Q c:=by
 induction c with
 | skip=>exact .skip
 | exit id=>exact .exit id
 | label l=>exact .label l
 | goto l=>exact .goto l
 | ret=>exact .ret
 | region id ops d=>exact .region λo ho=>opC_ok hf hm hb (qaf.1 h o ho)
 | seq a b iha ihb=>simp only[yM,q85] at h;exact .seq (iha h.1) (ihb h.2)
 | cond c a b iha ihb=>simp only[yM,q85] at h;exact .cond (qA hf h.1.1) (iha h.1.2) (ihb h.2)
 | block id c ih=>exact .block (ih h)
 | loop c ih=>exact .loop (ih h)
 | scope c ih=>exact .scope (ih h)
 | rangeFunc f ps a c iha ihc=>simp only[yM,q85] at h;exact .rangeFunc (qA hf h.1.1) (iha h.1.2) (ihc h.2)
 | _=>cases h
end
section
variable{A B:JunkSet}{Q:q7m}(hf:∀f,A.okf f->B.okf f)(hm:∀n,A.okm n->B.okm n)(hb:∀b ts,A.okb b ts->B.okb b ts)
include hf in
theorem qG{x:qa4}(h:@qF A Q x):@qF B Q x:=by
 cases h with
 | tmp t=>exact @qF.tmp B Q t
 | const h=>exact @qF.const B Q _ h
 | global h=>exact @qF.global B Q _ h
 | func h=>exact @qF.func B Q _ (hf _ h)
include hf in
theorem jK{l:List qa4}(h:@je A Q l):@je B Q l:=λx hx=>qG hf (h x hx)
include hf hm hb in
theorem q5w{c:Call}(h:@yJ A Q c):@yJ B Q c:=by
 cases h with
 | value h1 h2=>exact @yJ.value B Q _ _ _ (qG hf h1) (jK hf h2)
 | invoke h1 h2 h3=>exact @yJ.invoke B Q _ _ _ _ (qG hf h1) (hm _ h2) (jK hf h3)
 | builtin h1 h2=>exact @yJ.builtin B Q _ _ _ (hb _ _ h1) (jK hf h2)
include hf hm hb in
theorem op_to{o:Op}(h:@qJ A Q o):@qJ B Q o:=by
 cases h with
 | move h=>exact @qJ.move B Q _ (qG hf h)
 | assign h=>exact @qJ.assign B Q _ (qG hf h)
 | pick h1 h2 h3=>exact @qJ.pick B Q _ _ _ (qG hf h1) (qG hf h2) (qG hf h3)
 | alloc h=>exact @qJ.alloc B Q _ h
 | box h=>exact @qJ.box B Q _ _ (qG hf h)
 | build h1 h2=>exact @qJ.build B Q _ _ h1 (jK hf h2)
 | buildSlice h1 h2=>exact @qJ.buildSlice B Q _ _ _ h1 (jK hf h2)
 | load h=>exact @qJ.load B Q _ _ (qG hf h)
 | store h1 h2=>exact @qJ.store B Q _ _ _ (qG hf h1) (qG hf h2)
 | nilCheck h=>exact @qJ.nilCheck B Q _ (qG hf h)
 | arith h1 h2 h3 h4=>exact @qJ.arith B Q _ _ _ _ _ h1 h2 (qG hf h3) (qG hf h4)
 | eql h1 h2 h3 h4=>exact @qJ.eql B Q _ _ _ _ _ h1 h2 (qG hf h3) (qG hf h4)
 | unOp h=>exact @qJ.unOp B Q _ _ _ (qG hf h)
 | convert h1 h2=>exact @qJ.convert B Q _ _ _ h1 (qG hf h2)
 | makeInterface h=>exact @qJ.makeInterface B Q _ _ (qG hf h)
 | makeFunc h1 h2 h3=>exact @qJ.makeFunc B Q _ _ _ (hf _ h1) (jK hf h2) (jK hf h3)
 | makeMap h=>exact @qJ.makeMap B Q _ _ (jK hf h)
 | makeSlice h1 h2 h3=>exact @qJ.makeSlice B Q _ _ _ h1 (qG hf h2) (qG hf h3)
 | slice h1 h2 h3 h4=>exact @qJ.slice B Q _ _ _ _ _ (qG hf h1) (jK hf h2) (jK hf h3) (jK hf h4)
 | fieldAddr h1 h2=>exact @qJ.fieldAddr B Q _ _ _ h1 (qG hf h2)
 | field h=>exact @qJ.field B Q _ _ _ (qG hf h)
 | indexAddr h1 h2=>exact @qJ.indexAddr B Q _ _ _ (qG hf h1) (qG hf h2)
 | index h1 h2=>exact @qJ.index B Q _ _ _ (qG hf h1) (qG hf h2)
 | lookup h1 h2 h3=>exact @qJ.lookup B Q _ _ _ _ h1 (qG hf h2) (qG hf h3)
 | mapUpdate h1 h2 h3 h4=>exact @qJ.mapUpdate B Q _ _ _ _ h1 (qG hf h2) (qG hf h3) (qG hf h4)
 | insert h1 h2 h3 h4=>exact @qJ.insert B Q _ _ _ _ h1 (qG hf h2) (qG hf h3) (qG hf h4)
 | typeAssert h1 h2=>exact @qJ.typeAssert B Q _ _ _ _ h1 (qG hf h2)
 | extract h=>exact @qJ.extract B Q _ _ (qG hf h)
 | call h=>exact @qJ.call B Q _ (q5w hf hm hb h)
 | defer h=>exact @qJ.defer B Q _ (q5w hf hm hb h)
 | panic h=>exact @qJ.panic B Q _ (qG hf h)
include hf hm hb in
theorem q13{c:qbs}(h:@qz A Q c):@qz B Q c:=by
 induction h with
 | skip=>exact @qz.skip B Q
 | region h=>exact @qz.region B Q _ _ _ λo ho=>op_to hf hm hb (h o ho)
 | seq _ _ h1 h2=>exact @qz.seq B Q _ _ h1 h2
 | cond h _ _ h1 h2=>exact @qz.cond B Q _ _ _ (qG hf h) h1 h2
 | block _ h=>exact @qz.block B Q _ _ h
 | loop _ h=>exact @qz.loop B Q _ h
 | rangeFunc h _ _ h1 h2=>exact @qz.rangeFunc B Q _ _ _ _ (qG hf h) h1 h2
 | exit id=>exact @qz.exit B Q id
 | scope _ h=>exact @qz.scope B Q _ h
 | label l=>exact @qz.label B Q l
 | goto l=>exact @qz.goto B Q l
 | ret=>exact @qz.ret B Q
end
@[reducible] def JS0(s:Lets)(jk:Nat->Prop):JunkSet:={ jk,okf:=λf=>s.f f=true,okm:=λn=>s.m n=true,okb:=λb ts=>s.b b ts=true,okc:=λ_=>False,okg:=λ_=>False }
@[reducible] def JS(Q P:q7m)(s:Lets)(jk:Nat->Prop):JunkSet:={ JS0 s jk with okc:=@qz (JS0 s jk) Q,okg:=λf=>(∃g,Q.funcs[f]?=some g/\P.funcs[f]?=some g)/\Q.inits.idxOf? f=none }
def funC(Q P:q7m)(s:Lets)(f:Nat):Bool :=
 match Q.funcs[f]?,P.funcs[f]? with
 | some fq,some fp=>!fq.body.isNone && !fp.body.isNone && !(fq.name == "runtime.NumGoroutine") && !(fp.name == "runtime.NumGoroutine") && (Q.inits.idxOf? f).isNone
 | _,_=>false
def bodyC(Q:q7m)(s:Lets)(f:Nat):Bool :=
 match (Q.funcs[f]?).bind (·.body) with
 | some c=>yM Q s c
 | none=>false
theorem duo_of{Q P:q7m}{s:Lets}{jk:Nat->Prop}(ht:P.toTables=Q.toTables)(hr:Q.follows .rangeFuncRecover=true)
  (h0:(match Q.info? 0 with | some i=>(i.methods.find? (·.name == "")).isNone | none=>true)=true)
  (hb:∀b ts,s.b b ts=true->biB Q b ts=true)
  (hf:∀f,s.f f=true->funC Q P s f=true) (hbody:∀f,s.f f=true->Q.funcs[f]?=P.funcs[f]?->bodyC Q s f=true)
  (hm:∀n,s.m n=true->∀t i m,Q.info? t=some i->i.methods.find? (·.name == n)=some m->m.path=#[]/\∃f b,m.func=some (f,b)/\s.f f=true/\∀e,Q.underlying t=some (.pointer e)->b=true):@Duo (JS Q P s jk) Q P:=by
 letI:=JS Q P s jk
 have fin:∀f,s.f f=true->∃fq fp,Q.funcs[f]?=some fq/\P.funcs[f]?=some fp/\fq.body.isNone=false/\fp.body.isNone=false/\(fq.name == "runtime.NumGoroutine")=false/\(fp.name == "runtime.NumGoroutine")=false/\Q.inits.idxOf? f=none:=by
  intro f h;have:=hf f h;unfold funC at this;cases h1:Q.funcs[f]? with
  | none=>rw[h1] at this;cases this
  | some fq =>
   cases h2:P.funcs[f]? with
   | none=>rw[h1,h2] at this;cases this
   | some fp =>
    rw[h1,h2] at this;simp only[q85,qbH,Option.isNone_iff_eq_none] at this;exact⟨fq,fp,rfl,rfl,this.1.1.1.1,this.1.1.1.2,this.1.1.2,this.1.2,this.2⟩
 exact{
  bis:=hb
  tables:=ht
  funcs:=λf h=>let ⟨fq,fp,h1,h2,h3,h4,h5,h6,_⟩:=fin f h;⟨fq,fp,h1,h2,h3,h4,h5,h6⟩
  meths:=hm
  nometh:=λi hi=>by rw[hi] at h0;exact h0
  codes:=λc=>⟨q13 (A:=JS0 s jk) (B:=JS Q P s jk) (λ_ h=>h) (λ_ h=>h) (λ_ _ h=>h),q13 (A:=JS Q P s jk) (B:=JS0 s jk) (λ_ h=>h) (λ_ h=>h) (λ_ _ h=>h)⟩
  rfr:=hr
  bodies:=λf g Z h1 h2 c hc=>by
   have:=hbody f Z (by rw[h1,h2]);unfold bodyC at this;rw[h1,Option.bind_some,hc] at this;exact q38 (s:=s) (λ_ h=>h) (λ_ h=>h) (λ_ _ h=>h) this
  inits:=λf h=>let ⟨_,_,_,_,_,_,_,_,h7⟩:=fin f h;h7
  same:=λf=>Iff.rfl }
end Go.Sim
end
section
namespace Go.Sim
structure BoxJ where
 j:JunkSet
structure Up(A B:JunkSet):Prop where
 f:∀x,A.okf x->B.okf x
 m:∀x,A.okm x->B.okm x
 b:∀x y,A.okb x y->B.okb x y
 c:∀x,A.okc x->B.okc x
 g:∀x,A.okg x->B.okg x
 j:A.jk=B.jk
section
variable{A B:JunkSet}(U:Up A B){ρ:Ren}
include U
theorem FnR.up{x y:Fn}(h:@FnR A ρ x y):@FnR B ρ x y:=by
 cases h with
 | func f h=>exact @FnR.func B ρ f (U.f _ h)
 | yield h=>exact @FnR.yield B ρ _ _ h
theorem VR.up{x y:q4k}(h:@VR A ρ x y):@VR B ρ x y:=by
 induction h with
 | bool b=>exact @VR.bool B ρ b
 | int k n=>exact @VR.int B ρ k n
 | string s=>exact @VR.string B ρ s
 | ptrNil=>exact @VR.ptrNil B ρ
 | ptr off spot h=>exact @VR.ptr B ρ _ _ off spot h
 | sliceNil n c=>exact @VR.sliceNil B ρ n c
 | slice off spot n c h=>exact @VR.slice B ρ _ _ off spot n c h
 | mapNil=>exact @VR.mapNil B ρ
 | map h=>exact @VR.map B ρ _ _ h
 | func hf h1 _ h2 _ ih1 ih2=>exact @VR.func B ρ _ _ _ _ _ _ (FnR.up U hf) h1 ih1 h2 ih2
 | nilFunc=>exact @VR.nilFunc B ρ
 | iface t _ ih=>exact @VR.iface B ρ t _ _ ih
 | nilIface=>exact @VR.nilIface B ρ
 | agg h _ ih=>exact @VR.agg B ρ _ _ h ih
 | tuple h _ ih=>exact @VR.tuple B ρ _ _ h ih
 | wild y h=>exact @VR.wild B ρ y h
 | meth n a c=>exact @VR.meth B ρ n a c
theorem AsR.up{x y:Array q4k}(h:@AsR A ρ x y):@AsR B ρ x y:=⟨h.1,λi a b ha hb=>VR.up U (h.2 i a b ha hb)⟩
theorem yP.up{x y:qct}(h:@yP A ρ x y):@yP B ρ x y:=@yP.mk B ρ x y (VR.up U (@yP.key A ρ x y h)) (VR.up U (@yP.val A ρ x y h)) (@yP.born A ρ x y h)
theorem jW.up{x y:Target}(h:@jW A ρ x y):@jW B ρ x y:=by
 cases h with
 | fn h1 h2=>exact @jW.fn B ρ _ _ _ _ (FnR.up U h1) (AsR.up U h2)
 | meth n h=>exact @jW.meth B ρ n (U.m _ h)
 | nil=>exact @jW.nil B ρ
 | builtin b a t c h=>exact @jW.builtin B ρ b a t c (U.b _ _ h)
 | collected h=>exact @jW.collected B ρ _ _ h
theorem yF.up{x y:qba}(h:@yF A ρ x y):@yF B ρ x y:=by
 cases h with
 | mk h1 h2=>exact @yF.mk B ρ x y (jW.up U h1) (AsR.up U h2)
 | bound h1 h2 h3=>exact @yF.bound B ρ x y h1 h2 h3
theorem Qs.up{x y:Loop}(h:@Qs A ρ x y):@Qs B ρ x y:=by
 obtain⟨h1,h2,h3,h4,h5,h6,h7,h8,h9,a7,a6,Z⟩:=h;exact @Qs.mk B ρ x y h1 h2 h3 (AsR.up U h4) h5 h6 h7 h8 (U.g _ h9) (U.c _ a7) (U.c _ a6) λc hc=>U.c _ (Z c hc)
theorem ObR.up{x y:Obj}(h:@ObR A ρ x y):@ObR B ρ x y:=by
 cases h with
 | cells e h1 h2=>exact @ObR.cells B ρ _ _ e _ _ (AsR.up U h1) h2
 | map c h=>exact @ObR.map B ρ _ _ c (h.imp λ_ _ k=>yP.up U k)
 | stringIter s p=>exact @ObR.stringIter B ρ s p
 | mapIterNil a s b=>exact @ObR.mapIterNil B ρ a s b
 | mapIter a s b h=>exact @ObR.mapIter B ρ _ _ a s b h
 | loop h=>exact @ObR.loop B ρ _ _ (Qs.up U h)
 | number o s x h=>exact @ObR.number B ρ _ _ o s x h
 | deferredNone=>exact @ObR.deferredNone B ρ
 | deferred h=>exact @ObR.deferred B ρ _ _ (h.imp λ_ _ k=>yF.up U k)
theorem WR.up{Q:q7m}{base:Nat}{wq w:q2v}(h:@WR A Q base ρ wq w):@WR B Q base ρ wq w:=by
 obtain⟨h1,h2,h3,h4,h5,h6,h7,h8⟩:=h;refine @WR.mk B Q base ρ wq w h1 h2 h3 (λi j o hb ho=>?_) h5 h6 (λi hi=>h7 i (by rw[U.j];exact hi)) h8;rcases h4 i j o hb ho with⟨k1,k2⟩ | ⟨k1,o',k2,k3⟩
 ·exact .inl ⟨by rw[<- U.j];exact k1,k2⟩
 ·exact .inr ⟨by rw[<- U.j];exact k1,o',k2,ObR.up U k3⟩
theorem qz.up{Q:q7m}{c:qbs}(h:@qz A Q c):@qz B Q c:=q13 (A:=A) (B:=B) U.f U.m U.b h
theorem qJ.up{Q:q7m}{o:Op}(h:@qJ A Q o):@qJ B Q o:=op_to (A:=A) (B:=B) U.f U.m U.b h
theorem zh.up{Q:q7m}{x y:qcG}(h:@zh A Q ρ x y):@zh B Q ρ x y:=by
 cases h with
 | code h=>exact @zh.code B Q ρ _ (qz.up U h)
 | inBlock id=>exact @zh.inBlock B Q ρ id
 | inLoop h=>exact @zh.inLoop B Q ρ _ (qz.up U h)
 | inScope h=>exact @zh.inScope B Q ρ _ (qz.up U h)
 | inRegion l h=>exact @zh.inRegion B Q ρ _ l λo ho=>qJ.up U (h o ho)
 | inRangeFunc h=>exact @zh.inRangeFunc B Q ρ _ _ h
 | endRangeFunc h=>exact @zh.endRangeFunc B Q ρ _ _ h
 | beginRound=>exact @zh.beginRound B Q ρ
theorem Zl.up{x y:PanicEntry}(h:@Zl A ρ x y):@Zl B ρ x y:=by
 obtain⟨h1,h2,h3⟩:=h;exact @Zl.mk B ρ x y (VR.up U h1) h2 h3
theorem ku.up{x y:FrameMode}(h:@ku A ρ x y):@ku B ρ x y:=by
 cases h with
 | run=>exact @ku.run B ρ
 | returning=>exact @ku.returning B ρ
 | panicking h=>exact @ku.panicking B ρ _ _ (h.imp λ_ _ k=>Zl.up U k)
theorem qu.up{Q P:q7m}{x y:q7n}(h:@qu A Q P ρ x y)(hs:∃g,Q.funcs[x.fn]?=some g/\Q.funcs[x.fn]?=some g):@qu B Q Q ρ x y:=by
 obtain⟨h1,h2,h3,h4,h5,h6,h7,h8,h9⟩:=h;exact @qu.mk B Q Q ρ x y h1 hs h3 (AsR.up U h4) (h5.imp λ_ _ k=>zh.up U k) (h6.imp λ_ _ k=>yF.up U k) (ku.up U h7) h8 h9
theorem kw.up{Q P:q7m}{x y:q4y}(h:@kw A Q P ρ x y):@kw B Q Q ρ x y:=by
 obtain⟨h1,h2,h3,h4,h5,h6⟩:=h;exact @kw.mk B Q Q ρ x y (qu.up U h1 (let ⟨g,k,_⟩:=@qu.same A Q P ρ _ _ h1;⟨g,k,k⟩)) (h2.imp λa b k=>qu.up U k (let ⟨g,k,_⟩:=@qu.same A Q P ρ a b k;⟨g,k,k⟩)) h3 h4 h5 h6
end
end Go.Sim
end
section
namespace Go.Co
open Go.Conc Go.ConcN Go.Sim
section
variable[J:JunkSet](Q P:q7m)(f:qam)(Post:q4k->q2v->Prop)(W:q2v)
structure Rl(ρ:Ren)(g:q4y)(wq:q2v)(g':q4y)(w:q2v):Prop where
 wr:WR Q W.heap.size ρ wq w
 ln:W.heap.size<=ρ.length
 gl:Gl P ρ
 stack:∃pre,g.callers=pre++[qi f]
 rel:∃gv,kw Q P ρ g gv/\g'=swap [] gv
def EL(g:q4y)(wq:q2v):Prop :=
 ∀ρ g' w cl,Rl Q P f W ρ g wq g' w->ky cl ρ->(∀b,w.heap.size<=b->cl b=.mine 0)->yI W.heap.size W.heap.size W ρ w->(∀b,b<W.heap.size->cl b=.mine 0)->E P Post cl g' w
def LF(g:q4y)(u:q2v):Prop:=Live g/\(∃pre,g.callers=pre++[qi f])/\Q.funcs[g.frame.fn]?=P.funcs[g.frame.fn]?/\EL Q P f Post W g u
structure Two:Prop where
 H:Duo Q P
 HQ:∃B:BoxJ,Up J B.j/\@Duo B.j Q Q
 hrf:P.follows .rangeFuncRecover=true
 stub:∀fk,Q.funcs[fk]?≠P.funcs[fk]?->∀a k cs u,∃o w es,qag Q true { frame:=q9v Q fk a k,callers:=cs,status:=.running,dying:=none } u true=.ended o w es
end
section
variable[J:JunkSet]{Q P:q7m}{f:qam}{Post:q4k->q2v->Prop}{W:q2v}
theorem EL.tape{g:q4y}{wq:q2v}(h:EL Q P f Post W g wq)(T:Nat->qbe->Nat):EL Q P f Post W g (wq.tp T):=by
 rintro ρ g' w cl ⟨h1,Z,h2,h3,h4⟩ ho hc hk hm;exact h ρ g' w cl ⟨⟨h1.len,h1.nodup,h1.lt,h1.obj,h1.low,h1.env,h1.below,h1.gar⟩,Z,h2,h3,h4⟩ ho hc hk hm
theorem LF.tape{g:q4y}{u:q2v}(T:Nat->qbe->Nat)(h:LF Q P f Post W g u):LF Q P f Post W g (u.tp T):=⟨h.1,h.2.1,h.2.2.1,h.2.2.2.tape T⟩
theorem xr(fr:q7n):q92 fr []=none:=by
 unfold q92;simp
theorem EL.of_tree(D:Two Q P){g:q4y}{wq:q2v}(ht:∀ρ g' w,Rl Q P f W ρ g wq g' w->LT Q (LF Q P f Post W) g wq):EL Q P f Post W g wq:=by
 intro ρ g' w cl h ho hc hk hm;have hF:∀g u,LF Q P f Post W g u->g.callers≠[]:=λg u ⟨_,⟨pre,e⟩,_⟩=>by rw[e];simp
 refine E.sub (Cp:=λcl=>∀b,b<W.heap.size->cl b=.mine 0) (Q:=Q) (F:=LF Q P f Post W) (f:=f) (real:=[]) (W:=W) D.H D.hrf xr hF ?_ ?_ (ρ:=ρ) (g:=g) (wq:=wq) ⟨h.ln,h.wr,h.gl,ht _ _ _ h,h.stack,h.rel⟩ ho hc hk hm
 ·intro ρ g wq g' w cl hs hl ho hc hk hm
  exact hl.2.2.2 ρ g' w cl ⟨hs.wr,hs.len,hs.gl,hs.stack,hs.rel⟩ ho hc hk hm
 ·intro ρ fk k a a' c c' pre pre' wq w cl hks ho hc hk _ _
  exfalso;obtain⟨o,u,es,e⟩:=D.stub fk hks.diff a k (c::(pre++[qi f])) (wq.tp wq.tape);cases hks.tree with
  | done hh=>exact hks.diff hh.2.2.1
  | step _ h1 _ =>
   obtain⟨g1,u1,Z,e1,_⟩:=h1 wq.tape;rw[e] at e1;cases e1
theorem Rl.rel1{B:BoxJ}(U:Up J B.j){ρ:Ren}{g:q4y}{wq:q2v}{g':q4y}{w:q2v}(D:Two Q P)(h:Rl Q P f W ρ g wq g' w):@vY B.j Q W.heap.size g wq:=by
 obtain⟨gv,hg,_⟩:=h.rel;exact⟨ρ,gv,w,h.ln,WR.up U h.wr,λi hi=>h.gl i (by rw[D.H.gsize];exact hi),kw.up U hg⟩
theorem EL.of_runs(D:Two Q P){fr:q7n}{cs:List q7n}{wq:q2v}(ht:∀T,∃Z a6 u1,Steps Q (lone fr cs (wq.tp T)) (lone Z a6 u1)/\(∃pre,a6=pre++[qi f])/\Q.funcs[Z.fn]?=P.funcs[Z.fn]?/\EL Q P f Post W (G Z a6) u1) :
  EL Q P f Post W (G fr cs) wq:=by
 refine EL.of_tree D λρ g' w h=>?_;obtain⟨pre,a8⟩:=h.stack;obtain⟨B,U,HQ⟩:=D.HQ;have a7:=h.rel1 U D;refine @LT.of_all B.j Q W.heap.size _ HQ (λg u T=>LF.tape T) _ _ a7 λT=>?_;obtain⟨Z,a6,u1,⟨n,hn⟩,hst,hs,hE⟩:=ht T;exact @LP.of_runs B.j Q W.heap.size _ HQ f n (g:=G fr cs) (g1:=G Z a6) (u:=wq.tp T) (u1:=u1) (pre:=pre) (@vY.tape B.j Q W.heap.size _ _ a7 T) ⟨rfl,rfl⟩ a8 hn ⟨rfl,rfl⟩ hst ⟨⟨rfl,rfl⟩,hst,hs,hE⟩
def Bot(f:qam)(cs:List q7n):Prop:=∃pre,cs=pre++[qi f]
theorem Bot.cons{cs:List q7n}{c:q7n}(h:Bot f cs):Bot f (c::cs):=by
 obtain⟨pre,rfl⟩:=h;exact⟨c::pre,rfl⟩
def Land(Q P:q7m)[J:JunkSet](f:qam)(Post:q4k->q2v->Prop)(W:q2v)(b:q7n)(k:List qcG)(cs:List q7n):Exit->Act->q2v->Prop
 | .normal,a,w=>EL Q P f Post W (G (b.at a k) cs) w
 | .exit id,a,w=>∃k',exitTo id k=some k'/\EL Q P f Post W (G (b.at a k') cs) w
 | .ret,a,w=>∀todo,EL Q P f Post W (G { b.at a todo with mode:=.returning } cs) w
 | _,_,_=>False
section
variable{b:q7n}{a:Act}{k:List qcG}{cs:List q7n}{wq:q2v}
theorem EL.land(D:Two Q P)(hb:Bot f cs)(hs:Q.funcs[b.fn]?=P.funcs[b.fn]?){fr:q7n}(ht:∀T,∃e a' w',Land Q P f Post W b k cs e a' w'/\Arrives Q (lone fr cs (wq.tp T)) b k cs e a' w'):EL Q P f Post W (G fr cs) wq:=by
 refine EL.of_runs D λT=>?_;obtain⟨e,a',w',hl,Z⟩:=ht T;cases e with
 | normal=>exact⟨_,cs,w',Z,hb,hs,hl⟩
 | exit id =>
  obtain⟨k',hk,hE⟩:=hl;exact⟨_,cs,w',Z k' hk,hb,hs,hE⟩
 | goto l=>exact hl.elim
 | ret =>
  obtain⟨todo,Z⟩:=Z;exact⟨_,cs,w',Z,hb,hs,hl todo⟩
 | panic chain=>exact hl.elim
 | outgrown=>exact hl.elim
theorem EL.piece(D:Two Q P)(hb:Bot f cs)(hs:Q.funcs[b.fn]?=P.funcs[b.fn]?){c:qbs}(h:∀T,c.wp Q (Land Q P f Post W b k cs) a (wq.tp T)):EL Q P f Post W (G (b.at a (.code c::k)) cs) wq :=
 EL.land D hb hs λT=>h T b k cs
end
end
end Go.Co
end
section
namespace Go.Co
open Go.Conc Go.ConcN Go.Sim
def EE(P:q7m)(Post:q4k->q2v->Prop)(cl:Nat->Cl)(g:q4y)(w:q2v):Prop:=∀d,E P Post cl g (w.at d)
section
variable{P:q7m}{Post:q4k->q2v->Prop}{cl:Nat->Cl}
theorem EE.pure{g g':q4y}{w:q2v}(hs:g.status=.running)(h:∀w,qag P true g w=.go g' w #[])(hE:EE P Post cl g' w):EE P Post cl g w :=
 λd=>E.step hs λd'=>⟨g',(w.at d).at d',#[],h _,q4u _,by simp,hE d'⟩
theorem EE.raw{g g':q4y}{w:q2v}(w':q2v)(cl':Nat->Cl)(hs:g.status=.running)(h:∀d,∃es,qag P true g (w.at d)=.go g' (w'.at d) es/\∀e∈es,EvG cl' w'.heap.size 0 e/\jm e)
  (hsz:w.heap.size<=w'.heap.size) (hcl:∀b,b<w.heap.size->cl' b=cl b) (hc0:∀b,w'.heap.size<=b->cl' b=.mine 0) (hE:EE P Post cl' g' w'):EE P Post cl g w :=
 λd=>E.stepC hs λd'=>by
  obtain⟨es,h1,h2⟩:=h d';exact⟨g',w'.at d',es,cl',h1,hsz,hcl,hc0,h2,hE d'⟩
section
variable{b:q7n}{a:Act}{k:List qcG}{cs:List q7n}{w:q2v}
theorem EE.seq{x y:qbs}(h:EE P Post cl (G (b.at a (.code x::.code y::k)) cs) w):EE P Post cl (G (b.at a (.code (.seq x y)::k)) cs) w:=.pure rfl (λ_=>q7j) h
theorem EE.block{id:Nat}{c:qbs}(h:EE P Post cl (G (b.at a (.code c::.inBlock id::k)) cs) w):EE P Post cl (G (b.at a (.code (.block id c)::k)) cs) w:=.pure rfl (λ_=>stepG_block) h
theorem EE.loop{c:qbs}(h:EE P Post cl (G (b.at a (.code c::.inLoop c::k)) cs) w):EE P Post cl (G (b.at a (.code (.loop c)::k)) cs) w:=.pure rfl (λ_=>stepG_loop) h
theorem EE.region{id:Nat}{ops:Array qaG}(h:EE P Post cl (G (b.at a (.inRegion ops (q99 ops.size)::k)) cs) w):EE P Post cl (G (b.at a (.code (.region id ops false)::k)) cs) w:=.pure rfl (λ_=>stepG_region) h
theorem EE.region_end{ops:Array qaG}(h:EE P Post cl (G (b.at a k) cs) w):EE P Post cl (G (b.at a (.inRegion ops []::k)) cs) w:=.pure rfl (λ_=>q4E) h
theorem EE.retS(h:EE P Post cl (G { b.at a (.code .ret::k) with mode:=.returning } cs) w):EE P Post cl (G (b.at a (.code .ret::k)) cs) w:=.pure rfl (λ_=>qbG) h
theorem EE.value{ops:Array qaG}{i:Nat}{rest:List Nat}{o:qaG}(v:q4k)(ho:ops[i]?=some o)(hw:qac o (yielded ops a.tmps)=true)(hk:b.kind≠.early)
  (hr:∀w,(execOp a.eval o).run P w=.ok (.value v) w) (he:∀w,(execOp a.eval o).events P w #[]=#[]) (h:EE P Post cl (G (b.at (a.put o.dst v) (.inRegion ops rest::k)) cs) w):EE P Post cl (G (b.at a (.inRegion ops (i::rest)::k)) cs) w :=
 .pure rfl (λw=>by rw[stepG_value ho hw hk (hr w)];unfold listed;rw[he w,seen_none]) h
theorem EE.op[JunkSet]{ops:Array qaG}{i:Nat}{rest:List Nat}{o:qaG}(v:q4k)(w':q2v)(cl':Nat->Cl)(ho:ops[i]?=some o)(hw:qac o (yielded ops a.tmps)=true)(hk:b.kind≠.early)
  (hr:∀d,(execOp a.eval o).run P (w.at d)=.ok (.value v) (w'.at d)) (he:∀d,∀e∈(execOp a.eval o).events P (w.at d) #[],EvG cl' w'.heap.size 0 e/\jm e)
  (hsz:w.heap.size<=w'.heap.size) (hcl:∀b,b<w.heap.size->cl' b=cl b) (hc0:∀b,w'.heap.size<=b->cl' b=.mine 0)
  (h:EE P Post cl' (G (b.at (a.put o.dst v) (.inRegion ops rest::k)) cs) w'):EE P Post cl (G (b.at a (.inRegion ops (i::rest)::k)) cs) w :=
 .raw w' cl' rfl (λd=>⟨_,stepG_value ho hw hk (hr d),λe hm=>he d e (yY _ _ _ e hm)⟩) hsz hcl hc0 h
theorem YO{main:Bool}{ops:Array qaG}{i:Nat}{rest:List Nat}{o:qaG}{w w':q2v}(ho:ops[i]?=some o)(hw:qac o (yielded ops a.tmps)=true)
  (hk:b.kind≠.early) (hr:(execOp a.eval o).run P w=.ok .skip w') :
  qag P main (G (b.at a (.inRegion ops (i::rest)::k)) cs) w=.go (G (b.at (a.put o.dst q4D) (.inRegion ops rest::k)) cs) w' (listed P b.fn a o w):=by
 have Z:(b.at a (.inRegion ops (i::rest)::k)).finish q4D=b.at (a.put o.dst q4D) (.inRegion ops rest::k):=by rw[qbl,ho];rfl
 have hk':(b.kind == CallKind.early)=false:=by simpa using hk
 rw[stepG_oper ho hw,<- Z];simp[qaw,hr,G,Frame.at,hk',qan,listed]
theorem EE.store[JunkSet]{ops:Array qaG}{i:Nat}{rest:List Nat}{o:qaG}(w':q2v)(ho:ops[i]?=some o)(hw:qac o (yielded ops a.tmps)=true)(hk:b.kind≠.early)
  (hr:∀d,(execOp a.eval o).run P (w.at d)=.ok .skip (w'.at d)) (he:∀d,∀e∈(execOp a.eval o).events P (w.at d) #[],EvG cl w'.heap.size 0 e/\jm e)
  (hsz:w'.heap.size=w.heap.size) (hc0:∀b,w.heap.size<=b->cl b=.mine 0)
  (h:EE P Post cl (G (b.at (a.put o.dst q4D) (.inRegion ops rest::k)) cs) w'):EE P Post cl (G (b.at a (.inRegion ops (i::rest)::k)) cs) w :=
 .raw w' cl rfl (λd=>⟨_,YO ho hw hk (hr d),λe hm=>he d e (yY _ _ _ e hm)⟩) (Nat.le_of_eq hsz.symm) (λ_ _=>rfl) (λb hb=>hc0 b (by omega)) h
theorem EE.enter{ops:Array qaG}{i:Nat}{rest:List Nat}{o:qaG}{f:qam}{fn:Func}{args:Array qa4}{Z:Array q7x}(ho:ops[i]?=some o)(hw:qac o (yielded ops a.tmps)=true)(hk:b.kind≠.early)
  (hop:o.op=.call { callee:=.value (.func f),args,argTypes:=Z }) (hf:P.funcs[f]?=some fn) (hname:(fn.name == "runtime.NumGoroutine")=false) (hb:fn.body.isNone=false)
  (h:EE P Post cl (G (q9v P f (args.map a.eval) .normal) (b.at a (.inRegion ops (i::rest)::k)::cs)) w) :
  EE P Post cl (G (b.at a (.inRegion ops (i::rest)::k)) cs) w :=
 .pure rfl (λw=>by
  rw[stepG_enter ho hw hk (run_call_body hop hf hname hb)];have:listed P b.fn a o w=#[]:=by unfold listed;rw[events_call_body hop hf hname hb];exact seen_none P _
  rw[this]) h
theorem EE.leave1{b₀:q7n}{a₀:Act}{ops:Array qaG}{i:Nat}{rest:List Nat}{todo:List qcG}{fn:Func}{t:Tmp}(hn:b.kind=.normal)(hd:a.defers=[])(hf:P.funcs[b.fn]?=some fn)(hr:fn.results=#[.tmp t])
  (h:EE P Post cl (G (b₀.at (a₀.put ((ops[i]?).bind (·.dst)) (a.tmps.getD t q4D)) (.inRegion ops rest::k)) cs) w):EE P Post cl (G { b.at a todo with mode:=.returning } (b₀.at a₀ (.inRegion ops (i::rest)::k)::cs)) w :=
 .pure rfl (λw=>by rw[stepG_leave hn hd hf (results_tmp hr _ P w) (events_results_tmp hr _ _),qbl]) h
end
end
theorem q0p{c:q7n}{cs:List q7n}(hm:c.mode=.run)(hk:c.kind=.normal)(fr:q7n):q92 fr (c::cs)=none:=by
 have h1:q92 c cs=none:=by
  unfold q92;rw[hk]
 unfold q92;split
 ·rename_i h
  cases h;rw[hm]
 ·rename_i h
  cases h;rw[h1];rfl
 ·rfl
section
variable[J:JunkSet]{Q P:q7m}{Post:q4k->q2v->Prop}{cl:Nat->Cl}{β N:Nat}
theorem E.subc(D:Two Q P){F:q4y->q2v->Prop}{f:qam}{real:List q7n}{W:q2v}{ρ0:Ren}(hR:∀fr,q92 fr real=none)(hF:∀g u,F g u->g.callers=[qi f])
  (hstop:∀ρ g wq g' w,Sub Q P β F f real ρ g wq g' w->F g wq->Le ρ0 ρ->(∀i j,BR ρ i j->BR ρ0 i j\/W.heap.size<=j)->ky cl ρ->(∀b,w.heap.size<=b->cl b=.mine 0)->yI β N W ρ w->E P Post cl g' w)
  {ρ:Ren} {g g':q4y} {wq w:q2v} (h:Sub Q P β F f real ρ g wq g' w) (hle:Le ρ0 ρ) (a7:∀i j,BR ρ i j->BR ρ0 i j\/W.heap.size<=j) (ho:ky cl ρ) (hc:∀b,w.heap.size<=b->cl b=.mine 0) (hk:yI β N W ρ w):E P Post cl g' w:=by
 have Z:Acc (Below Q F) (g,wq):=h.tree.acc;generalize hx:(g,wq)=x at Z;induction Z generalizing ρ g wq g' w with
 | intro x _ ih =>
  subst hx;by_cases hn:F g wq
  ·exact hstop ρ g wq g' w h hn hle a7 ho hc hk
  ·refine E.step (kB h) λd=>?_
   obtain⟨σ,g1,wq1,g1',w1,es,h1,h2,h3,h4,_,h6⟩:=(q0g h d).stepK D.H D.hrf hR hn true (λg u hg=>by rw[hF g u hg];simp);have a8:Sub Q P β F f real σ g1 wq1 g1' w1:=by
    rcases h6 with h6 | ⟨fk,k,a,a',c,c',pre,pre',h6,rfl,rfl⟩
    ·exact h6
    ·exfalso
     obtain⟨o,u,es,e⟩:=D.stub fk h6.diff a k (c::(pre++[qi f])) (wq1.tp wq1.tape);cases h6.tree with
     | done hh =>
      have:=hF _ _ hh;simp at this
     | step _ h1 _ =>
      obtain⟨g1,u1,b6,e1,_⟩:=h1 wq1.tape;rw[e] at e1;cases e1
   have a6:ky cl σ:=ho.step (w:=w.at d) h3 hc;have b0:∀b,w1.heap.size<=b->cl b=.mine 0:=λb hb=>hc b (q6s h3.size hb);have a9:yI β N W σ w1:=yI.step (w:=w.at d) (hk.at d) h3;refine⟨g1',w1,es,h1,h3.size,λe he=>kH a6 a8.wr (h4 e he),?_⟩;refine ih (g1,wq1) h2 a8 (hle.trans h3.le) (λi j hij=>?_) a6 b0 a9 rfl;rcases qb5 i ρ.length with hlt | hge
   ·exact a7 i j (BR.back h3.le hij hlt)
   ·exact .inr (q6s hk.size (h3.fresh i j hij hge))
theorem EE.call(D:Two Q P){fk:qam}{aq ap:Array q4k}{R:q4k->q2v->Prop}{c:q7n}{cs:List q7n}{ρ:Ren}{wq w:q2v}(hok:JunkSet.okf fk)(hs:Q.funcs[fk]?=P.funcs[fk]?)(ha:AsR ρ aq ap)(a9:β<=ρ.length)(hw:WR Q β ρ wq w)(hG:Gl P ρ)
  (hc:∀T,qa0 Q fk aq (wq.tp T) λe u=>∃v,e=.returned v/\R v u) (hcm:c.mode=.run) (c9:c.kind=.normal) (ho:ky cl ρ) (hcl:∀b,w.heap.size<=b->cl b=.mine 0)
  (hend:∀σ wq1 v v' w1,R v wq1->VR σ v v'->WR Q β σ wq1 w1->Le ρ σ->(∀i j,BR σ i j->BR ρ i j\/w.heap.size<=j)->ky cl σ->(∀b,w1.heap.size<=b->cl b=.mine 0)->yI β 0 w σ w1->EE P Post cl (G (c.finish v') cs) w1) :
  EE P Post cl (G (q9v P fk ap .normal) (c::cs)) w:=by
 intro d;obtain⟨B,U,HQ⟩:=D.HQ;have Z:=wr_at hw d;have b7:@vY B.j Q β (jQ Q fk aq [qi fk]) wq:=⟨ρ,_,w.at d,a9,WR.up U Z,λi hi=>hG i (by rw[D.H.gsize];exact hi),kw.up U (Yt D.H hok hs ha)⟩
 have ht:=@LT.of_calls B.j Q β HQ fk aq wq (λe u=>∃v,e=.returned v/\R v u) hc (λu ⟨v,h,_⟩=>by cases h) b7;have a6:Sub Q P β (AtRet Q fk [qi fk] λe u=>∃v,e=.returned v/\R v u) fk (c::cs) ρ (jQ Q fk aq [qi fk]) wq (G (q9v P fk ap .normal) (c::cs)) (w.at d) :=
  Sub.enter D.H hok hs ha a9 Z hG ht
 refine E.subc D (W:=w) (N:=0) (q0p hcm c9) (λg u h=>h.2.1) ?_ a6 (Le.refl _) (λi j h=>.inl h) ho hcl ⟨λ_ _ _=>rfl,rfl,rfl,q4u _,λ_ _ _ _=>q9j _,q9j _⟩;intro σ g wq1 g' w1 a7 hF hle c8 b8 b6 b0;refine E.step (kB a7) λd'=>?_;obtain⟨hl,hcs,hfn,T,e,⟨v,rfl,hR⟩,b9⟩:=hF;obtain⟨τ,d6,v',w2,es,k1,k2,k3,k4,k5,k6⟩:=Sub.ret D.H (q0g a7 d') hcs b9 true;subst k4;have a8:ky cl τ:=b8.step (w:=w1.at d') k5 b6;have d5:∀b,w2.heap.size<=b->cl b=.mine 0:=λb hb=>b6 b (q6s k5.size hb);have c3:yI β 0 w τ w2:=yI.step (w:=w1.at d') (b0.at d') k5;refine⟨_,w2,es,k1,k5.size,λe he=>kH a8 k3 (k6 e he),?_⟩;have:=hend τ _ v v' w2 hR k2 k3 (hle.trans k5.le) (λi j hij=>?_) a8 d5 c3
 ·exact this w2.drawn
 ·rcases qb5 i σ.length with hlt | hge
  ·exact c8 i j (BR.back k5.le hij hlt)
  ·exact .inr (q6s b0.size (k5.fresh i j hij hge))
end
end Go.Co
end
section
namespace Go.Co
open Go.Conc Go.ConcN Go.Sim
section
variable{P:q7m}{Fz:Bs}{K:q2v->q2v->Prop}{Stop:Bs->q4y->q2v->Prop}{S:Bs}
theorem qk.pure{g g':q4y}{w:q2v}(hK:∀a b c,K a b->K b c->K a c)(hs:g.status=.running)(h:∀w,qag P false g w=.go g' w #[])(hE:qk P Fz K Stop S g' w):qk P Fz K Stop S g w :=
 qk.still hs (λw₁ _=>h w₁) λ_ h₁=>hE.rely hK h₁
section
variable(hK:∀a b c,K a b->K b c->K a c){b:q7n}{a:Act}{k:List qcG}{cs:List q7n}{w:q2v}
include hK
theorem qk.seq{x y:qbs}(h:qk P Fz K Stop S (G (b.at a (.code x::.code y::k)) cs) w):qk P Fz K Stop S (G (b.at a (.code (.seq x y)::k)) cs) w:=.pure hK rfl (λ_=>q7j) h
theorem qk.skip(h:qk P Fz K Stop S (G (b.at a k) cs) w):qk P Fz K Stop S (G (b.at a (.code .skip::k)) cs) w:=.pure hK rfl (λ_=>qay) h
theorem qk.cond{c:qa4}{x y:qbs}(t:Bool)(hc:a.eval c=.bool t)(h:qk P Fz K Stop S (G (b.at a (.code (if t then x else y)::k)) cs) w):qk P Fz K Stop S (G (b.at a (.code (.cond c x y)::k)) cs) w:=.pure hK rfl (λ_=>stepG_cond hc) h
theorem qk.block{id:Nat}{c:qbs}(h:qk P Fz K Stop S (G (b.at a (.code c::.inBlock id::k)) cs) w):qk P Fz K Stop S (G (b.at a (.code (.block id c)::k)) cs) w:=.pure hK rfl (λ_=>stepG_block) h
theorem qk.inBlock{id:Nat}(h:qk P Fz K Stop S (G (b.at a k) cs) w):qk P Fz K Stop S (G (b.at a (.inBlock id::k)) cs) w:=.pure hK rfl (λ_=>stepG_inBlock) h
theorem qk.loop{c:qbs}(h:qk P Fz K Stop S (G (b.at a (.code c::.inLoop c::k)) cs) w):qk P Fz K Stop S (G (b.at a (.code (.loop c)::k)) cs) w:=.pure hK rfl (λ_=>stepG_loop) h
theorem qk.inLoop{c:qbs}(h:qk P Fz K Stop S (G (b.at a (.code c::.inLoop c::k)) cs) w):qk P Fz K Stop S (G (b.at a (.inLoop c::k)) cs) w:=.pure hK rfl (λ_=>stepG_inLoop) h
theorem qk.region{id:Nat}{ops:Array qaG}(h:qk P Fz K Stop S (G (b.at a (.inRegion ops (q99 ops.size)::k)) cs) w):qk P Fz K Stop S (G (b.at a (.code (.region id ops false)::k)) cs) w:=.pure hK rfl (λ_=>stepG_region) h
theorem qk.region_end{ops:Array qaG}(h:qk P Fz K Stop S (G (b.at a k) cs) w):qk P Fz K Stop S (G (b.at a (.inRegion ops []::k)) cs) w:=.pure hK rfl (λ_=>q4E) h
theorem qk.retS(h:qk P Fz K Stop S (G { b.at a (.code .ret::k) with mode:=.returning } cs) w):qk P Fz K Stop S (G (b.at a (.code .ret::k)) cs) w:=.pure hK rfl (λ_=>qbG) h
theorem qk.endS(h:qk P Fz K Stop S (G { b.at a [] with mode:=.returning } cs) w):qk P Fz K Stop S (G (b.at a []) cs) w:=.pure hK rfl (λ_=>stepG_end) h
theorem qk.value{ops:Array qaG}{i:Nat}{rest:List Nat}{o:qaG}(v:q4k)(ho:ops[i]?=some o)(hw:qac o (yielded ops a.tmps)=true)(hk:b.kind≠.early)
  (hr:∀w,(execOp a.eval o).run P w=.ok (.value v) w) (he:∀w,(execOp a.eval o).events P w #[]=#[]) (h:qk P Fz K Stop S (G (b.at (a.put o.dst v) (.inRegion ops rest::k)) cs) w):qk P Fz K Stop S (G (b.at a (.inRegion ops (i::rest)::k)) cs) w :=
 .pure hK rfl (λw=>by rw[stepG_value ho hw hk (hr w)];unfold listed;rw[he w,seen_none]) h
theorem qk.unwanted{ops:Array qaG}{i:Nat}{rest:List Nat}{o:qaG}(ho:ops[i]?=some o)(hw:qac o (yielded ops a.tmps)=false)
  (h:qk P Fz K Stop S (G (b.at (a.put o.dst q4D) (.inRegion ops rest::k)) cs) w):qk P Fz K Stop S (G (b.at a (.inRegion ops (i::rest)::k)) cs) w :=
 .pure hK rfl (λ_=>stepG_unwanted ho hw) h
theorem qk.enter{ops:Array qaG}{i:Nat}{rest:List Nat}{o:qaG}{f:qam}{fn:Func}{c:qbs}{args:Array qa4}{Z:Array q7x}(ho:ops[i]?=some o)(hw:qac o (yielded ops a.tmps)=true)(hk:b.kind≠.early)
  (hop:o.op=.call { callee:=.value (.func f),args,argTypes:=Z }) (hf:P.funcs[f]?=some fn) (hname:(fn.name == "runtime.NumGoroutine")=false) (hb:fn.body=some c)
  (h:qk P Fz K Stop S (G ((base f).at { tmps:=args.map a.eval++qa7 (fn.ntmps - (args.map a.eval).size) q4D,defers:=[] } [.code c]) (b.at a (.inRegion ops (i::rest)::k)::cs)) w) :
  qk P Fz K Stop S (G (b.at a (.inRegion ops (i::rest)::k)) cs) w :=
 .pure hK rfl (λw=>by
  have hb':fn.body.isNone=false:=by rw[hb];rfl
  rw[stepG_enter ho hw hk (run_call_body hop hf hname hb'),enter_at _ hf hb];have:listed P b.fn a o w=#[]:=by unfold listed;rw[events_call_body hop hf hname hb'];exact seen_none P _
  rw[this]) h
theorem qk.leave1{b₀:q7n}{a₀:Act}{ops:Array qaG}{i:Nat}{rest:List Nat}{todo:List qcG}{fn:Func}{t:Tmp}(hn:b.kind=.normal)(hd:a.defers=[])(hf:P.funcs[b.fn]?=some fn)(hr:fn.results=#[.tmp t])
  (h:qk P Fz K Stop S (G (b₀.at (a₀.put ((ops[i]?).bind (·.dst)) (a.tmps.getD t q4D)) (.inRegion ops rest::k)) cs) w):qk P Fz K Stop S (G { b.at a todo with mode:=.returning } (b₀.at a₀ (.inRegion ops (i::rest)::k)::cs)) w :=
 .pure hK rfl (λw=>by rw[stepG_leave hn hd hf (results_tmp hr _ P w) (events_results_tmp hr _ _),qbl]) h
theorem qk.leave0{b₀:q7n}{a₀:Act}{ops:Array qaG}{i:Nat}{rest:List Nat}{todo:List qcG}{fn:Func}(hn:b.kind=.normal)(hd:a.defers=[])(hf:P.funcs[b.fn]?=some fn)(hr:fn.results=#[])
  (h:qk P Fz K Stop S (G (b₀.at (a₀.put ((ops[i]?).bind (·.dst)) (.tuple #[])) (.inRegion ops rest::k)) cs) w):qk P Fz K Stop S (G { b.at a todo with mode:=.returning } (b₀.at a₀ (.inRegion ops (i::rest)::k)::cs)) w :=
 .pure hK rfl (λw=>by rw[stepG_leave hn hd hf (results_none hr _ P w) (events_results_none hr _ _),qbl]) h
theorem qk.load[JunkSet]{ops:Array qaG}{i:Nat}{rest:List Nat}{o:qaG}(v:q4k)(ho:ops[i]?=some o)(hw:qac o (yielded ops a.tmps)=true)(hk:b.kind≠.early)
  (hr:∀w₁,RC Fz K S w w₁->(execOp a.eval o).run P w₁=.ok (.value v) w₁/\∀e∈(execOp a.eval o).events P w₁ #[],EvC Fz S w₁.heap.size e) (h:qk P Fz K Stop S (G (b.at (a.put o.dst v) (.inRegion ops rest::k)) cs) w) :
  qk P Fz K Stop S (G (b.at a (.inRegion ops (i::rest)::k)) cs) w :=
 qk.step rfl λw₁ h₁=>by
  obtain⟨h2,h3⟩:=hr w₁ h₁;refine⟨_,w₁,_,stepG_value ho hw hk h2,⟨λ_ _ _=>rfl,q4u _,rfl,rfl,λe he=>?_⟩,by rw[vp];exact h.rely hK h₁⟩;rw[vp];exact h3 e (yY _ _ _ e he)
end
theorem qk.offers{g:q4y}{w:q2v}(hSo:∀S g w off,Stop S g w->Stop S { g with offers:=off } w)(off:Option (Array qch × qbF))(h:qk P Fz K Stop S g w):qk P Fz K Stop S { g with offers:=off } w:=by
 obtain⟨r,h⟩:=h;cases r with
 | leaf=>exact⟨.leaf,λw₁ h₁=>hSo _ _ _ _ (h w₁ h₁)⟩
 | nd f=>exact⟨.nd f,h.1,h.2⟩
section
variable[J:JunkSet]{Q:q7m}{base:Nat}
structure WRel(Q P:q7m)(base:Nat)(Fz S Jc Jb:Bs)(ρ:Ren)(a:Act)(tm:Array q4k)(wq w:q2v):Prop where
 len:base<=ρ.length
 wr:WR Q base ρ wq w
 gl:Gl P ρ
 tm:AsR ρ a.tmps tm
 df:a.defers=[]
 own:Own base ρ JunkSet.jk Fz S
 jb:∀i j,BR ρ i j->JunkSet.jk i->Jc j
 js:∀j,Jb j->¬ S j
theorem qk.piece(H:Duo Q P){X:BoxJ}(U:Up J X.j)(HQ:@Duo X.j Q Q)(hrf:P.follows .rangeFuncRecover=true){real:List q7n}(hrr:∀fr,q92 fr real=none)
  (stub:∀fk,Q.funcs[fk]?≠P.funcs[fk]?->∀a k cs u,∃o w es,qag Q true { frame:=q9v Q fk a k,callers:=cs,status:=.running,dying:=none } u true=.ended o w es)
  (Jc Jb:Bs) (Liv:q2v->Prop) (hL1:∀S w w₁,RC Fz K S w w₁->Liv w->Liv w₁) (hL2:∀S w w' es,DC Fz S w w' es->(∀b,Jb b->w'.heap[b]?=w.heap[b]?)->Liv w->Liv w') (hL3:∀w b,Liv w->Jc b->∃c e f,w.heap[b]?=some (.cells c e f)) (hL4:∀w b,Liv w->Jb b->b<w.heap.size)
  (hSo:∀S g w off,Stop S g w->Stop S { g with offers:=off } w) {b:q7n} (hfn:∃g,Q.funcs[b.fn]?=some g/\P.funcs[b.fn]?=some g) (hin:Q.inits.idxOf? b.fn=none) (hbr:b.roundOf=none) {c:qbs} (hc:qz Q c) {ρ:Ren} {a:Act} {tm:Array q4k} {D:List qba} {k:List qcG} {wq w:q2v} {S:Bs} {R:Act->q2v->Prop}
  (h:WRel Q P base Fz S Jc Jb ρ a tm wq w) (hv:Liv w) (hwp:∀T,c.wp Q (jT R) a (wq.tp T)) (hRd:∀a u,R a u->a.defers=[])
  (hend:∀ρ' a' tm' wq' w' S',R a' wq'->Le ρ ρ'->WRel Q P base Fz S' Jc Jb ρ' a' tm' wq' w'->Liv w'->qk P Fz K Stop S' (G (b.at ⟨tm',D⟩ k) real) w') :
  qk P Fz K Stop S (G (b.at ⟨tm,D⟩ (.code c::k)) real) w:=by
 obtain⟨b9,hg1,hg2⟩:=hfn;have b6:∀(X:q7m),(∃g,Q.funcs[b.fn]?=some g/\X.funcs[b.fn]?=some g)->kw Q X ρ (G (b.at a [.code c]) [qi b.fn]) (G (b.at ⟨tm,[]⟩ [.code c]) [qi b.fn]):=λX hX =>
  ⟨⟨rfl,hX,hin,h.tm,.cons (.code hc) .nil,by simp only[G,Frame.at];rw[h.df];exact .nil,.run,rfl,.inl ⟨rfl,rfl⟩⟩,.cons (q1a hin hX) .nil,rfl,rfl,rfl,rfl⟩
 have d7:@vY X.j Q base (G (b.at a [.code c]) [qi b.fn]) wq:=⟨ρ,_,w,h.len,WR.up U h.wr,λi hi=>h.gl i (by rw[H.gsize];exact hi),kw.up U (b6 P ⟨b9,hg1,hg2⟩)⟩
 have ht:=@LT.of_wp X.j Q base b.fn HQ _ _ _ _ _ hwp d7;have c8:YI Q P base (AtEnd b.fn b R) b.fn k D real ρ (G (b.at a [.code c]) [qi b.fn]) wq (G (b.at ⟨tm,D⟩ (.code c::k)) real) w :=
  ⟨h.len,h.wr,h.gl,ht,⟨[],rfl⟩,_,b6 P ⟨b9,hg1,hg2⟩,by
   have:=Lay.top (k:=k) (D:=D) (real:=real) (f:=b.fn) (gv:=G (b.at ⟨tm,[]⟩ [.code c]) [qi b.fn]) rfl rfl rfl;simpa[tl,G,Frame.at] using this⟩
 refine qk.tsub H hrf hrr AtEnd.leafs stub Jc Jb Liv hL1 hL2 hL3 hL4 (ρ0:=ρ) ?_ c8 (Le.refl _) h.own h.jb hv h.js;rintro σ g wq' g' w' S' hs ⟨d8,hcs,a',T,b0,hR⟩ a6 ho d5 c3 a8;obtain⟨gv,hg,a7⟩:=hs.rel;have hd:=hRd _ _ hR;have b8:=hg.callers;rw[hcs] at b8;obtain⟨pre',Z,c9⟩:=kX (pre:=[]) b8;cases c9;have Z:gv.callers=[qi b.fn]:=Z;have hf:=hg.frame;rw[b0] at hf;cases a7 with
 | und pre c0 hc0 _ =>
  rw[Z] at hc0;exact(q5z hc0.symm).elim
 | top _ hm hro =>
  obtain⟨⟨fn,tmps,todo,defers,mode,kind,ro⟩,cs,st,dy,off⟩:=gv;obtain⟨h1,h2,h3,h4,h5,h6,h7,h8,h9⟩:=hf;have hst:=hg.st';have b7:=hg.dy';dsimp only[Frame.at] at h1 h4 h5 h6 h8 hm hro hst b7;rw[hd] at h6;cases h5;cases h6;subst h1 h8 hm hro hst b7;have d6:({ frame:=tl k D { fn:=b.fn,tmps:=tmps,todo:=[],defers:=[],mode:=.run,kind:=b.kind,roundOf:=none },callers:=real,status:=.running,dying:=none,offers:=off }:q4y)={ G (b.at ⟨tmps,D⟩ k) real with offers:=off }:=by
   simp[tl,G,Frame.at]
  have a9:({ ({ frame:={ fn:=b.fn,tmps:=tmps,todo:=[],defers:=[],mode:=.run,kind:=b.kind,roundOf:=none },callers:=cs,status:=.running,dying:=none,offers:=off }:q4y) with frame:=tl k D { fn:=b.fn,tmps:=tmps,todo:=[],defers:=[],mode:=.run,kind:=b.kind,roundOf:=none },callers:=real }:q4y)={ G (b.at ⟨tmps,D⟩ k) real with offers:=off }:=d6;rw[a9];exact qk.offers hSo off (hend σ a' tmps (wq'.tp T) w' S' hR a6 ⟨hs.len,⟨hs.wr.len,hs.wr.nodup,hs.wr.lt,hs.wr.obj,hs.wr.low,hs.wr.env,hs.wr.below,hs.wr.gar⟩,hs.gl,h4,hd,ho,d5,a8⟩ c3)
end
end
end Go.Co
end
section
namespace Go.Co
open Go.Conc Go.ConcN Go.Sim
section
variable{P:q7m}{Fz:Bs}{K:q2v->q2v->Prop}{Stop:Bs->q4y->q2v->Prop}{S:Bs}(hK:∀a b c,K a b->K b c->K a c){b:q7n}{k:List qcG}{cs:List q7n}
include hK
omit hK in
theorem lin_nil{md:qcz}{ops:Array qaG}{Z t:Nat}{listed:Array Bool}(hr:q7H md ops listed=[]):qa9 md ops Z t listed []=[]:=by
 cases Z with
 | zero=>simp[qa9]
 | succ Z =>
  simp only[qa9];change (match (q7H md ops listed)[t % (q7H md ops listed).length]? with
   | some i=>qa9 md ops Z (t / (q7H md ops listed).length) (listed.setIfInBounds i true) [i]
   | none=>[].reverse)=[]
  rw[hr];rfl
theorem qk.any{md:qcz}{ops:Array qaG}(I:Array Bool->Act->Prop){w:q2v}
  (hstep:∀listed a i,listed.size=ops.size->I listed a->i∈q7H md ops listed->∀rest,(q7H md ops (listed.setIfInBounds i true)=[]->rest=[])->(∀a',I (listed.setIfInBounds i true) a'->qk P Fz K Stop S (G (b.at a' (.inRegion ops rest::k)) cs) w)->qk P Fz K Stop S (G (b.at a (.inRegion ops (i::rest)::k)) cs) w)
  (hend:∀listed a,listed.size=ops.size->I listed a->q7H md ops listed=[]->qk P Fz K Stop S (G (b.at a k) cs) w) :
  ∀(Z t:Nat) (listed:Array Bool) (a:Act),listed.size=ops.size->unl listed ops.size<=Z->I listed a->qk P Fz K Stop S (G (b.at a (.inRegion ops (qa9 md ops Z t listed [])::k)) cs) w:=by
 intro Z;induction Z with
 | zero =>
  intro t listed a hs hu hI;have hr:q7H md ops listed=[]:=by
   cases hr:q7H md ops listed with
   | nil=>rfl
   | cons i l =>
    exfalso;obtain⟨h1,h2⟩:=zT (md:=md) (ops:=ops) (listed:=listed) (i:=i) (by rw[hr];simp);have:=xU h1 hs h2;omega
  simp only[qa9,List.reverse_nil];exact qk.region_end hK (hend listed a hs hI hr)
 | succ Z ih =>
  intro t listed a hs hu hI;simp only[qa9];change qk P Fz K Stop S (G (b.at a (.inRegion ops (match (q7H md ops listed)[t % (q7H md ops listed).length]? with
   | some i=>qa9 md ops Z (t / (q7H md ops listed).length) (listed.setIfInBounds i true) [i]
   | none=>[].reverse)::k)) cs) w
  cases hi:(q7H md ops listed)[t % (q7H md ops listed).length]? with
  | none =>
   have hr:q7H md ops listed=[]:=by
    cases hr:q7H md ops listed with
    | nil=>rfl
    | cons x xs =>
     rw[hr] at hi;have hlt:t % (x::xs).length<(x::xs).length:=Nat.mod_lt _ (by simp);simp at hi;simp at hlt;omega
   exact qk.region_end hK (hend listed a hs hI hr)
  | some i =>
   simp only[];rw[linearise_go_acc,List.reverse_singleton,List.singleton_append];have hi:=q8u hi;obtain⟨h1,h2⟩:=zT hi;have hlt:=xU h1 hs h2;refine hstep listed a i hs hI hi _ (λhr=>?_) λa' a6=>ih _ _ a' (by simpa using hs) (by omega) a6;exact lin_nil hr
theorem qk.region_inv{id:Nat}{ops:Array qaG}{a:Act}{w:q2v}(hm:P.follows .mixedOrders=true)(a6:∀w n,K w { w with drawn:=n })(I:Array Bool->Act->Prop)(h0:I (qa7 ops.size false) a)
  (hstep:∀listed a i,listed.size=ops.size->I listed a->i∈q7H .any ops listed->∀rest,(q7H .any ops (listed.setIfInBounds i true)=[]->rest=[])->(∀a',I (listed.setIfInBounds i true) a'->qk P Fz K Stop S (G (b.at a' (.inRegion ops rest::k)) cs) w)->qk P Fz K Stop S (G (b.at a (.inRegion ops (i::rest)::k)) cs) w)
  (hend:∀listed a,listed.size=ops.size->I listed a->q7H .any ops listed=[]->qk P Fz K Stop S (G (b.at a k) cs) w) :
  qk P Fz K Stop S (G (b.at a (.code (.region id ops true)::k)) cs) w:=by
 refine qk.step rfl λw₁ h₁=>?_;have Z:qag P false (G (b.at a (.code (.region id ops true)::k)) cs) w₁=.go (G (b.at a (.inRegion ops (qdB (P.follows .mixedOrders) ops (w₁.tape w₁.drawn (.order b.fn id)))::k)) cs) { w₁ with drawn:=w₁.drawn+1 } #[]:=by
  simp[G,qag,qcg,Frame.at,choose,qar,Question.forced,Question.cut]
 refine⟨_,_,_,Z,⟨λ_ _ _=>rfl,q4u _,rfl,rfl,by simp⟩,?_⟩;have hg:grow S w₁ { w₁ with drawn:=w₁.drawn+1 }=S:=vp S w₁;rw[hg];have:=qk.any hK I (w:=w) hstep hend ops.size (w₁.tape w₁.drawn (.order b.fn id)) _ a (by simp) (by
  unfold unl;exact q6s (qbA _ _) (by simp)) h0
 have h2:qk P Fz K Stop S (G (b.at a (.inRegion ops (qdB (P.follows .mixedOrders) ops (w₁.tape w₁.drawn (.order b.fn id)))::k)) cs) w:=by
  simp only[qdB,hm,Bool.true_or,if_true];exact this
 exact h2.rely hK ⟨λb hb=>h₁.own b hb,λb hb=>h₁.fz b hb,h₁.size,h₁.os,h₁.output,hK _ _ _ h₁.k (a6 _ _)⟩
omit hK in
theorem qk.of_goes2{R:q2v->q2v->Prop}(hR:∀w w₁,RC Fz K S w w₁->R w w₁)(hr:∀w,R w w){Z:q4y->q2v->Prop}(hS:∀g w,Z g w->Stop S g w):∀{n:Nat} {g:q4y} {w:q2v},Goes P false R Go.ConcR.DC0 Z n g w->qk P Fz K Stop S g w:=by
 intro n;induction n with
 | zero=>exact λh=>qk.stop λw₁ h₁=>hS _ _ (h w₁ (hR _ _ h₁))
 | succ n ih =>
  intro g w h;rcases h with h | ⟨h0,h⟩
  ·exact qk.stop λw₁ h₁=>hS _ _ (h w₁ (hR _ _ h₁))
  ·refine .step h0 λw₁ h₁=>?_
   obtain⟨g',w',es,e,⟨d1,d2⟩,hg⟩:=goes_elim (h w₁ (hR _ _ h₁));subst d1;subst d2;exact⟨g',w',#[],e,q35 S w',by rw[vp];exact ih hg⟩
end
end Go.Co
end
section
namespace Go.Co
open Go.Conc Go.ConcN
open Go.ConcR (KK wgBlock WgAt stA smA rd wr mk DC0)
def LR(ty:q7x)(Wg:Nat)(w w₁:q2v):Prop:=qc2 ty Wg w->qc2 ty Wg w₁
def DM(Wg:Nat)(w w':q2v)(es:Array qaz):Prop:=w'=w/\∀e∈es,e=mk (.read (smA Wg))\/e=mk (.write (smA Wg))
section
variable(P:q7m)(ty:q7x)(Wg:Nat)
def WG(Stop:q4y->q2v->Prop)(m:Nat)(g:q4y)(w:q2v):Prop:=Goes P false (LR ty Wg) DC0 Stop m g w
def WD4(g:q4y)(w:q2v):Prop :=
 g.status=.running/\mayWake P g=true/\(qdD ty Wg w 0 0->∃g',qag P false g w=.go g' (w.setCell (smA Wg) (.int .u32 1)) (qda (smA Wg))/\∃q,QuitsD P q 1 g')
def WD3(g:q4y)(w:q2v):Prop :=
 g.status=.running/\(qdD ty Wg w 1 0->∃g',qag P false g w=.go g' (w.setCell (stA Wg) (.int .u64 0)) #[wr (stA Wg)]/\∃m,WG P ty Wg (WD4 P ty Wg) m g' (w.setCell (stA Wg) (.int .u64 0)))
def WD2(g:q4y)(w:q2v):Prop :=
 g.status=.running/\(qdD ty Wg w 1 0->∃g',qag P false g w=.go g' w #[rd (stA Wg)]/\∃m,WG P ty Wg (WD3 P ty Wg) m g' w)
def WD1(g:q4y)(w:q2v):Prop :=
 g.status=.running/\∀v wt:Nat,wt<=1->v<2147483647->qdD ty Wg w ((v+1)*KK+wt) 0 ->
  ∃g',qag P false g w=.go g' (w.setCell (stA Wg) (.int .u64 (v*KK+wt))) #[rd (stA Wg),wr (stA Wg)] /\
   ((v=0/\wt=1)->∃m,WG P ty Wg (WD2 P ty Wg) m g' (w.setCell (stA Wg) (.int .u64 (v*KK+wt))))/\(¬ (v=0/\wt=1)->∃q,QuitsD P q 1 g')
def WK1(g:q4y)(w:q2v):Prop :=
 g.status=.running/\∃g',qag P false g w=.go g' w #[qbv .disable]/\∃m,WG P ty Wg (WD1 P ty Wg) m g' w
def WEnd(g:q4y)(w:q2v):Prop :=
 ∃g',qag P false g w=.go g' w #[qbv (.releaseMerge (stA Wg))]/\∃m,WG P ty Wg (WK1 P ty Wg) m g' w
end
structure Cfg(Γ Λ:Type) where
 P:q7m
 ty:q7x
 Wg:Nat
 lo:Nat
 n:Nat
 Fz:Bs
 Sy:Bs
 clA:Nat->Cl
 DataAt:Γ->q2v->Prop
 WA:Λ->Bs->q4y->q2v->Prop
 Tr:Γ->Λ->Γ->Λ->Prop
 J:Γ->Nat->(Nat->Λ)->Prop
 m:Γ->Nat
 nu:Λ->Nat
 l0:Λ
 fin:Λ->Prop
 W1:q2v
 Fin:q4y->q2v->Prop
 AnchW:q4y->q2v->Prop
 Post:q4k->q2v->Prop
section
variable{Γ Λ:Type}(C:Cfg Γ Λ)
def Cfg.K(w w₁:q2v):Prop:=(qc2 C.ty C.Wg w->qc2 C.ty C.Wg w₁)/\((∃γ,C.DataAt γ w)->∃γ,C.DataAt γ w₁)
structure Cfg.Ph(w:q2v):Prop where
 fz:∀b,C.Fz b->w.heap[b]?=C.W1.heap[b]?
 size:C.W1.heap.size<=w.heap.size
 os:w.os=C.W1.os
 output:w.output=C.W1.output
def flat(cl:Nat->Cl)(b:Nat):Cl:=match cl b with | .sync=>.sync | _=>.mine 0
def Cfg.GW(Stop:q4y->q2v->Prop)(m:Nat)(g:q4y)(w:q2v):Prop:=WG C.P C.ty C.Wg Stop m g w
def Cfg.AtD4:q4y->q2v->Prop:=WD4 C.P C.ty C.Wg
def Cfg.AtD3:q4y->q2v->Prop:=WD3 C.P C.ty C.Wg
def Cfg.AtD2:q4y->q2v->Prop:=WD2 C.P C.ty C.Wg
def Cfg.AtD1:q4y->q2v->Prop:=WD1 C.P C.ty C.Wg
def Cfg.AtK1:q4y->q2v->Prop:=WK1 C.P C.ty C.Wg
def Cfg.AtEnd:q4y->q2v->Prop:=WEnd C.P C.ty C.Wg
def Cfg.AtSync(l:Λ)(S:Bs)(g:q4y)(w:q2v):Prop :=
 ∀γ,C.DataAt γ w->(∃j ls,j<=C.n/\C.J γ j ls)->∃g' w' es γ' l',qag C.P false g w=.go g' w' es/\(∀b,¬ C.Sy b->w'.heap[b]?=w.heap[b]?)/\w'.heap.size=w.heap.size/\w'.os=w.os/\w'.output=w.output /\
  (∀e∈es,∃a wr,e=⟨.cell a,wr,true⟩/\C.Sy a.block)/\C.DataAt γ' w'/\C.Tr γ l γ' l'/\C.WA l' S g' w'
def Cfg.Stop(l:Λ)(S:Bs)(g:q4y)(w:q2v):Prop:=g.status=.running/\((C.fin l/\C.AtEnd g w)\/(¬ C.fin l/\C.AtSync l S g w))
def Cfg.GM(Stop:q4y->q2v->Prop)(m:Nat)(g:q4y)(w:q2v):Prop:=Goes C.P true (LR C.ty C.Wg) (DM C.Wg) Stop m g w
def Cfg.AtAcq(g:q4y)(w:q2v):Prop :=
 g.status=.running/\∃g',qag C.P true g w=.go g' w #[qbv (.acquire (stA C.Wg))]/\C.Fin g' w
def Cfg.AtKe(g:q4y)(w:q2v):Prop :=
 g.status=.running/\∃g',qag C.P true g w=.go g' w #[qbv .enable]/\∃m,C.GM C.AtAcq m g' w
def Cfg.AtW4(g:q4y)(w:q2v):Prop :=
 g.status=.running/\(qdD C.ty C.Wg w 0 0->∃g',qag C.P true g w=.go g' w #[rd (stA C.Wg)]/\∃m,C.GM C.AtKe m g' w)
def Cfg.AtW3(g:q4y)(w:q2v):Prop :=
 g.status=.running/\g.offers=none /\
  ((∃st,qdD C.ty C.Wg w st 0)->qag C.P true g w=.go { g with status:=.blocked } w #[]) /\
  (qdD C.ty C.Wg w 0 1->∃g',qag C.P true g w=.go g' (w.setCell (smA C.Wg) (.int .u32 0)) (qda (smA C.Wg))/\∃m,C.GM C.AtW4 m g' (w.setCell (smA C.Wg) (.int .u32 0)))
def Cfg.AtW2(vs:Nat)(g:q4y)(w:q2v):Prop :=
 g.status=.running/\∀v:Nat,v<2147483648->qdD C.ty C.Wg w (v*KK) 0 ->
  (v=vs->∃g',qag C.P true g w=.go g' (w.setCell (stA C.Wg) (.int .u64 (v*KK+1))) #[rd (stA C.Wg),wr (stA C.Wg)]/\∃m,C.GM C.AtW3 m g' (w.setCell (stA C.Wg) (.int .u64 (v*KK+1)))) /\
  (v≠vs->∃g',qag C.P true g w=.go g' w #[rd (stA C.Wg)]/\∃m,C.GM C.AnchW m g' w)
def Cfg.AtW1(g:q4y)(w:q2v):Prop :=
 g.status=.running/\∀v:Nat,v<2147483648->qdD C.ty C.Wg w (v*KK) 0->∃g',qag C.P true g w=.go g' w #[rd (stA C.Wg)] /\
  (v=0->∃m,C.GM C.AtKe m g' w)/\(v≠0->∃m,C.GM (C.AtW2 v) m g' w)
def Cfg.AtKd(g:q4y)(w:q2v):Prop :=
 g.status=.running/\∃g',qag C.P true g w=.go g' w #[qbv .disable]/\∃m,C.GM C.AnchW m g' w
def Cfg.FinS(g:q4y)(w:q2v):Prop:=∃m,C.GM C.AtKd m g w
def Cfg.AtGoS(qdb:q4y->q2v->Prop)(g:q4y)(w:q2v):Prop :=
 g.status=.running/\∃g' child,qag C.P true g w=.spawn g' child w #[]/\(C.Ph w->(∃γ,C.DataAt γ w)->C.WA C.l0 (λ_=>False) child w)/\qdb g' w
def Cfg.AtKeS(qdb:q4y->q2v->Prop)(g:q4y)(w:q2v):Prop :=
 g.status=.running/\∃g',qag C.P true g w=.go g' w #[qbv .enable]/\∃m,C.GM (C.AtGoS qdb) m g' w
def Cfg.AtA1(qdb:q4y->q2v->Prop)(g:q4y)(w:q2v):Prop :=
 g.status=.running/\∀v:Nat,v<2147483647->qdD C.ty C.Wg w (v*KK) 0 ->
  ∃g',qag C.P true g w=.go g' (w.setCell (stA C.Wg) (.int .u64 ((v+1)*KK))) #[rd (stA C.Wg),wr (stA C.Wg)]/\∃m,C.GM (C.AtKeS qdb) m g' (w.setCell (stA C.Wg) (.int .u64 ((v+1)*KK)))
def Cfg.AtKdS(qdb:q4y->q2v->Prop)(g:q4y)(w:q2v):Prop :=
 g.status=.running/\∃g',qag C.P true g w=.go g' w #[qbv .disable]/\∃m,C.GM (C.AtA1 qdb) m g' w
def Cfg.Spawns:Nat->q4y->q2v->Prop
 | 0,g,w=>C.FinS g w
 | r+1,g,w=>∃m,C.GM (C.AtKdS (Cfg.Spawns r)) m g w
structure Cfg.Ok:Prop where
 hn:C.n<2147483648
 hlo:1<=C.lo
 dat:∀γ w w',(∀b,C.Sy b->w'.heap[b]?=w.heap[b]?)->C.DataAt γ w->C.DataAt γ w'
 fzc:∀b,C.Fz b->C.clA b=.ro C.lo/\b<C.W1.heap.size
 syc:∀b,C.Sy b->C.clA b=.sync/\b<C.W1.heap.size
 cla0:∀b,C.W1.heap.size<=b->C.clA b=.mine 0
 wgc:C.clA C.Wg=.sync/\C.Wg<C.W1.heap.size/\¬ C.Sy C.Wg
 hW:∀l S g w,C.WA l S g w->qk C.P C.Fz C.K (C.Stop l) S g w
 hJ0:∀γ j ls,C.J γ j ls->C.J γ (j+1) (upd ls j C.l0)
 hJ:∀γ j ls i γ' l',C.J γ j ls->i<j->C.Tr γ (ls i) γ' l'->C.J γ' j (upd ls i l')
 hm:∀γ l γ' l',C.Tr γ l γ' l'->C.m γ'+C.nu l'<C.m γ+C.nu l
 hAr:∀g w,C.AnchW g w->g.status=.running
 hAn:∀g w,C.AnchW g w->∃m,C.GM C.AtW1 m g w
 hFin:∀γ ls g w,C.Fin g w->C.J γ C.n ls->(∀i,i<C.n->C.fin (ls i))->C.DataAt γ w->C.Ph w->E C.P C.Post (flat C.clA) g w
inductive Cfg.WS:Nat->Nat->Nat->Λ->Bs->Rk->q4y->q2v->Prop
 | run {l:Λ} {S:Bs} {r:Rk} {g:q4y} {w:q2v}:Cot C.P C.Fz C.K (C.Stop l) r S g w->Cfg.WS 7 0 0 l S r g w
 | k1 {m:Nat} {l:Λ} {S:Bs} {r:Rk} {g:q4y} {w:q2v}:C.fin l->C.GW C.AtK1 m g w->Cfg.WS 6 m 0 l S r g w
 | d1 {m:Nat} {l:Λ} {S:Bs} {r:Rk} {g:q4y} {w:q2v}:C.fin l->C.GW C.AtD1 m g w->Cfg.WS 5 m 1 l S r g w
 | d2 {m:Nat} {l:Λ} {S:Bs} {r:Rk} {g:q4y} {w:q2v}:C.fin l->C.GW C.AtD2 m g w->Cfg.WS 4 m 1 l S r g w
 | d3 {m:Nat} {l:Λ} {S:Bs} {r:Rk} {g:q4y} {w:q2v}:C.fin l->C.GW C.AtD3 m g w->Cfg.WS 3 m 1 l S r g w
 | d4 {m:Nat} {l:Λ} {S:Bs} {r:Rk} {g:q4y} {w:q2v}:C.fin l->C.GW C.AtD4 m g w->Cfg.WS 2 m 1 l S r g w
 | quit {q d:Nat} {l:Λ} {S:Bs} {r:Rk} {g:q4y} {w:q2v}:C.fin l->QuitsD C.P q d g->Cfg.WS 1 q d l S r g w
inductive Cfg.CS:CTag->Nat->Nat->Nat->q4y->q2v->Prop
 | skd {r m:Nat} {g:q4y} {w:q2v}:r<C.n->C.GM (C.AtKdS (C.Spawns r)) m g w->Cfg.CS (.sp r 5) (C.n - (r+1)) m 0 g w
 | sa1 {r m:Nat} {g:q4y} {w:q2v}:r<C.n->C.GM (C.AtA1 (C.Spawns r)) m g w->Cfg.CS (.sp r 4) (C.n - (r+1)) m 1 g w
 | ske {r m:Nat} {g:q4y} {w:q2v}:r<C.n->C.GM (C.AtKeS (C.Spawns r)) m g w->Cfg.CS (.sp r 3) (C.n - (r+1)) m 1 g w
 | sgo {r m:Nat} {g:q4y} {w:q2v}:r<C.n->C.GM (C.AtGoS (C.Spawns r)) m g w->Cfg.CS (.sp r 2) (C.n - (r+1)) m 0 g w
 | kd {m:Nat} {g:q4y} {w:q2v}:C.GM C.AtKd m g w->Cfg.CS .kd C.n m 0 g w
 | anch {m:Nat} {g:q4y} {w:q2v}:C.GM C.AnchW m g w->Cfg.CS .anch C.n m 1 g w
 | w1 {m:Nat} {g:q4y} {w:q2v}:C.GM C.AtW1 m g w->Cfg.CS .w1 C.n m 1 g w
 | w2 {vs m:Nat} {g:q4y} {w:q2v}:C.GM (C.AtW2 vs) m g w->Cfg.CS (.w2 vs) C.n m 1 g w
 | w3 {m:Nat} {g:q4y} {w:q2v}:C.GM C.AtW3 m g w->Cfg.CS .w3 C.n (m+1) 1 g w
 | blk {g:q4y} {w:q2v}:(∀w₁,LR C.ty C.Wg w w₁->C.AtW3 g w₁)->Cfg.CS .blk C.n 0 1 { g with status:=.blocked } w
 | w4 {m:Nat} {g:q4y} {w:q2v}:C.GM C.AtW4 m g w->Cfg.CS .w4 C.n m 1 g w
 | ke {m:Nat} {g:q4y} {w:q2v}:C.GM C.AtKe m g w->Cfg.CS .ke C.n m 1 g w
 | acq {m:Nat} {g:q4y} {w:q2v}:C.GM C.AtAcq m g w->Cfg.CS .acq C.n m 0 g w
end
section
variable{ty:q7x}{Wg:Nat}{w w₁ w₂:q2v}
theorem LR.refl(w:q2v):LR ty Wg w w:=id
theorem LR.trans(h:LR ty Wg w w₁)(h':LR ty Wg w₁ w₂):LR ty Wg w w₂:=h' ∘ h
theorem qX:∀a b c,LR ty Wg a b->LR ty Wg b c->LR ty Wg a c:=λ_ _ _ h h'=>h' ∘ h
theorem LR.to(h:qc2 ty Wg w₁):LR ty Wg w w₁:=λ_=>h
end
section
variable{Γ Λ:Type}{C:Cfg Γ Λ}{S:Bs}{w w₁:q2v}{s m d j f0:Nat}{l:Λ}{r:Rk}{g a:q4y}{tag:CTag}
theorem Cfg.K.trans:∀a b c,C.K a b->C.K b c->C.K a c:=λ_ _ _ h h'=>⟨h'.1 ∘ h.1,h'.2 ∘ h.2⟩
theorem Cfg.K.refl(w:q2v):C.K w w:=⟨id,id⟩
theorem RC.refl(w:q2v):RC C.Fz C.K S w w:=⟨λ_ _=>rfl,λ_ _=>rfl,q4u _,rfl,rfl,.refl w⟩
theorem Cfg.WS.rely(h:C.WS s m d l S r g w)(hr:RC C.Fz C.K S w w₁):C.WS s m d l S r g w₁:=by
 cases h with
 | run h=>exact .run (h.rely Cfg.K.trans hr)
 | k1 hf h=>exact .k1 hf (qcB qX h hr.k.1)
 | d1 hf h=>exact .d1 hf (qcB qX h hr.k.1)
 | d2 hf h=>exact .d2 hf (qcB qX h hr.k.1)
 | d3 hf h=>exact .d3 hf (qcB qX h hr.k.1)
 | d4 hf h=>exact .d4 hf (qcB qX h hr.k.1)
 | quit hf h=>exact .quit hf h
theorem q36{P:q7m}{Fz:Bs}{K:q2v->q2v->Prop}{Stop:Bs->q4y->q2v->Prop}(hs:∀S g w,Stop S g w->g.status=.running)(hK:∀w,K w w)(h:Cot P Fz K Stop r S g w):g.status=.running:=by
 cases r with
 | leaf=>exact hs _ _ _ (h w ⟨λ_ _=>rfl,λ_ _=>rfl,q4u _,rfl,rfl,hK w⟩)
 | nd f=>exact h.1
theorem Cfg.WS.running_of(h:C.WS s m d l S r g w)(hs:s≠1):g.status=.running:=by
 cases h with
 | run h=>exact q36 (λ_ _ _ h=>h.1) .refl h
 | k1 hf h=>exact qbB (λ_ _ x=>x.1) w (LR.refl w) h
 | d1 hf h=>exact qbB (λ_ _ x=>x.1) w (LR.refl w) h
 | d2 hf h=>exact qbB (λ_ _ x=>x.1) w (LR.refl w) h
 | d3 hf h=>exact qbB (λ_ _ x=>x.1) w (LR.refl w) h
 | d4 hf h=>exact qbB (λ_ _ x=>x.1) w (LR.refl w) h
 | quit hf h=>exact absurd rfl hs
theorem Cfg.WS.status(h:C.WS s m d l S r g w):g.status=.running\/g.status=.finished:=by
 by_cases e:s=1
 ·subst e
  cases h with
  | quit _ h=>exact h.status
 ·exact .inl (h.running_of e)
theorem Cfg.WS.woken(h:C.WS s m d l S r g w)(a a':q4y)(w':q2v):woken C.P a a' w' g=g:=by
 unfold Go.Conc.woken;split
 ·exact again_running _ h.status
 ·rfl
theorem Cfg.WS.fin_of(h:C.WS s m d l S r g w)(hs:s<=6):C.fin l:=by
 cases h<;>first | assumption | omega
theorem Cfg.CS.rely(h:C.CS tag j f0 d a w)(hr:LR C.ty C.Wg w w₁):C.CS tag j f0 d a w₁:=by
 cases h with
 | skd hr' h=>exact .skd hr' (qcB qX h hr)
 | sa1 hr' h=>exact .sa1 hr' (qcB qX h hr)
 | ske hr' h=>exact .ske hr' (qcB qX h hr)
 | sgo hr' h=>exact .sgo hr' (qcB qX h hr)
 | kd h=>exact .kd (qcB qX h hr)
 | anch h=>exact .anch (qcB qX h hr)
 | w1 h=>exact .w1 (qcB qX h hr)
 | w2 h=>exact .w2 (qcB qX h hr)
 | w3 h=>exact .w3 (qcB qX h hr)
 | blk h=>exact .blk λw₂ h₂=>h w₂ (LR.trans hr h₂)
 | w4 h=>exact .w4 (qcB qX h hr)
 | ke h=>exact .ke (qcB qX h hr)
 | acq h=>exact .acq (qcB qX h hr)
theorem Cfg.CS.status(H:C.Ok)(h:C.CS tag j f0 d a w):(a.status=.running/\tag≠.blk)\/(a.status=.blocked/\tag=.blk):=by
 cases h with
 | skd _ h=>exact .inl ⟨qbB (λ_ _ x=>x.1) w (LR.refl w) h,by simp⟩
 | sa1 _ h=>exact .inl ⟨qbB (λ_ _ x=>x.1) w (LR.refl w) h,by simp⟩
 | ske _ h=>exact .inl ⟨qbB (λ_ _ x=>x.1) w (LR.refl w) h,by simp⟩
 | sgo _ h=>exact .inl ⟨qbB (λ_ _ x=>x.1) w (LR.refl w) h,by simp⟩
 | kd h=>exact .inl ⟨qbB (λ_ _ x=>x.1) w (LR.refl w) h,by simp⟩
 | anch h=>exact .inl ⟨qbB H.hAr w (LR.refl w) h,by simp⟩
 | w1 h=>exact .inl ⟨qbB (λ_ _ x=>x.1) w (LR.refl w) h,by simp⟩
 | w2 h=>exact .inl ⟨qbB (λ_ _ x=>x.1) w (LR.refl w) h,by simp⟩
 | w3 h=>exact .inl ⟨qbB (λ_ _ x=>x.1) w (LR.refl w) h,by simp⟩
 | blk h=>exact .inr ⟨rfl,rfl⟩
 | w4 h=>exact .inl ⟨qbB (λ_ _ x=>x.1) w (LR.refl w) h,by simp⟩
 | ke h=>exact .inl ⟨qbB (λ_ _ x=>x.1) w (LR.refl w) h,by simp⟩
 | acq h=>exact .inl ⟨qbB (λ_ _ x=>x.1) w (LR.refl w) h,by simp⟩
theorem Cfg.CS.le(h:C.CS tag j f0 d a w):j+pend tag<=C.n:=by
 cases h<;>simp only[pend]<;>(try simp)<;>omega
open Go.ConcR (again_blocked) in
theorem Cfg.CS.wokenBy(H:C.Ok)(h:C.CS tag j f0 d a w)(hr:LR C.ty C.Wg w w₁)(g g':q4y) :
  ∃tag' f',C.CS tag' j f' d (woken C.P g g' w₁ a) w₁/\f'<=f0+1/\(tag'=tag\/(tag=.blk/\tag'=.w3))/\(mayWake C.P g=true->g'.status=.running->tag'≠.blk):=by
 have h':=h.rely hr;unfold Go.Conc.woken;split
 ·rcases h'.status H with⟨hs,hne⟩ | ⟨_,rfl⟩
  ·exact⟨tag,f0,by rw[again_running _ (.inl hs)];exact h',by omega,.inl rfl,λ_ _=>hne⟩
  ·cases h' with
   | blk hb =>
    have h3:=hb w₁ (LR.refl w₁);exact⟨.w3,0+1,by rw[again_blocked h3.1 h3.2.1];exact .w3 (qbi hb),by omega,.inr ⟨rfl,rfl⟩,λ_ _=>by simp⟩
 ·rename_i hc
  exact⟨tag,f0,h',by omega,.inl rfl,λh1 h2=>absurd (by simp[h1,h2]) hc⟩
end
end Go.Co
end
section
namespace Go.Co
open Go.Conc Go.ConcN Go.ConcN.Gen Go.RowKit Go.Conc.Lib Go.ConcR.Gen
open Go.ConcR (KK wgBlock WgAt stA smA rd wr mk DC0)
theorem qv{P:q7m}{n d:Nat}{b:q7n}{cs:List q7n}{k:List qcG}{a:Act}{ops:Array qaG}{i:Nat}{rest:List Nat}{o:qaG}{v:q4k}(hq:QuitsD P n d (G (b.at (a.put o.dst v) (.inRegion ops rest::k)) cs))
  (ho:ops[i]?=some o:=by rfl) (hw:qac o (yielded ops a.tmps)=true:=by rfl) (hk:b.kind≠.early:=by k_ne)
  (hr:∀w,(execOp a.eval o).run P w=.ok (.value v) w:=by intro _;go_simp;first | rfl | (w_num;rfl)) (he:∀w,(execOp a.eval o).events P w #[]=#[]:=by intro _;simp[go_sem, *]) :
  QuitsD P (n+1) d (G (b.at a (.inRegion ops (i::rest)::k)) cs):=QuitsD.value v ho hw hk hr he hq
theorem qb{ty:q7x}{Wg:Nat}{w w₁:q2v}(h:qc2 ty Wg w)(r:LR ty Wg w w₁):qc2 ty Wg w₁:=r h
section
variable{L:WgLink}{Wg:Nat}{b₀:q7n}{a₀:Act}{ops₀:Array qaG}{i₀:Nat}{rest₀:List Nat}{k₀:List qcG}{cs:List q7n}{qt:Nat}
def AtRl(P:q7m)(ty:q7x)(Wg:Nat)(g:q4y)(w:q2v):Prop:=g.status=.running/\WEnd P ty Wg g w
theorem addNeg{P:q7m}(H:WgLib P L)
  (hT:QuitsD P qt 0 (G (b₀.at (a₀.put ((ops₀[i₀]?).bind (·.dst)) (.tuple #[])) (.inRegion ops₀ rest₀::k₀)) cs)) (w:q2v) (hF:qc2 L.tWg Wg w) :
  Goes P false (LR L.tWg Wg) DC0 (AtRl P L.tWg Wg) 20
   (G ((base L.add).at ⟨#[.pointer (some ⟨Wg,0,none⟩),.int .i64 (-1),q4D,q4D,q4D,q4D,q4D,q4D,q4D,q4D,q4D,q4D,q4D,q4D,q4D,q4D,q4D,q4D,q4D,q4D,q4D,q4D,q4D,q4D,q4D,q4D,q4D,q4D,q4D,q4D,q4D,q4D,q4D,q4D,q4D,q4D,q4D,q4D,q4D,q4D,q4D,q4D,q4D,q4D,q4D,q4D,q4D,q4D,q4D,q4D,q4D,q4D,q4D,q4D,q4D,q4D,q4D,q4D,q4D,q4D,q4D,q4D,q4D,q4D,q4D,q4D,q4D,q4D,q4D,q4D,q4D,q4D,q4D,q4D,q4D,q4D,q4D,q4D,q4D,q4D,q4D,q4D,q4D,q4D,q4D,q4D,q4D,q4D,q4D,q4D,q4D,q4D,q4D,q4D,q4D,q4D,q4D,q4D,q4D,q4D,q4D,q4D,q4D,q4D,q4D,q4D,q4D,q4D,q4D,q4D,q4D,q4D,q4D,q4D,q4D,q4D,q4D],[]⟩ [.code (body_add L)]) (b₀.at a₀ (.inRegion ops₀ (i₀::rest₀)::k₀)::cs)) w:=by
 lib_facts;simp only[body_add,addFn,q72];u_c q7j qb hF;u_cond true qb hF;u_c q7j qb hF;u_c q7j qb hF;u_reg qb hF;u_conv H.underlying_tWgP H.room_tWg (qdj hF).choose_spec qb hF;u_conv H.underlying_tWgP H.room_tWg (qdj hF).choose_spec qb hF;u_c q4E qb hF;u_cond true qb hF;u_reg qb hF;u_conv H.underlying_tWgP H.room_tWg (qdj hF).choose_spec qb hF;u_conv H.underlying_tWgP H.room_tWg (qdj hF).choose_spec qb hF;refine qbi (λw₁ h₁=>?_);replace hF:=qb hF h₁;clear h₁;refine⟨rfl,_,stepG_markAt .releaseMerge (by simp) rfl rfl (by k_ne) rfl H.f_relMerge (x_relMerge_n L) (x_relMerge_b L) (x_relMerge_x L) (x_relMerge_f L) (by simp[Act.eval,stA]),10,?_⟩;unfold WG;walk_nrm;u_c q4E qb hF;u_c q7j qb hF;u_reg qb hF;refine qbi (λw₁ h₁=>?_);replace hF:=qb hF h₁;clear h₁;refine⟨rfl,_,stepG_mark0 .disable (by simp) rfl rfl (by k_ne) rfl H.f_disable (x_disable_n L) (x_disable_b L) (x_disable_x L) (x_disable_f L),50,?_⟩;unfold WG;walk_nrm;u_c q4E qb hF;u_reg qb hF;u_defer qb hF;u_c q4E qb hF;u_c q7j qb hF;u_reg qb hF;u_op qb hF;u_c q4E qb hF;u_c q7j qb hF;u_c q7j qb hF;u_reg qb hF;u_bub qb hF;u_c q4E qb hF;u_cond false qb hF;u_c qay qb hF;u_c q7j qb hF;u_reg qb hF;u_op qb hF;u_op qb hF;u_op qb hF;u_op qb hF;u_op qb hF;u_op qb hF;u_call H.f_uAdd (nm_uAdd L) uAddFn qb hF;u_c q7j qb hF;u_reg qb hF;u_op qb hF;u_c q4E qb hF;u_c q7j qb hF;u_reg qb hF;u_op qb hF;u_op qb hF;u_op qb hF;u_op qb hF;refine qbi (λw₁ h₁=>?_);clear h₁ hF;refine⟨rfl,λv wt a6 hv hw=>?_⟩;have e0:IntKind.u64.wrap (KK+18446744069414584320)=0:=by decide
 have e1:IntKind.u64.wrap (KK+1+18446744069414584320)=1:=by decide
 rcases Nat.eq_zero_or_pos v with rfl | hvp<;>(obtain rfl | rfl:wt=0\/wt=1:=by omega)
 ·replace hw:qdD L.tWg Wg w₁ KK 0:=by simpa using hw
  have z:((0:Nat):Int)*KK+((0:Nat):Int)=0:=by simp
  rw[z];refine⟨_,(stepG_add_atomic rfl rfl (by k_ne) rfl H.f_addU64 (x_addU64_n L) (x_addU64_b L) (x_addU64_x L) .u64 (x_addU64_f L) rfl rfl hw.cellSt (hw.thaw 0)).trans (by rw[e0];rfl),λhl=>absurd hl.2 (by decide),λ_=>⟨qt+89,?_⟩⟩;clear hw;have f1:IntKind.u32.wrap 0=0:=by decide
  have f2:IntKind.u32.wrap (bits .and .u64 0 2147483647)=0:=by decide
  walk_nrm
  (refine qv ?_;walk_nrm)
  q_c q4E;q_c qbG;q_leave1 H.f_uAdd
  (refine qv ?_;walk_nrm)
  q_c q4E;q_c q7j;q_c q7j;q_reg
  iterate 4 (refine qv ?_;walk_nrm)
  q_skip;q_skip
  (refine qv ?_;walk_nrm)
  q_c q4E;q_cond false;q_c qay;q_c q7j;q_reg
  iterate 4 (refine qv ?_;walk_nrm)
  q_c q4E;q_c q7j;q_reg
  iterate 4 (refine qv ?_;walk_nrm)
  q_c q4E;q_c q7j;q_c q7j;q_reg
  iterate 5 (refine qv ?_;walk_nrm)
  q_skip;q_skip;q_skip;q_skip
  (refine qv ?_;walk_nrm)
  q_c q4E;q_cond false;q_c qay;q_c q7j;q_c q7j;q_reg
  iterate 2 (refine qv ?_;walk_nrm)
  q_c q4E;q_cond false;q_c qay;q_c q7j;q_c q7j;q_reg
  iterate 3 (refine qv ?_;walk_nrm)
  q_skip;q_skip
  iterate 2 (refine qv ?_;walk_nrm)
  q_skip;q_skip;q_skip;q_skip
  (refine qv ?_;walk_nrm)
  q_c q4E;q_cond false;q_c qay;q_c q7j;q_c q7j;q_reg
  iterate 6 (refine qv ?_;walk_nrm)
  q_c q4E;q_cond true;q_c qbG;q_enable;q_leave0 H.f_add;exact hT
 ·replace hw:qdD L.tWg Wg w₁ (KK+1) 0:=by simpa using hw
  have z:((0:Nat):Int)*KK+((1:Nat):Int)=1:=by simp
  rw[z];refine⟨_,(stepG_add_atomic rfl rfl (by k_ne) rfl H.f_addU64 (x_addU64_n L) (x_addU64_b L) (x_addU64_x L) .u64 (x_addU64_f L) rfl rfl hw.cellSt (hw.thaw 0)).trans (by rw[e1];rfl),λ_=>⟨120,?_⟩,λhl=>absurd ⟨rfl,rfl⟩ hl⟩;have hF:qc2 L.tWg Wg (w₁.setCell (stA Wg) (.int .u64 1)):=⟨_,_,hw.setSt 1⟩
  clear hw;unfold WG;walk_nrm;u_op qb hF;u_c q4E qb hF;u_c qbG qb hF;u_leave1 H.f_uAdd qb hF;u_op qb hF;u_c q4E qb hF;u_c q7j qb hF;u_c q7j qb hF;u_reg qb hF;u_op qb hF;u_op qb hF;u_op qb hF;u_op qb hF;u_skip qb hF;u_skip qb hF;u_op qb hF;u_c q4E qb hF;u_cond false qb hF;u_c qay qb hF;u_c q7j qb hF;u_reg qb hF;u_op qb hF;u_op qb hF;u_op qb hF;u_op qb hF;u_c q4E qb hF;u_c q7j qb hF;u_reg qb hF;u_op qb hF;u_op qb hF;u_op qb hF;u_op qb hF;u_c q4E qb hF;u_c q7j qb hF;u_c q7j qb hF;u_reg qb hF;u_op qb hF;u_op qb hF;u_op qb hF;u_op qb hF;u_op qb hF;u_skip qb hF;u_skip qb hF;u_skip qb hF;u_skip qb hF;u_op qb hF;u_c q4E qb hF;u_cond false qb hF;u_c qay qb hF;u_c q7j qb hF;u_c q7j qb hF;u_reg qb hF;u_op qb hF;u_op qb hF;u_c q4E qb hF;u_cond false qb hF;u_c qay qb hF;u_c q7j qb hF;u_c q7j qb hF;u_reg qb hF;u_op qb hF;u_op qb hF;u_op qb hF;u_op qb hF;u_op qb hF;u_op qb hF;u_op qb hF;u_skip qb hF;u_skip qb hF;u_skip qb hF;u_skip qb hF;u_op qb hF;u_c q4E qb hF;u_cond false qb hF;u_c qay qb hF;u_c q7j qb hF;u_c q7j qb hF;u_reg qb hF;u_op qb hF;u_op qb hF;u_op qb hF;u_op qb hF;u_op qb hF;u_op qb hF;u_c q4E qb hF;u_cond false qb hF;u_c qay qb hF;u_c q7j qb hF;u_c q7j qb hF;u_reg qb hF;u_op qb hF;u_op qb hF;u_op qb hF;u_call H.f_uLoad (nm_uLoad L) uLoadFn qb hF;u_c q7j qb hF;u_reg qb hF;u_op qb hF;u_c q4E qb hF;u_c q7j qb hF;u_reg qb hF;u_op qb hF;u_op qb hF;u_op qb hF;refine qbi (λw₂ h₂=>?_);clear h₂ hF;refine⟨rfl,λhw=>⟨_,stepG_load_atomic rfl rfl (by k_ne) rfl H.f_loadU64 (x_loadU64_n L) (x_loadU64_b L) (x_loadU64_x L) .u64 (x_loadU64_f L) rfl hw.cellSt,40,?_⟩⟩;have hF:qc2 L.tWg Wg w₂:=⟨_,_,hw⟩
  clear hw;unfold WG;walk_nrm;u_op qb hF;u_c q4E qb hF;u_c qbG qb hF;u_leave1 H.f_uLoad qb hF;u_op qb hF;u_op qb hF;u_c q4E qb hF;u_cond false qb hF;u_c qay qb hF;u_c q7j qb hF;u_reg qb hF;u_op qb hF;u_op qb hF;u_op qb hF;u_call H.f_uStore (nm_uStore L) uStoreFn qb hF;u_reg qb hF;u_op qb hF;u_op qb hF;u_op qb hF;u_op qb hF;refine qbi (λw₃ h₃=>?_);clear h₃ hF;refine⟨rfl,λhw=>⟨_,stepG_store_atomic rfl rfl (by k_ne) rfl H.f_storeU64 (x_storeU64_n L) (x_storeU64_b L) (x_storeU64_x L) (x_storeU64_f L) rfl rfl hw.cellSt (hw.thaw 0),50,?_⟩⟩;have hF:qc2 L.tWg Wg (w₃.setCell (stA Wg) (.int .u64 0)):=⟨_,_,hw.setSt 0⟩
  clear hw;unfold WG;walk_nrm;u_c q4E qb hF;u_c stepG_end qb hF;u_leave0 H.f_uStore qb hF;u_c q4E qb hF;u_c q7j qb hF;u_c q7j qb hF;u_reg qb hF;u_op qb hF;u_c q4E qb hF;u_cond false qb hF;u_c qay qb hF;u_c stepG_block qb hF;u_c stepG_loop qb hF;u_c q7j qb hF;u_c q7j qb hF;u_reg qb hF;u_op qb hF;u_op qb hF;u_c q4E qb hF;u_cond true qb hF;u_c qay qb hF;u_c q7j qb hF;u_c stepG_block qb hF;u_reg qb hF;u_op qb hF;u_op qb hF;u_op qb hF;refine qbi (λw₄ h₄=>?_);clear h₄ hF;refine⟨rfl,mayWake_entry rfl rfl H.f_semrelease (x_semrelease_b L),λhw=>⟨_,(stepG_semrelease rfl rfl (by k_ne) rfl H.f_semrelease (x_semrelease_n L) (x_semrelease_b L) (x_semrelease_x L) (x_semrelease_f L) (by simp[Act.eval,smA]) hw.cellSm (hw.thaw 1)).trans (by rfl),qt+19,?_⟩⟩;clear hw;walk_nrm;q_c q4E;q_c stepG_inBlock;q_reg
  iterate 3 (refine qv ?_;walk_nrm)
  have f1:IntKind.u32.wrap 0=0:=by decide
  simp only[f1];q_c q4E;q_c stepG_inLoop;q_c q7j;q_c q7j;q_reg
  iterate 2 (refine qv ?_;walk_nrm)
  q_c q4E;q_cond false;q_exit;q_c stepG_end;q_enable;q_leave0 H.f_add;exact hT
 ·replace hw:qdD L.tWg Wg w₁ (((v:Nat)+1)*KK+0) 0:=by simpa using hw
  have z:((v:Nat):Int)*KK+((0:Nat):Int)=(v:Int)*KK+0:=by simp
  rw[z];have Z:0<v:=by omega
  have eS:IntKind.u64.wrap (((v:Nat)+1)*KK+0+18446744069414584320)=(v:Int)*KK+0:=by rw[IntKind.wrap_u64];simp only[KK];omega
  obtain⟨S,hS⟩:∃S:Int,S=(v:Int)*KK+0:=⟨_,rfl⟩
  rw[<- hS] at eS ⊢;have a1:S / 4294967296=(v:Int):=by rw[hS];simp only[KK];omega
  have b1:bits .and .u64 S 2147483648=0:=by rw[hS];have:=st_flag v 0 (by omega) (by omega);simpa[KK] using this
  have b2:bits .and .u64 S 2147483647=0:=by rw[hS];have:=st_waiters v 0 (by omega) (by omega);simpa[KK] using this
  have c1:IntKind.i32.wrap (v:Int)=(v:Int):=by rw[IntKind.wrap_i32];omega
  have q3:decide ((v:Int)<0)=false:=decide_eq_false (by omega);have q4:decide (0<(v:Int))=true:=decide_eq_true (by omega);have q5:((v:Int) == 0)=false:=by simp;omega
  have q6:decide ((v:Int)=0)=false:=decide_eq_false (by omega);have f1:IntKind.u32.wrap 0=0:=by decide
  refine⟨_,(stepG_add_atomic rfl rfl (by k_ne) rfl H.f_addU64 (x_addU64_n L) (x_addU64_b L) (x_addU64_x L) .u64 (x_addU64_f L) rfl rfl hw.cellSt (hw.thaw 0)).trans (by rw[eS];rfl),λhl=>absurd hl.1 (by omega),λ_=>⟨qt+89,?_⟩⟩;clear hw hS z eS;walk_nrm
  (refine qv ?_;walk_nrm)
  q_c q4E;q_c qbG;q_leave1 H.f_uAdd
  (refine qv ?_;walk_nrm)
  q_c q4E;q_c q7j;q_c q7j;q_reg
  iterate 4 (refine qv ?_;walk_nrm)
  q_skip;q_skip
  (refine qv ?_;walk_nrm)
  q_c q4E;q_cond false;q_c qay;q_c q7j;q_reg
  iterate 4 (refine qv ?_;walk_nrm)
  q_c q4E;q_c q7j;q_reg
  iterate 4 (refine qv ?_;walk_nrm)
  q_c q4E;q_c q7j;q_c q7j;q_reg
  iterate 5 (refine qv ?_;walk_nrm)
  q_skip;q_skip;q_skip;q_skip
  (refine qv ?_;walk_nrm)
  q_c q4E;q_cond false;q_c qay;q_c q7j;q_c q7j;q_reg
  iterate 2 (refine qv ?_;walk_nrm)
  q_c q4E;q_cond false;q_c qay;q_c q7j;q_c q7j;q_reg
  iterate 3 (refine qv ?_;walk_nrm)
  q_skip;q_skip
  iterate 2 (refine qv ?_;walk_nrm)
  q_skip;q_skip;q_skip;q_skip
  (refine qv ?_;walk_nrm)
  q_c q4E;q_cond false;q_c qay;q_c q7j;q_c q7j;q_reg
  iterate 3 (refine qv ?_;walk_nrm)
  q_skip;q_skip
  (refine qv ?_;walk_nrm)
  q_c q4E;q_cond true;q_c qbG;q_enable;q_leave0 H.f_add;exact hT
 ·replace hw:qdD L.tWg Wg w₁ (((v:Nat)+1)*KK+1) 0:=by simpa using hw
  have z:((v:Nat):Int)*KK+((1:Nat):Int)=(v:Int)*KK+1:=by simp
  rw[z];have Z:0<v:=by omega
  have eS:IntKind.u64.wrap (((v:Nat)+1)*KK+1+18446744069414584320)=(v:Int)*KK+1:=by rw[IntKind.wrap_u64];simp only[KK];omega
  obtain⟨S,hS⟩:∃S:Int,S=(v:Int)*KK+1:=⟨_,rfl⟩
  rw[<- hS] at eS ⊢;have a1:S / 4294967296=(v:Int):=by rw[hS];simp only[KK];omega
  have b1:bits .and .u64 S 2147483648=0:=by rw[hS];have:=st_flag v 1 (by omega) (by omega);simpa[KK] using this
  have b2:bits .and .u64 S 2147483647=1:=by rw[hS];have:=st_waiters v 1 (by omega) (by omega);simpa[KK] using this
  have c1:IntKind.i32.wrap (v:Int)=(v:Int):=by rw[IntKind.wrap_i32];omega
  have q3:decide ((v:Int)<0)=false:=decide_eq_false (by omega);have q4:decide (0<(v:Int))=true:=decide_eq_true (by omega);have q5:((v:Int) == 0)=false:=by simp;omega
  have q6:decide ((v:Int)=0)=false:=decide_eq_false (by omega);refine⟨_,(stepG_add_atomic rfl rfl (by k_ne) rfl H.f_addU64 (x_addU64_n L) (x_addU64_b L) (x_addU64_x L) .u64 (x_addU64_f L) rfl rfl hw.cellSt (hw.thaw 0)).trans (by rw[eS];rfl),λhl=>absurd hl.1 (by omega),λ_=>⟨qt+89,?_⟩⟩;clear hw hS z eS;walk_nrm
  (refine qv ?_;walk_nrm)
  q_c q4E;q_c qbG;q_leave1 H.f_uAdd
  (refine qv ?_;walk_nrm)
  q_c q4E;q_c q7j;q_c q7j;q_reg
  iterate 4 (refine qv ?_;walk_nrm)
  q_skip;q_skip
  (refine qv ?_;walk_nrm)
  q_c q4E;q_cond false;q_c qay;q_c q7j;q_reg
  iterate 4 (refine qv ?_;walk_nrm)
  q_c q4E;q_c q7j;q_reg
  iterate 4 (refine qv ?_;walk_nrm)
  q_c q4E;q_c q7j;q_c q7j;q_reg
  iterate 5 (refine qv ?_;walk_nrm)
  q_skip;q_skip;q_skip;q_skip
  (refine qv ?_;walk_nrm)
  q_c q4E;q_cond false;q_c qay;q_c q7j;q_c q7j;q_reg
  iterate 2 (refine qv ?_;walk_nrm)
  q_c q4E;q_cond false;q_c qay;q_c q7j;q_c q7j;q_reg
  iterate 7 (refine qv ?_;walk_nrm)
  q_skip;q_skip;q_skip;q_skip
  (refine qv ?_;walk_nrm)
  q_c q4E;q_cond false;q_c qay;q_c q7j;q_c q7j;q_reg
  iterate 3 (refine qv ?_;walk_nrm)
  q_skip;q_skip
  (refine qv ?_;walk_nrm)
  q_c q4E;q_cond true;q_c qbG;q_enable;q_leave0 H.f_add;exact hT
theorem done{P:q7m}(H:WgLib P L){c:q7n}(hcm:c.mode=.returning)(hT:QuitsD P qt 0 (G c cs))(w:q2v)(hF:qc2 L.tWg Wg w) :
  Goes P false (LR L.tWg Wg) DC0 (AtRl P L.tWg Wg) 23 (G ((baseD L.done).at ⟨#[.pointer (some ⟨Wg,0,none⟩),q4D,q4D,q4D],[]⟩ [.code (body_done L)]) (c::cs)) w:=by
 lib_facts;have hA:=@addNeg L Wg;simp only[body_done,body_add,doneFn,addFn,q72] at hA ⊢;u_reg qb hF;u_op qb hF;u_in qb hF;refine goes_call rfl rfl (by k_ne) rfl H.f_add (nm_add L) rfl ⟨by u_nil,?_⟩
 walk_nrmf addFn
 refine hA (qt:=qt+3) H ?_ _ hF;q_c q4E;q_c stepG_end;exact QuitsD.leaveD rfl rfl H.f_done rfl hcm hT
end
end Go.Co
end
section
namespace Go.Co
open Go.Conc Go.ConcN Go.ConcN.Gen Go.RowKit Go.Conc.Lib Go.ConcR.Gen
open Go.ConcR (KK wgBlock WgAt stA smA rd wr mk DC0)
theorem qa{ty:q7x}{Wg:Nat}{w w₁:q2v}(h:qc2 ty Wg w)(r:LR ty Wg w w₁):qc2 ty Wg w₁:=r h
section
variable(P:q7m)(b:Bool)(ty:q7x)(Wg:Nat)
def AtMk(m:Mark)(qdb:q4y->q2v->Prop)(N:Nat)(g:q4y)(w:q2v):Prop :=
 g.status=.running/\∃g',qag P b g w=.go g' w #[mk m]/\Goes P b (LR ty Wg) DC0 qdb N g' w
def AtAdd(qdb:q4y->q2v->Prop)(g:q4y)(w:q2v):Prop :=
 g.status=.running/\∀v:Nat,v<2147483647->qdD ty Wg w (v*KK) 0 ->
  ∃g',qag P b g w=.go g' (w.setCell (stA Wg) (.int .u64 ((v+1)*KK))) #[rd (stA Wg),wr (stA Wg)] /\
   (Goes P b (LR ty Wg) DC0 (AtMk P b ty Wg (.read (smA Wg)) (AtMk P b ty Wg .enable qdb 2) 60) 110 g' (w.setCell (stA Wg) (.int .u64 ((v+1)*KK))) \/
    Goes P b (LR ty Wg) DC0 (AtMk P b ty Wg .enable qdb 2) 110 g' (w.setCell (stA Wg) (.int .u64 ((v+1)*KK))))
end
section
variable{L:WgLink}{Wg:Nat}{qdb:q4y->q2v->Prop}{b₀:q7n}{a₀:Act}{ops₀:Array qaG}{i₀:Nat}{rest₀:List Nat}{k₀:List qcG}{cs:List q7n}
theorem addPos{P:q7m}(H:WgLib P L)
  (hT:∀w,qc2 L.tWg Wg w->qdb (G (b₀.at (a₀.put ((ops₀[i₀]?).bind (·.dst)) (.tuple #[])) (.inRegion ops₀ rest₀::k₀)) cs) w)
  (w:q2v) (hF:qc2 L.tWg Wg w) :
  Goes P true (LR L.tWg Wg) DC0 (AtMk P true L.tWg Wg .disable (AtAdd P true L.tWg Wg qdb) 40) 12
   (G ((base L.add).at ⟨#[.pointer (some ⟨Wg,0,none⟩),.int .i64 1,q4D,q4D,q4D,q4D,q4D,q4D,q4D,q4D,q4D,q4D,q4D,q4D,q4D,q4D,q4D,q4D,q4D,q4D,q4D,q4D,q4D,q4D,q4D,q4D,q4D,q4D,q4D,q4D,q4D,q4D,q4D,q4D,q4D,q4D,q4D,q4D,q4D,q4D,q4D,q4D,q4D,q4D,q4D,q4D,q4D,q4D,q4D,q4D,q4D,q4D,q4D,q4D,q4D,q4D,q4D,q4D,q4D,q4D,q4D,q4D,q4D,q4D,q4D,q4D,q4D,q4D,q4D,q4D,q4D,q4D,q4D,q4D,q4D,q4D,q4D,q4D,q4D,q4D,q4D,q4D,q4D,q4D,q4D,q4D,q4D,q4D,q4D,q4D,q4D,q4D,q4D,q4D,q4D,q4D,q4D,q4D,q4D,q4D,q4D,q4D,q4D,q4D,q4D,q4D,q4D,q4D,q4D,q4D,q4D,q4D,q4D,q4D,q4D,q4D,q4D],[]⟩ [.code (body_add L)]) (b₀.at a₀ (.inRegion ops₀ (i₀::rest₀)::k₀)::cs)) w:=by
 lib_facts;simp only[body_add,addFn,q72];u_c q7j qa hF;u_cond true qa hF;u_c q7j qa hF;u_c q7j qa hF;u_reg qa hF;u_op qa hF;u_op qa hF;u_c q4E qa hF;u_cond false qa hF;u_c qay qa hF;u_c q7j qa hF;u_reg qa hF;refine qbi (λw₁ h₁=>?_);replace hF:=qa hF h₁;clear h₁;refine⟨rfl,_,stepG_mark0 .disable (by simp) rfl rfl (by k_ne) rfl H.f_disable (x_disable_n L) (x_disable_b L) (x_disable_x L) (x_disable_f L),?_⟩;walk_nrm;u_c q4E qa hF;u_reg qa hF;u_defer qa hF;u_c q4E qa hF;u_c q7j qa hF;u_reg qa hF;u_op qa hF;u_c q4E qa hF;u_c q7j qa hF;u_c q7j qa hF;u_reg qa hF;u_bub qa hF;u_c q4E qa hF;u_cond false qa hF;u_c qay qa hF;u_c q7j qa hF;u_reg qa hF;u_op qa hF;u_op qa hF;u_op qa hF;u_op qa hF;u_op qa hF;u_op qa hF;u_call H.f_uAdd (nm_uAdd L) uAddFn qa hF;u_c q7j qa hF;u_reg qa hF;u_op qa hF;u_c q4E qa hF;u_c q7j qa hF;u_reg qa hF;u_op qa hF;u_op qa hF;u_op qa hF;u_op qa hF;refine qbi (λw₂ h₂=>?_);clear h₂ hF;refine⟨rfl,λv hv hw=>?_⟩;rcases Nat.eq_zero_or_pos v with rfl | hvp
 ·replace hw:qdD L.tWg Wg w₂ 0 0:=by simpa using hw
  have z:(((0:Nat):Int)+1)*KK=KK:=by simp
  rw[z];have e0:IntKind.u64.wrap (0+4294967296)=KK:=by decide
  refine⟨_,(stepG_add_atomic rfl rfl (by k_ne) rfl H.f_addU64 (x_addU64_n L) (x_addU64_b L) (x_addU64_x L) .u64 (x_addU64_f L) rfl rfl hw.cellSt (hw.thaw 0)).trans (by rw[e0];rfl),.inl ?_⟩;have hF:qc2 L.tWg Wg (w₂.setCell (stA Wg) (.int .u64 KK)):=⟨_,_,hw.setSt _⟩
  clear hw;simp only[KK] at hF ⊢;walk_nrm;u_conv H.underlying_tPU32 H.room_tU32 (qak hF).choose_spec qa hF;u_c q4E qa hF;u_c qbG qa hF;u_leave1 H.f_uAdd qa hF;u_conv H.underlying_tPU32 H.room_tU32 (qak hF).choose_spec qa hF;u_c q4E qa hF;u_c q7j qa hF;u_c q7j qa hF;u_reg qa hF;u_conv H.underlying_tPU32 H.room_tU32 (qak hF).choose_spec qa hF;u_conv H.underlying_tPU32 H.room_tU32 (qak hF).choose_spec qa hF;u_conv H.underlying_tPU32 H.room_tU32 (qak hF).choose_spec qa hF;u_conv H.underlying_tPU32 H.room_tU32 (qak hF).choose_spec qa hF;u_skip qa hF;u_skip qa hF;u_conv H.underlying_tPU32 H.room_tU32 (qak hF).choose_spec qa hF;u_c q4E qa hF;u_cond false qa hF;u_c qay qa hF;u_c q7j qa hF;u_reg qa hF;u_conv H.underlying_tPU32 H.room_tU32 (qak hF).choose_spec qa hF;u_conv H.underlying_tPU32 H.room_tU32 (qak hF).choose_spec qa hF;u_op qa hF;u_conv H.underlying_tPU32 H.room_tU32 (qak hF).choose_spec qa hF;u_c q4E qa hF;u_c q7j qa hF;u_reg qa hF;u_conv H.underlying_tPU32 H.room_tU32 (qak hF).choose_spec qa hF;u_conv H.underlying_tPU32 H.room_tU32 (qak hF).choose_spec qa hF;u_op qa hF;u_conv H.underlying_tPU32 H.room_tU32 (qak hF).choose_spec qa hF;u_c q4E qa hF;u_c q7j qa hF;u_c q7j qa hF;u_reg qa hF;u_conv H.underlying_tPU32 H.room_tU32 (qak hF).choose_spec qa hF;u_conv H.underlying_tPU32 H.room_tU32 (qak hF).choose_spec qa hF;u_conv H.underlying_tPU32 H.room_tU32 (qak hF).choose_spec qa hF;u_conv H.underlying_tPU32 H.room_tU32 (qak hF).choose_spec qa hF;u_conv H.underlying_tPU32 H.room_tU32 (qak hF).choose_spec qa hF;u_conv H.underlying_tPU32 H.room_tU32 (qak hF).choose_spec qa hF;u_conv H.underlying_tPU32 H.room_tU32 (qak hF).choose_spec qa hF;u_op qa hF;u_conv H.underlying_tPU32 H.room_tU32 (qak hF).choose_spec qa hF;u_conv H.underlying_tPU32 H.room_tU32 (qak hF).choose_spec qa hF;u_c q4E qa hF;u_cond true qa hF;u_reg qa hF;u_conv H.underlying_tPU32 H.room_tU32 (qak hF).choose_spec qa hF;u_conv H.underlying_tPU32 H.room_tU32 (qak hF).choose_spec qa hF;u_op qa hF;u_conv H.underlying_tPU32 H.room_tU32 (qak hF).choose_spec qa hF;refine qbi (λw₃ h₃=>?_);replace hF:=qa hF h₃;clear h₃;refine⟨rfl,_,stepG_markAt .read (by simp) rfl rfl (by k_ne) rfl H.f_raceRead (x_raceRead_n L) (x_raceRead_b L) (x_raceRead_x L) (x_raceRead_f L) (ad:=⟨Wg,1,none⟩) (by simp[Act.eval]),?_⟩;walk_nrm;u_c q4E qa hF;u_c q7j qa hF;u_c q7j qa hF;u_reg qa hF;u_op qa hF;u_op qa hF;u_c q4E qa hF;u_cond false qa hF;u_c qay qa hF;u_c q7j qa hF;u_c q7j qa hF;u_reg qa hF;u_op qa hF;u_op qa hF;u_op qa hF;u_skip qa hF;u_skip qa hF;u_op qa hF;u_op qa hF;u_skip qa hF;u_skip qa hF;u_skip qa hF;u_skip qa hF;u_op qa hF;u_c q4E qa hF;u_cond false qa hF;u_c qay qa hF;u_c q7j qa hF;u_c q7j qa hF;u_reg qa hF;u_op qa hF;u_op qa hF;u_op qa hF;u_skip qa hF;u_skip qa hF;u_op qa hF;u_c q4E qa hF;u_cond true qa hF;u_c qbG qa hF;refine qbi (λw₃ h₃=>?_);replace hF:=qa hF h₃;clear h₃;refine⟨rfl,_,stepG_unwind_entry (v:=.tuple #[]) (evs:=#[mk .enable]) rfl H.f_enable (x_enable_n L) (x_enable_b L) (x_enable_x L) (x_enable_f L) (by simp[Extern.Race.none_]) (by simp[mk]) (by simp[mk]),?_⟩;u_leave0 H.f_add qa hF;exact qbi λw₄ h₄=>hT _ (qa hF h₄)
 ·obtain⟨V,hV⟩:∃V:Int,V=(v:Int)+1:=⟨_,rfl⟩
  obtain⟨S,hS⟩:∃S:Int,S=V*KK:=⟨_,rfl⟩
  have eS:IntKind.u64.wrap ((v:Int)*KK+4294967296)=S:=by rw[IntKind.wrap_u64,hS,hV];simp only[KK];omega
  rw[<- hV,<- hS];have a1:S / 4294967296=V:=by rw[hS];simp only[KK];omega
  have b1:bits .and .u64 S 2147483648=0:=by rw[hS,hV];have:=st_flag (v+1) 0 (by omega) (by omega);simpa[KK] using this
  have b2:bits .and .u64 S 2147483647=0:=by rw[hS,hV];have:=st_waiters (v+1) 0 (by omega) (by omega);simpa[KK] using this
  have c1:IntKind.i32.wrap V=V:=by rw[IntKind.wrap_i32];omega
  have a6:1<V:=by omega
  have Z:V<2147483648:=by omega
  have q1:(V == 1)=false:=by simp;omega
  have q2:decide (V=1)=false:=decide_eq_false (by omega);have q3:decide (V<0)=false:=decide_eq_false (by omega);have q4:decide (0<V)=true:=decide_eq_true (by omega);have q5:(V == 0)=false:=by simp;omega
  have q6:decide (V=0)=false:=decide_eq_false (by omega);refine⟨_,(stepG_add_atomic rfl rfl (by k_ne) rfl H.f_addU64 (x_addU64_n L) (x_addU64_b L) (x_addU64_x L) .u64 (x_addU64_f L) rfl rfl hw.cellSt (hw.thaw 0)).trans (by rw[eS];rfl),.inr ?_⟩;have hF:qc2 L.tWg Wg (w₂.setCell (stA Wg) (.int .u64 S)):=⟨_,_,hw.setSt _⟩
  clear hw hS hV eS;walk_nrm;u_op qa hF;u_c q4E qa hF;u_c qbG qa hF;u_leave1 H.f_uAdd qa hF;u_op qa hF;u_c q4E qa hF;u_c q7j qa hF;u_c q7j qa hF;u_reg qa hF;u_op qa hF;u_op qa hF;u_op qa hF;u_op qa hF;u_skip qa hF;u_skip qa hF;u_op qa hF;u_c q4E qa hF;u_cond false qa hF;u_c qay qa hF;u_c q7j qa hF;u_reg qa hF;u_op qa hF;u_op qa hF;u_op qa hF;u_op qa hF;u_c q4E qa hF;u_c q7j qa hF;u_reg qa hF;u_op qa hF;u_op qa hF;u_op qa hF;u_op qa hF;u_c q4E qa hF;u_c q7j qa hF;u_c q7j qa hF;u_reg qa hF;u_op qa hF;u_op qa hF;u_op qa hF;u_op qa hF;u_op qa hF;u_op qa hF;u_op qa hF;u_op qa hF;u_op qa hF;u_op qa hF;u_c q4E qa hF;u_cond false qa hF;u_c qay qa hF;u_c q7j qa hF;u_c q7j qa hF;u_reg qa hF;u_op qa hF;u_op qa hF;u_c q4E qa hF;u_cond false qa hF;u_c qay qa hF;u_c q7j qa hF;u_c q7j qa hF;u_reg qa hF;u_op qa hF;u_op qa hF;u_op qa hF;u_skip qa hF;u_skip qa hF;u_op qa hF;u_op qa hF;u_skip qa hF;u_skip qa hF;u_skip qa hF;u_skip qa hF;u_op qa hF;u_c q4E qa hF;u_cond false qa hF;u_c qay qa hF;u_c q7j qa hF;u_c q7j qa hF;u_reg qa hF;u_op qa hF;u_op qa hF;u_op qa hF;u_skip qa hF;u_skip qa hF;u_op qa hF;u_c q4E qa hF;u_cond true qa hF;u_c qbG qa hF;refine qbi (λw₃ h₃=>?_);replace hF:=qa hF h₃;clear h₃;refine⟨rfl,_,stepG_unwind_entry (v:=.tuple #[]) (evs:=#[mk .enable]) rfl H.f_enable (x_enable_n L) (x_enable_b L) (x_enable_x L) (x_enable_f L) (by simp[Extern.Race.none_]) (by simp[mk]) (by simp[mk]),?_⟩;u_leave0 H.f_add qa hF;exact qbi λw₄ h₄=>hT _ (qa hF h₄)
end
end Go.Co
end
section
namespace Go.Co
open Go.Conc Go.ConcN Go.ConcN.Gen Go.RowKit Go.Conc.Lib Go.ConcR.Gen
open Go.ConcR (KK wgBlock WgAt stA smA rd wr mk DC0)
theorem q9{ty:q7x}{Wg:Nat}{w w₁:q2v}(h:qc2 ty Wg w)(r:LR ty Wg w w₁):qc2 ty Wg w₁:=r h
section
variable(P:q7m)(ty:q7x)(Wg:Nat)(Fin Anch:q4y->q2v->Prop)
def YJ(m:Mark)(qdb:q4y->q2v->Prop)(N:Nat)(g:q4y)(w:q2v):Prop :=
 g.status=.running/\∃g',qag P true g w=.go g' w #[mk m]/\Goes P true (LR ty Wg) DC0 qdb N g' w
def MW4(g:q4y)(w:q2v):Prop :=
 g.status=.running/\(qdD ty Wg w 0 0->∃g',qag P true g w=.go g' w #[rd (stA Wg)]/\Goes P true (LR ty Wg) DC0 (YJ P ty Wg .enable (YJ P ty Wg (.acquire (stA Wg)) Fin 40) 12) 30 g' w)
def MW3(g:q4y)(w:q2v):Prop :=
 g.status=.running/\g.offers=none /\
  ((∃st,qdD ty Wg w st 0)->qag P true g w=.go { g with status:=.blocked } w #[]) /\
  (qdD ty Wg w 0 1->∃g',qag P true g w=.go g' (w.setCell (smA Wg) (.int .u32 0)) (qda (smA Wg))/\Goes P true (LR ty Wg) DC0 (MW4 P ty Wg Fin) 30 g' (w.setCell (smA Wg) (.int .u32 0)))
def MW2(vs:Nat)(g:q4y)(w:q2v):Prop :=
 g.status=.running/\∀v:Nat,v<2147483648->qdD ty Wg w (v*KK) 0 ->
  (v=vs->∃g',qag P true g w=.go g' (w.setCell (stA Wg) (.int .u64 (v*KK+1))) #[rd (stA Wg),wr (stA Wg)]/\Goes P true (LR ty Wg) DC0 (YJ P ty Wg (.write (smA Wg)) (MW3 P ty Wg Fin) 40) 70 g' (w.setCell (stA Wg) (.int .u64 (v*KK+1)))) /\
  (v≠vs->∃g',qag P true g w=.go g' w #[rd (stA Wg)]/\Goes P true (LR ty Wg) DC0 Anch 20 g' w)
def MW1(g:q4y)(w:q2v):Prop :=
 g.status=.running/\∀v:Nat,v<2147483648->qdD ty Wg w (v*KK) 0->∃g',qag P true g w=.go g' w #[rd (stA Wg)] /\
  (v=0->Goes P true (LR ty Wg) DC0 (YJ P ty Wg .enable (YJ P ty Wg (.acquire (stA Wg)) Fin 40) 12) 50 g' w)/\(v≠0->Goes P true (LR ty Wg) DC0 (MW2 P ty Wg Fin Anch v) 60 g' w)
end
def Zo(L:WgLink)(Wg:Nat)(c:q7n)(cs:List q7n)(g:q4y)(w:q2v):Prop :=
 ∃T:Array q4k,g=G ((base L.wait).at ⟨T,[]⟩ [.code (L7 L),.inLoop (L7 L),.inBlock 0]) (c::cs)/\T.size=84/\T[0]?=some (.pointer (some ⟨Wg,0,none⟩))/\qc2 L.tWg Wg w
section
variable{L:WgLink}{Wg:Nat}{Fin:q4y->q2v->Prop}{b₀:q7n}{a₀:Act}{ops₀:Array qaG}{i₀:Nat}{rest₀:List Nat}{k₀:List qcG}{cs:List q7n}
theorem waitRound{P:q7m}(H:WgLib P L)
  (hT:∀w,qc2 L.tWg Wg w->Fin (G (b₀.at (a₀.put ((ops₀[i₀]?).bind (·.dst)) (.tuple #[])) (.inRegion ops₀ rest₀::k₀)) cs) w)
  (g:q4y) (w:q2v) (h:Zo L Wg (b₀.at a₀ (.inRegion ops₀ (i₀::rest₀)::k₀)) cs g w) :
  Goes P true (LR L.tWg Wg) DC0 (MW1 P L.tWg Wg Fin (Zo L Wg (b₀.at a₀ (.inRegion ops₀ (i₀::rest₀)::k₀)) cs)) 30 g w:=by
 lib_facts;obtain⟨T,rfl,Z,t0,hF⟩:=h;obtain⟨v0,v1,v2,v3,v4,v5,v6,v7,v8,v9,r9,r8,r7,r6,r5,r4,r3,q7,q2,q1,q0,p9,p8,p7,p6,p5,p4,p3,n9,n8,n7,n6,n4,n3,n2,m9,m8,m7,m6,m5,m4,m3,l9,l8,l7,l6,l5,l4,k9,k8,k7,k6,k5,k0,h9,h8,g9,g8,g7,g6,g5,e9,e8,e7,e6,e5,e4,d9,d8,d7,d6,d5,c9,c8,c3,b9,b8,b7,b6,b0,a9,a8,a7,a6,rfl⟩:=array84 T Z;simp only[List.getElem?_toArray,List.getElem?_cons_zero,q9B] at t0;subst t0;simp only[L7,body_wait,waitFn,q72];u_c stepG_block q9 hF;u_c q7j q9 hF;u_reg q9 hF;u_op q9 hF;u_op q9 hF;u_op q9 hF;u_call H.f_uLoad (nm_uLoad L) uLoadFn q9 hF;u_c q7j q9 hF;u_reg q9 hF;u_op q9 hF;u_c q4E q9 hF;u_c q7j q9 hF;u_reg q9 hF;u_op q9 hF;u_op q9 hF;u_op q9 hF;refine qbi (λw₁ h₁=>?_);replace hF:=q9 hF h₁;clear h₁;refine⟨rfl,λv hv hw=>?_⟩;rcases Nat.eq_zero_or_pos v with rfl | hvp
 ·replace hw:qdD L.tWg Wg w₁ 0 0:=by simpa using hw
  refine⟨_,stepG_load_atomic (v:=0) rfl rfl (by k_ne) rfl H.f_loadU64 (x_loadU64_n L) (x_loadU64_b L) (x_loadU64_x L) .u64 (x_loadU64_f L) rfl hw.cellSt,λ_=>?_,λh=>absurd rfl h⟩;clear hw;walk_nrm;u_op q9 hF;u_c q4E q9 hF;u_c qbG q9 hF;u_leave1 H.f_uLoad q9 hF;u_op q9 hF;u_c q4E q9 hF;u_c q7j q9 hF;u_reg q9 hF;u_op q9 hF;u_op q9 hF;u_op q9 hF;u_op q9 hF;u_c q4E q9 hF;u_c q7j q9 hF;u_reg q9 hF;u_op q9 hF;u_op q9 hF;u_op q9 hF;u_op q9 hF;u_c q4E q9 hF;u_c q7j q9 hF;u_c q7j q9 hF;u_reg q9 hF;u_op q9 hF;u_op q9 hF;u_c q4E q9 hF;u_cond true q9 hF;u_c q7j q9 hF;u_cond true q9 hF;u_c q7j q9 hF;u_reg q9 hF;refine qbi (λw₅ h₅=>?_);replace hF:=q9 hF h₅;clear h₅;refine⟨rfl,_,stepG_mark0 .enable (by simp) rfl rfl (by k_ne) rfl H.f_enable (x_enable_n L) (x_enable_b L) (x_enable_x L) (x_enable_f L),?_⟩;walk_nrm;u_c q4E q9 hF;u_reg q9 hF;u_conv H.underlying_tWgP H.room_tWg (qdj hF).choose_spec q9 hF;u_conv H.underlying_tWgP H.room_tWg (qdj hF).choose_spec q9 hF;refine qbi (λw₆ h₆=>?_);replace hF:=q9 hF h₆;clear h₆;refine⟨rfl,_,stepG_markAt .acquire (by simp) rfl rfl (by k_ne) rfl H.f_acquire (x_acquire_n L) (x_acquire_b L) (x_acquire_x L) (x_acquire_f L) (by simp[Act.eval,stA]),?_⟩;walk_nrm;u_c q4E q9 hF;u_c q7j q9 hF;u_c q7j q9 hF;u_reg q9 hF;u_op q9 hF;u_op q9 hF;u_op q9 hF;u_op q9 hF;u_op q9 hF;u_op q9 hF;u_op q9 hF;u_op q9 hF;u_skip q9 hF;u_skip q9 hF;u_op q9 hF;u_c q4E q9 hF;u_cond false q9 hF;u_c qay q9 hF;u_c qbG q9 hF;u_leave0 H.f_wait q9 hF;exact qbi λw₇ h₇=>hT _ (q9 hF h₇)
 ·obtain⟨S,hS⟩:∃S:Int,(v:Int)*KK=S:=⟨_,rfl⟩
  have a1:S / 4294967296=(v:Int):=by rw[<- hS];simp only[KK];omega
  have b1:bits .and .u64 S 2147483648=0:=by rw[<- hS];have:=st_flag v 0 (by omega) (by omega);simpa[KK] using this
  have b2:bits .and .u64 S 2147483647=0:=by rw[<- hS];have:=st_waiters v 0 (by omega) (by omega);simpa[KK] using this
  have c1:IntKind.i32.wrap (v:Int)=(v:Int):=by rw[IntKind.wrap_i32];omega
  have w1:IntKind.u64.wrap (S+1)=S+1:=by rw[IntKind.wrap_u64,<- hS];simp only[KK];omega
  have q3:decide ((v:Int)<0)=false:=decide_eq_false (by omega);have q4:decide (0<(v:Int))=true:=decide_eq_true (by omega);have q5:((v:Int) == 0)=false:=by simp;omega
  have q6:decide ((v:Int)=0)=false:=decide_eq_false (by omega);rw[hS] at hw;refine⟨_,stepG_load_atomic (v:=S) rfl rfl (by k_ne) rfl H.f_loadU64 (x_loadU64_n L) (x_loadU64_b L) (x_loadU64_x L) .u64 (x_loadU64_f L) rfl hw.cellSt,λh0=>absurd h0 (by omega),λ_=>?_⟩;clear hw;walk_nrm;u_op q9 hF;u_c q4E q9 hF;u_c qbG q9 hF;u_leave1 H.f_uLoad q9 hF;u_op q9 hF;u_c q4E q9 hF;u_c q7j q9 hF;u_reg q9 hF;u_op q9 hF;u_op q9 hF;u_op q9 hF;u_op q9 hF;u_c q4E q9 hF;u_c q7j q9 hF;u_reg q9 hF;u_op q9 hF;u_op q9 hF;u_op q9 hF;u_op q9 hF;u_c q4E q9 hF;u_c q7j q9 hF;u_c q7j q9 hF;u_reg q9 hF;u_op q9 hF;u_op q9 hF;u_c q4E q9 hF;u_cond false q9 hF;u_c qay q9 hF;u_c q7j q9 hF;u_reg q9 hF;u_op q9 hF;u_op q9 hF;u_op q9 hF;u_op q9 hF;u_op q9 hF;u_op q9 hF;u_call H.f_uCas (nm_uCas L) uCasFn q9 hF;u_c q7j q9 hF;u_reg q9 hF;u_op q9 hF;u_c q4E q9 hF;u_c q7j q9 hF;u_reg q9 hF;u_op q9 hF;u_op q9 hF;u_op q9 hF;u_op q9 hF;u_op q9 hF;refine qbi (λw₂ h₂=>?_);replace hF:=q9 hF h₂;clear h₂;refine⟨rfl,λv' s1 hw=>⟨λe=>?_,λe=>?_⟩⟩
  ·subst e
   rw[hS] at hw ⊢;refine⟨_,(stepG_cas_hit (v:=S) (n:=S+1) rfl rfl (by k_ne) rfl H.f_casU64 (x_casU64_n L) (x_casU64_b L) (x_casU64_x L) .u64 (x_casU64_f L) rfl rfl rfl hw.cellSt (hw.thaw 0)).trans (by rfl),?_⟩;replace hF:qc2 L.tWg Wg (w₂.setCell (stA Wg) (.int .u64 (S+1))):=⟨_,_,hw.setSt _⟩
   clear hw;walk_nrm;u_conv H.underlying_tPU32 H.room_tU32 (qak hF).choose_spec q9 hF;u_c q4E q9 hF;u_c qbG q9 hF;u_leave1 H.f_uCas q9 hF;u_c q4E q9 hF;u_cond true q9 hF;u_c q7j q9 hF;u_c q7j q9 hF;u_reg q9 hF;u_conv H.underlying_tPU32 H.room_tU32 (qak hF).choose_spec q9 hF;u_conv H.underlying_tPU32 H.room_tU32 (qak hF).choose_spec q9 hF;u_conv H.underlying_tPU32 H.room_tU32 (qak hF).choose_spec q9 hF;u_conv H.underlying_tPU32 H.room_tU32 (qak hF).choose_spec q9 hF;u_c q4E q9 hF;u_cond true q9 hF;u_reg q9 hF;u_conv H.underlying_tPU32 H.room_tU32 (qak hF).choose_spec q9 hF;u_conv H.underlying_tPU32 H.room_tU32 (qak hF).choose_spec q9 hF;u_op q9 hF;u_conv H.underlying_tPU32 H.room_tU32 (qak hF).choose_spec q9 hF;refine qbi (λw₃ h₃=>?_);replace hF:=q9 hF h₃;clear h₃;refine⟨rfl,_,stepG_markAt .write (by simp) rfl rfl (by k_ne) rfl H.f_raceWrite (x_raceWrite_n L) (x_raceWrite_b L) (x_raceWrite_x L) (x_raceWrite_f L) (ad:=⟨_,1,none⟩) (by simp[Act.eval]<;>rfl),?_⟩;walk_nrm;u_c q4E q9 hF;u_c q7j q9 hF;u_reg q9 hF;u_op q9 hF;u_c q4E q9 hF;u_c q7j q9 hF;u_c q7j q9 hF;u_reg q9 hF;u_op q9 hF;u_op q9 hF;u_op q9 hF;u_op q9 hF;u_skip q9 hF;u_op q9 hF;u_c q4E q9 hF;u_cond false q9 hF;u_c qay q9 hF;u_c q7j q9 hF;u_reg q9 hF;u_op q9 hF;u_op q9 hF;u_op q9 hF;u_op q9 hF;refine qbi (λw₃ h₃=>?_);replace hF:=q9 hF h₃;clear h₃;refine⟨rfl,rfl,λ⟨st,hw⟩=>stepG_semacquire_wait rfl rfl rfl H.f_semacquire (x_semacquire_n L) (x_semacquire_b L) (x_semacquire_x L) (x_semacquire_f L) (by simp[Act.eval,smA]) hw.cellSm,λhf=>?_⟩;refine⟨_,(stepG_semacquire (n:=1) rfl rfl (by k_ne) rfl H.f_semacquire (x_semacquire_n L) (x_semacquire_b L) (x_semacquire_x L) (x_semacquire_f L) (by simp[Act.eval,smA]) hf.cellSm (by k_ne) (hf.thaw 1)).trans (by rfl),?_⟩;replace hF:qc2 L.tWg Wg (w₃.setCell (smA Wg) (.int .u32 0)):=⟨_,_,hf.setSm 0⟩
   clear hf;walk_nrm;u_c q4E q9 hF;u_c q7j q9 hF;u_reg q9 hF;u_op q9 hF;u_op q9 hF;u_op q9 hF;u_call H.f_uLoad (nm_uLoad L) uLoadFn q9 hF;u_c q7j q9 hF;u_reg q9 hF;u_op q9 hF;u_c q4E q9 hF;u_c q7j q9 hF;u_reg q9 hF;u_op q9 hF;u_op q9 hF;u_op q9 hF;refine qbi (λw₄ h₄=>?_);replace hF:=q9 hF h₄;clear h₄;refine⟨rfl,λhw=>⟨_,stepG_load_atomic (v:=0) rfl rfl (by k_ne) rfl H.f_loadU64 (x_loadU64_n L) (x_loadU64_b L) (x_loadU64_x L) .u64 (x_loadU64_f L) rfl hw.cellSt,?_⟩⟩;clear hw;walk_nrm;u_op q9 hF;u_c q4E q9 hF;u_c qbG q9 hF;u_leave1 H.f_uLoad q9 hF;u_op q9 hF;u_op q9 hF;u_c q4E q9 hF;u_c q7j q9 hF;u_cond true q9 hF;u_c q7j q9 hF;u_reg q9 hF;refine qbi (λw₅ h₅=>?_);replace hF:=q9 hF h₅;clear h₅;refine⟨rfl,_,stepG_mark0 .enable (by simp) rfl rfl (by k_ne) rfl H.f_enable (x_enable_n L) (x_enable_b L) (x_enable_x L) (x_enable_f L),?_⟩;walk_nrm;u_c q4E q9 hF;u_reg q9 hF;u_conv H.underlying_tWgP H.room_tWg (qdj hF).choose_spec q9 hF;u_conv H.underlying_tWgP H.room_tWg (qdj hF).choose_spec q9 hF;refine qbi (λw₆ h₆=>?_);replace hF:=q9 hF h₆;clear h₆;refine⟨rfl,_,stepG_markAt .acquire (by simp) rfl rfl (by k_ne) rfl H.f_acquire (x_acquire_n L) (x_acquire_b L) (x_acquire_x L) (x_acquire_f L) (by simp[Act.eval,stA]),?_⟩;walk_nrm;u_c q4E q9 hF;u_c q7j q9 hF;u_c q7j q9 hF;u_reg q9 hF;u_op q9 hF;u_c q4E q9 hF;u_cond false q9 hF;u_c qay q9 hF;u_c qbG q9 hF;u_leave0 H.f_wait q9 hF;exact qbi λw₇ h₇=>hT _ (q9 hF h₇)
  ·refine⟨_,stepG_cas_miss (v:=(v':Int)*KK) (old:=S) (n:=S+1) rfl rfl (by k_ne) rfl H.f_casU64 (x_casU64_n L) (x_casU64_b L) (x_casU64_x L) .u64 (x_casU64_f L) rfl rfl rfl hw.cellSt (hw.thaw 0) (by rw[<- hS];simp only[KK];omega),?_⟩
   clear hw;walk_nrm;u_op q9 hF;u_c q4E q9 hF;u_c qbG q9 hF;u_leave1 H.f_uCas q9 hF;u_c q4E q9 hF;u_cond false q9 hF;u_c qay q9 hF;u_c stepG_inBlock q9 hF;u_c stepG_inLoop q9 hF;refine qbi (λw₃ h₃=>?_);replace hF:=q9 hF h₃;exact⟨_,rfl,by simp,by simp,hF⟩
theorem waitStart{P:q7m}(H:WgLib P L)(w:q2v)(hF:qc2 L.tWg Wg w) :
  Goes P true (LR L.tWg Wg) DC0 (YJ P L.tWg Wg .disable (Zo L Wg (b₀.at a₀ (.inRegion ops₀ (i₀::rest₀)::k₀)) cs) 3) 3
   (G ((base L.wait).at ⟨#[.pointer (some ⟨Wg,0,none⟩),q4D,q4D,q4D,q4D,q4D,q4D,q4D,q4D,q4D,q4D,q4D,q4D,q4D,q4D,q4D,q4D,q4D,q4D,q4D,q4D,q4D,q4D,q4D,q4D,q4D,q4D,q4D,q4D,q4D,q4D,q4D,q4D,q4D,q4D,q4D,q4D,q4D,q4D,q4D,q4D,q4D,q4D,q4D,q4D,q4D,q4D,q4D,q4D,q4D,q4D,q4D,q4D,q4D,q4D,q4D,q4D,q4D,q4D,q4D,q4D,q4D,q4D,q4D,q4D,q4D,q4D,q4D,q4D,q4D,q4D,q4D,q4D,q4D,q4D,q4D,q4D,q4D,q4D,q4D,q4D,q4D,q4D,q4D],[]⟩ [.code (body_wait L)]) (b₀.at a₀ (.inRegion ops₀ (i₀::rest₀)::k₀)::cs)) w:=by
 lib_facts;simp only[body_wait,waitFn,q72];u_c q7j q9 hF;u_cond true q9 hF;u_reg q9 hF;refine qbi (λw₁ h₁=>?_);replace hF:=q9 hF h₁;clear h₁;refine⟨rfl,_,stepG_mark0 .disable (by simp) rfl rfl (by k_ne) rfl H.f_disable (x_disable_n L) (x_disable_b L) (x_disable_x L) (x_disable_f L),?_⟩;walk_nrm;u_c q4E q9 hF;u_c stepG_block q9 hF;u_c stepG_loop q9 hF;exact qbi (λw₂ h₂=>⟨_,rfl,by simp,by simp,q9 hF h₂⟩)
end
end Go.Co
end
section
namespace Go.Co
open Go.Conc Go.ConcN Go.ConcN.Gen Go.RowKit Go.Conc.Lib Go.ConcR.Gen
open Go.ConcR (KK wgBlock WgAt stA smA rd wr mk DC0)
section
variable{P:q7m}{b:Bool}{ty:q7x}{Wg:Nat}{R:q2v->q2v->Prop}{D D':q2v->q2v->Array qaz->Prop}{Stop Stop' qdb:q4y->q2v->Prop}
theorem vu(hD:∀w w' es,D w w' es->D' w w' es)(hS:∀g w,Stop g w->Stop' g w) :
  ∀{n:Nat} {g:q4y} {w:q2v},Goes P b R D Stop n g w->Goes P b R D' Stop' n g w
 | 0,_,_,h=>λw₁ hr=>hS _ _ (h w₁ hr)
 | n+1,_,_,.inl h=>.inl λw₁ hr=>hS _ _ (h w₁ hr)
 | n+1,g,w,.inr ⟨hs,h⟩=>.inr ⟨hs,λw₁ hr=>by
   obtain⟨g',w',es,e,hd,hg⟩:=goes_elim (h w₁ hr);rw[e];exact⟨hD _ _ _ hd,vu hD hS hg⟩⟩
theorem q5p{n:Nat}{g:q4y}{w:q2v}:∀r,Goes P b R D Stop n g w->Goes P b R D Stop (n+r) g w
 | 0,h=>h
 | r+1,h=>(q5p r h).more
theorem QL(hR:∀w,R w w){N:Nat}:∀{n:Nat} {g:q4y} {w:q2v},Goes P b R D (λg w=>Goes P b R D Stop N g w) n g w->Goes P b R D Stop (n+N) g w
 | 0,_,w,h=>by rw[q8l];exact h w (hR w)
 | n+1,_,w,.inl h=>by rw[Nat.add_comm];exact q5p (n+1) (h w (hR w))
 | n+1,g,w,.inr ⟨hs,h⟩=>by
   rw[Nat.add_right_comm];refine .inr ⟨hs,λw₁ hr=>?_⟩;obtain⟨g',w',es,e,hd,hg⟩:=goes_elim (h w₁ hr);rw[e];exact⟨hd,QL hR hg⟩
theorem Zg(hR:∀w,R w w)(hT:∀a b c,R a b->R b c->R a c){N:Nat}(hS:∀g w,Stop g w->g.status=.running/\∃g' es,qag P b g w=.go g' w es/\D w w es/\Goes P b R D qdb N g' w)
  {n:Nat} {g:q4y} {w:q2v} (h:Goes P b R D Stop n g w):Goes P b R D qdb (n+(N+1)) g w:=by
 have key:∀{g:q4y} {w:q2v},(∀w₁,R w w₁->Stop g w₁)->∀w₁,R w w₁->Goes P b R D qdb (N+1) g w₁:=λ{g w} h w₁ hr =>
  .inr ⟨(hS _ _ (h w₁ hr)).1,λw₂ hr₂=>by
   obtain⟨g',es,e,hd,hg⟩:=(hS _ _ (h w₂ (hT _ _ _ hr hr₂))).2;rw[e];exact⟨hd,hg⟩⟩
 refine QL hR ?_;induction n generalizing g w with
 | zero=>exact key h
 | succ n ih =>
  rcases h with h | ⟨hs,h⟩
  ·exact .inl (key h)
  ·refine .inr ⟨hs,λw₁ hr=>?_⟩
   obtain⟨g',w',es,e,hd,hg⟩:=goes_elim (h w₁ hr);rw[e];exact⟨hd,ih hg⟩
end
section
variable{Γ Λ:Type}(C:Cfg Γ Λ)
theorem dm_of{Wg:Nat}:∀w w' es,DC0 w w' es->DM Wg w w' es:=λ_ _ _ h=>⟨h.1,by rw[h.2];simp⟩
variable{C}
theorem Cfg.GM.of{Stop Stop':q4y->q2v->Prop}{m:Nat}{g:q4y}{w:q2v}(h:Goes C.P true (LR C.ty C.Wg) DC0 Stop m g w)(hS:∀g w,Stop g w->Stop' g w):C.GM Stop' m g w :=
 vu dm_of hS h
theorem Cfg.GM.trans{Stop:q4y->q2v->Prop}{N n:Nat}{g:q4y}{w:q2v}(h:C.GM (λg w=>C.GM Stop N g w) n g w):C.GM Stop (n+N) g w:=QL LR.refl h
theorem Cfg.GM.swallow{m:Mark}{qdb:q4y->q2v->Prop}{N n:Nat}{g:q4y}{w:q2v}(hm:m=.read (smA C.Wg)\/m=.write (smA C.Wg))
  (h:C.GM (AtMk C.P true C.ty C.Wg m qdb N) n g w):C.GM qdb (n+(N+1)) g w :=
 Zg LR.refl qX (λg w ⟨hs,g',e,hg⟩=>⟨hs,g',_,e,⟨rfl,by rcases hm with rfl | rfl<;>simp⟩,vu dm_of (λ_ _ h=>h) hg⟩) h
theorem Cfg.add_spawn{S:q4y->q2v->Prop}{N n:Nat}{g:q4y}{w:q2v}
  (h:Goes C.P true (LR C.ty C.Wg) DC0 (AtMk C.P true C.ty C.Wg .disable (AtAdd C.P true C.ty C.Wg (λg w=>C.GM (C.AtGoS S) N g w)) 40) n g w) :
  C.GM (C.AtKdS S) n g w:=by
 refine Cfg.GM.of h λg w ⟨hs,g',e,hg⟩=>⟨hs,g',e,40,Cfg.GM.of hg λg w ⟨hs,hv⟩=>⟨hs,λv h1 h2=>?_⟩⟩
 obtain⟨g',e,hg⟩:=hv v h1 h2;have hk:∀g w,AtMk C.P true C.ty C.Wg .enable (λg w=>C.GM (C.AtGoS S) N g w) 2 g w->C.AtKeS S g w :=
  λg w ⟨hs,g',e,hg⟩=>⟨hs,g',e,2+N,Cfg.GM.trans (Cfg.GM.of hg λ_ _ h=>h)⟩
 refine⟨g',e,?_⟩;rcases hg with hg | hg
 ·exact⟨_,vu (λ_ _ _ h=>h) hk (Cfg.GM.swallow (.inl rfl) (Cfg.GM.of hg λ_ _ h=>h))⟩
 ·exact⟨_,Cfg.GM.of hg hk⟩
theorem Cfg.GM.sayC{m:Mark}{qdb:q4y->q2v->Prop}{N n:Nat}{g:q4y}{w:q2v}(hm:m=.read (smA C.Wg)\/m=.write (smA C.Wg))
  (h:C.GM (YJ C.P C.ty C.Wg m qdb N) n g w):C.GM qdb (n+(N+1)) g w :=
 Zg LR.refl qX (λg w ⟨hs,g',e,hg⟩=>⟨hs,g',_,e,⟨rfl,by rcases hm with rfl | rfl<;>simp⟩,vu dm_of (λ_ _ h=>h) hg⟩) h
section
variable{F0:q4y->q2v->Prop}(hF:∀g w,Goes C.P true (LR C.ty C.Wg) DC0 F0 40 g w->C.Fin g w)
include hF
theorem Cfg.acq_of{g:q4y}{w:q2v}(h:YJ C.P C.ty C.Wg (.acquire (stA C.Wg)) F0 40 g w):C.AtAcq g w:=by
 obtain⟨hs,g',e,hg⟩:=h;exact⟨hs,g',e,hF _ _ hg⟩
theorem Cfg.ke_of{g:q4y}{w:q2v}(h:YJ C.P C.ty C.Wg .enable (YJ C.P C.ty C.Wg (.acquire (stA C.Wg)) F0 40) 12 g w):C.AtKe g w:=by
 obtain⟨hs,g',e,hg⟩:=h;exact⟨hs,g',e,12,Cfg.GM.of hg λ_ _ h=>Cfg.acq_of hF h⟩
theorem Cfg.w4_of{g:q4y}{w:q2v}(h:MW4 C.P C.ty C.Wg F0 g w):C.AtW4 g w:=by
 obtain⟨hs,h⟩:=h;refine⟨hs,λhw=>?_⟩;obtain⟨g',e,hg⟩:=h hw;exact⟨g',e,30,Cfg.GM.of hg λ_ _ h=>Cfg.ke_of hF h⟩
theorem Cfg.w3_of{g:q4y}{w:q2v}(h:MW3 C.P C.ty C.Wg F0 g w):C.AtW3 g w:=by
 obtain⟨hs,ho,hb,h⟩:=h;refine⟨hs,ho,hb,λhw=>?_⟩;obtain⟨g',e,hg⟩:=h hw;exact⟨g',e,30,Cfg.GM.of hg λ_ _ h=>Cfg.w4_of hF h⟩
theorem Cfg.w2_of{vs:Nat}{g:q4y}{w:q2v}(h:MW2 C.P C.ty C.Wg F0 C.AnchW vs g w):C.AtW2 vs g w:=by
 obtain⟨hs,h⟩:=h;refine⟨hs,λv hv hw=>⟨λe=>?_,λe=>?_⟩⟩
 ·obtain⟨g',e',hg⟩:=(h v hv hw).1 e
  exact⟨g',e',_,vu (λ_ _ _ h=>h) (λ_ _ h=>Cfg.w3_of hF h) (Cfg.GM.sayC (.inr rfl) (Cfg.GM.of hg λ_ _ h=>h))⟩
 ·obtain⟨g',e',hg⟩:=(h v hv hw).2 e
  exact⟨g',e',20,Cfg.GM.of hg λ_ _ h=>h⟩
theorem Cfg.w1_of{g:q4y}{w:q2v}(h:MW1 C.P C.ty C.Wg F0 C.AnchW g w):C.AtW1 g w:=by
 obtain⟨hs,h⟩:=h;refine⟨hs,λv hv hw=>?_⟩;obtain⟨g',e,h1,h2⟩:=h v hv hw;exact⟨g',e,λe=>⟨50,Cfg.GM.of (h1 e) λ_ _ h=>Cfg.ke_of hF h⟩,λe=>⟨60,Cfg.GM.of (h2 e) λ_ _ h=>Cfg.w2_of hF h⟩⟩
end
theorem Cfg.kd_of{n:Nat}{g:q4y}{w:q2v}(h:Goes C.P true (LR C.ty C.Wg) DC0 (YJ C.P C.ty C.Wg .disable C.AnchW 3) n g w):C.GM C.AtKd n g w :=
 Cfg.GM.of h λ_ _ ⟨hs,g',e,hg⟩=>⟨hs,g',e,3,Cfg.GM.of hg λ_ _ h=>h⟩
end
end Go.Co
end
section
namespace Go.Co
open Go.Conc Go.ConcN
open Go.ConcR (KK wgBlock WgAt stA smA rd wr DC0 Bk g_of_ofEvents loc_of_ofEvent)
structure Inv{Γ Λ:Type}(C:Cfg Γ Λ)(gs:Array q4y)(w:q2v)(t:Trace)(j:Nat)(D:Nat->WD)(ls:Nat->Λ)(Ss:Nat->Bs)(rk:Nat->Rk)(γ:Γ)(tag:CTag)(f0 d0:Nat)(a:q4y)(st sm:Int)(cl:Nat->Cl)(fu:Nat->Nat):Prop where
 size:gs.size=C.lo+j
 main:gs[0]?=some a
 cs:C.CS tag j f0 d0 a w
 lv:∀i,1<=i->i<C.lo->∃g,gs[i]?=some g/\QuitsD C.P (fu i) (Deaf t i) g
 wk:∀i,i<j->∃g,gs[C.lo+i]?=some g/\C.WS (D i).stage (D i).fuel (D i).deaf (ls i) (Ss i) (rk i) g w
 wd:∀i,i<j->Deaf t (C.lo+i)=(D i).deaf
 rel:∀i,i<j->(D i).stage<=6->∃r,RelBy (stA C.Wg) t (C.lo+i) r
 tr:Tr cl gs.size w.heap.size t
 clw:∀i,i<j->∀b,Ss i b->cl b=.mine (C.lo+i)/\b<w.heap.size
 cl0:∀b,w.heap.size<=b->cl b=.mine 0
 cla:∀b,b<C.W1.heap.size->cl b=C.clA b
 cln:∀b,C.W1.heap.size<=b->cl b≠.sync
 nor:∀ad,NoRelease ad t
 deaf0:Deaf t 0=d0
 hd:Hd C.lo t
 data:C.DataAt γ w
 jj:C.J γ j ls
 ph:C.Ph w
 wg:qdD C.ty C.Wg w st sm
 mode:qdo j D tag st sm
section
variable{Γ Λ:Type}{C:Cfg Γ Λ}{gs:Array q4y}{w w':q2v}{t:Trace}{j:Nat}{D:Nat->WD}{ls:Nat->Λ}{Ss:Nat->Bs}{rk:Nat->Rk}{γ γ':Γ}{tag:CTag}{f0 d0:Nat}{a:q4y}{st sm st' sm':Int}{cl:Nat->Cl}{fu:Nat->Nat}
structure Ef(cl:Nat->Cl)(x:Nat)(w w':q2v):Prop where
 keep:∀b,b<w.heap.size->cl b≠.mine x->cl b≠.sync->w'.heap[b]?=w.heap[b]?
 size:w.heap.size<=w'.heap.size
 os:w'.os=w.os
 output:w'.output=w.output
def Jj(cl:Nat->Cl)(x:Nat)(w w':q2v)(b:Nat):Cl:=if w.heap.size<=b/\b<w'.heap.size then .mine x else cl b
theorem vz{x b:Nat}(h:b<w.heap.size):Jj cl x w w' b=cl b:=by unfold Jj;rw[if_neg (by omega)]
theorem q03{x:Nat}(h:w'.heap.size=w.heap.size):Jj cl x w w'=cl:=by
 funext b
 unfold Jj;rw[if_neg (by omega)]
theorem Inv.fzc(H:C.Ok)(h:Inv C gs w t j D ls Ss rk γ tag f0 d0 a st sm cl fu){b:Nat}(hb:C.Fz b):cl b=.ro C.lo/\b<w.heap.size:=by
 obtain⟨h1,h2⟩:=H.fzc b hb;exact⟨(h.cla b h2).trans h1,q7u h2 h.ph.size⟩
theorem Inv.syc(H:C.Ok)(h:Inv C gs w t j D ls Ss rk γ tag f0 d0 a st sm cl fu){b:Nat}(hb:C.Sy b):cl b=.sync/\b<w.heap.size:=by
 obtain⟨h1,h2⟩:=H.syc b hb;exact⟨(h.cla b h2).trans h1,q7u h2 h.ph.size⟩
theorem Inv.wgc(H:C.Ok)(h:Inv C gs w t j D ls Ss rk γ tag f0 d0 a st sm cl fu):cl C.Wg=.sync/\C.Wg<w.heap.size:=by
 obtain⟨h1,h2,_⟩:=H.wgc;exact⟨(h.cla _ h2).trans h1,q7u h2 h.ph.size⟩
theorem Inv.ph'(H:C.Ok)(h:Inv C gs w t j D ls Ss rk γ tag f0 d0 a st sm cl fu){x:Nat}(e:Ef cl x w w'):C.Ph w' where
 fz b hb:=by
  obtain⟨h1,h2⟩:=h.fzc H hb;rw[e.keep b h2 (by rw[h1];simp) (by rw[h1];simp)];exact h.ph.fz b hb
 size:=q6s h.ph.size e.size
 os:=e.os.trans h.ph.os
 output:=e.output.trans h.ph.output
theorem Inv.rc(H:C.Ok)(h:Inv C gs w t j D ls Ss rk γ tag f0 d0 a st sm cl fu){x i:Nat}(e:Ef cl x w w')(hi:i<j)(hx:x≠C.lo+i)(a6:qdD C.ty C.Wg w' st' sm')(Z:C.DataAt γ' w'):RC C.Fz C.K (Ss i) w w' where
 own b hb:=by
  obtain⟨h1,h2⟩:=h.clw i hi b hb;exact e.keep b h2 (by rw[h1];intro hc;cases hc;exact hx rfl) (by rw[h1];simp)
 fz b hb:=by
  obtain⟨h1,h2⟩:=h.fzc H hb;exact e.keep b h2 (by rw[h1];simp) (by rw[h1];simp)
 size:=e.size
 os:=e.os
 output:=e.output
 k:=⟨λ_=>⟨_,_,a6⟩,λ_=>⟨_,Z⟩⟩
theorem Inv.stepW(H:C.Ok)(h:Inv C gs w t j D ls Ss rk γ tag f0 d0 a st sm cl fu){i:Nat}(hi:i<j){g g':q4y}{es:Array qaz}(sl:Option (Nat × Nat))(hg:gs[C.lo+i]?=some g)(d7:qag C.P false g w=.go g' w' es)(e:Ef cl (C.lo+i) w w')
  (b9:∀e∈es,EvG (Jj cl (C.lo+i) w w') w'.heap.size (C.lo+i) e/\∀a,e.loc≠.mark (.release a))
  {s' m' Z:Nat} {l':Λ} {r':Rk} (d6:C.WS s' m' Z l' (grow (Ss i) w w') r' g' w') (b0:qcc (D i).deaf es=Z)
  (hrel:s'<=6->∃r,RelBy (stA C.Wg) (t++qbn (C.lo+i) g.frame.fn g.frame.place es) (C.lo+i) r)
  (a8:qdD C.ty C.Wg w' st' sm') (a7:C.DataAt γ' w') (hJ:C.J γ' j (upd ls i l'))
  (a9:∀tag',(tag'=tag\/(tag=.blk/\tag'=.w3))->(mayWake C.P g=true->g'.status=.running->tag'≠.blk)->qdo j (upd D i ⟨s',m',Z⟩) tag' st' sm') :
  ∃gs' tag' f' a',runT C.P (qcu gs w sl) (C.lo+i)=(.next (qcu gs' w' sl),qbn (C.lo+i) g.frame.fn g.frame.place es)/\f'<=f0+1/\(tag'=tag\/(tag=.blk/\tag'=.w3)) /\
   Inv C gs' w' (t++qbn (C.lo+i) g.frame.fn g.frame.place es) j (upd D i ⟨s',m',Z⟩) (upd ls i l') (upd Ss i (grow (Ss i) w w')) (upd rk i r') γ' tag' f' d0 a' st' sm' (Jj cl (C.lo+i) w w') fu:=by
 have hlo:=H.hlo;obtain⟨tag',f',c3,d8,a6,d5⟩:=h.cs.wokenBy H (LR.to (w:=w) ⟨_,_,a8⟩) g g';have b8:=qdn (P:=C.P) (sl:=sl) (i:=C.lo+i) hg (by rw[show(C.lo+i == 0)=false by simp;omega];exact d7);have hsz:((gs.map (woken C.P g g' w')).setIfInBounds (C.lo+i) g').size=gs.size:=by simp
 have hlt:C.lo+i<gs.size:=by rw[h.size];omega
 have hops:∀op∈qbn (C.lo+i) g.frame.fn g.frame.place es,op.g=C.lo+i:=g_of_ofEvents;refine⟨_,tag',f',_,b8,d8,a6,⟨by rw[hsz];exact h.size,by rw[qcy _ _ _ _ (by omega),h.main];rfl,c3,λx c9 c8=>?_,λx hx=>?_,λx hx=>?_,λx hx hst=>?_,?_,λx hx b hb=>?_,λb hb=>?_,λb hb=>?_,λb hb=>?_,?_,?_,?_,a7,hJ,h.ph' H e,a8,a9 tag' a6 d5⟩⟩
 ·obtain⟨y,hy,b7⟩:=h.lv x c9 c8
  exact⟨y,by rw[qcy _ _ _ _ (by omega),hy,qaC,qdi b7],by rw[qd2 t (by omega:C.lo+i≠x) _ hops];exact b7⟩
 ·by_cases ex:x=i
  ·subst ex
   exact⟨g',qd6 _ _ _ hlt,by simp only[qc8];exact d6⟩
  ·obtain⟨y,hy,b6⟩:=h.wk x hx
   refine⟨y,by rw[qcy _ _ _ _ (by omega),hy,qaC,b6.woken],?_⟩;rw[qd0 D _ ex,qd0 ls _ ex,qd0 Ss _ ex,qd0 rk _ ex];exact b6.rely (h.rc H e hx (by omega) a8 a7)
 ·by_cases ex:x=i
  ·subst ex;rw[Deaf_own,h.wd x hx,qc8];exact b0
  ·rw[qd2 t (by omega) _ hops,h.wd x hx,qd0 D _ ex]
 ·by_cases ex:x=i
  ·subst ex;rw[qc8] at hst;exact hrel hst
  ·rw[qd0 D _ ex] at hst
   obtain⟨r,hr⟩:=h.rel x hx hst;exact⟨r,hr.appOther hops (by omega)⟩
 ·rw[hsz]
  exact(((h.tr.grow e.size).fresh' (cl':=Jj cl (C.lo+i) w w') (m:=w.heap.size) h.tr.inb λb hb=>vz hb)).step hlt (ZE λe he=>(b9 e he).1)
 ·by_cases ex:x=i
  ·subst ex
   rw[qc8] at hb;rcases hb with hb | hb
   ·obtain⟨h1,h2⟩:=h.clw x hi b hb
    exact⟨by rw[vz h2];exact h1,q7u h2 e.size⟩
   ·exact⟨by unfold Jj;rw[if_pos hb],hb.2⟩
  ·rw[qd0 Ss _ ex] at hb
   obtain⟨h1,h2⟩:=h.clw x hx b hb;exact⟨by rw[vz h2];exact h1,q7u h2 e.size⟩
 ·unfold Jj
  rw[if_neg (by omega)];exact h.cl0 b (q6s e.size hb)
 ·rw[vz (q7u hb h.ph.size)]
  exact h.cla b hb
 ·unfold Jj
  split
  ·simp
  ·exact h.cln b hb
 ·exact λad=>(h.nor ad).app λop hop hm=>by
   rw[qdh] at hop;obtain⟨x,hx,rfl⟩:=qdm.1 hop;exact(b9 x hx).2 _ (loc_of_ofEvent hm)
 ·rw[qd2 t (by omega) _ hops];exact h.deaf0
 ·exact h.hd.app λop hop=>.inr (.inl (by rw[hops op hop];omega))
theorem Inv.step0(H:C.Ok)(h:Inv C gs w t j D ls Ss rk γ tag f0 d0 a st sm cl fu){a':q4y}{es:Array qaz}(sl:Option (Nat × Nat))(c3:qag C.P true a w=.go a' w' es)(e:Ef cl 0 w w')(c8:w'.heap.size=w.heap.size)
  (b6:∀e∈es,EvG cl w'.heap.size 0 e/\∀a,e.loc≠.mark (.release a)) {tag':CTag} {f':Nat}
  (b7:C.CS tag' j f' (qcc d0 es) a' w') (a9:qdD C.ty C.Wg w' st' sm') (Z:C.DataAt γ w') (a6:qdo j D tag' st' sm') :
  ∃gs',runT C.P (qcu gs w sl) 0=(.next (qcu gs' w' sl),qbn 0 a.frame.fn a.frame.place es) /\
   Inv C gs' w' (t++qbn 0 a.frame.fn a.frame.place es) j D ls Ss rk γ tag' f' (qcc d0 es) a' st' sm' cl fu:=by
 have hlo:=H.hlo;have b0:=qdn (P:=C.P) (sl:=sl) (i:=0) h.main c3;have hsz:((gs.map (woken C.P a a' w')).setIfInBounds 0 a').size=gs.size:=by simp
 have hlt:0<gs.size:=by rw[h.size];omega
 have hops:∀op∈qbn 0 a.frame.fn a.frame.place es,op.g=0:=g_of_ofEvents;refine⟨_,b0,⟨by rw[hsz];exact h.size,qd6 _ _ _ hlt,b7,λx b9 b8=>?_,λx hx=>?_,λx hx=>?_,λx hx hst=>?_,?_,λx hx b hb=>?_,λb hb=>h.cl0 b (by omega),h.cla,h.cln,?_,?_,?_,Z,h.jj,h.ph' H e,a9,a6⟩⟩
 ·obtain⟨y,hy,a8⟩:=h.lv x b9 b8
  exact⟨y,by rw[qcy _ _ _ _ (by omega),hy,qaC,qdi a8],by rw[qd2 t (by omega:0≠x) _ hops];exact a8⟩
 ·obtain⟨y,hy,a7⟩:=h.wk x hx
  exact⟨y,by rw[qcy _ _ _ _ (by omega),hy,qaC,a7.woken],a7.rely (h.rc H e hx (by omega) a9 Z)⟩
 ·rw[qd2 t (by omega) _ hops];exact h.wd x hx
 ·obtain⟨r,hr⟩:=h.rel x hx hst
  exact⟨r,hr.appOther hops (by omega)⟩
 ·rw[hsz]
  exact(h.tr.grow e.size).step hlt (ZE λe he=>(b6 e he).1)
 ·obtain⟨h1,h2⟩:=h.clw x hx b hb
  exact⟨h1,q7u h2 e.size⟩
 ·exact λad=>(h.nor ad).app λop hop hm=>by
   rw[qdh] at hop;obtain⟨x,hx,rfl⟩:=qdm.1 hop;exact(b6 x hx).2 _ (loc_of_ofEvent hm)
 ·rw[Deaf_own,h.deaf0]
 ·exact h.hd.app λop hop=>.inl (hops op hop)
theorem Inv.leave(H:C.Ok)(h:Inv C gs w t j D ls Ss rk γ tag f0 d0 a st sm cl fu)(sl:Option (Nat × Nat)){i:Nat}{g:q4y}(h1:1<=i)(h2:i<C.lo)(hg:gs[i]?=some g)(hr:g.status=.running) :
  ∃gs' ops q tag' f' a',runT C.P (qcu gs w sl) i=(.next (qcu gs' w sl),ops)/\q<fu i/\f'<=f0+1/\(tag'=tag\/(tag=.blk/\tag'=.w3)) /\
   Inv C gs' w (t++ops) j D ls Ss rk γ tag' f' d0 a' st sm cl (upd fu i q):=by
 have hlo:=H.hlo;obtain⟨g0,a9,hq⟩:=h.lv i h1 h2;rw[hg] at a9;cases a9;cases hf:fu i with
 | zero=>rw[hf] at hq;rw[hq.1] at hr;cases hr
 | succ q =>
  rw[hf] at hq;rcases hq with⟨hx,_⟩ | ⟨_,g1,es,hmute,hstep,hq⟩
  ·rw[hr] at hx;cases hx
  ·obtain⟨tag',f',b0,b8,Z,c3⟩:=h.cs.wokenBy H (LR.refl w) g g1
   have a8:=qdn (P:=C.P) (sl:=sl) (i:=i) hg (by rw[show(i == 0)=false by simp;omega];exact hstep w);have hsz:((gs.map (woken C.P g g1 w)).setIfInBounds i g1).size=gs.size:=by simp
   have hlt:i<gs.size:=by rw[h.size];omega
   have hops:=Qm (g:=i) (fn:=g.frame.fn) (pos:=g.frame.place) hmute;refine⟨_,_,q,tag',f',_,a8,Nat.lt_succ_self q,b8,Z,⟨by rw[hsz];exact h.size,by rw[qcy _ _ _ _ (by omega),h.main];rfl,b0,λx b7 b6=>?_,λx hx=>?_,λx hx=>?_,λx hx hst=>?_,?_,h.clw,h.cl0,h.cla,h.cln,?_,?_,?_,h.data,h.jj,h.ph,h.wg,h.mode.retag Z⟩⟩
   ·by_cases e:x=i
    ·subst e
     exact⟨g1,qd6 _ _ _ hlt,by rw[qc8,Deaf_own];exact hq⟩
    ·obtain⟨y,hy,a7⟩:=h.lv x b7 b6
     exact⟨y,by rw[qcy _ _ _ _ (by omega),hy,qaC,qdi a7],by rw[qd0 _ _ e,qd2 t (Ne.symm e) _ λop hop=>(hops op hop).1];exact a7⟩
   ·obtain⟨y,hy,a6⟩:=h.wk x hx
    exact⟨y,by rw[qcy _ _ _ _ (by omega),hy,qaC,a6.woken],a6⟩
   ·rw[qd2 t (by omega) _ λop hop=>(hops op hop).1];exact h.wd x hx
   ·obtain⟨r,hr⟩:=h.rel x hx hst
    exact⟨r,hr.appOther (λop hop=>(hops op hop).1) (by omega)⟩
   ·rw[hsz]
    exact h.tr.step hlt λop hop=>⟨(hops op hop).1,λx hx=>by rw[(hops op hop).2] at hx;cases hx⟩
   ·exact λad=>(h.nor ad).app λop hop hm=>by
     rw[qdh] at hop;obtain⟨x,hx,rfl⟩:=qdm.1 hop;have h1:=hmute x hx;have h2:=loc_of_ofEvent hm;obtain⟨b9,wr,sy⟩:=x;simp only at h2;subst h2;cases h1
   ·rw[qd2 t (by omega) _ λop hop=>(hops op hop).1];exact h.deaf0
   ·exact h.hd.app λop hop=>.inr (.inr (hops op hop).2)
end
end Go.Co
end
section
namespace Go.Co
open Go.Conc Go.ConcN
open Go.ConcR (KK wgBlock WgAt stA smA rd wr DC0 Bk g_of_ofEvents loc_of_ofEvent ofEvent_mk ofEvent_cell)
def UpdR(n:Nat)(f' f:Nat->Rk):Prop:=∃i,i<n/\Rk.sub (f' i) (f i)/\∀k,k≠i->f' k=f k
theorem q1l:∀(n:Nat) (f:Nat->Rk),Acc (UpdR n) f
 | 0,f=>.intro _ λ_ ⟨_,h,_⟩=>absurd h (Nat.not_lt_zero _)
 | n+1,f=>by
  have key:∀x:Rk,Acc Rk.sub x->∀f:Nat->Rk,f n=x->Acc (UpdR (n+1)) f:=by
   intro x hx;induction hx with
   | intro x _ ihx =>
    intro f hf;have Z:=q1l n f;induction Z with
    | intro f _ ihf =>
     refine .intro _ λf' ⟨i,hi,hs,hk⟩=>?_;by_cases e:i=n
     ·subst e
      exact ihx (f' i) (by rw[<- hf];exact hs) f' rfl
     ·exact ihf f' ⟨i,by omega,hs,hk⟩ (by rw[hk n (Ne.symm e)];exact hf)
  exact key (f n) (Rk.acc _) f rfl
abbrev Me:=Nat × (Nat->Rk) × Nat
def LtM(n:Nat):Me->Me->Prop:=Prod.Lex (·<·) (Prod.Lex (UpdR n) (·<·))
theorem ltM_wf(n:Nat):WellFounded (LtM n):=(Prod.lex ⟨_,Nat.lt_wfRel.wf⟩ (Prod.lex ⟨UpdR n,⟨q1l n⟩⟩ ⟨_,Nat.lt_wfRel.wf⟩)).wf
theorem KO{n x x':Nat}{y y':(Nat->Rk) × Nat}(h:x'<x):LtM n (x',y') (x,y):=Prod.Lex.left _ _ h
theorem ltM_2{n x x' z z':Nat}{y y':Nat->Rk}(h0:x'=x)(h:UpdR n y' y):LtM n (x',y',z') (x,y,z):=by
 subst h0;exact Prod.Lex.right _ (Prod.Lex.left _ _ h)
theorem q5j{n x x' z z':Nat}{y:Nat->Rk}(h0:x'=x)(h:z'<z):LtM n (x',y,z') (x,y,z):=by
 subst h0;exact Prod.Lex.right _ (Prod.Lex.right _ h)
section
variable{Γ Λ:Type}(C:Cfg Γ Λ)
def Cfg.nuD(x:WD × Λ):Nat:=if x.1.stage=7 then C.nu x.2 else 0
def Cfg.Nsum(j:Nat)(D:Nat->WD)(ls:Nat->Λ):Nat:=qdt j λi=>C.nuD (D i,ls i)
def Cfg.big(j:Nat)(D:Nat->WD)(ls:Nat->Λ)(γ:Γ)(tag:CTag):Nat:=(C.nu C.l0+8)*phi C.n (Vc j D) tag+(Ssum j D+(C.m γ+C.Nsum j D ls))
def Cfg.low(j:Nat)(D:Nat->WD)(fu:Nat->Nat)(f0:Nat):Nat:=f0+2*(Fsum j D+qdt C.lo fu)
end
section
variable{Γ Λ:Type}{C:Cfg Γ Λ}{gs:Array q4y}{w w':q2v}{t:Trace}{j:Nat}{D:Nat->WD}{ls:Nat->Λ}{Ss:Nat->Bs}{rk:Nat->Rk}{γ γ':Γ}{tag tag':CTag}{f0 d0:Nat}{a:q4y}{st sm st' sm':Int}{cl:Nat->Cl}{fu:Nat->Nat}
theorem q8E{i:Nat}(x:WD)(l:Λ)(hi:i<j):C.Nsum j (upd D i x) (upd ls i l)+C.nuD (D i,ls i)=C.Nsum j D ls+C.nuD (x,l):=by
 have e:(λa=>C.nuD (upd D i x a,upd ls i l a))=λa=>C.nuD (upd (λa=>(D a,ls a)) i (x,l) a):=by
  funext a
  by_cases h:a=i
  ·subst h;simp only[qc8]
  ·simp only[qd0 _ _ h]
 have:=sumTo_upd (λa=>(D a,ls a)) (x,l) C.nuD hi;unfold Cfg.Nsum;rw[e];exact this
theorem QS{α:Type}(f:Nat->α)(i:Nat):upd f i (f i)=f:=by
 funext a
 by_cases h:a=i
 ·subst h;rw[qc8]
 ·rw[qd0 _ _ h]
theorem Inv.at(H:C.Ok)(h:Inv C gs w t j D ls Ss rk γ tag f0 d0 a st sm cl fu)(d:Nat):Inv C gs (w.at d) t j D ls Ss rk γ tag f0 d0 a st sm cl fu :=
 ⟨h.size,h.main,h.cs.rely (LR.to ⟨_,_,h.wg⟩),h.lv,λi hi=>let ⟨g,hg,hs⟩:=h.wk i hi;⟨g,hg,hs.rely ⟨λ_ _=>rfl,λ_ _=>rfl,q4u _,rfl,rfl,id,λ⟨γ,x⟩=>⟨γ,H.dat γ w _ (λ_ _=>rfl) x⟩⟩⟩,h.wd,h.rel,h.tr,h.clw,h.cl0,h.cla,h.cln,h.nor,h.deaf0,h.hd,
  H.dat γ w _ (λ_ _=>rfl) h.data,h.jj,⟨h.ph.fz,h.ph.size,h.ph.os,h.ph.output⟩,h.wg,h.mode⟩
theorem Inv.awake(H:C.Ok)(h:Inv C gs w t j D ls Ss rk γ tag f0 d0 a st sm cl fu):∀g∈gs,Go.Conc.awake g:=by
 intro g hg;obtain⟨i,hi⟩:=Array.mem_iff_getElem?.1 hg;have hlt:=(q3h.1 hi).1;rw[h.size] at hlt;by_cases e0:i=0
 ·subst e0
  rw[h.main] at hi;cases hi;intro tm;rcases h.cs.status H with⟨hs,_⟩ | ⟨hs,_⟩<;>rw[hs]<;>simp
 ·rcases qb5 i C.lo with hl | hl
  ·obtain⟨x,hx,hq⟩:=h.lv i (by omega) hl
   rw[hi] at hx;cases hx;exact ZU hq
  ·obtain⟨x,hx,hs⟩:=h.wk (i - C.lo) (by omega)
   rw[show C.lo+(i - C.lo)=i by omega,hi] at hx;cases hx;intro tm;rcases hs.status with h' | h'<;>rw[h']<;>simp
theorem Inv.someone(H:C.Ok)(h:Inv C gs w t j D ls Ss rk γ tag f0 d0 a st sm cl fu):∃(i:Nat) (g:q4y),gs[i]?=some g/\g.status=.running:=by
 rcases h.cs.status H with⟨hs,_⟩ | ⟨_,rfl⟩
 ·exact⟨0,a,h.main,hs⟩
 ·have hm:=h.mode
  cases hm with
  | opn h1 _ _=>exact h1.elim
  | reg _ _ h3 =>
   obtain⟨i,hi,h5⟩:=exists_counted h3;obtain⟨g,hg,hs⟩:=h.wk i hi;exact⟨C.lo+i,g,hg,hs.running_of (by omega)⟩
  | last L _ h2 h3 _ =>
   obtain⟨g,hg,hs⟩:=h.wk L h2;exact⟨C.lo+L,g,hg,hs.running_of (by omega)⟩
  | fin h1 _=>exact h1.elim
theorem evG_bk(H:C.Ok)(h:Inv C gs w t j D ls Ss rk γ tag f0 d0 a st sm cl fu){x:Nat}{e:qaz}(hb:Bk C.Wg e):EvG cl w.heap.size x e/\∀a,e.loc≠.mark (.release a):=by
 obtain⟨h1,h2⟩:=h.wgc H;rcases hb with hb | hb | ⟨ad,wr,rfl,ha⟩
 ·refine⟨λy hy=>?_,λa=>by rw[hb];simp⟩
  obtain⟨Z,wr,sy⟩:=e;simp only at hb;subst hb;simp[qaE,qbo] at hy
 ·refine⟨λy hy=>?_,λa=>by rw[hb];simp⟩
  obtain⟨Z,wr,sy⟩:=e;simp only at hb;subst hb;simp[qaE,qbo] at hy
 ·refine⟨λy hy=>?_,λa=>by simp⟩
  simp only[ofEvent_cell,qbo,q9B] at hy;subst hy;intro b hb;simp only[blk,q9B] at hb;subst hb;rw[ha];exact⟨h2,.inr (.inr ⟨h1,by simp,by simp⟩)⟩
theorem vx(H:C.Ok)(h:Inv C gs w t j D ls Ss rk γ tag f0 d0 a st sm cl fu){e:qaz}(hb:e=qbv (.read (smA C.Wg))\/e=qbv (.write (smA C.Wg))):EvG cl w.heap.size 0 e/\jm e:=by
 obtain⟨h1,h2⟩:=h.wgc H;rcases hb with rfl | rfl
 ·refine⟨λy hy=>?_,by simp[jm,qbv]⟩
  simp only[qbv,qaE,qbo,q9B] at hy;subst hy;intro b hb;simp only[blk,smA,q9B] at hb;subst hb;exact⟨h2,.inr (.inr ⟨h1,by simp,λ_=>rfl⟩)⟩
 ·refine⟨λy hy=>?_,by simp[jm,qbv]⟩
  simp only[qbv,qaE,qbo,q9B] at hy;subst hy;intro b hb;simp only[blk,smA,q9B] at hb;subst hb;exact⟨h2,.inr (.inr ⟨h1,by simp,λ_=>rfl⟩)⟩
theorem Inv.ef(H:C.Ok)(h:Inv C gs w t j D ls Ss rk γ tag f0 d0 a st sm cl fu)(x:Nat)(hA:Aside C.Wg w w'):Ef cl x w w'/\w'.heap.size=w.heap.size/\C.DataAt γ w':=by
 obtain⟨h1,h2⟩:=h.wgc H;refine⟨⟨λb _ _ hb=>hA.block b λe=>hb (e ▸ h1),Nat.le_of_eq hA.size.symm,hA.os,hA.output⟩,hA.size,H.dat γ w w' (λb hb=>hA.block b λe=>?_) h.data⟩;exact H.wgc.2.2 (e ▸ hb)
end
end Go.Co
end
section
namespace Go.Co
open Go.Conc Go.ConcN
open Go.ConcR (KK wgBlock WgAt stA smA rd wr DC0 Bk g_of_ofEvents loc_of_ofEvent ofEvent_mk ofEvent_cell)
section
variable{Γ Λ:Type}{C:Cfg Γ Λ}{gs:Array q4y}{w w':q2v}{t:Trace}{j:Nat}{D:Nat->WD}{ls:Nat->Λ}{Ss:Nat->Bs}{rk:Nat->Rk}{γ γ':Γ}{tag tag':CTag}{f0 d0:Nat}{a:q4y}{st sm st' sm':Int}{cl:Nat->Cl}{fu:Nat->Nat}
theorem q4p(H:C.Ok)(h:Inv C gs w t j D ls Ss rk γ tag f0 d0 a st sm cl fu){i:Nat}(hi:i<j)(hsz:w.heap.size<=w'.heap.size){e:qaz}(he:EvC C.Fz (grow (Ss i) w w') w'.heap.size e):EvG (Jj cl (C.lo+i) w w') w'.heap.size (C.lo+i) e/\∀a,e.loc≠.mark (.release a):=by
 obtain⟨h1,_,h3⟩:=he;refine⟨λx hx b hb=>?_,h1.2.2⟩;obtain⟨k1,k2,k3⟩:=h3 x hx b hb;refine⟨k1,?_⟩;rcases k3 with(k3 | k3) | ⟨k3,k4⟩
 ·obtain⟨m1,m2⟩:=h.clw i hi b k3
  exact .inl ⟨by rw[vz m2];exact m1,k2⟩
 ·exact .inl ⟨by unfold Jj;rw[if_pos k3],k2⟩
 ·obtain⟨m1,m2⟩:=h.fzc H k3
  exact .inr (.inl ⟨C.lo,by rw[vz m2];exact m1,.inr (by omega),k4,k2⟩)
theorem Inv.worker(H:C.Ok)(h:Inv C gs w t j D ls Ss rk γ tag f0 d0 a st sm cl fu){i:Nat}(hi:i<j){g:q4y}(hg:gs[C.lo+i]?=some g)(d9:g.status=.running)(sl:Option (Nat × Nat))
  (IH:∀gs' w' t' D' ls' Ss' rk' γ' tag' f' a' st' sm' cl',Inv C gs' w' t' j D' ls' Ss' rk' γ' tag' f' d0 a' st' sm' cl' fu->LtM C.n (C.big j D' ls' γ' tag',rk',C.low j D' fu f') (C.big j D ls γ tag,rk,C.low j D fu f0)->Ends C.P C.Post (qcu gs' w' sl) t') :
  ∃gs' w' ops,runT C.P (qcu gs w sl) (C.lo+i)=(.next (qcu gs' w' sl),ops)/\Ends C.P C.Post (qcu gs' w' sl) (t++ops):=by
 obtain⟨g₁,hg₁,hs⟩:=h.wk i hi;obtain rfl:g=g₁:=by rw[hg] at hg₁;exact Option.some.inj hg₁
 have hlo:=H.hlo;have hn:=H.hn;have hb:=h.cs.le;have n9:=Vc_le j D;have a9:=h.mode;have a8:=h.wg;generalize hst:(D i).stage=s at hs;generalize n7:(D i).fuel=m at hs;generalize e8:(D i).deaf=dd at hs;have m6:Deaf t (C.lo+i)=dd:=by rw[h.wd i hi,e8]
 obtain⟨l6,l5⟩:=h.wgc H;have g7:∀{s' m' a7:Nat} {l':Λ} {r':Rk} {tag':CTag} {f':Nat} {γ':Γ},(tag'=tag\/(tag=.blk/\tag'=.w3))->f'<=f0+1 ->
   ((s'<s/\cnt ⟨s',m',a7⟩<=cnt (D i)/\C.m γ'=C.m γ/\C.nuD (⟨s',m',a7⟩,l')<=C.nuD (D i,ls i))\/(s'=s/\m'=m/\C.m γ'+C.nuD (⟨s',m',a7⟩,l')<C.m γ+C.nuD (D i,ls i)) \/
    (s'=s/\m'=m/\l'=ls i/\γ'=γ/\Rk.sub r' (rk i))\/(s'=s/\m'+1=m/\l'=ls i/\γ'=γ/\r'=rk i)) ->
   LtM C.n (C.big j (upd D i ⟨s',m',a7⟩) (upd ls i l') γ' tag',upd rk i r',C.low j (upd D i ⟨s',m',a7⟩) fu f') (C.big j D ls γ tag,rk,C.low j D fu f0):=by
  intro s' m' a7 l' r' tag' f' γ' b6 hf hc;have e1:=sumTo_upd D (⟨s',m',a7⟩:WD) cnt hi;have e2:=sumTo_upd D (⟨s',m',a7⟩:WD) WD.stage hi;have e3:=sumTo_upd D (⟨s',m',a7⟩:WD) WD.fuel hi;have e4:=q8E (C:=C) (D:=D) (ls:=ls) (⟨s',m',a7⟩:WD) l' hi;have ep:phi C.n (Vc j (upd D i ⟨s',m',a7⟩)) tag'=phi C.n (Vc j (upd D i ⟨s',m',a7⟩)) tag:=phi_retag _ _ b6;have m4:s'=s->l'=ls i->C.nuD (⟨s',m',a7⟩,l')=C.nuD (D i,ls i):=λx y=>by unfold Cfg.nuD;rw[hst,x,y]
  have k6:s'=s->cnt (⟨s',m',a7⟩:WD)=cnt (D i):=λx=>by simp only[cnt,hst,x]
  unfold Cfg.big Cfg.low;rw[ep];simp only[Vc,Ssum,Fsum,hst,n7] at *
  rcases hc with⟨c1,c2,c3,c4⟩ | ⟨c1,c2,c3⟩ | ⟨c1,c2,c3,c4,c5⟩ | ⟨c1,c2,c3,c4,c5⟩
  ·refine KO ?_
   have hp:=phi_mono C.n (v':=qdt j λa=>cnt (upd D i ⟨s',m',a7⟩ a)) (v:=qdt j λa=>cnt (D a)) (by omega) tag;have:=Nat.mul_le_mul_left (C.nu C.l0+8) hp;omega
  ·refine KO ?_
   have:=k6 c1;rw[show(qdt j λa=>cnt (upd D i ⟨s',m',a7⟩ a))=qdt j λa=>cnt (D a) by omega];omega
  ·have h1:=k6 c1
   have h2:=m4 c1 c3;refine ltM_2 ?_ ⟨i,by omega,by rw[qc8];exact c5,λk hk=>qd0 _ _ hk⟩;rw[show(qdt j λa=>cnt (upd D i ⟨s',m',a7⟩ a))=qdt j λa=>cnt (D a) by omega,c4];omega
  ·have h1:=k6 c1
   have h2:=m4 c1 c3;rw[c5,QS];refine q5j ?_ (by omega);rw[show(qdt j λa=>cnt (upd D i ⟨s',m',a7⟩ a))=qdt j λa=>cnt (D a) by omega,c4];omega
 have g6:∀{g':q4y} {w':q2v} {es:Array qaz} {s' m' a7:Nat} {st' sm':Int},qag C.P false g w=.go g' w' es->Aside C.Wg w w'->qdD C.ty C.Wg w' st' sm'->(∀e∈es,Bk C.Wg e) ->
   (∀jx e,es[jx]?=some e->(qaE e).touch?=none\/0<qcc dd (es.extract 0 jx))->C.WS s' m' a7 (ls i) (Ss i) (rk i) g' w'->qcc dd es=a7->s<=6 ->
   (∀tag',(tag'=tag\/(tag=.blk/\tag'=.w3))->(mayWake C.P g=true->g'.status=.running->tag'≠.blk)->qdo j (upd D i ⟨s',m',a7⟩) tag' st' sm')->((s'<s/\cnt ⟨s',m',a7⟩<=cnt (D i))\/(s'=s/\m'+1=m)) ->
   ∃gs' w' ops,runT C.P (qcu gs w sl) (C.lo+i)=(.next (qcu gs' w' sl),ops)/\Ends C.P C.Post (qcu gs' w' sl) (t++ops):=by
  intro g' w' es s' m' a7 st' sm' Z k7 e6 e5 hd e7 k0 h6 c8 hlt;obtain⟨d8,hsz,d6⟩:=h.ef H (C.lo+i) k7;have h9:grow (Ss i) w w'=Ss i:=by
   funext b
   simp only[grow,eq_iff_iff];exact⟨λh=>h.elim id λ⟨a,b⟩=>by omega,.inl⟩
  obtain⟨gs',tag',f',a',b0,d7,b6,b9⟩:=h.stepW H hi sl hg Z d8 (λe he=>by rw[q03 hsz,hsz];exact evG_bk H h (e5 e he)) (by rw[h9];exact e7) (by rw[e8];exact k0)
   (λ_=>let ⟨r,hr⟩:=h.rel i hi (by omega);⟨r,hr.book m6 _ _ e5 hd⟩) e6 d6 (by rw[QS];exact h.jj) c8
  refine⟨gs',w',_,b0,IH _ _ _ _ _ _ _ _ _ _ _ _ _ _ b9 (g7 b6 d7 ?_)⟩;rcases hlt with⟨h1,h2⟩ | ⟨h1,h2⟩
  ·refine .inl ⟨h1,h2,rfl,?_⟩
   unfold Cfg.nuD;rw[if_neg (by simp only;omega),if_neg (by simp only[hst];omega)];exact q4u _
  ·exact .inr (.inr (.inr ⟨h1,h2,rfl,rfl,rfl⟩))
 have b7:∀{g':q4y} {w':q2v} {es:Array qaz} {s' m' a7:Nat} {st' sm':Int},qag C.P false g w=.go g' w' es->Aside C.Wg w w'->qdD C.ty C.Wg w' st' sm'->(∀e∈es,Bk C.Wg e) ->
   (∀jx e,es[jx]?=some e->(qaE e).touch?=none\/0<qcc dd (es.extract 0 jx))->C.WS s' m' a7 (ls i) (Ss i) (rk i) g' w'->qcc dd es=a7->s<=6 ->
   qdo j (upd D i ⟨s',m',a7⟩) tag st' sm'->((s'<s/\cnt ⟨s',m',a7⟩<=cnt (D i))\/(s'=s/\m'+1=m)) ->
   ∃gs' w' ops,runT C.P (qcu gs w sl) (C.lo+i)=(.next (qcu gs' w' sl),ops)/\Ends C.P C.Post (qcu gs' w' sl) (t++ops) :=
  λZ k7 e6 e5 hd e7 k0 h6 c8 hlt=>g6 Z k7 e6 e5 hd e7 k0 h6 (λ_ ht _=>c8.retag ht) hlt
 have jG:∀{g':q4y} {m':Nat},qag C.P false g w=.go g' w #[]->C.WS s m' dd (ls i) (Ss i) (rk i) g' w->m'+1=m->s<=6 ->
   ∃gs' w' ops,runT C.P (qcu gs w sl) (C.lo+i)=(.next (qcu gs' w' sl),ops)/\Ends C.P C.Post (qcu gs' w' sl) (t++ops):=by
  intro g' m' Z e7 hm h6;exact b7 Z (.refl C.Wg w) a8 (by simp) (by simp) e7 rfl h6 (by have:=a9.same (i:=i) m' dd;rwa [hst] at this) (.inr ⟨rfl,hm⟩)
 have e9:5<=s->cnt (D i)=1:=λh=>by simp[cnt,hst,h]
 cases hs with
 | run hcot =>
  generalize n2:rk i=r at hcot;cases r with
  | leaf =>
   obtain⟨_,hx⟩:=hcot w (RC.refl w);rcases hx with⟨a6,g',Z,m₂,hk⟩ | ⟨_,hx⟩
   ·-- it releases
    obtain⟨d8,hsz,d6⟩:=h.ef H (C.lo+i) (Aside.refl C.Wg w);obtain⟨gs',tag',f',a',b0,d7,b6,b9⟩:=h.stepW H (w':=w) (γ':=γ) (st':=st) (sm':=sm) hi sl hg Z d8 (l':=ls i) (r':=rk i)
     (λe he=>by simp at he;subst he;exact⟨λx hx=>by simp[qbv,qaE,qbo] at hx,λa=>by simp[qbv]⟩) (.k1 a6 hk) (by rw[e8];rfl) (λ_=>⟨t.size,RelBy.new m6 _ _⟩) a8 d6
     (by rw[QS];exact h.jj) (λ_ ht _=>(a9.counted hi (by omega) (.inl rfl) _ _).retag ht)
    refine⟨gs',w,_,b0,IH _ _ _ _ _ _ _ _ _ _ _ _ _ _ b9 (g7 b6 d7 (.inl ⟨by omega,by rw[e9 (by omega)];simp[cnt],rfl,?_⟩))⟩;unfold Cfg.nuD;rw[if_neg (by simp)];exact q9j _
   ·-- a synchronising operation on the data
    obtain⟨g',w',es,γ',l',Z,l8,hsz,n3,hout,m5,d6,l7,m8⟩:=hx γ h.data ⟨j,ls,by have:=h.cs.le;omega,h.jj⟩;obtain⟨r',hr'⟩:=H.hW _ _ _ _ m8;have h9:grow (Ss i) w w'=Ss i:=by
     funext b
     simp only[grow,eq_iff_iff];exact⟨λh=>h.elim id λ⟨a,b⟩=>by omega,.inl⟩
    have d8:Ef cl (C.lo+i) w w':=⟨λb _ _ hb=>l8 b λhs=>hb (h.syc H hs).1,Nat.le_of_eq hsz.symm,n3,hout⟩
    obtain⟨gs',tag',f',a',b0,d7,b6,b9⟩:=h.stepW H (γ':=γ') (st':=st) (sm':=sm) hi sl hg Z d8 (l':=l') (r':=r')
     (λe he=>by
      obtain⟨ad,wr,rfl,m7⟩:=m5 e he;obtain⟨k1,k2⟩:=h.syc H m7;refine⟨λx hx b hb=>?_,λa=>by simp⟩;simp only[ofEvent_cell,qbo,q9B] at hx;subst hx;simp only[blk,q9B] at hb;subst hb;rw[q03 hsz,hsz];exact⟨k2,.inr (.inr ⟨k1,by simp,by simp⟩)⟩) (.run (by rw[h9];exact hr')) (by
      rw[e8];refine deafBehind_idle (λe he=>?_) 0;obtain⟨ad,wr,rfl,m7⟩:=m5 e he;exact⟨by simp,by simp,by simp⟩) (λh=>by omega) (a8.of_block (l8 _ H.wgc.2.2)) d6
     (H.hJ _ _ _ _ _ _ h.jj hi l7) (λ_ ht _=>Go.ConcN.Mode.retag (by have:=a9.same (i:=i) 0 0;rwa [hst] at this) ht)
    refine⟨gs',w',_,b0,IH _ _ _ _ _ _ _ _ _ _ _ _ _ _ b9 (g7 b6 d7 (.inr (.inl ⟨rfl,rfl,?_⟩)))⟩;have:=H.hm _ _ _ _ l7;unfold Cfg.nuD;rw[if_pos (by simp),if_pos (by simp only[hst])];exact this
  | nd f =>
   obtain⟨g',w',es,Z,d5,k5⟩:=hcot.2 w (RC.refl w);have d8:Ef cl (C.lo+i) w w':=⟨λb hb hm hs=>d5.keep b hb λhS=>hm (h.clw i hi b hS).1,d5.size,d5.os,d5.output⟩
   have m3:∀b,cl b=.sync->¬ Ss i b:=λb hb hS=>by rw[(h.clw i hi b hS).1] at hb;cases hb
   obtain⟨gs',tag',f',a',b0,d7,b6,b9⟩:=h.stepW H (γ':=γ) (st':=st) (sm':=sm) hi sl hg Z d8 (l':=ls i)
    (λe he=>q4p H h hi d5.size (d5.evs e he)) (.run k5) (by rw[e8];exact deafBehind_idle (λe he=>(d5.evs e he).1) 0) (λh=>by omega) (a8.of_block (d5.keep _ l5 (m3 _ l6)))
    (H.dat γ w w' (λb hb=>d5.keep b (h.syc H hb).2 (m3 _ (h.syc H hb).1)) h.data) (by rw[QS];exact h.jj) (λ_ ht _=>Go.ConcN.Mode.retag (by have:=a9.same (i:=i) 0 0;rwa [hst] at this) ht)
   exact⟨gs',w',_,b0,IH _ _ _ _ _ _ _ _ _ _ _ _ _ _ b9 (g7 b6 d7 (.inr (.inr (.inl ⟨rfl,rfl,rfl,rfl,by rw[n2];exact⟨_,rfl⟩⟩))))⟩
 | k1 a6 hh =>
  rcases qcp hh with hstop | ⟨m',rfl,hstep⟩
  ·obtain⟨_,g',Z,m₂,hk⟩:=hstop w (LR.refl w)
   exact b7 Z (.refl C.Wg w) a8 (by intro e he;simp at he;subst he;exact .inl rfl) (by intro jx e he;exact .inl (by have:=qaF he;simp at this;subst this;rfl)) (.d1 a6 hk) rfl (by omega)
    (a9.counted hi (by omega) (.inr rfl) _ _) (.inl ⟨by omega,by rw[e9 (by omega)];simp[cnt]⟩)
  ·obtain⟨g',w',es,Z,⟨rfl,rfl⟩,c9⟩:=hstep w (LR.refl w)
   exact jG Z (.k1 a6 c9) rfl (by omega)
 | d1 a6 hh =>
  rcases qcp hh with hstop | ⟨m',rfl,hstep⟩
  ·obtain⟨_,g8⟩:=hstop w (LR.refl w)
   have n8:cnt (D i)=1:=e9 (by omega);have p3:1<=Vc j D:=by have:=le_sumTo (f:=λx=>cnt (D x)) hi;simp only[Vc];omega
   have k9:∀e∈#[rd (stA C.Wg),wr (stA C.Wg)],Bk C.Wg e:=by intro e he;simp at he;rcases he with rfl | rfl<;>exact bk_cell _ _ rfl
   have k8:∀jx e,(#[rd (stA C.Wg),wr (stA C.Wg)]:Array qaz)[jx]?=some e->(qaE e).touch?=none\/0<qcc 1 ((#[rd (stA C.Wg),wr (stA C.Wg)]:Array qaz).extract 0 jx):=by
    intro jx e he
    match jx,he with
    | 0,_=>exact .inr (by simp[qcc])
    | 1,_=>exact .inr (by simp[qcc,rd])
    | jx+2,he=>simp at he
   have l9:∀q,cnt (⟨1,q,1⟩:WD)=0:=λ_=>rfl;have l4:∀q,OpenSt j D->OpenSt j (upd D i ⟨1,q,1⟩):=λq h a ha=>by
    by_cases e:a=i
    ·subst e;rw[qc8];simp
    ·rw[qd0 D _ e];exact h a ha
   cases a9 with
   | opn h1 h2 h3 =>
    obtain⟨v,hv⟩:∃v,Vc j D+pend tag=v+1:=⟨Vc j D+pend tag - 1,by omega⟩
    rw[hv] at a8;have g9:qdD C.ty C.Wg w (((v:Nat)+1)*KK+((0:Nat):Int)) 0:=by simpa using a8
    obtain⟨g',Z,_,hq⟩:=g8 v 0 (by omega) (by omega) g9;obtain⟨q,hq⟩:=hq (by omega);have h8:Vc j (upd D i ⟨1,q,1⟩)+pend tag=v:=by have:=Vc_upd D (⟨1,q,1⟩:WD) hi;have:=l9 q;omega
    refine b7 Z (qdd w (stA C.Wg) _) (a8.setSt _) k9 k8 (.quit a6 hq) rfl (by omega) ?_ (.inl ⟨by omega,by simp[cnt]⟩);have e:((v:Nat):Int)*KK+((0:Nat):Int)=((Vc j (upd D i ⟨1,q,1⟩)+pend tag:Nat):Int)*KK:=by rw[h8];simp
    rw[e];exact .opn h1 (l4 q h2) (λvs ev=>by have:=h3 vs ev;omega)
   | reg h1 h2 h3 =>
    obtain⟨v,hv⟩:∃v,Vc j D=v+1:=⟨Vc j D - 1,by omega⟩
    rw[hv] at a8;have hp:pend tag=0:=by cases tag<;>first | rfl | exact h1.elim
    have g9:qdD C.ty C.Wg w (((v:Nat)+1)*KK+((1:Nat):Int)) 0:=by simpa using a8
    obtain⟨g',Z,hl,hq⟩:=g8 v 1 (by omega) (by omega) g9;by_cases m9:v=0
    ·subst m9
     obtain⟨m₂,hk⟩:=hl ⟨rfl,rfl⟩;refine b7 Z (qdd w (stA C.Wg) _) (a8.setSt _) k9 k8 (.d2 a6 hk) rfl (by omega) ?_ (.inl ⟨by omega,by simp[cnt]⟩);have b8:∀a,a<j->a≠i->(D a).stage=1:=λa ha e=>by
      have c0:=others_uncounted hi hv n8 a ha e;have:=h2 a ha;simp only[cnt] at c0;split at c0<;>omega
     have:=Go.ConcN.Mode.last (j:=j) (D:=upd D i ⟨4,m₂,1⟩) (tag:=tag) i h1 hi (by rw[qc8];simp) (λa ha e=>by rw[qd0 D _ e];exact b8 a ha e);rw[qc8] at this;simpa using this
    ·obtain⟨q,hq⟩:=hq (by omega)
     have h8:Vc j (upd D i ⟨1,q,1⟩)=v:=by have:=Vc_upd D (⟨1,q,1⟩:WD) hi;have:=l9 q;omega
     refine b7 Z (qdd w (stA C.Wg) _) (a8.setSt _) k9 k8 (.quit a6 hq) rfl (by omega) ?_ (.inl ⟨by omega,by simp[cnt]⟩);have e:((v:Nat):Int)*KK+((1:Nat):Int)=((Vc j (upd D i ⟨1,q,1⟩):Nat):Int)*KK+1:=by rw[h8];simp
     rw[e];exact .reg h1 (l4 q h2) (by omega)
   | last L _ h2 h3 h4 =>
    by_cases e:i=L
    ·subst e;omega
    ·have:=h4 i hi e;omega
   | sema h2=>have:=h2 i hi;omega
   | fin _ h2=>have:=h2 i hi;omega
  ·obtain⟨g',w',es,Z,⟨rfl,rfl⟩,c9⟩:=hstep w (LR.refl w)
   exact jG Z (.d1 a6 c9) rfl (by omega)
 | d2 a6 hh =>
  rcases qcp hh with hstop | ⟨m',rfl,hstep⟩
  ·obtain⟨_,hx⟩:=hstop w (LR.refl w)
   obtain⟨g5,b8,rfl,rfl⟩:=a9.isLast hi (by omega);simp only[hst] at a8;obtain⟨g',Z,m₂,hk⟩:=hx (by simpa using a8);refine b7 Z (.refl C.Wg w) a8 (by intro e he;simp at he;subst he;exact bk_cell _ _ rfl) (by intro jx e he;match jx,he with | 0,_=>exact .inr (by simp[qcc]) | jx+1,he=>simp at he) (.d3 a6 hk) rfl (by omega) ?_ (.inl ⟨by omega,by simp[cnt]⟩);have:=Go.ConcN.Mode.last (j:=j) (D:=upd D i ⟨3,m₂,1⟩) (tag:=tag) i g5 hi (by rw[qc8];simp) (λa ha e=>by rw[qd0 D _ e];exact b8 a ha e);rw[qc8] at this;simpa using this
  ·obtain⟨g',w',es,Z,⟨rfl,rfl⟩,c9⟩:=hstep w (LR.refl w)
   exact jG Z (.d2 a6 c9) rfl (by omega)
 | d3 a6 hh =>
  rcases qcp hh with hstop | ⟨m',rfl,hstep⟩
  ·obtain⟨_,hx⟩:=hstop w (LR.refl w)
   obtain⟨g5,b8,rfl,rfl⟩:=a9.isLast hi (by omega);simp only[hst] at a8;obtain⟨g',Z,m₂,hk⟩:=hx (by simpa using a8);refine b7 Z (qdd w (stA C.Wg) _) (a8.setSt 0) (by intro e he;simp at he;subst he;exact bk_cell _ _ rfl) (by intro jx e he;match jx,he with | 0,_=>exact .inr (by simp[qcc]) | jx+1,he=>simp at he) (.d4 a6 hk) rfl (by omega) ?_ (.inl ⟨by omega,by simp[cnt]⟩);have:=Go.ConcN.Mode.last (j:=j) (D:=upd D i ⟨2,m₂,1⟩) (tag:=tag) i g5 hi (by rw[qc8];simp) (λa ha e=>by rw[qd0 D _ e];exact b8 a ha e);rw[qc8] at this;simpa using this
  ·obtain⟨g',w',es,Z,⟨rfl,rfl⟩,c9⟩:=hstep w (LR.refl w)
   exact jG Z (.d3 a6 c9) rfl (by omega)
 | d4 a6 hh =>
  rcases qcp hh with hstop | ⟨m',rfl,hstep⟩
  ·obtain⟨_,n6,hx⟩:=hstop w (LR.refl w)
   obtain⟨g5,b8,rfl,rfl⟩:=a9.isLast hi (by omega);simp only[hst] at a8;obtain⟨g',Z,q,hq⟩:=hx (by simpa using a8);have b0:g'.status=.running:=by
    cases q with
    | zero=>exact absurd hq.2 (by decide)
    | succ q=>exact hq.elim (λx=>absurd x.2 (by decide)) (λx=>x.1)
   refine g6 Z (qdd w (smA C.Wg) _) (a8.setSm 1) (es:=qda (smA C.Wg)) ?_ ?_ (.quit a6 hq) (by simp[qcc,qda]) (by omega) ?_ (.inl ⟨by omega,by simp[cnt]⟩)
   ·intro e he
    simp[qda] at he;rcases he with rfl | rfl | rfl | rfl
    ·exact .inl rfl
    ·exact bk_cell _ _ rfl
    ·exact bk_cell _ _ rfl
    ·exact .inr (.inl rfl)
   ·intro jx e he
    match jx,he with
    | 0,he=>simp[qda] at he;subst he;exact .inl rfl
    | 1,_=>exact .inr (by simp[qcc,qda])
    | 2,_=>exact .inr (by simp[qcc,qda])
    | 3,he=>simp[qda] at he;subst he;exact .inl rfl
    | jx+4,he=>simp[qda] at he
   ·intro tag' ht hw
    have n4:=hw n6 b0;have e3:tag'=.w3:=by
     rcases ht with rfl | ⟨_,rfl⟩
     ·cases tag'<;>first | rfl | exact g5.elim | exact absurd rfl n4
     ·rfl
    subst e3;simp only[if_true];exact .sema λa ha=>by
     by_cases e:a=i
     ·subst e;rw[qc8]
     ·rw[qd0 D _ e];exact b8 a ha e
  ·obtain⟨g',w',es,Z,⟨rfl,rfl⟩,c9⟩:=hstep w (LR.refl w)
   exact jG Z (.d4 a6 c9) rfl (by omega)
 | quit a6 hh =>
  cases m with
  | zero=>rw[hh.1] at d9;cases d9
  | succ q =>
   rcases hh with⟨hf,_⟩ | ⟨_,g',es,hmute,hstep,hq⟩
   ·rw[hf] at d9;cases d9
   ·have e5:∀e∈es,Bk C.Wg e:=λe he=>Go.ConcR.bk_of_mute (hmute e he)
    exact b7 (hstep w) (.refl C.Wg w) a8 e5 (λjx e he=>.inl (Y5 (hmute e (qaF he)))) (.quit a6 hq) rfl (by omega) (by have:=a9.same (i:=i) q (qcc dd es);rwa [hst] at this) (.inr ⟨rfl,rfl⟩)
end
end Go.Co
end
section
namespace Go.Co
open Go.Conc Go.ConcN
open Go.ConcR (KK wgBlock WgAt stA smA rd wr DC0 Bk g_of_ofEvents loc_of_ofEvent ofEvent_mk ofEvent_cell)
section
variable{Γ Λ:Type}{C:Cfg Γ Λ}{gs:Array q4y}{w w':q2v}{t:Trace}{j:Nat}{D:Nat->WD}{ls:Nat->Λ}{Ss:Nat->Bs}{rk:Nat->Rk}{γ γ':Γ}{tag tag':CTag}{f0 d0:Nat}{a:q4y}{st sm st' sm':Int}{cl:Nat->Cl}{fu:Nat->Nat}
theorem q04{Wg:Nat}:∀e∈#[qbv .disable],Bk Wg e:=by intro e he;simp at he;subst he;exact .inl rfl
theorem q3d{Wg:Nat}:∀e∈#[qbv .enable],Bk Wg e:=by intro e he;simp at he;subst he;exact .inr (.inl rfl)
theorem bk_r{Wg:Nat}:∀e∈#[rd (stA Wg)],Bk Wg e:=by intro e he;simp at he;subst he;exact bk_cell _ _ rfl
theorem bk_rw'{Wg:Nat}:∀e∈#[rd (stA Wg),wr (stA Wg)],Bk Wg e:=by intro e he;simp at he;rcases he with rfl | rfl<;>exact bk_cell _ _ rfl
theorem bk_sem'{Wg:Nat}:∀e∈qda (smA Wg),Bk Wg e:=by
 intro e he;simp[qda] at he;rcases he with rfl | rfl | rfl | rfl
 ·exact .inl rfl
 ·exact bk_cell _ _ rfl
 ·exact bk_cell _ _ rfl
 ·exact .inr (.inl rfl)
theorem ZN{Wg:Nat}{es:Array qaz}(h:∀e∈es,e=qbv (.read (smA Wg))\/e=qbv (.write (smA Wg)))(d:Nat):qcc d es=d :=
 deafBehind_idle (λe he=>by rcases h e he with rfl | rfl<;>simp[jm,qbv]) d
theorem Inv.spawn(H:C.Ok){r:Nat}(hr:r<C.n)(h:Inv C gs w t (C.n - (r+1)) D ls Ss rk γ (.sp r 2) f0 0 a st sm cl fu)(sl:Option (Nat × Nat)){a' child:q4y}(hsp:qag C.P true a w=.spawn a' child w #[])
  (b8:C.WA C.l0 (λ_=>False) child w) {tag':CTag} {f':Nat} (a8:C.CS tag' (C.n - r) f' 0 a' w) (ho:isOpen tag') (hp:pend tag'=0) (hv2:∀vs,tag'≠.w2 vs) :
  ∃gs' ops r',runT C.P (qcu gs w sl) 0=(.next (qcu gs' w sl),ops) /\
   Inv C gs' w (t++ops) (C.n - r) (upd D (C.n - (r+1)) ⟨7,0,0⟩) (upd ls (C.n - (r+1)) C.l0) (upd Ss (C.n - (r+1)) (λ_=>False)) (upd rk (C.n - (r+1)) r') γ tag' f' 0 a' st sm cl fu:=by
 have hlo:=H.hlo;have ej:C.n - r=C.n - (r+1)+1:=by omega
 generalize C.n - (r+1)=j at *
 rw[ej] at a8 ⊢;obtain⟨rr,hrr⟩:=H.hW _ _ _ _ b8;have Z:=runT_crowd_spawn (P:=C.P) (sl:=sl) (i:=0) h.main hsp;have e0:(qbn 0 a.frame.fn a.frame.place #[]:Array MemOp)=#[]:=by rw[qdh];simp
 rw[e0] at Z;have b6:((#[]:Array MemOp).push { g:=0,fn:=a.frame.fn,pos:=a.frame.place,act:=.go gs.size } |>.push { g:=gs.size,fn:=child.frame.fn,pos:=a.frame.place,act:=.start })=#[{ g:=0,fn:=a.frame.fn,pos:=a.frame.place,act:=.go gs.size },{ g:=gs.size,fn:=child.frame.fn,pos:=a.frame.place,act:=.start }]:=rfl;rw[b6] at Z;refine⟨_,_,rr,Z,?_⟩;generalize hx:({ g:=0,fn:=a.frame.fn,pos:=a.frame.place,act:=.go gs.size }:MemOp)=x;generalize hy:({ g:=gs.size,fn:=child.frame.fn,pos:=a.frame.place,act:=.start }:MemOp)=y;have hx':x.g=0/\x.act=.go gs.size:=by rw[<- hx];exact⟨rfl,rfl⟩
 have hy':y.g=gs.size/\y.act=.start:=by rw[<- hy];exact⟨rfl,rfl⟩
 have hsz:((gs.setIfInBounds 0 a').push child).size=gs.size+1:=by simp
 have a9:=h.size;have a6:∀g,Deaf (t++#[x,y]) g=Deaf t g:=λg=>(h.tr.fork_deaf hx' hy' g).2;have a7:∀i,1<=i->i<gs.size->((gs.setIfInBounds 0 a').push child)[i]?=gs[i]?:=λi h1 h2=>by
  rw[Array.getElem?_push_lt (by simpa using h2),<- q8B,qap (by omega)]
 have hops:∀op∈#[x,y],op.g=0\/op.g=gs.size:=λop hop=>by
  simp only[qcl,qaH,qb9,or_false] at hop;rcases hop with rfl | rfl
  ·exact .inl hx'.1
  ·exact .inr hy'.1
 have b0:∀op∈#[x,y],op.act=.go gs.size\/op.act=.start:=λop hop=>by
  simp only[qcl,qaH,qb9,or_false] at hop;rcases hop with rfl | rfl
  ·exact .inl hx'.2
  ·exact .inr hy'.2
 refine⟨by rw[hsz,a9];omega,?_,a8,λi h1 h2=>?_,λi hi=>?_,λi hi=>?_,λi hi hst=>?_,?_,λi hi b hb=>?_,h.cl0,h.cla,h.cln,?_,?_,?_,h.data,H.hJ0 _ _ _ h.jj,h.ph,h.wg,?_⟩
 ·rw[Array.getElem?_push_lt (by simp;omega),<- q8B,q9A,if_pos rfl,if_pos (by omega)]
 ·obtain⟨z,hz,hq⟩:=h.lv i h1 h2
  exact⟨z,by rw[a7 i h1 (by omega)];exact hz,by rw[a6];exact hq⟩
 ·by_cases e:i=j
  ·subst e
   refine⟨child,?_,by simp only[qc8];exact .run hrr⟩;rw[<- a9,show gs.size=(gs.setIfInBounds 0 a').size by simp];exact Array.getElem?_push_size
  ·obtain⟨z,hz,hs⟩:=h.wk i (by omega)
   refine⟨z,by rw[a7 _ (by omega) (by omega)];exact hz,?_⟩;rw[qd0 D _ e,qd0 ls _ e,qd0 Ss _ e,qd0 rk _ e];exact hs
 ·rw[a6]
  by_cases e:i=j
  ·subst e
   rw[qc8,<- a9];have:=(h.tr.fork_deaf hx' hy' 0).1;rw[a6] at this;exact this
  ·rw[qd0 D _ e]
   exact h.wd i (by omega)
 ·by_cases e:i=j
  ·subst e
   rw[qc8] at hst;simp at hst
  ·rw[qd0 D _ e] at hst
   obtain⟨r,hr⟩:=h.rel i (by omega) hst;exact⟨r,hr.appNot λop hop=>by rcases hops op hop with h | h<;>omega⟩
 ·rw[hsz]
  exact h.tr.fork (by omega) hx' hy' h.deaf0
 ·by_cases e:i=j
  ·subst e
   rw[qc8] at hb;exact hb.elim
  ·rw[qd0 Ss _ e] at hb
   exact h.clw i (by omega) b hb
 ·exact λad=>(h.nor ad).app λop hop hm=>by
   rcases b0 op hop with e | e<;>rw[e] at hm<;>cases hm
 ·rw[a6];exact h.deaf0
 ·exact h.hd.app λop hop=>by rcases hops op hop with e | e<;>omega
 ·have hm:=h.mode
  obtain⟨b7,h1,h2,_⟩:=hm.open_inv trivial;have eV:Vc (j+1) (upd D j ⟨7,0,0⟩)=Vc j D+1:=by
   simp only[Vc,qdt,qc8];rw[sumTo_upd_out D _ cnt (q4u _)];rfl
  have ho':OpenSt (j+1) (upd D j ⟨7,0,0⟩):=λi hi=>by
   by_cases e:i=j
   ·subst e;rw[qc8];simp
   ·rw[qd0 D _ e];exact b7 i (by omega)
  rw[h1,h2];have b9:((Vc j D+pend (.sp r 2):Nat):Int)*KK=((Vc (j+1) (upd D j ⟨7,0,0⟩)+pend tag':Nat):Int)*KK:=by rw[eV,hp];simp[pend]
  rw[b9];exact .opn ho ho' (λvs e=>absurd e (hv2 vs))
theorem Inv.starter(H:C.Ok)(h:Inv C gs w t j D ls Ss rk γ tag f0 d0 a st sm cl fu)(k0:a.status=.running)(sl:Option (Nat × Nat))
  (IH:∀gs' w' t' j' D' ls' Ss' rk' tag' f' d' a' st' sm',Inv C gs' w' t' j' D' ls' Ss' rk' γ tag' f' d' a' st' sm' cl fu->LtM C.n (C.big j' D' ls' γ tag',rk',C.low j' D' fu f') (C.big j D ls γ tag,rk,C.low j D fu f0)->Ends C.P C.Post (qcu gs' w' sl) t') :
  ∃gs' w' ops,runT C.P (qcu gs w sl) 0=(.next (qcu gs' w' sl),ops)/\Ends C.P C.Post (qcu gs' w' sl) (t++ops):=by
 have hn:=H.hn;have m3:=Vc_le j D;have hle:=h.cs.le;have a6:=h.mode;have a8:=h.wg;have a9:∀{a':q4y} {w':q2v} {es:Array qaz} {tag':CTag} {f':Nat} {st' sm':Int},qag C.P true a w=.go a' w' es->Aside C.Wg w w'->qdD C.ty C.Wg w' st' sm'->(∀e∈es,Bk C.Wg e)->C.CS tag' j f' (qcc d0 es) a' w' ->
   qdo j D tag' st' sm'->(phi C.n (Vc j D) tag'<phi C.n (Vc j D) tag\/(phi C.n (Vc j D) tag'=phi C.n (Vc j D) tag/\f'<f0)) ->
   ∃gs' w' ops,runT C.P (qcu gs w sl) 0=(.next (qcu gs' w' sl),ops)/\Ends C.P C.Post (qcu gs' w' sl) (t++ops):=by
  intro a' w' es tag' f' st' sm' Z l8 h8 l7 d9 e5 hlt;obtain⟨c8,hsz,b7⟩:=h.ef H 0 l8;obtain⟨gs',hr,b0⟩:=h.step0 H sl Z c8 hsz (λe he=>by rw[hsz];exact evG_bk H h (l7 e he)) d9 h8 b7 e5;refine⟨gs',w',_,hr,IH _ _ _ _ _ _ _ _ _ _ _ _ _ _ b0 ?_⟩;unfold Cfg.big Cfg.low;rcases hlt with h1 | ⟨h1,h2⟩
  ·refine KO ?_
   have:=qdu h1 (show 0<C.nu C.l0+8 by omega);omega
  ·rw[h1]
   exact q5j rfl (by omega)
 have jG:∀{a':q4y} {w':q2v} {es:Array qaz} {f':Nat},qag C.P true a w=.go a' w' es->DM C.Wg w w' es->C.CS tag j f' d0 a' w'->f'<f0 ->
   ∃gs' w' ops,runT C.P (qcu gs w sl) 0=(.next (qcu gs' w' sl),ops)/\Ends C.P C.Post (qcu gs' w' sl) (t++ops):=by
  intro a' w' es f' Z hD d9 hf;obtain⟨rfl,hes⟩:=hD;have b8:=ZN hes d0;obtain⟨c8,hsz,b7⟩:=h.ef H 0 (Aside.refl C.Wg w');obtain⟨gs',hr,b0⟩:=h.step0 H sl Z c8 hsz (λe he=>⟨(vx H h (hes e he)).1,(vx H h (hes e he)).2.2.2⟩) (by rw[b8];exact d9) a8 b7 a6;refine⟨gs',w',_,hr,IH _ _ _ _ _ _ _ _ _ _ _ _ _ _ b0 ?_⟩;unfold Cfg.big Cfg.low;exact q5j rfl (by omega)
 have hcs:=h.cs;have c9:∀{m:Nat},tag=.w1\/tag=.anch->j=C.n->d0=1->f0=m\/tag=.anch->C.GM C.AtW1 m a w ->
   ∃gs' w' ops,runT C.P (qcu gs w sl) 0=(.next (qcu gs' w' sl),ops)/\Ends C.P C.Post (qcu gs' w' sl) (t++ops):=by
  intro m d5 hj hd hf hh;have hop:isOpen tag:=by rcases d5 with rfl | rfl<;>trivial
  have g6:pend tag=0:=by rcases d5 with rfl | rfl<;>rfl
  have e7:8*Vc j D+5<=phi C.n (Vc j D) tag:=by rcases d5 with rfl | rfl<;>simp only[phi]<;>omega
  obtain⟨ho,h1,h2,_⟩:=a6.open_inv hop;rcases qcp hh with hstop | ⟨m',rfl,hstep⟩
  ·obtain⟨_,c3⟩:=hstop w (.refl w)
   obtain⟨a',Z,h0,hne⟩:=c3 (Vc j D) (by omega) (by have:=a8;rw[h1,h2,g6] at this;simpa using this);subst hj;subst hd;by_cases hv:Vc C.n D=0
   ·obtain⟨m₂,hk⟩:=h0 hv
    refine a9 Z (.refl C.Wg w) a8 bk_r (tag':=.ke) (.ke hk) ?_ (.inl (q7u (by simp only[phi];omega) e7));have e:st=0:=by rw[h1,hv,g6];simp
    rw[e,h2];exact .fin trivial (allQuit_of ho hv)
   ·obtain⟨m₂,hk⟩:=hne hv
    refine a9 Z (.refl C.Wg w) a8 bk_r (tag':=.w2 (Vc C.n D)) (.w2 hk) ?_ (.inl (q7u (by simp only[phi];omega) e7));have e:st=((Vc C.n D+pend (.w2 (Vc C.n D)):Nat):Int)*KK:=by rw[h1,g6];rfl
    rw[e,h2];exact .opn trivial ho (λvs e=>by cases e;omega)
  ·obtain⟨a',w',es,Z,hD,a7⟩:=hstep w (.refl w)
   rcases hf with hf | hf
   ·rcases d5 with rfl | rfl
    ·subst hj;subst hd
     exact jG Z hD (.w1 a7) (by omega)
    ·subst hj;subst hd
     obtain⟨rfl,hes⟩:=hD;have b8:=ZN hes 1;obtain⟨c8,hsz,b7⟩:=h.ef H 0 (Aside.refl C.Wg w');obtain⟨gs',hr,b0⟩:=h.step0 H sl Z c8 hsz (λe he=>⟨(vx H h (hes e he)).1,(vx H h (hes e he)).2.2.2⟩) (tag':=.w1) (by rw[b8];exact .w1 a7) a8 b7 (a6.reopen trivial trivial rfl (by simp));refine⟨gs',w',_,hr,IH _ _ _ _ _ _ _ _ _ _ _ _ _ _ b0 ?_⟩;unfold Cfg.big Cfg.low;refine KO ?_;have:=qdu (show phi C.n (Vc C.n D) .w1<phi C.n (Vc C.n D) .anch by simp only[phi];omega) (show 0<C.nu C.l0+8 by omega);omega
   ·subst hf
    subst hj;subst hd;obtain⟨rfl,hes⟩:=hD;have b8:=ZN hes 1;obtain⟨c8,hsz,b7⟩:=h.ef H 0 (Aside.refl C.Wg w');obtain⟨gs',hr,b0⟩:=h.step0 H sl Z c8 hsz (λe he=>⟨(vx H h (hes e he)).1,(vx H h (hes e he)).2.2.2⟩) (tag':=.w1) (by rw[b8];exact .w1 a7) a8 b7 (a6.reopen trivial trivial rfl (by simp));refine⟨gs',w',_,hr,IH _ _ _ _ _ _ _ _ _ _ _ _ _ _ b0 ?_⟩;unfold Cfg.big Cfg.low;refine KO ?_;have:=qdu (show phi C.n (Vc C.n D) .w1<phi C.n (Vc C.n D) .anch by simp only[phi];omega) (show 0<C.nu C.l0+8 by omega);omega
 cases hcs with
 | skd hr hh =>
  rcases qcp hh with hstop | ⟨m',rfl,hstep⟩
  ·obtain⟨_,a',Z,m₂,hk⟩:=hstop w (.refl w)
   exact a9 Z (.refl C.Wg w) a8 q04 (.sa1 hr hk) (a6.reopen trivial trivial rfl (by simp)) (.inl (by simp only[phi];omega))
  ·obtain⟨a',w',es,Z,hD,a7⟩:=hstep w (.refl w)
   exact jG Z hD (.skd hr a7) (by omega)
 | sa1 hr hh =>
  rename_i r
  rcases qcp hh with hstop | ⟨m',rfl,hstep⟩
  ·obtain⟨_,c3⟩:=hstop w (.refl w)
   obtain⟨ho,rfl,rfl,_⟩:=a6.open_inv trivial;obtain⟨a',Z,m₂,hk⟩:=c3 (Vc (C.n - (r+1)) D) (by omega) (by simpa[pend] using a8);refine a9 Z (qdd w (stA C.Wg) _) (a8.setSt _) bk_rw' (.ske hr hk) ?_ (.inl (by simp only[phi];omega));have e:(((Vc (C.n - (r+1)) D:Nat):Int)+1)*KK=((Vc (C.n - (r+1)) D+pend (.sp r 3):Nat):Int)*KK:=by simp[pend]
   rw[e];exact .opn trivial ho (by simp)
  ·obtain⟨a',w',es,Z,hD,a7⟩:=hstep w (.refl w)
   exact jG Z hD (.sa1 hr a7) (by omega)
 | ske hr hh =>
  rcases qcp hh with hstop | ⟨m',rfl,hstep⟩
  ·obtain⟨_,a',Z,m₂,hk⟩:=hstop w (.refl w)
   exact a9 Z (.refl C.Wg w) a8 q3d (.sgo hr hk) (a6.reopen trivial trivial rfl (by simp)) (.inl (by simp only[phi];omega))
  ·obtain⟨a',w',es,Z,hD,a7⟩:=hstep w (.refl w)
   exact jG Z hD (.ske hr a7) (by omega)
 | sgo hr hh =>
  rename_i r
  rcases qcp hh with hstop | ⟨m',rfl,hstep⟩
  ·obtain⟨_,a',child,hsp,k8,d8⟩:=hstop w (.refl w)
   have e6:=k8 h.ph ⟨_,h.data⟩;have eV:Vc (C.n - r) (upd D (C.n - (r+1)) ⟨7,0,0⟩)=Vc (C.n - (r+1)) D+1:=by
    rw[show C.n - r=C.n - (r+1)+1 by omega];simp only[Vc,qdt,qc8];rw[sumTo_upd_out D _ cnt (q4u _)];rfl
   have eS:Ssum (C.n - r) (upd D (C.n - (r+1)) ⟨7,0,0⟩)=Ssum (C.n - (r+1)) D+7:=by
    rw[show C.n - r=C.n - (r+1)+1 by omega];simp only[Ssum,qdt,qc8];rw[sumTo_upd_out D _ WD.stage (q4u _)]
   have eN:C.Nsum (C.n - r) (upd D (C.n - (r+1)) ⟨7,0,0⟩) (upd ls (C.n - (r+1)) C.l0)=C.Nsum (C.n - (r+1)) D ls+C.nu C.l0:=by
    rw[show C.n - r=C.n - (r+1)+1 by omega];simp only[Cfg.Nsum,qdt,qc8];rw[sumTo_congr (g:=λi=>C.nuD (D i,ls i)) λi hi=>by rw[qd0 _ _ (by omega),qd0 _ _ (by omega)]];simp[Cfg.nuD]
   have g9:∀{tag':CTag} {r':Rk} {f':Nat},(phi C.n (Vc (C.n - (r+1)) D+1) tag'+1<=phi C.n (Vc (C.n - (r+1)) D) (.sp r 2)) ->
     LtM C.n (C.big (C.n - r) (upd D (C.n - (r+1)) ⟨7,0,0⟩) (upd ls (C.n - (r+1)) C.l0) γ tag',upd rk (C.n - (r+1)) r',C.low (C.n - r) (upd D (C.n - (r+1)) ⟨7,0,0⟩) fu f') (C.big (C.n - (r+1)) D ls γ (.sp r 2),rk,C.low (C.n - (r+1)) D fu f0):=by
    intro tag' r' f' l4;refine KO ?_;unfold Cfg.big;rw[eV,eS,eN];have:=Nat.mul_le_mul_left (C.nu C.l0+8) l4;rw[Nat.mul_add,Nat.mul_one] at this;omega
   cases r with
   | zero =>
    obtain⟨m₃,hk⟩:=d8;obtain⟨gs',ops,r',b6,b0⟩:=h.spawn H hr sl hsp e6 (tag':=.kd) (f':=m₃) (by rw[Nat.sub_zero];exact .kd hk) trivial rfl (by simp);exact⟨gs',w,ops,b6,IH _ _ _ _ _ _ _ _ _ _ _ _ _ _ b0 (g9 (by simp only[phi];omega))⟩
   | succ r2 =>
    obtain⟨m₃,hk⟩:=d8;obtain⟨gs',ops,r',b6,b0⟩:=h.spawn H hr sl hsp e6 (tag':=.sp r2 5) (f':=m₃) (.skd (by omega) hk) trivial rfl (by simp);exact⟨gs',w,ops,b6,IH _ _ _ _ _ _ _ _ _ _ _ _ _ _ b0 (g9 (by simp only[phi];omega))⟩
  ·obtain⟨a',w',es,Z,hD,a7⟩:=hstep w (.refl w)
   exact jG Z hD (.sgo hr a7) (by omega)
 | kd hh =>
  rcases qcp hh with hstop | ⟨m',rfl,hstep⟩
  ·obtain⟨_,a',Z,m₂,hk⟩:=hstop w (.refl w)
   exact a9 Z (.refl C.Wg w) a8 q04 (.anch hk) (a6.reopen trivial trivial rfl (by simp)) (.inl (by simp only[phi];omega))
  ·obtain⟨a',w',es,Z,hD,a7⟩:=hstep w (.refl w)
   exact jG Z hD (.kd a7) (by omega)
 | anch hh =>
  rcases qcp hh with hstop | ⟨m',rfl,hstep⟩
  ·obtain⟨m₂,hk⟩:=H.hAn a w (hstop w (.refl w))
   exact c9 (.inr rfl) rfl rfl (.inr rfl) hk
  ·obtain⟨a',w',es,Z,hD,a7⟩:=hstep w (.refl w)
   exact jG Z hD (.anch a7) (by omega)
 | w1 hh=>exact c9 (.inl rfl) rfl rfl (.inl rfl) hh
 | w2 hh =>
  rename_i vs
  rcases qcp hh with hstop | ⟨m',rfl,hstep⟩
  ·obtain⟨_,c3⟩:=hstop w (.refl w)
   obtain⟨ho,rfl,rfl,k9⟩:=a6.open_inv trivial;obtain⟨hle,h1⟩:=k9 vs rfl;obtain⟨k5,g7⟩:=c3 (Vc C.n D) (by omega) (by simpa[pend] using a8);by_cases e:Vc C.n D=vs
   ·obtain⟨a',Z,m₂,hk⟩:=k5 e
    exact a9 Z (qdd w (stA C.Wg) _) (a8.setSt _) bk_rw' (.w3 hk) (.reg trivial ho (by omega)) (.inl (by simp only[phi];omega))
   ·obtain⟨a',Z,m₂,hk⟩:=g7 e
    exact a9 Z (.refl C.Wg w) a8 bk_r (.anch hk) (a6.reopen trivial trivial rfl (by simp)) (.inl (by simp only[phi];omega))
  ·obtain⟨a',w',es,Z,hD,a7⟩:=hstep w (.refl w)
   exact jG Z hD (.w2 a7) (by omega)
 | w3 hh =>
  rcases qcp hh with hstop | ⟨m',rfl,hstep⟩
  ·obtain⟨_,l9,e8,htake⟩:=hstop w (.refl w)
   cases a6 with
   | opn h1 _ _=>exact h1.elim
   | reg h1 h2 h3=>exact a9 (e8 ⟨_,a8⟩) (.refl C.Wg w) a8 (by simp) (.blk hstop) (.reg trivial h2 h3) (.inr ⟨rfl,by omega⟩)
   | last L h1 h2 h3 h4=>exact a9 (e8 ⟨_,a8⟩) (.refl C.Wg w) a8 (by simp) (.blk hstop) (.last L trivial h2 h3 h4) (.inr ⟨rfl,by omega⟩)
   | sema h2 =>
    obtain⟨a',Z,m₂,hk⟩:=htake a8;exact a9 Z (qdd w (smA C.Wg) _) (a8.setSm 0) bk_sem' (.w4 hk) (.fin trivial h2) (.inl (by simp only[phi];omega))
   | fin h1 _=>exact h1.elim
  ·obtain⟨a',w',es,Z,hD,a7⟩:=hstep w (.refl w)
   exact jG Z hD (.w3 a7) (by omega)
 | blk hh=>simp at k0
 | w4 hh =>
  rcases qcp hh with hstop | ⟨m',rfl,hstep⟩
  ·obtain⟨_,hx⟩:=hstop w (.refl w)
   obtain⟨hq,rfl,rfl⟩:=a6.fin_inv trivial;obtain⟨a',Z,m₂,hk⟩:=hx a8;exact a9 Z (.refl C.Wg w) a8 bk_r (.ke hk) (.fin trivial hq) (.inl (by simp only[phi];omega))
  ·obtain⟨a',w',es,Z,hD,a7⟩:=hstep w (.refl w)
   exact jG Z hD (.w4 a7) (by omega)
 | ke hh =>
  rcases qcp hh with hstop | ⟨m',rfl,hstep⟩
  ·obtain⟨_,a',Z,m₂,hk⟩:=hstop w (.refl w)
   obtain⟨hq,rfl,rfl⟩:=a6.fin_inv trivial;exact a9 Z (.refl C.Wg w) a8 q3d (.acq hk) (.fin trivial hq) (.inl (by simp only[phi];omega))
  ·obtain⟨a',w',es,Z,hD,a7⟩:=hstep w (.refl w)
   exact jG Z hD (.ke a7) (by omega)
 | acq hh =>
  rcases qcp hh with hstop | ⟨m',rfl,hstep⟩
  ·obtain⟨_,a',Z,k7⟩:=hstop w (.refl w)
   obtain⟨hq,rfl,rfl⟩:=a6.fin_inv trivial;have b6:=qdn (P:=C.P) (sl:=sl) (i:=0) h.main Z;refine⟨_,_,_,b6,?_⟩;have l5:∀i,i<C.n->C.fin (ls i):=λi hi=>by
    obtain⟨g,_,hs⟩:=h.wk i hi;exact hs.fin_of (by rw[hq i hi];omega)
   have hE:=H.hFin γ ls a' w k7 h.jj l5 h.data h.ph;have hlo:=H.hlo;have hsz:((gs.map (woken C.P a a' w)).setIfInBounds 0 a').size=gs.size:=by simp
   have hlt:0<gs.size:=by rw[h.size];omega
   have e1:qbn 0 a.frame.fn a.frame.place #[qbv (.acquire (stA C.Wg))]=#[{ g:=0,fn:=a.frame.fn,pos:=a.frame.place,act:=.mark (.acquire (stA C.Wg)) }]:=by rw[qdh];simp[ofEvent_mk]
   rw[e1];generalize hy:({ g:=0,fn:=a.frame.fn,pos:=a.frame.place,act:=.mark (.acquire (stA C.Wg)) }:MemOp)=y;have e4:y.g=0:=by rw[<- hy]
   have d6:y.act=.mark (.acquire (stA C.Wg)):=by rw[<- hy]
   have hops:∀op∈#[y],op.g=0:=λop hop=>by simp at hop;rw[hop];exact e4
   have e9:(t++#[y])[t.size]?=some y:=by simp
   have b8:∀g,Deaf (t++#[y]) g=Deaf t g:=λg=>Deaf_still t g _ λop hop=>by simp at hop;rw[hop,d6];simp
   have g5:Tr cl gs.size w.heap.size (t++#[y]):=h.tr.step hlt λop hop=>by
    simp at hop;rw[hop];exact⟨e4,λx hx=>by rw[d6] at hx;cases hx⟩
   have k6:∀m,Hd m (t++#[y]):=λm=>by
    refine Hd.join (lo:=C.lo) (q:=t.size) (h.hd.app λop hop=>.inl (hops op hop)) (λg hg hne ⟨i,hi⟩=>?_) ((h.nor _).app λop hop hm=>by simp at hop;rw[hop,d6] at hm;cases hm) (by rw[act?_of e9,d6]) (by rw[KW e9,e4])
     ⟨0,by rw[KW e9,e4],by rw[deaf_old (q4u _)];exact h.deaf0⟩ m
    obtain⟨op,ho,rfl⟩:=qd4.1 hi;have b9:=g5.gs i op ho;rw[h.size] at b9;obtain⟨r,hr⟩:=h.rel (op.g - C.lo) (by omega) (by rw[hq _ (by omega)];omega);rw[show C.lo+(op.g - C.lo)=op.g by omega] at hr;exact⟨r,hr.appOther hops (by omega),lt_of_act? hr.act⟩
   refine hE _ sl _ (λi=>if i<C.lo then fu i else(D (i - C.lo)).fuel) ⟨qd6 _ _ _ hlt,λi h1 h2=>?_,?_,λb hb=>?_,?_,k6 _,λad=>?_⟩
   ·rw[hsz] at h2
    by_cases hl:i<C.lo
    ·obtain⟨x,hx,d7⟩:=h.lv i h1 hl
     refine⟨x,by rw[qcy _ _ _ _ (by omega),hx,qaC,qdi d7],?_⟩;rw[if_pos hl,b8];exact d7
    ·have b9:i - C.lo<C.n:=by rw[h.size] at h2;omega
     obtain⟨x,hx,hxs⟩:=h.wk (i - C.lo) b9;have h9:=h.wd (i - C.lo) b9;rw[show C.lo+(i - C.lo)=i by omega] at hx h9;have d7:QuitsD C.P (D (i - C.lo)).fuel (D (i - C.lo)).deaf x:=by
      have h1:=hq _ b9;generalize D (i - C.lo)=dd at *
      obtain⟨s1,f1,d1⟩:=dd;dsimp only at *
      subst h1;cases hxs with
      | quit _ h=>exact h
     refine⟨x,by rw[qcy _ _ _ _ (by omega),hx,qaC,qdi d7],?_⟩;rw[if_neg hl,b8,h9];exact d7
   ·rw[hsz]
    refine g5.recl (λb hb=>?_);by_cases hs:cl b=.sync
    ·left
     rw[hs];have g8:b<C.W1.heap.size:=Nat.lt_of_not_le λhge=>h.cln b hge hs;unfold flat;rw[<- h.cla b g8,hs]
    ·right;right;left
     refine⟨hs,?_,λi x hx l6=>g5.known0 (k6 gs.size) (q4u _) hx l6 hs⟩;unfold flat;by_cases g8:b<C.W1.heap.size
     ·rw[<- h.cla b g8]
      cases hc:cl b<;>first | rfl | exact absurd hc hs
     ·cases hc:C.clA b with
      | sync=>rw[H.cla0 b (by omega)] at hc;cases hc
      | _=>rfl
   ·unfold flat
    rw[H.cla0 b (q6s h.ph.size hb)]
   ·rw[b8];exact h.deaf0
   ·exact(h.nor ad).app λop hop hm=>by simp at hop;rw[hop,d6] at hm;cases hm
  ·obtain⟨a',w',es,Z,hD,a7⟩:=hstep w (.refl w)
   exact jG Z hD (.acq a7) (by omega)
theorem Yx(H:C.Ok)(h:Inv C gs w t j D ls Ss rk γ tag f0 d0 a st sm cl fu)(sl:Option (Nat × Nat)):Ends C.P C.Post (qcu gs w sl) t:=by
 have key:∀(μ:Me) (gs:Array q4y) (w:q2v) (t:Trace) (j:Nat) (D:Nat->WD) (ls:Nat->Λ) (Ss:Nat->Bs) (rk:Nat->Rk) (γ:Γ) (tag:CTag) (f0 d0:Nat) (a:q4y) (st sm:Int) (cl:Nat->Cl) (fu:Nat->Nat) (sl:Option (Nat × Nat)),
   Inv C gs w t j D ls Ss rk γ tag f0 d0 a st sm cl fu->μ=(C.big j D ls γ tag,rk,C.low j D fu f0)->Ends C.P C.Post (qcu gs w sl) t:=by
  intro μ;induction μ using(ltM_wf C.n).induction with
  | _ μ ih =>
   intro gs w t j D ls Ss rk γ tag f0 d0 a st sm cl fu sl h hμ;subst hμ;obtain⟨i,g,d,a6,hg,a7,hstep⟩:=crowd_pick (P:=C.P) (w:=w) (sl:=sl) (h.awake H) (h.someone H);have h':=h.at H d;have hlt:=(q3h.1 hg).1;rw[h.size] at hlt;by_cases e0:i=0
   ·subst e0
    rw[h.main] at hg;cases hg;obtain⟨gs',w',ops,h1,h2⟩:=h'.starter H a7 a6 λgs' w' t' j' D' ls' Ss' rk' tag' f' d' a' st' sm' Z hlt=>ih _ hlt gs' w' t' j' D' ls' Ss' rk' γ tag' f' d' a' st' sm' cl fu a6 Z rfl;exact Ends.next (hstep.trans h1) h2
   ·rcases qb5 i C.lo with hl | hl
    ·obtain⟨gs',ops,q,tag',f',a',h1,hq,hf,a8,Z⟩:=h'.leave H a6 (by omega) hl hg a7
     refine Ends.next (hstep.trans h1) (ih _ ?_ _ _ _ _ _ _ _ _ _ _ _ _ _ _ _ _ _ a6 Z rfl)
     have e:=phi_retag C.n (Vc j D) a8;unfold Cfg.big Cfg.low;rw[e];have:=q0f hl hq;exact q5j rfl (by
      have e2:(qdt C.lo λa=>upd fu i q a)=qdt C.lo (upd fu i q):=rfl;omega)
    ·have hi:i - C.lo<j:=by omega
     have ei:C.lo+(i - C.lo)=i:=by omega
     rw[<- ei] at hg hstep;obtain⟨gs',w',ops,h1,h2⟩:=h'.worker H hi hg a7 a6 λgs' w' t' D' ls' Ss' rk' γ' tag' f' a' st' sm' cl' Z hlt=>ih _ hlt gs' w' t' j D' ls' Ss' rk' γ' tag' f' d0 a' st' sm' cl' fu a6 Z rfl;exact Ends.next (hstep.trans h1) h2
 exact key _ gs w t j D ls Ss rk γ tag f0 d0 a st sm cl fu sl h rfl
end
theorem E.crowd{Γ Λ:Type}{P:q7m}{Post:q4k->q2v->Prop}{cl:Nat->Cl}{a:q4y}{w:q2v}
  (hs:∀lo,1<=lo->∃C:Cfg Γ Λ,C.P=P/\C.Post=Post/\C.lo=lo/\C.W1=w/\C.Ok/\(∀b,b<w.heap.size->C.clA b=cl b\/(cl b=.mine 0/\C.clA b=.ro lo))/\C.Spawns C.n a w/\qdD C.ty C.Wg w 0 0/\∃γ ls,C.DataAt γ w/\C.J γ 0 ls):E P Post cl a w:=by
 intro gs sl t fu hA;have a9:=(q3h.1 hA.main).1;obtain⟨C,rfl,rfl,hlo,hW,H,hcl,hsp,a7,γ,ls,a6,hJ⟩:=hs gs.size (by omega);have a8:Tr C.clA gs.size w.heap.size t:=hA.tr.recl λb hb=>by
  rcases hcl b hb with e | ⟨e1,e2⟩
  ·exact .inl e
  ·exact .inr (.inl ⟨e1,e2⟩)
 have Z:∀tag,isOpen tag->pend tag=0->(∀vs,tag≠.w2 vs)->qdo 0 (λ_=>(⟨0,0,0⟩:WD)) tag 0 0:=λtag h1 h2 h3=>by
  have:=Go.ConcN.Mode.opn (j:=0) (D:=λ_=>(⟨0,0,0⟩:WD)) h1 (λi hi=>by omega) (λvs e=>absurd e (h3 vs));simpa[Vc,qdt,h2] using this
 have base:∀tag f0,C.CS tag 0 f0 0 a w->isOpen tag->pend tag=0->(∀vs,tag≠.w2 vs)->Inv C gs w t 0 (λ_=>⟨0,0,0⟩) ls (λ_ _=>False) (λ_=>.leaf) γ tag f0 0 a 0 0 C.clA fu:=λtag f0 hcs h1 h2 h3 =>
  ⟨by rw[hlo,Nat.add_zero],hA.main,hcs,λi h1 h2=>hA.lv i h1 (by omega),λi hi=>by omega,λi hi=>by omega,λi hi=>by omega,a8,λi hi=>by omega,λb hb=>H.cla0 b (by rw[hW];exact hb),λb _=>rfl,λb hb=>by rw[H.cla0 b hb];simp,
   hA.nor,hA.d0,by rw[hlo];exact hA.hd,a6,hJ,⟨λb _=>by rw[hW],by rw[hW];exact q4u _,by rw[hW],by rw[hW]⟩,a7,Z tag h1 h2 h3⟩
 cases hn:C.n with
 | zero =>
  rw[hn] at hsp;obtain⟨m,hk⟩:=hsp;have hc:C.CS .kd C.n m 0 a w:=.kd hk;rw[hn] at hc;exact Yx H (base .kd m hc trivial rfl (by simp)) sl
 | succ r =>
  rw[hn] at hsp;obtain⟨m,hk⟩:=hsp;have hc:C.CS (.sp r 5) (C.n - (r+1)) m 0 a w:=.skd (by omega) hk;rw[hn,Nat.sub_self] at hc;exact Yx H (base (.sp r 5) m hc trivial rfl (by simp)) sl
end Go.Co
end
section
namespace Go.Co
open Go.Conc Go.ConcN Go.Sim
def Only(R:Act->q2v->Prop):Exit->Act->q2v->Prop
 | .normal,a,w=>R a w
 | _,_,_=>False
theorem JZ{R:Act->q2v->Prop}:¬ LetsOut (Only R):=λ⟨_,_,h⟩=>h
theorem q5b{Q:q7m}{ops:Array qaG}{R:Act->q2v->Prop}(rest:List Nat)(l:List Nat):∀(a:Act) (w:q2v),wpOps Q ops (Only R) l a w->∀(b:q7n) (k:List qcG) (cs:List q7n),
  ∃a' w',R a' w'/\Steps Q (lone (b.at a (.inRegion ops (l++rest)::k)) cs w) (lone (b.at a' (.inRegion ops rest::k)) cs w'):=by
 induction l with
 | nil=>exact λa w h b k cs=>⟨a,w,h,.refl _ _⟩
 | cons i l ih =>
  intro a w h b k cs;simp only[wpOps] at h;cases ho:ops[i]? with
  | none =>
   simp only[ho] at h;obtain⟨a',w',hq,hst⟩:=ih a w h b k cs;have hs:=step_op_skip (P:=Q) (b:=b) (a:=a) (k:=k) (cs:=cs) (w:=w) (ops:=ops) (i:=i) (rest:=l++rest) (by simp[ho]);simp only[ho,Option.bind_none,Act.put] at hs;exact⟨a',w',hq,.head hs hst⟩
  | some o =>
   simp only[ho] at h;by_cases hw:qac o (yielded ops a.tmps)=true
   ·simp only[hw,if_true] at h
    rcases h with h | ⟨_,hout⟩
    case inr=>exact absurd hout JZ
    simp only[Oper.wp,Oper.upon] at h;have hg:=stepG_op (P:=Q) (b:=b) (k:=k) (cs:=cs) (w:=w) (rest:=l++rest) ho hw;have a8:∀v,(b.at a (.inRegion ops (i::(l++rest))::k)).finish v=b.at (a.put o.dst v) (.inRegion ops (l++rest)::k):=by
     intro v;rw[qbl,ho];rfl
    split at h
    ·rename_i v w' hr
     obtain⟨a',a7,hq,hst⟩:=ih _ _ h b k cs;exact⟨a',a7,hq,.head (qdG (by rw[q8G,hg,<- a8];simp[qaw,hr])) hst⟩
    ·rename_i w' hr
     obtain⟨a',a7,hq,hst⟩:=ih _ _ h b k cs;exact⟨a',a7,hq,.head (qdG (by rw[q8G,hg,<- a8];simp[qaw,hr])) hst⟩
    ·rename_i d w' hr
     obtain⟨a',a7,hq,hst⟩:=ih _ _ h b k cs;refine⟨a',a7,hq,.head (qdG ?_) hst⟩;have:({ b.at a (.inRegion ops (i::(l++rest))::k) with defers:=d::a.defers }:q7n).finish q4D =
       b.at ({ a with defers:=d::a.defers }.put o.dst q4D) (.inRegion ops (l++rest)::k):=by
      have:=qbl b { a with defers:=d::a.defers } ops i (l++rest) k q4D;rw[ho] at this;exact this
     rw[q8G,hg];simp only[qaw,q9h,hr,GStep.bare_after];exact congrArg (λfr=>GStep.go { frame:=fr,callers:=cs,status:=.running,dying:=none } w') this
    ·rename_i f args w' hr
     obtain⟨e,a7,fr,hR,Z,_,a9⟩:=h (b.at a (.inRegion ops (i::(l++rest))::k)::cs);have a6:step Q (lone (b.at a (.inRegion ops (i::(l++rest))::k)) cs w) =
       .next (lone (q9v Q f args .normal) (b.at a (.inRegion ops (i::(l++rest))::k)::cs) w') :=
      qdG (by rw[hg];simp[qaw,hr,Frame.at])
     cases e with
     | returned v =>
      obtain⟨a',w₃,hq,hst⟩:=ih _ _ hR b k cs;refine⟨a',w₃,hq,.head a6 (Steps.trans Z (.head ?_ hst))⟩;rw[<- a8];exact step_leave_returned a9
     | panicked chain=>exact hR.elim
     | outgrown=>exact absurd hR JZ
    ·rename_i row args w' hr
     obtain⟨v,a7,hR,Z⟩:=h (b.at a (.inRegion ops (i::(l++rest))::k)) cs;have a6:step Q (lone (b.at a (.inRegion ops (i::(l++rest))::k)) cs w) =
       .next (lone (Frame.ofRow Q row args .normal) (b.at a (.inRegion ops (i::(l++rest))::k)::cs) w') :=
      qdG (by rw[hg];simp[qaw,hr,Frame.at])
     obtain⟨a',w₃,hq,hst⟩:=ih _ _ hR b k cs;refine⟨a',w₃,hq,.head a6 (Steps.trans ?_ hst)⟩;rw[<- a8];exact Z
    ·exact h.elim
    ·exact h.elim
   ·simp only[hw,if_false,q9g] at h
    obtain⟨a',w',hq,hst⟩:=ih _ _ h b k cs;have hs:=step_op_skip (P:=Q) (b:=b) (a:=a) (k:=k) (cs:=cs) (w:=w) (ops:=ops) (i:=i) (rest:=l++rest) (by simp[ho];simpa using hw);simp only[ho,Option.bind_some] at hs;exact⟨a',w',hq,.head hs hst⟩
theorem q6j{Q:q7m}{o:qaG}{a:Act}{w:q2v}{K K':Act->q2v->Prop}{R:Exit->Act->q2v->Prop}(hk:∀a w,K a w->K' a w)(h:o.wp Q a w K R):o.wp Q a w K' R:=by
 unfold Oper.wp at h ⊢;unfold Oper.upon at h ⊢;generalize (execOp a.eval o).run Q w=r at h ⊢;cases r with
 | ok x w' =>
  cases x with
  | value v=>exact hk _ _ h
  | skip=>exact hk _ _ h
  | defer d=>exact hk _ _ h
  | enter f args=>exact Calls.mono h λe w q=>by cases e<;>first | exact hk _ _ q | exact q
  | row r args=>exact Rows.mono h λv w q=>hk _ _ q
  | _=>exact h.elim
 | halt x w'=>cases x<;>first | exact h | exact h.elim
theorem Qg{Q:q7m}{ops:Array qaG}{R:Exit->Act->q2v->Prop}:∀(l:List Nat) (os:List qaG) (a:Act) (w:q2v),l.map (λi=>ops[i]?)=os.map some->wpList Q ops R os a w->wpOps Q ops R l a w
 | [],[],a,w,_,h=>h
 | [],_::_,_,_,e,_=>by simp at e
 | _::_,[],_,_,e,_=>by simp at e
 | i::l,o::os,a,w,e,h=>by
  simp only[List.map_cons,qc7] at e;simp only[wpOps,e.1];simp only[wpList] at h;have key:∀a w,wpList Q ops R os a w->wpOps Q ops R l a w:=λa w=>Qg l os a w e.2;split
  ·rename_i hw
   rw[if_pos hw] at h;exact h.imp (λh=>q6j key h) id
  ·rename_i hw
   rw[if_neg hw] at h;exact key _ _ h
section
variable[JunkSet]{Q P:q7m}{f:qam}{Post:q4k->q2v->Prop}{W:q2v}
variable{b:q7n}{a:Act}{k:List qcG}{cs:List q7n}{wq:q2v}
theorem EL.one(D:Two Q P){fr Z:q7n}{a6:List q7n}{fn:qam}(hE:EL Q P f Post W (G Z a6) wq)(h:∀w,step Q (lone fr cs w)=.next (lone Z a6 w))(hb1:Bot f a6)(hn:Z.fn=fn)(hs:Q.funcs[fn]?=P.funcs[fn]?):EL Q P f Post W (G fr cs) wq :=
 EL.of_runs D λT=>⟨Z,a6,wq.tp T,.one (h _),hb1,by rw[hn];exact hs,hE.tape T⟩
section
variable(D:Two Q P)(hb:Bot f cs)(hs:Q.funcs[b.fn]?=P.funcs[b.fn]?)
include D hb hs
theorem EL.seq{x y:qbs}(h:EL Q P f Post W (G (b.at a (.code x::.code y::k)) cs) wq):EL Q P f Post W (G (b.at a (.code (.seq x y)::k)) cs) wq:=EL.one D h (λ_=>step_seq) hb (fn:=b.fn) rfl hs
theorem EL.skip(h:EL Q P f Post W (G (b.at a k) cs) wq):EL Q P f Post W (G (b.at a (.code .skip::k)) cs) wq:=EL.one D h (λ_=>step_skip) hb (fn:=b.fn) rfl hs
theorem EL.cond{c:qa4}{x y:qbs}(t:Bool)(hc:a.eval c=.bool t)(h:EL Q P f Post W (G (b.at a (.code (if t then x else y)::k)) cs) wq):EL Q P f Post W (G (b.at a (.code (.cond c x y)::k)) cs) wq:=EL.one D h (λ_=>step_cond hc) hb (fn:=b.fn) rfl hs
theorem EL.block{id:Nat}{c:qbs}(h:EL Q P f Post W (G (b.at a (.code c::.inBlock id::k)) cs) wq):EL Q P f Post W (G (b.at a (.code (.block id c)::k)) cs) wq:=EL.one D h (λ_=>step_block) hb (fn:=b.fn) rfl hs
theorem EL.inBlock{id:Nat}(h:EL Q P f Post W (G (b.at a k) cs) wq):EL Q P f Post W (G (b.at a (.inBlock id::k)) cs) wq:=EL.one D h (λ_=>step_inBlock) hb (fn:=b.fn) rfl hs
theorem EL.loop{c:qbs}(h:EL Q P f Post W (G (b.at a (.code c::.inLoop c::k)) cs) wq):EL Q P f Post W (G (b.at a (.code (.loop c)::k)) cs) wq:=EL.one D h (λ_=>step_loop) hb (fn:=b.fn) rfl hs
theorem EL.inLoop{c:qbs}(h:EL Q P f Post W (G (b.at a (.code c::.inLoop c::k)) cs) wq):EL Q P f Post W (G (b.at a (.inLoop c::k)) cs) wq:=EL.one D h (λ_=>step_inLoop) hb (fn:=b.fn) rfl hs
theorem EL.exit{id:Nat}{k':List qcG}(he:exitTo id k=some k')(h:EL Q P f Post W (G (b.at a k') cs) wq):EL Q P f Post W (G (b.at a (.code (.exit id)::k)) cs) wq:=EL.one D h (λ_=>step_exit he) hb (fn:=b.fn) rfl hs
theorem EL.retS(h:EL Q P f Post W (G { b.at a (.code .ret::k) with mode:=.returning } cs) wq):EL Q P f Post W (G (b.at a (.code .ret::k)) cs) wq:=EL.one D h (λ_=>step_ret) hb (fn:=b.fn) rfl hs
theorem EL.region{id:Nat}{ops:Array qaG}(h:EL Q P f Post W (G (b.at a (.inRegion ops (q99 ops.size)::k)) cs) wq):EL Q P f Post W (G (b.at a (.code (.region id ops false)::k)) cs) wq:=EL.one D h (λ_=>step_region) hb (fn:=b.fn) rfl hs
theorem EL.region_end{ops:Array qaG}(h:EL Q P f Post W (G (b.at a k) cs) wq):EL Q P f Post W (G (b.at a (.inRegion ops []::k)) cs) wq:=EL.one D h (λ_=>step_region_end) hb (fn:=b.fn) rfl hs
theorem EL.list{ops:Array qaG}(l:List Nat)(os:List qaG){rest:List Nat}(hl:l.map (λi=>ops[i]?)=os.map some)
  (h:∀T,wpList Q ops (Only λa' w'=>EL Q P f Post W (G (b.at a' (.inRegion ops rest::k)) cs) w') os a (wq.tp T)) :
  EL Q P f Post W (G (b.at a (.inRegion ops (l++rest)::k)) cs) wq :=
 EL.of_runs D λT=>by
  obtain⟨a',w',hE,hst⟩:=q5b rest l a (wq.tp T) (Qg l os a _ hl (h T)) b k cs;exact⟨_,cs,w',hst,hb,hs,hE⟩
theorem EL.enter{ops:Array qaG}{i:Nat}{rest:List Nat}{o:qaG}{fk:qam}{args:Array q4k}(ho:ops[i]?=some o)(hw:qac o (yielded ops a.tmps)=true)(Z:∀T,(execOp a.eval o).run Q (wq.tp T)=.ok (.enter fk args) (wq.tp T))
  (a6:Q.funcs[fk]?=P.funcs[fk]?) (h:EL Q P f Post W (G (q9v Q fk args .normal) (b.at a (.inRegion ops (i::rest)::k)::cs)) wq):EL Q P f Post W (G (b.at a (.inRegion ops (i::rest)::k)) cs) wq :=
 EL.of_runs D λT=>by
  have hg:=stepG_op (P:=Q) (b:=b) (k:=k) (cs:=cs) (w:=wq.tp T) (rest:=rest) ho hw;exact⟨_,_,wq.tp T,.one (qdG (by rw[hg];simp[qaw,Z,Frame.at])),hb.cons,a6,h.tape T⟩
end
theorem EL.back(D:Two Q P){fr c:q7n}{v:q4k}(hb:Bot f cs)(hs:Q.funcs[c.fn]?=P.funcs[c.fn]?)(hl:∀T,fr.leaving Q (wq.tp T) (.returned v))(h:EL Q P f Post W (G (c.finish v) cs) wq):EL Q P f Post W (G fr (c::cs)) wq :=
 EL.of_runs D λT=>⟨_,cs,wq.tp T,.one (step_leave_returned (hl T)),hb,by
  have:(c.finish v).fn=c.fn:=by unfold Frame.finish;split<;>rfl
  rw[this];exact hs,h.tape T⟩
def EC(Q P:q7m)(f:qam)(Post:q4k->q2v->Prop)(W:q2v)(fk:qam)(args:Array q4k)(wq:q2v)(R:q4k->q2v->Prop):Prop :=
 ∀c cs,Bot f cs->Q.funcs[c.fn]?=P.funcs[c.fn]?->(∀v u,R v u->EL Q P f Post W (G (c.finish v) cs) u)->EL Q P f Post W (G (q9v Q fk args .normal) (c::cs)) wq
theorem EC.of_body(D:Two Q P){fk:qam}{fn:Func}{c0:qbs}{args:Array q4k}{R:q4k->q2v->Prop}(hf:Q.funcs[fk]?=some fn)(hp:P.funcs[fk]?=some fn)(a6:fn.body=some c0)
  (h:∀cs,Bot f cs->(∀a todo u v,a.defers=[]->(∀T,(results fn a.tmps).run Q (u.tp T)=.ok v (u.tp T))->R v u->EL Q P f Post W (G { (base fk).at a todo with mode:=.returning } cs) u) ->
   EL Q P f Post W (G ((base fk).at ⟨args++qa7 (fn.ntmps - args.size) q4D,[]⟩ [.code c0]) cs) wq):EC Q P f Post W fk args wq R:=by
 intro c cs hb hs hk;have e:q9v Q fk args .normal=(base fk).at ⟨args++qa7 (fn.ntmps - args.size) q4D,[]⟩ [.code c0]:=by
  simp[q9v,hf,a6,Frame.at,base]
 rw[e];refine h (c::cs) hb.cons λa todo u v hd Z hR=>EL.back D hb hs (λT=>⟨rfl,hd,rfl,fn,hf,Z T⟩) (hk v u hR)
end
end Go.Co
end
section
namespace Go.Co
open Go.Conc Go.ConcN Go.Sim
section
variable[J:JunkSet]{Q P:q7m}{f:qam}{Post:q4k->q2v->Prop}{W:q2v}
structure AtK(Q P:q7m)[JunkSet](W:q2v)(ρ:Ren)(tq tp:Array q4k)(c c':q7n)(pre pre':List q7n)(wq w:q2v)(cl:Nat->Cl):Prop where
 wr:WR Q W.heap.size ρ wq w
 ln:W.heap.size<=ρ.length
 gl:Gl P ρ
 tm:AsR ρ tq tp
 top:qu Q P ρ c c'
 rest:LsR (qu Q P ρ) pre pre'
 own:ky cl ρ
 c0:∀b,w.heap.size<=b->cl b=.mine 0
 kp:yI W.heap.size W.heap.size W ρ w
 om:∀b,b<W.heap.size->cl b=.mine 0
theorem EL.enterK(D:Two Q P){b:q7n}{a:Act}{k:List qcG}{cs:List q7n}{wq:q2v}(hb:Bot f cs)(hs:Q.funcs[b.fn]?=P.funcs[b.fn]?){ops:Array qaG}{i:Nat}{rest:List Nat}{o:qaG}{fk:qam}{fq fp:Func}{c0:qbs}{args:Array q4k}(ho:ops[i]?=some o)(hw:qac o (yielded ops a.tmps)=true)
  (a8:∀T,(execOp a.eval o).run Q (wq.tp T)=.ok (.enter fk args) (wq.tp T)) (hne:Q.funcs[fk]?≠P.funcs[fk]?) (b8:Q.funcs[fk]?=some fq) (b9:P.funcs[fk]?=some fp) (hn:fq.ntmps=fp.ntmps) (c8:fp.body=some c0)
  (hK:∀ρ tp c' pre pre' w cl,cs=pre++[qi f]->AtK Q P W ρ (args++qa7 (fp.ntmps - args.size) q4D) tp (b.at a (.inRegion ops (i::rest)::k)) c' pre pre' wq w cl->E P Post cl (G ((base fk).at ⟨tp,[]⟩ [.code c0]) (c'::pre')) w) :
  EL Q P f Post W (G (b.at a (.inRegion ops (i::rest)::k)) cs) wq:=by
 intro ρ g' w cl h b6 hc hk hm
 let g1:q4y:=G (q9v Q fk args .normal) (b.at a (.inRegion ops (i::rest)::k)::cs)
 let F:q4y->q2v->Prop:=λg _=>g.frame.fn=fk/\g.callers≠[]
 have a6:∀T,∃es,qag Q true (G (b.at a (.inRegion ops (i::rest)::k)) cs) (wq.tp T) true=.go g1 (wq.tp T) es:=λT=>by
  have hg:=stepG_op (P:=Q) (b:=b) (k:=k) (cs:=cs) (w:=wq.tp T) (rest:=rest) ho hw;refine⟨?_,?_⟩;rotate_left
  ·refine Eq.trans (b:=qaw Q true (b.at a (.inRegion ops (i::rest)::k)) cs none (execOp a.eval o) (wq.tp T)) hg ?_
   simp only[qaw,q9h,a8];rfl
 have b0:¬ F (G (b.at a (.inRegion ops (i::rest)::k)) cs) wq:=λ⟨h1,_⟩=>hne (by have e:b.fn=fk:=h1;rw[<- e];exact hs);have ht:LT Q F (G (b.at a (.inRegion ops (i::rest)::k)) cs) wq:=.step b0 (λT=>by
   obtain⟨es,e⟩:=a6 T;exact⟨g1,_,es,e,rfl,rfl⟩) λT g2 u2 d6 e2=>by
   obtain⟨es,e⟩:=a6 T;rw[e] at e2;cases e2;exact .done ⟨rfl,by show(_::_:List q7n)≠[];simp⟩
 have Z:Sub Q P W.heap.size F f [] ρ (G (b.at a (.inRegion ops (i::rest)::k)) cs) wq g' w:=⟨h.ln,h.wr,h.gl,ht,h.stack,h.rel⟩
 refine E.step (kB Z) λd=>?_;obtain⟨σ,g2,c9,d5,w2,es,h1,h2,h3,h4,_,h6⟩:=(q0g Z d).stepK D.H D.hrf xr b0 true (λg u hg=>hg.2);obtain⟨_,T,d7,e1⟩:=h2;obtain⟨d8,e0⟩:=a6 T;dsimp only at e1;rw[e0] at e1;cases e1;have a9:ky cl σ:=b6.step (w:=w.at d) h3 hc;have c3:∀b,w2.heap.size<=b->cl b=.mine 0:=λb hb=>hc b (q6s h3.size hb);have b7:yI W.heap.size W.heap.size W σ w2:=yI.step (w:=w.at d) (hk.at d) h3;rcases h6 with h6 | ⟨fk',kd,a1,a1',c,c',pre,pre',h6,hg1,rfl⟩
 ·exfalso
  obtain⟨gv,hg,_⟩:=h6.rel;obtain⟨gf,k1,k2⟩:=hg.frame.same;exact hne (by
   have e:g1.frame.fn=fk:=rfl;rw[e] at k1 k2;rw[k1,k2])
 ·refine⟨_,w2,es,h1,h3.size,λe he=>kH a9 h6.wr (h4 e he),?_⟩
  have a7:q9v Q fk args .normal=q9v Q fk' a1 kd:=congrArg (·.frame) hg1;have hcs:b.at a (.inRegion ops (i::rest)::k)::cs=c::(pre++[qi f]):=congrArg (·.callers) hg1;have e1:fk=fk':=congrArg (·.fn) a7;subst e1;have e2:CallKind.normal=kd:=congrArg (·.kind) a7;subst e2;have e3:args++qa7 (fp.ntmps - args.size) q4D=a1++qa7 (fp.ntmps - a1.size) q4D:=by
   have:=congrArg (·.tmps) a7;simp only[q9v,b8,qaC,q72,hn] at this;exact this
  simp only[qc7] at hcs;obtain⟨rfl,hcs⟩:=hcs;have e4:q9v P fk a1' .normal=(base fk).at ⟨a1'++qa7 (fp.ntmps - a1'.size) q4D,[]⟩ [.code c0]:=enter_at _ b9 c8;have e5:a1'.size=a1.size:=h6.args.1.symm;have:=hK σ (a1'++qa7 (fp.ntmps - a1'.size) q4D) c' pre pre' w2 cl hcs ⟨⟨h6.wr.len,h6.wr.nodup,h6.wr.lt,h6.wr.obj,h6.wr.low,h6.wr.env,h6.wr.below,h6.wr.gar⟩,h6.len,h6.gl,?_,h6.top,h6.rest,a9,c3,b7,hm⟩
  ·rw[e4,List.append_nil]
   exact this
  ·rw[e3,e5]
   refine AsR.append h6.args ⟨rfl,λi x y hx hy=>?_⟩;rw[hx] at hy;cases hy;have:x=q4D:=by
    have:=q3h.1 hx;obtain⟨hl,he⟩:=this;simp at he;exact he.symm
   rw[this];exact yV _
theorem EL.resume{σ ρ:Ren}{c c':q7n}{pre pre':List q7n}{wq w:q2v}{cl:Nat->Cl}{v v':q4k}(hE:EL Q P f Post W (G (c.finish v) (pre++[qi f])) wq)(hin:Q.inits.idxOf? f=none)(hfs:∃g,Q.funcs[f]?=some g/\P.funcs[f]?=some g)(hle:Le ρ σ)(ht:qu Q P ρ c c')(hr:LsR (qu Q P ρ) pre pre')(hv:VR σ v v')(hw:WR Q W.heap.size σ wq w)(Z:W.heap.size<=σ.length)(hG:Gl P ρ)
  (ho:ky cl σ) (hc:∀b,w.heap.size<=b->cl b=.mine 0) (hk:yI W.heap.size W.heap.size W σ w) (hm:∀b,b<W.heap.size->cl b=.mine 0):E P Post cl (G (c'.finish v') pre') w:=by
 refine hE σ (G (c'.finish v') pre') w cl ⟨hw,Z,hG.mono hle,⟨pre,rfl⟩,G (c'.finish v') (pre'++[qi f]),⟨(ht.mono hle).finish hv,?_,rfl,rfl,rfl,rfl⟩,?_⟩ ho hc hk hm
 ·have h1:LsR (qu Q P σ) pre pre':=hr.imp λ_ _ k=>k.mono hle
  have h2:qu Q P σ (qi f) (qi f):=q1a hin hfs;show LsR (qu Q P σ) (pre++[qi f]) (pre'++[qi f]);clear hE hr;induction h1 with
  | nil=>exact .cons h2 .nil
  | cons hx _ ih=>exact .cons hx ih
 ·simp[swap,G]
end
end Go.Co
end
section
namespace Go.Co
open Go.Conc Go.ConcN Go.Sim
def q5n(ops:Array qaG)(n:Nat):Bool :=
 (q99 (n+1)).all (λj=>match ops[j]? with | some o=>o.after.all (λe=>!qah .any e || decide (e.on<j)) | none=>false) &&
 (q99 n).all (λi=>(q99 (n+1)).any λj=>decide (i<j) && match ops[j]? with | some o=>o.after.any (λe=>qah .any e && e.on == i) | none=>false)
section
variable{ops:Array qaG}{n:Nat}(hB:q5n ops n=true)(hn:ops.size=n+1)
def Closed(ops:Array qaG)(listed:Array Bool):Prop:=∀(i:Nat) (o:qaG),ops[i]?=some o->listed[i]?.getD false=true->∀e∈o.after,qah .any e=true->listed[e.on]?.getD false=true
include hB hn
theorem qae{j:Nat}{o:qaG}(hj:ops[j]?=some o){e:Edge}(he:e∈o.after)(hb:qah .any e=true):e.on<j:=by
 unfold q5n at hB;simp only[q85,qaf,qbt] at hB;have:=hB.1 j (by have:=(q3h.1 hj).1;omega);rw[hj] at this;simp only[qaD,qbC,qbH,decide_eq_true_eq] at this;rcases this e he with h | h
 ·rw[hb] at h;cases h
 ·exact h
theorem q3e{listed:Array Bool}(hc:Closed ops listed)(hl:∀o,ops[n]?=some o->∀e∈o.after,qah .any e=true->listed[e.on]?.getD false=true):∀i,i<n->listed[i]?.getD false=true:=by
 have Z:=hB;unfold q5n at Z;simp only[q85,qaf,qbt] at Z;have key:∀d i,i<n->n - i<=d->listed[i]?.getD false=true:=by
  intro d;induction d with
  | zero=>intro i hi h;omega
  | succ d ih =>
   intro i hi h;have:=Z.2 i hi;simp only[List.any_eq_true,qbt,q85,decide_eq_true_eq] at this;obtain⟨j,hj,hij,hx⟩:=this;cases ho:ops[j]? with
   | none=>rw[ho] at hx;cases hx
   | some o =>
    rw[ho] at hx;simp only at hx;obtain⟨e,he,hb⟩:=Array.any_eq_true'.1 hx;simp only[q85,beq_iff_eq] at hb;by_cases a6:j=n
    ·subst a6
     rw[<- hb.2];exact hl o ho e he hb.1
    ·have:=hc j o ho (ih j (by omega) (by omega)) e he hb.1
     rw[hb.2] at this;exact this
 exact λi hi=>key (n - i) i hi (q4u _)
theorem q98:∀(Z t:Nat) (listed:Array Bool),listed.size=n+1->Closed ops listed->listed[n]?.getD false=false->unl listed (n+1)<=Z ->
  ∃L,qa9 .any ops Z t listed []=L++[n]/\∀i∈L,i<n:=by
 intro Z;have a7:∀listed:Array Bool,listed.size=n+1->listed[n]?.getD false=false->q7H .any ops listed≠[]:=by
  intro listed hs a6 hr;have key:∀i,i<n+1->listed[i]?.getD false=true:=by
   intro i;induction i using Nat.strongRecOn with
   | _ i ih =>
    intro hi;have hlt:i<ops.size:=by omega
    refine zK hr (by omega) (q8B hlt) ?_;simp only[qaD,qbC,qbH];intro e he;cases hb:qah .any e with
    | false=>exact .inl rfl
    | true =>
     right;have:=qae hB hn (q8B hlt) he hb;rw[qau];exact ih e.on this (by omega)
  rw[key n (by omega)] at a6;cases a6
 induction Z with
 | zero =>
  intro t listed hs hc a6 hu;exfalso;have hne:=a7 listed hs a6;cases hr:q7H .any ops listed with
  | nil=>exact hne hr
  | cons i l =>
   obtain⟨h1,h2⟩:=zT (md:=.any) (ops:=ops) (listed:=listed) (i:=i) (by rw[hr];simp);have:=xU (n:=n+1) (by omega) hs h2;omega
 | succ Z ih =>
  intro t listed hs hc a6 hu;have hne:=a7 listed hs a6;simp only[qa9];change ∃L,(match (q7H .any ops listed)[t % (q7H .any ops listed).length]? with
   | some i=>qa9 .any ops Z (t / (q7H .any ops listed).length) (listed.setIfInBounds i true) [i]
   | none=>[].reverse)=L++[n]/\_
  cases hi:(q7H .any ops listed)[t % (q7H .any ops listed).length]? with
  | none =>
   exfalso;cases hr:q7H .any ops listed with
   | nil=>exact hne hr
   | cons x xs =>
    rw[hr] at hi;have hlt:t % (x::xs).length<(x::xs).length:=Nat.mod_lt _ (by simp);simp at hi;simp at hlt;omega
  | some i =>
   have a8:=q8u hi;obtain⟨h1,h2⟩:=zT a8;simp only[];rw[linearise_go_acc,List.reverse_singleton];by_cases hin:i=n
   ·subst hin
    refine⟨[],?_,by simp⟩;have b6:∀k,k<i->listed[k]?.getD false=true:=q3e hB hn hc λo ho e he hb=>by
     have:=zl a8 ho;simp only[qaD,qbC,qbH] at this;rcases this e he with h | h
     ·rw[hb] at h;cases h
     ·rw[<- qau];exact h
    have b0:q7H .any ops (listed.setIfInBounds i true)=[]:=by
     cases hr:q7H .any ops (listed.setIfInBounds i true) with
     | nil=>rfl
     | cons x xs =>
      exfalso;have hx:x∈q7H .any ops (listed.setIfInBounds i true):=by rw[hr];simp
      obtain⟨g1,_⟩:=zT hx;have g2:=Y2 hx;rw[Zh _ _ _ (by omega)] at g2;by_cases a9:i=x
      ·rw[if_pos a9] at g2;cases g2
      ·rw[if_neg a9,b6 x (by omega)] at g2
       cases g2
    have:qa9 .any ops Z (t / (q7H .any ops listed).length) (listed.setIfInBounds i true) []=[]:=by
     cases Z with
     | zero=>rfl
     | succ Z =>
      simp only[qa9];change (match (q7H .any ops (listed.setIfInBounds i true))[(t / (q7H .any ops listed).length) % (q7H .any ops (listed.setIfInBounds i true)).length]? with
       | some i'=>qa9 .any ops Z _ _ [i']
       | none=>[].reverse)=[]
      rw[b0];rfl
    rw[this];rfl
   ·obtain⟨L,hL,hlt⟩:=ih (t / (q7H .any ops listed).length) (listed.setIfInBounds i true) (by simpa using hs) (λj o ho hj e he hb=>by
      rw[Zh _ _ _ (by omega)] at hj ⊢;split at hj
      ·rename_i b7
       subst b7;have:=zl a8 ho;simp only[qaD,qbC,qbH] at this;rcases this e he with h | h
       ·rw[hb] at h;cases h
       ·rw[qau] at h
        split
        ·rfl
        ·exact h
      ·have:=hc j o ho hj e he hb
       split
       ·rfl
       ·exact this) (by rw[Zh _ _ _ (by omega),if_neg hin];exact a6) (by
      have:=xU (n:=n+1) (by omega) hs h2;omega)
    refine⟨i::L,by rw[hL];rfl,λk hk=>?_⟩;rcases qaH.1 hk with rfl | hk
    ·omega
    ·exact hlt k hk
end
def jG(o:qaG):qaG:={ dst:=none,op:=.move (.const (.bool true)),type:=o.type,pos:=o.pos,after:=o.after,guard:=none }
def qP(ops:Array qaG)(n:Nat):Array qaG:=ops.modify n jG
theorem vQ(ops:Array qaG)(n i:Nat):(qP ops n)[i]?=if n=i then(ops[i]?).map jG else ops[i]?:=by
 unfold qP;rw[Array.getElem?_modify]
theorem Yg(ops:Array qaG)(n:Nat)(md:qcz)(listed:Array Bool):q7H md (qP ops n) listed=q7H md ops listed:=by
 unfold q7H;rw[show(qP ops n).size=ops.size by simp[qP]]
 congr 1
 funext i
 rw[vQ];split
 ·cases ops[i]?<;>rfl
 ·rfl
theorem q0B(ops:Array qaG)(n:Nat)(md:qcz):∀(Z t:Nat) (listed:Array Bool) (a6:List Nat),qa9 md (qP ops n) Z t listed a6=qa9 md ops Z t listed a6:=by
 intro Z;induction Z with
 | zero=>intro t listed a6;rfl
 | succ Z ih =>
  intro t listed a6;simp only[qa9];change (match (q7H md (qP ops n) listed)[t % (q7H md (qP ops n) listed).length]? with
   | some i=>qa9 md (qP ops n) Z (t / (q7H md (qP ops n) listed).length) (listed.setIfInBounds i true) (i::a6)
   | none=>a6.reverse)=(match (q7H md ops listed)[t % (q7H md ops listed).length]? with
   | some i=>qa9 md ops Z (t / (q7H md ops listed).length) (listed.setIfInBounds i true) (i::a6)
   | none=>a6.reverse)
  rw[Yg];cases(q7H md ops listed)[t % (q7H md ops listed).length]? with
  | none=>rfl
  | some i=>exact ih _ _ _
theorem q2b{Q:q7m}{ops:Array qaG}{n:Nat}{K:Act->q2v->Prop}(hg:ops.all (λo=>o.guard.isNone)=true)(hn:n<ops.size):∀(L:List Nat) (a:Act) (w:q2v),(∀i∈L,i<n)->wpOps Q (qP ops n) (Only K) (L++[n]) a w->wpOps Q ops (Only K) L a w:=by
 intro L;induction L with
 | nil =>
  intro a w _ h;rw[q9k,wpOps_cons] at h;unfold wpOp at h;rw[vQ,if_pos rfl,q8B hn] at h;simp only[qaC] at h;have hw:qac (jG ops[n]) (yielded (qP ops n) a.tmps)=true:=by simp[qac,jG]
  rw[if_pos hw] at h;rcases h with h | ⟨_,hout⟩
  ·unfold Oper.wp at h
   have:(execOp a.eval (jG ops[n])).run Q w=.ok (.value (.bool true)) w:=rfl;rw[this] at h;simp only[Oper.upon,jG,wpOps] at h;exact h
  ·exact absurd hout JZ
 | cons i L ih =>
  intro a w hlt h;rw[q8G,wpOps_cons] at h;rw[wpOps_cons];have hi:=hlt i (by simp);have e:(qP ops n)[i]?=ops[i]?:=by rw[vQ,if_neg (by omega)]
  have h':=wpOp_mono (λa' w' hx=>ih a' w' (λj hj=>hlt j (by simp[hj])) hx) h;unfold wpOp at h' ⊢;rw[e] at h';cases ho:ops[i]? with
  | none=>rw[ho] at h';exact h'
  | some o =>
   rw[ho] at h';dsimp only at h' ⊢;have hw:∀ops':Array qaG,qac o (yielded ops' a.tmps)=true:=λops'=>by
    have:o.guard=none:=by
     rw[qaD] at hg;simpa using hg o (qaF ho)
    simp[qac,this]
   rw[if_pos (hw _)] at h' ⊢;exact h'
section
variable[JunkSet]{Q P:q7m}{f:qam}{Post:q4k->q2v->Prop}{W:q2v}
variable{b:q7n}{a:Act}{k:List qcG}{cs:List q7n}{wq:q2v}
theorem EL.region_last(D:Two Q P)(hb:Bot f cs)(hs:Q.funcs[b.fn]?=P.funcs[b.fn]?){id:Nat}{ops:Array qaG}{n:Nat}(hm:Q.follows .mixedOrders=true)(hB:q5n ops n=true)(hn:ops.size=n+1)(hg:ops.all (λo=>o.guard.isNone)=true)
  (h:∀T,wpAny Q .any (qP ops n) (Only λa' w'=>EL Q P f Post W (G (b.at a' (.inRegion ops [n]::k)) cs) w') (qP ops n).size (qa7 (qP ops n).size false) a { wq.tp T with drawn:=wq.drawn+1 }) :
  EL Q P f Post W (G (b.at a (.code (.region id ops true)::k)) cs) wq:=by
 refine EL.of_runs D λT=>?_;have hsz:(qP ops n).size=ops.size:=by simp[qP]
 obtain⟨L,hL,hlt⟩:=q98 hB hn (n+1) ((wq.tp T).tape (wq.tp T).drawn (.order b.fn id)) (qa7 ops.size false) (by simp[hn]) (λi o _ hi=>by
  simp only[Array.getElem?_replicate] at hi;split at hi<;>cases hi) (by simp only[Array.getElem?_replicate];split<;>rfl) (by
  unfold unl;refine q6s (qbA _ _) (by simp))
 have h1:=wpAny_sound _ ((wq.tp T).tape (wq.tp T).drawn (.order b.fn id)) _ _ _ (h T);rw[q0B,hsz,hn,show qa9 .any ops (n+1) ((wq.tp T).tape (wq.tp T).drawn (.order b.fn id)) (qa7 (n+1) false) []=L++[n] by rw[<- hL,hn]] at h1;have h2:=q2b hg (by omega) L _ _ hlt h1;obtain⟨a',w',hE,hst⟩:=q5b [n] L a _ h2 b k cs;refine⟨b.at a' (.inRegion ops [n]::k),cs,w',.head (step_region_draw) ?_,hb,hs,hE⟩;have e:qdB (Q.follows .mixedOrders) ops ((wq.tp T).tape (wq.tp T).drawn (.order b.fn id))=L++[n]:=by
  simp only[qdB,hm,Bool.true_or,if_true];show qa9 .any ops ops.size _ _ []=_;rw[<- hL,hn]
 rw[e];exact hst
end
end Go.Co
end
section
namespace Go.Co
open Go.Conc Go.ConcN Go.Sim
section
variable[JunkSet]
theorem Y9(ρ:Ren)(y:q4k):∃x,VR ρ x y/\∀k n,y=.int k n->x=y:=by
 cases y with
 | bool b=>exact⟨_,.bool b,λk n e=>by cases e⟩
 | int k n=>exact⟨_,.int k n,λ_ _ _=>rfl⟩
 | string s=>exact⟨_,.string s,λk n e=>by cases e⟩
 | tuple a =>
  have h:∀i:Fin a.size,∃x,VR ρ x a[i]:=λi=>let ⟨x,h,_⟩:=Y9 ρ a[i];⟨x,h⟩;refine⟨.tuple (Array.ofFn λi=>qc9 (h i)),.tuple (by simp) λi x y hx hy=>?_,λk n e=>by cases e⟩;obtain⟨h1,e1⟩:=q3h.1 hx;obtain⟨h2,e2⟩:=q3h.1 hy;rw[<- e1,<- e2,qd9];exact qcs (h ⟨i,h2⟩)
 | agg a =>
  have h:∀i:Fin a.size,∃x,VR ρ x a[i]:=λi=>let ⟨x,h,_⟩:=Y9 ρ a[i];⟨x,h⟩;refine⟨.agg (Array.ofFn λi=>qc9 (h i)),.agg (by simp) λi x y hx hy=>?_,λk n e=>by cases e⟩;obtain⟨h1,e1⟩:=q3h.1 hx;obtain⟨h2,e2⟩:=q3h.1 hy;rw[<- e1,<- e2,qd9];exact qcs (h ⟨i,h2⟩)
 | pointer a =>
  cases a with
  | none=>exact⟨_,.ptrNil,λk n e=>by cases e⟩
  | some a=>exact⟨_,.wild _ rfl,λk n e=>by cases e⟩
 | slice a n c =>
  cases a with
  | none=>exact⟨_,.sliceNil n c,λk n e=>by cases e⟩
  | some a=>exact⟨_,.wild _ rfl,λk n e=>by cases e⟩
 | map r =>
  cases r with
  | none=>exact⟨_,.mapNil,λk n e=>by cases e⟩
  | some a=>exact⟨_,.wild _ rfl,λk n e=>by cases e⟩
 | func f a c =>
  cases f with
  | method n=>exact⟨_,.meth n a c,λk n e=>by cases e⟩
  | _=>exact⟨_,.wild _ rfl,λk n e=>by cases e⟩
 | nilFunc=>exact⟨_,.nilFunc,λk n e=>by cases e⟩
 | nilIface=>exact⟨_,.nilIface,λk n e=>by cases e⟩
 | _=>exact⟨_,.wild _ rfl,λk n e=>by cases e⟩
termination_by SizeOf.sizeOf y
decreasing_by
 all_goals
  subst_vars
  have:=Array.sizeOf_get a i.1 i.2;simp only[Value.agg.sizeOf_spec,Value.tuple.sizeOf_spec];have e:a[i]=a[i.1]:=rfl;rw[e];omega
noncomputable def xd(ρ:Ren)(cs:Array q4k):Array q4k:=Array.ofFn λi:Fin cs.size=>qc9 (Y9 ρ cs[i])
theorem q6o(ρ:Ren)(cs:Array q4k):AsR ρ (xd ρ cs) cs:=by
 refine⟨by simp[xd],λi x y hx hy=>?_⟩;obtain⟨h1,e1⟩:=q3h.1 hx;obtain⟨h2,e2⟩:=q3h.1 hy;rw[<- e1,<- e2];simp only[xd,qd9];exact(qcs (Y9 ρ cs[i])).1
theorem KN(ρ:Ren)(cs:Array q4k){i:Nat}{k:IntKind}{n:Int}(h:cs[i]?=some (.int k n)):(xd ρ cs)[i]?=some (.int k n):=by
 obtain⟨h2,e2⟩:=q3h.1 h;have h1:i<(xd ρ cs).size:=by simp[xd,h2]
 rw[q8B h1];simp only[xd,qd9];have:=(qcs (Y9 ρ cs[i])).2 k n e2;exact congrArg some (this.trans e2)
def JW(kn:Nat->Bool)(n:Nat):Ren:=(q99 n).map λi=>if kn i then some i else none
theorem vW{kn:Nat->Bool}{n i j:Nat}:BR (JW kn n) i j↔i<n/\kn i=true/\j=i:=by
 unfold BR JW;rw[List.getElem?_map];by_cases h:i<n
 ·rw[List.getElem?_range h,qaC]
  by_cases hk:kn i=true
  ·rw[if_pos hk]
   exact⟨λe=>⟨h,hk,by cases e;rfl⟩,λ⟨_,_,e⟩=>by rw[e]⟩
  ·rw[if_neg hk]
   exact⟨λe=>(by cases e),λ⟨_,h2,_⟩=>absurd h2 hk⟩
 ·rw[qcd (by rw[List.length_range];omega)]
  exact⟨λe=>(by cases e),λ⟨h1,_,_⟩=>absurd h1 h⟩
noncomputable def maskO(ρ:Ren):Obj->Obj
 | .cells cs e f=>.cells (xd ρ cs) e (0,cs.size+f.2)
 | _=>.cells #[] 0 (0,0)
noncomputable def Qn(kn:Nat->Bool)(W:q2v):q2v :=
 { W with heap:=Array.ofFn λi:Fin W.heap.size=>if kn i then maskO (JW kn W.heap.size) W.heap[i] else .cells #[] 0 (0,0) }
theorem vO(kn:Nat->Bool)(W:q2v):(Qn kn W).heap.size=W.heap.size:=by simp[Qn]
theorem vj{kn:Nat->Bool}{W:q2v}{i:Nat}{cs:Array q4k}{e:q7x}{f:Nat × Nat}(hk:kn i=true)(h:W.heap[i]?=some (.cells cs e f)) :
  (Qn kn W).heap[i]?=some (.cells (xd (JW kn W.heap.size) cs) e (0,cs.size+f.2)):=by
 obtain⟨h1,e1⟩:=q3h.1 h;have h2:i<(Qn kn W).heap.size:=by rw[vO];exact h1
 rw[q8B h2];simp only[Qn,qd9,hk,if_true,Fin.getElem_fin];rw[e1];rfl
theorem KP{kn:Nat->Bool}{W:q2v}{i:Nat}{o:Obj}(hk:¬ kn i=true)(h:(Qn kn W).heap[i]?=some o):o=.cells #[] 0 (0,0):=by
 obtain⟨h1,e1⟩:=q3h.1 h;rw[<- e1];simp only[Qn,qd9];rw[if_neg hk]
theorem q95(Q:q7m)(a6:∀i,¬ JunkSet.jk i){kn:Nat->Bool}{W:q2v}(Z:∀i,kn i=true->i<W.heap.size->∃cs e f,W.heap[i]?=some (.cells cs e f)) :
  WR Q W.heap.size (JW kn W.heap.size) (Qn kn W) W where
 len:=by rw[vO];simp[JW]
 nodup i i' j h h':=by
  obtain⟨_,_,e⟩:=vW.1 h;obtain⟨_,_,e'⟩:=vW.1 h';omega
 lt i j h:=by
  obtain⟨h1,_,e⟩:=vW.1 h;omega
 obj i j o h ho:=by
  obtain⟨h1,hk,rfl⟩:=vW.1 h;obtain⟨cs,e,f,hW⟩:=Z j hk h1;rw[vj hk hW] at ho;cases ho;refine .inr ⟨a6 j,_,hW,.cells e (q6o _ _) λo h1 h2=>?_⟩;simp only;omega
 low i hi:=by
  by_cases hk:kn i=true
  ·obtain⟨cs,e,f,hW⟩:=Z i hk hi
   refine⟨_,_,_,vj hk hW,λo ho=>?_⟩;have:(xd (JW kn W.heap.size) cs).size=cs.size:=by simp[xd]
   simp only;omega
  ·have h2:i<(Qn kn W).heap.size:=by rw[vO];exact hi
   have:=KP hk (q8B h2);refine⟨#[],0,(0,0),by rw[q8B h2,this],λo ho=>?_⟩;simp at ho
 env:=rfl
 below i h:=absurd h (a6 i)
 gar i o ho:=by
  right;by_cases hk:kn i=true
  ·have h1:i<W.heap.size:=by rw[<- vO kn W];exact(q3h.1 ho).1
   obtain⟨cs,e,f,hW⟩:=Z i hk h1;rw[vj hk hW] at ho;cases ho;rfl
  ·rw[KP hk ho]
   rfl
end
section
variable[J:JunkSet]{Q P:q7m}{f:qam}{Post:q4k->q2v->Prop}
theorem EL.begin(D:Two Q P)(hok:JunkSet.okf f)(hs:Q.funcs[f]?=P.funcs[f]?)(a6:∀i,¬ JunkSet.jk i){kn:Nat->Bool}{W:q2v}(hg:P.globals.size<W.heap.size)(a7:∀i,i<=P.globals.size->kn i=true)
  (Z:∀i,kn i=true->i<W.heap.size->∃cs e f,W.heap[i]?=some (.cells cs e f)) {aq ap:Array q4k} (ha:AsR (JW kn W.heap.size) aq ap)
  (h:EL Q P f Post W (G (q9v Q f aq .normal) [qi f]) (Qn kn W)):Ends P Post (solo (G (q9v P f ap .normal) []) W) #[]:=by
 refine E.solo (cl:=λ_=>.mine 0) ?_ λ_=>rfl;have hb:W.heap.size<=(JW kn W.heap.size).length:=by simp[JW]
 refine h (JW kn W.heap.size) _ W (λ_=>.mine 0) ⟨q95 Q a6 Z,hb,λi hi=>vW.2 ⟨by omega,a7 i hi,rfl⟩,⟨[],rfl⟩,jQ P f ap [qi f],Yt D.H hok hs ha,rfl⟩ (λi j _=>rfl) (λ_ _=>rfl)
  ⟨λ_ _ _=>rfl,rfl,rfl,q4u _,λi j hij hi=>?_,q4u _⟩ λ_ _=>rfl
 obtain⟨h1,_,_⟩:=vW.1 hij;omega
theorem q3u{fr:q7n}{g:q4y}{fn:Func}{v:q4k}{w:q2v}(Z:g.frame=fr)(hcs:g.callers=[])(hst:g.status=.running)(a6:g.dying=none)(hin:P.inits.idxOf? fr.fn=none)(hm:fr.mode=.returning)(hn:fr.kind=.normal)(hd:fr.defers=[])(hf:P.funcs[fr.fn]?=some fn)
  (hr:(results fn fr.tmps).run P w=.ok v w) (he:(results fn fr.tmps).events P w #[]=#[]) :
  qag P true g w=.ended (.done v) w #[]:=by
 obtain⟨a7,cs,st,dy,off⟩:=g;dsimp only at Z hcs hst a6;subst Z hcs hst a6;simp[qag,unwind,qbh,hn,hd,hf,hr,he,hm,seen,qan,hin]
theorem EL.last{W:q2v}{b:q7n}{a:Act}{todo:List qcG}{fn:Func}{t:Nat}{r:Bool}{u:q2v}(hin:P.inits.idxOf? b.fn=none)(hn:b.kind=.normal)(hd:a.defers=[])(hf:P.funcs[b.fn]?=some fn)(hr:fn.results=#[.tmp t])
  (hv:a.tmps.getD t q4D=.bool r) (a6:∀w,(∀j,j<W.heap.size->w.heap[j]?=W.heap[j]?)->w.os=W.os->w.output=W.output->W.heap.size<=w.heap.size->Post (.bool r) w) :
  EL Q P f Post W (G { b.at a todo with mode:=.returning } [qi f]) u:=by
 intro ρ g' w cl ⟨hw,a8,hgl,_,gv,hg,e⟩ ho hc hk hm;subst e;have hcs:=hg.callers;obtain⟨fr,cs,st,dy,off⟩:=gv;have hst:st=.running:=hg.st';have a7:dy=none:=hg.dy';subst hst a7;cases hcs with
 | cons h1 h2 =>
  cases h2;have Z:=hg.frame;have e1:=Z.fn;have e2:=Z.kind;have e3:=Z.tmps;have e4:=Z.defers;have e5:=Z.mode;obtain⟨a9,tmps,td,b0,mode,kind,ro⟩:=fr;simp only[Frame.at,G] at e1 e2 e3 e4 e5;rw[hd] at e4;cases e4;cases e5;subst e1;subst e2;have h1:=e3.getD t (yV ρ);rw[hv] at h1;have h2:tmps.getD t q4D=.bool r:=by
   generalize tmps.getD t q4D=z at h1;cases h1;rfl
  refine E.done rfl λd=>⟨.bool r,w.at d,#[],?_,by simp,?_⟩
  ·exact q3u rfl rfl rfl rfl hin rfl hn rfl hf (by rw[results_tmp hr _ P _];exact congrArg (λz=>Result.ok z (w.at d)) h2) (events_results_tmp hr _ _)
  ·exact a6 _ (λj hj=>hk.old j hj λi hi=>Nat.lt_of_not_le λh=>by
    have h3:=hk.inn i j hi h;omega) hk.os hk.output hk.size
end
end Go.Co
end
