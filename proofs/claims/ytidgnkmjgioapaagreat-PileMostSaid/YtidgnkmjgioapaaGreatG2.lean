/-
  Part 2 of the proof. gladstonelaw04.PileMost answers true for every list of numbers, and leaves its argument as it was. No conditions.
-/
import Derived.Test.YtidgnkmjgioapaaGreatG1
import Derived.Conc.CrowdTrace
import Derived.Conc.CrowdRun
import Derived.Orders
import Derived.WalkKit
import Derived.Conc.WgGenN3
set_option maxRecDepth 100000
set_option maxHeartbeats 8000000
set_option linter.all false
open Array renaming all_eq_true_iff_forall_mem → qbu,getD_eq_getD_getElem? → qbm,getElem?_eq_getElem → q9w,getElem?_eq_some_iff → q45,getElem?_setIfInBounds → qav,getElem?_setIfInBounds_ne → qbj,getElem_ofFn → qe2,mem_map → qef,mem_of_getElem? → qby,replicate → qb4
open Bool renaming and_eq_true → q9b,false_eq_true → qa5,not_eq_true' → qcE,or_eq_true → qcy
open Classical renaming byContradiction → qbw,choose → qd3,choose_spec → qdl
open Go renaming Addr → qb9,Calls → qaD,Code → qcm,CommCase → qda,CommShape → qcB,Deferred → qc3,Event → qbr,Frame → q8c,FuncId → qbe,GStep → qcu,GoStatus → qd0,Goroutine → q5r,Item → qdy,MapEntry → qdm,Next → qe4,Oper → qbz,Operand → qaH,Program → q8b,Question → qc7,TypeId → q8u,Value → q58,World → q3g,callDeferred → qc6,deafBehind → qd4,doReturn → qc9,stepG → qb7,step_lone_go → qez,tryRecover → q9A,undef → q5s
open Go.Conc renaming Deaf_other → qdC,aside_setCell → qe6,crowd → qdn,getElem?_append_cases → qei,ofEvents_eq → qea,runT_crowd_go → qeg,semEvents → qe3,stepG_region_end → q5t,stepG_ret' → qcC,stepG_seq → q89,stepG_skip → qbq,touchAt → qeq,woken_quitsD → qeb
open Go.Conc.Goes renaming cases → qdh,rely → qdt,running → qcw,stop → qca
open Go.ConcN renaming Mode → qeh,WgLive → qcF,get_map_set → qdq,get_map_set_same → qdH,sumTo → qem,upd_ne → qdA,upd_same → qd2
open Go.ConcN.Gen.WgLive renaming cell0 → qec,cell1 → qbb
open Go.ConcR renaming mk → qcp,WgAt → qew
open Go.Frame renaming enter → qan,finish_at → qcr
open Go.GStep renaming after → qbf
open Go.Instr renaming endRound → qcH
open Go.MemAct renaming ofEvent → qbv,touch? → qcj
open Go.MemOp renaming ofEvents → qcg
open Go.Region renaming Mode → qdr,binds → qb8,ready → q91,schedule → qeu,wanted → qb0
open Go.Region.linearise renaming go → qb5
open Go.Sem renaming run → qbk,runT_eq → qad
open Go.stepG renaming apply → qbn,exec → qd9
open List renaming all_eq_true → qau,append_assoc → qc1,cons_append → q9y,getElem?_append_left → qaj,getElem?_eq_none → qd5,length_cons → q8l,length_filter_le → qcd,mem_cons → qbx,mem_of_getElem? → q8z,mem_range → qcn,mem_toArray → qde,nil_append → qae,not_mem_nil → qc2,range → qa4
open List.cons renaming injEq → qd1
open Nat renaming le_refl → q5m,le_trans → q87,lt_of_lt_of_le → q8m,lt_or_ge → qbF,mul_lt_mul_of_pos_left → qen,zero_add → q9m,zero_le → qa8
open Option renaming getD_some → q88,map_eq_some_iff → qdF,map_some → qbt
open Option.some renaming injEq → qaz
section
namespace Go.Sim
section
variable[JunkSet]{Q P:q8b}{base:Nat}{F:q5r->q3g->Prop}{f:qbe}{real:List q8c}
theorem q5n{ρ:Ren}{b:q8c}(h:qu Q P ρ (qj f) b):b=qj f:=by
 obtain⟨fn,tmps,todo,defers,mode,kind,ro⟩:=b;obtain⟨h1,_,_,h4,h5,h6,h7,h8,h9⟩:=h;dsimp only[qj] at h1 h4 h5 h6 h7 h8 h9;have e4:tmps=#[]:=by
  have:=h4.1;exact Array.eq_empty_of_size_eq_zero (by simpa using this.symm)
 have e5:todo=[.code (.exit 0)]:=by
  cases h5 with
  | cons hx hk=>cases hx;cases hk;rfl
 have e6:defers=[{ target:=.nil,args:=#[] }]:=by
  cases h6 with
  | cons hx hk =>
   cases hk
   rename_i d
   obtain⟨t,a⟩:=d;rcases hx with⟨ht,ha⟩ | ⟨h1,_,_⟩
   case bound=>cases h1
   dsimp only at ht ha;cases ht;have:a=#[]:=Array.eq_empty_of_size_eq_zero (by simpa using ha.1.symm);rw[this]
 have e7:mode=.run:=by cases h7;rfl
 have e9:ro=none:=by
  rcases h9 with⟨_,h⟩ | ⟨_,_,h,_⟩
  ·exact h
  ·cases h
 subst e4 e5 e6 e7 e9;subst h1;subst h8;rfl
theorem vu{ρ:Ren}:∀{pre cs':List q8c},LsR (qu Q P ρ) (pre++[qj f]) cs'->∃pre',cs'=pre'++[qj f]/\LsR (qu Q P ρ) pre pre':=by
 intro pre;induction pre with
 | nil =>
  intro cs' h;cases h with
  | cons hx hk=>cases hk;exact⟨[],by rw[q5n hx];rfl,.nil⟩
 | cons p pre ih =>
  intro cs' h;cases h with
  | cons hx hk =>
   obtain⟨pre',e,hp⟩:=ih hk;exact⟨_::pre',by rw[e];rfl,.cons hx hp⟩
structure Sub(Q P:q8b)(base:Nat)(F:q5r->q3g->Prop)(f:qbe)(real:List q8c)(ρ:Ren)(g:q5r)(wq:q3g)(g':q5r)(w:q3g):Prop where
 len:base<=ρ.length
 wr:WR Q base ρ wq w
 gl:Gl P ρ
 tree:LT Q F g wq
 stack:∃pre,g.callers=pre++[qj f]
 rel:∃gv,kH Q P ρ g gv/\g'=swap real gv
theorem Yn{ρ:Ren}{g gv:q5r}(h:kH Q P ρ g gv):q6t gv:=λr a k e=>by
 have:=h.frame.todo;rw[e] at this;generalize g.frame.todo=l at this;cases this with
 | cons hx _=>cases hx
theorem Sub.ret(H:Duo Q P){c:q8c}{ρ:Ren}{g:q5r}{wq:q3g}{g':q5r}{w:q3g}(h:Sub Q P base F f (c::real) ρ g wq g' w)(hcs:g.callers=[qj f]){T:Nat->qc7->Nat}{v:q58}(hl:g.frame.leaving Q (wq.tp T) (.returned v))(b:Bool) :
  ∃σ wq1 v' w1 es,qb7 P b g' w true=.go { frame:=c.finish v',callers:=real,status:=.running,dying:=none } w1 es/\VR σ v v'/\WR Q base σ wq1 w1/\wq1=wq.tp T/\Eff base ρ σ w w1/\(∀e∈es,kK base σ e):=by
 obtain⟨gv,hg,rfl⟩:=h.rel;obtain⟨hm,hd,hk,fn,hfn,a7⟩:=hl;obtain⟨fr,cs,st,dy,off⟩:=g;obtain⟨Z,cs',st',dy',a9⟩:=gv;obtain⟨h1,h2,h3,h4,h5,h6⟩:=hg;dsimp only at h1 h2 h3 h4 h5 h6 hm hd hk hfn a7 hcs;subst h6;subst hcs;obtain⟨pre',hp,hl⟩:=vu (pre:=[]) h2;cases hl;have hp:cs'=[qj f]:=hp;subst hp;obtain⟨gf,b0,c8⟩:=h1.same;have c9:fn=gf:=by rw[hfn] at b0;exact Option.some.inj b0
 subst c9;have hm':Z.mode=.returning:=by
  have:=h1.mode;rw[hm] at this;generalize Z.mode=m at this;cases this;rfl
 have d7:Z.defers=[]:=by
  have:=h1.defers;rw[hd] at this;generalize Z.defers=m at this;cases this;rfl
 have hk':Z.kind=.normal:=h1.kind.trans hk;have hs:=QJ H h.gl fn h1.tmps (Q:=Q) (P:=P);have b8:=Dry.run Q (w:=wq.tp T) (Ji fn fr.tmps);have c3:WR Q base ρ (wq.tp T) w:=⟨h.wr.len,h.wr.nodup,h.wr.lt,h.wr.obj,h.wr.low,h.wr.env,h.wr.below,h.wr.gar⟩
 obtain⟨σ,d8,w2,a8,a6,hes,d5,b9,_,d6,_⟩:=SR.runs (es:=#[]) (D:=(wq.tp T).drawn) hs h.len c3 (λn q hn=>absurd hn (by omega)) (Nat.le_of_eq b8) (by rw[a7];trivial);rw[a7] at a6;have hst:∀{v'},qbk P (results fn Z.tmps) w=.ok v' w2->qb7 P b (swap (c::real) { frame:=Z,callers:=[qj f],status:=st',dying:=none,offers:=a9 }) w true =
   .go { frame:=c.finish v',callers:=real,status:=.running,dying:=none } w2 (seen P Z.fn a8):=by
  intro v' hr;have b7:(results fn Z.tmps).events P w #[]=a8:=by
   show((results fn Z.tmps).runT P w #[]).2=a8;rw[hes];simp
  have b6:P.funcs[Z.fn]?=some fn:=by rw[h1.fn];exact c8
  simp[qb7,swap,hm',unwind,d7,b6,qad,hr,b7,qc9,hk',qbf]
 generalize hr:qbk P (results fn Z.tmps) w=r at a6;cases a6 with
 | ok _ _ hv=>exact⟨σ,_,_,w2,_,hst hr,hv,b9,rfl,d6,λe he=>d5 e (km _ _ _ e he)⟩
theorem q1v{ρ:Ren}(hf:Q.inits.idxOf? f=none)(hs:∃g,Q.funcs[f]?=some g/\P.funcs[f]?=some g):qu Q P ρ (qj f) (qj f) :=
 ⟨rfl,hs,hf,⟨rfl,λi x y hx=>by simp[qj] at hx⟩,.cons (.code (.exit 0)) .nil,.cons (.mk .nil ⟨rfl,λi x y hx=>by simp at hx⟩) .nil,.run,rfl,.inl ⟨rfl,rfl⟩⟩
theorem YM(H:Duo Q P){ρ:Ren}(hf:JunkSet.okf f)(hs:Q.funcs[f]?=P.funcs[f]?){a a':Array q58}(ha:AsR ρ a a'):kH Q P ρ (yd Q f a [qj f]) (yd P f a' [qj f]):=by
 obtain⟨fq,fp,h1,h2,_⟩:=H.funcs f hf;have e:fp=fq:=by rw[h1,h2] at hs;exact(Option.some.inj hs).symm
 subst e;exact⟨enterR H hf hs ha .normal,.cons (q1v (H.inits f hf) ⟨fp,h1,h2⟩) .nil,rfl,rfl,rfl,rfl⟩
theorem Sub.enter(H:Duo Q P){ρ:Ren}(hf:JunkSet.okf f)(hs:Q.funcs[f]?=P.funcs[f]?){a a':Array q58}(ha:AsR ρ a a'){wq w:q3g}(hb:base<=ρ.length)(hw:WR Q base ρ wq w)(hG:Gl P ρ)(ht:LT Q F (yd Q f a [qj f]) wq) :
  Sub Q P base F f real ρ (yd Q f a [qj f]) wq { frame:=qan P f a' .normal,callers:=real,status:=.running,dying:=none } w :=
 ⟨hb,hw,hG,ht,⟨[],rfl⟩,yd P f a' [qj f],YM H hf hs ha,rfl⟩
end
end Go.Sim
end
section
namespace Go.Sim
section
variable[JunkSet]{Q:q8b}{ρ:Ren}{base:Nat}{wq w:q3g}
end
end Go.Sim
end
section
namespace Go.Sim
section
variable[JunkSet]{Q P:q8b}{base:Nat}{F:q5r->q3g->Prop}{f:qbe}{real:List q8c}
structure KSub(Q P:q8b)(base:Nat)(F:q5r->q3g->Prop)(f:qbe)(real:List q8c)(ρ:Ren)(fk:qbe)(k:CallKind)(a a':Array q58)(c c':q8c)(pre pre':List q8c)(wq w:q3g):Prop where
 len:base<=ρ.length
 wr:WR Q base ρ wq w
 gl:Gl P ρ
 tree:LT Q F { frame:=qan Q fk a k,callers:=c::(pre++[qj f]),status:=.running,dying:=none } wq
 diff:Q.funcs[fk]?≠P.funcs[fk]?
 okf:JunkSet.okf fk
 args:AsR ρ a a'
 top:qu Q P ρ c c'
 rest:LsR (qu Q P ρ) pre pre'
theorem Sub.stepK(H:Duo Q P)(hrf:P.follows .rangeFuncRecover=true)(hR:∀fr,q9A fr real=none){ρ:Ren}{g:q5r}{wq:q3g}{g':q5r}{w:q3g}(h:Sub Q P base F f real ρ g wq g' w)(hn:¬ F g wq)(b:Bool)
  (hF:∀g u,F g u->g.callers≠[]) :
  ∃σ g1 wq1 g1' w1 es,qb7 P b g' w true=.go g1' w1 es/\Below Q F (g1,wq1) (g,wq)/\Eff base ρ σ w w1/\(∀e∈es,kK base σ e)/\Live g1' /\
   (Sub Q P base F f real σ g1 wq1 g1' w1\/∃fk k a a' c c' pre pre',KSub Q P base F f real σ fk k a a' c c' pre pre' wq1 w1 /\
    g1={ frame:=qan Q fk a k,callers:=c::(pre++[qj f]),status:=.running,dying:=none } /\
    g1'={ frame:=qan P fk a' k,callers:=c'::(pre'++real),status:=.running,dying:=none }):=by
 obtain⟨gv,hg,rfl⟩:=h.rel;obtain⟨pre,b0⟩:=h.stack;have hcs:=hg.callers;rw[b0] at hcs;obtain⟨pre',a9,_⟩:=vu hcs;obtain⟨σ,g1,wq1,b7,w1,es,k0,k1,k2,k3,k4,k5,k6,k7,k8,b9,hd1⟩:=Yt H h.len h.wr h.gl hg h.tree hn b;obtain⟨_,T,es1,e1⟩:=k6;dsimp only at e1;have c3:Q.follows .rangeFuncRecover=true:=H.rfr;have a8:g1.callers≠[]:=λa8=>by
  rcases xK (f:=f) c3 b0 hg.dy (wq.tp T) g1 wq1 es1 e1 b9 hd1 with⟨Z,hh⟩ | ⟨_,hp⟩
  ·rw[a8] at hh
   cases Z<;>simp at hh
  ·cases k5 with
   | done hh=>exact hF _ _ hh a8
   | step _ h1 _ =>
    obtain⟨g2,u2,d6,e2,_,_⟩:=h1 wq1.tape;obtain⟨d5,d8,c9,d7,b8⟩:=g1;dsimp only at a8 hp hd1;subst a8;subst hd1;obtain⟨o,u3,es3,h3⟩:=xP (Q:=Q) hp c9 b8 (wq1.tp wq1.tape);rw[h3] at e2;cases e2
 have hst:∃Z,g1.callers=Z++[qj f]:=by
  rcases xK (f:=f) c3 b0 hg.dy (wq.tp T) g1 wq1 es1 e1 b9 hd1 with hh | ⟨hh,_⟩
  ·exact hh
  ·exact absurd hh a8
 obtain⟨Z,a7⟩:=hst;rcases k1 with⟨_,k1⟩ | ⟨fk,k,a,a',c,c',cs,cs',hne,hok,rfl,rfl,ha,hc,hcs1,hm⟩
 ·have hcs1:=k1.callers
  rw[a7] at hcs1;obtain⟨a6,c8,_⟩:=vu hcs1;have b6:=KA hrf hR (f:=f) a9 hg.dy' b b w b7 w1 es k0 ⟨k1.st',k1.dy'⟩ (by rw[c8];simp) (Yn k1);exact⟨σ,g1,wq1,swap real b7,w1,es,b6,⟨hn,T,es1,e1⟩,k7,k8,⟨k1.st',k1.dy'⟩,.inl ⟨k4,k2,k3,k5,⟨Z,a7⟩,b7,k1,rfl⟩⟩
 ·cases Z with
  | nil =>
   exfalso;simp only[qae,qd1] at a7;rw[a7.1] at hm;rcases hm with hm | hm
   ·exact hm rfl
   ·exact hm _ _ rfl
  | cons p Z =>
   simp only[q9y,qd1] at a7;obtain⟨rfl,rfl⟩:=a7;obtain⟨a6,rfl,hl⟩:=vu hcs1;have b6:=KA hrf hR (f:=f) a9 hg.dy' b b w _ w1 es k0 ⟨rfl,rfl⟩ (by simp) (by intro r x l hx;unfold qan at hx;simp at hx);refine⟨σ,_,wq1,_,w1,es,b6,⟨hn,T,es1,e1⟩,k7,k8,⟨rfl,rfl⟩,.inr ⟨fk,k,a,a',c,c',Z,a6,⟨k4,k2,k3,k5,hne,hok,ha,hc,hl⟩,rfl,?_⟩⟩;have:c'::(a6++[qj f])=(c'::a6)++[qj f]:=rfl;simp only[swap,this,List.dropLast_concat];rfl
end
end Go.Sim
end
section
namespace Go.Co
open Go.Conc Go.ConcN
inductive Cl where
 | mine (g:Nat)
 | ro (lo:Nat)
 | sync
def blk:Loc->Option Nat
 | .cell a=>some a.block
 | .obj r=>some r
 | _=>none
theorem blk_mem{l:Loc}(h:l.isMemory=true):∃b,blk l=some b:=by
 cases l<;>first | exact⟨_,rfl⟩ | cases h
structure Tr(cl:Nat->Cl)(n size:Nat)(t:Trace):Prop where
 inb:∀i a b,qeq t i=some a->blk a.loc=some b->b<size
 sync:∀i a b,qeq t i=some a->blk a.loc=some b->cl b=.sync->a.kind≠.plain/\(a.kind=.said->t.g? i=some 0)
 plain:∀i a b,qeq t i=some a->blk a.loc=some b->cl b≠.sync->a.kind=.plain
 mine:∀i a b g,qeq t i=some a->blk a.loc=some b->cl b=.mine g->Knows t g i
 ro:∀i a b lo,qeq t i=some a->blk a.loc=some b->cl b=.ro lo->a.write=true->Knows t 0 i/\∀g,lo<=g->g<n->Knows t g i
 nr:∀said,¬ Race said t
 gs:∀(i:Nat) (op:MemOp),t[i]?=some op->op.g<n
def MayT(cl:Nat->Cl)(size g:Nat)(x:Touch):Prop:=∀b,blk x.loc=some b->b<size /\
 ((cl b=.mine g/\x.kind=.plain)\/(∃lo,cl b=.ro lo/\(g=0\/lo<=g)/\x.write=false/\x.kind=.plain)\/(cl b=.sync/\x.kind≠.plain/\(x.kind=.said->g=0)))
def MayOp(cl:Nat->Cl)(size g:Nat)(op:MemOp):Prop:=op.g=g/\∀x,op.act.touch?=some x->MayT cl size g x
section
variable{cl cl':Nat->Cl}{n size size' g:Nat}{t u:Trace}
theorem ka{i:Nat}{a:Touch}(h:qeq (t++u) i=some a):(i<t.size/\qeq t i=some a)\/(t.size<=i/\∃op,(t++u)[i]?=some op/\op∈u/\op.act.touch?=some a):=by
 obtain⟨x,hx,Z⟩:=touch_of h;rcases qei hx with⟨hi,hx'⟩ | ⟨hi,hxu⟩
 ·exact .inl ⟨hi,by rw[touchAt_of hx'];exact Z⟩
 ·exact .inr ⟨hi,x,hx,hxu,Z⟩
theorem q0e{i:Nat}{op:MemOp}(h:t[i]?=some op):t.g? i=some op.g:=by simp[Trace.g?,h]
theorem Tr.fresh'(h:Tr cl n size t){m:Nat}(hm:∀i a b,qeq t i=some a->blk a.loc=some b->b<m)(hc:∀b,b<m->cl' b=cl b):Tr cl' n size t :=
 ⟨h.inb,λi a b h1 h2 h3=>h.sync i a b h1 h2 (by rw[<- hc b (hm i a b h1 h2)];exact h3),λi a b h1 h2 h3=>h.plain i a b h1 h2 (by rw[<- hc b (hm i a b h1 h2)];exact h3),
  λi a b g h1 h2 h3=>h.mine i a b g h1 h2 (by rw[<- hc b (hm i a b h1 h2)];exact h3),
  λi a b lo h1 h2 h3=>h.ro i a b lo h1 h2 (by rw[<- hc b (hm i a b h1 h2)];exact h3),h.nr,h.gs⟩
theorem Tr.grow(h:Tr cl n size t)(hs:size<=size'):Tr cl n size' t :=
 ⟨λi a b h1 h2=>q8m (h.inb i a b h1 h2) hs,h.sync,h.plain,h.mine,h.ro,h.nr,h.gs⟩
theorem Tr.step(h:Tr cl n size t)(hg:g<n)(hu:∀op∈u,MayOp cl size g op):Tr cl n size (t++u):=by
 refine⟨λi a b h1 h2=>?_,λi a b h1 h2 h3=>?_,λi a b h1 h2 h3=>?_,λi a b g' h1 h2 h3=>?_,λi a b lo h1 h2 h3 h4=>?_,λsaid=>?_,λi op hi=>?_⟩
 ·rcases ka h1 with⟨_,h1⟩ | ⟨_,op,_,hop,hx⟩
  ·exact h.inb i a b h1 h2
  ·exact((hu op hop).2 a hx b h2).1
 ·rcases ka h1 with⟨hi,h1⟩ | ⟨_,op,ho,hop,hx⟩
  ·obtain⟨k1,k2⟩:=h.sync i a b h1 h2 h3
   exact⟨k1,λe=>by rw[g?_old hi];exact k2 e⟩
  ·rcases((hu op hop).2 a hx b h2).2 with⟨k,_⟩ | ⟨lo,k,_⟩ | ⟨_,k1,k2⟩
   ·rw[h3] at k;cases k
   ·rw[h3] at k;cases k
   ·exact⟨k1,λe=>by rw[q0e ho,(hu op hop).1,k2 e]⟩
 ·rcases ka h1 with⟨_,h1⟩ | ⟨_,op,ho,hop,hx⟩
  ·exact h.plain i a b h1 h2 h3
  ·rcases((hu op hop).2 a hx b h2).2 with⟨_,k⟩ | ⟨lo,_,_,_,k⟩ | ⟨k,_⟩
   ·exact k
   ·exact k
   ·exact absurd k h3
 ·rcases ka h1 with⟨_,h1⟩ | ⟨_,op,ho,hop,hx⟩
  ·exact(h.mine i a b g' h1 h2 h3).app u
  ·rcases((hu op hop).2 a hx b h2).2 with⟨k,_⟩ | ⟨lo,k,_⟩ | ⟨k,_⟩
   ·rw[h3] at k
    cases k;have:=knows_own ho
    rwa [(hu op hop).1] at this
   ·rw[h3] at k;cases k
   ·rw[h3] at k;cases k
 ·rcases ka h1 with⟨_,h1⟩ | ⟨_,op,ho,hop,hx⟩
  ·obtain⟨k1,k2⟩:=h.ro i a b lo h1 h2 h3 h4
   exact⟨k1.app u,λg' hl hn=>(k2 g' hl hn).app u⟩
  ·rcases((hu op hop).2 a hx b h2).2 with⟨k,_⟩ | ⟨lo,_,_,k,_⟩ | ⟨k,_⟩
   ·rw[h3] at k;cases k
   ·rw[h4] at k;cases k
   ·rw[h3] at k;cases k
 ·refine noRace_append (h.nr said) (λop hop=>(hu op hop).1) (λi a ha op hop b hb hc=>?_)
  obtain⟨a6,Z,a9,hk⟩:=hc;obtain⟨bb,hbb⟩:=blk_mem Z;have a7:blk b.loc=some bb:=by rw[<- a6];exact hbb
  rcases((hu op hop).2 b hb bb a7).2 with⟨k,_⟩ | ⟨lo,k,hgl,k1,_⟩ | ⟨k,k1,k2⟩
  ·exact h.mine i a bb g ha hbb k
  ·have b6:a.write=true:=a9.resolve_right (by simp[k1])
   obtain⟨m1,m2⟩:=h.ro i a bb lo ha hbb k b6;rcases hgl with rfl | hgl
   ·exact m1
   ·exact m2 g hgl hg
  ·obtain⟨m1,m2⟩:=h.sync i a bb ha hbb k
   rcases hk with hk | hk | ⟨_,hk,hk'⟩
   ·exact absurd hk m1
   ·exact absurd hk k1
   ·have e:=m2 hk
    have e':=k2 hk';obtain⟨z,hz,a8⟩:=qdF.1 e;have:=knows_own hz
    rwa [a8,<- e'] at this
 ·rcases qei hi with⟨_,b0⟩ | ⟨_,hiu⟩
  ·exact h.gs i op b0
  ·rw[(hu op hiu).1];exact hg
theorem vg{x y:MemOp}{k:Nat}{p:Nat}(hx:x.g=p/\x.act=.go k)(hy:y.g=k/\y.act=.start){i:Nat}{a:Touch}(h:qeq (t++#[x,y]) i=some a):i<t.size/\qeq t i=some a:=by
 rcases ka h with h | ⟨_,op,_,hop,hb⟩
 ·exact h
 ·simp only[qde,qbx,qc2,or_false] at hop
  rcases hop with rfl | rfl
  ·rw[hx.2] at hb;cases hb
  ·rw[hy.2] at hb;cases hb
theorem Tr.fork(h:Tr cl n size t)(a6:0<n){x y:MemOp}(hx:x.g=0/\x.act=.go n)(hy:y.g=n/\y.act=.start)(hd:Deaf t 0=0):Tr cl (n+1) size (t++#[x,y]):=by
 have hk:Deaf t n=0:=Deaf_absent λi op hi e=>by have:=h.gs i op hi;omega
 refine⟨λi a b h1 h2=>h.inb i a b (vg hx hy h1).2 h2,λi a b h1 h2 h3=>?_,λi a b h1 h2 h3=>h.plain i a b (vg hx hy h1).2 h2 h3,λi a b g h1 h2 h3=>(h.mine i a b g (vg hx hy h1).2 h2 h3).app _,
  λi a b lo h1 h2 h3 h4=>?_,λsaid=>?_,λi op hi=>?_⟩
 ·obtain⟨hi,h1⟩:=vg hx hy h1
  obtain⟨k1,k2⟩:=h.sync i a b h1 h2 h3;exact⟨k1,λe=>by rw[g?_old hi];exact k2 e⟩
 ·obtain⟨k1,k2⟩:=h.ro i a b lo (vg hx hy h1).2 h2 h3 h4
  refine⟨k1.app _,λg hl hn=>?_⟩;rcases qbF g n with hlt | hge
  ·exact(k2 g hl hlt).app _
  ·obtain rfl:g=n:=by omega
   exact fork_knows hx hy hd hk k1
 ·have hnt:∀op∈#[x,y],∀b,op.act.touch?=some b->False:=by
   intro op hop b hb;simp only[qde,qbx,qc2,or_false] at hop;rcases hop with rfl | rfl
   ·rw[hx.2] at hb;cases hb
   ·rw[hy.2] at hb;cases hb
  have e:t++#[x,y]=(t++#[x])++#[y]:=by apply Array.ext';simp
  rw[e];exact noRace_append (g:=n) (noRace_append (g:=0) (h.nr said) (λop hop=>by simp at hop;rw[hop];exact hx.1) (λi a _ op hop b hb _=>(hnt op (by simp at hop ⊢;exact .inl hop) b hb).elim))
   (λop hop=>by simp at hop;rw[hop];exact hy.1) (λi a _ op hop b hb _=>(hnt op (by simp at hop ⊢;exact .inr hop) b hb).elim)
 ·rcases qei hi with⟨_,Z⟩ | ⟨_,hiu⟩
  ·exact Nat.lt_succ_of_lt (h.gs i op Z)
  ·simp only[qde,qbx,qc2,or_false] at hiu
   rcases hiu with rfl | rfl
   ·rw[hx.1];omega
   ·rw[hy.1];exact Nat.lt_succ_self _
theorem Tr.fork_deaf(h:Tr cl n size t){x y:MemOp}(hx:x.g=0/\x.act=.go n)(hy:y.g=n/\y.act=.start)(g:Nat):Deaf (t++#[x,y]) n=0/\Deaf (t++#[x,y]) g=Deaf t g:=by
 have hk:Deaf t n=0:=Deaf_absent λi op hi e=>by have:=h.gs i op hi;omega
 have key:∀g,Deaf (t++#[x,y]) g=Deaf t g:=λg=>by
  have:=Deaf_append t g [x,y];simp only[List.foldl_cons,List.foldl_nil] at this;rw[show t++#[x,y]=t++[x,y].toArray from rfl,this];simp only[deafStep,hx.2,hy.2]
 exact⟨by rw[key,hk],key g⟩
theorem Tr.recl(h:Tr cl n size t)(hc:∀b,b<size->cl' b=cl b\/(cl b=.mine 0/\cl' b=.ro n)\/(cl b≠.sync/\cl' b=.mine 0/\∀i a,qeq t i=some a->blk a.loc=some b->Knows t 0 i)\/(cl' b=.sync/\∀i a,qeq t i=some a->blk a.loc≠some b)):Tr cl' n size t:=by
 refine⟨h.inb,λi a b h1 h2 h3=>?_,λi a b h1 h2 h3=>?_,λi a b g h1 h2 h3=>?_,λi a b lo h1 h2 h3 h4=>?_,h.nr,h.gs⟩
 ·rcases hc b (h.inb i a b h1 h2) with e | ⟨_,e⟩ | ⟨_,e,_⟩ | ⟨_,e⟩
  ·exact h.sync i a b h1 h2 (e ▸ h3)
  ·rw[h3] at e;cases e
  ·rw[h3] at e;cases e
  ·exact absurd h2 (e i a h1)
 ·rcases hc b (h.inb i a b h1 h2) with e | ⟨k,_⟩ | ⟨k,_,_⟩ | ⟨e,_⟩
  ·exact h.plain i a b h1 h2 (e ▸ h3)
  ·exact h.plain i a b h1 h2 (by rw[k];simp)
  ·exact h.plain i a b h1 h2 k
  ·exact absurd e h3
 ·rcases hc b (h.inb i a b h1 h2) with e | ⟨_,e⟩ | ⟨_,e,k⟩ | ⟨e,_⟩
  ·exact h.mine i a b g h1 h2 (e ▸ h3)
  ·rw[h3] at e;cases e
  ·rw[h3] at e;cases e;exact k i a h1 h2
  ·rw[h3] at e;cases e
 ·rcases hc b (h.inb i a b h1 h2) with e | ⟨k,e⟩ | ⟨_,e,_⟩ | ⟨e,_⟩
  ·exact h.ro i a b lo h1 h2 (e ▸ h3) h4
  ·rw[h3] at e
   cases e;exact⟨h.mine i a b 0 h1 h2 k,λg hl hn=>by omega⟩
  ·rw[h3] at e;cases e
  ·rw[h3] at e;cases e
def Hd(lo:Nat)(t:Trace):Prop:=∀i g,t.g? i=some g->g≠0->g<lo->t.counts i->Knows t 0 i
theorem Hd.app{lo:Nat}(h:Hd lo t)(hu:∀op∈u,op.g=0\/lo<=op.g\/op.act.touch?=none):Hd lo (t++u):=by
 intro i g hg hne hlo hc;obtain⟨op,ho,a6⟩:=qdF.1 hg;rcases qei ho with⟨hi,ho'⟩ | ⟨_,hou⟩
 ·exact(h i g (by rw[q0e ho',a6]) hne hlo ((counts_old hi).1 hc)).app u
 ·rcases hu op hou with e | e | e
  ·rw[a6] at e;exact absurd e hne
  ·omega
  ·obtain⟨x,hx,_⟩:=hc
   obtain⟨y,hy,Z⟩:=touch_of hx;rw[ho] at hy;cases hy;rw[e] at Z;cases Z
theorem Hd.join{lo:Nat}{a:qb9}(h:Hd lo t){q:Nat}(all:∀g,lo<=g->g≠0->(∃i,t.g? i=some g)->∃r,RelBy a t g r/\r<q)(hn:NoRelease a t)
  (hq:t.act? q=some (.mark (.acquire a))) (hg:t.g? q=some 0) (hh:t.heard q) (m:Nat):Hd m t:=by
 intro i g Z hne _ hc;rcases qbF g lo with hlt | hge
 ·exact h i g Z hne hlt hc
 ·obtain⟨r,hr,a8⟩:=all g hge hne ⟨i,Z⟩
  have a6:HappensBefore t r q:=.single (.inr ⟨.marked a8 (.inr hr.act) hq (λk _ _=>hn k),hr.heard,hh⟩);have hle:i<=r:=Nat.le_of_not_lt λhlt=>hr.after i hlt Z hc;obtain⟨z,hz,a7⟩:=qdF.1 hg;refine⟨q,z,hz,a7,.inr ?_⟩;rcases qbF i r with hlt | hge
  ·exact .trans (.single (.inl ⟨hlt,g,Z,hr.g⟩)) a6
  ·obtain rfl:i=r:=by omega
   exact a6
theorem Tr.known0(h:Tr cl n size t){m:Nat}(hd:Hd m t)(hm:n<=m){i:Nat}{a:Touch}{b:Nat}(h1:qeq t i=some a)(h2:blk a.loc=some b)(h3:cl b≠.sync):Knows t 0 i:=by
 obtain⟨x,hx,Z⟩:=touch_of h1;by_cases e:x.g=0
 ·have:=knows_own hx
  rwa [e] at this
 ·refine hd i x.g (q0e hx) e (q8m (h.gs i x hx) hm) ⟨a,h1,?_,.inl ?_⟩
  ·cases hl:a.loc<;>rw[hl] at h2<;>first | rfl | cases h2
  ·rw[h.plain i a b h1 h2 h3];decide
theorem q7p{m:Nat}(hd:Hd m t)(a6:∀(i:Nat) (op:MemOp),t[i]?=some op->op.g<m):t.HandedOver:=by
 intro i g hg hne hc;obtain⟨op,ho,Z⟩:=qdF.1 hg;obtain⟨q,z,h1,h2,h3⟩:=hd i g hg hne (by rw[<- Z];exact a6 i op ho) hc;refine⟨q,by rw[q0e h1,h2],?_⟩;rcases h3 with rfl | h3
 ·rw[ho] at h1
  cases h1;exact absurd (Z.symm.trans h2) hne
 ·exact h3
end
end Go.Co
end
section
namespace Go.Co
open Go.Conc Go.ConcN
open Go.ConcR (loc_of_ofEvent deafBehind_cons deafBehind_one g_of_ofEvents ofEvent_loc_mark)
def Ends(P:q8b)(Post:q58->q3g->Prop)(m:Machine)(t:Trace):Prop :=
 ∃N last o w' t',runNT P (N+1) m t=(.ended o w',t')/\runN P N m=.next last/\step P last=.ended o w'/\Go.Conc.Good P Post last o w' t'
section
variable{P:q8b}{Post:q58->q3g->Prop}{m m':Machine}{t:Trace}{ops:Array MemOp}
theorem Ends.next(hs:stepT P m=(.next m',ops))(h:Ends P Post m' (t++ops)):Ends P Post m t:=by
 obtain⟨N,last,o,w,t',h1,h2,h3,h4⟩:=h;exact⟨N+1,last,o,w,t',by rw[runNT_succ_next hs];exact h1,by rw[runN_succ_next hs];exact h2,h3,h4⟩
theorem Ends.ended{o:Outcome}{w:q3g}(hs:stepT P m=(.ended o w,ops))(h:Go.Conc.Good P Post m o w (t++ops)):Ends P Post m t :=
 ⟨0,m,o,w,t++ops,by simp[runNT,hs],rfl,by simp[step,hs],h⟩
end
def EvG(cl:Nat->Cl)(size g:Nat)(e:qbr):Prop:=(∀x,(qbv e).touch?=some x->MayT cl size g x)
def jw(e:qbr):Prop:=e.loc≠.mark .disable/\e.loc≠.mark .enable/\∀a,e.loc≠.mark (.release a)
section
variable{cl:Nat->Cl}{n size g d:Nat}{t:Trace}{es:Array qbr}{fn:qbe}{pos:String}
theorem ZQ(h:∀e∈es,EvG cl size g e):∀op∈qcg g fn pos es,MayOp cl size g op:=by
 intro op hop;rw[qea] at hop;obtain⟨e,he,rfl⟩:=qef.1 hop;exact⟨rfl,h e he⟩
theorem deafBehind_idle{es:Array qbr}(h:∀e∈es,jw e)(d:Nat):qd4 d es=d:=by
 obtain⟨l⟩:=es;induction l with
 | nil=>rfl
 | cons e l ih =>
  rw[deafBehind_cons,deafBehind_one (h e (by simp)).1 (h e (by simp)).2.1];exact ih λx hx=>h x (by simp at hx ⊢;exact .inr hx)
theorem Yo{e:qbr}(h:e.mute=true):(qbv e).touch?=none:=by
 obtain⟨Z,wr,sy⟩:=e;cases Z with
 | mark m=>cases m<;>first | rfl | cases h
 | _=>cases h
theorem Qv{es:Array qbr}(h:∀e∈es,e.mute=true):∀op∈qcg g fn pos es,op.g=g/\op.act.touch?=none:=by
 intro op hop;rw[qea] at hop;obtain⟨e,he,rfl⟩:=qef.1 hop;exact⟨rfl,Yo (h e he)⟩
end
section
variable{g:Nat}{es:Array qbr}{fn:qbe}{pos:String}
theorem q9u{a:qb9}{es:Array qbr}(h:∀e∈es,e.mute=true):∀op∈qcg g fn pos es,op.act≠.mark (.release a):=by
 intro op hop hm;rw[qea] at hop;obtain⟨x,hx,rfl⟩:=qef.1 hop;have h1:=h x hx;have h2:=loc_of_ofEvent hm;obtain⟨Z,wr,sy⟩:=x;simp only at h2;subst h2;cases h1
theorem KW{a:qb9}{es:Array qbr}(h:∀e∈es,jw e):∀op∈qcg g fn pos es,op.act≠.mark (.release a):=by
 intro op hop hm;rw[qea] at hop;obtain⟨x,hx,rfl⟩:=qef.1 hop;exact(h x hx).2.2 a (loc_of_ofEvent hm)
end
structure Al(P:q8b)(cl:Nat->Cl)(gs:Array q5r)(w:q3g)(t:Trace)(g0:q5r)(fu:Nat->Nat):Prop where
 main:gs[0]?=some g0
 lv:∀i,1<=i->i<gs.size->∃g,gs[i]?=some g/\QuitsD P (fu i) (Deaf t i) g
 tr:Tr cl gs.size w.heap.size t
 cl0:∀b,w.heap.size<=b->cl b=.mine 0
 d0:Deaf t 0=0
 hd:Hd gs.size t
 nor:∀a,NoRelease a t
def E(P:q8b)(Post:q58->q3g->Prop)(cl:Nat->Cl)(g0:q5r)(w:q3g):Prop :=
 ∀gs sl t fu,Al P cl gs w t g0 fu->Ends P Post (qdn gs w sl) t
section
variable{P:q8b}{Post:q58->q3g->Prop}{cl:Nat->Cl}{gs:Array q5r}{w:q3g}{t:Trace}{g0:q5r}{fu:Nat->Nat}{sl:Option (Nat × Nat)}
theorem Al.at(h:Al P cl gs w t g0 fu)(d:Nat):Al P cl gs (w.at d) t g0 fu:=⟨h.main,h.lv,h.tr,h.cl0,h.d0,h.hd,h.nor⟩
theorem J4{q d:Nat}{g:q5r}(h:QuitsD P q d g):awake g:=by
 intro tm;rcases h.status with e | e<;>rw[e]<;>simp
theorem Al.awake(h:Al P cl gs w t g0 fu)(h0:g0.status=.running):∀g∈gs,Go.Conc.awake g:=by
 intro g hg;obtain⟨i,hi⟩:=Array.mem_iff_getElem?.1 hg;cases i with
 | zero =>
  rw[h.main] at hi;cases hi;intro tm;rw[h0];simp
 | succ i =>
  obtain⟨g',Z,hq⟩:=h.lv (i+1) (by omega) (q45.1 hi).1;rw[hi] at Z;cases Z;exact J4 hq
theorem Al.leave(h:Al P cl gs w t g0 fu)(h0:g0.status=.running){i:Nat}{g:q5r}(h1:1<=i)(hg:gs[i]?=some g)(hr:g.status=.running) :
  ∃gs' ops q,runT P (qdn gs w sl) i=(.next (qdn gs' w sl),ops)/\gs'.size=gs.size/\q<fu i/\Al P cl gs' w (t++ops) g0 (upd fu i q):=by
 have hi:=(q45.1 hg).1;obtain⟨g',a7,hq⟩:=h.lv i h1 hi;rw[hg] at a7;cases a7;cases hf:fu i with
 | zero=>rw[hf] at hq;rw[hq.1] at hr;cases hr
 | succ q =>
  rw[hf] at hq;rcases hq with⟨hx,_⟩ | ⟨_,g1,es,hmute,hstep,hq⟩
  ·rw[hr] at hx;cases hx
  ·have a6:=qeg (P:=P) (sl:=sl) (i:=i) hg (by rw[show(i == 0)=false by simp;omega];exact hstep w)
   have hsz:((gs.map (woken P g g1 w)).setIfInBounds i g1).size=gs.size:=by simp
   have hops:=Qv (g:=i) (fn:=g.frame.fn) (pos:=g.frame.place) hmute;refine⟨_,_,q,a6,hsz,Nat.lt_succ_self q,?_,?_,?_,h.cl0,?_,?_,λa=>(h.nor a).app (q9u hmute)⟩
   ·rw[qdq _ _ _ _ (by omega),h.main,qbt]
    unfold woken;split
    ·rw[again_running _ (.inl h0)]
    ·rfl
   ·intro j a8 hj
    rw[hsz] at hj;by_cases e:j=i
    ·subst e
     refine⟨g1,qdH _ _ _ hi,?_⟩;rw[qd2,Deaf_own];exact hq
    ·obtain⟨x,hx,Z⟩:=h.lv j a8 hj
     refine⟨x,?_,?_⟩
     ·rw[qdq _ _ _ _ (by omega),hx,qbt,qeb Z]
     ·rw[qdA _ _ e,qdC t (Ne.symm e) _ λop hop=>(hops op hop).1]
      exact Z
   ·rw[hsz]
    exact h.tr.step hi λop hop=>⟨(hops op hop).1,λx hx=>by rw[(hops op hop).2] at hx;cases hx⟩
   ·rw[qdC t (by omega:i≠(0:Nat)) _ λop hop=>(hops op hop).1]
    exact h.d0
   ·rw[hsz]
    exact h.hd.app λop hop=>.inr (.inr (hops op hop).2)
theorem q0A{fu:Nat->Nat}{i q n:Nat}(hi:i<n)(h:q<fu i):qem n (λa=>upd fu i q a)<qem n fu:=by
 have:=sumTo_upd fu q id hi;simp only[id] at this;have e:(qem n λa=>fu a)=qem n fu:=rfl;omega
theorem E.stepC(hs:g0.status=.running)(h:∀d,∃g' w' es cl',qb7 P true g0 (w.at d)=.go g' w' es/\w.heap.size<=w'.heap.size/\(∀b,b<w.heap.size->cl' b=cl b)/\(∀b,w'.heap.size<=b->cl' b=.mine 0)/\(∀e∈es,EvG cl' w'.heap.size 0 e/\jw e)/\E P Post cl' g' w'):E P Post cl g0 w:=by
 have key:∀(N:Nat) (gs:Array q5r) (sl:Option (Nat × Nat)) (t:Trace) (fu:Nat->Nat) (d0:Nat),qem gs.size fu=N->Al P cl gs (w.at d0) t g0 fu->Ends P Post (qdn gs (w.at d0) sl) t:=by
  intro N;induction N using Nat.strongRecOn with
  | _ N ih =>
   intro gs sl t fu d0 hN hA;obtain⟨i,g,d,a7,hg,hr,hst⟩:=crowd_pick (P:=P) (w:=w.at d0) (sl:=sl) (hA.awake hs) ⟨0,g0,hA.main,hs⟩;have hi:=(q45.1 hg).1;cases i with
   | zero =>
    rw[hA.main] at hg;cases hg;obtain⟨g',w',es,cl',b9,hsz,b6,b7,a8,hE⟩:=h d;have b0:qb7 P ((0:Nat) == 0) g0 ((w.at d0).at d)=.go g' w' es:=b9;have a6:=qeg (P:=P) (sl:=a7) (i:=0) hA.main b0;rw[a6] at hst;refine Ends.next hst (hE _ _ _ fu ?_)
    have Z:((gs.map (woken P g0 g' w')).setIfInBounds 0 g').size=gs.size:=by simp
    have hlt:0<gs.size:=hi;have hops:∀op∈qcg 0 g0.frame.fn g0.frame.place es,op.g=0:=g_of_ofEvents;refine⟨qdH _ _ _ hlt,?_,?_,b7,?_,?_,λa=>(hA.nor a).app (KW λe he=>(a8 e he).2)⟩
    ·intro j b8 hj
     rw[Z] at hj;obtain⟨x,hx,a9⟩:=hA.lv j b8 hj;refine⟨x,?_,?_⟩
     ·rw[qdq _ _ _ _ (by omega),hx,qbt,qeb a9]
     ·rw[qdC t (by omega:(0:Nat)≠j) _ hops]
      exact a9
    ·rw[Z]
     exact((hA.tr.grow hsz).fresh' (m:=w.heap.size) hA.tr.inb b6).step hlt (ZQ λe he=>(a8 e he).1)
    ·rw[Deaf_own,deafBehind_idle λe he=>(a8 e he).2]
     exact hA.d0
    ·rw[Z]
     exact hA.hd.app λop hop=>.inl (hops op hop)
   | succ i =>
    obtain⟨gs',ops,q,a6,hsz,hq,c3⟩:=(hA.at d).leave (sl:=a7) hs (by omega) hg hr;rw[a6] at hst;exact Ends.next hst (ih _ (by rw[<- hN,hsz];exact q0A hi hq) gs' a7 _ _ d rfl c3)
 intro gs sl t fu hA;exact key _ gs sl t fu w.drawn rfl hA
theorem E.step(hs:g0.status=.running)(h:∀d,∃g' w' es,qb7 P true g0 (w.at d)=.go g' w' es/\w.heap.size<=w'.heap.size/\(∀e∈es,EvG cl w'.heap.size 0 e/\jw e)/\E P Post cl g' w'):E P Post cl g0 w:=by
 have key:∀(N:Nat) (gs:Array q5r) (sl:Option (Nat × Nat)) (t:Trace) (fu:Nat->Nat) (d0:Nat),qem gs.size fu=N->Al P cl gs (w.at d0) t g0 fu->Ends P Post (qdn gs (w.at d0) sl) t:=by
  intro N;induction N using Nat.strongRecOn with
  | _ N ih =>
   intro gs sl t fu d0 hN hA;obtain⟨i,g,d,a7,hg,hr,hst⟩:=crowd_pick (P:=P) (w:=w.at d0) (sl:=sl) (hA.awake hs) ⟨0,g0,hA.main,hs⟩;have hi:=(q45.1 hg).1;cases i with
   | zero =>
    rw[hA.main] at hg;cases hg;obtain⟨g',w',es,b7,hsz,a8,hE⟩:=h d;have b0:qb7 P ((0:Nat) == 0) g0 ((w.at d0).at d)=.go g' w' es:=b7;have a6:=qeg (P:=P) (sl:=a7) (i:=0) hA.main b0;rw[a6] at hst;refine Ends.next hst (hE _ _ _ fu ?_)
    have Z:((gs.map (woken P g0 g' w')).setIfInBounds 0 g').size=gs.size:=by simp
    have hlt:0<gs.size:=hi;have hops:∀op∈qcg 0 g0.frame.fn g0.frame.place es,op.g=0:=g_of_ofEvents;refine⟨qdH _ _ _ hlt,?_,?_,λb hb=>hA.cl0 b (q87 hsz hb),?_,?_,λa=>(hA.nor a).app (KW λe he=>(a8 e he).2)⟩
    ·intro j b6 hj
     rw[Z] at hj;obtain⟨x,hx,a9⟩:=hA.lv j b6 hj;refine⟨x,?_,?_⟩
     ·rw[qdq _ _ _ _ (by omega),hx,qbt,qeb a9]
     ·rw[qdC t (by omega:(0:Nat)≠j) _ hops]
      exact a9
    ·rw[Z]
     exact(hA.tr.grow hsz).step hlt (ZQ λe he=>(a8 e he).1)
    ·rw[Deaf_own,deafBehind_idle λe he=>(a8 e he).2]
     exact hA.d0
    ·rw[Z]
     exact hA.hd.app λop hop=>.inl (hops op hop)
   | succ i =>
    obtain⟨gs',ops,q,a6,hsz,hq,b8⟩:=(hA.at d).leave (sl:=a7) hs (by omega) hg hr;rw[a6] at hst;exact Ends.next hst (ih _ (by rw[<- hN,hsz];exact q0A hi hq) gs' a7 _ _ d rfl b8)
 intro gs sl t fu hA;exact key _ gs sl t fu w.drawn rfl hA
theorem E.done(hs:g0.status=.running)(h:∀d,∃v w' es,qb7 P true g0 (w.at d)=.ended (.done v) w' es/\(∀e∈es,EvG cl w.heap.size 0 e/\jw e)/\Post v w'):E P Post cl g0 w:=by
 have key:∀(N:Nat) (gs:Array q5r) (sl:Option (Nat × Nat)) (t:Trace) (fu:Nat->Nat) (d0:Nat),qem gs.size fu=N->Al P cl gs (w.at d0) t g0 fu->Ends P Post (qdn gs (w.at d0) sl) t:=by
  intro N;induction N using Nat.strongRecOn with
  | _ N ih =>
   intro gs sl t fu d0 hN hA;obtain⟨i,g,d,a7,hg,hr,hst⟩:=crowd_pick (P:=P) (w:=w.at d0) (sl:=sl) (hA.awake hs) ⟨0,g0,hA.main,hs⟩;have hi:=(q45.1 hg).1;cases i with
   | zero =>
    rw[hA.main] at hg;cases hg;obtain⟨v,w',es,b7,b0,hP⟩:=h d;have a9:qb7 P ((0:Nat) == 0) g0 ((w.at d0).at d)=.ended (.done v) w' es:=b7;have hlt:0<gs.size:=hi;have Z:runT P (qdn gs ((w.at d0).at d) a7) 0=(.ended (.done v) w',qcg 0 g0.frame.fn g0.frame.place es):=by
     have h0:=hA.main;obtain⟨_,h0⟩:=q45.1 h0;subst h0;have b6:=swapAt_of_lt hlt { (default:q5r) with status:=.finished };show runT P { world:=(w.at d0).at d,gs:=gs,rest:={ timers:=#[],alone:=none,slice:=a7 } } 0=_;unfold runT;simp only[b6,a9,GStep.es]
    rw[Z] at hst;have hops:∀op∈qcg 0 g0.frame.fn g0.frame.place es,op.g=0:=g_of_ofEvents;refine Ends.ended hst ⟨v,rfl,hP,?_,?_,⟨?_,rfl⟩,?_⟩
    ·exact(hA.tr.step hlt (ZQ λe he=>(b0 e he).1)).nr
    ·exact q7p (hA.hd.app λop hop=>.inl (hops op hop)) λi op hi=>(hA.tr.step hlt (ZQ λe he=>(b0 e he).1)).gs i op hi
    ·intro x hx
     obtain⟨j,hj⟩:=List.mem_iff_getElem?.1 hx;rw[List.getElem?_drop] at hj;have a6:gs[1+j]?=some x:=by simpa[qdn] using hj
     obtain⟨y,hy,a8⟩:=hA.lv (1+j) (by omega) (q45.1 a6).1;rw[a6] at hy;cases hy;exact⟨_,a8.leaves⟩
    ·intro j x hj hne
     have a6:gs[j]?=some x:=hj;obtain⟨y,hy,a8⟩:=hA.lv j (by omega) (q45.1 a6).1;rw[a6] at hy;cases hy;refine⟨fu j,?_⟩;have:=qdC t (Ne.symm hne) _ hops;unfold Deaf at this a8;rw[this];exact a8.hears _
   | succ i =>
    obtain⟨gs',ops,q,Z,hsz,hq,b8⟩:=(hA.at d).leave (sl:=a7) hs (by omega) hg hr;rw[Z] at hst;exact Ends.next hst (ih _ (by rw[<- hN,hsz];exact q0A hi hq) gs' a7 _ _ d rfl b8)
 intro gs sl t fu hA;exact key _ gs sl t fu w.drawn rfl hA
theorem E.solo(h:E P Post cl g0 w)(hc:∀b,cl b=.mine 0):Ends P Post (solo g0 w) #[]:=by
 rw[solo_eq_crowd];refine h #[g0] none #[] (λ_=>0) ⟨rfl,λi h1 hi=>by simp at hi;omega,?_,λb _=>hc b,rfl,λi g hg=>by simp[Trace.g?] at hg,λa i hi=>by simp[Trace.act?] at hi⟩;refine⟨λi a b ha=>?_,λi a b ha=>?_,λi a b ha=>?_,λi a b g ha=>?_,λi a b lo ha=>?_,noRace_nil,λi op hi=>by simp at hi⟩<;>simp[qeq,Trace.act?] at ha
end
end Go.Co
end
section
namespace Go.Co
open Go.Conc Go.ConcN Go.Sim
def kJ(cl:Nat->Cl)(ρ:Ren):Prop:=∀i j,BR ρ i j->cl j=.mine 0
structure yR(β N:Nat)(W:q3g)(ρ:Ren)(w:q3g):Prop where
 old:∀j,j<W.heap.size->(∀i,BR ρ i j->i<β)->w.heap[j]?=W.heap[j]?
 os:w.os=W.os
 output:w.output=W.output
 size:W.heap.size<=w.heap.size
 inn:∀i j,BR ρ i j->β<=i->N<=j
 nsz:N<=w.heap.size
section
variable[JunkSet]{Q P:q8b}{F:q5r->q3g->Prop}{f:qbe}{real:List q8c}{Post:q58->q3g->Prop}{W:q3g}{β N:Nat}
theorem yR.step{ρ σ:Ren}{w w1:q3g}(h:yR β N W ρ w)(he:Eff β ρ σ w w1):yR β N W σ w1 where
 old j hj hn:=by
  have Z:∀i,BR ρ i j->i<β:=λi hi=>hn i (hi.mono he.le);rw[he.keep j (q8m hj h.size) Z,h.old j hj Z]
 os:=he.os.trans h.os
 output:=he.output.trans h.output
 size:=q87 h.size he.size
 inn i j hij hi:=by
  rcases qbF i ρ.length with hlt | hge
  ·exact h.inn i j (BR.back he.le hij hlt) hi
  ·exact q87 h.nsz (he.fresh i j hij hge)
 nsz:=q87 h.nsz he.size
theorem yR.at{ρ:Ren}{w:q3g}(h:yR β N W ρ w)(d:Nat):yR β N W ρ (w.at d):=⟨h.old,h.os,h.output,h.size,h.inn,h.nsz⟩
theorem kJ.step{cl:Nat->Cl}{ρ σ:Ren}{w w1:q3g}{base:Nat}(h:kJ cl ρ)(he:Eff base ρ σ w w1)(hc:∀b,w.heap.size<=b->cl b=.mine 0):kJ cl σ:=by
 intro i j hij;rcases qbF i ρ.length with hlt | hge
 ·obtain⟨⟨τ,rfl⟩,_⟩:=he.le
  refine h i j ?_;unfold BR at hij ⊢
  rwa [qaj hlt] at hij
 ·exact hc j (he.fresh i j hij hge)
theorem kQ{cl:Nat->Cl}{σ:Ren}{wq w:q3g}{base:Nat}(ho:kJ cl σ)(hw:WR Q base σ wq w){e:qbr}(h:kK base σ e):EvG cl w.heap.size 0 e/\jw e:=by
 cases h with
 | @cell i j off spot wr h1 _ _ =>
  refine⟨λx hx b hb=>?_,by simp[jw],by simp,by simp⟩;have hx':x=⟨.cell ⟨j,off,spot⟩,wr,.plain⟩:=by cases wr<;>(simp[qbv,qcj] at hx;exact hx.symm)
  subst hx';simp only[blk,qaz] at hb;subst hb;exact⟨hw.lt _ _ h1,.inl ⟨ho _ _ h1,rfl⟩⟩
 | @obj i j wr h1 _ =>
  refine⟨λx hx b hb=>?_,by simp[jw],by simp,by simp⟩;have hx':x=⟨.obj j,wr,.plain⟩:=by cases wr<;>(simp[qbv,qcj] at hx;exact hx.symm)
  subst hx';simp only[blk,qaz] at hb;subst hb;exact⟨hw.lt _ _ h1,.inl ⟨ho _ _ h1,rfl⟩⟩
 | noRoom=>exact⟨λx hx=>by simp[qbv,qcj] at hx,by simp[jw],by simp,by simp⟩
 | env =>
  refine⟨λx hx b hb=>?_,by simp[jw],by simp,by simp⟩;have hx':x=⟨.output,true,.plain⟩:=by simp[qbv,qcj] at hx;exact hx.symm
  subst hx';cases hb
theorem wr_at{ρ:Ren}{base:Nat}{wq w:q3g}(h:WR Q base ρ wq w)(d:Nat):WR Q base ρ wq (w.at d):=⟨h.len,h.nodup,h.lt,h.obj,h.low,h.env,h.below,h.gar⟩
theorem q0C{ρ:Ren}{base:Nat}{g g':q5r}{wq w:q3g}(h:Sub Q P base F f real ρ g wq g' w)(d:Nat):Sub Q P base F f real ρ g wq g' (w.at d):=⟨h.len,wr_at h.wr d,h.gl,h.tree,h.stack,h.rel⟩
theorem kM{ρ:Ren}{base:Nat}{g g':q5r}{wq w:q3g}(h:Sub Q P base F f real ρ g wq g' w):g'.status=.running:=by
 obtain⟨gv,hg,rfl⟩:=h.rel;exact hg.st'
theorem E.sub{Cp:(Nat->Cl)->Prop}(H:Duo Q P)(hrf:P.follows .rangeFuncRecover=true)(hR:∀fr,q9A fr real=none)(hF:∀g u,F g u->g.callers≠[])
  (hstop:∀ρ g wq g' w cl,Sub Q P β F f real ρ g wq g' w->F g wq->kJ cl ρ->(∀b,w.heap.size<=b->cl b=.mine 0)->yR β N W ρ w->Cp cl->E P Post cl g' w)
  (hK:∀ρ fk k a a' c c' pre pre' wq w cl,KSub Q P β F f real ρ fk k a a' c c' pre pre' wq w->kJ cl ρ->(∀b,w.heap.size<=b->cl b=.mine 0)->yR β N W ρ w->Cp cl ->
   (∀σ g2 a6 a9 w2 Z,Sub Q P β F f real σ g2 a6 a9 w2->kJ Z σ->(∀b,w2.heap.size<=b->Z b=.mine 0)->yR β N W σ w2->Cp Z ->
    Relation.TransGen (Below Q F) (g2,a6) ({ frame:=qan Q fk a k,callers:=c::(pre++[qj f]),status:=.running,dying:=none },wq)->E P Post Z a9 w2) ->
   E P Post cl { frame:=qan P fk a' k,callers:=c'::(pre'++real),status:=.running,dying:=none } w)
  {ρ:Ren} {g g':q5r} {wq w:q3g} {cl:Nat->Cl} (h:Sub Q P β F f real ρ g wq g' w) (ho:kJ cl ρ) (hc:∀b,w.heap.size<=b->cl b=.mine 0) (hk:yR β N W ρ w) (hp:Cp cl):E P Post cl g' w:=by
 have a7:Acc (Relation.TransGen (Below Q F)) (g,wq):=h.tree.acc.transGen;generalize hx:(g,wq)=x at a7;induction a7 generalizing ρ g wq g' w cl with
 | intro x _ ih =>
  subst hx;by_cases hn:F g wq
  ·exact hstop ρ g wq g' w cl h hn ho hc hk hp
  ·refine E.step (kM h) λd=>?_
   obtain⟨σ,g1,wq1,g1',w1,es,h1,h2,h3,h4,_,h6⟩:=(q0C h d).stepK H hrf hR hn true hF;have a8:kJ cl σ:=ho.step (w:=w.at d) h3 hc;have b6:∀b,w1.heap.size<=b->cl b=.mine 0:=λb hb=>hc b (q87 h3.size hb);have b0:yR β N W σ w1:=yR.step (w:=w.at d) (hk.at d) h3;have b7:WR Q β σ wq1 w1:=by
    rcases h6 with h6 | ⟨_,_,_,_,_,_,_,_,h6,_⟩
    ·exact h6.wr
    ·exact h6.wr
   refine⟨g1',w1,es,h1,h3.size,λe he=>kQ a8 b7 (h4 e he),?_⟩;rcases h6 with h6 | ⟨fk,k,a,a',c,c',pre,pre',h6,rfl,rfl⟩
   ·exact ih (g1,wq1) (.single h2) h6 a8 b6 b0 hp rfl
   ·exact hK σ fk k a a' c c' pre pre' wq1 w1 cl h6 a8 b6 b0 hp λσ2 g2 a6 a9 w2 Z s1 s2 s3 s4 s6 s5=>ih (g2,a6) (s5.tail h2) s1 s2 s3 s4 s6 rfl
end
end Go.Co
end
section
namespace Go.Co
open Go.Conc Go.ConcN Go.Sim
abbrev Bs:=Nat->Prop
structure St where
 S:Bs
 g:q5r
 w:q3g
inductive Rk where
 | leaf
 | nd (f:St->Rk)
def Rk.sub:Rk->Rk->Prop
 | _,.leaf=>False
 | x,.nd f=>∃s,x=f s
theorem Rk.acc:∀r:Rk,Acc Rk.sub r
 | .leaf=>.intro _ λ_ h=>h.elim
 | .nd f=>.intro _ λ_ ⟨s,e⟩=>e ▸ Rk.acc (f s)
def grow(S:Bs)(w w':q3g):Bs:=λb=>S b\/(w.heap.size<=b/\b<w'.heap.size)
structure RC(Fz:Bs)(K:q3g->q3g->Prop)(S:Bs)(w w₁:q3g):Prop where
 own:∀b,S b->w₁.heap[b]?=w.heap[b]?
 fz:∀b,Fz b->w₁.heap[b]?=w.heap[b]?
 size:w.heap.size<=w₁.heap.size
 os:w₁.os=w.os
 output:w₁.output=w.output
 k:K w w₁
def EvC(Fz S:Bs)(size:Nat)(e:qbr):Prop :=
 jw e/\(∀m,e.loc=.mark m->m=.noRoom)/\∀x,(qbv e).touch?=some x->∀b,blk x.loc=some b->b<size/\x.kind=.plain/\(S b\/(Fz b/\x.write=false))
structure DC(Fz:Bs)(S:Bs)(w w':q3g)(es:Array qbr):Prop where
 keep:∀b,b<w.heap.size->¬ S b->w'.heap[b]?=w.heap[b]?
 size:w.heap.size<=w'.heap.size
 os:w'.os=w.os
 output:w'.output=w.output
 evs:∀e∈es,EvC Fz (grow S w w') w'.heap.size e
section
variable(P:q8b)(Fz:Bs)(K:q3g->q3g->Prop)(Stop:Bs->q5r->q3g->Prop)
def Cot:Rk->Bs->q5r->q3g->Prop
 | .leaf,S,g,w=>∀w₁,RC Fz K S w w₁->Stop S g w₁
 | .nd f,S,g,w=>g.status=.running/\∀w₁,RC Fz K S w w₁->∃g' w' es,qb7 P false g w₁=.go g' w' es/\DC Fz S w₁ w' es/\Cot (f ⟨grow S w₁ w',g',w'⟩) (grow S w₁ w') g' w'
def qk(S:Bs)(g:q5r)(w:q3g):Prop:=∃r,Cot P Fz K Stop r S g w
end
section
variable{P:q8b}{Fz:Bs}{K:q3g->q3g->Prop}{Stop:Bs->q5r->q3g->Prop}{S:Bs}{g:q5r}{w w₁ w₂:q3g}
theorem RC.trans(hK:∀a b c,K a b->K b c->K a c)(h:RC Fz K S w w₁)(h':RC Fz K S w₁ w₂):RC Fz K S w w₂ :=
 ⟨λb hb=>(h'.own b hb).trans (h.own b hb),λb hb=>(h'.fz b hb).trans (h.fz b hb),q87 h.size h'.size,h'.os.trans h.os,h'.output.trans h.output,hK _ _ _ h.k h'.k⟩
theorem qk.stop(h:∀w₁,RC Fz K S w w₁->Stop S g w₁):qk P Fz K Stop S g w:=⟨.leaf,h⟩
theorem qk.step(hs:g.status=.running)(h:∀w₁,RC Fz K S w w₁->∃g' w' es,qb7 P false g w₁=.go g' w' es/\DC Fz S w₁ w' es/\qk P Fz K Stop (grow S w₁ w') g' w'):qk P Fz K Stop S g w:=by
 classical
 refine⟨.nd λs=>if hx:∃r,Cot P Fz K Stop r s.S s.g s.w then qd3 hx else .leaf,hs,λw₁ h₁=>?_⟩;obtain⟨g',w',es,h1,h2,h3⟩:=h w₁ h₁;refine⟨g',w',es,h1,h2,?_⟩;have hx:∃r,Cot P Fz K Stop r (grow S w₁ w') g' w':=h3;dsimp only;rw[dif_pos hx];exact qdl hx
theorem Cot.rely(hK:∀a b c,K a b->K b c->K a c){r:Rk}(h:Cot P Fz K Stop r S g w)(hr:RC Fz K S w w₁):Cot P Fz K Stop r S g w₁:=by
 cases r with
 | leaf=>exact λw₂ h₂=>h w₂ (hr.trans hK h₂)
 | nd f=>exact⟨h.1,λw₂ h₂=>h.2 w₂ (hr.trans hK h₂)⟩
theorem qk.rely(hK:∀a b c,K a b->K b c->K a c)(h:qk P Fz K Stop S g w)(hr:RC Fz K S w w₁):qk P Fz K Stop S g w₁:=let ⟨r,h⟩:=h;⟨r,h.rely hK hr⟩
theorem q3A(S:Bs)(w:q3g):DC Fz S w w #[]:=⟨λ_ _ _=>rfl,q5m _,rfl,rfl,by simp⟩
theorem vF(S:Bs)(w:q3g):grow S w w=S:=by
 funext b
 simp only[grow,eq_iff_iff];exact⟨λh=>h.elim id λ⟨a,b⟩=>by omega,.inl⟩
theorem qk.still{g':q5r}(hs:g.status=.running)(h:∀w₁,RC Fz K S w w₁->qb7 P false g w₁=.go g' w₁ #[])(h':∀w₁,RC Fz K S w w₁->qk P Fz K Stop S g' w₁):qk P Fz K Stop S g w :=
 .step hs λw₁ h₁=>⟨g',w₁,#[],h w₁ h₁,q3A S w₁,by rw[vF];exact h' w₁ h₁⟩
end
end Go.Co
end
section
namespace Go.Sim
section
variable[JunkSet]{P:q8b}{c1 c2:q8c}{e1 e2:List q8c}
def Und(c1 c2:q8c)(e1 e2:List q8c)(r r':qcu):Prop:=∀g1 u1 es,r=.go g1 u1 es->Live g1->q6t g1 ->
 (∃pre,g1.callers=pre++c1::e1/\r'=.go { g1 with callers:=pre++c2::e2 } u1 es) \/
 (∃φ:q8c->q8c,((∃v,φ=(·.finish v))\/φ=id)/\g1.frame=φ c1/\g1.callers=e1/\r'=.go { g1 with frame:=φ c2,callers:=e2 } u1 es) \/
 (∃ch,g1.frame=c1.raise ch/\g1.callers=e1)
theorem vf{r r':qcu}{es:Array qbr}(h:Und c1 c2 e1 e2 r r'):Und c1 c2 e1 e2 (qbf es r) (qbf es r'):=λg1 u1 es' e hl hn=>by
 obtain⟨e0,h0,rfl⟩:=zX e;rcases h _ _ _ h0 hl hn with⟨pre,h1,h2⟩ | ⟨φ,h1,h2,h3,h4⟩ | h1
 ·exact .inl ⟨pre,h1,by rw[h2];rfl⟩
 ·exact .inr (.inl ⟨φ,h1,h2,h3,by rw[h4];rfl⟩)
 ·exact .inr (.inr h1)
theorem qV{o:Outcome}{u:q3g}{es:Array qbr}{r':qcu}:Und c1 c2 e1 e2 (.ended o u es) r':=λ_ _ _ e _ _=>by cases e
theorem xC{r r':qcu}(h:∀g u es,r≠.go g u es):Und c1 c2 e1 e2 r r':=λg u es e _ _=>absurd e (h g u es)
theorem un_dead{g:q5r}{u:q3g}{es:Array qbr}{r':qcu}(h:¬ Live g):Und c1 c2 e1 e2 (.go g u es) r':=λ_ _ _ e hl _=>by cases e;exact absurd hl h
theorem q1H{fr:q8c}{cs:List q8c}{m:String}{u:q3g}{r':qcu}:Und c1 c2 e1 e2 (endFatal P fr cs none m u) r':=λg1 u1 es e hl _=>absurd hl.2 (qY e)
theorem JM{fr:q8c}{m:String}{u:q3g}{r':qcu}:Und c1 c2 e1 e2 (endThrow fr m u) r':=un_dead λh=>by cases h.2
theorem yj{fr:q8c}{pre:List q8c}{st:qd0}{dy:Option Dying}{off:Option (Array qda × qcB)}{u:q3g}{es:Array qbr} :
  Und c1 c2 e1 e2 (.go { frame:=fr,callers:=pre++c1::e1,status:=st,dying:=dy,offers:=off } u es) (.go { frame:=fr,callers:=pre++c2::e2,status:=st,dying:=dy,offers:=off } u es):=λ_ _ _ e _ _=>by
 cases e;exact .inl ⟨pre,rfl,rfl⟩
theorem q5w{fr fr2:q8c}{pre:List q8c}{st:qd0}{dy:Option Dying}{off:Option (Array qda × qcB)}{u:q3g}{es:Array qbr} :
  Und c1 c2 e1 e2 (.go { frame:=fr,callers:=fr2::(pre++c1::e1),status:=st,dying:=dy,offers:=off } u es) (.go { frame:=fr,callers:=fr2::(pre++c2::e2),status:=st,dying:=dy,offers:=off } u es) :=
 yj (pre:=fr2::pre)
theorem un_app{fr fr2:q8c}{X pre:List q8c}{st:qd0}{dy:Option Dying}{off:Option (Array qda × qcB)}{u:q3g}{es:Array qbr} :
  Und c1 c2 e1 e2 (.go { frame:=fr,callers:=X++fr2::(pre++c1::e1),status:=st,dying:=dy,offers:=off } u es) (.go { frame:=fr,callers:=X++fr2::(pre++c2::e2),status:=st,dying:=dy,offers:=off } u es):=λ_ _ _ e _ _=>by
 cases e;exact .inl ⟨X++fr2::pre,by simp,by simp⟩
theorem un_ext{fr:q8c}{cs:List q8c}{st:qd0}{dy:Option Dying}{off:Option (Array qda × qcB)}{u:q3g}{es:Array qbr}{r':qcu}{x:String}{a:Array q58}{k:List qdy}(h:fr.todo=.extern x a::k):Und c1 c2 e1 e2 (.go { frame:=fr,callers:=cs,status:=st,dying:=dy,offers:=off } u es) r':=λ_ _ _ e _ hn=>by
 cases e;exact absurd h (hn _ _ _)
structure Jp(c1 c2:q8c)(e1 e2:List q8c):Prop where
 m1:c1.mode=.run
 m2:c2.mode=.run
 r1:∀fr,q9A fr (c1::e1)=none
 r2:∀fr,q9A fr (c2::e2)=none
theorem q2F{c:q8c}{e:List q8c}(hm:c.mode=.run)(hr:∀fr,q9A fr e=none)(fr:q8c):q9A fr (c::e)=none:=by
 unfold q9A;cases fr.kind with
 | deferred=>simp[hm]
 | wrapped=>simp[hr]
 | _=>rfl
theorem JN(hR:Jp c1 c2 e1 e2):∀(pre:List q8c) (fr:q8c),
  (q9A fr (pre++c1::e1)=none/\q9A fr (pre++c2::e2)=none)\/∃v pre',q9A fr (pre++c1::e1)=some (v,pre'++c1::e1)/\q9A fr (pre++c2::e2)=some (v,pre'++c2::e2):=by
 intro pre;induction pre with
 | nil=>intro fr;exact .inl ⟨hR.r1 fr,hR.r2 fr⟩
 | cons p pre ih =>
  intro fr;simp only[q9y];unfold q9A;cases hk:fr.kind with
  | deferred =>
   dsimp only;split
   ·exact .inr ⟨_,_::pre,rfl,rfl⟩
   ·exact .inl ⟨rfl,rfl⟩
  | wrapped =>
   dsimp only;rcases ih p with⟨h1,h2⟩ | ⟨v,pre',h1,h2⟩
   ·rw[h1,h2];exact .inl ⟨rfl,rfl⟩
   ·rw[h1,h2];exact .inr ⟨v,p::pre',rfl,rfl⟩
  | _=>exact .inl ⟨rfl,rfl⟩
theorem ZA(hR:Jp c1 c2 e1 e2){fr:q8c}{pre:List q8c}(b b':Bool)(v:q58)(u:q3g):Und c1 c2 e1 e2 (qc9 P b fr (pre++c1::e1) none v u) (qc9 P b' fr (pre++c2::e2) none v u):=by
 unfold qc9;cases pre with
 | nil =>
  simp only[qae,hR.m1,hR.m2];intro g1 u1 es e _ _;cases hk:fr.kind<;>simp only[hk] at e ⊢<;>cases e
  ·exact .inr (.inl ⟨(·.finish v),.inl ⟨v,rfl⟩,rfl,rfl,rfl⟩)
  ·exact .inr (.inl ⟨id,.inr rfl,rfl,rfl,rfl⟩)
  ·exact .inr (.inl ⟨(·.finish v),.inl ⟨v,rfl⟩,rfl,rfl,rfl⟩)
  ·exact .inr (.inl ⟨id,.inr rfl,rfl,rfl,rfl⟩)
  ·exact .inr (.inl ⟨id,.inr rfl,rfl,rfl,rfl⟩)
 | cons p pre =>
  simp only[q9y];split<;>exact yj
theorem q8g{fr:q8c}{pre:List q8c}(g:Nat)(u:q3g):Und c1 c2 e1 e2 (early P fr (pre++c1::e1) none g u) (early P fr (pre++c2::e2) none g u):=by
 unfold early;dsimp only
 repeat' split
 all_goals first
  | exact yj
  | exact qV
  | exact un_app
theorem xD(hrf:P.follows .rangeFuncRecover=true)(hR:Jp c1 c2 e1 e2){fr:q8c}{pre:List q8c}(s:Sem qe4)(u:q3g):Und c1 c2 e1 e2 (qbn P true fr (pre++c1::e1) none s u) (qbn P true fr (pre++c2::e2) none s u):=by
 unfold qbn;simp only[if_true,qad,hrf];refine vf ?_;cases s.run P u with
 | ok a w =>
  cases a with
  | recover =>
   rcases JN hR pre fr with⟨h1,h2⟩ | ⟨v,pre',h1,h2⟩<;>cases hro:fr.roundOf<;>simp only[h1,h2,hro]<;>exact yj
  | stack r sv =>
   dsimp only;split
   ·exact un_ext rfl
   ·exact un_ext rfl
  | spawn d =>
   dsimp only
   repeat' split
   all_goals first
    | exact JM
    | exact xC (λ_ _ _ e=>by cases e)
  | _ =>
   dsimp only
   repeat' split
   all_goals first
    | exact yj
    | exact q5w
    | exact xC (λ_ _ _ e=>by cases e)
 | halt x w =>
  cases x with
  | fatal m=>exact q1H
  | throw m=>exact JM
  | unsupported x=>cases x<;>first | exact q8g _ _ | exact qV
  | _=>first | exact yj | exact qV
theorem q20(hR:Jp c1 c2 e1 e2){fr:q8c}{pre:List q8c}(d:qc3)(u:q3g):Und c1 c2 e1 e2 (qc6 P fr (pre++c1::e1) none d u) (qc6 P fr (pre++c2::e2) none d u):=by
 unfold qc6;by_cases hc:(ku d.target && kr fr.mode)=true
 ·have:∀(a b r':qcu),(∃o u es,a=.ended o u es)->Und c1 c2 e1 e2 (if(ku d.target && kr fr.mode)=true then a else b) r':=λa b r' ⟨o,u,es,e⟩=>by
   rw[if_pos hc,e];exact qV
  exact this _ _ _ ⟨_,_,_,rfl⟩
 have Z:∀(a b a' b':qcu),Und c1 c2 e1 e2 b b'->Und c1 c2 e1 e2 (if(ku d.target && kr fr.mode)=true then a else b) (if(ku d.target && kr fr.mode)=true then a' else b'):=λa b a' b' hb=>by rw[if_neg hc,if_neg hc];exact hb
 refine Z _ _ _ _ ?_;simp only[qad];refine vf ?_;cases qbk P (invoke d.target d.args) u with
 | ok a w =>
  cases a with
  | recover =>
   dsimp only;rcases JN hR pre fr with⟨h1,h2⟩ | ⟨v,pre',h1,h2⟩<;>rw[h1,h2]<;>cases fr.mode<;>exact yj
  | coroswitch c e=>cases e<;>first | exact qV | exact xC (λ_ _ _ e=>by cases e)
  | alone on v=>cases on<;>first | exact qV | exact xC (λ_ _ _ e=>by cases e)
  | _ =>
   first
    | exact yj
    | exact q5w
    | exact qV
    | exact xC (λ_ _ _ e=>by cases e)
 | halt x w =>
  cases x with
  | fatal m=>exact q1H
  | throw m=>exact JM
  | _=>first | exact yj | exact qV
theorem Kv(hR:Jp c1 c2 e1 e2){fr:q8c}{pre:List q8c}(b b':Bool)(u:q3g):Und c1 c2 e1 e2 (unwind P b fr (pre++c1::e1) none u) (unwind P b' fr (pre++c2::e2) none u):=by
 unfold unwind;split
 ·simp only[qad]
  refine vf ?_;split
  ·exact yj
  ·exact qV
 ·exact q20 hR _ _
 ·split
  ·exact qV
  ·split
   ·exact qV
   ·cases pre with
    | nil =>
     intro g1 u1 es e _ _;cases e;exact .inr (.inr ⟨_,rfl,rfl⟩)
    | cons p pre=>exact yj
  ·split
   ·exact ZA hR _ _ _ _
   ·simp only[qad]
    refine vf ?_;split
    ·exact ZA hR _ _ _ _
    all_goals exact qV
theorem un_exec(hrf:P.follows .rangeFuncRecover=true)(hR:Jp c1 c2 e1 e2){fr:q8c}{pre:List q8c}(b b':Bool)(u:q3g) :
  Und c1 c2 e1 e2 (qd9 P b true fr (pre++c1::e1) none u) (qd9 P b' true fr (pre++c2::e2) none u):=by
 have Z:∀(j:Bool) (jj:Option qcm) (s s':String),Und c1 c2 e1 e2 (match fr.roundOf with
   | none=>if j=true then .go { frame:={ fr with mode:=.returning },callers:=pre++c1::e1,status:=.running,dying:=none } u else .ended (.stuck s (fr.pos P)) u
   | some l =>
    let (r,es):=(qcH l jj).runT P u #[]
    qbf (seen P fr.fn es) <| match r with
    | .ok v w=>qc9 P b fr (pre++c1::e1) none v w
    | .halt _ w=>.ended (.stuck s' (fr.pos P)) w) (match fr.roundOf with
   | none=>if j=true then .go { frame:={ fr with mode:=.returning },callers:=pre++c2::e2,status:=.running,dying:=none } u else .ended (.stuck s (fr.pos P)) u
   | some l =>
    let (r,es):=(qcH l jj).runT P u #[]
    qbf (seen P fr.fn es) <| match r with
    | .ok v w=>qc9 P b' fr (pre++c2::e2) none v w
    | .halt _ w=>.ended (.stuck s' (fr.pos P)) w):=λj jj s s'=>by
  split
  ·split
   ·exact yj
   ·exact qV
  ·simp only[qad]
   refine vf ?_;split
   ·exact ZA hR _ _ _ _
   ·exact qV
 unfold qd9;dsimp only;split
 ·exact Z true _ _ _
 ·exact Z true _ _ _
 all_goals first
  | exact yj
  | exact qV
  | exact xD hrf hR _ _
  | (
    generalize exitTo _ _=X;cases X
    ·exact Z false _ _ _
    ·exact yj)
  | (
    generalize gotoIn _ _=X;cases X
    ·exact Z false _ _ _
    ·exact yj)
  | (
    unfold stepG.oper
    repeat' split
    all_goals first
     | exact yj
     | exact qV
     | exact xD hrf hR _ _)
  | (
    simp only[qad];refine vf ?_
    repeat' split
    all_goals first
     | exact yj
     | exact qV
     | exact xD hrf hR _ _)
  | (
    repeat' split
    all_goals first
     | exact yj
     | exact qV
     | exact xD hrf hR _ _)
  | (
    generalize Extern.next _=X
    cases X
    ·exact qV
    ·exact xD hrf hR _ _)
theorem q4a(hrf:P.follows .rangeFuncRecover=true)(hR:Jp c1 c2 e1 e2){g:q5r}{pre:List q8c}(h:g.callers=pre++c1::e1)(hd:g.dying=none)(b b':Bool)(u:q3g) :
  Und c1 c2 e1 e2 (qb7 P b g u true) (qb7 P b' { g with callers:=pre++c2::e2 } u true):=by
 obtain⟨fr,cs,st,dy,off⟩:=g;dsimp only at h hd;subst hd;subst h;unfold qb7;dsimp only;cases fr.mode with
 | run=>exact un_exec hrf hR b b' u
 | returning=>exact Kv hR b b' u
 | panicking l=>exact Kv hR b b' u
end
end Go.Sim
end
section
namespace Go.Sim
def tl(k:List qdy)(D:List qc3)(fr:q8c):q8c:={ fr with todo:=fr.todo++k,defers:=fr.defers++D }
def Plain:qdy->Bool
 | .call .. | .extern ..=>false
 | _=>true
structure Pc(fr:q8c):Prop where
 mode:fr.mode=.run
 round:fr.roundOf=none
 todo:∃x l,fr.todo=x::l/\Plain x=true
section
variable[JunkSet]{P:q8b}{k:List qdy}{D:List qc3}{e1 e2:List q8c}
def Top(k:List qdy)(D:List qc3)(e1 e2:List q8c)(r r':qcu):Prop:=∀g1 u1 es,r=.go g1 u1 es->Live g1->q6t g1 ->
 (g1.callers=e1/\g1.frame.mode=.run/\g1.frame.roundOf=none/\r'=.go { g1 with frame:=tl k D g1.frame,callers:=e2 } u1 es) \/
 (∃pre c,g1.callers=pre++c::e1/\Pc c/\r'=.go { g1 with callers:=pre++tl k D c::e2 } u1 es) \/
 (g1.callers=e1/\g1.frame.mode≠.run)
theorem JP{r r':qcu}{es:Array qbr}(h:Top k D e1 e2 r r'):Top k D e1 e2 (qbf es r) (qbf es r'):=λg1 u1 es' e hl hn=>by
 obtain⟨e0,h0,rfl⟩:=zX e;rcases h _ _ _ h0 hl hn with⟨h1,h2,h3,h5⟩ | ⟨pre,c,h1,h2,h3⟩ | h1
 ·exact .inl ⟨h1,h2,h3,by rw[h5];rfl⟩
 ·exact .inr (.inl ⟨pre,c,h1,h2,by rw[h3];rfl⟩)
 ·exact .inr (.inr h1)
theorem zU{o:Outcome}{u:q3g}{es:Array qbr}{r':qcu}:Top k D e1 e2 (.ended o u es) r':=λ_ _ _ e _ _=>by cases e
theorem q23{r r':qcu}(h:∀g u es,r≠.go g u es):Top k D e1 e2 r r':=λg u es e _ _=>absurd e (h g u es)
theorem Jz{g:q5r}{u:q3g}{es:Array qbr}{r':qcu}(h:¬ Live g):Top k D e1 e2 (.go g u es) r':=λ_ _ _ e hl _=>by cases e;exact absurd hl h
theorem q8n{fr:q8c}{cs:List q8c}{m:String}{u:q3g}{r':qcu}:Top k D e1 e2 (endFatal P fr cs none m u) r':=λg1 u1 es e hl _=>absurd hl.2 (qY e)
theorem q22{fr:q8c}{m:String}{u:q3g}{r':qcu}:Top k D e1 e2 (endThrow fr m u) r':=Jz λh=>by cases h.2
theorem tp_go{fr:q8c}(hm:fr.mode=.run)(hr:fr.roundOf=none){st:qd0}{dy:Option Dying}{off:Option (Array qda × qcB)}{u:q3g}{es:Array qbr}{Z:q8c}(e:Z=tl k D fr) :
  Top k D e1 e2 (.go { frame:=fr,callers:=e1,status:=st,dying:=dy,offers:=off } u es) (.go { frame:=Z,callers:=e2,status:=st,dying:=dy,offers:=off } u es):=λ_ _ _ h _ _=>by
 cases h;exact .inl ⟨rfl,hm,hr,by rw[e]⟩
theorem Z6{fr c:q8c}(hc:Pc c){X:List q8c}{st:qd0}{dy:Option Dying}{off:Option (Array qda × qcB)}{u:q3g}{es:Array qbr} :
  Top k D e1 e2 (.go { frame:=fr,callers:=X++c::e1,status:=st,dying:=dy,offers:=off } u es) (.go { frame:=fr,callers:=X++tl k D c::e2,status:=st,dying:=dy,offers:=off } u es):=λ_ _ _ h _ _=>by
 cases h;exact .inr (.inl ⟨X,c,rfl,hc,rfl⟩)
theorem tp_ext{fr:q8c}{cs:List q8c}{st:qd0}{dy:Option Dying}{off:Option (Array qda × qcB)}{u:q3g}{es:Array qbr}{r':qcu}{x:String}{a:Array q58}{l:List qdy}(h:fr.todo=.extern x a::l):Top k D e1 e2 (.go { frame:=fr,callers:=cs,status:=st,dying:=dy,offers:=off } u es) r':=λ_ _ _ e _ hn=>by
 cases e;exact absurd h (hn _ _ _)
theorem q0y{fr:q8c}(hm:fr.mode≠.run){st:qd0}{dy:Option Dying}{off:Option (Array qda × qcB)}{u:q3g}{es:Array qbr}{r':qcu} :
  Top k D e1 e2 (.go { frame:=fr,callers:=e1,status:=st,dying:=dy,offers:=off } u es) r':=λ_ _ _ h _ _=>by
 cases h;exact .inr (.inr ⟨rfl,hm⟩)
theorem kb(fr:q8c)(ch:List PanicEntry):(fr.raise ch).mode≠.run:=by
 unfold Frame.raise;split<;>simp
theorem tl_eval(fr:q8c):(tl k D fr).eval=fr.eval:=by funext x;cases x<;>rfl
theorem Kz{fr:q8c}(h:Pc fr)(v:q58):(tl k D fr).finish v=tl k D (fr.finish v):=by
 obtain⟨x,l,e,hp⟩:=h.todo;obtain⟨fn,tmps,todo,defers,mode,kind,ro⟩:=fr;dsimp only at e;subst e;unfold tl Frame.finish;cases x with
 | inRegion ops is=>cases is<;>rfl
 | call=>cases hp
 | extern=>cases hp
 | _=>rfl
theorem xY(fr:q8c)(v:q58):(fr.finish v).mode=fr.mode/\(fr.finish v).kind=fr.kind/\(fr.finish v).roundOf=fr.roundOf:=by
 unfold Frame.finish;split<;>exact⟨rfl,rfl,rfl⟩
theorem JO{fr:q8c}(h:Pc fr)(v:q58){st:qd0}{dy:Option Dying}{off:Option (Array qda × qcB)}{u:q3g}{es:Array qbr} :
  Top k D e1 e2 (.go { frame:=fr.finish v,callers:=e1,status:=st,dying:=dy,offers:=off } u es) (.go { frame:=(tl k D fr).finish v,callers:=e2,status:=st,dying:=dy,offers:=off } u es):=by
 obtain⟨h1,h2,h3⟩:=xY fr v;exact tp_go (h1.trans h.mode) (h3.trans h.round) (Kz h v)
theorem q8o{fr:q8c}(h:Pc fr)(g:Nat)(u:q3g):Top k D e1 e2 (early P fr e1 none g u) (early P (tl k D fr) e2 none g u):=by
 have hg:∀{u:q3g} {es:Array qbr},Top k D e1 e2 (.go { frame:=fr,callers:=e1,status:=.running,dying:=none } u es) (.go { frame:=tl k D fr,callers:=e2,status:=.running,dying:=none } u es):=tp_go h.mode h.round rfl;unfold early;have hk:(tl k D fr).kind=fr.kind:=rfl;dsimp only;simp only[hk]
 repeat' split
 all_goals first
  | exact hg
  | exact zU
  | exact Z6 h
theorem q24(hrf:P.follows .rangeFuncRecover=true)(a7:∀fr,q9A fr e1=none)(a6:∀fr,q9A fr e2=none){fr:q8c}(h:Pc fr)(s:Sem qe4)(u:q3g):Top k D e1 e2 (qbn P true fr e1 none s u) (qbn P true (tl k D fr) e2 none s u):=by
 obtain⟨fn,tmps,todo,defers,mode,kind,ro⟩:=fr;obtain⟨h1,h3,h4⟩:=h;dsimp only at h1 h3;subst h1 h3;obtain⟨fr,Z⟩:∃fr:q8c,fr={ fn,tmps,todo,defers,mode:=.run,kind,roundOf:=none }:=⟨_,rfl⟩
 have h:Pc { fn,tmps,todo,defers,mode:=.run,kind,roundOf:=none }:=⟨rfl,rfl,h4⟩
 rw[<- Z] at h ⊢;obtain⟨x,l,e,hp⟩:=h.todo;have hro:(tl k D fr).roundOf=none:=h.round;have a8:(tl k D fr).kind=fr.kind:=rfl;have hfn:(tl k D fr).fn=fr.fn:=rfl;have ht:(tl k D fr).todo=x::(l++k):=by show fr.todo++k=_;rw[e];rfl
 have a9:∀d:qc3,({ (tl k D fr) with defers:=d::(tl k D fr).defers }:q8c)=tl k D { fr with defers:=d::fr.defers }:=λd=>rfl;unfold qbn;simp only[if_true,qad,hrf,h.round,hro,a8,hfn];refine JP ?_;cases s.run P u with
 | ok a w =>
  cases a with
  | recover =>
   simp only[a7,a6];exact JO h _
  | stack r sv =>
   dsimp only;rw[e,ht];cases x<;>first | (cases hp;done) | exact tp_ext rfl
  | spawn d =>
   dsimp only
   repeat' split
   all_goals first
    | exact q22
    | exact q23 (λ_ _ _ e=>by cases e)
  | value v=>exact JO h v
  | skip=>exact JO h _
  | defer d =>
   subst Z;have hP:Pc { fn,tmps,todo,defers:=d::defers,mode:=.run,kind,roundOf:=none }:=⟨rfl,rfl,h4⟩
   exact JO (k:=k) (D:=D) hP q5s
  | enter f args =>
   dsimp only;rw[e,ht];cases x<;>first | (cases hp;done) | exact(Z6 (X:=[]) h)
  | callThen d r sv wr =>
   dsimp only;rw[e,ht];cases x<;>first | (cases hp;done) | exact(Z6 (X:=[]) h)
  | row r args =>
   dsimp only;rw[e,ht];cases x<;>first | (cases hp;done) | exact(Z6 (X:=[]) h)
  | round l f tm ag bd=>exact(Z6 (X:=[]) h)
  | sleep t=>exact Jz λhl=>by cases hl.1
  | _=>exact q23 (λ_ _ _ e=>by cases e)
 | halt x w =>
  cases x with
  | fatal m=>exact q8n
  | throw m=>exact q22
  | unsupported x=>cases x<;>first | exact q8o h _ _ | exact zU
  | panic v=>exact q0y (kb _ _)
  | goexit=>exact q0y (kb _ _)
  | blocked=>exact Jz λhl=>by cases hl.1
  | waiting=>exact Jz λhl=>by cases hl.1
  | _=>exact zU
theorem QX{id:Nat}{k':List qdy}:∀{l:List qdy},exitTo id l=some k'->exitTo id (l++k)=some (k'++k)
 | [],h=>by simp[exitTo] at h
 | x::l,h=>by
  cases x with
  | inBlock id' =>
   simp only[exitTo,q9y] at h ⊢;split
   ·rename_i he;rw[if_pos he] at h;cases h;rfl
   ·rename_i he;rw[if_neg he] at h;exact QX h
  | _=>simp only[exitTo,q9y] at h ⊢;exact QX h
theorem QS{id:Nat}{k':List qdy}:∀{l:List qdy},gotoIn id l=some k'->gotoIn id (l++k)=some (k'++k)
 | [],h=>by simp[gotoIn] at h
 | x::l,h=>by
  cases x with
  | inScope body =>
   simp only[gotoIn,q9y] at h ⊢;cases hf:findLabel body id with
   | none=>rw[hf] at h;exact QS h
   | some r=>rw[hf] at h;cases h;rfl
  | _=>simp only[gotoIn,q9y] at h ⊢;exact QS h
theorem q8p(hrf:P.follows .rangeFuncRecover=true)(a9:∀fr,q9A fr e1=none)(a8:∀fr,q9A fr e2=none){g:q5r}(h:Pc g.frame)(hc:g.callers=e1)(hd:g.dying=none)(b b':Bool)(u:q3g) :
  Top k D e1 e2 (qb7 P b g u true) (qb7 P b' { g with frame:=tl k D g.frame,callers:=e2 } u true):=by
 obtain⟨⟨fn,tmps,todo,defers,mode,kind,ro⟩,cs,st,dy,off⟩:=g;dsimp only at h hc hd;subst hd;subst hc;obtain⟨h1,h3,h4⟩:=h;dsimp only at h1 h3;subst h1 h3;obtain⟨fr,b0⟩:∃fr:q8c,fr={ fn,tmps,todo,defers,mode:=.run,kind,roundOf:=none }:=⟨_,rfl⟩
 have h:Pc { fn,tmps,todo,defers,mode:=.run,kind,roundOf:=none }:=⟨rfl,rfl,h4⟩
 rw[<- b0] at h ⊢;obtain⟨x,l,e,hp⟩:=h.todo;have hm:=h.mode;have hro:=h.round;have Z:∀(t:List qdy) {st:qd0} {dy:Option Dying} {off:Option (Array qda × qcB)} {u:q3g} {es:Array qbr},
   Top k D cs e2 (.go { frame:={ fr with todo:=t },callers:=cs,status:=st,dying:=dy,offers:=off } u es) (.go { frame:={ (tl k D fr) with todo:=t++k },callers:=e2,status:=st,dying:=dy,offers:=off } u es):=λt=>tp_go (fr:={ fr with todo:=t }) h.mode h.round rfl
 have ha:∀(s:Sem qe4) (u:q3g),Top k D cs e2 (qbn P true fr cs none s u) (qbn P true (tl k D fr) e2 none s u):=λs u=>q24 hrf a9 a8 h s u;have ht:(tl k D fr).todo=x::(l++k):=by show fr.todo++k=_;rw[e];rfl
 have b7:(tl k D fr).mode=.run:=hm;have a6:(tl k D fr).roundOf=none:=hro;have b6:(tl k D fr).eval=fr.eval:=tl_eval fr;have hfn:(tl k D fr).fn=fr.fn:=rfl;have a7:(tl k D fr).tmps=fr.tmps:=rfl;unfold qb7;dsimp only;rw[hm,b7];dsimp only;unfold qd9;dsimp only;rw[e,ht];cases x with
 | code c =>
  cases c with
  | skip=>exact Z l
  | label n=>exact Z l
  | seq a b=>exact Z (.code a::.code b::l)
  | block id body=>exact Z (.code body::.inBlock id::l)
  | loop body=>exact Z (.code body::.inLoop body::l)
  | scope body=>exact Z (.code body::.inScope body::l)
  | refuse w=>exact zU
  | ret =>
   dsimp only;rw[hro];exact q0y (by simp)
  | cond c a b =>
   dsimp only;rw[b6];split
   ·exact Z (_::l)
   ·exact zU
  | exit id =>
   dsimp only;cases hx:exitTo id l with
   | none=>simp only[Option.elim_none,hro];exact zU
   | some k1=>rw[QX hx];exact Z k1
  | goto id =>
   dsimp only;cases hx:gotoIn id l with
   | none=>simp only[Option.elim_none,hro];exact zU
   | some k1=>rw[QS hx];exact Z k1
  | region id ops draw =>
   dsimp only;split
   ·exact Z (.inRegion ops (qa4 ops.size)::l)
   ·rw[hfn]
    split
    ·exact Z (.inRegion ops _::l)
    ·exact zU
  | rangeFunc fv ps as body =>
   dsimp only;rw[hfn,a7,hro,a6];simp only[qad];refine JP ?_;split
   ·rename_i lm mk w _
    subst b0;have hP:Pc { fn,tmps,todo:=.inRangeFunc lm::l,defers:=mk++defers,mode:=.run,kind,roundOf:=none }:=⟨rfl,rfl,_,_,rfl,rfl⟩
    have:=q24 (k:=k) (D:=D) (e1:=cs) (e2:=e2) (P:=P) hrf a9 a8 hP (do let d <- resolve (Frame.eval { fn,tmps,todo:=.inRangeFunc lm::l,defers:=mk++defers,mode:=.run,kind,roundOf:=none }) { callee:=.value fv,args:=#[.const (.func (.yield lm) #[] #[])],argTypes:=#[] } 0;invoke d.target d.args) w;have e5:tl k D { fn,tmps,todo:=.inRangeFunc lm::l,defers:=mk++defers,mode:=.run,kind,roundOf:=none }={ fn,tmps,todo:=.inRangeFunc lm::(l++k),defers:=mk++(defers++D),mode:=.run,kind,roundOf:=none }:=by
     simp[tl]
    rw[e5] at this;exact this
   ·exact zU
 | inBlock id=>exact Z l
 | inScope c=>exact Z l
 | inLoop body=>exact Z (.code body::.inLoop body::l)
 | inRangeFunc n=>exact zU
 | beginRound =>
  dsimp only;rw[hro,a6];exact ha _ u
 | endRangeFunc n =>
  dsimp only;rw[hfn];simp only[qad];refine JP ?_;split
  ·rename_i j w _
   have:=Z ((j.map Item.code).toList++l) (st:=.running) (dy:=none) (off:=none) (u:=w) (es:=#[]);rw[qc1] at this;exact this
  ·exact q0y (kb _ _)
  ·exact zU
 | inRegion ops is =>
  cases is with
  | nil=>exact Z l
  | cons i is =>
   dsimp only;rw[a7];split
   ·unfold stepG.oper
    have ho:(tl k D fr).oper?=fr.oper?:=by unfold Frame.oper?;rw[e,ht]
    rw[ho];split
    ·exact zU
    ·rw[hro,a6,b6]
     exact ha _ u
   ·exact JO h q5s
 | call=>cases hp
 | extern=>cases hp
end
end Go.Sim
end
section
namespace Go.Sim
def Doom(e1:List q8c)(g:q5r):Prop:=(g.callers=e1/\g.frame.mode≠.run)\/∃pre c,g.callers=pre++c::e1/\c.mode≠.run
section
variable[JunkSet]{P:q8b}{e1:List q8c}
def Dm(e1:List q8c)(r:qcu):Prop:=∀g1 u1 es,r=.go g1 u1 es->Live g1->Doom e1 g1\/(∃x,e1=x::g1.callers)
theorem ye{r:qcu}{es:Array qbr}(h:Dm e1 r):Dm e1 (qbf es r):=λg1 u1 es' e hl=>by
 obtain⟨e0,h0,rfl⟩:=zX e;exact h _ _ _ h0 hl
theorem qH{o:Outcome}{u:q3g}{es:Array qbr}:Dm e1 (.ended o u es):=λ_ _ _ e _=>by cases e
theorem yM{r:qcu}(h:∀g u es,r≠.go g u es):Dm e1 r:=λg u es e _=>absurd e (h g u es)
theorem dm_dead{g:q5r}{u:q3g}{es:Array qbr}(h:¬ Live g):Dm e1 (.go g u es):=λ_ _ _ e hl=>by cases e;exact absurd hl h
theorem YP{fr:q8c}{cs:List q8c}{m:String}{u:q3g}:Dm e1 (endFatal P fr cs none m u):=λg1 u1 es e hl=>absurd hl.2 (qY e)
theorem Zr{fr:q8c}{m:String}{u:q3g}:Dm e1 (endThrow fr m u):=dm_dead λh=>by cases h.2
theorem jO{fr c:q8c}{pre:List q8c}(hc:c.mode≠.run){st:qd0}{dy:Option Dying}{off:Option (Array qda × qcB)}{u:q3g}{es:Array qbr} :
  Dm e1 (.go { frame:=fr,callers:=pre++c::e1,status:=st,dying:=dy,offers:=off } u es):=λ_ _ _ e _=>by
 cases e;exact .inl (.inr ⟨pre,c,rfl,hc⟩)
theorem q6m{fr fr2 c:q8c}{pre:List q8c}(hc:c.mode≠.run){st:qd0}{dy:Option Dying}{off:Option (Array qda × qcB)}{u:q3g}{es:Array qbr} :
  Dm e1 (.go { frame:=fr,callers:=fr2::(pre++c::e1),status:=st,dying:=dy,offers:=off } u es):=jO (pre:=fr2::pre) hc
theorem dm_app{fr fr2 c:q8c}{X pre:List q8c}(hc:c.mode≠.run){st:qd0}{dy:Option Dying}{off:Option (Array qda × qcB)}{u:q3g}{es:Array qbr} :
  Dm e1 (.go { frame:=fr,callers:=X++fr2::(pre++c::e1),status:=st,dying:=dy,offers:=off } u es):=λ_ _ _ e _=>by
 cases e;exact .inl (.inr ⟨X++fr2::pre,c,by simp,hc⟩)
theorem kU{fr:q8c}(hc:fr.mode≠.run){st:qd0}{dy:Option Dying}{off:Option (Array qda × qcB)}{u:q3g}{es:Array qbr} :
  Dm e1 (.go { frame:=fr,callers:=e1,status:=st,dying:=dy,offers:=off } u es):=λ_ _ _ e _=>by
 cases e;exact .inl (.inl ⟨rfl,hc⟩)
theorem q5g:∀(pre:List q8c) (fr c:q8c) (v:q58) (cs:List q8c),c.mode≠.run->q9A fr (pre++c::e1)=some (v,cs)->(∀fr,q9A fr e1=none)->∃pre' c',cs=pre'++c'::e1/\c'.mode≠.run:=by
 intro pre;induction pre with
 | nil =>
  intro fr c v cs hc h hR;simp only[qae] at h;unfold q9A at h;cases hk:fr.kind with
  | deferred =>
   rw[hk] at h;dsimp only at h;split at h
   ·simp only[qaz,Prod.mk.injEq] at h
    exact⟨[],_,h.2.symm,by simp⟩
   ·cases h
  | wrapped =>
   rw[hk] at h;dsimp only at h;rw[hR] at h;cases h
  | _=>rw[hk] at h;cases h
 | cons p pre ih =>
  intro fr c v cs hc h hR;simp only[q9y] at h;unfold q9A at h;cases hk:fr.kind with
  | deferred =>
   rw[hk] at h;dsimp only at h;split at h
   ·simp only[qaz,Prod.mk.injEq] at h
    exact⟨_::pre,c,h.2.symm,hc⟩
   ·cases h
  | wrapped =>
   rw[hk] at h;dsimp only at h;cases ht:q9A p (pre++c::e1) with
   | none=>rw[ht] at h;cases h
   | some x =>
    obtain⟨v',k'⟩:=x;rw[ht] at h;simp only[qbt,qaz,Prod.mk.injEq] at h;obtain⟨pre',c',e,Z⟩:=ih _ _ _ _ hc ht hR;exact⟨p::pre',c',by rw[<- h.2,e];rfl,Z⟩
  | _=>rw[hk] at h;cases h
theorem q0g(fr:q8c)(v:q58):(fr.finish v).mode=fr.mode:=(xY fr v).1
theorem ZU{fr c:q8c}{pre:List q8c}(hc:c.mode≠.run)(b:Bool)(v:q58)(u:q3g):Dm e1 (qc9 P b fr (pre++c::e1) none v u):=by
 unfold qc9;cases pre with
 | nil =>
  simp only[qae];split
  ·exact kU (by rw[q0g];exact hc)
  ·exact kU (by rw[q0g];exact hc)
  ·exact kU hc
  ·refine kU ?_
   split
   ·split<;>simp
   ·exact hc
 | cons p pre =>
  simp only[q9y];split<;>exact jO hc
theorem qap{fr c:q8c}{pre:List q8c}(hc:c.mode≠.run)(g:Nat)(u:q3g):Dm e1 (early P fr (pre++c::e1) none g u):=by
 unfold early;dsimp only
 repeat' split
 all_goals first
  | exact jO hc
  | exact qH
  | exact dm_app hc
variable(hrf:P.follows .rangeFuncRecover=true)(hR:∀fr,q9A fr e1=none)
include hR
theorem dm_rec{fr c:q8c}{pre:List q8c}(hc:c.mode≠.run){v:q58}{cs:List q8c}(h:q9A fr (pre++c::e1)=some (v,cs)){a6:q8c}{u:q3g}{es:Array qbr}:Dm e1 (.go { frame:=a6,callers:=cs,status:=.running,dying:=none } u es):=by
 obtain⟨pre',c',e,Z⟩:=q5g pre fr c v cs hc h hR;rw[e];exact jO Z
theorem Q5(hrf:P.follows .rangeFuncRecover=true){fr c:q8c}{pre:List q8c}(hc:c.mode≠.run)(s:Sem qe4)(u:q3g):Dm e1 (qbn P true fr (pre++c::e1) none s u):=by
 unfold qbn;simp only[if_true,qad,hrf];refine ye ?_;cases s.run P u with
 | ok a w =>
  cases a with
  | recover =>
   rcases hX:q9A fr (pre++c::e1) with _ | ⟨v,k⟩<;>cases hro:fr.roundOf<;>simp only[hX,hro]<;>first | exact dm_rec hR hc hX | exact jO hc
  | spawn d =>
   dsimp only
   repeat' split
   all_goals first
    | exact Zr
    | exact yM (λ_ _ _ e=>by cases e)
  | _ =>
   dsimp only
   repeat' split
   all_goals first
    | exact jO hc
    | exact q6m hc
    | exact yM (λ_ _ _ e=>by cases e)
 | halt x w =>
  cases x with
  | fatal m=>exact YP
  | throw m=>exact Zr
  | unsupported x=>cases x<;>first | exact qap hc _ _ | exact qH
  | _=>first | exact jO hc | exact qH
theorem q3z{fr c:q8c}{pre:List q8c}(hc:c.mode≠.run)(d:qc3)(u:q3g):Dm e1 (qc6 P fr (pre++c::e1) none d u):=by
 unfold qc6;by_cases Z:(ku d.target && kr fr.mode)=true
 ·have:∀(a b:qcu),(∃o u es,a=.ended o u es)->Dm e1 (if(ku d.target && kr fr.mode)=true then a else b):=λa b ⟨o,u,es,e⟩=>by
   rw[if_pos Z,e];exact qH
  exact this _ _ ⟨_,_,_,rfl⟩
 have a6:∀(a b:qcu),Dm e1 b->Dm e1 (if(ku d.target && kr fr.mode)=true then a else b):=λa b hb=>by rw[if_neg Z];exact hb
 refine a6 _ _ ?_;simp only[qad];refine ye ?_;cases qbk P (invoke d.target d.args) u with
 | ok a w =>
  cases a with
  | recover =>
   dsimp only;split
   ·rename_i hX
    exact dm_rec hR hc hX
   ·exact jO hc
  | coroswitch c e=>cases e<;>first | exact qH | exact yM (λ_ _ _ e=>by cases e)
  | alone on v=>cases on<;>first | exact qH | exact yM (λ_ _ _ e=>by cases e)
  | _ =>
   first
    | exact jO hc
    | exact q6m hc
    | exact qH
    | exact yM (λ_ _ _ e=>by cases e)
 | halt x w =>
  cases x with
  | fatal m=>exact YP
  | throw m=>exact Zr
  | _=>first | exact jO hc | exact qH
theorem q0l{fr c:q8c}{pre:List q8c}(hc:c.mode≠.run)(b:Bool)(u:q3g):Dm e1 (unwind P b fr (pre++c::e1) none u):=by
 unfold unwind;split
 ·simp only[qad]
  refine ye ?_;split
  ·exact jO hc
  ·exact qH
 ·exact q3z hR hc _ _
 ·split
  ·exact qH
  ·split
   ·exact qH
   ·cases pre with
    | nil=>exact kU (kb _ _)
    | cons p pre=>exact jO hc
  ·split
   ·exact ZU hc _ _ _
   ·simp only[qad]
    refine ye ?_;split
    ·exact ZU hc _ _ _
    all_goals exact qH
theorem dm_exec(hrf:P.follows .rangeFuncRecover=true){fr c:q8c}{pre:List q8c}(hc:c.mode≠.run)(b:Bool)(u:q3g):Dm e1 (qd9 P b true fr (pre++c::e1) none u):=by
 have Z:∀(j:Bool) (jj:Option qcm) (s s':String),Dm e1 (match fr.roundOf with
   | none=>if j=true then .go { frame:={ fr with mode:=.returning },callers:=pre++c::e1,status:=.running,dying:=none } u else .ended (.stuck s (fr.pos P)) u
   | some l =>
    let (r,es):=(qcH l jj).runT P u #[]
    qbf (seen P fr.fn es) <| match r with
    | .ok v w=>qc9 P b fr (pre++c::e1) none v w
    | .halt _ w=>.ended (.stuck s' (fr.pos P)) w):=λj jj s s'=>by
  split
  ·split
   ·exact jO hc
   ·exact qH
  ·simp only[qad]
   refine ye ?_;split
   ·exact ZU hc _ _ _
   ·exact qH
 unfold qd9;dsimp only;split
 ·exact Z true _ _ _
 ·exact Z true _ _ _
 all_goals first
  | exact jO hc
  | exact qH
  | exact Q5 hR hrf hc _ _
  | (
    generalize exitTo _ _=X;cases X
    ·exact Z false _ _ _
    ·exact jO hc)
  | (
    generalize gotoIn _ _=X;cases X
    ·exact Z false _ _ _
    ·exact jO hc)
  | (
    unfold stepG.oper
    repeat' split
    all_goals first
     | exact jO hc
     | exact qH
     | exact Q5 hR hrf hc _ _)
  | (
    simp only[qad];refine ye ?_
    repeat' split
    all_goals first
     | exact jO hc
     | exact qH
     | exact Q5 hR hrf hc _ _)
  | (
    repeat' split
    all_goals first
     | exact jO hc
     | exact qH
     | exact Q5 hR hrf hc _ _)
  | (
    generalize Extern.next _=X
    cases X
    ·exact qH
    ·exact Q5 hR hrf hc _ _)
theorem dm_self{fr x:q8c}(hc:fr.mode≠.run)(b:Bool)(u:q3g)(h1:∀fr,q9A fr (x::e1)=none):Dm (x::e1) (unwind P b fr (x::e1) none u):=by
 have Z:∀{fr2:q8c} {st:qd0} {dy:Option Dying} {off:Option (Array qda × qcB)} {u:q3g} {es:Array qbr} {fr:q8c},fr.mode≠.run->Dm (x::e1) (.go { frame:=fr2,callers:=fr::x::e1,status:=st,dying:=dy,offers:=off } u es):=λh=>jO (pre:=[]) h;have a6:∀{fr2:q8c} {st:qd0} {dy:Option Dying} {off:Option (Array qda × qcB)} {u:q3g} {es:Array qbr},Dm (x::e1) (.go { frame:=fr2,callers:=e1,status:=st,dying:=dy,offers:=off } u es):=λ_ _ _ e _=>by
  cases e;exact .inr ⟨x,rfl⟩
 have ret:∀(v:q58) (u:q3g),Dm (x::e1) (qc9 P b fr (x::e1) none v u):=λv u=>by
  unfold qc9;dsimp only;split<;>exact a6
 unfold unwind;split
 ·simp only[qad]
  refine ye ?_;split
  ·(refine kU ?_;exact hc)
  ·exact qH
 ·rename_i d ds _ _
  unfold qc6;by_cases a7:(ku d.target && kr fr.mode)=true
  ·have:∀(a b:qcu),(∃o u es,a=.ended o u es)->Dm (x::e1) (if(ku d.target && kr fr.mode)=true then a else b):=λa b ⟨o,u,es,e⟩=>by
    rw[if_pos a7,e];exact qH
   exact this _ _ ⟨_,_,_,rfl⟩
  have a8:∀(a b:qcu),Dm (x::e1) b->Dm (x::e1) (if(ku d.target && kr fr.mode)=true then a else b):=λa b hb=>by rw[if_neg a7];exact hb
  refine a8 _ _ ?_;simp only[qad];refine ye ?_;cases qbk P (invoke d.target d.args) u with
  | ok a w =>
   cases a with
   | recover =>
    dsimp only;rw[h1];split
    ·rename_i hX;cases hX
    ·(refine kU ?_;exact hc)
   | coroswitch c e=>cases e<;>first | exact qH | exact yM (λ_ _ _ e=>by cases e)
   | alone on v=>cases on<;>first | exact qH | exact yM (λ_ _ _ e=>by cases e)
   | _ =>
    first
     | (refine kU ?_;exact hc)
     | (refine Z ?_;exact hc)
     | exact qH
     | exact yM (λ_ _ _ e=>by cases e)
  | halt y w =>
   cases y with
   | fatal m=>exact YP
   | throw m=>exact Zr
   | _=>first | (refine kU ?_;exact hc) | exact qH | (refine kU ?_;exact kb _ _)
 ·split
  ·rename_i hm;exact absurd hm hc
  ·split
   ·exact qH
   ·exact a6
  ·split
   ·exact ret _ _
   ·simp only[qad]
    refine ye ?_;split
    ·exact ret _ _
    all_goals exact qH
end
end Go.Sim
end
section
namespace Go.Sim
inductive Lay (k:List qdy) (D:List qc3) (real:List q8c) (f:qbe) (gv:q5r):q5r->Prop
 | top:gv.callers=[qj f]->gv.frame.mode=.run->gv.frame.roundOf=none->Lay k D real f gv { gv with frame:=tl k D gv.frame,callers:=real }
 | und (pre:List q8c) (c:q8c):gv.callers=pre++[c,qj f]->Pc c->Lay k D real f gv { gv with callers:=pre++tl k D c::real }
section
variable[JunkSet](Q P:q8b)(base:Nat)(F:q5r->q3g->Prop)(f:qbe)(k:List qdy)(D:List qc3)(real:List q8c)
structure K3(ρ:Ren)(g:q5r)(wq:q3g)(g':q5r)(w:q3g):Prop where
 len:base<=ρ.length
 wr:WR Q base ρ wq w
 gl:Gl P ρ
 tree:LT Q F g wq
 stack:∃pre,g.callers=pre++[qj f]
 rel:∃gv,kH Q P ρ g gv/\Lay k D real f gv g'
structure q44:Prop where
 cs:∀g u,F g u->g.callers=[qj f]
 md:∀g u,F g u->g.frame.mode=.run
end
section
variable[JunkSet]{Q P:q8b}{base:Nat}{F:q5r->q3g->Prop}{f:qbe}{k:List qdy}{D:List qc3}{real:List q8c}
theorem q6s{α:Type}{pre:List α}{c x:α}(h:pre++[c,x]=[x]):False:=by
 have:=congrArg List.length h;simp at this
theorem KS(a7:Q.follows .rangeFuncRecover=true)(hF:q44 F f){g1:q5r}{u1:q3g}(h:LT Q F g1 u1)(hp:Popped f g1.frame)(hc:g1.callers=[])(hd:g1.dying=none):False:=by
 cases h with
 | done h=>have:=hF.cs _ _ h;rw[hc] at this;cases this
 | step _ h1 _ =>
  obtain⟨g2,u2,a9,e2,_,_⟩:=h1 u1.tape;obtain⟨a8,b6,a6,b0,Z⟩:=g1;dsimp only at hc hp hd;subst hc;subst hd;obtain⟨o,u3,es3,h3⟩:=xP (Q:=Q) hp a6 Z (u1.tp u1.tape);rw[h3] at e2;cases e2
theorem LT.doom(a6:Q.follows .rangeFuncRecover=true)(hF:q44 F f){g:q5r}{u:q3g}(h:LT Q F g u)(hd:Doom [qj f] g)(a7:g.dying=none):False:=by
 induction h with
 | done h =>
  rcases hd with⟨_,hm⟩ | ⟨pre,c,e,_⟩
  ·exact hm (hF.md _ _ h)
  ·rw[hF.cs _ _ h] at e
   exact q6s e.symm
 | @step g u hn h1 h2 ih =>
  obtain⟨g1,u1,es,e,hs,hd1⟩:=h1 u.tape;have Z:=jU (f:=f);have hst:∃pre,g.callers=pre++[qj f]:=by
   rcases hd with⟨e,_⟩ | ⟨pre,c,e,_⟩
   ·exact⟨[],e⟩
   ·exact⟨pre++[c],by rw[e];simp⟩
  obtain⟨b7,b0⟩:=hst;have a8:Doom [qj f] g1\/∃x,[qj f]=x::g1.callers:=by
   obtain⟨fr,cs,st,dy,off⟩:=g;dsimp only at a7 hd;subst a7;rcases hd with⟨hc,hm⟩ | ⟨pre,c,hc,hm⟩
   ·subst hc
    have:qb7 Q true { frame:=fr,callers:=[qj f],status:=st,dying:=none,offers:=off } (u.tp u.tape) true=unwind Q true fr [qj f] none (u.tp u.tape):=by
     unfold qb7;dsimp only;cases hmm:fr.mode<;>first | exact absurd hmm hm | rfl
    rw[this] at e;exact dm_self (P:=Q) (e1:=[]) (by intro fr;unfold q9A;cases fr.kind<;>rfl) hm true _ Z _ _ _ e ⟨hs,hd1⟩
   ·subst hc
    have key:Dm [qj f] (qb7 Q true { frame:=fr,callers:=pre++c::[qj f],status:=st,dying:=none,offers:=off } (u.tp u.tape) true):=by
     unfold qb7;dsimp only;cases fr.mode with
     | run=>exact dm_exec Z a6 hm true _
     | returning=>exact q0l Z hm true _
     | panicking l=>exact q0l Z hm true _
    exact key _ _ _ e ⟨hs,hd1⟩
  rcases a8 with a8 | ⟨x,hx⟩
  ·exact ih _ _ _ _ e a8 hd1
  ·have b6:g1.callers=[]:=by simpa using(List.cons.inj hx).2.symm
   rcases xK (f:=f) a6 b0 a7 (u.tp u.tape) g1 u1 es e hs hd1 with⟨a9,hh⟩ | ⟨_,hp⟩
   ·rw[b6] at hh
    cases a9<;>simp at hh
   ·exact KS a6 hF (h2 _ _ _ _ e) hp b6 hd1
theorem zi.plain{ρ:Ren}{x x':qdy}(h:zi Q ρ x x'):Plain x'=true:=by cases h<;>rfl
theorem q00{ρ:Ren}{m m':FrameMode}(h:kG ρ m m'):m=.run↔m'=.run:=by cases h<;>simp
theorem YW{ρ:Ren}{cs:List q8c}(h:LsR (qu Q P ρ) cs [qj f])(hcs:∃pre,cs=pre++[qj f]):cs=[qj f]:=by
 obtain⟨pre,rfl⟩:=hcs;have:=h.length;cases pre with
 | nil=>rfl
 | cons x pre=>simp at this
theorem K3.step(H:Duo Q P)(hrf:P.follows .rangeFuncRecover=true)(hrr:∀fr,q9A fr real=none)(hF:q44 F f)
  (stub:∀fk,Q.funcs[fk]?≠P.funcs[fk]?->∀a k cs u,∃o w es,qb7 Q true { frame:=qan Q fk a k,callers:=cs,status:=.running,dying:=none } u true=.ended o w es)
  {ρ:Ren} {g:q5r} {wq:q3g} {g':q5r} {w:q3g} (h:K3 Q P base F f k D real ρ g wq g' w) (hn:¬ F g wq) (b:Bool) :
  ∃σ g1 wq1 g1' w1 es,qb7 P b g' w true=.go g1' w1 es/\K3 Q P base F f k D real σ g1 wq1 g1' w1/\Below Q F (g1,wq1) (g,wq)/\Eff base ρ σ w w1/\(∀e∈es,kK base σ e)/\Live g1':=by
 have b8:Q.follows .rangeFuncRecover=true:=H.rfr;obtain⟨gv,hg,hl⟩:=h.rel;obtain⟨e5,b9⟩:=h.stack;obtain⟨σ,g1,wq1,a6,w1,es,k0,k1,k2,k3,k4,k5,k6,k7,k8,d9,hd1⟩:=Yt H h.len h.wr h.gl hg h.tree hn b;obtain⟨_,T,es1,e1⟩:=k6;dsimp only at e1;have hst:∃a7,g1.callers=a7++[qj f]:=by
  rcases xK (f:=f) b8 b9 hg.dy (wq.tp T) g1 wq1 es1 e1 d9 hd1 with hh | ⟨hh,hp⟩
  ·exact hh
  ·exact(KS b8 hF k5 hp hh hd1).elim
 have hR:kH Q P σ g1 a6:=by
  rcases k1 with⟨_,k1⟩ | ⟨fk,kk,a,a',c,c',cs,cs',hne,hok,rfl,rfl,ha,hc,hcs1,hm⟩
  ·exact k1
  ·exfalso
   obtain⟨o,u,e6,e2⟩:=stub fk hne a kk (c::cs) (wq1.tp wq1.tape);cases k5 with
   | done hh =>
    have b6:=hF.cs _ _ hh;dsimp only at b6;simp only[qd1] at b6;rw[b6.1] at hm;rcases hm with hm | hm
    ·exact hm rfl
    ·exact hm _ _ rfl
   | step _ h1 _ =>
    obtain⟨g3,u3,es3,e3,_⟩:=h1 wq1.tape;rw[e2] at e3;cases e3
 have b0:Doom [qj f] g1->False:=λhd=>LT.doom b8 hF k5 hd hd1;have mk:∀g1',Lay k D real f a6 g1'->qb7 P b g' w true=.go g1' w1 es->Live g1'->∃σ g1 wq1 g1' w1 es,qb7 P b g' w true=.go g1' w1 es/\K3 Q P base F f k D real σ g1 wq1 g1' w1/\Below Q F (g1,wq1) (g,wq)/\Eff base ρ σ w w1/\(∀e∈es,kK base σ e)/\Live g1' :=
  λg1' d5 he e4=>⟨σ,g1,wq1,g1',w1,es,he,⟨k4,k2,k3,k5,hst,a6,hR,d5⟩,⟨hn,T,es1,e1⟩,k7,k8,e4⟩
 have a9:a6.callers=[qj f]->a6.frame.mode≠.run->False:=λhc hm=>by
  have d7:=hR.callers;rw[hc] at d7;exact b0 (.inl ⟨YW d7 hst,λe=>hm ((q00 hR.frame.mode).1 e)⟩)
 cases hl with
 | top hc hm hro =>
  have c3:=hg.callers;rw[hc] at c3;have b7:g.callers=[qj f]:=YW c3 h.stack;clear c3;have Z:=hg.frame.todo;cases ht:g.frame.todo with
  | nil =>
   exfalso;have c9:g.frame.mode=.run:=(q00 hg.frame.mode).2 hm;have c8:g.frame.roundOf=none:=by
    rcases hg.frame.round with⟨hh,_⟩ | ⟨_,_,_,hh,_⟩
    ·exact hh
    ·rw[hro] at hh;cases hh
   have d6:=hg.dy;obtain⟨⟨fn,tmps,todo,defers,mode,kind,ro⟩,cs,st,dy,off⟩:=g;dsimp only at c9 c8 d6 ht b7;subst c9 c8 d6 ht;subst b7;have e2:qb7 Q true { frame:={ fn:=fn,tmps:=tmps,todo:=[],defers:=defers,mode:=.run,kind:=kind,roundOf:=none },callers:=[qj f],status:=st,dying:=none,offers:=off } (wq.tp T) true=.go { frame:={ fn:=fn,tmps:=tmps,todo:=[],defers:=defers,mode:=.returning,kind:=kind,roundOf:=none },callers:=[qj f],status:=.running,dying:=none } (wq.tp T) #[]:=by
    simp[qb7,qd9]
   rw[e2] at e1;cases e1;exact b0 (.inl ⟨rfl,by simp⟩)
  | cons x l =>
   rw[ht] at Z;generalize d8:gv.frame.todo=vt at Z;cases Z with
   | cons hx hxl =>
    rename_i x' l'
    have hP:Pc gv.frame:=⟨hm,hro,x',l',d8,zi.plain hx⟩
    have a8:=q8p (k:=k) (D:=D) (e2:=real) hrf jU hrr hP hc hg.dy' b b w;rcases a8 a6 w1 es k0 ⟨hR.st',hR.dy'⟩ (Yn hR) with⟨h1,h2,h3,h5⟩ | ⟨pre,c,h1,h2,h3⟩ | ⟨h1,h2⟩
    ·exact mk _ (.top h1 h2 h3) h5 ⟨hR.st',hR.dy'⟩
    ·exact mk _ (.und pre c h1 h2) h3 ⟨hR.st',hR.dy'⟩
    ·exact(a9 h1 h2).elim
 | und pre c hc hP =>
  have hN:Jp c (tl k D c) [qj f] real:=⟨hP.mode,hP.mode,λfr=>q2F hP.mode jU fr,λfr=>q2F (c:=tl k D c) hP.mode hrr fr⟩
  have a8:=q4a (c1:=c) (c2:=tl k D c) (e1:=[qj f]) (e2:=real) hrf hN (g:=gv) (pre:=pre) hc hg.dy' b b w;rcases a8 a6 w1 es k0 ⟨hR.st',hR.dy'⟩ (Yn hR) with⟨a7,h1,h2⟩ | ⟨φ,hφ,h1,h2,h3⟩ | ⟨ch,h1,h2⟩
  ·exact mk _ (.und a7 c h1 hP) h2 ⟨hR.st',hR.dy'⟩
  ·have hφ1:φ (tl k D c)=tl k D (φ c)/\(φ c).mode=.run/\(φ c).roundOf=none:=by
    rcases hφ with⟨v,rfl⟩ | rfl
    ·obtain⟨q1,q2,q3⟩:=xY c v
     exact⟨Kz hP v,q1.trans hP.mode,q3.trans hP.round⟩
    ·exact⟨rfl,hP.mode,hP.round⟩
   rw[hφ1.1,<- h1] at h3;exact mk _ (.top h2 (by rw[h1];exact hφ1.2.1) (by rw[h1];exact hφ1.2.2)) h3 ⟨hR.st',hR.dy'⟩
  ·exact(a9 h2 (by rw[h1];exact kb _ _)).elim
theorem K3.rely{ρ:Ren}{g:q5r}{wq:q3g}{g':q5r}{w w2:q3g}(h:K3 Q P base F f k D real ρ g wq g' w)(hsz:w.heap.size<=w2.heap.size)(Z:w2.os.env=w.os.env)
  (hk:∀i j,BR ρ i j->¬ JunkSet.jk i->w2.heap[j]?=w.heap[j]?) (hj:∀i j,BR ρ i j->JunkSet.jk i->∃c e f,w2.heap[j]?=some (.cells c e f)):K3 Q P base F f k D real ρ g wq g' w2 :=
 ⟨h.len,h.wr.rely hsz Z hk hj,h.gl,h.tree,h.stack,h.rel⟩
end
end Go.Sim
end
section
namespace Go.Co
open Go.Conc Go.ConcN Go.Sim
structure Own(base:Nat)(ρ:Ren)(jk:Nat->Prop)(Fz S:Bs):Prop where
 low:∀i j,BR ρ i j->i<base->¬ jk i->Fz j
 own:∀i j,BR ρ i j->base<=i->S j
section
variable[JunkSet]{Q P:q8b}{base:Nat}{F:q5r->q3g->Prop}{f:qbe}{k:List qdy}{D:List qc3}{real:List q8c}{Fz:Bs}{K:q3g->q3g->Prop}{Stop:Bs->q5r->q3g->Prop}
theorem q3b{gv g':q5r}(h:Lay k D real f gv g')(hs:gv.status=.running):g'.status=.running:=by cases h<;>exact hs
theorem Own.step{ρ σ:Ren}{S:Bs}{w w1:q3g}(h:Own base ρ JunkSet.jk Fz S)(he:Eff base ρ σ w w1)(hb:base<=ρ.length)(hlt:∀i j,BR σ i j->j<w1.heap.size):Own base σ JunkSet.jk Fz (grow S w w1):=by
 have Z:∀i j,BR σ i j->i<ρ.length->BR ρ i j:=λi j hij hi=>by
  obtain⟨⟨τ,rfl⟩,_⟩:=he.le;unfold BR at hij ⊢
  rwa [qaj hi] at hij
 refine⟨λi j hij hi hj=>h.low i j (Z i j hij (by omega)) hi hj,λi j hij hi=>?_⟩;rcases qbF i ρ.length with hlt2 | hge
 ·exact .inl (h.own i j (Z i j hij hlt2) hi)
 ·exact .inr ⟨he.fresh i j hij hge,hlt i j hij⟩
theorem q7E{ρ σ:Ren}{S:Bs}{wq w w1:q3g}{es:Array qbr}(h:Own base ρ JunkSet.jk Fz S)(he:Eff base ρ σ w w1)(hb:base<=ρ.length)(hw:WR Q base σ wq w1)(hes:∀e∈es,kK base σ e):DC Fz S w w1 es:=by
 have Z:∀i j,BR σ i j->i<ρ.length->BR ρ i j:=λi j hij hi=>by
  obtain⟨⟨τ,rfl⟩,_⟩:=he.le;unfold BR at hij ⊢
  rwa [qaj hi] at hij
 have hown:∀i j,BR σ i j->base<=i->grow S w w1 j:=(h.step he hb hw.lt).own;refine⟨λb hb1 hS=>he.keep b hb1 λi hi=>Nat.lt_of_not_le λhle=>hS (h.own i b hi hle),he.size,he.os,he.output,λe a6=>?_⟩;cases hes e a6 with
 | @cell i j off spot wr h1 h2 h3 =>
  refine⟨⟨by simp,by simp,by simp⟩,λm hm=>by simp at hm,λx hx b hbb=>?_⟩;have hx':x=⟨.cell ⟨j,off,spot⟩,wr,.plain⟩:=by cases wr<;>(simp[qbv,qcj] at hx;exact hx.symm)
  subst hx';simp only[blk,qaz] at hbb;subst hbb;refine⟨hw.lt _ _ h1,rfl,?_⟩;rcases qbF i base with hlt | hge
  ·refine .inr ⟨h.low i j (Z i j h1 (by omega)) hlt h2,?_⟩
   cases wr with
   | false=>rfl
   | true=>exact absurd (h3 rfl) (by omega)
  ·exact .inl (hown i j h1 hge)
 | @obj i j wr h1 h2 =>
  refine⟨⟨by simp,by simp,by simp⟩,λm hm=>by simp at hm,λx hx b hbb=>?_⟩;have hx':x=⟨.obj j,wr,.plain⟩:=by cases wr<;>(simp[qbv,qcj] at hx;exact hx.symm)
  subst hx';simp only[blk,qaz] at hbb;subst hbb;exact⟨hw.lt _ _ h1,rfl,.inl (hown i j h1 h2)⟩
 | noRoom=>exact⟨⟨by simp,by simp,by simp⟩,λm hm=>by simp at hm;exact hm.symm,λx hx=>by simp[qbv,qcj] at hx⟩
 | env =>
  refine⟨⟨by simp,by simp,by simp⟩,λm hm=>by simp at hm,λx hx b hbb=>?_⟩;have hx':x=⟨.output,true,.plain⟩:=by simp[qbv,qcj] at hx;exact hx.symm
  subst hx';cases hbb
theorem qk.tsub(H:Duo Q P)(hrf:P.follows .rangeFuncRecover=true)(hrr:∀fr,q9A fr real=none)(hF:q44 F f)
  (stub:∀fk,Q.funcs[fk]?≠P.funcs[fk]?->∀a k cs u,∃o w es,qb7 Q true { frame:=qan Q fk a k,callers:=cs,status:=.running,dying:=none } u true=.ended o w es)
  (Jc Jb:Bs) (Liv:q3g->Prop) (hL1:∀S w w₁,RC Fz K S w w₁->Liv w->Liv w₁) (hL2:∀S w w' es,DC Fz S w w' es->(∀b,Jb b->w'.heap[b]?=w.heap[b]?)->Liv w->Liv w') (hL3:∀w b,Liv w->Jc b->∃c e f,w.heap[b]?=some (.cells c e f)) (hL4:∀w b,Liv w->Jb b->b<w.heap.size) {ρ0:Ren}
  (hend:∀σ g wq g' w S,K3 Q P base F f k D real σ g wq g' w->F g wq->Le ρ0 σ->Own base σ JunkSet.jk Fz S->(∀i j,BR σ i j->JunkSet.jk i->Jc j)->Liv w->(∀j,Jb j->¬ S j)->qk P Fz K Stop S g' w)
  {ρ:Ren} {g:q5r} {wq:q3g} {g':q5r} {w:q3g} {S:Bs} (h:K3 Q P base F f k D real ρ g wq g' w) (hle:Le ρ0 ρ) (ho:Own base ρ JunkSet.jk Fz S) (hj:∀i j,BR ρ i j->JunkSet.jk i->Jc j) (hv:Liv w) (hjs:∀j,Jb j->¬ S j):qk P Fz K Stop S g' w:=by
 have a7:Acc (Below Q F) (g,wq):=h.tree.acc;generalize hx:(g,wq)=x at a7;induction a7 generalizing ρ g wq g' w S with
 | intro x _ ih =>
  subst hx;by_cases hn:F g wq
  ·exact hend ρ g wq g' w S h hn hle ho hj hv hjs
  ·have b0:g'.status=.running:=by
    obtain⟨gv,hg,hl⟩:=h.rel;exact q3b hl hg.st'
   refine qk.step b0 λw₁ hr=>?_;have a8:Liv w₁:=hL1 _ w w₁ hr hv;have h1:K3 Q P base F f k D real ρ g wq g' w₁:=h.rely hr.size (by rw[hr.os]) (λi j hij Z=>by
     rcases qbF i base with hlt | hge
     ·exact hr.fz j (ho.low i j hij hlt Z)
     ·exact hr.own j (ho.own i j hij hge)) (λi j hij Z=>hL3 w₁ j a8 (hj i j hij Z))
   obtain⟨σ,g1,wq1,g1',w1,es,k1,k2,k3,k4,k5,_⟩:=h1.step H hrf hrr hF stub hn false;have a9:=q7E ho k4 h1.len k2.wr k5;have hlt:∀j,Jb j->j<w₁.heap.size:=λj a6=>hL4 w₁ j a8 a6;refine⟨g1',w1,es,k1,a9,ih (g1,wq1) k3 k2 (hle.trans k4.le) (ho.step k4 h1.len k2.wr.lt) (λi j hij Z=>?_) (hL2 _ w₁ w1 es a9 (λb hb=>a9.keep b (hlt b hb) (hjs b hb)) a8) (λj a6 hS=>?_) rfl⟩;rotate_left
   ·rcases hS with hS | ⟨hS,_⟩
    ·exact hjs j a6 hS
    ·have:=hlt j a6
     omega
   refine hj i j ?_ Z;have hi:i<ρ.length:=q8m (h1.wr.below i Z) h1.len;obtain⟨⟨τ,rfl⟩,_⟩:=k4.le;unfold BR at hij ⊢
   rwa [qaj hi] at hij
def AtEnd(f:qbe)(b:q8c)(R:Act->q3g->Prop)(g:q5r)(u:q3g):Prop:=Live g/\g.callers=[qj f]/\∃a T,g.frame=b.at a []/\R a (u.tp T)
theorem AtEnd.leafs{b:q8c}{R:Act->q3g->Prop}:q44 (AtEnd f b R) f:=⟨λ_ _ h=>h.2.1,λ_ _ ⟨_,_,a,_,e,_⟩=>by rw[e];rfl⟩
theorem AtEnd.tape{b:q8c}{R:Act->q3g->Prop}{g:q5r}{u:q3g}(T:Nat->qc7->Nat)(h:AtEnd f b R g u):AtEnd f b R g (u.tp T):=by
 obtain⟨h1,h2,a,T0,h3,h4⟩:=h;exact⟨h1,h2,a,T0,h3,h4⟩
def yg(R:Act->q3g->Prop):Exit->Act->q3g->Prop
 | .normal,a,w=>R a w
 | _,_,_=>False
theorem LT.of_wp(H:Duo Q Q){b:q8c}{a:Act}{c:qcm}{wq:q3g}{R:Act->q3g->Prop}(h:∀T,c.wp Q (yg R) a (wq.tp T))(hr:xn Q base (G (b.at a [.code c]) [qj f]) wq):LT Q (AtEnd f b R) (G (b.at a [.code c]) [qj f]) wq:=by
 refine LT.of_all H (λg u T=>AtEnd.tape T) hr λT=>?_;obtain⟨e,a',w',hq,Z⟩:=h T b [] [qj f];cases e with
 | normal =>
  obtain⟨n,hn⟩:=Z;exact LP.of_runs H n (g:=G (b.at a [.code c]) [qj f]) (g1:=G (b.at a' []) [qj f]) (u:=wq.tp T) (pre:=[]) (hr.tape T) ⟨rfl,rfl⟩ rfl hn ⟨rfl,rfl⟩ ⟨[],rfl⟩ ⟨⟨rfl,rfl⟩,rfl,a',w'.tape,rfl,by rw[Jy];exact hq⟩
 | exit id=>exact hq.elim
 | goto l=>exact hq.elim
 | ret=>exact hq.elim
 | panic chain=>exact hq.elim
 | outgrown=>exact hq.elim
end
end Go.Co
end
section
namespace Go.Co
open Go
theorem zZ{md:qdr}{ops:Array qbz}{listed:Array Bool}{i:Nat}(h:i∈q91 md ops listed):i<ops.size/\listed.getD i true=false:=by
 simp only[q91,List.mem_filter,qcn,q9b,qcE] at h;exact⟨h.1,h.2.1⟩
def unl(listed:Array Bool)(n:Nat):Nat:=((qa4 n).filter λi=>!listed.getD i true).length
theorem Q8{listed:Array Bool}{n i:Nat}(hi:i<n)(hs:listed.size=n)(h:listed.getD i true=false):unl (listed.setIfInBounds i true) n<unl listed n:=by
 unfold unl;have key:∀l:List Nat,i∈l->(l.filter λk=>!(listed.setIfInBounds i true).getD k true).length<(l.filter λk=>!listed.getD k true).length:=by
  intro l;have hle:∀l:List Nat,(l.filter λk=>!(listed.setIfInBounds i true).getD k true).length<=(l.filter λk=>!listed.getD k true).length:=by
   intro l;induction l with
   | nil=>simp
   | cons x l ih =>
    simp only[List.filter_cons];by_cases hx:x=i
    ·subst hx
     have:(listed.setIfInBounds x true).getD x true=true:=by simp[qbm,hs,hi]
     rw[this,h];simp only[Bool.not_true,Bool.not_false,qa5,if_true,if_false,q8l];omega
    ·have:(listed.setIfInBounds i true).getD x true=listed.getD x true:=by simp[qbm,qav,Ne.symm hx]
     rw[this];split
     ·simp only[q8l];omega
     ·exact ih
  induction l with
  | nil=>intro h;cases h
  | cons x l ih =>
   intro hm;simp only[List.filter_cons];by_cases hx:x=i
   ·subst hx
    have:(listed.setIfInBounds x true).getD x true=true:=by simp[qbm,hs,hi]
    rw[this,h];have:=hle l;simp only[Bool.not_true,Bool.not_false,qa5,if_true,if_false,q8l];omega
   ·have:(listed.setIfInBounds i true).getD x true=listed.getD x true:=by simp[qbm,qav,Ne.symm hx]
    rw[this];have hm':i∈l:=by simpa[Ne.symm hx] using hm
    split
    ·have:=ih hm';simp only[q8l];omega
    ·exact ih hm'
 exact key _ (by simp[hi])
theorem q6w{P:q8b}{md:qdr}{ops:Array qbz}{Q:Exit->Act->q3g->Prop}(I:Array Bool->Act->q3g->Prop)
  (hstep:∀listed a w i,listed.size=ops.size->I listed a w->i∈q91 md ops listed->wpOp P ops Q i (I (listed.setIfInBounds i true)) a w)
  (hend:∀listed a w,listed.size=ops.size->I listed a w->q91 md ops listed=[]->Q .normal a w) :
  ∀(Z:Nat) (listed:Array Bool) (a:Act) (w:q3g),listed.size=ops.size->unl listed ops.size<=Z->I listed a w->wpAny P md ops Q Z listed a w:=by
 intro Z;induction Z with
 | zero =>
  intro listed a w hs hu hI;have hr:q91 md ops listed=[]:=by
   cases hr:q91 md ops listed with
   | nil=>rfl
   | cons i l =>
    exfalso;obtain⟨h1,h2⟩:=zZ (md:=md) (ops:=ops) (listed:=listed) (i:=i) (by rw[hr];simp);have:=Q8 h1 hs h2;omega
  exact⟨hr,hend listed a w hs hI hr⟩
 | succ Z ih =>
  intro listed a w hs hu hI;refine⟨hend listed a w hs hI,λi hi=>?_⟩;obtain⟨h1,h2⟩:=zZ hi;have hlt:=Q8 h1 hs h2;exact wpOp_mono (λa' w' h'=>ih _ a' w' (by simpa using hs) (by omega) h') (hstep listed a w i hs hI hi)
theorem K6{P:q8b}{id:Nat}{ops:Array qbz}{Q:Exit->Act->q3g->Prop}{a:Act}{w:q3g}(hm:P.follows .mixedOrders=true)(I:Array Bool->Act->q3g->Prop)
  (h0:I (qb4 ops.size false) a { w with drawn:=w.drawn+1 })
  (hstep:∀listed a w i,listed.size=ops.size->I listed a w->i∈q91 .any ops listed->wpOp P ops Q i (I (listed.setIfInBounds i true)) a w)
  (hend:∀listed a w,listed.size=ops.size->I listed a w->q91 .any ops listed=[]->Q .normal a w):(Code.region id ops true).wp P Q a w :=
 wp_region_any hm (q6w I hstep hend ops.size _ a _ (by simp) (by
  unfold unl;refine q87 (qcd _ _) (by simp)) h0)
theorem zx{P:q8b}{ops:Array qbz}{R K:Act->q3g->Prop}{i:Nat}{o:qbz}{a:Act}{w:q3g}(ho:ops[i]?=some o)(h:wpList P ops (yg K) [o] a w):wpOp P ops (yg R) i K a w:=by
 have no:∀X:Act->q3g->Prop,¬ LetsOut (yg X):=λX ⟨_,_,h⟩=>h;unfold wpOp;rw[ho];dsimp only;simp only[wpList] at h;split
 ·rename_i hw
  rw[if_pos hw] at h;rcases h with h | ⟨_,h⟩
  ·refine .inl ?_
   unfold Oper.wp at h ⊢;generalize (execOp a.eval o).run P w=r at h ⊢;cases r with
   | ok x w' =>
    cases x with
    | enter f args=>exact Calls.mono h λe w q=>by cases e<;>first | exact q | exact q.elim | exact absurd q (no _)
    | row r args=>exact Rows.mono h λv w q=>q
    | value v=>exact h
    | skip=>exact h
    | defer d=>exact h
    | _=>exact h.elim
   | halt x w'=>cases x<;>first | exact h | exact h.elim
  ·exact absurd h (no _)
 ·rename_i hw
  rw[if_neg hw] at h;exact h
end Go.Co
namespace Go.Co
open Go
theorem zn{md:qdr}{ops:Array qbz}{listed:Array Bool}{i:Nat}{o:qbz}(h:i∈q91 md ops listed)(ho:ops[i]?=some o):(o.after.all λe=>!qb8 md e || listed.getD e.on false)=true:=by
 simp only[q91,List.mem_filter,qcn,q9b,qcE] at h;have:=h.2.2;rw[ho] at this;simpa using this
end Go.Co
namespace Go.Co
open Go
theorem zQ{md:qdr}{ops:Array qbz}{listed:Array Bool}(hr:q91 md ops listed=[])(hs:listed.size=ops.size){i:Nat}{o:qbz}(ho:ops[i]?=some o)(Z:(o.after.all λe=>!qb8 md e || listed.getD e.on false)=true):listed[i]?.getD false=true:=by
 have hi:i<ops.size:=(q45.1 ho).1;refine qbw λhn=>?_;have hl:i<listed.size:=by omega
 have:i∈q91 md ops listed:=by
  simp only[q91,List.mem_filter,qcn,q9b,qcE];refine⟨hi,?_,?_⟩
  ·simp[qbm,q9w hl] at hn ⊢
   exact hn
  ·rw[ho]
   simpa using Z
 rw[hr] at this;cases this
theorem Zp(listed:Array Bool)(i j:Nat)(h:i<listed.size):(listed.setIfInBounds i true)[j]?.getD false=if i=j then true else listed[j]?.getD false:=by
 simp only[qav];split
 ·rename_i e;subst e;simp[h]
 ·rfl
theorem Ym{md:qdr}{ops:Array qbz}{listed:Array Bool}{i:Nat}(h:i∈q91 md ops listed):listed[i]?.getD false=false:=by
 have:=(zZ h).2;simp only[qbm] at this;cases hx:listed[i]? with
 | none=>rfl
 | some b=>rw[hx] at this;exact this
end Go.Co
end
section
namespace Go.Sim
structure Lets where
 f:Nat->Bool
 m:String->Bool
 b:Builtin->Array q8u->Bool
section
variable(Q:q8b)(s:Lets)
def yw:qaH->Bool
 | .tmp _=>true
 | .const v=>bareB v
 | .global g=>decide (g<Q.globals.size)
 | .func f=>s.f f
def xu(l:List qaH):Bool:=l.all (yw Q s)
def q3H:Call->Bool
 | ⟨.value f,a,_⟩=>yw Q s f && xu Q s a.toList
 | ⟨.invoke r n,a,_⟩=>yw Q s r && s.m n && xu Q s a.toList
 | ⟨.builtin b,a,ts⟩=>s.b b ts && xu Q s a.toList
def opC:Op->Bool
 | .move x | .assign x | .nilCheck x | .box _ x | .load _ x | .unOp _ _ x | .makeInterface _ x | .field _ x _ | .extract x _ | .panic x=>yw Q s x
 | .pick c a b=>yw Q s c && yw Q s a && yw Q s b
 | .alloc t=>kL Q t
 | .build t ps=>kL Q t && xu Q s (ps.toList.map (·.2))
 | .buildSlice t _ ps=>Q0 Q t && xu Q s (ps.toList.map (·.2))
 | .store _ a x=>yw Q s a && yw Q s x
 | .binOp op t x y _=>(if Kj op then eqOk Q t x y else q15 Q t) && yw Q s x && yw Q s y
 | .convert a d x=>q6n Q a d && yw Q s x
 | .makeFunc (.func f) a b=>s.f f && xu Q s a.toList && xu Q s b.toList
 | .makeMap _ r=>xu Q s r.toList
 | .makeSlice t l c=>Q0 Q t && yw Q s l && yw Q s c
 | .slice _ x l h m=>yw Q s x && xu Q s l.toList && xu Q s h.toList && xu Q s m.toList
 | .fieldAddr t x f=>q1h Q t f && yw Q s x
 | .indexAddr _ x i | .index _ x i=>yw Q s x && yw Q s i
 | .lookup t x i _=>Yr Q t && yw Q s x && yw Q s i
 | .mapUpdate t m k x | .insert t m k x=>Yr Q t && yw Q s m && yw Q s k && yw Q s x
 | .typeAssert x _ a _=>kL Q a && yw Q s x
 | .call c | .defer c=>q3H Q s c
 | _=>false
def yV:qcm->Bool
 | .skip | .exit _ | .label _ | .goto _ | .ret=>true
 | .region _ ops _=>ops.toList.all λo=>opC Q s o.op
 | .seq a b=>yV a && yV b
 | .cond c a b=>yw Q s c && yV a && yV b
 | .block _ c | .loop c | .scope c=>yV c
 | .rangeFunc f _ a c=>yw Q s f && yV a && yV c
 | _=>false
end
section
variable[JunkSet]{Q:q8b}{s:Lets}(hf:∀f,s.f f=true->JunkSet.okf f)(hm:∀n,s.m n=true->JunkSet.okm n)(hb:∀b ts,s.b b ts=true->JunkSet.okb b ts)
include hf in
theorem qA{x:qaH}(h:yw Q s x=true):qF Q x:=by
 cases x with
 | tmp t=>exact .tmp t
 | const v=>exact .const (q1w h)
 | global g=>exact .global (of_decide_eq_true h)
 | func f=>exact .func (hf f h)
include hf in
theorem jd{l:List qaH}(h:xu Q s l=true):ji Q l:=λx hx=>qA hf (qau.1 h x hx)
include hf hm hb in
theorem q3G{c:Call}(h:q3H Q s c=true):yS Q c:=by
 obtain⟨ca,a,ts⟩:=c;cases ca with
 | value f=>simp only[q3H,q9b] at h;exact .value (qA hf h.1) (jd hf h.2)
 | invoke r n=>simp only[q3H,q9b] at h;exact .invoke (qA hf h.1.1) (hm _ h.1.2) (jd hf h.2)
 | builtin b=>simp only[q3H,q9b] at h;exact .builtin (hb _ _ h.1) (jd hf h.2)
include hf hm hb in
theorem opC_ok{o:Op}(h:opC Q s o=true):qK Q o:=by
 cases o with
 | makeFunc fn a b =>
  cases fn with
  | func f=>simp only[opC,q9b] at h;exact .makeFunc (hf _ h.1.1) (jd hf h.1.2) (jd hf h.2)
  | _=>cases h
 | binOp op t x y u =>
  simp only[opC,q9b] at h;obtain⟨⟨h1,h2⟩,h3⟩:=h;split at h1
  ·rename_i he
   exact .eql he h1 (qA hf h2) (qA hf h3)
  ·rename_i he
   exact .arith (by simpa using he) h1 (qA hf h2) (qA hf h3)
 | move x=>exact .move (qA hf h)
 | assign x=>exact .assign (qA hf h)
 | nilCheck x=>exact .nilCheck (qA hf h)
 | box t x=>exact .box (qA hf h)
 | load t x=>exact .load (qA hf h)
 | unOp o t x=>exact .unOp (qA hf h)
 | makeInterface t x=>exact .makeInterface (qA hf h)
 | field t x f=>exact .field (qA hf h)
 | extract x i=>exact .extract (qA hf h)
 | panic x=>exact .panic (qA hf h)
 | pick c a b=>simp only[opC,q9b] at h;exact .pick (qA hf h.1.1) (qA hf h.1.2) (qA hf h.2)
 | alloc t=>exact .alloc h
 | build t ps=>simp only[opC,q9b] at h;exact .build h.1 (jd hf h.2)
 | buildSlice t n ps=>simp only[opC,q9b] at h;exact .buildSlice h.1 (jd hf h.2)
 | store t a x=>simp only[opC,q9b] at h;exact .store (qA hf h.1) (qA hf h.2)
 | convert a d x=>simp only[opC,q9b] at h;exact .convert h.1 (qA hf h.2)
 | makeMap t r=>exact .makeMap (jd hf h)
 | makeSlice t l c=>simp only[opC,q9b] at h;exact .makeSlice h.1.1 (qA hf h.1.2) (qA hf h.2)
 | slice t x l hh m=>simp only[opC,q9b] at h;exact .slice (qA hf h.1.1.1) (jd hf h.1.1.2) (jd hf h.1.2) (jd hf h.2)
 | fieldAddr t x f=>simp only[opC,q9b] at h;exact .fieldAddr h.1 (qA hf h.2)
 | indexAddr t x i=>simp only[opC,q9b] at h;exact .indexAddr (qA hf h.1) (qA hf h.2)
 | index t x i=>simp only[opC,q9b] at h;exact .index (qA hf h.1) (qA hf h.2)
 | lookup t x i c=>simp only[opC,q9b] at h;exact .lookup h.1.1 (qA hf h.1.2) (qA hf h.2)
 | mapUpdate t m k x=>simp only[opC,q9b] at h;exact .mapUpdate h.1.1.1 (qA hf h.1.1.2) (qA hf h.1.2) (qA hf h.2)
 | insert t m k x=>simp only[opC,q9b] at h;exact .insert h.1.1.1 (qA hf h.1.1.2) (qA hf h.1.2) (qA hf h.2)
 | typeAssert x t a c=>simp only[opC,q9b] at h;exact .typeAssert h.1 (qA hf h.2)
 | call c=>exact .call (q3G hf hm hb h)
 | defer c=>exact .defer (q3G hf hm hb h)
 | _=>cases h
include hf hm hb in
theorem q3D{c:qcm}(h:yV Q s c=true):qz Q c:=by
 induction c with
 | skip=>exact .skip
 | exit id=>exact .exit id
 | label l=>exact .label l
 | goto l=>exact .goto l
 | ret=>exact .ret
 | region id ops d=>exact .region λo ho=>opC_ok hf hm hb (qau.1 h o ho)
 | seq a b iha ihb=>simp only[yV,q9b] at h;exact .seq (iha h.1) (ihb h.2)
 | cond c a b iha ihb=>simp only[yV,q9b] at h;exact .cond (qA hf h.1.1) (iha h.1.2) (ihb h.2)
 | block id c ih=>exact .block (ih h)
 | loop c ih=>exact .loop (ih h)
 | scope c ih=>exact .scope (ih h)
 | rangeFunc f ps a c iha ihc=>simp only[yV,q9b] at h;exact .rangeFunc (qA hf h.1.1) (iha h.1.2) (ihc h.2)
 | _=>cases h
end
section
variable{A B:JunkSet}{Q:q8b}(hf:∀f,A.okf f->B.okf f)(hm:∀n,A.okm n->B.okm n)(hb:∀b ts,A.okb b ts->B.okb b ts)
include hf in
theorem qG{x:qaH}(h:@qF A Q x):@qF B Q x:=by
 cases h with
 | tmp t=>exact @qF.tmp B Q t
 | const h=>exact @qF.const B Q _ h
 | global h=>exact @qF.global B Q _ h
 | func h=>exact @qF.func B Q _ (hf _ h)
include hf in
theorem jV{l:List qaH}(h:@ji A Q l):@ji B Q l:=λx hx=>qG hf (h x hx)
include hf hm hb in
theorem q6p{c:Call}(h:@yS A Q c):@yS B Q c:=by
 cases h with
 | value h1 h2=>exact @yS.value B Q _ _ _ (qG hf h1) (jV hf h2)
 | invoke h1 h2 h3=>exact @yS.invoke B Q _ _ _ _ (qG hf h1) (hm _ h2) (jV hf h3)
 | builtin h1 h2=>exact @yS.builtin B Q _ _ _ (hb _ _ h1) (jV hf h2)
include hf hm hb in
theorem op_to{o:Op}(h:@qK A Q o):@qK B Q o:=by
 cases h with
 | move h=>exact @qK.move B Q _ (qG hf h)
 | assign h=>exact @qK.assign B Q _ (qG hf h)
 | pick h1 h2 h3=>exact @qK.pick B Q _ _ _ (qG hf h1) (qG hf h2) (qG hf h3)
 | alloc h=>exact @qK.alloc B Q _ h
 | box h=>exact @qK.box B Q _ _ (qG hf h)
 | build h1 h2=>exact @qK.build B Q _ _ h1 (jV hf h2)
 | buildSlice h1 h2=>exact @qK.buildSlice B Q _ _ _ h1 (jV hf h2)
 | load h=>exact @qK.load B Q _ _ (qG hf h)
 | store h1 h2=>exact @qK.store B Q _ _ _ (qG hf h1) (qG hf h2)
 | nilCheck h=>exact @qK.nilCheck B Q _ (qG hf h)
 | arith h1 h2 h3 h4=>exact @qK.arith B Q _ _ _ _ _ h1 h2 (qG hf h3) (qG hf h4)
 | eql h1 h2 h3 h4=>exact @qK.eql B Q _ _ _ _ _ h1 h2 (qG hf h3) (qG hf h4)
 | unOp h=>exact @qK.unOp B Q _ _ _ (qG hf h)
 | convert h1 h2=>exact @qK.convert B Q _ _ _ h1 (qG hf h2)
 | makeInterface h=>exact @qK.makeInterface B Q _ _ (qG hf h)
 | makeFunc h1 h2 h3=>exact @qK.makeFunc B Q _ _ _ (hf _ h1) (jV hf h2) (jV hf h3)
 | makeMap h=>exact @qK.makeMap B Q _ _ (jV hf h)
 | makeSlice h1 h2 h3=>exact @qK.makeSlice B Q _ _ _ h1 (qG hf h2) (qG hf h3)
 | slice h1 h2 h3 h4=>exact @qK.slice B Q _ _ _ _ _ (qG hf h1) (jV hf h2) (jV hf h3) (jV hf h4)
 | fieldAddr h1 h2=>exact @qK.fieldAddr B Q _ _ _ h1 (qG hf h2)
 | field h=>exact @qK.field B Q _ _ _ (qG hf h)
 | indexAddr h1 h2=>exact @qK.indexAddr B Q _ _ _ (qG hf h1) (qG hf h2)
 | index h1 h2=>exact @qK.index B Q _ _ _ (qG hf h1) (qG hf h2)
 | lookup h1 h2 h3=>exact @qK.lookup B Q _ _ _ _ h1 (qG hf h2) (qG hf h3)
 | mapUpdate h1 h2 h3 h4=>exact @qK.mapUpdate B Q _ _ _ _ h1 (qG hf h2) (qG hf h3) (qG hf h4)
 | insert h1 h2 h3 h4=>exact @qK.insert B Q _ _ _ _ h1 (qG hf h2) (qG hf h3) (qG hf h4)
 | typeAssert h1 h2=>exact @qK.typeAssert B Q _ _ _ _ h1 (qG hf h2)
 | extract h=>exact @qK.extract B Q _ _ (qG hf h)
 | call h=>exact @qK.call B Q _ (q6p hf hm hb h)
 | defer h=>exact @qK.defer B Q _ (q6p hf hm hb h)
 | panic h=>exact @qK.panic B Q _ (qG hf h)
include hf hm hb in
theorem q1n{c:qcm}(h:@qz A Q c):@qz B Q c:=by
 induction h with
 | skip=>exact @qz.skip B Q
 | region h=>exact @qz.region B Q _ _ _ λo ho=>op_to hf hm hb (h o ho)
 | seq _ _ h1 h2=>exact @qz.seq B Q _ _ h1 h2
 | cond h _ _ h1 h2=>exact @qz.cond B Q _ _ _ (qG hf h) h1 h2
 | block _ h=>exact @qz.block B Q _ _ h
 | loop _ h=>exact @qz.loop B Q _ h
 | rangeFunc h _ _ h1 h2=>exact @qz.rangeFunc B Q _ _ _ _ (qG hf h) h1 h2
 | exit id=>exact @qz.exit B Q id
 | scope _ h=>exact @qz.scope B Q _ h
 | label l=>exact @qz.label B Q l
 | goto l=>exact @qz.goto B Q l
 | ret=>exact @qz.ret B Q
end
@[reducible] def JS0(s:Lets)(jk:Nat->Prop):JunkSet:={ jk,okf:=λf=>s.f f=true,okm:=λn=>s.m n=true,okb:=λb ts=>s.b b ts=true,okc:=λ_=>False,okg:=λ_=>False }
@[reducible] def JS(Q P:q8b)(s:Lets)(jk:Nat->Prop):JunkSet:={ JS0 s jk with okc:=@qz (JS0 s jk) Q,okg:=λf=>(∃g,Q.funcs[f]?=some g/\P.funcs[f]?=some g)/\Q.inits.idxOf? f=none }
def funC(Q P:q8b)(s:Lets)(f:Nat):Bool :=
 match Q.funcs[f]?,P.funcs[f]? with
 | some fq,some fp=>!fq.body.isNone && !fp.body.isNone && !(fq.name == "runtime.NumGoroutine") && !(fp.name == "runtime.NumGoroutine") && (Q.inits.idxOf? f).isNone
 | _,_=>false
def bodyC(Q:q8b)(s:Lets)(f:Nat):Bool :=
 match (Q.funcs[f]?).bind (·.body) with
 | some c=>yV Q s c
 | none=>false
theorem duo_of{Q P:q8b}{s:Lets}{jk:Nat->Prop}(ht:P.toTables=Q.toTables)(hr:Q.follows .rangeFuncRecover=true)
  (h0:(match Q.info? 0 with | some i=>(i.methods.find? (·.name == "")).isNone | none=>true)=true)
  (hb:∀b ts,s.b b ts=true->biB Q b ts=true)
  (hf:∀f,s.f f=true->funC Q P s f=true) (hbody:∀f,s.f f=true->Q.funcs[f]?=P.funcs[f]?->bodyC Q s f=true)
  (hm:∀n,s.m n=true->∀t i m,Q.info? t=some i->i.methods.find? (·.name == n)=some m->m.path=#[]/\∃f b,m.func=some (f,b)/\s.f f=true/\∀e,Q.underlying t=some (.pointer e)->b=true):@Duo (JS Q P s jk) Q P:=by
 letI:=JS Q P s jk
 have fin:∀f,s.f f=true->∃fq fp,Q.funcs[f]?=some fq/\P.funcs[f]?=some fp/\fq.body.isNone=false/\fp.body.isNone=false/\(fq.name == "runtime.NumGoroutine")=false/\(fp.name == "runtime.NumGoroutine")=false/\Q.inits.idxOf? f=none:=by
  intro f h;have:=hf f h;unfold funC at this;cases h1:Q.funcs[f]? with
  | none=>rw[h1] at this;cases this
  | some fq =>
   cases h2:P.funcs[f]? with
   | none=>rw[h1,h2] at this;cases this
   | some fp =>
    rw[h1,h2] at this;simp only[q9b,qcE,Option.isNone_iff_eq_none] at this;exact⟨fq,fp,rfl,rfl,this.1.1.1.1,this.1.1.1.2,this.1.1.2,this.1.2,this.2⟩
 exact{
  bis:=hb
  tables:=ht
  funcs:=λf h=>let ⟨fq,fp,h1,h2,h3,h4,h5,h6,_⟩:=fin f h;⟨fq,fp,h1,h2,h3,h4,h5,h6⟩
  meths:=hm
  nometh:=λi hi=>by rw[hi] at h0;exact h0
  codes:=λc=>⟨q1n (A:=JS0 s jk) (B:=JS Q P s jk) (λ_ h=>h) (λ_ h=>h) (λ_ _ h=>h),q1n (A:=JS Q P s jk) (B:=JS0 s jk) (λ_ h=>h) (λ_ h=>h) (λ_ _ h=>h)⟩
  rfr:=hr
  bodies:=λf g Z h1 h2 c hc=>by
   have:=hbody f Z (by rw[h1,h2]);unfold bodyC at this;rw[h1,Option.bind_some,hc] at this;exact q3D (s:=s) (λ_ h=>h) (λ_ h=>h) (λ_ _ h=>h) this
  inits:=λf h=>let ⟨_,_,_,_,_,_,_,_,h7⟩:=fin f h;h7
  same:=λf=>Iff.rfl }
end Go.Sim
end
section
namespace Go.Sim
structure BoxJ where
 j:JunkSet
structure Up(A B:JunkSet):Prop where
 f:∀x,A.okf x->B.okf x
 m:∀x,A.okm x->B.okm x
 b:∀x y,A.okb x y->B.okb x y
 c:∀x,A.okc x->B.okc x
 g:∀x,A.okg x->B.okg x
 j:A.jk=B.jk
section
variable{A B:JunkSet}(U:Up A B){ρ:Ren}
include U
theorem FnR.up{x y:Fn}(h:@FnR A ρ x y):@FnR B ρ x y:=by
 cases h with
 | func f h=>exact @FnR.func B ρ f (U.f _ h)
 | yield h=>exact @FnR.yield B ρ _ _ h
theorem VR.up{x y:q58}(h:@VR A ρ x y):@VR B ρ x y:=by
 induction h with
 | bool b=>exact @VR.bool B ρ b
 | int k n=>exact @VR.int B ρ k n
 | string s=>exact @VR.string B ρ s
 | ptrNil=>exact @VR.ptrNil B ρ
 | ptr off spot h=>exact @VR.ptr B ρ _ _ off spot h
 | sliceNil n c=>exact @VR.sliceNil B ρ n c
 | slice off spot n c h=>exact @VR.slice B ρ _ _ off spot n c h
 | mapNil=>exact @VR.mapNil B ρ
 | map h=>exact @VR.map B ρ _ _ h
 | func hf h1 _ h2 _ ih1 ih2=>exact @VR.func B ρ _ _ _ _ _ _ (FnR.up U hf) h1 ih1 h2 ih2
 | nilFunc=>exact @VR.nilFunc B ρ
 | iface t _ ih=>exact @VR.iface B ρ t _ _ ih
 | nilIface=>exact @VR.nilIface B ρ
 | agg h _ ih=>exact @VR.agg B ρ _ _ h ih
 | tuple h _ ih=>exact @VR.tuple B ρ _ _ h ih
 | wild y h=>exact @VR.wild B ρ y h
 | meth n a c=>exact @VR.meth B ρ n a c
theorem AsR.up{x y:Array q58}(h:@AsR A ρ x y):@AsR B ρ x y:=⟨h.1,λi a b ha hb=>VR.up U (h.2 i a b ha hb)⟩
theorem yZ.up{x y:qdm}(h:@yZ A ρ x y):@yZ B ρ x y:=@yZ.mk B ρ x y (VR.up U (@yZ.key A ρ x y h)) (VR.up U (@yZ.val A ρ x y h)) (@yZ.born A ρ x y h)
theorem ym.up{x y:Target}(h:@ym A ρ x y):@ym B ρ x y:=by
 cases h with
 | fn h1 h2=>exact @ym.fn B ρ _ _ _ _ (FnR.up U h1) (AsR.up U h2)
 | meth n h=>exact @ym.meth B ρ n (U.m _ h)
 | nil=>exact @ym.nil B ρ
 | builtin b a t c h=>exact @ym.builtin B ρ b a t c (U.b _ _ h)
 | collected h=>exact @ym.collected B ρ _ _ h
theorem yO.up{x y:qc3}(h:@yO A ρ x y):@yO B ρ x y:=by
 cases h with
 | mk h1 h2=>exact @yO.mk B ρ x y (ym.up U h1) (AsR.up U h2)
 | bound h1 h2 h3=>exact @yO.bound B ρ x y h1 h2 h3
theorem QD.up{x y:Loop}(h:@QD A ρ x y):@QD B ρ x y:=by
 obtain⟨h1,h2,h3,h4,h5,h6,h7,h8,h9,a7,a6,Z⟩:=h;exact @QD.mk B ρ x y h1 h2 h3 (AsR.up U h4) h5 h6 h7 h8 (U.g _ h9) (U.c _ a7) (U.c _ a6) λc hc=>U.c _ (Z c hc)
theorem ObR.up{x y:Obj}(h:@ObR A ρ x y):@ObR B ρ x y:=by
 cases h with
 | cells e h1 h2=>exact @ObR.cells B ρ _ _ e _ _ (AsR.up U h1) h2
 | map c h=>exact @ObR.map B ρ _ _ c (h.imp λ_ _ k=>yZ.up U k)
 | stringIter s p=>exact @ObR.stringIter B ρ s p
 | mapIterNil a s b=>exact @ObR.mapIterNil B ρ a s b
 | mapIter a s b h=>exact @ObR.mapIter B ρ _ _ a s b h
 | loop h=>exact @ObR.loop B ρ _ _ (QD.up U h)
 | number o s x h=>exact @ObR.number B ρ _ _ o s x h
 | deferredNone=>exact @ObR.deferredNone B ρ
 | deferred h=>exact @ObR.deferred B ρ _ _ (h.imp λ_ _ k=>yO.up U k)
theorem WR.up{Q:q8b}{base:Nat}{wq w:q3g}(h:@WR A Q base ρ wq w):@WR B Q base ρ wq w:=by
 obtain⟨h1,h2,h3,h4,h5,h6,h7,h8⟩:=h;refine @WR.mk B Q base ρ wq w h1 h2 h3 (λi j o hb ho=>?_) h5 h6 (λi hi=>h7 i (by rw[U.j];exact hi)) h8;rcases h4 i j o hb ho with⟨k1,k2⟩ | ⟨k1,o',k2,k3⟩
 ·exact .inl ⟨by rw[<- U.j];exact k1,k2⟩
 ·exact .inr ⟨by rw[<- U.j];exact k1,o',k2,ObR.up U k3⟩
theorem qz.up{Q:q8b}{c:qcm}(h:@qz A Q c):@qz B Q c:=q1n (A:=A) (B:=B) U.f U.m U.b h
theorem qK.up{Q:q8b}{o:Op}(h:@qK A Q o):@qK B Q o:=op_to (A:=A) (B:=B) U.f U.m U.b h
theorem zi.up{Q:q8b}{x y:qdy}(h:@zi A Q ρ x y):@zi B Q ρ x y:=by
 cases h with
 | code h=>exact @zi.code B Q ρ _ (qz.up U h)
 | inBlock id=>exact @zi.inBlock B Q ρ id
 | inLoop h=>exact @zi.inLoop B Q ρ _ (qz.up U h)
 | inScope h=>exact @zi.inScope B Q ρ _ (qz.up U h)
 | inRegion l h=>exact @zi.inRegion B Q ρ _ l λo ho=>qK.up U (h o ho)
 | inRangeFunc h=>exact @zi.inRangeFunc B Q ρ _ _ h
 | endRangeFunc h=>exact @zi.endRangeFunc B Q ρ _ _ h
 | beginRound=>exact @zi.beginRound B Q ρ
theorem Zw.up{x y:PanicEntry}(h:@Zw A ρ x y):@Zw B ρ x y:=by
 obtain⟨h1,h2,h3⟩:=h;exact @Zw.mk B ρ x y (VR.up U h1) h2 h3
theorem kG.up{x y:FrameMode}(h:@kG A ρ x y):@kG B ρ x y:=by
 cases h with
 | run=>exact @kG.run B ρ
 | returning=>exact @kG.returning B ρ
 | panicking h=>exact @kG.panicking B ρ _ _ (h.imp λ_ _ k=>Zw.up U k)
theorem qu.up{Q P:q8b}{x y:q8c}(h:@qu A Q P ρ x y)(hs:∃g,Q.funcs[x.fn]?=some g/\Q.funcs[x.fn]?=some g):@qu B Q Q ρ x y:=by
 obtain⟨h1,h2,h3,h4,h5,h6,h7,h8,h9⟩:=h;exact @qu.mk B Q Q ρ x y h1 hs h3 (AsR.up U h4) (h5.imp λ_ _ k=>zi.up U k) (h6.imp λ_ _ k=>yO.up U k) (kG.up U h7) h8 h9
theorem kH.up{Q P:q8b}{x y:q5r}(h:@kH A Q P ρ x y):@kH B Q Q ρ x y:=by
 obtain⟨h1,h2,h3,h4,h5,h6⟩:=h;exact @kH.mk B Q Q ρ x y (qu.up U h1 (let ⟨g,k,_⟩:=@qu.same A Q P ρ _ _ h1;⟨g,k,k⟩)) (h2.imp λa b k=>qu.up U k (let ⟨g,k,_⟩:=@qu.same A Q P ρ a b k;⟨g,k,k⟩)) h3 h4 h5 h6
end
end Go.Sim
end
section
namespace Go.Co
open Go.Conc Go.ConcN Go.Sim
section
variable[J:JunkSet](Q P:q8b)(f:qbe)(Post:q58->q3g->Prop)(W:q3g)
structure Rl(ρ:Ren)(g:q5r)(wq:q3g)(g':q5r)(w:q3g):Prop where
 wr:WR Q W.heap.size ρ wq w
 ln:W.heap.size<=ρ.length
 gl:Gl P ρ
 stack:∃pre,g.callers=pre++[qj f]
 rel:∃gv,kH Q P ρ g gv/\g'=swap [] gv
def EL(g:q5r)(wq:q3g):Prop :=
 ∀ρ g' w cl,Rl Q P f W ρ g wq g' w->kJ cl ρ->(∀b,w.heap.size<=b->cl b=.mine 0)->yR W.heap.size W.heap.size W ρ w->(∀b,b<W.heap.size->cl b=.mine 0)->E P Post cl g' w
def LF(g:q5r)(u:q3g):Prop:=Live g/\(∃pre,g.callers=pre++[qj f])/\Q.funcs[g.frame.fn]?=P.funcs[g.frame.fn]?/\EL Q P f Post W g u
structure Two:Prop where
 H:Duo Q P
 HQ:∃B:BoxJ,Up J B.j/\@Duo B.j Q Q
 hrf:P.follows .rangeFuncRecover=true
 stub:∀fk,Q.funcs[fk]?≠P.funcs[fk]?->∀a k cs u,∃o w es,qb7 Q true { frame:=qan Q fk a k,callers:=cs,status:=.running,dying:=none } u true=.ended o w es
end
section
variable[J:JunkSet]{Q P:q8b}{f:qbe}{Post:q58->q3g->Prop}{W:q3g}
theorem EL.tape{g:q5r}{wq:q3g}(h:EL Q P f Post W g wq)(T:Nat->qc7->Nat):EL Q P f Post W g (wq.tp T):=by
 rintro ρ g' w cl ⟨h1,Z,h2,h3,h4⟩ ho hc hk hm;exact h ρ g' w cl ⟨⟨h1.len,h1.nodup,h1.lt,h1.obj,h1.low,h1.env,h1.below,h1.gar⟩,Z,h2,h3,h4⟩ ho hc hk hm
theorem LF.tape{g:q5r}{u:q3g}(T:Nat->qc7->Nat)(h:LF Q P f Post W g u):LF Q P f Post W g (u.tp T):=⟨h.1,h.2.1,h.2.2.1,h.2.2.2.tape T⟩
theorem xG(fr:q8c):q9A fr []=none:=by
 unfold q9A;simp
theorem EL.of_tree(D:Two Q P){g:q5r}{wq:q3g}(ht:∀ρ g' w,Rl Q P f W ρ g wq g' w->LT Q (LF Q P f Post W) g wq):EL Q P f Post W g wq:=by
 intro ρ g' w cl h ho hc hk hm;have hF:∀g u,LF Q P f Post W g u->g.callers≠[]:=λg u ⟨_,⟨pre,e⟩,_⟩=>by rw[e];simp
 refine E.sub (Cp:=λcl=>∀b,b<W.heap.size->cl b=.mine 0) (Q:=Q) (F:=LF Q P f Post W) (f:=f) (real:=[]) (W:=W) D.H D.hrf xG hF ?_ ?_ (ρ:=ρ) (g:=g) (wq:=wq) ⟨h.ln,h.wr,h.gl,ht _ _ _ h,h.stack,h.rel⟩ ho hc hk hm
 ·intro ρ g wq g' w cl hs hl ho hc hk hm
  exact hl.2.2.2 ρ g' w cl ⟨hs.wr,hs.len,hs.gl,hs.stack,hs.rel⟩ ho hc hk hm
 ·intro ρ fk k a a' c c' pre pre' wq w cl hks ho hc hk _ _
  exfalso;obtain⟨o,u,es,e⟩:=D.stub fk hks.diff a k (c::(pre++[qj f])) (wq.tp wq.tape);cases hks.tree with
  | done hh=>exact hks.diff hh.2.2.1
  | step _ h1 _ =>
   obtain⟨g1,u1,es1,e1,_⟩:=h1 wq.tape;rw[e] at e1;cases e1
theorem Rl.rel1{B:BoxJ}(U:Up J B.j){ρ:Ren}{g:q5r}{wq:q3g}{g':q5r}{w:q3g}(D:Two Q P)(h:Rl Q P f W ρ g wq g' w):@xn B.j Q W.heap.size g wq:=by
 obtain⟨gv,hg,_⟩:=h.rel;exact⟨ρ,gv,w,h.ln,WR.up U h.wr,λi hi=>h.gl i (by rw[D.H.gsize];exact hi),kH.up U hg⟩
theorem EL.of_runs(D:Two Q P){fr:q8c}{cs:List q8c}{wq:q3g}(ht:∀T,∃Z a6 u1,Steps Q (lone fr cs (wq.tp T)) (lone Z a6 u1)/\(∃pre,a6=pre++[qj f])/\Q.funcs[Z.fn]?=P.funcs[Z.fn]?/\EL Q P f Post W (G Z a6) u1) :
  EL Q P f Post W (G fr cs) wq:=by
 refine EL.of_tree D λρ g' w h=>?_;obtain⟨pre,a8⟩:=h.stack;obtain⟨B,U,HQ⟩:=D.HQ;have a7:=h.rel1 U D;refine @LT.of_all B.j Q W.heap.size _ HQ (λg u T=>LF.tape T) _ _ a7 λT=>?_;obtain⟨Z,a6,u1,⟨n,hn⟩,hst,hs,hE⟩:=ht T;exact @LP.of_runs B.j Q W.heap.size _ HQ f n (g:=G fr cs) (g1:=G Z a6) (u:=wq.tp T) (u1:=u1) (pre:=pre) (@xn.tape B.j Q W.heap.size _ _ a7 T) ⟨rfl,rfl⟩ a8 hn ⟨rfl,rfl⟩ hst ⟨⟨rfl,rfl⟩,hst,hs,hE⟩
def Bot(f:qbe)(cs:List q8c):Prop:=∃pre,cs=pre++[qj f]
theorem Bot.cons{cs:List q8c}{c:q8c}(h:Bot f cs):Bot f (c::cs):=by
 obtain⟨pre,rfl⟩:=h;exact⟨c::pre,rfl⟩
def Land(Q P:q8b)[J:JunkSet](f:qbe)(Post:q58->q3g->Prop)(W:q3g)(b:q8c)(k:List qdy)(cs:List q8c):Exit->Act->q3g->Prop
 | .normal,a,w=>EL Q P f Post W (G (b.at a k) cs) w
 | .exit id,a,w=>∃k',exitTo id k=some k'/\EL Q P f Post W (G (b.at a k') cs) w
 | .ret,a,w=>∀todo,EL Q P f Post W (G { b.at a todo with mode:=.returning } cs) w
 | _,_,_=>False
section
variable{b:q8c}{a:Act}{k:List qdy}{cs:List q8c}{wq:q3g}
theorem EL.land(D:Two Q P)(hb:Bot f cs)(hs:Q.funcs[b.fn]?=P.funcs[b.fn]?){fr:q8c}(ht:∀T,∃e a' w',Land Q P f Post W b k cs e a' w'/\Arrives Q (lone fr cs (wq.tp T)) b k cs e a' w'):EL Q P f Post W (G fr cs) wq:=by
 refine EL.of_runs D λT=>?_;obtain⟨e,a',w',hl,Z⟩:=ht T;cases e with
 | normal=>exact⟨_,cs,w',Z,hb,hs,hl⟩
 | exit id =>
  obtain⟨k',hk,hE⟩:=hl;exact⟨_,cs,w',Z k' hk,hb,hs,hE⟩
 | goto l=>exact hl.elim
 | ret =>
  obtain⟨todo,Z⟩:=Z;exact⟨_,cs,w',Z,hb,hs,hl todo⟩
 | panic chain=>exact hl.elim
 | outgrown=>exact hl.elim
theorem EL.piece(D:Two Q P)(hb:Bot f cs)(hs:Q.funcs[b.fn]?=P.funcs[b.fn]?){c:qcm}(h:∀T,c.wp Q (Land Q P f Post W b k cs) a (wq.tp T)):EL Q P f Post W (G (b.at a (.code c::k)) cs) wq :=
 EL.land D hb hs λT=>h T b k cs
end
end
end Go.Co
end
section
namespace Go.Co
open Go.Conc Go.ConcN Go.Sim
def EE(P:q8b)(Post:q58->q3g->Prop)(cl:Nat->Cl)(g:q5r)(w:q3g):Prop:=∀d,E P Post cl g (w.at d)
section
variable{P:q8b}{Post:q58->q3g->Prop}{cl:Nat->Cl}
theorem EE.pure{g g':q5r}{w:q3g}(hs:g.status=.running)(h:∀w,qb7 P true g w=.go g' w #[])(hE:EE P Post cl g' w):EE P Post cl g w :=
 λd=>E.step hs λd'=>⟨g',(w.at d).at d',#[],h _,q5m _,by simp,hE d'⟩
theorem EE.raw{g g':q5r}{w:q3g}(w':q3g)(cl':Nat->Cl)(hs:g.status=.running)(h:∀d,∃es,qb7 P true g (w.at d)=.go g' (w'.at d) es/\∀e∈es,EvG cl' w'.heap.size 0 e/\jw e)
  (hsz:w.heap.size<=w'.heap.size) (hcl:∀b,b<w.heap.size->cl' b=cl b) (hc0:∀b,w'.heap.size<=b->cl' b=.mine 0) (hE:EE P Post cl' g' w'):EE P Post cl g w :=
 λd=>E.stepC hs λd'=>by
  obtain⟨es,h1,h2⟩:=h d';exact⟨g',w'.at d',es,cl',h1,hsz,hcl,hc0,h2,hE d'⟩
section
variable{b:q8c}{a:Act}{k:List qdy}{cs:List q8c}{w:q3g}
theorem EE.seq{x y:qcm}(h:EE P Post cl (G (b.at a (.code x::.code y::k)) cs) w):EE P Post cl (G (b.at a (.code (.seq x y)::k)) cs) w:=.pure rfl (λ_=>q89) h
theorem EE.block{id:Nat}{c:qcm}(h:EE P Post cl (G (b.at a (.code c::.inBlock id::k)) cs) w):EE P Post cl (G (b.at a (.code (.block id c)::k)) cs) w:=.pure rfl (λ_=>stepG_block) h
theorem EE.loop{c:qcm}(h:EE P Post cl (G (b.at a (.code c::.inLoop c::k)) cs) w):EE P Post cl (G (b.at a (.code (.loop c)::k)) cs) w:=.pure rfl (λ_=>stepG_loop) h
theorem EE.region{id:Nat}{ops:Array qbz}(h:EE P Post cl (G (b.at a (.inRegion ops (qa4 ops.size)::k)) cs) w):EE P Post cl (G (b.at a (.code (.region id ops false)::k)) cs) w:=.pure rfl (λ_=>stepG_region) h
theorem EE.region_end{ops:Array qbz}(h:EE P Post cl (G (b.at a k) cs) w):EE P Post cl (G (b.at a (.inRegion ops []::k)) cs) w:=.pure rfl (λ_=>q5t) h
theorem EE.retS(h:EE P Post cl (G { b.at a (.code .ret::k) with mode:=.returning } cs) w):EE P Post cl (G (b.at a (.code .ret::k)) cs) w:=.pure rfl (λ_=>qcC) h
theorem EE.value{ops:Array qbz}{i:Nat}{rest:List Nat}{o:qbz}(v:q58)(ho:ops[i]?=some o)(hw:qb0 o (yielded ops a.tmps)=true)(hk:b.kind≠.early)
  (hr:∀w,(execOp a.eval o).run P w=.ok (.value v) w) (he:∀w,(execOp a.eval o).events P w #[]=#[]) (h:EE P Post cl (G (b.at (a.put o.dst v) (.inRegion ops rest::k)) cs) w):EE P Post cl (G (b.at a (.inRegion ops (i::rest)::k)) cs) w :=
 .pure rfl (λw=>by rw[stepG_value ho hw hk (hr w)];unfold listed;rw[he w,seen_none]) h
theorem EE.op[JunkSet]{ops:Array qbz}{i:Nat}{rest:List Nat}{o:qbz}(v:q58)(w':q3g)(cl':Nat->Cl)(ho:ops[i]?=some o)(hw:qb0 o (yielded ops a.tmps)=true)(hk:b.kind≠.early)
  (hr:∀d,(execOp a.eval o).run P (w.at d)=.ok (.value v) (w'.at d)) (he:∀d,∀e∈(execOp a.eval o).events P (w.at d) #[],EvG cl' w'.heap.size 0 e/\jw e)
  (hsz:w.heap.size<=w'.heap.size) (hcl:∀b,b<w.heap.size->cl' b=cl b) (hc0:∀b,w'.heap.size<=b->cl' b=.mine 0)
  (h:EE P Post cl' (G (b.at (a.put o.dst v) (.inRegion ops rest::k)) cs) w'):EE P Post cl (G (b.at a (.inRegion ops (i::rest)::k)) cs) w :=
 .raw w' cl' rfl (λd=>⟨_,stepG_value ho hw hk (hr d),λe hm=>he d e (km _ _ _ e hm)⟩) hsz hcl hc0 h
theorem K9{main:Bool}{ops:Array qbz}{i:Nat}{rest:List Nat}{o:qbz}{w w':q3g}(ho:ops[i]?=some o)(hw:qb0 o (yielded ops a.tmps)=true)
  (hk:b.kind≠.early) (hr:(execOp a.eval o).run P w=.ok .skip w') :
  qb7 P main (G (b.at a (.inRegion ops (i::rest)::k)) cs) w=.go (G (b.at (a.put o.dst q5s) (.inRegion ops rest::k)) cs) w' (listed P b.fn a o w):=by
 have Z:(b.at a (.inRegion ops (i::rest)::k)).finish q5s=b.at (a.put o.dst q5s) (.inRegion ops rest::k):=by rw[qcr,ho];rfl
 have hk':(b.kind == CallKind.early)=false:=by simpa using hk
 rw[stepG_oper ho hw,<- Z];simp[qbn,hr,G,Frame.at,hk',qbf,listed]
theorem EE.store[JunkSet]{ops:Array qbz}{i:Nat}{rest:List Nat}{o:qbz}(w':q3g)(ho:ops[i]?=some o)(hw:qb0 o (yielded ops a.tmps)=true)(hk:b.kind≠.early)
  (hr:∀d,(execOp a.eval o).run P (w.at d)=.ok .skip (w'.at d)) (he:∀d,∀e∈(execOp a.eval o).events P (w.at d) #[],EvG cl w'.heap.size 0 e/\jw e)
  (hsz:w'.heap.size=w.heap.size) (hc0:∀b,w.heap.size<=b->cl b=.mine 0)
  (h:EE P Post cl (G (b.at (a.put o.dst q5s) (.inRegion ops rest::k)) cs) w'):EE P Post cl (G (b.at a (.inRegion ops (i::rest)::k)) cs) w :=
 .raw w' cl rfl (λd=>⟨_,K9 ho hw hk (hr d),λe hm=>he d e (km _ _ _ e hm)⟩) (Nat.le_of_eq hsz.symm) (λ_ _=>rfl) (λb hb=>hc0 b (by omega)) h
theorem EE.enter{ops:Array qbz}{i:Nat}{rest:List Nat}{o:qbz}{f:qbe}{fn:Func}{args:Array qaH}{Z:Array q8u}(ho:ops[i]?=some o)(hw:qb0 o (yielded ops a.tmps)=true)(hk:b.kind≠.early)
  (hop:o.op=.call { callee:=.value (.func f),args,argTypes:=Z }) (hf:P.funcs[f]?=some fn) (hname:(fn.name == "runtime.NumGoroutine")=false) (hb:fn.body.isNone=false)
  (h:EE P Post cl (G (qan P f (args.map a.eval) .normal) (b.at a (.inRegion ops (i::rest)::k)::cs)) w) :
  EE P Post cl (G (b.at a (.inRegion ops (i::rest)::k)) cs) w :=
 .pure rfl (λw=>by
  rw[stepG_enter ho hw hk (run_call_body hop hf hname hb)];have:listed P b.fn a o w=#[]:=by unfold listed;rw[events_call_body hop hf hname hb];exact seen_none P _
  rw[this]) h
theorem EE.leave1{b₀:q8c}{a₀:Act}{ops:Array qbz}{i:Nat}{rest:List Nat}{todo:List qdy}{fn:Func}{t:Tmp}(hn:b.kind=.normal)(hd:a.defers=[])(hf:P.funcs[b.fn]?=some fn)(hr:fn.results=#[.tmp t])
  (h:EE P Post cl (G (b₀.at (a₀.put ((ops[i]?).bind (·.dst)) (a.tmps.getD t q5s)) (.inRegion ops rest::k)) cs) w):EE P Post cl (G { b.at a todo with mode:=.returning } (b₀.at a₀ (.inRegion ops (i::rest)::k)::cs)) w :=
 .pure rfl (λw=>by rw[stepG_leave hn hd hf (results_tmp hr _ P w) (events_results_tmp hr _ _),qcr]) h
end
end
theorem q13{c:q8c}{cs:List q8c}(hm:c.mode=.run)(hk:c.kind=.normal)(fr:q8c):q9A fr (c::cs)=none:=by
 have h1:q9A c cs=none:=by
  unfold q9A;rw[hk]
 unfold q9A;split
 ·rename_i h
  cases h;rw[hm]
 ·rename_i h
  cases h;rw[h1];rfl
 ·rfl
section
variable[J:JunkSet]{Q P:q8b}{Post:q58->q3g->Prop}{cl:Nat->Cl}{β N:Nat}
theorem E.subc(D:Two Q P){F:q5r->q3g->Prop}{f:qbe}{real:List q8c}{W:q3g}{ρ0:Ren}(hR:∀fr,q9A fr real=none)(hF:∀g u,F g u->g.callers=[qj f])
  (hstop:∀ρ g wq g' w,Sub Q P β F f real ρ g wq g' w->F g wq->Le ρ0 ρ->(∀i j,BR ρ i j->BR ρ0 i j\/W.heap.size<=j)->kJ cl ρ->(∀b,w.heap.size<=b->cl b=.mine 0)->yR β N W ρ w->E P Post cl g' w)
  {ρ:Ren} {g g':q5r} {wq w:q3g} (h:Sub Q P β F f real ρ g wq g' w) (hle:Le ρ0 ρ) (a7:∀i j,BR ρ i j->BR ρ0 i j\/W.heap.size<=j) (ho:kJ cl ρ) (hc:∀b,w.heap.size<=b->cl b=.mine 0) (hk:yR β N W ρ w):E P Post cl g' w:=by
 have Z:Acc (Below Q F) (g,wq):=h.tree.acc;generalize hx:(g,wq)=x at Z;induction Z generalizing ρ g wq g' w with
 | intro x _ ih =>
  subst hx;by_cases hn:F g wq
  ·exact hstop ρ g wq g' w h hn hle a7 ho hc hk
  ·refine E.step (kM h) λd=>?_
   obtain⟨σ,g1,wq1,g1',w1,es,h1,h2,h3,h4,_,h6⟩:=(q0C h d).stepK D.H D.hrf hR hn true (λg u hg=>by rw[hF g u hg];simp);have a8:Sub Q P β F f real σ g1 wq1 g1' w1:=by
    rcases h6 with h6 | ⟨fk,k,a,a',c,c',pre,pre',h6,rfl,rfl⟩
    ·exact h6
    ·exfalso
     obtain⟨o,u,es,e⟩:=D.stub fk h6.diff a k (c::(pre++[qj f])) (wq1.tp wq1.tape);cases h6.tree with
     | done hh =>
      have:=hF _ _ hh;simp at this
     | step _ h1 _ =>
      obtain⟨g1,u1,es1,e1,_⟩:=h1 wq1.tape;rw[e] at e1;cases e1
   have a6:kJ cl σ:=ho.step (w:=w.at d) h3 hc;have b0:∀b,w1.heap.size<=b->cl b=.mine 0:=λb hb=>hc b (q87 h3.size hb);have a9:yR β N W σ w1:=yR.step (w:=w.at d) (hk.at d) h3;refine⟨g1',w1,es,h1,h3.size,λe he=>kQ a6 a8.wr (h4 e he),?_⟩;refine ih (g1,wq1) h2 a8 (hle.trans h3.le) (λi j hij=>?_) a6 b0 a9 rfl;rcases qbF i ρ.length with hlt | hge
   ·exact a7 i j (BR.back h3.le hij hlt)
   ·exact .inr (q87 hk.size (h3.fresh i j hij hge))
theorem EE.call(D:Two Q P){fk:qbe}{aq ap:Array q58}{R:q58->q3g->Prop}{c:q8c}{cs:List q8c}{ρ:Ren}{wq w:q3g}(hok:JunkSet.okf fk)(hs:Q.funcs[fk]?=P.funcs[fk]?)(ha:AsR ρ aq ap)(a9:β<=ρ.length)(hw:WR Q β ρ wq w)(hG:Gl P ρ)
  (hc:∀T,qaD Q fk aq (wq.tp T) λe u=>∃v,e=.returned v/\R v u) (hcm:c.mode=.run) (c9:c.kind=.normal) (ho:kJ cl ρ) (hcl:∀b,w.heap.size<=b->cl b=.mine 0)
  (hend:∀σ wq1 v v' w1,R v wq1->VR σ v v'->WR Q β σ wq1 w1->Le ρ σ->(∀i j,BR σ i j->BR ρ i j\/w.heap.size<=j)->kJ cl σ->(∀b,w1.heap.size<=b->cl b=.mine 0)->yR β 0 w σ w1->EE P Post cl (G (c.finish v') cs) w1) :
  EE P Post cl (G (qan P fk ap .normal) (c::cs)) w:=by
 intro d;obtain⟨B,U,HQ⟩:=D.HQ;have Z:=wr_at hw d;have b7:@xn B.j Q β (yd Q fk aq [qj fk]) wq:=⟨ρ,_,w.at d,a9,WR.up U Z,λi hi=>hG i (by rw[D.H.gsize];exact hi),kH.up U (YM D.H hok hs ha)⟩
 have ht:=@LT.of_calls B.j Q β HQ fk aq wq (λe u=>∃v,e=.returned v/\R v u) hc (λu ⟨v,h,_⟩=>by cases h) b7;have a6:Sub Q P β (AtRet Q fk [qj fk] λe u=>∃v,e=.returned v/\R v u) fk (c::cs) ρ (yd Q fk aq [qj fk]) wq (G (qan P fk ap .normal) (c::cs)) (w.at d) :=
  Sub.enter D.H hok hs ha a9 Z hG ht
 refine E.subc D (W:=w) (N:=0) (q13 hcm c9) (λg u h=>h.2.1) ?_ a6 (Le.refl _) (λi j h=>.inl h) ho hcl ⟨λ_ _ _=>rfl,rfl,rfl,q5m _,λ_ _ _ _=>qa8 _,qa8 _⟩;intro σ g wq1 g' w1 a7 hF hle c8 b8 b6 b0;refine E.step (kM a7) λd'=>?_;obtain⟨hl,hcs,hfn,T,e,⟨v,rfl,hR⟩,b9⟩:=hF;obtain⟨τ,d6,v',w2,es,k1,k2,k3,k4,k5,k6⟩:=Sub.ret D.H (q0C a7 d') hcs b9 true;subst k4;have a8:kJ cl τ:=b8.step (w:=w1.at d') k5 b6;have d5:∀b,w2.heap.size<=b->cl b=.mine 0:=λb hb=>b6 b (q87 k5.size hb);have c3:yR β 0 w τ w2:=yR.step (w:=w1.at d') (b0.at d') k5;refine⟨_,w2,es,k1,k5.size,λe he=>kQ a8 k3 (k6 e he),?_⟩;have:=hend τ _ v v' w2 hR k2 k3 (hle.trans k5.le) (λi j hij=>?_) a8 d5 c3
 ·exact this w2.drawn
 ·rcases qbF i σ.length with hlt | hge
  ·exact c8 i j (BR.back k5.le hij hlt)
  ·exact .inr (q87 b0.size (k5.fresh i j hij hge))
end
end Go.Co
end
section
namespace Go.Co
open Go.Conc Go.ConcN Go.Sim
section
variable{P:q8b}{Fz:Bs}{K:q3g->q3g->Prop}{Stop:Bs->q5r->q3g->Prop}{S:Bs}
theorem qk.pure{g g':q5r}{w:q3g}(hK:∀a b c,K a b->K b c->K a c)(hs:g.status=.running)(h:∀w,qb7 P false g w=.go g' w #[])(hE:qk P Fz K Stop S g' w):qk P Fz K Stop S g w :=
 qk.still hs (λw₁ _=>h w₁) λ_ h₁=>hE.rely hK h₁
section
variable(hK:∀a b c,K a b->K b c->K a c){b:q8c}{a:Act}{k:List qdy}{cs:List q8c}{w:q3g}
include hK
theorem qk.seq{x y:qcm}(h:qk P Fz K Stop S (G (b.at a (.code x::.code y::k)) cs) w):qk P Fz K Stop S (G (b.at a (.code (.seq x y)::k)) cs) w:=.pure hK rfl (λ_=>q89) h
theorem qk.skip(h:qk P Fz K Stop S (G (b.at a k) cs) w):qk P Fz K Stop S (G (b.at a (.code .skip::k)) cs) w:=.pure hK rfl (λ_=>qbq) h
theorem qk.cond{c:qaH}{x y:qcm}(t:Bool)(hc:a.eval c=.bool t)(h:qk P Fz K Stop S (G (b.at a (.code (if t then x else y)::k)) cs) w):qk P Fz K Stop S (G (b.at a (.code (.cond c x y)::k)) cs) w:=.pure hK rfl (λ_=>stepG_cond hc) h
theorem qk.block{id:Nat}{c:qcm}(h:qk P Fz K Stop S (G (b.at a (.code c::.inBlock id::k)) cs) w):qk P Fz K Stop S (G (b.at a (.code (.block id c)::k)) cs) w:=.pure hK rfl (λ_=>stepG_block) h
theorem qk.inBlock{id:Nat}(h:qk P Fz K Stop S (G (b.at a k) cs) w):qk P Fz K Stop S (G (b.at a (.inBlock id::k)) cs) w:=.pure hK rfl (λ_=>stepG_inBlock) h
theorem qk.loop{c:qcm}(h:qk P Fz K Stop S (G (b.at a (.code c::.inLoop c::k)) cs) w):qk P Fz K Stop S (G (b.at a (.code (.loop c)::k)) cs) w:=.pure hK rfl (λ_=>stepG_loop) h
theorem qk.inLoop{c:qcm}(h:qk P Fz K Stop S (G (b.at a (.code c::.inLoop c::k)) cs) w):qk P Fz K Stop S (G (b.at a (.inLoop c::k)) cs) w:=.pure hK rfl (λ_=>stepG_inLoop) h
theorem qk.region{id:Nat}{ops:Array qbz}(h:qk P Fz K Stop S (G (b.at a (.inRegion ops (qa4 ops.size)::k)) cs) w):qk P Fz K Stop S (G (b.at a (.code (.region id ops false)::k)) cs) w:=.pure hK rfl (λ_=>stepG_region) h
theorem qk.region_end{ops:Array qbz}(h:qk P Fz K Stop S (G (b.at a k) cs) w):qk P Fz K Stop S (G (b.at a (.inRegion ops []::k)) cs) w:=.pure hK rfl (λ_=>q5t) h
theorem qk.retS(h:qk P Fz K Stop S (G { b.at a (.code .ret::k) with mode:=.returning } cs) w):qk P Fz K Stop S (G (b.at a (.code .ret::k)) cs) w:=.pure hK rfl (λ_=>qcC) h
theorem qk.endS(h:qk P Fz K Stop S (G { b.at a [] with mode:=.returning } cs) w):qk P Fz K Stop S (G (b.at a []) cs) w:=.pure hK rfl (λ_=>stepG_end) h
theorem qk.value{ops:Array qbz}{i:Nat}{rest:List Nat}{o:qbz}(v:q58)(ho:ops[i]?=some o)(hw:qb0 o (yielded ops a.tmps)=true)(hk:b.kind≠.early)
  (hr:∀w,(execOp a.eval o).run P w=.ok (.value v) w) (he:∀w,(execOp a.eval o).events P w #[]=#[]) (h:qk P Fz K Stop S (G (b.at (a.put o.dst v) (.inRegion ops rest::k)) cs) w):qk P Fz K Stop S (G (b.at a (.inRegion ops (i::rest)::k)) cs) w :=
 .pure hK rfl (λw=>by rw[stepG_value ho hw hk (hr w)];unfold listed;rw[he w,seen_none]) h
theorem qk.unwanted{ops:Array qbz}{i:Nat}{rest:List Nat}{o:qbz}(ho:ops[i]?=some o)(hw:qb0 o (yielded ops a.tmps)=false)
  (h:qk P Fz K Stop S (G (b.at (a.put o.dst q5s) (.inRegion ops rest::k)) cs) w):qk P Fz K Stop S (G (b.at a (.inRegion ops (i::rest)::k)) cs) w :=
 .pure hK rfl (λ_=>stepG_unwanted ho hw) h
theorem qk.enter{ops:Array qbz}{i:Nat}{rest:List Nat}{o:qbz}{f:qbe}{fn:Func}{c:qcm}{args:Array qaH}{Z:Array q8u}(ho:ops[i]?=some o)(hw:qb0 o (yielded ops a.tmps)=true)(hk:b.kind≠.early)
  (hop:o.op=.call { callee:=.value (.func f),args,argTypes:=Z }) (hf:P.funcs[f]?=some fn) (hname:(fn.name == "runtime.NumGoroutine")=false) (hb:fn.body=some c)
  (h:qk P Fz K Stop S (G ((base f).at { tmps:=args.map a.eval++qb4 (fn.ntmps - (args.map a.eval).size) q5s,defers:=[] } [.code c]) (b.at a (.inRegion ops (i::rest)::k)::cs)) w) :
  qk P Fz K Stop S (G (b.at a (.inRegion ops (i::rest)::k)) cs) w :=
 .pure hK rfl (λw=>by
  have hb':fn.body.isNone=false:=by rw[hb];rfl
  rw[stepG_enter ho hw hk (run_call_body hop hf hname hb'),enter_at _ hf hb];have:listed P b.fn a o w=#[]:=by unfold listed;rw[events_call_body hop hf hname hb'];exact seen_none P _
  rw[this]) h
theorem qk.leave1{b₀:q8c}{a₀:Act}{ops:Array qbz}{i:Nat}{rest:List Nat}{todo:List qdy}{fn:Func}{t:Tmp}(hn:b.kind=.normal)(hd:a.defers=[])(hf:P.funcs[b.fn]?=some fn)(hr:fn.results=#[.tmp t])
  (h:qk P Fz K Stop S (G (b₀.at (a₀.put ((ops[i]?).bind (·.dst)) (a.tmps.getD t q5s)) (.inRegion ops rest::k)) cs) w):qk P Fz K Stop S (G { b.at a todo with mode:=.returning } (b₀.at a₀ (.inRegion ops (i::rest)::k)::cs)) w :=
 .pure hK rfl (λw=>by rw[stepG_leave hn hd hf (results_tmp hr _ P w) (events_results_tmp hr _ _),qcr]) h
theorem qk.leave0{b₀:q8c}{a₀:Act}{ops:Array qbz}{i:Nat}{rest:List Nat}{todo:List qdy}{fn:Func}(hn:b.kind=.normal)(hd:a.defers=[])(hf:P.funcs[b.fn]?=some fn)(hr:fn.results=#[])
  (h:qk P Fz K Stop S (G (b₀.at (a₀.put ((ops[i]?).bind (·.dst)) (.tuple #[])) (.inRegion ops rest::k)) cs) w):qk P Fz K Stop S (G { b.at a todo with mode:=.returning } (b₀.at a₀ (.inRegion ops (i::rest)::k)::cs)) w :=
 .pure hK rfl (λw=>by rw[stepG_leave hn hd hf (results_none hr _ P w) (events_results_none hr _ _),qcr]) h
theorem qk.load[JunkSet]{ops:Array qbz}{i:Nat}{rest:List Nat}{o:qbz}(v:q58)(ho:ops[i]?=some o)(hw:qb0 o (yielded ops a.tmps)=true)(hk:b.kind≠.early)
  (hr:∀w₁,RC Fz K S w w₁->(execOp a.eval o).run P w₁=.ok (.value v) w₁/\∀e∈(execOp a.eval o).events P w₁ #[],EvC Fz S w₁.heap.size e) (h:qk P Fz K Stop S (G (b.at (a.put o.dst v) (.inRegion ops rest::k)) cs) w) :
  qk P Fz K Stop S (G (b.at a (.inRegion ops (i::rest)::k)) cs) w :=
 qk.step rfl λw₁ h₁=>by
  obtain⟨h2,h3⟩:=hr w₁ h₁;refine⟨_,w₁,_,stepG_value ho hw hk h2,⟨λ_ _ _=>rfl,q5m _,rfl,rfl,λe he=>?_⟩,by rw[vF];exact h.rely hK h₁⟩;rw[vF];exact h3 e (km _ _ _ e he)
end
theorem qk.offers{g:q5r}{w:q3g}(hSo:∀S g w off,Stop S g w->Stop S { g with offers:=off } w)(off:Option (Array qda × qcB))(h:qk P Fz K Stop S g w):qk P Fz K Stop S { g with offers:=off } w:=by
 obtain⟨r,h⟩:=h;cases r with
 | leaf=>exact⟨.leaf,λw₁ h₁=>hSo _ _ _ _ (h w₁ h₁)⟩
 | nd f=>exact⟨.nd f,h.1,h.2⟩
section
variable[J:JunkSet]{Q:q8b}{base:Nat}
structure WRel(Q P:q8b)(base:Nat)(Fz S Jc Jb:Bs)(ρ:Ren)(a:Act)(tm:Array q58)(wq w:q3g):Prop where
 len:base<=ρ.length
 wr:WR Q base ρ wq w
 gl:Gl P ρ
 tm:AsR ρ a.tmps tm
 df:a.defers=[]
 own:Own base ρ JunkSet.jk Fz S
 jb:∀i j,BR ρ i j->JunkSet.jk i->Jc j
 js:∀j,Jb j->¬ S j
theorem qk.piece(H:Duo Q P){X:BoxJ}(U:Up J X.j)(HQ:@Duo X.j Q Q)(hrf:P.follows .rangeFuncRecover=true){real:List q8c}(hrr:∀fr,q9A fr real=none)
  (stub:∀fk,Q.funcs[fk]?≠P.funcs[fk]?->∀a k cs u,∃o w es,qb7 Q true { frame:=qan Q fk a k,callers:=cs,status:=.running,dying:=none } u true=.ended o w es)
  (Jc Jb:Bs) (Liv:q3g->Prop) (hL1:∀S w w₁,RC Fz K S w w₁->Liv w->Liv w₁) (hL2:∀S w w' es,DC Fz S w w' es->(∀b,Jb b->w'.heap[b]?=w.heap[b]?)->Liv w->Liv w') (hL3:∀w b,Liv w->Jc b->∃c e f,w.heap[b]?=some (.cells c e f)) (hL4:∀w b,Liv w->Jb b->b<w.heap.size)
  (hSo:∀S g w off,Stop S g w->Stop S { g with offers:=off } w) {b:q8c} (hfn:∃g,Q.funcs[b.fn]?=some g/\P.funcs[b.fn]?=some g) (hin:Q.inits.idxOf? b.fn=none) (hbr:b.roundOf=none) {c:qcm} (hc:qz Q c) {ρ:Ren} {a:Act} {tm:Array q58} {D:List qc3} {k:List qdy} {wq w:q3g} {S:Bs} {R:Act->q3g->Prop}
  (h:WRel Q P base Fz S Jc Jb ρ a tm wq w) (hv:Liv w) (hwp:∀T,c.wp Q (yg R) a (wq.tp T)) (hRd:∀a u,R a u->a.defers=[])
  (hend:∀ρ' a' tm' wq' w' S',R a' wq'->Le ρ ρ'->WRel Q P base Fz S' Jc Jb ρ' a' tm' wq' w'->Liv w'->qk P Fz K Stop S' (G (b.at ⟨tm',D⟩ k) real) w') :
  qk P Fz K Stop S (G (b.at ⟨tm,D⟩ (.code c::k)) real) w:=by
 obtain⟨b9,hg1,hg2⟩:=hfn;have b6:∀(X:q8b),(∃g,Q.funcs[b.fn]?=some g/\X.funcs[b.fn]?=some g)->kH Q X ρ (G (b.at a [.code c]) [qj b.fn]) (G (b.at ⟨tm,[]⟩ [.code c]) [qj b.fn]):=λX hX =>
  ⟨⟨rfl,hX,hin,h.tm,.cons (.code hc) .nil,by simp only[G,Frame.at];rw[h.df];exact .nil,.run,rfl,.inl ⟨rfl,rfl⟩⟩,.cons (q1v hin hX) .nil,rfl,rfl,rfl,rfl⟩
 have d7:@xn X.j Q base (G (b.at a [.code c]) [qj b.fn]) wq:=⟨ρ,_,w,h.len,WR.up U h.wr,λi hi=>h.gl i (by rw[H.gsize];exact hi),kH.up U (b6 P ⟨b9,hg1,hg2⟩)⟩
 have ht:=@LT.of_wp X.j Q base b.fn HQ _ _ _ _ _ hwp d7;have c8:K3 Q P base (AtEnd b.fn b R) b.fn k D real ρ (G (b.at a [.code c]) [qj b.fn]) wq (G (b.at ⟨tm,D⟩ (.code c::k)) real) w :=
  ⟨h.len,h.wr,h.gl,ht,⟨[],rfl⟩,_,b6 P ⟨b9,hg1,hg2⟩,by
   have:=Lay.top (k:=k) (D:=D) (real:=real) (f:=b.fn) (gv:=G (b.at ⟨tm,[]⟩ [.code c]) [qj b.fn]) rfl rfl rfl;simpa[tl,G,Frame.at] using this⟩
 refine qk.tsub H hrf hrr AtEnd.leafs stub Jc Jb Liv hL1 hL2 hL3 hL4 (ρ0:=ρ) ?_ c8 (Le.refl _) h.own h.jb hv h.js;rintro σ g wq' g' w' S' hs ⟨d8,hcs,a',T,b0,hR⟩ a6 ho d5 c3 a8;obtain⟨gv,hg,a7⟩:=hs.rel;have hd:=hRd _ _ hR;have b8:=hg.callers;rw[hcs] at b8;obtain⟨pre',Z,c9⟩:=vu (pre:=[]) b8;cases c9;have Z:gv.callers=[qj b.fn]:=Z;have hf:=hg.frame;rw[b0] at hf;cases a7 with
 | und pre c0 hc0 _ =>
  rw[Z] at hc0;exact(q6s hc0.symm).elim
 | top _ hm hro =>
  obtain⟨⟨fn,tmps,todo,defers,mode,kind,ro⟩,cs,st,dy,off⟩:=gv;obtain⟨h1,h2,h3,h4,h5,h6,h7,h8,h9⟩:=hf;have hst:=hg.st';have b7:=hg.dy';dsimp only[Frame.at] at h1 h4 h5 h6 h8 hm hro hst b7;rw[hd] at h6;cases h5;cases h6;subst h1 h8 hm hro hst b7;have d6:({ frame:=tl k D { fn:=b.fn,tmps:=tmps,todo:=[],defers:=[],mode:=.run,kind:=b.kind,roundOf:=none },callers:=real,status:=.running,dying:=none,offers:=off }:q5r)={ G (b.at ⟨tmps,D⟩ k) real with offers:=off }:=by
   simp[tl,G,Frame.at]
  have a9:({ ({ frame:={ fn:=b.fn,tmps:=tmps,todo:=[],defers:=[],mode:=.run,kind:=b.kind,roundOf:=none },callers:=cs,status:=.running,dying:=none,offers:=off }:q5r) with frame:=tl k D { fn:=b.fn,tmps:=tmps,todo:=[],defers:=[],mode:=.run,kind:=b.kind,roundOf:=none },callers:=real }:q5r)={ G (b.at ⟨tmps,D⟩ k) real with offers:=off }:=d6;rw[a9];exact qk.offers hSo off (hend σ a' tmps (wq'.tp T) w' S' hR a6 ⟨hs.len,⟨hs.wr.len,hs.wr.nodup,hs.wr.lt,hs.wr.obj,hs.wr.low,hs.wr.env,hs.wr.below,hs.wr.gar⟩,hs.gl,h4,hd,ho,d5,a8⟩ c3)
end
end
end Go.Co
end
section
namespace Go.Co
open Go.Conc Go.ConcN Go.Sim
section
variable{P:q8b}{Fz:Bs}{K:q3g->q3g->Prop}{Stop:Bs->q5r->q3g->Prop}{S:Bs}(hK:∀a b c,K a b->K b c->K a c){b:q8c}{k:List qdy}{cs:List q8c}
include hK
omit hK in
theorem lin_nil{md:qdr}{ops:Array qbz}{Z t:Nat}{listed:Array Bool}(hr:q91 md ops listed=[]):qb5 md ops Z t listed []=[]:=by
 cases Z with
 | zero=>simp[qb5]
 | succ Z =>
  simp only[qb5];change (match (q91 md ops listed)[t % (q91 md ops listed).length]? with
   | some i=>qb5 md ops Z (t / (q91 md ops listed).length) (listed.setIfInBounds i true) [i]
   | none=>[].reverse)=[]
  rw[hr];rfl
theorem qk.any{md:qdr}{ops:Array qbz}(I:Array Bool->Act->Prop){w:q3g}
  (hstep:∀listed a i,listed.size=ops.size->I listed a->i∈q91 md ops listed->∀rest,(q91 md ops (listed.setIfInBounds i true)=[]->rest=[])->(∀a',I (listed.setIfInBounds i true) a'->qk P Fz K Stop S (G (b.at a' (.inRegion ops rest::k)) cs) w)->qk P Fz K Stop S (G (b.at a (.inRegion ops (i::rest)::k)) cs) w)
  (hend:∀listed a,listed.size=ops.size->I listed a->q91 md ops listed=[]->qk P Fz K Stop S (G (b.at a k) cs) w) :
  ∀(Z t:Nat) (listed:Array Bool) (a:Act),listed.size=ops.size->unl listed ops.size<=Z->I listed a->qk P Fz K Stop S (G (b.at a (.inRegion ops (qb5 md ops Z t listed [])::k)) cs) w:=by
 intro Z;induction Z with
 | zero =>
  intro t listed a hs hu hI;have hr:q91 md ops listed=[]:=by
   cases hr:q91 md ops listed with
   | nil=>rfl
   | cons i l =>
    exfalso;obtain⟨h1,h2⟩:=zZ (md:=md) (ops:=ops) (listed:=listed) (i:=i) (by rw[hr];simp);have:=Q8 h1 hs h2;omega
  simp only[qb5,List.reverse_nil];exact qk.region_end hK (hend listed a hs hI hr)
 | succ Z ih =>
  intro t listed a hs hu hI;simp only[qb5];change qk P Fz K Stop S (G (b.at a (.inRegion ops (match (q91 md ops listed)[t % (q91 md ops listed).length]? with
   | some i=>qb5 md ops Z (t / (q91 md ops listed).length) (listed.setIfInBounds i true) [i]
   | none=>[].reverse)::k)) cs) w
  cases hi:(q91 md ops listed)[t % (q91 md ops listed).length]? with
  | none =>
   have hr:q91 md ops listed=[]:=by
    cases hr:q91 md ops listed with
    | nil=>rfl
    | cons x xs =>
     rw[hr] at hi;have hlt:t % (x::xs).length<(x::xs).length:=Nat.mod_lt _ (by simp);simp at hi;simp at hlt;omega
   exact qk.region_end hK (hend listed a hs hI hr)
  | some i =>
   simp only[];rw[linearise_go_acc,List.reverse_singleton,List.singleton_append];have hi:=q8z hi;obtain⟨h1,h2⟩:=zZ hi;have hlt:=Q8 h1 hs h2;refine hstep listed a i hs hI hi _ (λhr=>?_) λa' a6=>ih _ _ a' (by simpa using hs) (by omega) a6;exact lin_nil hr
theorem qk.region_inv{id:Nat}{ops:Array qbz}{a:Act}{w:q3g}(hm:P.follows .mixedOrders=true)(a6:∀w n,K w { w with drawn:=n })(I:Array Bool->Act->Prop)(h0:I (qb4 ops.size false) a)
  (hstep:∀listed a i,listed.size=ops.size->I listed a->i∈q91 .any ops listed->∀rest,(q91 .any ops (listed.setIfInBounds i true)=[]->rest=[])->(∀a',I (listed.setIfInBounds i true) a'->qk P Fz K Stop S (G (b.at a' (.inRegion ops rest::k)) cs) w)->qk P Fz K Stop S (G (b.at a (.inRegion ops (i::rest)::k)) cs) w)
  (hend:∀listed a,listed.size=ops.size->I listed a->q91 .any ops listed=[]->qk P Fz K Stop S (G (b.at a k) cs) w) :
  qk P Fz K Stop S (G (b.at a (.code (.region id ops true)::k)) cs) w:=by
 refine qk.step rfl λw₁ h₁=>?_;have Z:qb7 P false (G (b.at a (.code (.region id ops true)::k)) cs) w₁=.go (G (b.at a (.inRegion ops (qeu (P.follows .mixedOrders) ops (w₁.tape w₁.drawn (.order b.fn id)))::k)) cs) { w₁ with drawn:=w₁.drawn+1 } #[]:=by
  simp[G,qb7,qd9,Frame.at,choose,qbk,Question.forced,Question.cut]
 refine⟨_,_,_,Z,⟨λ_ _ _=>rfl,q5m _,rfl,rfl,by simp⟩,?_⟩;have hg:grow S w₁ { w₁ with drawn:=w₁.drawn+1 }=S:=vF S w₁;rw[hg];have:=qk.any hK I (w:=w) hstep hend ops.size (w₁.tape w₁.drawn (.order b.fn id)) _ a (by simp) (by
  unfold unl;exact q87 (qcd _ _) (by simp)) h0
 have h2:qk P Fz K Stop S (G (b.at a (.inRegion ops (qeu (P.follows .mixedOrders) ops (w₁.tape w₁.drawn (.order b.fn id)))::k)) cs) w:=by
  simp only[qeu,hm,Bool.true_or,if_true];exact this
 exact h2.rely hK ⟨λb hb=>h₁.own b hb,λb hb=>h₁.fz b hb,h₁.size,h₁.os,h₁.output,hK _ _ _ h₁.k (a6 _ _)⟩
omit hK in
theorem qk.of_goes2{R:q3g->q3g->Prop}(hR:∀w w₁,RC Fz K S w w₁->R w w₁)(hr:∀w,R w w){Z:q5r->q3g->Prop}(hS:∀g w,Z g w->Stop S g w):∀{n:Nat} {g:q5r} {w:q3g},Goes P false R Go.ConcR.DC0 Z n g w->qk P Fz K Stop S g w:=by
 intro n;induction n with
 | zero=>exact λh=>qk.stop λw₁ h₁=>hS _ _ (h w₁ (hR _ _ h₁))
 | succ n ih =>
  intro g w h;rcases h with h | ⟨h0,h⟩
  ·exact qk.stop λw₁ h₁=>hS _ _ (h w₁ (hR _ _ h₁))
  ·refine .step h0 λw₁ h₁=>?_
   obtain⟨g',w',es,e,⟨d1,d2⟩,hg⟩:=goes_elim (h w₁ (hR _ _ h₁));subst d1;subst d2;exact⟨g',w',#[],e,q3A S w',by rw[vF];exact ih hg⟩
end
end Go.Co
end
section
namespace Go.Co
open Go.Conc Go.ConcN
open Go.ConcR (KK wgBlock WgAt stA smA rd wr mk DC0)
def LR(ty:q8u)(Wg:Nat)(w w₁:q3g):Prop:=qcF ty Wg w->qcF ty Wg w₁
def DM(Wg:Nat)(w w':q3g)(es:Array qbr):Prop:=w'=w/\∀e∈es,e=mk (.read (smA Wg))\/e=mk (.write (smA Wg))
section
variable(P:q8b)(ty:q8u)(Wg:Nat)
def WG(Stop:q5r->q3g->Prop)(m:Nat)(g:q5r)(w:q3g):Prop:=Goes P false (LR ty Wg) DC0 Stop m g w
def WD4(g:q5r)(w:q3g):Prop :=
 g.status=.running/\mayWake P g=true/\(qew ty Wg w 0 0->∃g',qb7 P false g w=.go g' (w.setCell (smA Wg) (.int .u32 1)) (qe3 (smA Wg))/\∃q,QuitsD P q 1 g')
def WD3(g:q5r)(w:q3g):Prop :=
 g.status=.running/\(qew ty Wg w 1 0->∃g',qb7 P false g w=.go g' (w.setCell (stA Wg) (.int .u64 0)) #[wr (stA Wg)]/\∃m,WG P ty Wg (WD4 P ty Wg) m g' (w.setCell (stA Wg) (.int .u64 0)))
def WD2(g:q5r)(w:q3g):Prop :=
 g.status=.running/\(qew ty Wg w 1 0->∃g',qb7 P false g w=.go g' w #[rd (stA Wg)]/\∃m,WG P ty Wg (WD3 P ty Wg) m g' w)
def WD1(g:q5r)(w:q3g):Prop :=
 g.status=.running/\∀v wt:Nat,wt<=1->v<2147483647->qew ty Wg w ((v+1)*KK+wt) 0 ->
  ∃g',qb7 P false g w=.go g' (w.setCell (stA Wg) (.int .u64 (v*KK+wt))) #[rd (stA Wg),wr (stA Wg)] /\
   ((v=0/\wt=1)->∃m,WG P ty Wg (WD2 P ty Wg) m g' (w.setCell (stA Wg) (.int .u64 (v*KK+wt))))/\(¬ (v=0/\wt=1)->∃q,QuitsD P q 1 g')
def WK1(g:q5r)(w:q3g):Prop :=
 g.status=.running/\∃g',qb7 P false g w=.go g' w #[qcp .disable]/\∃m,WG P ty Wg (WD1 P ty Wg) m g' w
def WEnd(g:q5r)(w:q3g):Prop :=
 ∃g',qb7 P false g w=.go g' w #[qcp (.releaseMerge (stA Wg))]/\∃m,WG P ty Wg (WK1 P ty Wg) m g' w
end
structure Cfg(Γ Λ:Type) where
 P:q8b
 ty:q8u
 Wg:Nat
 lo:Nat
 n:Nat
 Fz:Bs
 Sy:Bs
 clA:Nat->Cl
 DataAt:Γ->q3g->Prop
 WA:Λ->Bs->q5r->q3g->Prop
 Tr:Γ->Λ->Γ->Λ->Prop
 J:Γ->Nat->(Nat->Λ)->Prop
 m:Γ->Nat
 nu:Λ->Nat
 l0:Λ
 fin:Λ->Prop
 W1:q3g
 Fin:q5r->q3g->Prop
 AnchW:q5r->q3g->Prop
 Post:q58->q3g->Prop
section
variable{Γ Λ:Type}(C:Cfg Γ Λ)
def Cfg.K(w w₁:q3g):Prop:=(qcF C.ty C.Wg w->qcF C.ty C.Wg w₁)/\((∃γ,C.DataAt γ w)->∃γ,C.DataAt γ w₁)
structure Cfg.Ph(w:q3g):Prop where
 fz:∀b,C.Fz b->w.heap[b]?=C.W1.heap[b]?
 size:C.W1.heap.size<=w.heap.size
 os:w.os=C.W1.os
 output:w.output=C.W1.output
def flat(cl:Nat->Cl)(b:Nat):Cl:=match cl b with | .sync=>.sync | _=>.mine 0
def Cfg.GW(Stop:q5r->q3g->Prop)(m:Nat)(g:q5r)(w:q3g):Prop:=WG C.P C.ty C.Wg Stop m g w
def Cfg.AtD4:q5r->q3g->Prop:=WD4 C.P C.ty C.Wg
def Cfg.AtD3:q5r->q3g->Prop:=WD3 C.P C.ty C.Wg
def Cfg.AtD2:q5r->q3g->Prop:=WD2 C.P C.ty C.Wg
def Cfg.AtD1:q5r->q3g->Prop:=WD1 C.P C.ty C.Wg
def Cfg.AtK1:q5r->q3g->Prop:=WK1 C.P C.ty C.Wg
def Cfg.AtEnd:q5r->q3g->Prop:=WEnd C.P C.ty C.Wg
def Cfg.AtSync(l:Λ)(S:Bs)(g:q5r)(w:q3g):Prop :=
 ∀γ,C.DataAt γ w->(∃j ls,j<=C.n/\C.J γ j ls)->∃g' w' es γ' l',qb7 C.P false g w=.go g' w' es/\(∀b,¬ C.Sy b->w'.heap[b]?=w.heap[b]?)/\w'.heap.size=w.heap.size/\w'.os=w.os/\w'.output=w.output /\
  (∀e∈es,∃a wr,e=⟨.cell a,wr,true⟩/\C.Sy a.block)/\C.DataAt γ' w'/\C.Tr γ l γ' l'/\C.WA l' S g' w'
def Cfg.Stop(l:Λ)(S:Bs)(g:q5r)(w:q3g):Prop:=g.status=.running/\((C.fin l/\C.AtEnd g w)\/(¬ C.fin l/\C.AtSync l S g w))
def Cfg.GM(Stop:q5r->q3g->Prop)(m:Nat)(g:q5r)(w:q3g):Prop:=Goes C.P true (LR C.ty C.Wg) (DM C.Wg) Stop m g w
def Cfg.AtAcq(g:q5r)(w:q3g):Prop :=
 g.status=.running/\∃g',qb7 C.P true g w=.go g' w #[qcp (.acquire (stA C.Wg))]/\C.Fin g' w
def Cfg.AtKe(g:q5r)(w:q3g):Prop :=
 g.status=.running/\∃g',qb7 C.P true g w=.go g' w #[qcp .enable]/\∃m,C.GM C.AtAcq m g' w
def Cfg.AtW4(g:q5r)(w:q3g):Prop :=
 g.status=.running/\(qew C.ty C.Wg w 0 0->∃g',qb7 C.P true g w=.go g' w #[rd (stA C.Wg)]/\∃m,C.GM C.AtKe m g' w)
def Cfg.AtW3(g:q5r)(w:q3g):Prop :=
 g.status=.running/\g.offers=none /\
  ((∃st,qew C.ty C.Wg w st 0)->qb7 C.P true g w=.go { g with status:=.blocked } w #[]) /\
  (qew C.ty C.Wg w 0 1->∃g',qb7 C.P true g w=.go g' (w.setCell (smA C.Wg) (.int .u32 0)) (qe3 (smA C.Wg))/\∃m,C.GM C.AtW4 m g' (w.setCell (smA C.Wg) (.int .u32 0)))
def Cfg.AtW2(vs:Nat)(g:q5r)(w:q3g):Prop :=
 g.status=.running/\∀v:Nat,v<2147483648->qew C.ty C.Wg w (v*KK) 0 ->
  (v=vs->∃g',qb7 C.P true g w=.go g' (w.setCell (stA C.Wg) (.int .u64 (v*KK+1))) #[rd (stA C.Wg),wr (stA C.Wg)]/\∃m,C.GM C.AtW3 m g' (w.setCell (stA C.Wg) (.int .u64 (v*KK+1)))) /\
  (v≠vs->∃g',qb7 C.P true g w=.go g' w #[rd (stA C.Wg)]/\∃m,C.GM C.AnchW m g' w)
def Cfg.AtW1(g:q5r)(w:q3g):Prop :=
 g.status=.running/\∀v:Nat,v<2147483648->qew C.ty C.Wg w (v*KK) 0->∃g',qb7 C.P true g w=.go g' w #[rd (stA C.Wg)] /\
  (v=0->∃m,C.GM C.AtKe m g' w)/\(v≠0->∃m,C.GM (C.AtW2 v) m g' w)
def Cfg.AtKd(g:q5r)(w:q3g):Prop :=
 g.status=.running/\∃g',qb7 C.P true g w=.go g' w #[qcp .disable]/\∃m,C.GM C.AnchW m g' w
def Cfg.FinS(g:q5r)(w:q3g):Prop:=∃m,C.GM C.AtKd m g w
def Cfg.AtGoS(qe4:q5r->q3g->Prop)(g:q5r)(w:q3g):Prop :=
 g.status=.running/\∃g' child,qb7 C.P true g w=.spawn g' child w #[]/\(C.Ph w->(∃γ,C.DataAt γ w)->C.WA C.l0 (λ_=>False) child w)/\qe4 g' w
def Cfg.AtKeS(qe4:q5r->q3g->Prop)(g:q5r)(w:q3g):Prop :=
 g.status=.running/\∃g',qb7 C.P true g w=.go g' w #[qcp .enable]/\∃m,C.GM (C.AtGoS qe4) m g' w
def Cfg.AtA1(qe4:q5r->q3g->Prop)(g:q5r)(w:q3g):Prop :=
 g.status=.running/\∀v:Nat,v<2147483647->qew C.ty C.Wg w (v*KK) 0 ->
  ∃g',qb7 C.P true g w=.go g' (w.setCell (stA C.Wg) (.int .u64 ((v+1)*KK))) #[rd (stA C.Wg),wr (stA C.Wg)]/\∃m,C.GM (C.AtKeS qe4) m g' (w.setCell (stA C.Wg) (.int .u64 ((v+1)*KK)))
def Cfg.AtKdS(qe4:q5r->q3g->Prop)(g:q5r)(w:q3g):Prop :=
 g.status=.running/\∃g',qb7 C.P true g w=.go g' w #[qcp .disable]/\∃m,C.GM (C.AtA1 qe4) m g' w
def Cfg.Spawns:Nat->q5r->q3g->Prop
 | 0,g,w=>C.FinS g w
 | r+1,g,w=>∃m,C.GM (C.AtKdS (Cfg.Spawns r)) m g w
structure Cfg.Ok:Prop where
 hn:C.n<2147483648
 hlo:1<=C.lo
 dat:∀γ w w',(∀b,C.Sy b->w'.heap[b]?=w.heap[b]?)->C.DataAt γ w->C.DataAt γ w'
 fzc:∀b,C.Fz b->C.clA b=.ro C.lo/\b<C.W1.heap.size
 syc:∀b,C.Sy b->C.clA b=.sync/\b<C.W1.heap.size
 cla0:∀b,C.W1.heap.size<=b->C.clA b=.mine 0
 wgc:C.clA C.Wg=.sync/\C.Wg<C.W1.heap.size/\¬ C.Sy C.Wg
 hW:∀l S g w,C.WA l S g w->qk C.P C.Fz C.K (C.Stop l) S g w
 hJ0:∀γ j ls,C.J γ j ls->C.J γ (j+1) (upd ls j C.l0)
 hJ:∀γ j ls i γ' l',C.J γ j ls->i<j->C.Tr γ (ls i) γ' l'->C.J γ' j (upd ls i l')
 hm:∀γ l γ' l',C.Tr γ l γ' l'->C.m γ'+C.nu l'<C.m γ+C.nu l
 hAr:∀g w,C.AnchW g w->g.status=.running
 hAn:∀g w,C.AnchW g w->∃m,C.GM C.AtW1 m g w
 hFin:∀γ ls g w,C.Fin g w->C.J γ C.n ls->(∀i,i<C.n->C.fin (ls i))->C.DataAt γ w->C.Ph w->E C.P C.Post (flat C.clA) g w
inductive Cfg.WS:Nat->Nat->Nat->Λ->Bs->Rk->q5r->q3g->Prop
 | run {l:Λ} {S:Bs} {r:Rk} {g:q5r} {w:q3g}:Cot C.P C.Fz C.K (C.Stop l) r S g w->Cfg.WS 7 0 0 l S r g w
 | k1 {m:Nat} {l:Λ} {S:Bs} {r:Rk} {g:q5r} {w:q3g}:C.fin l->C.GW C.AtK1 m g w->Cfg.WS 6 m 0 l S r g w
 | d1 {m:Nat} {l:Λ} {S:Bs} {r:Rk} {g:q5r} {w:q3g}:C.fin l->C.GW C.AtD1 m g w->Cfg.WS 5 m 1 l S r g w
 | d2 {m:Nat} {l:Λ} {S:Bs} {r:Rk} {g:q5r} {w:q3g}:C.fin l->C.GW C.AtD2 m g w->Cfg.WS 4 m 1 l S r g w
 | d3 {m:Nat} {l:Λ} {S:Bs} {r:Rk} {g:q5r} {w:q3g}:C.fin l->C.GW C.AtD3 m g w->Cfg.WS 3 m 1 l S r g w
 | d4 {m:Nat} {l:Λ} {S:Bs} {r:Rk} {g:q5r} {w:q3g}:C.fin l->C.GW C.AtD4 m g w->Cfg.WS 2 m 1 l S r g w
 | quit {q d:Nat} {l:Λ} {S:Bs} {r:Rk} {g:q5r} {w:q3g}:C.fin l->QuitsD C.P q d g->Cfg.WS 1 q d l S r g w
inductive Cfg.CS:CTag->Nat->Nat->Nat->q5r->q3g->Prop
 | skd {r m:Nat} {g:q5r} {w:q3g}:r<C.n->C.GM (C.AtKdS (C.Spawns r)) m g w->Cfg.CS (.sp r 5) (C.n - (r+1)) m 0 g w
 | sa1 {r m:Nat} {g:q5r} {w:q3g}:r<C.n->C.GM (C.AtA1 (C.Spawns r)) m g w->Cfg.CS (.sp r 4) (C.n - (r+1)) m 1 g w
 | ske {r m:Nat} {g:q5r} {w:q3g}:r<C.n->C.GM (C.AtKeS (C.Spawns r)) m g w->Cfg.CS (.sp r 3) (C.n - (r+1)) m 1 g w
 | sgo {r m:Nat} {g:q5r} {w:q3g}:r<C.n->C.GM (C.AtGoS (C.Spawns r)) m g w->Cfg.CS (.sp r 2) (C.n - (r+1)) m 0 g w
 | kd {m:Nat} {g:q5r} {w:q3g}:C.GM C.AtKd m g w->Cfg.CS .kd C.n m 0 g w
 | anch {m:Nat} {g:q5r} {w:q3g}:C.GM C.AnchW m g w->Cfg.CS .anch C.n m 1 g w
 | w1 {m:Nat} {g:q5r} {w:q3g}:C.GM C.AtW1 m g w->Cfg.CS .w1 C.n m 1 g w
 | w2 {vs m:Nat} {g:q5r} {w:q3g}:C.GM (C.AtW2 vs) m g w->Cfg.CS (.w2 vs) C.n m 1 g w
 | w3 {m:Nat} {g:q5r} {w:q3g}:C.GM C.AtW3 m g w->Cfg.CS .w3 C.n (m+1) 1 g w
 | blk {g:q5r} {w:q3g}:(∀w₁,LR C.ty C.Wg w w₁->C.AtW3 g w₁)->Cfg.CS .blk C.n 0 1 { g with status:=.blocked } w
 | w4 {m:Nat} {g:q5r} {w:q3g}:C.GM C.AtW4 m g w->Cfg.CS .w4 C.n m 1 g w
 | ke {m:Nat} {g:q5r} {w:q3g}:C.GM C.AtKe m g w->Cfg.CS .ke C.n m 1 g w
 | acq {m:Nat} {g:q5r} {w:q3g}:C.GM C.AtAcq m g w->Cfg.CS .acq C.n m 0 g w
end
section
variable{ty:q8u}{Wg:Nat}{w w₁ w₂:q3g}
theorem LR.refl(w:q3g):LR ty Wg w w:=id
theorem LR.trans(h:LR ty Wg w w₁)(h':LR ty Wg w₁ w₂):LR ty Wg w w₂:=h' ∘ h
theorem qX:∀a b c,LR ty Wg a b->LR ty Wg b c->LR ty Wg a c:=λ_ _ _ h h'=>h' ∘ h
theorem LR.to(h:qcF ty Wg w₁):LR ty Wg w w₁:=λ_=>h
end
section
variable{Γ Λ:Type}{C:Cfg Γ Λ}{S:Bs}{w w₁:q3g}{s m d j f0:Nat}{l:Λ}{r:Rk}{g a:q5r}{tag:CTag}
theorem Cfg.K.trans:∀a b c,C.K a b->C.K b c->C.K a c:=λ_ _ _ h h'=>⟨h'.1 ∘ h.1,h'.2 ∘ h.2⟩
theorem Cfg.K.refl(w:q3g):C.K w w:=⟨id,id⟩
theorem RC.refl(w:q3g):RC C.Fz C.K S w w:=⟨λ_ _=>rfl,λ_ _=>rfl,q5m _,rfl,rfl,.refl w⟩
theorem Cfg.WS.rely(h:C.WS s m d l S r g w)(hr:RC C.Fz C.K S w w₁):C.WS s m d l S r g w₁:=by
 cases h with
 | run h=>exact .run (h.rely Cfg.K.trans hr)
 | k1 hf h=>exact .k1 hf (qdt qX h hr.k.1)
 | d1 hf h=>exact .d1 hf (qdt qX h hr.k.1)
 | d2 hf h=>exact .d2 hf (qdt qX h hr.k.1)
 | d3 hf h=>exact .d3 hf (qdt qX h hr.k.1)
 | d4 hf h=>exact .d4 hf (qdt qX h hr.k.1)
 | quit hf h=>exact .quit hf h
theorem q3B{P:q8b}{Fz:Bs}{K:q3g->q3g->Prop}{Stop:Bs->q5r->q3g->Prop}(hs:∀S g w,Stop S g w->g.status=.running)(hK:∀w,K w w)(h:Cot P Fz K Stop r S g w):g.status=.running:=by
 cases r with
 | leaf=>exact hs _ _ _ (h w ⟨λ_ _=>rfl,λ_ _=>rfl,q5m _,rfl,rfl,hK w⟩)
 | nd f=>exact h.1
theorem Cfg.WS.running_of(h:C.WS s m d l S r g w)(hs:s≠1):g.status=.running:=by
 cases h with
 | run h=>exact q3B (λ_ _ _ h=>h.1) .refl h
 | k1 hf h=>exact qcw (λ_ _ x=>x.1) w (LR.refl w) h
 | d1 hf h=>exact qcw (λ_ _ x=>x.1) w (LR.refl w) h
 | d2 hf h=>exact qcw (λ_ _ x=>x.1) w (LR.refl w) h
 | d3 hf h=>exact qcw (λ_ _ x=>x.1) w (LR.refl w) h
 | d4 hf h=>exact qcw (λ_ _ x=>x.1) w (LR.refl w) h
 | quit hf h=>exact absurd rfl hs
theorem Cfg.WS.status(h:C.WS s m d l S r g w):g.status=.running\/g.status=.finished:=by
 by_cases e:s=1
 ·subst e
  cases h with
  | quit _ h=>exact h.status
 ·exact .inl (h.running_of e)
theorem Cfg.WS.woken(h:C.WS s m d l S r g w)(a a':q5r)(w':q3g):woken C.P a a' w' g=g:=by
 unfold Go.Conc.woken;split
 ·exact again_running _ h.status
 ·rfl
theorem Cfg.WS.fin_of(h:C.WS s m d l S r g w)(hs:s<=6):C.fin l:=by
 cases h<;>first | assumption | omega
theorem Cfg.CS.rely(h:C.CS tag j f0 d a w)(hr:LR C.ty C.Wg w w₁):C.CS tag j f0 d a w₁:=by
 cases h with
 | skd hr' h=>exact .skd hr' (qdt qX h hr)
 | sa1 hr' h=>exact .sa1 hr' (qdt qX h hr)
 | ske hr' h=>exact .ske hr' (qdt qX h hr)
 | sgo hr' h=>exact .sgo hr' (qdt qX h hr)
 | kd h=>exact .kd (qdt qX h hr)
 | anch h=>exact .anch (qdt qX h hr)
 | w1 h=>exact .w1 (qdt qX h hr)
 | w2 h=>exact .w2 (qdt qX h hr)
 | w3 h=>exact .w3 (qdt qX h hr)
 | blk h=>exact .blk λw₂ h₂=>h w₂ (LR.trans hr h₂)
 | w4 h=>exact .w4 (qdt qX h hr)
 | ke h=>exact .ke (qdt qX h hr)
 | acq h=>exact .acq (qdt qX h hr)
theorem Cfg.CS.status(H:C.Ok)(h:C.CS tag j f0 d a w):(a.status=.running/\tag≠.blk)\/(a.status=.blocked/\tag=.blk):=by
 cases h with
 | skd _ h=>exact .inl ⟨qcw (λ_ _ x=>x.1) w (LR.refl w) h,by simp⟩
 | sa1 _ h=>exact .inl ⟨qcw (λ_ _ x=>x.1) w (LR.refl w) h,by simp⟩
 | ske _ h=>exact .inl ⟨qcw (λ_ _ x=>x.1) w (LR.refl w) h,by simp⟩
 | sgo _ h=>exact .inl ⟨qcw (λ_ _ x=>x.1) w (LR.refl w) h,by simp⟩
 | kd h=>exact .inl ⟨qcw (λ_ _ x=>x.1) w (LR.refl w) h,by simp⟩
 | anch h=>exact .inl ⟨qcw H.hAr w (LR.refl w) h,by simp⟩
 | w1 h=>exact .inl ⟨qcw (λ_ _ x=>x.1) w (LR.refl w) h,by simp⟩
 | w2 h=>exact .inl ⟨qcw (λ_ _ x=>x.1) w (LR.refl w) h,by simp⟩
 | w3 h=>exact .inl ⟨qcw (λ_ _ x=>x.1) w (LR.refl w) h,by simp⟩
 | blk h=>exact .inr ⟨rfl,rfl⟩
 | w4 h=>exact .inl ⟨qcw (λ_ _ x=>x.1) w (LR.refl w) h,by simp⟩
 | ke h=>exact .inl ⟨qcw (λ_ _ x=>x.1) w (LR.refl w) h,by simp⟩
 | acq h=>exact .inl ⟨qcw (λ_ _ x=>x.1) w (LR.refl w) h,by simp⟩
theorem Cfg.CS.le(h:C.CS tag j f0 d a w):j+pend tag<=C.n:=by
 cases h<;>simp only[pend]<;>(try simp)<;>omega
open Go.ConcR (again_blocked) in
theorem Cfg.CS.wokenBy(H:C.Ok)(h:C.CS tag j f0 d a w)(hr:LR C.ty C.Wg w w₁)(g g':q5r) :
  ∃tag' f',C.CS tag' j f' d (woken C.P g g' w₁ a) w₁/\f'<=f0+1/\(tag'=tag\/(tag=.blk/\tag'=.w3))/\(mayWake C.P g=true->g'.status=.running->tag'≠.blk):=by
 have h':=h.rely hr;unfold Go.Conc.woken;split
 ·rcases h'.status H with⟨hs,hne⟩ | ⟨_,rfl⟩
  ·exact⟨tag,f0,by rw[again_running _ (.inl hs)];exact h',by omega,.inl rfl,λ_ _=>hne⟩
  ·cases h' with
   | blk hb =>
    have h3:=hb w₁ (LR.refl w₁);exact⟨.w3,0+1,by rw[again_blocked h3.1 h3.2.1];exact .w3 (qca hb),by omega,.inr ⟨rfl,rfl⟩,λ_ _=>by simp⟩
 ·rename_i hc
  exact⟨tag,f0,h',by omega,.inl rfl,λh1 h2=>absurd (by simp[h1,h2]) hc⟩
end
end Go.Co
end
section
namespace Go.Co
open Go.Conc Go.ConcN Go.ConcN.Gen Go.RowKit Go.Conc.Lib Go.ConcR.Gen
open Go.ConcR (KK wgBlock WgAt stA smA rd wr mk DC0)
theorem qv{P:q8b}{n d:Nat}{b:q8c}{cs:List q8c}{k:List qdy}{a:Act}{ops:Array qbz}{i:Nat}{rest:List Nat}{o:qbz}{v:q58}(hq:QuitsD P n d (G (b.at (a.put o.dst v) (.inRegion ops rest::k)) cs))
  (ho:ops[i]?=some o:=by rfl) (hw:qb0 o (yielded ops a.tmps)=true:=by rfl) (hk:b.kind≠.early:=by k_ne)
  (hr:∀w,(execOp a.eval o).run P w=.ok (.value v) w:=by intro _;go_simp;first | rfl | (w_num;rfl)) (he:∀w,(execOp a.eval o).events P w #[]=#[]:=by intro _;simp[go_sem, *]) :
  QuitsD P (n+1) d (G (b.at a (.inRegion ops (i::rest)::k)) cs):=QuitsD.value v ho hw hk hr he hq
theorem qb{ty:q8u}{Wg:Nat}{w w₁:q3g}(h:qcF ty Wg w)(r:LR ty Wg w w₁):qcF ty Wg w₁:=r h
section
variable{L:WgLink}{Wg:Nat}{b₀:q8c}{a₀:Act}{ops₀:Array qbz}{i₀:Nat}{rest₀:List Nat}{k₀:List qdy}{cs:List q8c}{qt:Nat}
def AtRl(P:q8b)(ty:q8u)(Wg:Nat)(g:q5r)(w:q3g):Prop:=g.status=.running/\WEnd P ty Wg g w
theorem addNeg{P:q8b}(H:WgLib P L)
  (hT:QuitsD P qt 0 (G (b₀.at (a₀.put ((ops₀[i₀]?).bind (·.dst)) (.tuple #[])) (.inRegion ops₀ rest₀::k₀)) cs)) (w:q3g) (hF:qcF L.tWg Wg w) :
  Goes P false (LR L.tWg Wg) DC0 (AtRl P L.tWg Wg) 20
   (G ((base L.add).at ⟨#[.pointer (some ⟨Wg,0,none⟩),.int .i64 (-1),q5s,q5s,q5s,q5s,q5s,q5s,q5s,q5s,q5s,q5s,q5s,q5s,q5s,q5s,q5s,q5s,q5s,q5s,q5s,q5s,q5s,q5s,q5s,q5s,q5s,q5s,q5s,q5s,q5s,q5s,q5s,q5s,q5s,q5s,q5s,q5s,q5s,q5s,q5s,q5s,q5s,q5s,q5s,q5s,q5s,q5s,q5s,q5s,q5s,q5s,q5s,q5s,q5s,q5s,q5s,q5s,q5s,q5s,q5s,q5s,q5s,q5s,q5s,q5s,q5s,q5s,q5s,q5s,q5s,q5s,q5s,q5s,q5s,q5s,q5s,q5s,q5s,q5s,q5s,q5s,q5s,q5s,q5s,q5s,q5s,q5s,q5s,q5s,q5s,q5s,q5s,q5s,q5s,q5s,q5s,q5s,q5s,q5s,q5s,q5s,q5s,q5s,q5s,q5s,q5s,q5s,q5s,q5s,q5s,q5s,q5s,q5s,q5s,q5s,q5s],[]⟩ [.code (body_add L)]) (b₀.at a₀ (.inRegion ops₀ (i₀::rest₀)::k₀)::cs)) w:=by
 lib_facts;simp only[body_add,addFn,q88];u_c q89 qb hF;u_cond true qb hF;u_c q89 qb hF;u_c q89 qb hF;u_reg qb hF;u_conv H.underlying_tWgP H.room_tWg (qec hF).choose_spec qb hF;u_conv H.underlying_tWgP H.room_tWg (qec hF).choose_spec qb hF;u_c q5t qb hF;u_cond true qb hF;u_reg qb hF;u_conv H.underlying_tWgP H.room_tWg (qec hF).choose_spec qb hF;u_conv H.underlying_tWgP H.room_tWg (qec hF).choose_spec qb hF;refine qca (λw₁ h₁=>?_);replace hF:=qb hF h₁;clear h₁;refine⟨rfl,_,stepG_markAt .releaseMerge (by simp) rfl rfl (by k_ne) rfl H.f_relMerge (x_relMerge_n L) (x_relMerge_b L) (x_relMerge_x L) (x_relMerge_f L) (by simp[Act.eval,stA]),10,?_⟩;unfold WG;walk_nrm;u_c q5t qb hF;u_c q89 qb hF;u_reg qb hF;refine qca (λw₁ h₁=>?_);replace hF:=qb hF h₁;clear h₁;refine⟨rfl,_,stepG_mark0 .disable (by simp) rfl rfl (by k_ne) rfl H.f_disable (x_disable_n L) (x_disable_b L) (x_disable_x L) (x_disable_f L),50,?_⟩;unfold WG;walk_nrm;u_c q5t qb hF;u_reg qb hF;u_defer qb hF;u_c q5t qb hF;u_c q89 qb hF;u_reg qb hF;u_op qb hF;u_c q5t qb hF;u_c q89 qb hF;u_c q89 qb hF;u_reg qb hF;u_bub qb hF;u_c q5t qb hF;u_cond false qb hF;u_c qbq qb hF;u_c q89 qb hF;u_reg qb hF;u_op qb hF;u_op qb hF;u_op qb hF;u_op qb hF;u_op qb hF;u_op qb hF;u_call H.f_uAdd (nm_uAdd L) uAddFn qb hF;u_c q89 qb hF;u_reg qb hF;u_op qb hF;u_c q5t qb hF;u_c q89 qb hF;u_reg qb hF;u_op qb hF;u_op qb hF;u_op qb hF;u_op qb hF;refine qca (λw₁ h₁=>?_);clear h₁ hF;refine⟨rfl,λv wt a6 hv hw=>?_⟩;have e0:IntKind.u64.wrap (KK+18446744069414584320)=0:=by decide
 have e1:IntKind.u64.wrap (KK+1+18446744069414584320)=1:=by decide
 rcases Nat.eq_zero_or_pos v with rfl | hvp<;>(obtain rfl | rfl:wt=0\/wt=1:=by omega)
 ·replace hw:qew L.tWg Wg w₁ KK 0:=by simpa using hw
  have z:((0:Nat):Int)*KK+((0:Nat):Int)=0:=by simp
  rw[z];refine⟨_,(stepG_add_atomic rfl rfl (by k_ne) rfl H.f_addU64 (x_addU64_n L) (x_addU64_b L) (x_addU64_x L) .u64 (x_addU64_f L) rfl rfl hw.cellSt (hw.thaw 0)).trans (by rw[e0];rfl),λhl=>absurd hl.2 (by decide),λ_=>⟨qt+89,?_⟩⟩;clear hw;have f1:IntKind.u32.wrap 0=0:=by decide
  have f2:IntKind.u32.wrap (bits .and .u64 0 2147483647)=0:=by decide
  walk_nrm
  (refine qv ?_;walk_nrm)
  q_c q5t;q_c qcC;q_leave1 H.f_uAdd
  (refine qv ?_;walk_nrm)
  q_c q5t;q_c q89;q_c q89;q_reg
  iterate 4 (refine qv ?_;walk_nrm)
  q_skip;q_skip
  (refine qv ?_;walk_nrm)
  q_c q5t;q_cond false;q_c qbq;q_c q89;q_reg
  iterate 4 (refine qv ?_;walk_nrm)
  q_c q5t;q_c q89;q_reg
  iterate 4 (refine qv ?_;walk_nrm)
  q_c q5t;q_c q89;q_c q89;q_reg
  iterate 5 (refine qv ?_;walk_nrm)
  q_skip;q_skip;q_skip;q_skip
  (refine qv ?_;walk_nrm)
  q_c q5t;q_cond false;q_c qbq;q_c q89;q_c q89;q_reg
  iterate 2 (refine qv ?_;walk_nrm)
  q_c q5t;q_cond false;q_c qbq;q_c q89;q_c q89;q_reg
  iterate 3 (refine qv ?_;walk_nrm)
  q_skip;q_skip
  iterate 2 (refine qv ?_;walk_nrm)
  q_skip;q_skip;q_skip;q_skip
  (refine qv ?_;walk_nrm)
  q_c q5t;q_cond false;q_c qbq;q_c q89;q_c q89;q_reg
  iterate 6 (refine qv ?_;walk_nrm)
  q_c q5t;q_cond true;q_c qcC;q_enable;q_leave0 H.f_add;exact hT
 ·replace hw:qew L.tWg Wg w₁ (KK+1) 0:=by simpa using hw
  have z:((0:Nat):Int)*KK+((1:Nat):Int)=1:=by simp
  rw[z];refine⟨_,(stepG_add_atomic rfl rfl (by k_ne) rfl H.f_addU64 (x_addU64_n L) (x_addU64_b L) (x_addU64_x L) .u64 (x_addU64_f L) rfl rfl hw.cellSt (hw.thaw 0)).trans (by rw[e1];rfl),λ_=>⟨120,?_⟩,λhl=>absurd ⟨rfl,rfl⟩ hl⟩;have hF:qcF L.tWg Wg (w₁.setCell (stA Wg) (.int .u64 1)):=⟨_,_,hw.setSt 1⟩
  clear hw;unfold WG;walk_nrm;u_op qb hF;u_c q5t qb hF;u_c qcC qb hF;u_leave1 H.f_uAdd qb hF;u_op qb hF;u_c q5t qb hF;u_c q89 qb hF;u_c q89 qb hF;u_reg qb hF;u_op qb hF;u_op qb hF;u_op qb hF;u_op qb hF;u_skip qb hF;u_skip qb hF;u_op qb hF;u_c q5t qb hF;u_cond false qb hF;u_c qbq qb hF;u_c q89 qb hF;u_reg qb hF;u_op qb hF;u_op qb hF;u_op qb hF;u_op qb hF;u_c q5t qb hF;u_c q89 qb hF;u_reg qb hF;u_op qb hF;u_op qb hF;u_op qb hF;u_op qb hF;u_c q5t qb hF;u_c q89 qb hF;u_c q89 qb hF;u_reg qb hF;u_op qb hF;u_op qb hF;u_op qb hF;u_op qb hF;u_op qb hF;u_skip qb hF;u_skip qb hF;u_skip qb hF;u_skip qb hF;u_op qb hF;u_c q5t qb hF;u_cond false qb hF;u_c qbq qb hF;u_c q89 qb hF;u_c q89 qb hF;u_reg qb hF;u_op qb hF;u_op qb hF;u_c q5t qb hF;u_cond false qb hF;u_c qbq qb hF;u_c q89 qb hF;u_c q89 qb hF;u_reg qb hF;u_op qb hF;u_op qb hF;u_op qb hF;u_op qb hF;u_op qb hF;u_op qb hF;u_op qb hF;u_skip qb hF;u_skip qb hF;u_skip qb hF;u_skip qb hF;u_op qb hF;u_c q5t qb hF;u_cond false qb hF;u_c qbq qb hF;u_c q89 qb hF;u_c q89 qb hF;u_reg qb hF;u_op qb hF;u_op qb hF;u_op qb hF;u_op qb hF;u_op qb hF;u_op qb hF;u_c q5t qb hF;u_cond false qb hF;u_c qbq qb hF;u_c q89 qb hF;u_c q89 qb hF;u_reg qb hF;u_op qb hF;u_op qb hF;u_op qb hF;u_call H.f_uLoad (nm_uLoad L) uLoadFn qb hF;u_c q89 qb hF;u_reg qb hF;u_op qb hF;u_c q5t qb hF;u_c q89 qb hF;u_reg qb hF;u_op qb hF;u_op qb hF;u_op qb hF;refine qca (λw₂ h₂=>?_);clear h₂ hF;refine⟨rfl,λhw=>⟨_,stepG_load_atomic rfl rfl (by k_ne) rfl H.f_loadU64 (x_loadU64_n L) (x_loadU64_b L) (x_loadU64_x L) .u64 (x_loadU64_f L) rfl hw.cellSt,40,?_⟩⟩;have hF:qcF L.tWg Wg w₂:=⟨_,_,hw⟩
  clear hw;unfold WG;walk_nrm;u_op qb hF;u_c q5t qb hF;u_c qcC qb hF;u_leave1 H.f_uLoad qb hF;u_op qb hF;u_op qb hF;u_c q5t qb hF;u_cond false qb hF;u_c qbq qb hF;u_c q89 qb hF;u_reg qb hF;u_op qb hF;u_op qb hF;u_op qb hF;u_call H.f_uStore (nm_uStore L) uStoreFn qb hF;u_reg qb hF;u_op qb hF;u_op qb hF;u_op qb hF;u_op qb hF;refine qca (λw₃ h₃=>?_);clear h₃ hF;refine⟨rfl,λhw=>⟨_,stepG_store_atomic rfl rfl (by k_ne) rfl H.f_storeU64 (x_storeU64_n L) (x_storeU64_b L) (x_storeU64_x L) (x_storeU64_f L) rfl rfl hw.cellSt (hw.thaw 0),50,?_⟩⟩;have hF:qcF L.tWg Wg (w₃.setCell (stA Wg) (.int .u64 0)):=⟨_,_,hw.setSt 0⟩
  clear hw;unfold WG;walk_nrm;u_c q5t qb hF;u_c stepG_end qb hF;u_leave0 H.f_uStore qb hF;u_c q5t qb hF;u_c q89 qb hF;u_c q89 qb hF;u_reg qb hF;u_op qb hF;u_c q5t qb hF;u_cond false qb hF;u_c qbq qb hF;u_c stepG_block qb hF;u_c stepG_loop qb hF;u_c q89 qb hF;u_c q89 qb hF;u_reg qb hF;u_op qb hF;u_op qb hF;u_c q5t qb hF;u_cond true qb hF;u_c qbq qb hF;u_c q89 qb hF;u_c stepG_block qb hF;u_reg qb hF;u_op qb hF;u_op qb hF;u_op qb hF;refine qca (λw₄ h₄=>?_);clear h₄ hF;refine⟨rfl,mayWake_entry rfl rfl H.f_semrelease (x_semrelease_b L),λhw=>⟨_,(stepG_semrelease rfl rfl (by k_ne) rfl H.f_semrelease (x_semrelease_n L) (x_semrelease_b L) (x_semrelease_x L) (x_semrelease_f L) (by simp[Act.eval,smA]) hw.cellSm (hw.thaw 1)).trans (by rfl),qt+19,?_⟩⟩;clear hw;walk_nrm;q_c q5t;q_c stepG_inBlock;q_reg
  iterate 3 (refine qv ?_;walk_nrm)
  have f1:IntKind.u32.wrap 0=0:=by decide
  simp only[f1];q_c q5t;q_c stepG_inLoop;q_c q89;q_c q89;q_reg
  iterate 2 (refine qv ?_;walk_nrm)
  q_c q5t;q_cond false;q_exit;q_c stepG_end;q_enable;q_leave0 H.f_add;exact hT
 ·replace hw:qew L.tWg Wg w₁ (((v:Nat)+1)*KK+0) 0:=by simpa using hw
  have z:((v:Nat):Int)*KK+((0:Nat):Int)=(v:Int)*KK+0:=by simp
  rw[z];have Z:0<v:=by omega
  have eS:IntKind.u64.wrap (((v:Nat)+1)*KK+0+18446744069414584320)=(v:Int)*KK+0:=by rw[IntKind.wrap_u64];simp only[KK];omega
  obtain⟨S,hS⟩:∃S:Int,S=(v:Int)*KK+0:=⟨_,rfl⟩
  rw[<- hS] at eS ⊢;have a1:S / 4294967296=(v:Int):=by rw[hS];simp only[KK];omega
  have b1:bits .and .u64 S 2147483648=0:=by rw[hS];have:=st_flag v 0 (by omega) (by omega);simpa[KK] using this
  have b2:bits .and .u64 S 2147483647=0:=by rw[hS];have:=st_waiters v 0 (by omega) (by omega);simpa[KK] using this
  have c1:IntKind.i32.wrap (v:Int)=(v:Int):=by rw[IntKind.wrap_i32];omega
  have q3:decide ((v:Int)<0)=false:=decide_eq_false (by omega);have q4:decide (0<(v:Int))=true:=decide_eq_true (by omega);have q5:((v:Int) == 0)=false:=by simp;omega
  have q6:decide ((v:Int)=0)=false:=decide_eq_false (by omega);have f1:IntKind.u32.wrap 0=0:=by decide
  refine⟨_,(stepG_add_atomic rfl rfl (by k_ne) rfl H.f_addU64 (x_addU64_n L) (x_addU64_b L) (x_addU64_x L) .u64 (x_addU64_f L) rfl rfl hw.cellSt (hw.thaw 0)).trans (by rw[eS];rfl),λhl=>absurd hl.1 (by omega),λ_=>⟨qt+89,?_⟩⟩;clear hw hS z eS;walk_nrm
  (refine qv ?_;walk_nrm)
  q_c q5t;q_c qcC;q_leave1 H.f_uAdd
  (refine qv ?_;walk_nrm)
  q_c q5t;q_c q89;q_c q89;q_reg
  iterate 4 (refine qv ?_;walk_nrm)
  q_skip;q_skip
  (refine qv ?_;walk_nrm)
  q_c q5t;q_cond false;q_c qbq;q_c q89;q_reg
  iterate 4 (refine qv ?_;walk_nrm)
  q_c q5t;q_c q89;q_reg
  iterate 4 (refine qv ?_;walk_nrm)
  q_c q5t;q_c q89;q_c q89;q_reg
  iterate 5 (refine qv ?_;walk_nrm)
  q_skip;q_skip;q_skip;q_skip
  (refine qv ?_;walk_nrm)
  q_c q5t;q_cond false;q_c qbq;q_c q89;q_c q89;q_reg
  iterate 2 (refine qv ?_;walk_nrm)
  q_c q5t;q_cond false;q_c qbq;q_c q89;q_c q89;q_reg
  iterate 3 (refine qv ?_;walk_nrm)
  q_skip;q_skip
  iterate 2 (refine qv ?_;walk_nrm)
  q_skip;q_skip;q_skip;q_skip
  (refine qv ?_;walk_nrm)
  q_c q5t;q_cond false;q_c qbq;q_c q89;q_c q89;q_reg
  iterate 3 (refine qv ?_;walk_nrm)
  q_skip;q_skip
  (refine qv ?_;walk_nrm)
  q_c q5t;q_cond true;q_c qcC;q_enable;q_leave0 H.f_add;exact hT
 ·replace hw:qew L.tWg Wg w₁ (((v:Nat)+1)*KK+1) 0:=by simpa using hw
  have z:((v:Nat):Int)*KK+((1:Nat):Int)=(v:Int)*KK+1:=by simp
  rw[z];have Z:0<v:=by omega
  have eS:IntKind.u64.wrap (((v:Nat)+1)*KK+1+18446744069414584320)=(v:Int)*KK+1:=by rw[IntKind.wrap_u64];simp only[KK];omega
  obtain⟨S,hS⟩:∃S:Int,S=(v:Int)*KK+1:=⟨_,rfl⟩
  rw[<- hS] at eS ⊢;have a1:S / 4294967296=(v:Int):=by rw[hS];simp only[KK];omega
  have b1:bits .and .u64 S 2147483648=0:=by rw[hS];have:=st_flag v 1 (by omega) (by omega);simpa[KK] using this
  have b2:bits .and .u64 S 2147483647=1:=by rw[hS];have:=st_waiters v 1 (by omega) (by omega);simpa[KK] using this
  have c1:IntKind.i32.wrap (v:Int)=(v:Int):=by rw[IntKind.wrap_i32];omega
  have q3:decide ((v:Int)<0)=false:=decide_eq_false (by omega);have q4:decide (0<(v:Int))=true:=decide_eq_true (by omega);have q5:((v:Int) == 0)=false:=by simp;omega
  have q6:decide ((v:Int)=0)=false:=decide_eq_false (by omega);refine⟨_,(stepG_add_atomic rfl rfl (by k_ne) rfl H.f_addU64 (x_addU64_n L) (x_addU64_b L) (x_addU64_x L) .u64 (x_addU64_f L) rfl rfl hw.cellSt (hw.thaw 0)).trans (by rw[eS];rfl),λhl=>absurd hl.1 (by omega),λ_=>⟨qt+89,?_⟩⟩;clear hw hS z eS;walk_nrm
  (refine qv ?_;walk_nrm)
  q_c q5t;q_c qcC;q_leave1 H.f_uAdd
  (refine qv ?_;walk_nrm)
  q_c q5t;q_c q89;q_c q89;q_reg
  iterate 4 (refine qv ?_;walk_nrm)
  q_skip;q_skip
  (refine qv ?_;walk_nrm)
  q_c q5t;q_cond false;q_c qbq;q_c q89;q_reg
  iterate 4 (refine qv ?_;walk_nrm)
  q_c q5t;q_c q89;q_reg
  iterate 4 (refine qv ?_;walk_nrm)
  q_c q5t;q_c q89;q_c q89;q_reg
  iterate 5 (refine qv ?_;walk_nrm)
  q_skip;q_skip;q_skip;q_skip
  (refine qv ?_;walk_nrm)
  q_c q5t;q_cond false;q_c qbq;q_c q89;q_c q89;q_reg
  iterate 2 (refine qv ?_;walk_nrm)
  q_c q5t;q_cond false;q_c qbq;q_c q89;q_c q89;q_reg
  iterate 7 (refine qv ?_;walk_nrm)
  q_skip;q_skip;q_skip;q_skip
  (refine qv ?_;walk_nrm)
  q_c q5t;q_cond false;q_c qbq;q_c q89;q_c q89;q_reg
  iterate 3 (refine qv ?_;walk_nrm)
  q_skip;q_skip
  (refine qv ?_;walk_nrm)
  q_c q5t;q_cond true;q_c qcC;q_enable;q_leave0 H.f_add;exact hT
theorem done{P:q8b}(H:WgLib P L){c:q8c}(hcm:c.mode=.returning)(hT:QuitsD P qt 0 (G c cs))(w:q3g)(hF:qcF L.tWg Wg w) :
  Goes P false (LR L.tWg Wg) DC0 (AtRl P L.tWg Wg) 23 (G ((baseD L.done).at ⟨#[.pointer (some ⟨Wg,0,none⟩),q5s,q5s,q5s],[]⟩ [.code (body_done L)]) (c::cs)) w:=by
 lib_facts;have hA:=@addNeg L Wg;simp only[body_done,body_add,doneFn,addFn,q88] at hA ⊢;u_reg qb hF;u_op qb hF;u_in qb hF;refine goes_call rfl rfl (by k_ne) rfl H.f_add (nm_add L) rfl ⟨by u_nil,?_⟩
 walk_nrmf addFn
 refine hA (qt:=qt+3) H ?_ _ hF;q_c q5t;q_c stepG_end;exact QuitsD.leaveD rfl rfl H.f_done rfl hcm hT
end
end Go.Co
end
section
namespace Go.Co
open Go.Conc Go.ConcN Go.ConcN.Gen Go.RowKit Go.Conc.Lib Go.ConcR.Gen
open Go.ConcR (KK wgBlock WgAt stA smA rd wr mk DC0)
theorem q9{ty:q8u}{Wg:Nat}{w w₁:q3g}(h:qcF ty Wg w)(r:LR ty Wg w w₁):qcF ty Wg w₁:=r h
section
variable(P:q8b)(b:Bool)(ty:q8u)(Wg:Nat)
def AtMk(m:Mark)(qe4:q5r->q3g->Prop)(N:Nat)(g:q5r)(w:q3g):Prop :=
 g.status=.running/\∃g',qb7 P b g w=.go g' w #[mk m]/\Goes P b (LR ty Wg) DC0 qe4 N g' w
def AtAdd(qe4:q5r->q3g->Prop)(g:q5r)(w:q3g):Prop :=
 g.status=.running/\∀v:Nat,v<2147483647->qew ty Wg w (v*KK) 0 ->
  ∃g',qb7 P b g w=.go g' (w.setCell (stA Wg) (.int .u64 ((v+1)*KK))) #[rd (stA Wg),wr (stA Wg)] /\
   (Goes P b (LR ty Wg) DC0 (AtMk P b ty Wg (.read (smA Wg)) (AtMk P b ty Wg .enable qe4 2) 60) 110 g' (w.setCell (stA Wg) (.int .u64 ((v+1)*KK))) \/
    Goes P b (LR ty Wg) DC0 (AtMk P b ty Wg .enable qe4 2) 110 g' (w.setCell (stA Wg) (.int .u64 ((v+1)*KK))))
end
section
variable{L:WgLink}{Wg:Nat}{qe4:q5r->q3g->Prop}{b₀:q8c}{a₀:Act}{ops₀:Array qbz}{i₀:Nat}{rest₀:List Nat}{k₀:List qdy}{cs:List q8c}
theorem addPos{P:q8b}(H:WgLib P L)
  (hT:∀w,qcF L.tWg Wg w->qe4 (G (b₀.at (a₀.put ((ops₀[i₀]?).bind (·.dst)) (.tuple #[])) (.inRegion ops₀ rest₀::k₀)) cs) w)
  (w:q3g) (hF:qcF L.tWg Wg w) :
  Goes P true (LR L.tWg Wg) DC0 (AtMk P true L.tWg Wg .disable (AtAdd P true L.tWg Wg qe4) 40) 12
   (G ((base L.add).at ⟨#[.pointer (some ⟨Wg,0,none⟩),.int .i64 1,q5s,q5s,q5s,q5s,q5s,q5s,q5s,q5s,q5s,q5s,q5s,q5s,q5s,q5s,q5s,q5s,q5s,q5s,q5s,q5s,q5s,q5s,q5s,q5s,q5s,q5s,q5s,q5s,q5s,q5s,q5s,q5s,q5s,q5s,q5s,q5s,q5s,q5s,q5s,q5s,q5s,q5s,q5s,q5s,q5s,q5s,q5s,q5s,q5s,q5s,q5s,q5s,q5s,q5s,q5s,q5s,q5s,q5s,q5s,q5s,q5s,q5s,q5s,q5s,q5s,q5s,q5s,q5s,q5s,q5s,q5s,q5s,q5s,q5s,q5s,q5s,q5s,q5s,q5s,q5s,q5s,q5s,q5s,q5s,q5s,q5s,q5s,q5s,q5s,q5s,q5s,q5s,q5s,q5s,q5s,q5s,q5s,q5s,q5s,q5s,q5s,q5s,q5s,q5s,q5s,q5s,q5s,q5s,q5s,q5s,q5s,q5s,q5s,q5s,q5s],[]⟩ [.code (body_add L)]) (b₀.at a₀ (.inRegion ops₀ (i₀::rest₀)::k₀)::cs)) w:=by
 lib_facts;simp only[body_add,addFn,q88];u_c q89 q9 hF;u_cond true q9 hF;u_c q89 q9 hF;u_c q89 q9 hF;u_reg q9 hF;u_op q9 hF;u_op q9 hF;u_c q5t q9 hF;u_cond false q9 hF;u_c qbq q9 hF;u_c q89 q9 hF;u_reg q9 hF;refine qca (λw₁ h₁=>?_);replace hF:=q9 hF h₁;clear h₁;refine⟨rfl,_,stepG_mark0 .disable (by simp) rfl rfl (by k_ne) rfl H.f_disable (x_disable_n L) (x_disable_b L) (x_disable_x L) (x_disable_f L),?_⟩;walk_nrm;u_c q5t q9 hF;u_reg q9 hF;u_defer q9 hF;u_c q5t q9 hF;u_c q89 q9 hF;u_reg q9 hF;u_op q9 hF;u_c q5t q9 hF;u_c q89 q9 hF;u_c q89 q9 hF;u_reg q9 hF;u_bub q9 hF;u_c q5t q9 hF;u_cond false q9 hF;u_c qbq q9 hF;u_c q89 q9 hF;u_reg q9 hF;u_op q9 hF;u_op q9 hF;u_op q9 hF;u_op q9 hF;u_op q9 hF;u_op q9 hF;u_call H.f_uAdd (nm_uAdd L) uAddFn q9 hF;u_c q89 q9 hF;u_reg q9 hF;u_op q9 hF;u_c q5t q9 hF;u_c q89 q9 hF;u_reg q9 hF;u_op q9 hF;u_op q9 hF;u_op q9 hF;u_op q9 hF;refine qca (λw₂ h₂=>?_);clear h₂ hF;refine⟨rfl,λv hv hw=>?_⟩;rcases Nat.eq_zero_or_pos v with rfl | hvp
 ·replace hw:qew L.tWg Wg w₂ 0 0:=by simpa using hw
  have z:(((0:Nat):Int)+1)*KK=KK:=by simp
  rw[z];have e0:IntKind.u64.wrap (0+4294967296)=KK:=by decide
  refine⟨_,(stepG_add_atomic rfl rfl (by k_ne) rfl H.f_addU64 (x_addU64_n L) (x_addU64_b L) (x_addU64_x L) .u64 (x_addU64_f L) rfl rfl hw.cellSt (hw.thaw 0)).trans (by rw[e0];rfl),.inl ?_⟩;have hF:qcF L.tWg Wg (w₂.setCell (stA Wg) (.int .u64 KK)):=⟨_,_,hw.setSt _⟩
  clear hw;simp only[KK] at hF ⊢;walk_nrm;u_conv H.underlying_tPU32 H.room_tU32 (qbb hF).choose_spec q9 hF;u_c q5t q9 hF;u_c qcC q9 hF;u_leave1 H.f_uAdd q9 hF;u_conv H.underlying_tPU32 H.room_tU32 (qbb hF).choose_spec q9 hF;u_c q5t q9 hF;u_c q89 q9 hF;u_c q89 q9 hF;u_reg q9 hF;u_conv H.underlying_tPU32 H.room_tU32 (qbb hF).choose_spec q9 hF;u_conv H.underlying_tPU32 H.room_tU32 (qbb hF).choose_spec q9 hF;u_conv H.underlying_tPU32 H.room_tU32 (qbb hF).choose_spec q9 hF;u_conv H.underlying_tPU32 H.room_tU32 (qbb hF).choose_spec q9 hF;u_skip q9 hF;u_skip q9 hF;u_conv H.underlying_tPU32 H.room_tU32 (qbb hF).choose_spec q9 hF;u_c q5t q9 hF;u_cond false q9 hF;u_c qbq q9 hF;u_c q89 q9 hF;u_reg q9 hF;u_conv H.underlying_tPU32 H.room_tU32 (qbb hF).choose_spec q9 hF;u_conv H.underlying_tPU32 H.room_tU32 (qbb hF).choose_spec q9 hF;u_op q9 hF;u_conv H.underlying_tPU32 H.room_tU32 (qbb hF).choose_spec q9 hF;u_c q5t q9 hF;u_c q89 q9 hF;u_reg q9 hF;u_conv H.underlying_tPU32 H.room_tU32 (qbb hF).choose_spec q9 hF;u_conv H.underlying_tPU32 H.room_tU32 (qbb hF).choose_spec q9 hF;u_op q9 hF;u_conv H.underlying_tPU32 H.room_tU32 (qbb hF).choose_spec q9 hF;u_c q5t q9 hF;u_c q89 q9 hF;u_c q89 q9 hF;u_reg q9 hF;u_conv H.underlying_tPU32 H.room_tU32 (qbb hF).choose_spec q9 hF;u_conv H.underlying_tPU32 H.room_tU32 (qbb hF).choose_spec q9 hF;u_conv H.underlying_tPU32 H.room_tU32 (qbb hF).choose_spec q9 hF;u_conv H.underlying_tPU32 H.room_tU32 (qbb hF).choose_spec q9 hF;u_conv H.underlying_tPU32 H.room_tU32 (qbb hF).choose_spec q9 hF;u_conv H.underlying_tPU32 H.room_tU32 (qbb hF).choose_spec q9 hF;u_conv H.underlying_tPU32 H.room_tU32 (qbb hF).choose_spec q9 hF;u_op q9 hF;u_conv H.underlying_tPU32 H.room_tU32 (qbb hF).choose_spec q9 hF;u_conv H.underlying_tPU32 H.room_tU32 (qbb hF).choose_spec q9 hF;u_c q5t q9 hF;u_cond true q9 hF;u_reg q9 hF;u_conv H.underlying_tPU32 H.room_tU32 (qbb hF).choose_spec q9 hF;u_conv H.underlying_tPU32 H.room_tU32 (qbb hF).choose_spec q9 hF;u_op q9 hF;u_conv H.underlying_tPU32 H.room_tU32 (qbb hF).choose_spec q9 hF;refine qca (λw₃ h₃=>?_);replace hF:=q9 hF h₃;clear h₃;refine⟨rfl,_,stepG_markAt .read (by simp) rfl rfl (by k_ne) rfl H.f_raceRead (x_raceRead_n L) (x_raceRead_b L) (x_raceRead_x L) (x_raceRead_f L) (ad:=⟨Wg,1,none⟩) (by simp[Act.eval]),?_⟩;walk_nrm;u_c q5t q9 hF;u_c q89 q9 hF;u_c q89 q9 hF;u_reg q9 hF;u_op q9 hF;u_op q9 hF;u_c q5t q9 hF;u_cond false q9 hF;u_c qbq q9 hF;u_c q89 q9 hF;u_c q89 q9 hF;u_reg q9 hF;u_op q9 hF;u_op q9 hF;u_op q9 hF;u_skip q9 hF;u_skip q9 hF;u_op q9 hF;u_op q9 hF;u_skip q9 hF;u_skip q9 hF;u_skip q9 hF;u_skip q9 hF;u_op q9 hF;u_c q5t q9 hF;u_cond false q9 hF;u_c qbq q9 hF;u_c q89 q9 hF;u_c q89 q9 hF;u_reg q9 hF;u_op q9 hF;u_op q9 hF;u_op q9 hF;u_skip q9 hF;u_skip q9 hF;u_op q9 hF;u_c q5t q9 hF;u_cond true q9 hF;u_c qcC q9 hF;refine qca (λw₃ h₃=>?_);replace hF:=q9 hF h₃;clear h₃;refine⟨rfl,_,stepG_unwind_entry (v:=.tuple #[]) (evs:=#[mk .enable]) rfl H.f_enable (x_enable_n L) (x_enable_b L) (x_enable_x L) (x_enable_f L) (by simp[Extern.Race.none_]) (by simp[mk]) (by simp[mk]),?_⟩;u_leave0 H.f_add q9 hF;exact qca λw₄ h₄=>hT _ (q9 hF h₄)
 ·obtain⟨V,hV⟩:∃V:Int,V=(v:Int)+1:=⟨_,rfl⟩
  obtain⟨S,hS⟩:∃S:Int,S=V*KK:=⟨_,rfl⟩
  have eS:IntKind.u64.wrap ((v:Int)*KK+4294967296)=S:=by rw[IntKind.wrap_u64,hS,hV];simp only[KK];omega
  rw[<- hV,<- hS];have a1:S / 4294967296=V:=by rw[hS];simp only[KK];omega
  have b1:bits .and .u64 S 2147483648=0:=by rw[hS,hV];have:=st_flag (v+1) 0 (by omega) (by omega);simpa[KK] using this
  have b2:bits .and .u64 S 2147483647=0:=by rw[hS,hV];have:=st_waiters (v+1) 0 (by omega) (by omega);simpa[KK] using this
  have c1:IntKind.i32.wrap V=V:=by rw[IntKind.wrap_i32];omega
  have a6:1<V:=by omega
  have Z:V<2147483648:=by omega
  have q1:(V == 1)=false:=by simp;omega
  have q2:decide (V=1)=false:=decide_eq_false (by omega);have q3:decide (V<0)=false:=decide_eq_false (by omega);have q4:decide (0<V)=true:=decide_eq_true (by omega);have q5:(V == 0)=false:=by simp;omega
  have q6:decide (V=0)=false:=decide_eq_false (by omega);refine⟨_,(stepG_add_atomic rfl rfl (by k_ne) rfl H.f_addU64 (x_addU64_n L) (x_addU64_b L) (x_addU64_x L) .u64 (x_addU64_f L) rfl rfl hw.cellSt (hw.thaw 0)).trans (by rw[eS];rfl),.inr ?_⟩;have hF:qcF L.tWg Wg (w₂.setCell (stA Wg) (.int .u64 S)):=⟨_,_,hw.setSt _⟩
  clear hw hS hV eS;walk_nrm;u_op q9 hF;u_c q5t q9 hF;u_c qcC q9 hF;u_leave1 H.f_uAdd q9 hF;u_op q9 hF;u_c q5t q9 hF;u_c q89 q9 hF;u_c q89 q9 hF;u_reg q9 hF;u_op q9 hF;u_op q9 hF;u_op q9 hF;u_op q9 hF;u_skip q9 hF;u_skip q9 hF;u_op q9 hF;u_c q5t q9 hF;u_cond false q9 hF;u_c qbq q9 hF;u_c q89 q9 hF;u_reg q9 hF;u_op q9 hF;u_op q9 hF;u_op q9 hF;u_op q9 hF;u_c q5t q9 hF;u_c q89 q9 hF;u_reg q9 hF;u_op q9 hF;u_op q9 hF;u_op q9 hF;u_op q9 hF;u_c q5t q9 hF;u_c q89 q9 hF;u_c q89 q9 hF;u_reg q9 hF;u_op q9 hF;u_op q9 hF;u_op q9 hF;u_op q9 hF;u_op q9 hF;u_op q9 hF;u_op q9 hF;u_op q9 hF;u_op q9 hF;u_op q9 hF;u_c q5t q9 hF;u_cond false q9 hF;u_c qbq q9 hF;u_c q89 q9 hF;u_c q89 q9 hF;u_reg q9 hF;u_op q9 hF;u_op q9 hF;u_c q5t q9 hF;u_cond false q9 hF;u_c qbq q9 hF;u_c q89 q9 hF;u_c q89 q9 hF;u_reg q9 hF;u_op q9 hF;u_op q9 hF;u_op q9 hF;u_skip q9 hF;u_skip q9 hF;u_op q9 hF;u_op q9 hF;u_skip q9 hF;u_skip q9 hF;u_skip q9 hF;u_skip q9 hF;u_op q9 hF;u_c q5t q9 hF;u_cond false q9 hF;u_c qbq q9 hF;u_c q89 q9 hF;u_c q89 q9 hF;u_reg q9 hF;u_op q9 hF;u_op q9 hF;u_op q9 hF;u_skip q9 hF;u_skip q9 hF;u_op q9 hF;u_c q5t q9 hF;u_cond true q9 hF;u_c qcC q9 hF;refine qca (λw₃ h₃=>?_);replace hF:=q9 hF h₃;clear h₃;refine⟨rfl,_,stepG_unwind_entry (v:=.tuple #[]) (evs:=#[mk .enable]) rfl H.f_enable (x_enable_n L) (x_enable_b L) (x_enable_x L) (x_enable_f L) (by simp[Extern.Race.none_]) (by simp[mk]) (by simp[mk]),?_⟩;u_leave0 H.f_add q9 hF;exact qca λw₄ h₄=>hT _ (q9 hF h₄)
end
end Go.Co
end
section
namespace Go.Co
open Go.Conc Go.ConcN Go.ConcN.Gen Go.RowKit Go.Conc.Lib Go.ConcR.Gen
open Go.ConcR (KK wgBlock WgAt stA smA rd wr mk DC0)
theorem q8{ty:q8u}{Wg:Nat}{w w₁:q3g}(h:qcF ty Wg w)(r:LR ty Wg w w₁):qcF ty Wg w₁:=r h
section
variable(P:q8b)(ty:q8u)(Wg:Nat)(Fin Anch:q5r->q3g->Prop)
def K4(m:Mark)(qe4:q5r->q3g->Prop)(N:Nat)(g:q5r)(w:q3g):Prop :=
 g.status=.running/\∃g',qb7 P true g w=.go g' w #[mk m]/\Goes P true (LR ty Wg) DC0 qe4 N g' w
def MW4(g:q5r)(w:q3g):Prop :=
 g.status=.running/\(qew ty Wg w 0 0->∃g',qb7 P true g w=.go g' w #[rd (stA Wg)]/\Goes P true (LR ty Wg) DC0 (K4 P ty Wg .enable (K4 P ty Wg (.acquire (stA Wg)) Fin 40) 12) 30 g' w)
def MW3(g:q5r)(w:q3g):Prop :=
 g.status=.running/\g.offers=none /\
  ((∃st,qew ty Wg w st 0)->qb7 P true g w=.go { g with status:=.blocked } w #[]) /\
  (qew ty Wg w 0 1->∃g',qb7 P true g w=.go g' (w.setCell (smA Wg) (.int .u32 0)) (qe3 (smA Wg))/\Goes P true (LR ty Wg) DC0 (MW4 P ty Wg Fin) 30 g' (w.setCell (smA Wg) (.int .u32 0)))
def MW2(vs:Nat)(g:q5r)(w:q3g):Prop :=
 g.status=.running/\∀v:Nat,v<2147483648->qew ty Wg w (v*KK) 0 ->
  (v=vs->∃g',qb7 P true g w=.go g' (w.setCell (stA Wg) (.int .u64 (v*KK+1))) #[rd (stA Wg),wr (stA Wg)]/\Goes P true (LR ty Wg) DC0 (K4 P ty Wg (.write (smA Wg)) (MW3 P ty Wg Fin) 40) 70 g' (w.setCell (stA Wg) (.int .u64 (v*KK+1)))) /\
  (v≠vs->∃g',qb7 P true g w=.go g' w #[rd (stA Wg)]/\Goes P true (LR ty Wg) DC0 Anch 20 g' w)
def MW1(g:q5r)(w:q3g):Prop :=
 g.status=.running/\∀v:Nat,v<2147483648->qew ty Wg w (v*KK) 0->∃g',qb7 P true g w=.go g' w #[rd (stA Wg)] /\
  (v=0->Goes P true (LR ty Wg) DC0 (K4 P ty Wg .enable (K4 P ty Wg (.acquire (stA Wg)) Fin 40) 12) 50 g' w)/\(v≠0->Goes P true (LR ty Wg) DC0 (MW2 P ty Wg Fin Anch v) 60 g' w)
end
def Zz(L:WgLink)(Wg:Nat)(c:q8c)(cs:List q8c)(g:q5r)(w:q3g):Prop :=
 ∃T:Array q58,g=G ((base L.wait).at ⟨T,[]⟩ [.code (L7 L),.inLoop (L7 L),.inBlock 0]) (c::cs)/\T.size=84/\T[0]?=some (.pointer (some ⟨Wg,0,none⟩))/\qcF L.tWg Wg w
section
variable{L:WgLink}{Wg:Nat}{Fin:q5r->q3g->Prop}{b₀:q8c}{a₀:Act}{ops₀:Array qbz}{i₀:Nat}{rest₀:List Nat}{k₀:List qdy}{cs:List q8c}
theorem waitRound{P:q8b}(H:WgLib P L)
  (hT:∀w,qcF L.tWg Wg w->Fin (G (b₀.at (a₀.put ((ops₀[i₀]?).bind (·.dst)) (.tuple #[])) (.inRegion ops₀ rest₀::k₀)) cs) w)
  (g:q5r) (w:q3g) (h:Zz L Wg (b₀.at a₀ (.inRegion ops₀ (i₀::rest₀)::k₀)) cs g w) :
  Goes P true (LR L.tWg Wg) DC0 (MW1 P L.tWg Wg Fin (Zz L Wg (b₀.at a₀ (.inRegion ops₀ (i₀::rest₀)::k₀)) cs)) 30 g w:=by
 lib_facts;obtain⟨T,rfl,Z,t0,hF⟩:=h;obtain⟨v0,v1,v2,v3,v4,v5,v6,v7,v8,v9,r9,r8,r7,r6,r5,r4,r3,q7,q2,q1,q0,p9,p8,p7,p6,p5,p4,p3,n9,n8,n7,n6,n4,n3,n2,m9,m8,m7,m6,m5,m4,m3,l9,l8,l7,l6,l5,l4,k9,k8,k7,k6,k5,k0,h9,h8,g9,g8,g7,g6,g5,e9,e8,e7,e6,e5,e4,d9,d8,d7,d6,d5,c9,c8,c3,b9,b8,b7,b6,b0,a9,a8,a7,a6,rfl⟩:=array84 T Z;simp only[List.getElem?_toArray,List.getElem?_cons_zero,qaz] at t0;subst t0;simp only[L7,body_wait,waitFn,q88];u_c stepG_block q8 hF;u_c q89 q8 hF;u_reg q8 hF;u_op q8 hF;u_op q8 hF;u_op q8 hF;u_call H.f_uLoad (nm_uLoad L) uLoadFn q8 hF;u_c q89 q8 hF;u_reg q8 hF;u_op q8 hF;u_c q5t q8 hF;u_c q89 q8 hF;u_reg q8 hF;u_op q8 hF;u_op q8 hF;u_op q8 hF;refine qca (λw₁ h₁=>?_);replace hF:=q8 hF h₁;clear h₁;refine⟨rfl,λv hv hw=>?_⟩;rcases Nat.eq_zero_or_pos v with rfl | hvp
 ·replace hw:qew L.tWg Wg w₁ 0 0:=by simpa using hw
  refine⟨_,stepG_load_atomic (v:=0) rfl rfl (by k_ne) rfl H.f_loadU64 (x_loadU64_n L) (x_loadU64_b L) (x_loadU64_x L) .u64 (x_loadU64_f L) rfl hw.cellSt,λ_=>?_,λh=>absurd rfl h⟩;clear hw;walk_nrm;u_op q8 hF;u_c q5t q8 hF;u_c qcC q8 hF;u_leave1 H.f_uLoad q8 hF;u_op q8 hF;u_c q5t q8 hF;u_c q89 q8 hF;u_reg q8 hF;u_op q8 hF;u_op q8 hF;u_op q8 hF;u_op q8 hF;u_c q5t q8 hF;u_c q89 q8 hF;u_reg q8 hF;u_op q8 hF;u_op q8 hF;u_op q8 hF;u_op q8 hF;u_c q5t q8 hF;u_c q89 q8 hF;u_c q89 q8 hF;u_reg q8 hF;u_op q8 hF;u_op q8 hF;u_c q5t q8 hF;u_cond true q8 hF;u_c q89 q8 hF;u_cond true q8 hF;u_c q89 q8 hF;u_reg q8 hF;refine qca (λw₅ h₅=>?_);replace hF:=q8 hF h₅;clear h₅;refine⟨rfl,_,stepG_mark0 .enable (by simp) rfl rfl (by k_ne) rfl H.f_enable (x_enable_n L) (x_enable_b L) (x_enable_x L) (x_enable_f L),?_⟩;walk_nrm;u_c q5t q8 hF;u_reg q8 hF;u_conv H.underlying_tWgP H.room_tWg (qec hF).choose_spec q8 hF;u_conv H.underlying_tWgP H.room_tWg (qec hF).choose_spec q8 hF;refine qca (λw₆ h₆=>?_);replace hF:=q8 hF h₆;clear h₆;refine⟨rfl,_,stepG_markAt .acquire (by simp) rfl rfl (by k_ne) rfl H.f_acquire (x_acquire_n L) (x_acquire_b L) (x_acquire_x L) (x_acquire_f L) (by simp[Act.eval,stA]),?_⟩;walk_nrm;u_c q5t q8 hF;u_c q89 q8 hF;u_c q89 q8 hF;u_reg q8 hF;u_op q8 hF;u_op q8 hF;u_op q8 hF;u_op q8 hF;u_op q8 hF;u_op q8 hF;u_op q8 hF;u_op q8 hF;u_skip q8 hF;u_skip q8 hF;u_op q8 hF;u_c q5t q8 hF;u_cond false q8 hF;u_c qbq q8 hF;u_c qcC q8 hF;u_leave0 H.f_wait q8 hF;exact qca λw₇ h₇=>hT _ (q8 hF h₇)
 ·obtain⟨S,hS⟩:∃S:Int,(v:Int)*KK=S:=⟨_,rfl⟩
  have a1:S / 4294967296=(v:Int):=by rw[<- hS];simp only[KK];omega
  have b1:bits .and .u64 S 2147483648=0:=by rw[<- hS];have:=st_flag v 0 (by omega) (by omega);simpa[KK] using this
  have b2:bits .and .u64 S 2147483647=0:=by rw[<- hS];have:=st_waiters v 0 (by omega) (by omega);simpa[KK] using this
  have c1:IntKind.i32.wrap (v:Int)=(v:Int):=by rw[IntKind.wrap_i32];omega
  have w1:IntKind.u64.wrap (S+1)=S+1:=by rw[IntKind.wrap_u64,<- hS];simp only[KK];omega
  have q3:decide ((v:Int)<0)=false:=decide_eq_false (by omega);have q4:decide (0<(v:Int))=true:=decide_eq_true (by omega);have q5:((v:Int) == 0)=false:=by simp;omega
  have q6:decide ((v:Int)=0)=false:=decide_eq_false (by omega);rw[hS] at hw;refine⟨_,stepG_load_atomic (v:=S) rfl rfl (by k_ne) rfl H.f_loadU64 (x_loadU64_n L) (x_loadU64_b L) (x_loadU64_x L) .u64 (x_loadU64_f L) rfl hw.cellSt,λh0=>absurd h0 (by omega),λ_=>?_⟩;clear hw;walk_nrm;u_op q8 hF;u_c q5t q8 hF;u_c qcC q8 hF;u_leave1 H.f_uLoad q8 hF;u_op q8 hF;u_c q5t q8 hF;u_c q89 q8 hF;u_reg q8 hF;u_op q8 hF;u_op q8 hF;u_op q8 hF;u_op q8 hF;u_c q5t q8 hF;u_c q89 q8 hF;u_reg q8 hF;u_op q8 hF;u_op q8 hF;u_op q8 hF;u_op q8 hF;u_c q5t q8 hF;u_c q89 q8 hF;u_c q89 q8 hF;u_reg q8 hF;u_op q8 hF;u_op q8 hF;u_c q5t q8 hF;u_cond false q8 hF;u_c qbq q8 hF;u_c q89 q8 hF;u_reg q8 hF;u_op q8 hF;u_op q8 hF;u_op q8 hF;u_op q8 hF;u_op q8 hF;u_op q8 hF;u_call H.f_uCas (nm_uCas L) uCasFn q8 hF;u_c q89 q8 hF;u_reg q8 hF;u_op q8 hF;u_c q5t q8 hF;u_c q89 q8 hF;u_reg q8 hF;u_op q8 hF;u_op q8 hF;u_op q8 hF;u_op q8 hF;u_op q8 hF;refine qca (λw₂ h₂=>?_);replace hF:=q8 hF h₂;clear h₂;refine⟨rfl,λv' s1 hw=>⟨λe=>?_,λe=>?_⟩⟩
  ·subst e
   rw[hS] at hw ⊢;refine⟨_,(stepG_cas_hit (v:=S) (n:=S+1) rfl rfl (by k_ne) rfl H.f_casU64 (x_casU64_n L) (x_casU64_b L) (x_casU64_x L) .u64 (x_casU64_f L) rfl rfl rfl hw.cellSt (hw.thaw 0)).trans (by rfl),?_⟩;replace hF:qcF L.tWg Wg (w₂.setCell (stA Wg) (.int .u64 (S+1))):=⟨_,_,hw.setSt _⟩
   clear hw;walk_nrm;u_conv H.underlying_tPU32 H.room_tU32 (qbb hF).choose_spec q8 hF;u_c q5t q8 hF;u_c qcC q8 hF;u_leave1 H.f_uCas q8 hF;u_c q5t q8 hF;u_cond true q8 hF;u_c q89 q8 hF;u_c q89 q8 hF;u_reg q8 hF;u_conv H.underlying_tPU32 H.room_tU32 (qbb hF).choose_spec q8 hF;u_conv H.underlying_tPU32 H.room_tU32 (qbb hF).choose_spec q8 hF;u_conv H.underlying_tPU32 H.room_tU32 (qbb hF).choose_spec q8 hF;u_conv H.underlying_tPU32 H.room_tU32 (qbb hF).choose_spec q8 hF;u_c q5t q8 hF;u_cond true q8 hF;u_reg q8 hF;u_conv H.underlying_tPU32 H.room_tU32 (qbb hF).choose_spec q8 hF;u_conv H.underlying_tPU32 H.room_tU32 (qbb hF).choose_spec q8 hF;u_op q8 hF;u_conv H.underlying_tPU32 H.room_tU32 (qbb hF).choose_spec q8 hF;refine qca (λw₃ h₃=>?_);replace hF:=q8 hF h₃;clear h₃;refine⟨rfl,_,stepG_markAt .write (by simp) rfl rfl (by k_ne) rfl H.f_raceWrite (x_raceWrite_n L) (x_raceWrite_b L) (x_raceWrite_x L) (x_raceWrite_f L) (ad:=⟨_,1,none⟩) (by simp[Act.eval]<;>rfl),?_⟩;walk_nrm;u_c q5t q8 hF;u_c q89 q8 hF;u_reg q8 hF;u_op q8 hF;u_c q5t q8 hF;u_c q89 q8 hF;u_c q89 q8 hF;u_reg q8 hF;u_op q8 hF;u_op q8 hF;u_op q8 hF;u_op q8 hF;u_skip q8 hF;u_op q8 hF;u_c q5t q8 hF;u_cond false q8 hF;u_c qbq q8 hF;u_c q89 q8 hF;u_reg q8 hF;u_op q8 hF;u_op q8 hF;u_op q8 hF;u_op q8 hF;refine qca (λw₃ h₃=>?_);replace hF:=q8 hF h₃;clear h₃;refine⟨rfl,rfl,λ⟨st,hw⟩=>stepG_semacquire_wait rfl rfl rfl H.f_semacquire (x_semacquire_n L) (x_semacquire_b L) (x_semacquire_x L) (x_semacquire_f L) (by simp[Act.eval,smA]) hw.cellSm,λhf=>?_⟩;refine⟨_,(stepG_semacquire (n:=1) rfl rfl (by k_ne) rfl H.f_semacquire (x_semacquire_n L) (x_semacquire_b L) (x_semacquire_x L) (x_semacquire_f L) (by simp[Act.eval,smA]) hf.cellSm (by k_ne) (hf.thaw 1)).trans (by rfl),?_⟩;replace hF:qcF L.tWg Wg (w₃.setCell (smA Wg) (.int .u32 0)):=⟨_,_,hf.setSm 0⟩
   clear hf;walk_nrm;u_c q5t q8 hF;u_c q89 q8 hF;u_reg q8 hF;u_op q8 hF;u_op q8 hF;u_op q8 hF;u_call H.f_uLoad (nm_uLoad L) uLoadFn q8 hF;u_c q89 q8 hF;u_reg q8 hF;u_op q8 hF;u_c q5t q8 hF;u_c q89 q8 hF;u_reg q8 hF;u_op q8 hF;u_op q8 hF;u_op q8 hF;refine qca (λw₄ h₄=>?_);replace hF:=q8 hF h₄;clear h₄;refine⟨rfl,λhw=>⟨_,stepG_load_atomic (v:=0) rfl rfl (by k_ne) rfl H.f_loadU64 (x_loadU64_n L) (x_loadU64_b L) (x_loadU64_x L) .u64 (x_loadU64_f L) rfl hw.cellSt,?_⟩⟩;clear hw;walk_nrm;u_op q8 hF;u_c q5t q8 hF;u_c qcC q8 hF;u_leave1 H.f_uLoad q8 hF;u_op q8 hF;u_op q8 hF;u_c q5t q8 hF;u_c q89 q8 hF;u_cond true q8 hF;u_c q89 q8 hF;u_reg q8 hF;refine qca (λw₅ h₅=>?_);replace hF:=q8 hF h₅;clear h₅;refine⟨rfl,_,stepG_mark0 .enable (by simp) rfl rfl (by k_ne) rfl H.f_enable (x_enable_n L) (x_enable_b L) (x_enable_x L) (x_enable_f L),?_⟩;walk_nrm;u_c q5t q8 hF;u_reg q8 hF;u_conv H.underlying_tWgP H.room_tWg (qec hF).choose_spec q8 hF;u_conv H.underlying_tWgP H.room_tWg (qec hF).choose_spec q8 hF;refine qca (λw₆ h₆=>?_);replace hF:=q8 hF h₆;clear h₆;refine⟨rfl,_,stepG_markAt .acquire (by simp) rfl rfl (by k_ne) rfl H.f_acquire (x_acquire_n L) (x_acquire_b L) (x_acquire_x L) (x_acquire_f L) (by simp[Act.eval,stA]),?_⟩;walk_nrm;u_c q5t q8 hF;u_c q89 q8 hF;u_c q89 q8 hF;u_reg q8 hF;u_op q8 hF;u_c q5t q8 hF;u_cond false q8 hF;u_c qbq q8 hF;u_c qcC q8 hF;u_leave0 H.f_wait q8 hF;exact qca λw₇ h₇=>hT _ (q8 hF h₇)
  ·refine⟨_,stepG_cas_miss (v:=(v':Int)*KK) (old:=S) (n:=S+1) rfl rfl (by k_ne) rfl H.f_casU64 (x_casU64_n L) (x_casU64_b L) (x_casU64_x L) .u64 (x_casU64_f L) rfl rfl rfl hw.cellSt (hw.thaw 0) (by rw[<- hS];simp only[KK];omega),?_⟩
   clear hw;walk_nrm;u_op q8 hF;u_c q5t q8 hF;u_c qcC q8 hF;u_leave1 H.f_uCas q8 hF;u_c q5t q8 hF;u_cond false q8 hF;u_c qbq q8 hF;u_c stepG_inBlock q8 hF;u_c stepG_inLoop q8 hF;refine qca (λw₃ h₃=>?_);replace hF:=q8 hF h₃;exact⟨_,rfl,by simp,by simp,hF⟩
theorem waitStart{P:q8b}(H:WgLib P L)(w:q3g)(hF:qcF L.tWg Wg w) :
  Goes P true (LR L.tWg Wg) DC0 (K4 P L.tWg Wg .disable (Zz L Wg (b₀.at a₀ (.inRegion ops₀ (i₀::rest₀)::k₀)) cs) 3) 3
   (G ((base L.wait).at ⟨#[.pointer (some ⟨Wg,0,none⟩),q5s,q5s,q5s,q5s,q5s,q5s,q5s,q5s,q5s,q5s,q5s,q5s,q5s,q5s,q5s,q5s,q5s,q5s,q5s,q5s,q5s,q5s,q5s,q5s,q5s,q5s,q5s,q5s,q5s,q5s,q5s,q5s,q5s,q5s,q5s,q5s,q5s,q5s,q5s,q5s,q5s,q5s,q5s,q5s,q5s,q5s,q5s,q5s,q5s,q5s,q5s,q5s,q5s,q5s,q5s,q5s,q5s,q5s,q5s,q5s,q5s,q5s,q5s,q5s,q5s,q5s,q5s,q5s,q5s,q5s,q5s,q5s,q5s,q5s,q5s,q5s,q5s,q5s,q5s,q5s,q5s,q5s,q5s],[]⟩ [.code (body_wait L)]) (b₀.at a₀ (.inRegion ops₀ (i₀::rest₀)::k₀)::cs)) w:=by
 lib_facts;simp only[body_wait,waitFn,q88];u_c q89 q8 hF;u_cond true q8 hF;u_reg q8 hF;refine qca (λw₁ h₁=>?_);replace hF:=q8 hF h₁;clear h₁;refine⟨rfl,_,stepG_mark0 .disable (by simp) rfl rfl (by k_ne) rfl H.f_disable (x_disable_n L) (x_disable_b L) (x_disable_x L) (x_disable_f L),?_⟩;walk_nrm;u_c q5t q8 hF;u_c stepG_block q8 hF;u_c stepG_loop q8 hF;exact qca (λw₂ h₂=>⟨_,rfl,by simp,by simp,q8 hF h₂⟩)
end
end Go.Co
end
section
namespace Go.Co
open Go.Conc Go.ConcN Go.ConcN.Gen Go.RowKit Go.Conc.Lib Go.ConcR.Gen
open Go.ConcR (KK wgBlock WgAt stA smA rd wr mk DC0)
section
variable{P:q8b}{b:Bool}{ty:q8u}{Wg:Nat}{R:q3g->q3g->Prop}{D D':q3g->q3g->Array qbr->Prop}{Stop Stop' qe4:q5r->q3g->Prop}
theorem vG(hD:∀w w' es,D w w' es->D' w w' es)(hS:∀g w,Stop g w->Stop' g w) :
  ∀{n:Nat} {g:q5r} {w:q3g},Goes P b R D Stop n g w->Goes P b R D' Stop' n g w
 | 0,_,_,h=>λw₁ hr=>hS _ _ (h w₁ hr)
 | n+1,_,_,.inl h=>.inl λw₁ hr=>hS _ _ (h w₁ hr)
 | n+1,g,w,.inr ⟨hs,h⟩=>.inr ⟨hs,λw₁ hr=>by
   obtain⟨g',w',es,e,hd,hg⟩:=goes_elim (h w₁ hr);rw[e];exact⟨hD _ _ _ hd,vG hD hS hg⟩⟩
theorem q6h{n:Nat}{g:q5r}{w:q3g}:∀r,Goes P b R D Stop n g w->Goes P b R D Stop (n+r) g w
 | 0,h=>h
 | r+1,h=>(q6h r h).more
theorem QT(hR:∀w,R w w){N:Nat}:∀{n:Nat} {g:q5r} {w:q3g},Goes P b R D (λg w=>Goes P b R D Stop N g w) n g w->Goes P b R D Stop (n+N) g w
 | 0,_,w,h=>by rw[q9m];exact h w (hR w)
 | n+1,_,w,.inl h=>by rw[Nat.add_comm];exact q6h (n+1) (h w (hR w))
 | n+1,g,w,.inr ⟨hs,h⟩=>by
   rw[Nat.add_right_comm];refine .inr ⟨hs,λw₁ hr=>?_⟩;obtain⟨g',w',es,e,hd,hg⟩:=goes_elim (h w₁ hr);rw[e];exact⟨hd,QT hR hg⟩
theorem Zo(hR:∀w,R w w)(hT:∀a b c,R a b->R b c->R a c){N:Nat}(hS:∀g w,Stop g w->g.status=.running/\∃g' es,qb7 P b g w=.go g' w es/\D w w es/\Goes P b R D qe4 N g' w)
  {n:Nat} {g:q5r} {w:q3g} (h:Goes P b R D Stop n g w):Goes P b R D qe4 (n+(N+1)) g w:=by
 have key:∀{g:q5r} {w:q3g},(∀w₁,R w w₁->Stop g w₁)->∀w₁,R w w₁->Goes P b R D qe4 (N+1) g w₁:=λ{g w} h w₁ hr =>
  .inr ⟨(hS _ _ (h w₁ hr)).1,λw₂ hr₂=>by
   obtain⟨g',es,e,hd,hg⟩:=(hS _ _ (h w₂ (hT _ _ _ hr hr₂))).2;rw[e];exact⟨hd,hg⟩⟩
 refine QT hR ?_;induction n generalizing g w with
 | zero=>exact key h
 | succ n ih =>
  rcases h with h | ⟨hs,h⟩
  ·exact .inl (key h)
  ·refine .inr ⟨hs,λw₁ hr=>?_⟩
   obtain⟨g',w',es,e,hd,hg⟩:=goes_elim (h w₁ hr);rw[e];exact⟨hd,ih hg⟩
end
section
variable{Γ Λ:Type}(C:Cfg Γ Λ)
theorem dm_of{Wg:Nat}:∀w w' es,DC0 w w' es->DM Wg w w' es:=λ_ _ _ h=>⟨h.1,by rw[h.2];simp⟩
variable{C}
theorem Cfg.GM.of{Stop Stop':q5r->q3g->Prop}{m:Nat}{g:q5r}{w:q3g}(h:Goes C.P true (LR C.ty C.Wg) DC0 Stop m g w)(hS:∀g w,Stop g w->Stop' g w):C.GM Stop' m g w :=
 vG dm_of hS h
theorem Cfg.GM.trans{Stop:q5r->q3g->Prop}{N n:Nat}{g:q5r}{w:q3g}(h:C.GM (λg w=>C.GM Stop N g w) n g w):C.GM Stop (n+N) g w:=QT LR.refl h
theorem Cfg.GM.swallow{m:Mark}{qe4:q5r->q3g->Prop}{N n:Nat}{g:q5r}{w:q3g}(hm:m=.read (smA C.Wg)\/m=.write (smA C.Wg))
  (h:C.GM (AtMk C.P true C.ty C.Wg m qe4 N) n g w):C.GM qe4 (n+(N+1)) g w :=
 Zo LR.refl qX (λg w ⟨hs,g',e,hg⟩=>⟨hs,g',_,e,⟨rfl,by rcases hm with rfl | rfl<;>simp⟩,vG dm_of (λ_ _ h=>h) hg⟩) h
theorem Cfg.add_spawn{S:q5r->q3g->Prop}{N n:Nat}{g:q5r}{w:q3g}
  (h:Goes C.P true (LR C.ty C.Wg) DC0 (AtMk C.P true C.ty C.Wg .disable (AtAdd C.P true C.ty C.Wg (λg w=>C.GM (C.AtGoS S) N g w)) 40) n g w) :
  C.GM (C.AtKdS S) n g w:=by
 refine Cfg.GM.of h λg w ⟨hs,g',e,hg⟩=>⟨hs,g',e,40,Cfg.GM.of hg λg w ⟨hs,hv⟩=>⟨hs,λv h1 h2=>?_⟩⟩
 obtain⟨g',e,hg⟩:=hv v h1 h2;have hk:∀g w,AtMk C.P true C.ty C.Wg .enable (λg w=>C.GM (C.AtGoS S) N g w) 2 g w->C.AtKeS S g w :=
  λg w ⟨hs,g',e,hg⟩=>⟨hs,g',e,2+N,Cfg.GM.trans (Cfg.GM.of hg λ_ _ h=>h)⟩
 refine⟨g',e,?_⟩;rcases hg with hg | hg
 ·exact⟨_,vG (λ_ _ _ h=>h) hk (Cfg.GM.swallow (.inl rfl) (Cfg.GM.of hg λ_ _ h=>h))⟩
 ·exact⟨_,Cfg.GM.of hg hk⟩
theorem Cfg.GM.sayC{m:Mark}{qe4:q5r->q3g->Prop}{N n:Nat}{g:q5r}{w:q3g}(hm:m=.read (smA C.Wg)\/m=.write (smA C.Wg))
  (h:C.GM (K4 C.P C.ty C.Wg m qe4 N) n g w):C.GM qe4 (n+(N+1)) g w :=
 Zo LR.refl qX (λg w ⟨hs,g',e,hg⟩=>⟨hs,g',_,e,⟨rfl,by rcases hm with rfl | rfl<;>simp⟩,vG dm_of (λ_ _ h=>h) hg⟩) h
section
variable{F0:q5r->q3g->Prop}(hF:∀g w,Goes C.P true (LR C.ty C.Wg) DC0 F0 40 g w->C.Fin g w)
include hF
theorem Cfg.acq_of{g:q5r}{w:q3g}(h:K4 C.P C.ty C.Wg (.acquire (stA C.Wg)) F0 40 g w):C.AtAcq g w:=by
 obtain⟨hs,g',e,hg⟩:=h;exact⟨hs,g',e,hF _ _ hg⟩
theorem Cfg.ke_of{g:q5r}{w:q3g}(h:K4 C.P C.ty C.Wg .enable (K4 C.P C.ty C.Wg (.acquire (stA C.Wg)) F0 40) 12 g w):C.AtKe g w:=by
 obtain⟨hs,g',e,hg⟩:=h;exact⟨hs,g',e,12,Cfg.GM.of hg λ_ _ h=>Cfg.acq_of hF h⟩
theorem Cfg.w4_of{g:q5r}{w:q3g}(h:MW4 C.P C.ty C.Wg F0 g w):C.AtW4 g w:=by
 obtain⟨hs,h⟩:=h;refine⟨hs,λhw=>?_⟩;obtain⟨g',e,hg⟩:=h hw;exact⟨g',e,30,Cfg.GM.of hg λ_ _ h=>Cfg.ke_of hF h⟩
theorem Cfg.w3_of{g:q5r}{w:q3g}(h:MW3 C.P C.ty C.Wg F0 g w):C.AtW3 g w:=by
 obtain⟨hs,ho,hb,h⟩:=h;refine⟨hs,ho,hb,λhw=>?_⟩;obtain⟨g',e,hg⟩:=h hw;exact⟨g',e,30,Cfg.GM.of hg λ_ _ h=>Cfg.w4_of hF h⟩
theorem Cfg.w2_of{vs:Nat}{g:q5r}{w:q3g}(h:MW2 C.P C.ty C.Wg F0 C.AnchW vs g w):C.AtW2 vs g w:=by
 obtain⟨hs,h⟩:=h;refine⟨hs,λv hv hw=>⟨λe=>?_,λe=>?_⟩⟩
 ·obtain⟨g',e',hg⟩:=(h v hv hw).1 e
  exact⟨g',e',_,vG (λ_ _ _ h=>h) (λ_ _ h=>Cfg.w3_of hF h) (Cfg.GM.sayC (.inr rfl) (Cfg.GM.of hg λ_ _ h=>h))⟩
 ·obtain⟨g',e',hg⟩:=(h v hv hw).2 e
  exact⟨g',e',20,Cfg.GM.of hg λ_ _ h=>h⟩
theorem Cfg.w1_of{g:q5r}{w:q3g}(h:MW1 C.P C.ty C.Wg F0 C.AnchW g w):C.AtW1 g w:=by
 obtain⟨hs,h⟩:=h;refine⟨hs,λv hv hw=>?_⟩;obtain⟨g',e,h1,h2⟩:=h v hv hw;exact⟨g',e,λe=>⟨50,Cfg.GM.of (h1 e) λ_ _ h=>Cfg.ke_of hF h⟩,λe=>⟨60,Cfg.GM.of (h2 e) λ_ _ h=>Cfg.w2_of hF h⟩⟩
end
theorem Cfg.kd_of{n:Nat}{g:q5r}{w:q3g}(h:Goes C.P true (LR C.ty C.Wg) DC0 (K4 C.P C.ty C.Wg .disable C.AnchW 3) n g w):C.GM C.AtKd n g w :=
 Cfg.GM.of h λ_ _ ⟨hs,g',e,hg⟩=>⟨hs,g',e,3,Cfg.GM.of hg λ_ _ h=>h⟩
end
end Go.Co
end
section
namespace Go.Co
open Go.Conc Go.ConcN
open Go.ConcR (KK wgBlock WgAt stA smA rd wr DC0 Bk g_of_ofEvents loc_of_ofEvent)
structure Inv{Γ Λ:Type}(C:Cfg Γ Λ)(gs:Array q5r)(w:q3g)(t:Trace)(j:Nat)(D:Nat->WD)(ls:Nat->Λ)(Ss:Nat->Bs)(rk:Nat->Rk)(γ:Γ)(tag:CTag)(f0 d0:Nat)(a:q5r)(st sm:Int)(cl:Nat->Cl)(fu:Nat->Nat):Prop where
 size:gs.size=C.lo+j
 main:gs[0]?=some a
 cs:C.CS tag j f0 d0 a w
 lv:∀i,1<=i->i<C.lo->∃g,gs[i]?=some g/\QuitsD C.P (fu i) (Deaf t i) g
 wk:∀i,i<j->∃g,gs[C.lo+i]?=some g/\C.WS (D i).stage (D i).fuel (D i).deaf (ls i) (Ss i) (rk i) g w
 wd:∀i,i<j->Deaf t (C.lo+i)=(D i).deaf
 rel:∀i,i<j->(D i).stage<=6->∃r,RelBy (stA C.Wg) t (C.lo+i) r
 tr:Tr cl gs.size w.heap.size t
 clw:∀i,i<j->∀b,Ss i b->cl b=.mine (C.lo+i)/\b<w.heap.size
 cl0:∀b,w.heap.size<=b->cl b=.mine 0
 cla:∀b,b<C.W1.heap.size->cl b=C.clA b
 cln:∀b,C.W1.heap.size<=b->cl b≠.sync
 nor:∀ad,NoRelease ad t
 deaf0:Deaf t 0=d0
 hd:Hd C.lo t
 data:C.DataAt γ w
 jj:C.J γ j ls
 ph:C.Ph w
 wg:qew C.ty C.Wg w st sm
 mode:qeh j D tag st sm
section
variable{Γ Λ:Type}{C:Cfg Γ Λ}{gs:Array q5r}{w w':q3g}{t:Trace}{j:Nat}{D:Nat->WD}{ls:Nat->Λ}{Ss:Nat->Bs}{rk:Nat->Rk}{γ γ':Γ}{tag:CTag}{f0 d0:Nat}{a:q5r}{st sm st' sm':Int}{cl:Nat->Cl}{fu:Nat->Nat}
structure Ef(cl:Nat->Cl)(x:Nat)(w w':q3g):Prop where
 keep:∀b,b<w.heap.size->cl b≠.mine x->cl b≠.sync->w'.heap[b]?=w.heap[b]?
 size:w.heap.size<=w'.heap.size
 os:w'.os=w.os
 output:w'.output=w.output
def Ju(cl:Nat->Cl)(x:Nat)(w w':q3g)(b:Nat):Cl:=if w.heap.size<=b/\b<w'.heap.size then .mine x else cl b
theorem vJ{x b:Nat}(h:b<w.heap.size):Ju cl x w w' b=cl b:=by unfold Ju;rw[if_neg (by omega)]
theorem q0o{x:Nat}(h:w'.heap.size=w.heap.size):Ju cl x w w'=cl:=by
 funext b
 unfold Ju;rw[if_neg (by omega)]
theorem Inv.fzc(H:C.Ok)(h:Inv C gs w t j D ls Ss rk γ tag f0 d0 a st sm cl fu){b:Nat}(hb:C.Fz b):cl b=.ro C.lo/\b<w.heap.size:=by
 obtain⟨h1,h2⟩:=H.fzc b hb;exact⟨(h.cla b h2).trans h1,q8m h2 h.ph.size⟩
theorem Inv.syc(H:C.Ok)(h:Inv C gs w t j D ls Ss rk γ tag f0 d0 a st sm cl fu){b:Nat}(hb:C.Sy b):cl b=.sync/\b<w.heap.size:=by
 obtain⟨h1,h2⟩:=H.syc b hb;exact⟨(h.cla b h2).trans h1,q8m h2 h.ph.size⟩
theorem Inv.wgc(H:C.Ok)(h:Inv C gs w t j D ls Ss rk γ tag f0 d0 a st sm cl fu):cl C.Wg=.sync/\C.Wg<w.heap.size:=by
 obtain⟨h1,h2,_⟩:=H.wgc;exact⟨(h.cla _ h2).trans h1,q8m h2 h.ph.size⟩
theorem Inv.ph'(H:C.Ok)(h:Inv C gs w t j D ls Ss rk γ tag f0 d0 a st sm cl fu){x:Nat}(e:Ef cl x w w'):C.Ph w' where
 fz b hb:=by
  obtain⟨h1,h2⟩:=h.fzc H hb;rw[e.keep b h2 (by rw[h1];simp) (by rw[h1];simp)];exact h.ph.fz b hb
 size:=q87 h.ph.size e.size
 os:=e.os.trans h.ph.os
 output:=e.output.trans h.ph.output
theorem Inv.rc(H:C.Ok)(h:Inv C gs w t j D ls Ss rk γ tag f0 d0 a st sm cl fu){x i:Nat}(e:Ef cl x w w')(hi:i<j)(hx:x≠C.lo+i)(a6:qew C.ty C.Wg w' st' sm')(Z:C.DataAt γ' w'):RC C.Fz C.K (Ss i) w w' where
 own b hb:=by
  obtain⟨h1,h2⟩:=h.clw i hi b hb;exact e.keep b h2 (by rw[h1];intro hc;cases hc;exact hx rfl) (by rw[h1];simp)
 fz b hb:=by
  obtain⟨h1,h2⟩:=h.fzc H hb;exact e.keep b h2 (by rw[h1];simp) (by rw[h1];simp)
 size:=e.size
 os:=e.os
 output:=e.output
 k:=⟨λ_=>⟨_,_,a6⟩,λ_=>⟨_,Z⟩⟩
theorem Inv.stepW(H:C.Ok)(h:Inv C gs w t j D ls Ss rk γ tag f0 d0 a st sm cl fu){i:Nat}(hi:i<j){g g':q5r}{es:Array qbr}(sl:Option (Nat × Nat))(hg:gs[C.lo+i]?=some g)(d7:qb7 C.P false g w=.go g' w' es)(e:Ef cl (C.lo+i) w w')
  (b9:∀e∈es,EvG (Ju cl (C.lo+i) w w') w'.heap.size (C.lo+i) e/\∀a,e.loc≠.mark (.release a))
  {s' m' Z:Nat} {l':Λ} {r':Rk} (d6:C.WS s' m' Z l' (grow (Ss i) w w') r' g' w') (b0:qd4 (D i).deaf es=Z)
  (hrel:s'<=6->∃r,RelBy (stA C.Wg) (t++qcg (C.lo+i) g.frame.fn g.frame.place es) (C.lo+i) r)
  (a8:qew C.ty C.Wg w' st' sm') (a7:C.DataAt γ' w') (hJ:C.J γ' j (upd ls i l'))
  (a9:∀tag',(tag'=tag\/(tag=.blk/\tag'=.w3))->(mayWake C.P g=true->g'.status=.running->tag'≠.blk)->qeh j (upd D i ⟨s',m',Z⟩) tag' st' sm') :
  ∃gs' tag' f' a',runT C.P (qdn gs w sl) (C.lo+i)=(.next (qdn gs' w' sl),qcg (C.lo+i) g.frame.fn g.frame.place es)/\f'<=f0+1/\(tag'=tag\/(tag=.blk/\tag'=.w3)) /\
   Inv C gs' w' (t++qcg (C.lo+i) g.frame.fn g.frame.place es) j (upd D i ⟨s',m',Z⟩) (upd ls i l') (upd Ss i (grow (Ss i) w w')) (upd rk i r') γ' tag' f' d0 a' st' sm' (Ju cl (C.lo+i) w w') fu:=by
 have hlo:=H.hlo;obtain⟨tag',f',c3,d8,a6,d5⟩:=h.cs.wokenBy H (LR.to (w:=w) ⟨_,_,a8⟩) g g';have b8:=qeg (P:=C.P) (sl:=sl) (i:=C.lo+i) hg (by rw[show(C.lo+i == 0)=false by simp;omega];exact d7);have hsz:((gs.map (woken C.P g g' w')).setIfInBounds (C.lo+i) g').size=gs.size:=by simp
 have hlt:C.lo+i<gs.size:=by rw[h.size];omega
 have hops:∀op∈qcg (C.lo+i) g.frame.fn g.frame.place es,op.g=C.lo+i:=g_of_ofEvents;refine⟨_,tag',f',_,b8,d8,a6,⟨by rw[hsz];exact h.size,by rw[qdq _ _ _ _ (by omega),h.main];rfl,c3,λx c9 c8=>?_,λx hx=>?_,λx hx=>?_,λx hx hst=>?_,?_,λx hx b hb=>?_,λb hb=>?_,λb hb=>?_,λb hb=>?_,?_,?_,?_,a7,hJ,h.ph' H e,a8,a9 tag' a6 d5⟩⟩
 ·obtain⟨y,hy,b7⟩:=h.lv x c9 c8
  exact⟨y,by rw[qdq _ _ _ _ (by omega),hy,qbt,qeb b7],by rw[qdC t (by omega:C.lo+i≠x) _ hops];exact b7⟩
 ·by_cases ex:x=i
  ·subst ex
   exact⟨g',qdH _ _ _ hlt,by simp only[qd2];exact d6⟩
  ·obtain⟨y,hy,b6⟩:=h.wk x hx
   refine⟨y,by rw[qdq _ _ _ _ (by omega),hy,qbt,b6.woken],?_⟩;rw[qdA D _ ex,qdA ls _ ex,qdA Ss _ ex,qdA rk _ ex];exact b6.rely (h.rc H e hx (by omega) a8 a7)
 ·by_cases ex:x=i
  ·subst ex;rw[Deaf_own,h.wd x hx,qd2];exact b0
  ·rw[qdC t (by omega) _ hops,h.wd x hx,qdA D _ ex]
 ·by_cases ex:x=i
  ·subst ex;rw[qd2] at hst;exact hrel hst
  ·rw[qdA D _ ex] at hst
   obtain⟨r,hr⟩:=h.rel x hx hst;exact⟨r,hr.appOther hops (by omega)⟩
 ·rw[hsz]
  exact(((h.tr.grow e.size).fresh' (cl':=Ju cl (C.lo+i) w w') (m:=w.heap.size) h.tr.inb λb hb=>vJ hb)).step hlt (ZQ λe he=>(b9 e he).1)
 ·by_cases ex:x=i
  ·subst ex
   rw[qd2] at hb;rcases hb with hb | hb
   ·obtain⟨h1,h2⟩:=h.clw x hi b hb
    exact⟨by rw[vJ h2];exact h1,q8m h2 e.size⟩
   ·exact⟨by unfold Ju;rw[if_pos hb],hb.2⟩
  ·rw[qdA Ss _ ex] at hb
   obtain⟨h1,h2⟩:=h.clw x hx b hb;exact⟨by rw[vJ h2];exact h1,q8m h2 e.size⟩
 ·unfold Ju
  rw[if_neg (by omega)];exact h.cl0 b (q87 e.size hb)
 ·rw[vJ (q8m hb h.ph.size)]
  exact h.cla b hb
 ·unfold Ju
  split
  ·simp
  ·exact h.cln b hb
 ·exact λad=>(h.nor ad).app λop hop hm=>by
   rw[qea] at hop;obtain⟨x,hx,rfl⟩:=qef.1 hop;exact(b9 x hx).2 _ (loc_of_ofEvent hm)
 ·rw[qdC t (by omega) _ hops];exact h.deaf0
 ·exact h.hd.app λop hop=>.inr (.inl (by rw[hops op hop];omega))
theorem Inv.step0(H:C.Ok)(h:Inv C gs w t j D ls Ss rk γ tag f0 d0 a st sm cl fu){a':q5r}{es:Array qbr}(sl:Option (Nat × Nat))(c3:qb7 C.P true a w=.go a' w' es)(e:Ef cl 0 w w')(c8:w'.heap.size=w.heap.size)
  (b6:∀e∈es,EvG cl w'.heap.size 0 e/\∀a,e.loc≠.mark (.release a)) {tag':CTag} {f':Nat}
  (b7:C.CS tag' j f' (qd4 d0 es) a' w') (a9:qew C.ty C.Wg w' st' sm') (Z:C.DataAt γ w') (a6:qeh j D tag' st' sm') :
  ∃gs',runT C.P (qdn gs w sl) 0=(.next (qdn gs' w' sl),qcg 0 a.frame.fn a.frame.place es) /\
   Inv C gs' w' (t++qcg 0 a.frame.fn a.frame.place es) j D ls Ss rk γ tag' f' (qd4 d0 es) a' st' sm' cl fu:=by
 have hlo:=H.hlo;have b0:=qeg (P:=C.P) (sl:=sl) (i:=0) h.main c3;have hsz:((gs.map (woken C.P a a' w')).setIfInBounds 0 a').size=gs.size:=by simp
 have hlt:0<gs.size:=by rw[h.size];omega
 have hops:∀op∈qcg 0 a.frame.fn a.frame.place es,op.g=0:=g_of_ofEvents;refine⟨_,b0,⟨by rw[hsz];exact h.size,qdH _ _ _ hlt,b7,λx b9 b8=>?_,λx hx=>?_,λx hx=>?_,λx hx hst=>?_,?_,λx hx b hb=>?_,λb hb=>h.cl0 b (by omega),h.cla,h.cln,?_,?_,?_,Z,h.jj,h.ph' H e,a9,a6⟩⟩
 ·obtain⟨y,hy,a8⟩:=h.lv x b9 b8
  exact⟨y,by rw[qdq _ _ _ _ (by omega),hy,qbt,qeb a8],by rw[qdC t (by omega:0≠x) _ hops];exact a8⟩
 ·obtain⟨y,hy,a7⟩:=h.wk x hx
  exact⟨y,by rw[qdq _ _ _ _ (by omega),hy,qbt,a7.woken],a7.rely (h.rc H e hx (by omega) a9 Z)⟩
 ·rw[qdC t (by omega) _ hops];exact h.wd x hx
 ·obtain⟨r,hr⟩:=h.rel x hx hst
  exact⟨r,hr.appOther hops (by omega)⟩
 ·rw[hsz]
  exact(h.tr.grow e.size).step hlt (ZQ λe he=>(b6 e he).1)
 ·obtain⟨h1,h2⟩:=h.clw x hx b hb
  exact⟨h1,q8m h2 e.size⟩
 ·exact λad=>(h.nor ad).app λop hop hm=>by
   rw[qea] at hop;obtain⟨x,hx,rfl⟩:=qef.1 hop;exact(b6 x hx).2 _ (loc_of_ofEvent hm)
 ·rw[Deaf_own,h.deaf0]
 ·exact h.hd.app λop hop=>.inl (hops op hop)
theorem Inv.leave(H:C.Ok)(h:Inv C gs w t j D ls Ss rk γ tag f0 d0 a st sm cl fu)(sl:Option (Nat × Nat)){i:Nat}{g:q5r}(h1:1<=i)(h2:i<C.lo)(hg:gs[i]?=some g)(hr:g.status=.running) :
  ∃gs' ops q tag' f' a',runT C.P (qdn gs w sl) i=(.next (qdn gs' w sl),ops)/\q<fu i/\f'<=f0+1/\(tag'=tag\/(tag=.blk/\tag'=.w3)) /\
   Inv C gs' w (t++ops) j D ls Ss rk γ tag' f' d0 a' st sm cl (upd fu i q):=by
 have hlo:=H.hlo;obtain⟨g0,a9,hq⟩:=h.lv i h1 h2;rw[hg] at a9;cases a9;cases hf:fu i with
 | zero=>rw[hf] at hq;rw[hq.1] at hr;cases hr
 | succ q =>
  rw[hf] at hq;rcases hq with⟨hx,_⟩ | ⟨_,g1,es,hmute,hstep,hq⟩
  ·rw[hr] at hx;cases hx
  ·obtain⟨tag',f',b0,b8,Z,c3⟩:=h.cs.wokenBy H (LR.refl w) g g1
   have a8:=qeg (P:=C.P) (sl:=sl) (i:=i) hg (by rw[show(i == 0)=false by simp;omega];exact hstep w);have hsz:((gs.map (woken C.P g g1 w)).setIfInBounds i g1).size=gs.size:=by simp
   have hlt:i<gs.size:=by rw[h.size];omega
   have hops:=Qv (g:=i) (fn:=g.frame.fn) (pos:=g.frame.place) hmute;refine⟨_,_,q,tag',f',_,a8,Nat.lt_succ_self q,b8,Z,⟨by rw[hsz];exact h.size,by rw[qdq _ _ _ _ (by omega),h.main];rfl,b0,λx b7 b6=>?_,λx hx=>?_,λx hx=>?_,λx hx hst=>?_,?_,h.clw,h.cl0,h.cla,h.cln,?_,?_,?_,h.data,h.jj,h.ph,h.wg,h.mode.retag Z⟩⟩
   ·by_cases e:x=i
    ·subst e
     exact⟨g1,qdH _ _ _ hlt,by rw[qd2,Deaf_own];exact hq⟩
    ·obtain⟨y,hy,a7⟩:=h.lv x b7 b6
     exact⟨y,by rw[qdq _ _ _ _ (by omega),hy,qbt,qeb a7],by rw[qdA _ _ e,qdC t (Ne.symm e) _ λop hop=>(hops op hop).1];exact a7⟩
   ·obtain⟨y,hy,a6⟩:=h.wk x hx
    exact⟨y,by rw[qdq _ _ _ _ (by omega),hy,qbt,a6.woken],a6⟩
   ·rw[qdC t (by omega) _ λop hop=>(hops op hop).1];exact h.wd x hx
   ·obtain⟨r,hr⟩:=h.rel x hx hst
    exact⟨r,hr.appOther (λop hop=>(hops op hop).1) (by omega)⟩
   ·rw[hsz]
    exact h.tr.step hlt λop hop=>⟨(hops op hop).1,λx hx=>by rw[(hops op hop).2] at hx;cases hx⟩
   ·exact λad=>(h.nor ad).app λop hop hm=>by
     rw[qea] at hop;obtain⟨x,hx,rfl⟩:=qef.1 hop;have h1:=hmute x hx;have h2:=loc_of_ofEvent hm;obtain⟨b9,wr,sy⟩:=x;simp only at h2;subst h2;cases h1
   ·rw[qdC t (by omega) _ λop hop=>(hops op hop).1];exact h.deaf0
   ·exact h.hd.app λop hop=>.inr (.inr (hops op hop).2)
end
end Go.Co
end
section
namespace Go.Co
open Go.Conc Go.ConcN
open Go.ConcR (KK wgBlock WgAt stA smA rd wr DC0 Bk g_of_ofEvents loc_of_ofEvent ofEvent_mk ofEvent_cell)
def UpdR(n:Nat)(f' f:Nat->Rk):Prop:=∃i,i<n/\Rk.sub (f' i) (f i)/\∀k,k≠i->f' k=f k
theorem q1G:∀(n:Nat) (f:Nat->Rk),Acc (UpdR n) f
 | 0,f=>.intro _ λ_ ⟨_,h,_⟩=>absurd h (Nat.not_lt_zero _)
 | n+1,f=>by
  have key:∀x:Rk,Acc Rk.sub x->∀f:Nat->Rk,f n=x->Acc (UpdR (n+1)) f:=by
   intro x hx;induction hx with
   | intro x _ ihx =>
    intro f hf;have Z:=q1G n f;induction Z with
    | intro f _ ihf =>
     refine .intro _ λf' ⟨i,hi,hs,hk⟩=>?_;by_cases e:i=n
     ·subst e
      exact ihx (f' i) (by rw[<- hf];exact hs) f' rfl
     ·exact ihf f' ⟨i,by omega,hs,hk⟩ (by rw[hk n (Ne.symm e)];exact hf)
  exact key (f n) (Rk.acc _) f rfl
abbrev Me:=Nat × (Nat->Rk) × Nat
def LtM(n:Nat):Me->Me->Prop:=Prod.Lex (·<·) (Prod.Lex (UpdR n) (·<·))
theorem ltM_wf(n:Nat):WellFounded (LtM n):=(Prod.lex ⟨_,Nat.lt_wfRel.wf⟩ (Prod.lex ⟨UpdR n,⟨q1G n⟩⟩ ⟨_,Nat.lt_wfRel.wf⟩)).wf
theorem q06{n x x':Nat}{y y':(Nat->Rk) × Nat}(h:x'<x):LtM n (x',y') (x,y):=Prod.Lex.left _ _ h
theorem ltM_2{n x x' z z':Nat}{y y':Nat->Rk}(h0:x'=x)(h:UpdR n y' y):LtM n (x',y',z') (x,y,z):=by
 subst h0;exact Prod.Lex.right _ (Prod.Lex.left _ _ h)
theorem q6b{n x x' z z':Nat}{y:Nat->Rk}(h0:x'=x)(h:z'<z):LtM n (x',y,z') (x,y,z):=by
 subst h0;exact Prod.Lex.right _ (Prod.Lex.right _ h)
section
variable{Γ Λ:Type}(C:Cfg Γ Λ)
def Cfg.nuD(x:WD × Λ):Nat:=if x.1.stage=7 then C.nu x.2 else 0
def Cfg.Nsum(j:Nat)(D:Nat->WD)(ls:Nat->Λ):Nat:=qem j λi=>C.nuD (D i,ls i)
def Cfg.big(j:Nat)(D:Nat->WD)(ls:Nat->Λ)(γ:Γ)(tag:CTag):Nat:=(C.nu C.l0+8)*phi C.n (Vc j D) tag+(Ssum j D+(C.m γ+C.Nsum j D ls))
def Cfg.low(j:Nat)(D:Nat->WD)(fu:Nat->Nat)(f0:Nat):Nat:=f0+2*(Fsum j D+qem C.lo fu)
end
section
variable{Γ Λ:Type}{C:Cfg Γ Λ}{gs:Array q5r}{w w':q3g}{t:Trace}{j:Nat}{D:Nat->WD}{ls:Nat->Λ}{Ss:Nat->Bs}{rk:Nat->Rk}{γ γ':Γ}{tag tag':CTag}{f0 d0:Nat}{a:q5r}{st sm st' sm':Int}{cl:Nat->Cl}{fu:Nat->Nat}
theorem q9t{i:Nat}(x:WD)(l:Λ)(hi:i<j):C.Nsum j (upd D i x) (upd ls i l)+C.nuD (D i,ls i)=C.Nsum j D ls+C.nuD (x,l):=by
 have e:(λa=>C.nuD (upd D i x a,upd ls i l a))=λa=>C.nuD (upd (λa=>(D a,ls a)) i (x,l) a):=by
  funext a
  by_cases h:a=i
  ·subst h;simp only[qd2]
  ·simp only[qdA _ _ h]
 have:=sumTo_upd (λa=>(D a,ls a)) (x,l) C.nuD hi;unfold Cfg.Nsum;rw[e];exact this
theorem Z3{α:Type}(f:Nat->α)(i:Nat):upd f i (f i)=f:=by
 funext a
 by_cases h:a=i
 ·subst h;rw[qd2]
 ·rw[qdA _ _ h]
theorem Inv.at(H:C.Ok)(h:Inv C gs w t j D ls Ss rk γ tag f0 d0 a st sm cl fu)(d:Nat):Inv C gs (w.at d) t j D ls Ss rk γ tag f0 d0 a st sm cl fu :=
 ⟨h.size,h.main,h.cs.rely (LR.to ⟨_,_,h.wg⟩),h.lv,λi hi=>let ⟨g,hg,hs⟩:=h.wk i hi;⟨g,hg,hs.rely ⟨λ_ _=>rfl,λ_ _=>rfl,q5m _,rfl,rfl,id,λ⟨γ,x⟩=>⟨γ,H.dat γ w _ (λ_ _=>rfl) x⟩⟩⟩,h.wd,h.rel,h.tr,h.clw,h.cl0,h.cla,h.cln,h.nor,h.deaf0,h.hd,
  H.dat γ w _ (λ_ _=>rfl) h.data,h.jj,⟨h.ph.fz,h.ph.size,h.ph.os,h.ph.output⟩,h.wg,h.mode⟩
theorem Inv.awake(H:C.Ok)(h:Inv C gs w t j D ls Ss rk γ tag f0 d0 a st sm cl fu):∀g∈gs,Go.Conc.awake g:=by
 intro g hg;obtain⟨i,hi⟩:=Array.mem_iff_getElem?.1 hg;have hlt:=(q45.1 hi).1;rw[h.size] at hlt;by_cases e0:i=0
 ·subst e0
  rw[h.main] at hi;cases hi;intro tm;rcases h.cs.status H with⟨hs,_⟩ | ⟨hs,_⟩<;>rw[hs]<;>simp
 ·rcases qbF i C.lo with hl | hl
  ·obtain⟨x,hx,hq⟩:=h.lv i (by omega) hl
   rw[hi] at hx;cases hx;exact J4 hq
  ·obtain⟨x,hx,hs⟩:=h.wk (i - C.lo) (by omega)
   rw[show C.lo+(i - C.lo)=i by omega,hi] at hx;cases hx;intro tm;rcases hs.status with h' | h'<;>rw[h']<;>simp
theorem Inv.someone(H:C.Ok)(h:Inv C gs w t j D ls Ss rk γ tag f0 d0 a st sm cl fu):∃(i:Nat) (g:q5r),gs[i]?=some g/\g.status=.running:=by
 rcases h.cs.status H with⟨hs,_⟩ | ⟨_,rfl⟩
 ·exact⟨0,a,h.main,hs⟩
 ·have hm:=h.mode
  cases hm with
  | opn h1 _ _=>exact h1.elim
  | reg _ _ h3 =>
   obtain⟨i,hi,h5⟩:=exists_counted h3;obtain⟨g,hg,hs⟩:=h.wk i hi;exact⟨C.lo+i,g,hg,hs.running_of (by omega)⟩
  | last L _ h2 h3 _ =>
   obtain⟨g,hg,hs⟩:=h.wk L h2;exact⟨C.lo+L,g,hg,hs.running_of (by omega)⟩
  | fin h1 _=>exact h1.elim
theorem evG_bk(H:C.Ok)(h:Inv C gs w t j D ls Ss rk γ tag f0 d0 a st sm cl fu){x:Nat}{e:qbr}(hb:Bk C.Wg e):EvG cl w.heap.size x e/\∀a,e.loc≠.mark (.release a):=by
 obtain⟨h1,h2⟩:=h.wgc H;rcases hb with hb | hb | ⟨ad,wr,rfl,ha⟩
 ·refine⟨λy hy=>?_,λa=>by rw[hb];simp⟩
  obtain⟨Z,wr,sy⟩:=e;simp only at hb;subst hb;simp[qbv,qcj] at hy
 ·refine⟨λy hy=>?_,λa=>by rw[hb];simp⟩
  obtain⟨Z,wr,sy⟩:=e;simp only at hb;subst hb;simp[qbv,qcj] at hy
 ·refine⟨λy hy=>?_,λa=>by simp⟩
  simp only[ofEvent_cell,qcj,qaz] at hy;subst hy;intro b hb;simp only[blk,qaz] at hb;subst hb;rw[ha];exact⟨h2,.inr (.inr ⟨h1,by simp,by simp⟩)⟩
theorem vI(H:C.Ok)(h:Inv C gs w t j D ls Ss rk γ tag f0 d0 a st sm cl fu){e:qbr}(hb:e=qcp (.read (smA C.Wg))\/e=qcp (.write (smA C.Wg))):EvG cl w.heap.size 0 e/\jw e:=by
 obtain⟨h1,h2⟩:=h.wgc H;rcases hb with rfl | rfl
 ·refine⟨λy hy=>?_,by simp[jw,qcp]⟩
  simp only[qcp,qbv,qcj,qaz] at hy;subst hy;intro b hb;simp only[blk,smA,qaz] at hb;subst hb;exact⟨h2,.inr (.inr ⟨h1,by simp,λ_=>rfl⟩)⟩
 ·refine⟨λy hy=>?_,by simp[jw,qcp]⟩
  simp only[qcp,qbv,qcj,qaz] at hy;subst hy;intro b hb;simp only[blk,smA,qaz] at hb;subst hb;exact⟨h2,.inr (.inr ⟨h1,by simp,λ_=>rfl⟩)⟩
theorem Inv.ef(H:C.Ok)(h:Inv C gs w t j D ls Ss rk γ tag f0 d0 a st sm cl fu)(x:Nat)(hA:Aside C.Wg w w'):Ef cl x w w'/\w'.heap.size=w.heap.size/\C.DataAt γ w':=by
 obtain⟨h1,h2⟩:=h.wgc H;refine⟨⟨λb _ _ hb=>hA.block b λe=>hb (e ▸ h1),Nat.le_of_eq hA.size.symm,hA.os,hA.output⟩,hA.size,H.dat γ w w' (λb hb=>hA.block b λe=>?_) h.data⟩;exact H.wgc.2.2 (e ▸ hb)
end
end Go.Co
end
section
namespace Go.Co
open Go.Conc Go.ConcN
open Go.ConcR (KK wgBlock WgAt stA smA rd wr DC0 Bk g_of_ofEvents loc_of_ofEvent ofEvent_mk ofEvent_cell)
section
variable{Γ Λ:Type}{C:Cfg Γ Λ}{gs:Array q5r}{w w':q3g}{t:Trace}{j:Nat}{D:Nat->WD}{ls:Nat->Λ}{Ss:Nat->Bs}{rk:Nat->Rk}{γ γ':Γ}{tag tag':CTag}{f0 d0:Nat}{a:q5r}{st sm st' sm':Int}{cl:Nat->Cl}{fu:Nat->Nat}
theorem q5d(H:C.Ok)(h:Inv C gs w t j D ls Ss rk γ tag f0 d0 a st sm cl fu){i:Nat}(hi:i<j)(hsz:w.heap.size<=w'.heap.size){e:qbr}(he:EvC C.Fz (grow (Ss i) w w') w'.heap.size e):EvG (Ju cl (C.lo+i) w w') w'.heap.size (C.lo+i) e/\∀a,e.loc≠.mark (.release a):=by
 obtain⟨h1,_,h3⟩:=he;refine⟨λx hx b hb=>?_,h1.2.2⟩;obtain⟨k1,k2,k3⟩:=h3 x hx b hb;refine⟨k1,?_⟩;rcases k3 with(k3 | k3) | ⟨k3,k4⟩
 ·obtain⟨m1,m2⟩:=h.clw i hi b k3
  exact .inl ⟨by rw[vJ m2];exact m1,k2⟩
 ·exact .inl ⟨by unfold Ju;rw[if_pos k3],k2⟩
 ·obtain⟨m1,m2⟩:=h.fzc H k3
  exact .inr (.inl ⟨C.lo,by rw[vJ m2];exact m1,.inr (by omega),k4,k2⟩)
theorem Inv.worker(H:C.Ok)(h:Inv C gs w t j D ls Ss rk γ tag f0 d0 a st sm cl fu){i:Nat}(hi:i<j){g:q5r}(hg:gs[C.lo+i]?=some g)(d9:g.status=.running)(sl:Option (Nat × Nat))
  (IH:∀gs' w' t' D' ls' Ss' rk' γ' tag' f' a' st' sm' cl',Inv C gs' w' t' j D' ls' Ss' rk' γ' tag' f' d0 a' st' sm' cl' fu->LtM C.n (C.big j D' ls' γ' tag',rk',C.low j D' fu f') (C.big j D ls γ tag,rk,C.low j D fu f0)->Ends C.P C.Post (qdn gs' w' sl) t') :
  ∃gs' w' ops,runT C.P (qdn gs w sl) (C.lo+i)=(.next (qdn gs' w' sl),ops)/\Ends C.P C.Post (qdn gs' w' sl) (t++ops):=by
 obtain⟨g₁,hg₁,hs⟩:=h.wk i hi;obtain rfl:g=g₁:=by rw[hg] at hg₁;exact Option.some.inj hg₁
 have hlo:=H.hlo;have hn:=H.hn;have hb:=h.cs.le;have n9:=Vc_le j D;have a9:=h.mode;have a8:=h.wg;generalize hst:(D i).stage=s at hs;generalize n7:(D i).fuel=m at hs;generalize e8:(D i).deaf=dd at hs;have m6:Deaf t (C.lo+i)=dd:=by rw[h.wd i hi,e8]
 obtain⟨l6,l5⟩:=h.wgc H;have g7:∀{s' m' a7:Nat} {l':Λ} {r':Rk} {tag':CTag} {f':Nat} {γ':Γ},(tag'=tag\/(tag=.blk/\tag'=.w3))->f'<=f0+1 ->
   ((s'<s/\cnt ⟨s',m',a7⟩<=cnt (D i)/\C.m γ'=C.m γ/\C.nuD (⟨s',m',a7⟩,l')<=C.nuD (D i,ls i))\/(s'=s/\m'=m/\C.m γ'+C.nuD (⟨s',m',a7⟩,l')<C.m γ+C.nuD (D i,ls i)) \/
    (s'=s/\m'=m/\l'=ls i/\γ'=γ/\Rk.sub r' (rk i))\/(s'=s/\m'+1=m/\l'=ls i/\γ'=γ/\r'=rk i)) ->
   LtM C.n (C.big j (upd D i ⟨s',m',a7⟩) (upd ls i l') γ' tag',upd rk i r',C.low j (upd D i ⟨s',m',a7⟩) fu f') (C.big j D ls γ tag,rk,C.low j D fu f0):=by
  intro s' m' a7 l' r' tag' f' γ' b6 hf hc;have e1:=sumTo_upd D (⟨s',m',a7⟩:WD) cnt hi;have e2:=sumTo_upd D (⟨s',m',a7⟩:WD) WD.stage hi;have e3:=sumTo_upd D (⟨s',m',a7⟩:WD) WD.fuel hi;have e4:=q9t (C:=C) (D:=D) (ls:=ls) (⟨s',m',a7⟩:WD) l' hi;have ep:phi C.n (Vc j (upd D i ⟨s',m',a7⟩)) tag'=phi C.n (Vc j (upd D i ⟨s',m',a7⟩)) tag:=phi_retag _ _ b6;have m4:s'=s->l'=ls i->C.nuD (⟨s',m',a7⟩,l')=C.nuD (D i,ls i):=λx y=>by unfold Cfg.nuD;rw[hst,x,y]
  have k6:s'=s->cnt (⟨s',m',a7⟩:WD)=cnt (D i):=λx=>by simp only[cnt,hst,x]
  unfold Cfg.big Cfg.low;rw[ep];simp only[Vc,Ssum,Fsum,hst,n7] at *
  rcases hc with⟨c1,c2,c3,c4⟩ | ⟨c1,c2,c3⟩ | ⟨c1,c2,c3,c4,c5⟩ | ⟨c1,c2,c3,c4,c5⟩
  ·refine q06 ?_
   have hp:=phi_mono C.n (v':=qem j λa=>cnt (upd D i ⟨s',m',a7⟩ a)) (v:=qem j λa=>cnt (D a)) (by omega) tag;have:=Nat.mul_le_mul_left (C.nu C.l0+8) hp;omega
  ·refine q06 ?_
   have:=k6 c1;rw[show(qem j λa=>cnt (upd D i ⟨s',m',a7⟩ a))=qem j λa=>cnt (D a) by omega];omega
  ·have h1:=k6 c1
   have h2:=m4 c1 c3;refine ltM_2 ?_ ⟨i,by omega,by rw[qd2];exact c5,λk hk=>qdA _ _ hk⟩;rw[show(qem j λa=>cnt (upd D i ⟨s',m',a7⟩ a))=qem j λa=>cnt (D a) by omega,c4];omega
  ·have h1:=k6 c1
   have h2:=m4 c1 c3;rw[c5,Z3];refine q6b ?_ (by omega);rw[show(qem j λa=>cnt (upd D i ⟨s',m',a7⟩ a))=qem j λa=>cnt (D a) by omega,c4];omega
 have g6:∀{g':q5r} {w':q3g} {es:Array qbr} {s' m' a7:Nat} {st' sm':Int},qb7 C.P false g w=.go g' w' es->Aside C.Wg w w'->qew C.ty C.Wg w' st' sm'->(∀e∈es,Bk C.Wg e) ->
   (∀jx e,es[jx]?=some e->(qbv e).touch?=none\/0<qd4 dd (es.extract 0 jx))->C.WS s' m' a7 (ls i) (Ss i) (rk i) g' w'->qd4 dd es=a7->s<=6 ->
   (∀tag',(tag'=tag\/(tag=.blk/\tag'=.w3))->(mayWake C.P g=true->g'.status=.running->tag'≠.blk)->qeh j (upd D i ⟨s',m',a7⟩) tag' st' sm')->((s'<s/\cnt ⟨s',m',a7⟩<=cnt (D i))\/(s'=s/\m'+1=m)) ->
   ∃gs' w' ops,runT C.P (qdn gs w sl) (C.lo+i)=(.next (qdn gs' w' sl),ops)/\Ends C.P C.Post (qdn gs' w' sl) (t++ops):=by
  intro g' w' es s' m' a7 st' sm' Z k7 e6 e5 hd e7 k0 h6 c8 hlt;obtain⟨d8,hsz,d6⟩:=h.ef H (C.lo+i) k7;have h9:grow (Ss i) w w'=Ss i:=by
   funext b
   simp only[grow,eq_iff_iff];exact⟨λh=>h.elim id λ⟨a,b⟩=>by omega,.inl⟩
  obtain⟨gs',tag',f',a',b0,d7,b6,b9⟩:=h.stepW H hi sl hg Z d8 (λe he=>by rw[q0o hsz,hsz];exact evG_bk H h (e5 e he)) (by rw[h9];exact e7) (by rw[e8];exact k0)
   (λ_=>let ⟨r,hr⟩:=h.rel i hi (by omega);⟨r,hr.book m6 _ _ e5 hd⟩) e6 d6 (by rw[Z3];exact h.jj) c8
  refine⟨gs',w',_,b0,IH _ _ _ _ _ _ _ _ _ _ _ _ _ _ b9 (g7 b6 d7 ?_)⟩;rcases hlt with⟨h1,h2⟩ | ⟨h1,h2⟩
  ·refine .inl ⟨h1,h2,rfl,?_⟩
   unfold Cfg.nuD;rw[if_neg (by simp only;omega),if_neg (by simp only[hst];omega)];exact q5m _
  ·exact .inr (.inr (.inr ⟨h1,h2,rfl,rfl,rfl⟩))
 have b7:∀{g':q5r} {w':q3g} {es:Array qbr} {s' m' a7:Nat} {st' sm':Int},qb7 C.P false g w=.go g' w' es->Aside C.Wg w w'->qew C.ty C.Wg w' st' sm'->(∀e∈es,Bk C.Wg e) ->
   (∀jx e,es[jx]?=some e->(qbv e).touch?=none\/0<qd4 dd (es.extract 0 jx))->C.WS s' m' a7 (ls i) (Ss i) (rk i) g' w'->qd4 dd es=a7->s<=6 ->
   qeh j (upd D i ⟨s',m',a7⟩) tag st' sm'->((s'<s/\cnt ⟨s',m',a7⟩<=cnt (D i))\/(s'=s/\m'+1=m)) ->
   ∃gs' w' ops,runT C.P (qdn gs w sl) (C.lo+i)=(.next (qdn gs' w' sl),ops)/\Ends C.P C.Post (qdn gs' w' sl) (t++ops) :=
  λZ k7 e6 e5 hd e7 k0 h6 c8 hlt=>g6 Z k7 e6 e5 hd e7 k0 h6 (λ_ ht _=>c8.retag ht) hlt
 have jQ:∀{g':q5r} {m':Nat},qb7 C.P false g w=.go g' w #[]->C.WS s m' dd (ls i) (Ss i) (rk i) g' w->m'+1=m->s<=6 ->
   ∃gs' w' ops,runT C.P (qdn gs w sl) (C.lo+i)=(.next (qdn gs' w' sl),ops)/\Ends C.P C.Post (qdn gs' w' sl) (t++ops):=by
  intro g' m' Z e7 hm h6;exact b7 Z (.refl C.Wg w) a8 (by simp) (by simp) e7 rfl h6 (by have:=a9.same (i:=i) m' dd;rwa [hst] at this) (.inr ⟨rfl,hm⟩)
 have e9:5<=s->cnt (D i)=1:=λh=>by simp[cnt,hst,h]
 cases hs with
 | run hcot =>
  generalize n2:rk i=r at hcot;cases r with
  | leaf =>
   obtain⟨_,hx⟩:=hcot w (RC.refl w);rcases hx with⟨a6,g',Z,m₂,hk⟩ | ⟨_,hx⟩
   ·-- it releases
    obtain⟨d8,hsz,d6⟩:=h.ef H (C.lo+i) (Aside.refl C.Wg w);obtain⟨gs',tag',f',a',b0,d7,b6,b9⟩:=h.stepW H (w':=w) (γ':=γ) (st':=st) (sm':=sm) hi sl hg Z d8 (l':=ls i) (r':=rk i)
     (λe he=>by simp at he;subst he;exact⟨λx hx=>by simp[qcp,qbv,qcj] at hx,λa=>by simp[qcp]⟩) (.k1 a6 hk) (by rw[e8];rfl) (λ_=>⟨t.size,RelBy.new m6 _ _⟩) a8 d6
     (by rw[Z3];exact h.jj) (λ_ ht _=>(a9.counted hi (by omega) (.inl rfl) _ _).retag ht)
    refine⟨gs',w,_,b0,IH _ _ _ _ _ _ _ _ _ _ _ _ _ _ b9 (g7 b6 d7 (.inl ⟨by omega,by rw[e9 (by omega)];simp[cnt],rfl,?_⟩))⟩;unfold Cfg.nuD;rw[if_neg (by simp)];exact qa8 _
   ·-- a synchronising operation on the data
    obtain⟨g',w',es,γ',l',Z,l8,hsz,n3,hout,m5,d6,l7,m8⟩:=hx γ h.data ⟨j,ls,by have:=h.cs.le;omega,h.jj⟩;obtain⟨r',hr'⟩:=H.hW _ _ _ _ m8;have h9:grow (Ss i) w w'=Ss i:=by
     funext b
     simp only[grow,eq_iff_iff];exact⟨λh=>h.elim id λ⟨a,b⟩=>by omega,.inl⟩
    have d8:Ef cl (C.lo+i) w w':=⟨λb _ _ hb=>l8 b λhs=>hb (h.syc H hs).1,Nat.le_of_eq hsz.symm,n3,hout⟩
    obtain⟨gs',tag',f',a',b0,d7,b6,b9⟩:=h.stepW H (γ':=γ') (st':=st) (sm':=sm) hi sl hg Z d8 (l':=l') (r':=r')
     (λe he=>by
      obtain⟨ad,wr,rfl,m7⟩:=m5 e he;obtain⟨k1,k2⟩:=h.syc H m7;refine⟨λx hx b hb=>?_,λa=>by simp⟩;simp only[ofEvent_cell,qcj,qaz] at hx;subst hx;simp only[blk,qaz] at hb;subst hb;rw[q0o hsz,hsz];exact⟨k2,.inr (.inr ⟨k1,by simp,by simp⟩)⟩) (.run (by rw[h9];exact hr')) (by
      rw[e8];refine deafBehind_idle (λe he=>?_) 0;obtain⟨ad,wr,rfl,m7⟩:=m5 e he;exact⟨by simp,by simp,by simp⟩) (λh=>by omega) (a8.of_block (l8 _ H.wgc.2.2)) d6
     (H.hJ _ _ _ _ _ _ h.jj hi l7) (λ_ ht _=>Go.ConcN.Mode.retag (by have:=a9.same (i:=i) 0 0;rwa [hst] at this) ht)
    refine⟨gs',w',_,b0,IH _ _ _ _ _ _ _ _ _ _ _ _ _ _ b9 (g7 b6 d7 (.inr (.inl ⟨rfl,rfl,?_⟩)))⟩;have:=H.hm _ _ _ _ l7;unfold Cfg.nuD;rw[if_pos (by simp),if_pos (by simp only[hst])];exact this
  | nd f =>
   obtain⟨g',w',es,Z,d5,k5⟩:=hcot.2 w (RC.refl w);have d8:Ef cl (C.lo+i) w w':=⟨λb hb hm hs=>d5.keep b hb λhS=>hm (h.clw i hi b hS).1,d5.size,d5.os,d5.output⟩
   have m3:∀b,cl b=.sync->¬ Ss i b:=λb hb hS=>by rw[(h.clw i hi b hS).1] at hb;cases hb
   obtain⟨gs',tag',f',a',b0,d7,b6,b9⟩:=h.stepW H (γ':=γ) (st':=st) (sm':=sm) hi sl hg Z d8 (l':=ls i)
    (λe he=>q5d H h hi d5.size (d5.evs e he)) (.run k5) (by rw[e8];exact deafBehind_idle (λe he=>(d5.evs e he).1) 0) (λh=>by omega) (a8.of_block (d5.keep _ l5 (m3 _ l6)))
    (H.dat γ w w' (λb hb=>d5.keep b (h.syc H hb).2 (m3 _ (h.syc H hb).1)) h.data) (by rw[Z3];exact h.jj) (λ_ ht _=>Go.ConcN.Mode.retag (by have:=a9.same (i:=i) 0 0;rwa [hst] at this) ht)
   exact⟨gs',w',_,b0,IH _ _ _ _ _ _ _ _ _ _ _ _ _ _ b9 (g7 b6 d7 (.inr (.inr (.inl ⟨rfl,rfl,rfl,rfl,by rw[n2];exact⟨_,rfl⟩⟩))))⟩
 | k1 a6 hh =>
  rcases qdh hh with hstop | ⟨m',rfl,hstep⟩
  ·obtain⟨_,g',Z,m₂,hk⟩:=hstop w (LR.refl w)
   exact b7 Z (.refl C.Wg w) a8 (by intro e he;simp at he;subst he;exact .inl rfl) (by intro jx e he;exact .inl (by have:=qby he;simp at this;subst this;rfl)) (.d1 a6 hk) rfl (by omega)
    (a9.counted hi (by omega) (.inr rfl) _ _) (.inl ⟨by omega,by rw[e9 (by omega)];simp[cnt]⟩)
  ·obtain⟨g',w',es,Z,⟨rfl,rfl⟩,c9⟩:=hstep w (LR.refl w)
   exact jQ Z (.k1 a6 c9) rfl (by omega)
 | d1 a6 hh =>
  rcases qdh hh with hstop | ⟨m',rfl,hstep⟩
  ·obtain⟨_,g8⟩:=hstop w (LR.refl w)
   have n8:cnt (D i)=1:=e9 (by omega);have p3:1<=Vc j D:=by have:=le_sumTo (f:=λx=>cnt (D x)) hi;simp only[Vc];omega
   have k9:∀e∈#[rd (stA C.Wg),wr (stA C.Wg)],Bk C.Wg e:=by intro e he;simp at he;rcases he with rfl | rfl<;>exact bk_cell _ _ rfl
   have k8:∀jx e,(#[rd (stA C.Wg),wr (stA C.Wg)]:Array qbr)[jx]?=some e->(qbv e).touch?=none\/0<qd4 1 ((#[rd (stA C.Wg),wr (stA C.Wg)]:Array qbr).extract 0 jx):=by
    intro jx e he
    match jx,he with
    | 0,_=>exact .inr (by simp[qd4])
    | 1,_=>exact .inr (by simp[qd4,rd])
    | jx+2,he=>simp at he
   have l9:∀q,cnt (⟨1,q,1⟩:WD)=0:=λ_=>rfl;have l4:∀q,OpenSt j D->OpenSt j (upd D i ⟨1,q,1⟩):=λq h a ha=>by
    by_cases e:a=i
    ·subst e;rw[qd2];simp
    ·rw[qdA D _ e];exact h a ha
   cases a9 with
   | opn h1 h2 h3 =>
    obtain⟨v,hv⟩:∃v,Vc j D+pend tag=v+1:=⟨Vc j D+pend tag - 1,by omega⟩
    rw[hv] at a8;have g9:qew C.ty C.Wg w (((v:Nat)+1)*KK+((0:Nat):Int)) 0:=by simpa using a8
    obtain⟨g',Z,_,hq⟩:=g8 v 0 (by omega) (by omega) g9;obtain⟨q,hq⟩:=hq (by omega);have h8:Vc j (upd D i ⟨1,q,1⟩)+pend tag=v:=by have:=Vc_upd D (⟨1,q,1⟩:WD) hi;have:=l9 q;omega
    refine b7 Z (qe6 w (stA C.Wg) _) (a8.setSt _) k9 k8 (.quit a6 hq) rfl (by omega) ?_ (.inl ⟨by omega,by simp[cnt]⟩);have e:((v:Nat):Int)*KK+((0:Nat):Int)=((Vc j (upd D i ⟨1,q,1⟩)+pend tag:Nat):Int)*KK:=by rw[h8];simp
    rw[e];exact .opn h1 (l4 q h2) (λvs ev=>by have:=h3 vs ev;omega)
   | reg h1 h2 h3 =>
    obtain⟨v,hv⟩:∃v,Vc j D=v+1:=⟨Vc j D - 1,by omega⟩
    rw[hv] at a8;have hp:pend tag=0:=by cases tag<;>first | rfl | exact h1.elim
    have g9:qew C.ty C.Wg w (((v:Nat)+1)*KK+((1:Nat):Int)) 0:=by simpa using a8
    obtain⟨g',Z,hl,hq⟩:=g8 v 1 (by omega) (by omega) g9;by_cases m9:v=0
    ·subst m9
     obtain⟨m₂,hk⟩:=hl ⟨rfl,rfl⟩;refine b7 Z (qe6 w (stA C.Wg) _) (a8.setSt _) k9 k8 (.d2 a6 hk) rfl (by omega) ?_ (.inl ⟨by omega,by simp[cnt]⟩);have b8:∀a,a<j->a≠i->(D a).stage=1:=λa ha e=>by
      have c0:=others_uncounted hi hv n8 a ha e;have:=h2 a ha;simp only[cnt] at c0;split at c0<;>omega
     have:=Go.ConcN.Mode.last (j:=j) (D:=upd D i ⟨4,m₂,1⟩) (tag:=tag) i h1 hi (by rw[qd2];simp) (λa ha e=>by rw[qdA D _ e];exact b8 a ha e);rw[qd2] at this;simpa using this
    ·obtain⟨q,hq⟩:=hq (by omega)
     have h8:Vc j (upd D i ⟨1,q,1⟩)=v:=by have:=Vc_upd D (⟨1,q,1⟩:WD) hi;have:=l9 q;omega
     refine b7 Z (qe6 w (stA C.Wg) _) (a8.setSt _) k9 k8 (.quit a6 hq) rfl (by omega) ?_ (.inl ⟨by omega,by simp[cnt]⟩);have e:((v:Nat):Int)*KK+((1:Nat):Int)=((Vc j (upd D i ⟨1,q,1⟩):Nat):Int)*KK+1:=by rw[h8];simp
     rw[e];exact .reg h1 (l4 q h2) (by omega)
   | last L _ h2 h3 h4 =>
    by_cases e:i=L
    ·subst e;omega
    ·have:=h4 i hi e;omega
   | sema h2=>have:=h2 i hi;omega
   | fin _ h2=>have:=h2 i hi;omega
  ·obtain⟨g',w',es,Z,⟨rfl,rfl⟩,c9⟩:=hstep w (LR.refl w)
   exact jQ Z (.d1 a6 c9) rfl (by omega)
 | d2 a6 hh =>
  rcases qdh hh with hstop | ⟨m',rfl,hstep⟩
  ·obtain⟨_,hx⟩:=hstop w (LR.refl w)
   obtain⟨g5,b8,rfl,rfl⟩:=a9.isLast hi (by omega);simp only[hst] at a8;obtain⟨g',Z,m₂,hk⟩:=hx (by simpa using a8);refine b7 Z (.refl C.Wg w) a8 (by intro e he;simp at he;subst he;exact bk_cell _ _ rfl) (by intro jx e he;match jx,he with | 0,_=>exact .inr (by simp[qd4]) | jx+1,he=>simp at he) (.d3 a6 hk) rfl (by omega) ?_ (.inl ⟨by omega,by simp[cnt]⟩);have:=Go.ConcN.Mode.last (j:=j) (D:=upd D i ⟨3,m₂,1⟩) (tag:=tag) i g5 hi (by rw[qd2];simp) (λa ha e=>by rw[qdA D _ e];exact b8 a ha e);rw[qd2] at this;simpa using this
  ·obtain⟨g',w',es,Z,⟨rfl,rfl⟩,c9⟩:=hstep w (LR.refl w)
   exact jQ Z (.d2 a6 c9) rfl (by omega)
 | d3 a6 hh =>
  rcases qdh hh with hstop | ⟨m',rfl,hstep⟩
  ·obtain⟨_,hx⟩:=hstop w (LR.refl w)
   obtain⟨g5,b8,rfl,rfl⟩:=a9.isLast hi (by omega);simp only[hst] at a8;obtain⟨g',Z,m₂,hk⟩:=hx (by simpa using a8);refine b7 Z (qe6 w (stA C.Wg) _) (a8.setSt 0) (by intro e he;simp at he;subst he;exact bk_cell _ _ rfl) (by intro jx e he;match jx,he with | 0,_=>exact .inr (by simp[qd4]) | jx+1,he=>simp at he) (.d4 a6 hk) rfl (by omega) ?_ (.inl ⟨by omega,by simp[cnt]⟩);have:=Go.ConcN.Mode.last (j:=j) (D:=upd D i ⟨2,m₂,1⟩) (tag:=tag) i g5 hi (by rw[qd2];simp) (λa ha e=>by rw[qdA D _ e];exact b8 a ha e);rw[qd2] at this;simpa using this
  ·obtain⟨g',w',es,Z,⟨rfl,rfl⟩,c9⟩:=hstep w (LR.refl w)
   exact jQ Z (.d3 a6 c9) rfl (by omega)
 | d4 a6 hh =>
  rcases qdh hh with hstop | ⟨m',rfl,hstep⟩
  ·obtain⟨_,n6,hx⟩:=hstop w (LR.refl w)
   obtain⟨g5,b8,rfl,rfl⟩:=a9.isLast hi (by omega);simp only[hst] at a8;obtain⟨g',Z,q,hq⟩:=hx (by simpa using a8);have b0:g'.status=.running:=by
    cases q with
    | zero=>exact absurd hq.2 (by decide)
    | succ q=>exact hq.elim (λx=>absurd x.2 (by decide)) (λx=>x.1)
   refine g6 Z (qe6 w (smA C.Wg) _) (a8.setSm 1) (es:=qe3 (smA C.Wg)) ?_ ?_ (.quit a6 hq) (by simp[qd4,qe3]) (by omega) ?_ (.inl ⟨by omega,by simp[cnt]⟩)
   ·intro e he
    simp[qe3] at he;rcases he with rfl | rfl | rfl | rfl
    ·exact .inl rfl
    ·exact bk_cell _ _ rfl
    ·exact bk_cell _ _ rfl
    ·exact .inr (.inl rfl)
   ·intro jx e he
    match jx,he with
    | 0,he=>simp[qe3] at he;subst he;exact .inl rfl
    | 1,_=>exact .inr (by simp[qd4,qe3])
    | 2,_=>exact .inr (by simp[qd4,qe3])
    | 3,he=>simp[qe3] at he;subst he;exact .inl rfl
    | jx+4,he=>simp[qe3] at he
   ·intro tag' ht hw
    have n4:=hw n6 b0;have e3:tag'=.w3:=by
     rcases ht with rfl | ⟨_,rfl⟩
     ·cases tag'<;>first | rfl | exact g5.elim | exact absurd rfl n4
     ·rfl
    subst e3;simp only[if_true];exact .sema λa ha=>by
     by_cases e:a=i
     ·subst e;rw[qd2]
     ·rw[qdA D _ e];exact b8 a ha e
  ·obtain⟨g',w',es,Z,⟨rfl,rfl⟩,c9⟩:=hstep w (LR.refl w)
   exact jQ Z (.d4 a6 c9) rfl (by omega)
 | quit a6 hh =>
  cases m with
  | zero=>rw[hh.1] at d9;cases d9
  | succ q =>
   rcases hh with⟨hf,_⟩ | ⟨_,g',es,hmute,hstep,hq⟩
   ·rw[hf] at d9;cases d9
   ·have e5:∀e∈es,Bk C.Wg e:=λe he=>Go.ConcR.bk_of_mute (hmute e he)
    exact b7 (hstep w) (.refl C.Wg w) a8 e5 (λjx e he=>.inl (Yo (hmute e (qby he)))) (.quit a6 hq) rfl (by omega) (by have:=a9.same (i:=i) q (qd4 dd es);rwa [hst] at this) (.inr ⟨rfl,rfl⟩)
end
end Go.Co
end
section
namespace Go.Co
open Go.Conc Go.ConcN
open Go.ConcR (KK wgBlock WgAt stA smA rd wr DC0 Bk g_of_ofEvents loc_of_ofEvent ofEvent_mk ofEvent_cell)
section
variable{Γ Λ:Type}{C:Cfg Γ Λ}{gs:Array q5r}{w w':q3g}{t:Trace}{j:Nat}{D:Nat->WD}{ls:Nat->Λ}{Ss:Nat->Bs}{rk:Nat->Rk}{γ γ':Γ}{tag tag':CTag}{f0 d0:Nat}{a:q5r}{st sm st' sm':Int}{cl:Nat->Cl}{fu:Nat->Nat}
theorem q0p{Wg:Nat}:∀e∈#[qcp .disable],Bk Wg e:=by intro e he;simp at he;subst he;exact .inl rfl
theorem q40{Wg:Nat}:∀e∈#[qcp .enable],Bk Wg e:=by intro e he;simp at he;subst he;exact .inr (.inl rfl)
theorem bk_r{Wg:Nat}:∀e∈#[rd (stA Wg)],Bk Wg e:=by intro e he;simp at he;subst he;exact bk_cell _ _ rfl
theorem bk_rw'{Wg:Nat}:∀e∈#[rd (stA Wg),wr (stA Wg)],Bk Wg e:=by intro e he;simp at he;rcases he with rfl | rfl<;>exact bk_cell _ _ rfl
theorem bk_sem'{Wg:Nat}:∀e∈qe3 (smA Wg),Bk Wg e:=by
 intro e he;simp[qe3] at he;rcases he with rfl | rfl | rfl | rfl
 ·exact .inl rfl
 ·exact bk_cell _ _ rfl
 ·exact bk_cell _ _ rfl
 ·exact .inr (.inl rfl)
theorem ZV{Wg:Nat}{es:Array qbr}(h:∀e∈es,e=qcp (.read (smA Wg))\/e=qcp (.write (smA Wg)))(d:Nat):qd4 d es=d :=
 deafBehind_idle (λe he=>by rcases h e he with rfl | rfl<;>simp[jw,qcp]) d
theorem Inv.spawn(H:C.Ok){r:Nat}(hr:r<C.n)(h:Inv C gs w t (C.n - (r+1)) D ls Ss rk γ (.sp r 2) f0 0 a st sm cl fu)(sl:Option (Nat × Nat)){a' child:q5r}(hsp:qb7 C.P true a w=.spawn a' child w #[])
  (b8:C.WA C.l0 (λ_=>False) child w) {tag':CTag} {f':Nat} (a8:C.CS tag' (C.n - r) f' 0 a' w) (ho:isOpen tag') (hp:pend tag'=0) (hv2:∀vs,tag'≠.w2 vs) :
  ∃gs' ops r',runT C.P (qdn gs w sl) 0=(.next (qdn gs' w sl),ops) /\
   Inv C gs' w (t++ops) (C.n - r) (upd D (C.n - (r+1)) ⟨7,0,0⟩) (upd ls (C.n - (r+1)) C.l0) (upd Ss (C.n - (r+1)) (λ_=>False)) (upd rk (C.n - (r+1)) r') γ tag' f' 0 a' st sm cl fu:=by
 have hlo:=H.hlo;have ej:C.n - r=C.n - (r+1)+1:=by omega
 generalize C.n - (r+1)=j at *
 rw[ej] at a8 ⊢;obtain⟨rr,hrr⟩:=H.hW _ _ _ _ b8;have Z:=runT_crowd_spawn (P:=C.P) (sl:=sl) (i:=0) h.main hsp;have e0:(qcg 0 a.frame.fn a.frame.place #[]:Array MemOp)=#[]:=by rw[qea];simp
 rw[e0] at Z;have b6:((#[]:Array MemOp).push { g:=0,fn:=a.frame.fn,pos:=a.frame.place,act:=.go gs.size } |>.push { g:=gs.size,fn:=child.frame.fn,pos:=a.frame.place,act:=.start })=#[{ g:=0,fn:=a.frame.fn,pos:=a.frame.place,act:=.go gs.size },{ g:=gs.size,fn:=child.frame.fn,pos:=a.frame.place,act:=.start }]:=rfl;rw[b6] at Z;refine⟨_,_,rr,Z,?_⟩;generalize hx:({ g:=0,fn:=a.frame.fn,pos:=a.frame.place,act:=.go gs.size }:MemOp)=x;generalize hy:({ g:=gs.size,fn:=child.frame.fn,pos:=a.frame.place,act:=.start }:MemOp)=y;have hx':x.g=0/\x.act=.go gs.size:=by rw[<- hx];exact⟨rfl,rfl⟩
 have hy':y.g=gs.size/\y.act=.start:=by rw[<- hy];exact⟨rfl,rfl⟩
 have hsz:((gs.setIfInBounds 0 a').push child).size=gs.size+1:=by simp
 have a9:=h.size;have a6:∀g,Deaf (t++#[x,y]) g=Deaf t g:=λg=>(h.tr.fork_deaf hx' hy' g).2;have a7:∀i,1<=i->i<gs.size->((gs.setIfInBounds 0 a').push child)[i]?=gs[i]?:=λi h1 h2=>by
  rw[Array.getElem?_push_lt (by simpa using h2),<- q9w,qbj (by omega)]
 have hops:∀op∈#[x,y],op.g=0\/op.g=gs.size:=λop hop=>by
  simp only[qde,qbx,qc2,or_false] at hop;rcases hop with rfl | rfl
  ·exact .inl hx'.1
  ·exact .inr hy'.1
 have b0:∀op∈#[x,y],op.act=.go gs.size\/op.act=.start:=λop hop=>by
  simp only[qde,qbx,qc2,or_false] at hop;rcases hop with rfl | rfl
  ·exact .inl hx'.2
  ·exact .inr hy'.2
 refine⟨by rw[hsz,a9];omega,?_,a8,λi h1 h2=>?_,λi hi=>?_,λi hi=>?_,λi hi hst=>?_,?_,λi hi b hb=>?_,h.cl0,h.cla,h.cln,?_,?_,?_,h.data,H.hJ0 _ _ _ h.jj,h.ph,h.wg,?_⟩
 ·rw[Array.getElem?_push_lt (by simp;omega),<- q9w,qav,if_pos rfl,if_pos (by omega)]
 ·obtain⟨z,hz,hq⟩:=h.lv i h1 h2
  exact⟨z,by rw[a7 i h1 (by omega)];exact hz,by rw[a6];exact hq⟩
 ·by_cases e:i=j
  ·subst e
   refine⟨child,?_,by simp only[qd2];exact .run hrr⟩;rw[<- a9,show gs.size=(gs.setIfInBounds 0 a').size by simp];exact Array.getElem?_push_size
  ·obtain⟨z,hz,hs⟩:=h.wk i (by omega)
   refine⟨z,by rw[a7 _ (by omega) (by omega)];exact hz,?_⟩;rw[qdA D _ e,qdA ls _ e,qdA Ss _ e,qdA rk _ e];exact hs
 ·rw[a6]
  by_cases e:i=j
  ·subst e
   rw[qd2,<- a9];have:=(h.tr.fork_deaf hx' hy' 0).1;rw[a6] at this;exact this
  ·rw[qdA D _ e]
   exact h.wd i (by omega)
 ·by_cases e:i=j
  ·subst e
   rw[qd2] at hst;simp at hst
  ·rw[qdA D _ e] at hst
   obtain⟨r,hr⟩:=h.rel i (by omega) hst;exact⟨r,hr.appNot λop hop=>by rcases hops op hop with h | h<;>omega⟩
 ·rw[hsz]
  exact h.tr.fork (by omega) hx' hy' h.deaf0
 ·by_cases e:i=j
  ·subst e
   rw[qd2] at hb;exact hb.elim
  ·rw[qdA Ss _ e] at hb
   exact h.clw i (by omega) b hb
 ·exact λad=>(h.nor ad).app λop hop hm=>by
   rcases b0 op hop with e | e<;>rw[e] at hm<;>cases hm
 ·rw[a6];exact h.deaf0
 ·exact h.hd.app λop hop=>by rcases hops op hop with e | e<;>omega
 ·have hm:=h.mode
  obtain⟨b7,h1,h2,_⟩:=hm.open_inv trivial;have eV:Vc (j+1) (upd D j ⟨7,0,0⟩)=Vc j D+1:=by
   simp only[Vc,qem,qd2];rw[sumTo_upd_out D _ cnt (q5m _)];rfl
  have ho':OpenSt (j+1) (upd D j ⟨7,0,0⟩):=λi hi=>by
   by_cases e:i=j
   ·subst e;rw[qd2];simp
   ·rw[qdA D _ e];exact b7 i (by omega)
  rw[h1,h2];have b9:((Vc j D+pend (.sp r 2):Nat):Int)*KK=((Vc (j+1) (upd D j ⟨7,0,0⟩)+pend tag':Nat):Int)*KK:=by rw[eV,hp];simp[pend]
  rw[b9];exact .opn ho ho' (λvs e=>absurd e (hv2 vs))
theorem Inv.starter(H:C.Ok)(h:Inv C gs w t j D ls Ss rk γ tag f0 d0 a st sm cl fu)(k0:a.status=.running)(sl:Option (Nat × Nat))
  (IH:∀gs' w' t' j' D' ls' Ss' rk' tag' f' d' a' st' sm',Inv C gs' w' t' j' D' ls' Ss' rk' γ tag' f' d' a' st' sm' cl fu->LtM C.n (C.big j' D' ls' γ tag',rk',C.low j' D' fu f') (C.big j D ls γ tag,rk,C.low j D fu f0)->Ends C.P C.Post (qdn gs' w' sl) t') :
  ∃gs' w' ops,runT C.P (qdn gs w sl) 0=(.next (qdn gs' w' sl),ops)/\Ends C.P C.Post (qdn gs' w' sl) (t++ops):=by
 have hn:=H.hn;have m3:=Vc_le j D;have hle:=h.cs.le;have a6:=h.mode;have a8:=h.wg;have a9:∀{a':q5r} {w':q3g} {es:Array qbr} {tag':CTag} {f':Nat} {st' sm':Int},qb7 C.P true a w=.go a' w' es->Aside C.Wg w w'->qew C.ty C.Wg w' st' sm'->(∀e∈es,Bk C.Wg e)->C.CS tag' j f' (qd4 d0 es) a' w' ->
   qeh j D tag' st' sm'->(phi C.n (Vc j D) tag'<phi C.n (Vc j D) tag\/(phi C.n (Vc j D) tag'=phi C.n (Vc j D) tag/\f'<f0)) ->
   ∃gs' w' ops,runT C.P (qdn gs w sl) 0=(.next (qdn gs' w' sl),ops)/\Ends C.P C.Post (qdn gs' w' sl) (t++ops):=by
  intro a' w' es tag' f' st' sm' Z l8 h8 l7 d9 e5 hlt;obtain⟨c8,hsz,b7⟩:=h.ef H 0 l8;obtain⟨gs',hr,b0⟩:=h.step0 H sl Z c8 hsz (λe he=>by rw[hsz];exact evG_bk H h (l7 e he)) d9 h8 b7 e5;refine⟨gs',w',_,hr,IH _ _ _ _ _ _ _ _ _ _ _ _ _ _ b0 ?_⟩;unfold Cfg.big Cfg.low;rcases hlt with h1 | ⟨h1,h2⟩
  ·refine q06 ?_
   have:=qen h1 (show 0<C.nu C.l0+8 by omega);omega
  ·rw[h1]
   exact q6b rfl (by omega)
 have jQ:∀{a':q5r} {w':q3g} {es:Array qbr} {f':Nat},qb7 C.P true a w=.go a' w' es->DM C.Wg w w' es->C.CS tag j f' d0 a' w'->f'<f0 ->
   ∃gs' w' ops,runT C.P (qdn gs w sl) 0=(.next (qdn gs' w' sl),ops)/\Ends C.P C.Post (qdn gs' w' sl) (t++ops):=by
  intro a' w' es f' Z hD d9 hf;obtain⟨rfl,hes⟩:=hD;have b8:=ZV hes d0;obtain⟨c8,hsz,b7⟩:=h.ef H 0 (Aside.refl C.Wg w');obtain⟨gs',hr,b0⟩:=h.step0 H sl Z c8 hsz (λe he=>⟨(vI H h (hes e he)).1,(vI H h (hes e he)).2.2.2⟩) (by rw[b8];exact d9) a8 b7 a6;refine⟨gs',w',_,hr,IH _ _ _ _ _ _ _ _ _ _ _ _ _ _ b0 ?_⟩;unfold Cfg.big Cfg.low;exact q6b rfl (by omega)
 have hcs:=h.cs;have c9:∀{m:Nat},tag=.w1\/tag=.anch->j=C.n->d0=1->f0=m\/tag=.anch->C.GM C.AtW1 m a w ->
   ∃gs' w' ops,runT C.P (qdn gs w sl) 0=(.next (qdn gs' w' sl),ops)/\Ends C.P C.Post (qdn gs' w' sl) (t++ops):=by
  intro m d5 hj hd hf hh;have hop:isOpen tag:=by rcases d5 with rfl | rfl<;>trivial
  have g6:pend tag=0:=by rcases d5 with rfl | rfl<;>rfl
  have e7:8*Vc j D+5<=phi C.n (Vc j D) tag:=by rcases d5 with rfl | rfl<;>simp only[phi]<;>omega
  obtain⟨ho,h1,h2,_⟩:=a6.open_inv hop;rcases qdh hh with hstop | ⟨m',rfl,hstep⟩
  ·obtain⟨_,c3⟩:=hstop w (.refl w)
   obtain⟨a',Z,h0,hne⟩:=c3 (Vc j D) (by omega) (by have:=a8;rw[h1,h2,g6] at this;simpa using this);subst hj;subst hd;by_cases hv:Vc C.n D=0
   ·obtain⟨m₂,hk⟩:=h0 hv
    refine a9 Z (.refl C.Wg w) a8 bk_r (tag':=.ke) (.ke hk) ?_ (.inl (q8m (by simp only[phi];omega) e7));have e:st=0:=by rw[h1,hv,g6];simp
    rw[e,h2];exact .fin trivial (allQuit_of ho hv)
   ·obtain⟨m₂,hk⟩:=hne hv
    refine a9 Z (.refl C.Wg w) a8 bk_r (tag':=.w2 (Vc C.n D)) (.w2 hk) ?_ (.inl (q8m (by simp only[phi];omega) e7));have e:st=((Vc C.n D+pend (.w2 (Vc C.n D)):Nat):Int)*KK:=by rw[h1,g6];rfl
    rw[e,h2];exact .opn trivial ho (λvs e=>by cases e;omega)
  ·obtain⟨a',w',es,Z,hD,a7⟩:=hstep w (.refl w)
   rcases hf with hf | hf
   ·rcases d5 with rfl | rfl
    ·subst hj;subst hd
     exact jQ Z hD (.w1 a7) (by omega)
    ·subst hj;subst hd
     obtain⟨rfl,hes⟩:=hD;have b8:=ZV hes 1;obtain⟨c8,hsz,b7⟩:=h.ef H 0 (Aside.refl C.Wg w');obtain⟨gs',hr,b0⟩:=h.step0 H sl Z c8 hsz (λe he=>⟨(vI H h (hes e he)).1,(vI H h (hes e he)).2.2.2⟩) (tag':=.w1) (by rw[b8];exact .w1 a7) a8 b7 (a6.reopen trivial trivial rfl (by simp));refine⟨gs',w',_,hr,IH _ _ _ _ _ _ _ _ _ _ _ _ _ _ b0 ?_⟩;unfold Cfg.big Cfg.low;refine q06 ?_;have:=qen (show phi C.n (Vc C.n D) .w1<phi C.n (Vc C.n D) .anch by simp only[phi];omega) (show 0<C.nu C.l0+8 by omega);omega
   ·subst hf
    subst hj;subst hd;obtain⟨rfl,hes⟩:=hD;have b8:=ZV hes 1;obtain⟨c8,hsz,b7⟩:=h.ef H 0 (Aside.refl C.Wg w');obtain⟨gs',hr,b0⟩:=h.step0 H sl Z c8 hsz (λe he=>⟨(vI H h (hes e he)).1,(vI H h (hes e he)).2.2.2⟩) (tag':=.w1) (by rw[b8];exact .w1 a7) a8 b7 (a6.reopen trivial trivial rfl (by simp));refine⟨gs',w',_,hr,IH _ _ _ _ _ _ _ _ _ _ _ _ _ _ b0 ?_⟩;unfold Cfg.big Cfg.low;refine q06 ?_;have:=qen (show phi C.n (Vc C.n D) .w1<phi C.n (Vc C.n D) .anch by simp only[phi];omega) (show 0<C.nu C.l0+8 by omega);omega
 cases hcs with
 | skd hr hh =>
  rcases qdh hh with hstop | ⟨m',rfl,hstep⟩
  ·obtain⟨_,a',Z,m₂,hk⟩:=hstop w (.refl w)
   exact a9 Z (.refl C.Wg w) a8 q0p (.sa1 hr hk) (a6.reopen trivial trivial rfl (by simp)) (.inl (by simp only[phi];omega))
  ·obtain⟨a',w',es,Z,hD,a7⟩:=hstep w (.refl w)
   exact jQ Z hD (.skd hr a7) (by omega)
 | sa1 hr hh =>
  rename_i r
  rcases qdh hh with hstop | ⟨m',rfl,hstep⟩
  ·obtain⟨_,c3⟩:=hstop w (.refl w)
   obtain⟨ho,rfl,rfl,_⟩:=a6.open_inv trivial;obtain⟨a',Z,m₂,hk⟩:=c3 (Vc (C.n - (r+1)) D) (by omega) (by simpa[pend] using a8);refine a9 Z (qe6 w (stA C.Wg) _) (a8.setSt _) bk_rw' (.ske hr hk) ?_ (.inl (by simp only[phi];omega));have e:(((Vc (C.n - (r+1)) D:Nat):Int)+1)*KK=((Vc (C.n - (r+1)) D+pend (.sp r 3):Nat):Int)*KK:=by simp[pend]
   rw[e];exact .opn trivial ho (by simp)
  ·obtain⟨a',w',es,Z,hD,a7⟩:=hstep w (.refl w)
   exact jQ Z hD (.sa1 hr a7) (by omega)
 | ske hr hh =>
  rcases qdh hh with hstop | ⟨m',rfl,hstep⟩
  ·obtain⟨_,a',Z,m₂,hk⟩:=hstop w (.refl w)
   exact a9 Z (.refl C.Wg w) a8 q40 (.sgo hr hk) (a6.reopen trivial trivial rfl (by simp)) (.inl (by simp only[phi];omega))
  ·obtain⟨a',w',es,Z,hD,a7⟩:=hstep w (.refl w)
   exact jQ Z hD (.ske hr a7) (by omega)
 | sgo hr hh =>
  rename_i r
  rcases qdh hh with hstop | ⟨m',rfl,hstep⟩
  ·obtain⟨_,a',child,hsp,k8,d8⟩:=hstop w (.refl w)
   have e6:=k8 h.ph ⟨_,h.data⟩;have eV:Vc (C.n - r) (upd D (C.n - (r+1)) ⟨7,0,0⟩)=Vc (C.n - (r+1)) D+1:=by
    rw[show C.n - r=C.n - (r+1)+1 by omega];simp only[Vc,qem,qd2];rw[sumTo_upd_out D _ cnt (q5m _)];rfl
   have eS:Ssum (C.n - r) (upd D (C.n - (r+1)) ⟨7,0,0⟩)=Ssum (C.n - (r+1)) D+7:=by
    rw[show C.n - r=C.n - (r+1)+1 by omega];simp only[Ssum,qem,qd2];rw[sumTo_upd_out D _ WD.stage (q5m _)]
   have eN:C.Nsum (C.n - r) (upd D (C.n - (r+1)) ⟨7,0,0⟩) (upd ls (C.n - (r+1)) C.l0)=C.Nsum (C.n - (r+1)) D ls+C.nu C.l0:=by
    rw[show C.n - r=C.n - (r+1)+1 by omega];simp only[Cfg.Nsum,qem,qd2];rw[sumTo_congr (g:=λi=>C.nuD (D i,ls i)) λi hi=>by rw[qdA _ _ (by omega),qdA _ _ (by omega)]];simp[Cfg.nuD]
   have g9:∀{tag':CTag} {r':Rk} {f':Nat},(phi C.n (Vc (C.n - (r+1)) D+1) tag'+1<=phi C.n (Vc (C.n - (r+1)) D) (.sp r 2)) ->
     LtM C.n (C.big (C.n - r) (upd D (C.n - (r+1)) ⟨7,0,0⟩) (upd ls (C.n - (r+1)) C.l0) γ tag',upd rk (C.n - (r+1)) r',C.low (C.n - r) (upd D (C.n - (r+1)) ⟨7,0,0⟩) fu f') (C.big (C.n - (r+1)) D ls γ (.sp r 2),rk,C.low (C.n - (r+1)) D fu f0):=by
    intro tag' r' f' l4;refine q06 ?_;unfold Cfg.big;rw[eV,eS,eN];have:=Nat.mul_le_mul_left (C.nu C.l0+8) l4;rw[Nat.mul_add,Nat.mul_one] at this;omega
   cases r with
   | zero =>
    obtain⟨m₃,hk⟩:=d8;obtain⟨gs',ops,r',b6,b0⟩:=h.spawn H hr sl hsp e6 (tag':=.kd) (f':=m₃) (by rw[Nat.sub_zero];exact .kd hk) trivial rfl (by simp);exact⟨gs',w,ops,b6,IH _ _ _ _ _ _ _ _ _ _ _ _ _ _ b0 (g9 (by simp only[phi];omega))⟩
   | succ r2 =>
    obtain⟨m₃,hk⟩:=d8;obtain⟨gs',ops,r',b6,b0⟩:=h.spawn H hr sl hsp e6 (tag':=.sp r2 5) (f':=m₃) (.skd (by omega) hk) trivial rfl (by simp);exact⟨gs',w,ops,b6,IH _ _ _ _ _ _ _ _ _ _ _ _ _ _ b0 (g9 (by simp only[phi];omega))⟩
  ·obtain⟨a',w',es,Z,hD,a7⟩:=hstep w (.refl w)
   exact jQ Z hD (.sgo hr a7) (by omega)
 | kd hh =>
  rcases qdh hh with hstop | ⟨m',rfl,hstep⟩
  ·obtain⟨_,a',Z,m₂,hk⟩:=hstop w (.refl w)
   exact a9 Z (.refl C.Wg w) a8 q0p (.anch hk) (a6.reopen trivial trivial rfl (by simp)) (.inl (by simp only[phi];omega))
  ·obtain⟨a',w',es,Z,hD,a7⟩:=hstep w (.refl w)
   exact jQ Z hD (.kd a7) (by omega)
 | anch hh =>
  rcases qdh hh with hstop | ⟨m',rfl,hstep⟩
  ·obtain⟨m₂,hk⟩:=H.hAn a w (hstop w (.refl w))
   exact c9 (.inr rfl) rfl rfl (.inr rfl) hk
  ·obtain⟨a',w',es,Z,hD,a7⟩:=hstep w (.refl w)
   exact jQ Z hD (.anch a7) (by omega)
 | w1 hh=>exact c9 (.inl rfl) rfl rfl (.inl rfl) hh
 | w2 hh =>
  rename_i vs
  rcases qdh hh with hstop | ⟨m',rfl,hstep⟩
  ·obtain⟨_,c3⟩:=hstop w (.refl w)
   obtain⟨ho,rfl,rfl,k9⟩:=a6.open_inv trivial;obtain⟨hle,h1⟩:=k9 vs rfl;obtain⟨k5,g7⟩:=c3 (Vc C.n D) (by omega) (by simpa[pend] using a8);by_cases e:Vc C.n D=vs
   ·obtain⟨a',Z,m₂,hk⟩:=k5 e
    exact a9 Z (qe6 w (stA C.Wg) _) (a8.setSt _) bk_rw' (.w3 hk) (.reg trivial ho (by omega)) (.inl (by simp only[phi];omega))
   ·obtain⟨a',Z,m₂,hk⟩:=g7 e
    exact a9 Z (.refl C.Wg w) a8 bk_r (.anch hk) (a6.reopen trivial trivial rfl (by simp)) (.inl (by simp only[phi];omega))
  ·obtain⟨a',w',es,Z,hD,a7⟩:=hstep w (.refl w)
   exact jQ Z hD (.w2 a7) (by omega)
 | w3 hh =>
  rcases qdh hh with hstop | ⟨m',rfl,hstep⟩
  ·obtain⟨_,l9,e8,htake⟩:=hstop w (.refl w)
   cases a6 with
   | opn h1 _ _=>exact h1.elim
   | reg h1 h2 h3=>exact a9 (e8 ⟨_,a8⟩) (.refl C.Wg w) a8 (by simp) (.blk hstop) (.reg trivial h2 h3) (.inr ⟨rfl,by omega⟩)
   | last L h1 h2 h3 h4=>exact a9 (e8 ⟨_,a8⟩) (.refl C.Wg w) a8 (by simp) (.blk hstop) (.last L trivial h2 h3 h4) (.inr ⟨rfl,by omega⟩)
   | sema h2 =>
    obtain⟨a',Z,m₂,hk⟩:=htake a8;exact a9 Z (qe6 w (smA C.Wg) _) (a8.setSm 0) bk_sem' (.w4 hk) (.fin trivial h2) (.inl (by simp only[phi];omega))
   | fin h1 _=>exact h1.elim
  ·obtain⟨a',w',es,Z,hD,a7⟩:=hstep w (.refl w)
   exact jQ Z hD (.w3 a7) (by omega)
 | blk hh=>simp at k0
 | w4 hh =>
  rcases qdh hh with hstop | ⟨m',rfl,hstep⟩
  ·obtain⟨_,hx⟩:=hstop w (.refl w)
   obtain⟨hq,rfl,rfl⟩:=a6.fin_inv trivial;obtain⟨a',Z,m₂,hk⟩:=hx a8;exact a9 Z (.refl C.Wg w) a8 bk_r (.ke hk) (.fin trivial hq) (.inl (by simp only[phi];omega))
  ·obtain⟨a',w',es,Z,hD,a7⟩:=hstep w (.refl w)
   exact jQ Z hD (.w4 a7) (by omega)
 | ke hh =>
  rcases qdh hh with hstop | ⟨m',rfl,hstep⟩
  ·obtain⟨_,a',Z,m₂,hk⟩:=hstop w (.refl w)
   obtain⟨hq,rfl,rfl⟩:=a6.fin_inv trivial;exact a9 Z (.refl C.Wg w) a8 q40 (.acq hk) (.fin trivial hq) (.inl (by simp only[phi];omega))
  ·obtain⟨a',w',es,Z,hD,a7⟩:=hstep w (.refl w)
   exact jQ Z hD (.ke a7) (by omega)
 | acq hh =>
  rcases qdh hh with hstop | ⟨m',rfl,hstep⟩
  ·obtain⟨_,a',Z,k7⟩:=hstop w (.refl w)
   obtain⟨hq,rfl,rfl⟩:=a6.fin_inv trivial;have b6:=qeg (P:=C.P) (sl:=sl) (i:=0) h.main Z;refine⟨_,_,_,b6,?_⟩;have l5:∀i,i<C.n->C.fin (ls i):=λi hi=>by
    obtain⟨g,_,hs⟩:=h.wk i hi;exact hs.fin_of (by rw[hq i hi];omega)
   have hE:=H.hFin γ ls a' w k7 h.jj l5 h.data h.ph;have hlo:=H.hlo;have hsz:((gs.map (woken C.P a a' w)).setIfInBounds 0 a').size=gs.size:=by simp
   have hlt:0<gs.size:=by rw[h.size];omega
   have e1:qcg 0 a.frame.fn a.frame.place #[qcp (.acquire (stA C.Wg))]=#[{ g:=0,fn:=a.frame.fn,pos:=a.frame.place,act:=.mark (.acquire (stA C.Wg)) }]:=by rw[qea];simp[ofEvent_mk]
   rw[e1];generalize hy:({ g:=0,fn:=a.frame.fn,pos:=a.frame.place,act:=.mark (.acquire (stA C.Wg)) }:MemOp)=y;have e4:y.g=0:=by rw[<- hy]
   have d6:y.act=.mark (.acquire (stA C.Wg)):=by rw[<- hy]
   have hops:∀op∈#[y],op.g=0:=λop hop=>by simp at hop;rw[hop];exact e4
   have e9:(t++#[y])[t.size]?=some y:=by simp
   have b8:∀g,Deaf (t++#[y]) g=Deaf t g:=λg=>Deaf_still t g _ λop hop=>by simp at hop;rw[hop,d6];simp
   have g5:Tr cl gs.size w.heap.size (t++#[y]):=h.tr.step hlt λop hop=>by
    simp at hop;rw[hop];exact⟨e4,λx hx=>by rw[d6] at hx;cases hx⟩
   have k6:∀m,Hd m (t++#[y]):=λm=>by
    refine Hd.join (lo:=C.lo) (q:=t.size) (h.hd.app λop hop=>.inl (hops op hop)) (λg hg hne ⟨i,hi⟩=>?_) ((h.nor _).app λop hop hm=>by simp at hop;rw[hop,d6] at hm;cases hm) (by rw[act?_of e9,d6]) (by rw[q0e e9,e4])
     ⟨0,by rw[q0e e9,e4],by rw[deaf_old (q5m _)];exact h.deaf0⟩ m
    obtain⟨op,ho,rfl⟩:=qdF.1 hi;have b9:=g5.gs i op ho;rw[h.size] at b9;obtain⟨r,hr⟩:=h.rel (op.g - C.lo) (by omega) (by rw[hq _ (by omega)];omega);rw[show C.lo+(op.g - C.lo)=op.g by omega] at hr;exact⟨r,hr.appOther hops (by omega),lt_of_act? hr.act⟩
   refine hE _ sl _ (λi=>if i<C.lo then fu i else(D (i - C.lo)).fuel) ⟨qdH _ _ _ hlt,λi h1 h2=>?_,?_,λb hb=>?_,?_,k6 _,λad=>?_⟩
   ·rw[hsz] at h2
    by_cases hl:i<C.lo
    ·obtain⟨x,hx,d7⟩:=h.lv i h1 hl
     refine⟨x,by rw[qdq _ _ _ _ (by omega),hx,qbt,qeb d7],?_⟩;rw[if_pos hl,b8];exact d7
    ·have b9:i - C.lo<C.n:=by rw[h.size] at h2;omega
     obtain⟨x,hx,hxs⟩:=h.wk (i - C.lo) b9;have h9:=h.wd (i - C.lo) b9;rw[show C.lo+(i - C.lo)=i by omega] at hx h9;have d7:QuitsD C.P (D (i - C.lo)).fuel (D (i - C.lo)).deaf x:=by
      have h1:=hq _ b9;generalize D (i - C.lo)=dd at *
      obtain⟨s1,f1,d1⟩:=dd;dsimp only at *
      subst h1;cases hxs with
      | quit _ h=>exact h
     refine⟨x,by rw[qdq _ _ _ _ (by omega),hx,qbt,qeb d7],?_⟩;rw[if_neg hl,b8,h9];exact d7
   ·rw[hsz]
    refine g5.recl (λb hb=>?_);by_cases hs:cl b=.sync
    ·left
     rw[hs];have g8:b<C.W1.heap.size:=Nat.lt_of_not_le λhge=>h.cln b hge hs;unfold flat;rw[<- h.cla b g8,hs]
    ·right;right;left
     refine⟨hs,?_,λi x hx l6=>g5.known0 (k6 gs.size) (q5m _) hx l6 hs⟩;unfold flat;by_cases g8:b<C.W1.heap.size
     ·rw[<- h.cla b g8]
      cases hc:cl b<;>first | rfl | exact absurd hc hs
     ·cases hc:C.clA b with
      | sync=>rw[H.cla0 b (by omega)] at hc;cases hc
      | _=>rfl
   ·unfold flat
    rw[H.cla0 b (q87 h.ph.size hb)]
   ·rw[b8];exact h.deaf0
   ·exact(h.nor ad).app λop hop hm=>by simp at hop;rw[hop,d6] at hm;cases hm
  ·obtain⟨a',w',es,Z,hD,a7⟩:=hstep w (.refl w)
   exact jQ Z hD (.acq a7) (by omega)
theorem YQ(H:C.Ok)(h:Inv C gs w t j D ls Ss rk γ tag f0 d0 a st sm cl fu)(sl:Option (Nat × Nat)):Ends C.P C.Post (qdn gs w sl) t:=by
 have key:∀(μ:Me) (gs:Array q5r) (w:q3g) (t:Trace) (j:Nat) (D:Nat->WD) (ls:Nat->Λ) (Ss:Nat->Bs) (rk:Nat->Rk) (γ:Γ) (tag:CTag) (f0 d0:Nat) (a:q5r) (st sm:Int) (cl:Nat->Cl) (fu:Nat->Nat) (sl:Option (Nat × Nat)),
   Inv C gs w t j D ls Ss rk γ tag f0 d0 a st sm cl fu->μ=(C.big j D ls γ tag,rk,C.low j D fu f0)->Ends C.P C.Post (qdn gs w sl) t:=by
  intro μ;induction μ using(ltM_wf C.n).induction with
  | _ μ ih =>
   intro gs w t j D ls Ss rk γ tag f0 d0 a st sm cl fu sl h hμ;subst hμ;obtain⟨i,g,d,a6,hg,a7,hstep⟩:=crowd_pick (P:=C.P) (w:=w) (sl:=sl) (h.awake H) (h.someone H);have h':=h.at H d;have hlt:=(q45.1 hg).1;rw[h.size] at hlt;by_cases e0:i=0
   ·subst e0
    rw[h.main] at hg;cases hg;obtain⟨gs',w',ops,h1,h2⟩:=h'.starter H a7 a6 λgs' w' t' j' D' ls' Ss' rk' tag' f' d' a' st' sm' Z hlt=>ih _ hlt gs' w' t' j' D' ls' Ss' rk' γ tag' f' d' a' st' sm' cl fu a6 Z rfl;exact Ends.next (hstep.trans h1) h2
   ·rcases qbF i C.lo with hl | hl
    ·obtain⟨gs',ops,q,tag',f',a',h1,hq,hf,a8,Z⟩:=h'.leave H a6 (by omega) hl hg a7
     refine Ends.next (hstep.trans h1) (ih _ ?_ _ _ _ _ _ _ _ _ _ _ _ _ _ _ _ _ _ a6 Z rfl)
     have e:=phi_retag C.n (Vc j D) a8;unfold Cfg.big Cfg.low;rw[e];have:=q0A hl hq;exact q6b rfl (by
      have e2:(qem C.lo λa=>upd fu i q a)=qem C.lo (upd fu i q):=rfl;omega)
    ·have hi:i - C.lo<j:=by omega
     have ei:C.lo+(i - C.lo)=i:=by omega
     rw[<- ei] at hg hstep;obtain⟨gs',w',ops,h1,h2⟩:=h'.worker H hi hg a7 a6 λgs' w' t' D' ls' Ss' rk' γ' tag' f' a' st' sm' cl' Z hlt=>ih _ hlt gs' w' t' j D' ls' Ss' rk' γ' tag' f' d0 a' st' sm' cl' fu a6 Z rfl;exact Ends.next (hstep.trans h1) h2
 exact key _ gs w t j D ls Ss rk γ tag f0 d0 a st sm cl fu sl h rfl
end
theorem E.crowd{Γ Λ:Type}{P:q8b}{Post:q58->q3g->Prop}{cl:Nat->Cl}{a:q5r}{w:q3g}
  (hs:∀lo,1<=lo->∃C:Cfg Γ Λ,C.P=P/\C.Post=Post/\C.lo=lo/\C.W1=w/\C.Ok/\(∀b,b<w.heap.size->C.clA b=cl b\/(cl b=.mine 0/\C.clA b=.ro lo))/\C.Spawns C.n a w/\qew C.ty C.Wg w 0 0/\∃γ ls,C.DataAt γ w/\C.J γ 0 ls):E P Post cl a w:=by
 intro gs sl t fu hA;have a9:=(q45.1 hA.main).1;obtain⟨C,rfl,rfl,hlo,hW,H,hcl,hsp,a7,γ,ls,a6,hJ⟩:=hs gs.size (by omega);have a8:Tr C.clA gs.size w.heap.size t:=hA.tr.recl λb hb=>by
  rcases hcl b hb with e | ⟨e1,e2⟩
  ·exact .inl e
  ·exact .inr (.inl ⟨e1,e2⟩)
 have Z:∀tag,isOpen tag->pend tag=0->(∀vs,tag≠.w2 vs)->qeh 0 (λ_=>(⟨0,0,0⟩:WD)) tag 0 0:=λtag h1 h2 h3=>by
  have:=Go.ConcN.Mode.opn (j:=0) (D:=λ_=>(⟨0,0,0⟩:WD)) h1 (λi hi=>by omega) (λvs e=>absurd e (h3 vs));simpa[Vc,qem,h2] using this
 have base:∀tag f0,C.CS tag 0 f0 0 a w->isOpen tag->pend tag=0->(∀vs,tag≠.w2 vs)->Inv C gs w t 0 (λ_=>⟨0,0,0⟩) ls (λ_ _=>False) (λ_=>.leaf) γ tag f0 0 a 0 0 C.clA fu:=λtag f0 hcs h1 h2 h3 =>
  ⟨by rw[hlo,Nat.add_zero],hA.main,hcs,λi h1 h2=>hA.lv i h1 (by omega),λi hi=>by omega,λi hi=>by omega,λi hi=>by omega,a8,λi hi=>by omega,λb hb=>H.cla0 b (by rw[hW];exact hb),λb _=>rfl,λb hb=>by rw[H.cla0 b hb];simp,
   hA.nor,hA.d0,by rw[hlo];exact hA.hd,a6,hJ,⟨λb _=>by rw[hW],by rw[hW];exact q5m _,by rw[hW],by rw[hW]⟩,a7,Z tag h1 h2 h3⟩
 cases hn:C.n with
 | zero =>
  rw[hn] at hsp;obtain⟨m,hk⟩:=hsp;have hc:C.CS .kd C.n m 0 a w:=.kd hk;rw[hn] at hc;exact YQ H (base .kd m hc trivial rfl (by simp)) sl
 | succ r =>
  rw[hn] at hsp;obtain⟨m,hk⟩:=hsp;have hc:C.CS (.sp r 5) (C.n - (r+1)) m 0 a w:=.skd (by omega) hk;rw[hn,Nat.sub_self] at hc;exact YQ H (base (.sp r 5) m hc trivial rfl (by simp)) sl
end Go.Co
end
section
namespace Go.Co
open Go.Conc Go.ConcN Go.Sim
def Only(R:Act->q3g->Prop):Exit->Act->q3g->Prop
 | .normal,a,w=>R a w
 | _,_,_=>False
theorem Yi{R:Act->q3g->Prop}:¬ LetsOut (Only R):=λ⟨_,_,h⟩=>h
theorem q62{Q:q8b}{ops:Array qbz}{R:Act->q3g->Prop}(rest:List Nat)(l:List Nat):∀(a:Act) (w:q3g),wpOps Q ops (Only R) l a w->∀(b:q8c) (k:List qdy) (cs:List q8c),
  ∃a' w',R a' w'/\Steps Q (lone (b.at a (.inRegion ops (l++rest)::k)) cs w) (lone (b.at a' (.inRegion ops rest::k)) cs w'):=by
 induction l with
 | nil=>exact λa w h b k cs=>⟨a,w,h,.refl _ _⟩
 | cons i l ih =>
  intro a w h b k cs;simp only[wpOps] at h;cases ho:ops[i]? with
  | none =>
   simp only[ho] at h;obtain⟨a',w',hq,hst⟩:=ih a w h b k cs;have hs:=step_op_skip (P:=Q) (b:=b) (a:=a) (k:=k) (cs:=cs) (w:=w) (ops:=ops) (i:=i) (rest:=l++rest) (by simp[ho]);simp only[ho,Option.bind_none,Act.put] at hs;exact⟨a',w',hq,.head hs hst⟩
  | some o =>
   simp only[ho] at h;by_cases hw:qb0 o (yielded ops a.tmps)=true
   ·simp only[hw,if_true] at h
    rcases h with h | ⟨_,hout⟩
    case inr=>exact absurd hout Yi
    simp only[Oper.wp,Oper.upon] at h;have hg:=stepG_op (P:=Q) (b:=b) (k:=k) (cs:=cs) (w:=w) (rest:=l++rest) ho hw;have a8:∀v,(b.at a (.inRegion ops (i::(l++rest))::k)).finish v=b.at (a.put o.dst v) (.inRegion ops (l++rest)::k):=by
     intro v;rw[qcr,ho];rfl
    split at h
    ·rename_i v w' hr
     obtain⟨a',a7,hq,hst⟩:=ih _ _ h b k cs;exact⟨a',a7,hq,.head (qez (by rw[q9y,hg,<- a8];simp[qbn,hr])) hst⟩
    ·rename_i w' hr
     obtain⟨a',a7,hq,hst⟩:=ih _ _ h b k cs;exact⟨a',a7,hq,.head (qez (by rw[q9y,hg,<- a8];simp[qbn,hr])) hst⟩
    ·rename_i d w' hr
     obtain⟨a',a7,hq,hst⟩:=ih _ _ h b k cs;refine⟨a',a7,hq,.head (qez ?_) hst⟩;have:({ b.at a (.inRegion ops (i::(l++rest))::k) with defers:=d::a.defers }:q8c).finish q5s =
       b.at ({ a with defers:=d::a.defers }.put o.dst q5s) (.inRegion ops (l++rest)::k):=by
      have:=qcr b { a with defers:=d::a.defers } ops i (l++rest) k q5s;rw[ho] at this;exact this
     rw[q9y,hg];simp only[qbn,qad,hr,GStep.bare_after];exact congrArg (λfr=>GStep.go { frame:=fr,callers:=cs,status:=.running,dying:=none } w') this
    ·rename_i f args w' hr
     obtain⟨e,a7,fr,hR,Z,_,a9⟩:=h (b.at a (.inRegion ops (i::(l++rest))::k)::cs);have a6:step Q (lone (b.at a (.inRegion ops (i::(l++rest))::k)) cs w) =
       .next (lone (qan Q f args .normal) (b.at a (.inRegion ops (i::(l++rest))::k)::cs) w') :=
      qez (by rw[hg];simp[qbn,hr,Frame.at])
     cases e with
     | returned v =>
      obtain⟨a',w₃,hq,hst⟩:=ih _ _ hR b k cs;refine⟨a',w₃,hq,.head a6 (Steps.trans Z (.head ?_ hst))⟩;rw[<- a8];exact step_leave_returned a9
     | panicked chain=>exact hR.elim
     | outgrown=>exact absurd hR Yi
    ·rename_i row args w' hr
     obtain⟨v,a7,hR,Z⟩:=h (b.at a (.inRegion ops (i::(l++rest))::k)) cs;have a6:step Q (lone (b.at a (.inRegion ops (i::(l++rest))::k)) cs w) =
       .next (lone (Frame.ofRow Q row args .normal) (b.at a (.inRegion ops (i::(l++rest))::k)::cs) w') :=
      qez (by rw[hg];simp[qbn,hr,Frame.at])
     obtain⟨a',w₃,hq,hst⟩:=ih _ _ hR b k cs;refine⟨a',w₃,hq,.head a6 (Steps.trans ?_ hst)⟩;rw[<- a8];exact Z
    ·exact h.elim
    ·exact h.elim
   ·simp only[hw,if_false,qa5] at h
    obtain⟨a',w',hq,hst⟩:=ih _ _ h b k cs;have hs:=step_op_skip (P:=Q) (b:=b) (a:=a) (k:=k) (cs:=cs) (w:=w) (ops:=ops) (i:=i) (rest:=l++rest) (by simp[ho];simpa using hw);simp only[ho,Option.bind_some] at hs;exact⟨a',w',hq,.head hs hst⟩
theorem q7b{Q:q8b}{o:qbz}{a:Act}{w:q3g}{K K':Act->q3g->Prop}{R:Exit->Act->q3g->Prop}(hk:∀a w,K a w->K' a w)(h:o.wp Q a w K R):o.wp Q a w K' R:=by
 unfold Oper.wp at h ⊢;unfold Oper.upon at h ⊢;generalize (execOp a.eval o).run Q w=r at h ⊢;cases r with
 | ok x w' =>
  cases x with
  | value v=>exact hk _ _ h
  | skip=>exact hk _ _ h
  | defer d=>exact hk _ _ h
  | enter f args=>exact Calls.mono h λe w q=>by cases e<;>first | exact hk _ _ q | exact q
  | row r args=>exact Rows.mono h λv w q=>hk _ _ q
  | _=>exact h.elim
 | halt x w'=>cases x<;>first | exact h | exact h.elim
theorem Qp{Q:q8b}{ops:Array qbz}{R:Exit->Act->q3g->Prop}:∀(l:List Nat) (os:List qbz) (a:Act) (w:q3g),l.map (λi=>ops[i]?)=os.map some->wpList Q ops R os a w->wpOps Q ops R l a w
 | [],[],a,w,_,h=>h
 | [],_::_,_,_,e,_=>by simp at e
 | _::_,[],_,_,e,_=>by simp at e
 | i::l,o::os,a,w,e,h=>by
  simp only[List.map_cons,qd1] at e;simp only[wpOps,e.1];simp only[wpList] at h;have key:∀a w,wpList Q ops R os a w->wpOps Q ops R l a w:=λa w=>Qp l os a w e.2;split
  ·rename_i hw
   rw[if_pos hw] at h;exact h.imp (λh=>q7b key h) id
  ·rename_i hw
   rw[if_neg hw] at h;exact key _ _ h
section
variable[JunkSet]{Q P:q8b}{f:qbe}{Post:q58->q3g->Prop}{W:q3g}
variable{b:q8c}{a:Act}{k:List qdy}{cs:List q8c}{wq:q3g}
theorem EL.one(D:Two Q P){fr Z:q8c}{a6:List q8c}{fn:qbe}(hE:EL Q P f Post W (G Z a6) wq)(h:∀w,step Q (lone fr cs w)=.next (lone Z a6 w))(hb1:Bot f a6)(hn:Z.fn=fn)(hs:Q.funcs[fn]?=P.funcs[fn]?):EL Q P f Post W (G fr cs) wq :=
 EL.of_runs D λT=>⟨Z,a6,wq.tp T,.one (h _),hb1,by rw[hn];exact hs,hE.tape T⟩
section
variable(D:Two Q P)(hb:Bot f cs)(hs:Q.funcs[b.fn]?=P.funcs[b.fn]?)
include D hb hs
theorem EL.seq{x y:qcm}(h:EL Q P f Post W (G (b.at a (.code x::.code y::k)) cs) wq):EL Q P f Post W (G (b.at a (.code (.seq x y)::k)) cs) wq:=EL.one D h (λ_=>step_seq) hb (fn:=b.fn) rfl hs
theorem EL.skip(h:EL Q P f Post W (G (b.at a k) cs) wq):EL Q P f Post W (G (b.at a (.code .skip::k)) cs) wq:=EL.one D h (λ_=>step_skip) hb (fn:=b.fn) rfl hs
theorem EL.cond{c:qaH}{x y:qcm}(t:Bool)(hc:a.eval c=.bool t)(h:EL Q P f Post W (G (b.at a (.code (if t then x else y)::k)) cs) wq):EL Q P f Post W (G (b.at a (.code (.cond c x y)::k)) cs) wq:=EL.one D h (λ_=>step_cond hc) hb (fn:=b.fn) rfl hs
theorem EL.block{id:Nat}{c:qcm}(h:EL Q P f Post W (G (b.at a (.code c::.inBlock id::k)) cs) wq):EL Q P f Post W (G (b.at a (.code (.block id c)::k)) cs) wq:=EL.one D h (λ_=>step_block) hb (fn:=b.fn) rfl hs
theorem EL.inBlock{id:Nat}(h:EL Q P f Post W (G (b.at a k) cs) wq):EL Q P f Post W (G (b.at a (.inBlock id::k)) cs) wq:=EL.one D h (λ_=>step_inBlock) hb (fn:=b.fn) rfl hs
theorem EL.loop{c:qcm}(h:EL Q P f Post W (G (b.at a (.code c::.inLoop c::k)) cs) wq):EL Q P f Post W (G (b.at a (.code (.loop c)::k)) cs) wq:=EL.one D h (λ_=>step_loop) hb (fn:=b.fn) rfl hs
theorem EL.inLoop{c:qcm}(h:EL Q P f Post W (G (b.at a (.code c::.inLoop c::k)) cs) wq):EL Q P f Post W (G (b.at a (.inLoop c::k)) cs) wq:=EL.one D h (λ_=>step_inLoop) hb (fn:=b.fn) rfl hs
theorem EL.exit{id:Nat}{k':List qdy}(he:exitTo id k=some k')(h:EL Q P f Post W (G (b.at a k') cs) wq):EL Q P f Post W (G (b.at a (.code (.exit id)::k)) cs) wq:=EL.one D h (λ_=>step_exit he) hb (fn:=b.fn) rfl hs
theorem EL.retS(h:EL Q P f Post W (G { b.at a (.code .ret::k) with mode:=.returning } cs) wq):EL Q P f Post W (G (b.at a (.code .ret::k)) cs) wq:=EL.one D h (λ_=>step_ret) hb (fn:=b.fn) rfl hs
theorem EL.region{id:Nat}{ops:Array qbz}(h:EL Q P f Post W (G (b.at a (.inRegion ops (qa4 ops.size)::k)) cs) wq):EL Q P f Post W (G (b.at a (.code (.region id ops false)::k)) cs) wq:=EL.one D h (λ_=>step_region) hb (fn:=b.fn) rfl hs
theorem EL.region_end{ops:Array qbz}(h:EL Q P f Post W (G (b.at a k) cs) wq):EL Q P f Post W (G (b.at a (.inRegion ops []::k)) cs) wq:=EL.one D h (λ_=>step_region_end) hb (fn:=b.fn) rfl hs
theorem EL.list{ops:Array qbz}(l:List Nat)(os:List qbz){rest:List Nat}(hl:l.map (λi=>ops[i]?)=os.map some)
  (h:∀T,wpList Q ops (Only λa' w'=>EL Q P f Post W (G (b.at a' (.inRegion ops rest::k)) cs) w') os a (wq.tp T)) :
  EL Q P f Post W (G (b.at a (.inRegion ops (l++rest)::k)) cs) wq :=
 EL.of_runs D λT=>by
  obtain⟨a',w',hE,hst⟩:=q62 rest l a (wq.tp T) (Qp l os a _ hl (h T)) b k cs;exact⟨_,cs,w',hst,hb,hs,hE⟩
theorem EL.enter{ops:Array qbz}{i:Nat}{rest:List Nat}{o:qbz}{fk:qbe}{args:Array q58}(ho:ops[i]?=some o)(hw:qb0 o (yielded ops a.tmps)=true)(Z:∀T,(execOp a.eval o).run Q (wq.tp T)=.ok (.enter fk args) (wq.tp T))
  (a6:Q.funcs[fk]?=P.funcs[fk]?) (h:EL Q P f Post W (G (qan Q fk args .normal) (b.at a (.inRegion ops (i::rest)::k)::cs)) wq):EL Q P f Post W (G (b.at a (.inRegion ops (i::rest)::k)) cs) wq :=
 EL.of_runs D λT=>by
  have hg:=stepG_op (P:=Q) (b:=b) (k:=k) (cs:=cs) (w:=wq.tp T) (rest:=rest) ho hw;exact⟨_,_,wq.tp T,.one (qez (by rw[hg];simp[qbn,Z,Frame.at])),hb.cons,a6,h.tape T⟩
end
theorem EL.back(D:Two Q P){fr c:q8c}{v:q58}(hb:Bot f cs)(hs:Q.funcs[c.fn]?=P.funcs[c.fn]?)(hl:∀T,fr.leaving Q (wq.tp T) (.returned v))(h:EL Q P f Post W (G (c.finish v) cs) wq):EL Q P f Post W (G fr (c::cs)) wq :=
 EL.of_runs D λT=>⟨_,cs,wq.tp T,.one (step_leave_returned (hl T)),hb,by
  have:(c.finish v).fn=c.fn:=by unfold Frame.finish;split<;>rfl
  rw[this];exact hs,h.tape T⟩
def EC(Q P:q8b)(f:qbe)(Post:q58->q3g->Prop)(W:q3g)(fk:qbe)(args:Array q58)(wq:q3g)(R:q58->q3g->Prop):Prop :=
 ∀c cs,Bot f cs->Q.funcs[c.fn]?=P.funcs[c.fn]?->(∀v u,R v u->EL Q P f Post W (G (c.finish v) cs) u)->EL Q P f Post W (G (qan Q fk args .normal) (c::cs)) wq
theorem EC.of_body(D:Two Q P){fk:qbe}{fn:Func}{c0:qcm}{args:Array q58}{R:q58->q3g->Prop}(hf:Q.funcs[fk]?=some fn)(hp:P.funcs[fk]?=some fn)(a6:fn.body=some c0)
  (h:∀cs,Bot f cs->(∀a todo u v,a.defers=[]->(∀T,(results fn a.tmps).run Q (u.tp T)=.ok v (u.tp T))->R v u->EL Q P f Post W (G { (base fk).at a todo with mode:=.returning } cs) u) ->
   EL Q P f Post W (G ((base fk).at ⟨args++qb4 (fn.ntmps - args.size) q5s,[]⟩ [.code c0]) cs) wq):EC Q P f Post W fk args wq R:=by
 intro c cs hb hs hk;have e:qan Q fk args .normal=(base fk).at ⟨args++qb4 (fn.ntmps - args.size) q5s,[]⟩ [.code c0]:=by
  simp[qan,hf,a6,Frame.at,base]
 rw[e];refine h (c::cs) hb.cons λa todo u v hd Z hR=>EL.back D hb hs (λT=>⟨rfl,hd,rfl,fn,hf,Z T⟩) (hk v u hR)
end
end Go.Co
end
section
namespace Go.Co
open Go.Conc Go.ConcN Go.Sim
section
variable[J:JunkSet]{Q P:q8b}{f:qbe}{Post:q58->q3g->Prop}{W:q3g}
structure AtK(Q P:q8b)[JunkSet](W:q3g)(ρ:Ren)(tq tp:Array q58)(c c':q8c)(pre pre':List q8c)(wq w:q3g)(cl:Nat->Cl):Prop where
 wr:WR Q W.heap.size ρ wq w
 ln:W.heap.size<=ρ.length
 gl:Gl P ρ
 tm:AsR ρ tq tp
 top:qu Q P ρ c c'
 rest:LsR (qu Q P ρ) pre pre'
 own:kJ cl ρ
 c0:∀b,w.heap.size<=b->cl b=.mine 0
 kp:yR W.heap.size W.heap.size W ρ w
 om:∀b,b<W.heap.size->cl b=.mine 0
theorem EL.enterK(D:Two Q P){b:q8c}{a:Act}{k:List qdy}{cs:List q8c}{wq:q3g}(hb:Bot f cs)(hs:Q.funcs[b.fn]?=P.funcs[b.fn]?){ops:Array qbz}{i:Nat}{rest:List Nat}{o:qbz}{fk:qbe}{fq fp:Func}{c0:qcm}{args:Array q58}(ho:ops[i]?=some o)(hw:qb0 o (yielded ops a.tmps)=true)
  (a8:∀T,(execOp a.eval o).run Q (wq.tp T)=.ok (.enter fk args) (wq.tp T)) (hne:Q.funcs[fk]?≠P.funcs[fk]?) (b8:Q.funcs[fk]?=some fq) (b9:P.funcs[fk]?=some fp) (hn:fq.ntmps=fp.ntmps) (c8:fp.body=some c0)
  (hK:∀ρ tp c' pre pre' w cl,cs=pre++[qj f]->AtK Q P W ρ (args++qb4 (fp.ntmps - args.size) q5s) tp (b.at a (.inRegion ops (i::rest)::k)) c' pre pre' wq w cl->E P Post cl (G ((base fk).at ⟨tp,[]⟩ [.code c0]) (c'::pre')) w) :
  EL Q P f Post W (G (b.at a (.inRegion ops (i::rest)::k)) cs) wq:=by
 intro ρ g' w cl h b6 hc hk hm
 let g1:q5r:=G (qan Q fk args .normal) (b.at a (.inRegion ops (i::rest)::k)::cs)
 let F:q5r->q3g->Prop:=λg _=>g.frame.fn=fk/\g.callers≠[]
 have a6:∀T,∃es,qb7 Q true (G (b.at a (.inRegion ops (i::rest)::k)) cs) (wq.tp T) true=.go g1 (wq.tp T) es:=λT=>by
  have hg:=stepG_op (P:=Q) (b:=b) (k:=k) (cs:=cs) (w:=wq.tp T) (rest:=rest) ho hw;refine⟨?_,?_⟩;rotate_left
  ·refine Eq.trans (b:=qbn Q true (b.at a (.inRegion ops (i::rest)::k)) cs none (execOp a.eval o) (wq.tp T)) hg ?_
   simp only[qbn,qad,a8];rfl
 have b0:¬ F (G (b.at a (.inRegion ops (i::rest)::k)) cs) wq:=λ⟨h1,_⟩=>hne (by have e:b.fn=fk:=h1;rw[<- e];exact hs);have ht:LT Q F (G (b.at a (.inRegion ops (i::rest)::k)) cs) wq:=.step b0 (λT=>by
   obtain⟨es,e⟩:=a6 T;exact⟨g1,_,es,e,rfl,rfl⟩) λT g2 u2 d6 e2=>by
   obtain⟨es,e⟩:=a6 T;rw[e] at e2;cases e2;exact .done ⟨rfl,by show(_::_:List q8c)≠[];simp⟩
 have Z:Sub Q P W.heap.size F f [] ρ (G (b.at a (.inRegion ops (i::rest)::k)) cs) wq g' w:=⟨h.ln,h.wr,h.gl,ht,h.stack,h.rel⟩
 refine E.step (kM Z) λd=>?_;obtain⟨σ,g2,c9,d5,w2,es,h1,h2,h3,h4,_,h6⟩:=(q0C Z d).stepK D.H D.hrf xG b0 true (λg u hg=>hg.2);obtain⟨_,T,es1,e1⟩:=h2;obtain⟨d7,e0⟩:=a6 T;dsimp only at e1;rw[e0] at e1;cases e1;have a9:kJ cl σ:=b6.step (w:=w.at d) h3 hc;have c3:∀b,w2.heap.size<=b->cl b=.mine 0:=λb hb=>hc b (q87 h3.size hb);have b7:yR W.heap.size W.heap.size W σ w2:=yR.step (w:=w.at d) (hk.at d) h3;rcases h6 with h6 | ⟨fk',kd,a1,a1',c,c',pre,pre',h6,hg1,rfl⟩
 ·exfalso
  obtain⟨gv,hg,_⟩:=h6.rel;obtain⟨gf,k1,k2⟩:=hg.frame.same;exact hne (by
   have e:g1.frame.fn=fk:=rfl;rw[e] at k1 k2;rw[k1,k2])
 ·refine⟨_,w2,es,h1,h3.size,λe he=>kQ a9 h6.wr (h4 e he),?_⟩
  have a7:qan Q fk args .normal=qan Q fk' a1 kd:=congrArg (·.frame) hg1;have hcs:b.at a (.inRegion ops (i::rest)::k)::cs=c::(pre++[qj f]):=congrArg (·.callers) hg1;have e1:fk=fk':=congrArg (·.fn) a7;subst e1;have e2:CallKind.normal=kd:=congrArg (·.kind) a7;subst e2;have e3:args++qb4 (fp.ntmps - args.size) q5s=a1++qb4 (fp.ntmps - a1.size) q5s:=by
   have:=congrArg (·.tmps) a7;simp only[qan,b8,qbt,q88,hn] at this;exact this
  simp only[qd1] at hcs;obtain⟨rfl,hcs⟩:=hcs;have e4:qan P fk a1' .normal=(base fk).at ⟨a1'++qb4 (fp.ntmps - a1'.size) q5s,[]⟩ [.code c0]:=enter_at _ b9 c8;have e5:a1'.size=a1.size:=h6.args.1.symm;have:=hK σ (a1'++qb4 (fp.ntmps - a1'.size) q5s) c' pre pre' w2 cl hcs ⟨⟨h6.wr.len,h6.wr.nodup,h6.wr.lt,h6.wr.obj,h6.wr.low,h6.wr.env,h6.wr.below,h6.wr.gar⟩,h6.len,h6.gl,?_,h6.top,h6.rest,a9,c3,b7,hm⟩
  ·rw[e4,List.append_nil]
   exact this
  ·rw[e3,e5]
   refine AsR.append h6.args ⟨rfl,λi x y hx hy=>?_⟩;rw[hx] at hy;cases hy;have:x=q5s:=by
    have:=q45.1 hx;obtain⟨hl,he⟩:=this;simp at he;exact he.symm
   rw[this];exact kh _
theorem EL.resume{σ ρ:Ren}{c c':q8c}{pre pre':List q8c}{wq w:q3g}{cl:Nat->Cl}{v v':q58}(hE:EL Q P f Post W (G (c.finish v) (pre++[qj f])) wq)(hin:Q.inits.idxOf? f=none)(hfs:∃g,Q.funcs[f]?=some g/\P.funcs[f]?=some g)(hle:Le ρ σ)(ht:qu Q P ρ c c')(hr:LsR (qu Q P ρ) pre pre')(hv:VR σ v v')(hw:WR Q W.heap.size σ wq w)(Z:W.heap.size<=σ.length)(hG:Gl P ρ)
  (ho:kJ cl σ) (hc:∀b,w.heap.size<=b->cl b=.mine 0) (hk:yR W.heap.size W.heap.size W σ w) (hm:∀b,b<W.heap.size->cl b=.mine 0):E P Post cl (G (c'.finish v') pre') w:=by
 refine hE σ (G (c'.finish v') pre') w cl ⟨hw,Z,hG.mono hle,⟨pre,rfl⟩,G (c'.finish v') (pre'++[qj f]),⟨(ht.mono hle).finish hv,?_,rfl,rfl,rfl,rfl⟩,?_⟩ ho hc hk hm
 ·have h1:LsR (qu Q P σ) pre pre':=hr.imp λ_ _ k=>k.mono hle
  have h2:qu Q P σ (qj f) (qj f):=q1v hin hfs;show LsR (qu Q P σ) (pre++[qj f]) (pre'++[qj f]);clear hE hr;induction h1 with
  | nil=>exact .cons h2 .nil
  | cons hx _ ih=>exact .cons hx ih
 ·simp[swap,G]
end
end Go.Co
end
section
namespace Go.Co
open Go.Conc Go.ConcN Go.Sim
def q6f(ops:Array qbz)(n:Nat):Bool :=
 (qa4 (n+1)).all (λj=>match ops[j]? with | some o=>o.after.all (λe=>!qb8 .any e || decide (e.on<j)) | none=>false) &&
 (qa4 n).all (λi=>(qa4 (n+1)).any λj=>decide (i<j) && match ops[j]? with | some o=>o.after.any (λe=>qb8 .any e && e.on == i) | none=>false)
section
variable{ops:Array qbz}{n:Nat}(hB:q6f ops n=true)(hn:ops.size=n+1)
def Closed(ops:Array qbz)(listed:Array Bool):Prop:=∀(i:Nat) (o:qbz),ops[i]?=some o->listed[i]?.getD false=true->∀e∈o.after,qb8 .any e=true->listed[e.on]?.getD false=true
include hB hn
theorem qb1{j:Nat}{o:qbz}(hj:ops[j]?=some o){e:Edge}(he:e∈o.after)(hb:qb8 .any e=true):e.on<j:=by
 unfold q6f at hB;simp only[q9b,qau,qcn] at hB;have:=hB.1 j (by have:=(q45.1 hj).1;omega);rw[hj] at this;simp only[qbu,qcy,qcE,decide_eq_true_eq] at this;rcases this e he with h | h
 ·rw[hb] at h;cases h
 ·exact h
theorem q41{listed:Array Bool}(hc:Closed ops listed)(hl:∀o,ops[n]?=some o->∀e∈o.after,qb8 .any e=true->listed[e.on]?.getD false=true):∀i,i<n->listed[i]?.getD false=true:=by
 have Z:=hB;unfold q6f at Z;simp only[q9b,qau,qcn] at Z;have key:∀d i,i<n->n - i<=d->listed[i]?.getD false=true:=by
  intro d;induction d with
  | zero=>intro i hi h;omega
  | succ d ih =>
   intro i hi h;have:=Z.2 i hi;simp only[List.any_eq_true,qcn,q9b,decide_eq_true_eq] at this;obtain⟨j,hj,hij,hx⟩:=this;cases ho:ops[j]? with
   | none=>rw[ho] at hx;cases hx
   | some o =>
    rw[ho] at hx;simp only at hx;obtain⟨e,he,hb⟩:=Array.any_eq_true'.1 hx;simp only[q9b,beq_iff_eq] at hb;by_cases a6:j=n
    ·subst a6
     rw[<- hb.2];exact hl o ho e he hb.1
    ·have:=hc j o ho (ih j (by omega) (by omega)) e he hb.1
     rw[hb.2] at this;exact this
 exact λi hi=>key (n - i) i hi (q5m _)
theorem q9E:∀(Z t:Nat) (listed:Array Bool),listed.size=n+1->Closed ops listed->listed[n]?.getD false=false->unl listed (n+1)<=Z ->
  ∃L,qb5 .any ops Z t listed []=L++[n]/\∀i∈L,i<n:=by
 intro Z;have a7:∀listed:Array Bool,listed.size=n+1->listed[n]?.getD false=false->q91 .any ops listed≠[]:=by
  intro listed hs a6 hr;have key:∀i,i<n+1->listed[i]?.getD false=true:=by
   intro i;induction i using Nat.strongRecOn with
   | _ i ih =>
    intro hi;have hlt:i<ops.size:=by omega
    refine zQ hr (by omega) (q9w hlt) ?_;simp only[qbu,qcy,qcE];intro e he;cases hb:qb8 .any e with
    | false=>exact .inl rfl
    | true =>
     right;have:=qb1 hB hn (q9w hlt) he hb;rw[qbm];exact ih e.on this (by omega)
  rw[key n (by omega)] at a6;cases a6
 induction Z with
 | zero =>
  intro t listed hs hc a6 hu;exfalso;have hne:=a7 listed hs a6;cases hr:q91 .any ops listed with
  | nil=>exact hne hr
  | cons i l =>
   obtain⟨h1,h2⟩:=zZ (md:=.any) (ops:=ops) (listed:=listed) (i:=i) (by rw[hr];simp);have:=Q8 (n:=n+1) (by omega) hs h2;omega
 | succ Z ih =>
  intro t listed hs hc a6 hu;have hne:=a7 listed hs a6;simp only[qb5];change ∃L,(match (q91 .any ops listed)[t % (q91 .any ops listed).length]? with
   | some i=>qb5 .any ops Z (t / (q91 .any ops listed).length) (listed.setIfInBounds i true) [i]
   | none=>[].reverse)=L++[n]/\_
  cases hi:(q91 .any ops listed)[t % (q91 .any ops listed).length]? with
  | none =>
   exfalso;cases hr:q91 .any ops listed with
   | nil=>exact hne hr
   | cons x xs =>
    rw[hr] at hi;have hlt:t % (x::xs).length<(x::xs).length:=Nat.mod_lt _ (by simp);simp at hi;simp at hlt;omega
  | some i =>
   have a8:=q8z hi;obtain⟨h1,h2⟩:=zZ a8;simp only[];rw[linearise_go_acc,List.reverse_singleton];by_cases hin:i=n
   ·subst hin
    refine⟨[],?_,by simp⟩;have b6:∀k,k<i->listed[k]?.getD false=true:=q41 hB hn hc λo ho e he hb=>by
     have:=zn a8 ho;simp only[qbu,qcy,qcE] at this;rcases this e he with h | h
     ·rw[hb] at h;cases h
     ·rw[<- qbm];exact h
    have b0:q91 .any ops (listed.setIfInBounds i true)=[]:=by
     cases hr:q91 .any ops (listed.setIfInBounds i true) with
     | nil=>rfl
     | cons x xs =>
      exfalso;have hx:x∈q91 .any ops (listed.setIfInBounds i true):=by rw[hr];simp
      obtain⟨g1,_⟩:=zZ hx;have g2:=Ym hx;rw[Zp _ _ _ (by omega)] at g2;by_cases a9:i=x
      ·rw[if_pos a9] at g2;cases g2
      ·rw[if_neg a9,b6 x (by omega)] at g2
       cases g2
    have:qb5 .any ops Z (t / (q91 .any ops listed).length) (listed.setIfInBounds i true) []=[]:=by
     cases Z with
     | zero=>rfl
     | succ Z =>
      simp only[qb5];change (match (q91 .any ops (listed.setIfInBounds i true))[(t / (q91 .any ops listed).length) % (q91 .any ops (listed.setIfInBounds i true)).length]? with
       | some i'=>qb5 .any ops Z _ _ [i']
       | none=>[].reverse)=[]
      rw[b0];rfl
    rw[this];rfl
   ·obtain⟨L,hL,hlt⟩:=ih (t / (q91 .any ops listed).length) (listed.setIfInBounds i true) (by simpa using hs) (λj o ho hj e he hb=>by
      rw[Zp _ _ _ (by omega)] at hj ⊢;split at hj
      ·rename_i b7
       subst b7;have:=zn a8 ho;simp only[qbu,qcy,qcE] at this;rcases this e he with h | h
       ·rw[hb] at h;cases h
       ·rw[qbm] at h
        split
        ·rfl
        ·exact h
      ·have:=hc j o ho hj e he hb
       split
       ·rfl
       ·exact this) (by rw[Zp _ _ _ (by omega),if_neg hin];exact a6) (by
      have:=Q8 (n:=n+1) (by omega) hs h2;omega)
    refine⟨i::L,by rw[hL];rfl,λk hk=>?_⟩;rcases qbx.1 hk with rfl | hk
    ·omega
    ·exact hlt k hk
end
def jQ(o:qbz):qbz:={ dst:=none,op:=.move (.const (.bool true)),type:=o.type,pos:=o.pos,after:=o.after,guard:=none }
def qS(ops:Array qbz)(n:Nat):Array qbz:=ops.modify n jQ
theorem x9(ops:Array qbz)(n i:Nat):(qS ops n)[i]?=if n=i then(ops[i]?).map jQ else ops[i]?:=by
 unfold qS;rw[Array.getElem?_modify]
theorem Yw(ops:Array qbz)(n:Nat)(md:qdr)(listed:Array Bool):q91 md (qS ops n) listed=q91 md ops listed:=by
 unfold q91;rw[show(qS ops n).size=ops.size by simp[qS]]
 congr 1
 funext i
 rw[x9];split
 ·cases ops[i]?<;>rfl
 ·rfl
theorem q1c(ops:Array qbz)(n:Nat)(md:qdr):∀(Z t:Nat) (listed:Array Bool) (a6:List Nat),qb5 md (qS ops n) Z t listed a6=qb5 md ops Z t listed a6:=by
 intro Z;induction Z with
 | zero=>intro t listed a6;rfl
 | succ Z ih =>
  intro t listed a6;simp only[qb5];change (match (q91 md (qS ops n) listed)[t % (q91 md (qS ops n) listed).length]? with
   | some i=>qb5 md (qS ops n) Z (t / (q91 md (qS ops n) listed).length) (listed.setIfInBounds i true) (i::a6)
   | none=>a6.reverse)=(match (q91 md ops listed)[t % (q91 md ops listed).length]? with
   | some i=>qb5 md ops Z (t / (q91 md ops listed).length) (listed.setIfInBounds i true) (i::a6)
   | none=>a6.reverse)
  rw[Yw];cases(q91 md ops listed)[t % (q91 md ops listed).length]? with
  | none=>rfl
  | some i=>exact ih _ _ _
theorem q2B{Q:q8b}{ops:Array qbz}{n:Nat}{K:Act->q3g->Prop}(hg:ops.all (λo=>o.guard.isNone)=true)(hn:n<ops.size):∀(L:List Nat) (a:Act) (w:q3g),(∀i∈L,i<n)->wpOps Q (qS ops n) (Only K) (L++[n]) a w->wpOps Q ops (Only K) L a w:=by
 intro L;induction L with
 | nil =>
  intro a w _ h;rw[qae,wpOps_cons] at h;unfold wpOp at h;rw[x9,if_pos rfl,q9w hn] at h;simp only[qbt] at h;have hw:qb0 (jQ ops[n]) (yielded (qS ops n) a.tmps)=true:=by simp[qb0,jQ]
  rw[if_pos hw] at h;rcases h with h | ⟨_,hout⟩
  ·unfold Oper.wp at h
   have:(execOp a.eval (jQ ops[n])).run Q w=.ok (.value (.bool true)) w:=rfl;rw[this] at h;simp only[Oper.upon,jQ,wpOps] at h;exact h
  ·exact absurd hout Yi
 | cons i L ih =>
  intro a w hlt h;rw[q9y,wpOps_cons] at h;rw[wpOps_cons];have hi:=hlt i (by simp);have e:(qS ops n)[i]?=ops[i]?:=by rw[x9,if_neg (by omega)]
  have h':=wpOp_mono (λa' w' hx=>ih a' w' (λj hj=>hlt j (by simp[hj])) hx) h;unfold wpOp at h' ⊢;rw[e] at h';cases ho:ops[i]? with
  | none=>rw[ho] at h';exact h'
  | some o =>
   rw[ho] at h';dsimp only at h' ⊢;have hw:∀ops':Array qbz,qb0 o (yielded ops' a.tmps)=true:=λops'=>by
    have:o.guard=none:=by
     rw[qbu] at hg;simpa using hg o (qby ho)
    simp[qb0,this]
   rw[if_pos (hw _)] at h' ⊢;exact h'
section
variable[JunkSet]{Q P:q8b}{f:qbe}{Post:q58->q3g->Prop}{W:q3g}
variable{b:q8c}{a:Act}{k:List qdy}{cs:List q8c}{wq:q3g}
theorem EL.region_last(D:Two Q P)(hb:Bot f cs)(hs:Q.funcs[b.fn]?=P.funcs[b.fn]?){id:Nat}{ops:Array qbz}{n:Nat}(hm:Q.follows .mixedOrders=true)(hB:q6f ops n=true)(hn:ops.size=n+1)(hg:ops.all (λo=>o.guard.isNone)=true)
  (h:∀T,wpAny Q .any (qS ops n) (Only λa' w'=>EL Q P f Post W (G (b.at a' (.inRegion ops [n]::k)) cs) w') (qS ops n).size (qb4 (qS ops n).size false) a { wq.tp T with drawn:=wq.drawn+1 }) :
  EL Q P f Post W (G (b.at a (.code (.region id ops true)::k)) cs) wq:=by
 refine EL.of_runs D λT=>?_;have hsz:(qS ops n).size=ops.size:=by simp[qS]
 obtain⟨L,hL,hlt⟩:=q9E hB hn (n+1) ((wq.tp T).tape (wq.tp T).drawn (.order b.fn id)) (qb4 ops.size false) (by simp[hn]) (λi o _ hi=>by
  simp only[Array.getElem?_replicate] at hi;split at hi<;>cases hi) (by simp only[Array.getElem?_replicate];split<;>rfl) (by
  unfold unl;refine q87 (qcd _ _) (by simp))
 have h1:=wpAny_sound _ ((wq.tp T).tape (wq.tp T).drawn (.order b.fn id)) _ _ _ (h T);rw[q1c,hsz,hn,show qb5 .any ops (n+1) ((wq.tp T).tape (wq.tp T).drawn (.order b.fn id)) (qb4 (n+1) false) []=L++[n] by rw[<- hL,hn]] at h1;have h2:=q2B hg (by omega) L _ _ hlt h1;obtain⟨a',w',hE,hst⟩:=q62 [n] L a _ h2 b k cs;refine⟨b.at a' (.inRegion ops [n]::k),cs,w',.head (step_region_draw) ?_,hb,hs,hE⟩;have e:qeu (Q.follows .mixedOrders) ops ((wq.tp T).tape (wq.tp T).drawn (.order b.fn id))=L++[n]:=by
  simp only[qeu,hm,Bool.true_or,if_true];show qb5 .any ops ops.size _ _ []=_;rw[<- hL,hn]
 rw[e];exact hst
end
end Go.Co
end
section
namespace Go.Co
open Go.Conc Go.ConcN Go.Sim
section
variable[JunkSet]
theorem Yq(ρ:Ren)(y:q58):∃x,VR ρ x y/\∀k n,y=.int k n->x=y:=by
 cases y with
 | bool b=>exact⟨_,.bool b,λk n e=>by cases e⟩
 | int k n=>exact⟨_,.int k n,λ_ _ _=>rfl⟩
 | string s=>exact⟨_,.string s,λk n e=>by cases e⟩
 | tuple a =>
  have h:∀i:Fin a.size,∃x,VR ρ x a[i]:=λi=>let ⟨x,h,_⟩:=Yq ρ a[i];⟨x,h⟩;refine⟨.tuple (Array.ofFn λi=>qd3 (h i)),.tuple (by simp) λi x y hx hy=>?_,λk n e=>by cases e⟩;obtain⟨h1,e1⟩:=q45.1 hx;obtain⟨h2,e2⟩:=q45.1 hy;rw[<- e1,<- e2,qe2];exact qdl (h ⟨i,h2⟩)
 | agg a =>
  have h:∀i:Fin a.size,∃x,VR ρ x a[i]:=λi=>let ⟨x,h,_⟩:=Yq ρ a[i];⟨x,h⟩;refine⟨.agg (Array.ofFn λi=>qd3 (h i)),.agg (by simp) λi x y hx hy=>?_,λk n e=>by cases e⟩;obtain⟨h1,e1⟩:=q45.1 hx;obtain⟨h2,e2⟩:=q45.1 hy;rw[<- e1,<- e2,qe2];exact qdl (h ⟨i,h2⟩)
 | pointer a =>
  cases a with
  | none=>exact⟨_,.ptrNil,λk n e=>by cases e⟩
  | some a=>exact⟨_,.wild _ rfl,λk n e=>by cases e⟩
 | slice a n c =>
  cases a with
  | none=>exact⟨_,.sliceNil n c,λk n e=>by cases e⟩
  | some a=>exact⟨_,.wild _ rfl,λk n e=>by cases e⟩
 | map r =>
  cases r with
  | none=>exact⟨_,.mapNil,λk n e=>by cases e⟩
  | some a=>exact⟨_,.wild _ rfl,λk n e=>by cases e⟩
 | func f a c =>
  cases f with
  | method n=>exact⟨_,.meth n a c,λk n e=>by cases e⟩
  | _=>exact⟨_,.wild _ rfl,λk n e=>by cases e⟩
 | nilFunc=>exact⟨_,.nilFunc,λk n e=>by cases e⟩
 | nilIface=>exact⟨_,.nilIface,λk n e=>by cases e⟩
 | _=>exact⟨_,.wild _ rfl,λk n e=>by cases e⟩
termination_by SizeOf.sizeOf y
decreasing_by
 all_goals
  subst_vars
  have:=Array.sizeOf_get a i.1 i.2;simp only[Value.agg.sizeOf_spec,Value.tuple.sizeOf_spec];have e:a[i]=a[i.1]:=rfl;rw[e];omega
noncomputable def xw(ρ:Ren)(cs:Array q58):Array q58:=Array.ofFn λi:Fin cs.size=>qd3 (Yq ρ cs[i])
theorem q7f(ρ:Ren)(cs:Array q58):AsR ρ (xw ρ cs) cs:=by
 refine⟨by simp[xw],λi x y hx hy=>?_⟩;obtain⟨h1,e1⟩:=q45.1 hx;obtain⟨h2,e2⟩:=q45.1 hy;rw[<- e1,<- e2];simp only[xw,qe2];exact(qdl (Yq ρ cs[i])).1
theorem q05(ρ:Ren)(cs:Array q58){i:Nat}{k:IntKind}{n:Int}(h:cs[i]?=some (.int k n)):(xw ρ cs)[i]?=some (.int k n):=by
 obtain⟨h2,e2⟩:=q45.1 h;have h1:i<(xw ρ cs).size:=by simp[xw,h2]
 rw[q9w h1];simp only[xw,qe2];have:=(qdl (Yq ρ cs[i])).2 k n e2;exact congrArg some (this.trans e2)
def Yc(kn:Nat->Bool)(n:Nat):Ren:=(qa4 n).map λi=>if kn i then some i else none
theorem xk{kn:Nat->Bool}{n i j:Nat}:BR (Yc kn n) i j↔i<n/\kn i=true/\j=i:=by
 unfold BR Yc;rw[List.getElem?_map];by_cases h:i<n
 ·rw[List.getElem?_range h,qbt]
  by_cases hk:kn i=true
  ·rw[if_pos hk]
   exact⟨λe=>⟨h,hk,by cases e;rfl⟩,λ⟨_,_,e⟩=>by rw[e]⟩
  ·rw[if_neg hk]
   exact⟨λe=>(by cases e),λ⟨_,h2,_⟩=>absurd h2 hk⟩
 ·rw[qd5 (by rw[List.length_range];omega)]
  exact⟨λe=>(by cases e),λ⟨h1,_,_⟩=>absurd h1 h⟩
noncomputable def maskO(ρ:Ren):Obj->Obj
 | .cells cs e f=>.cells (xw ρ cs) e (0,cs.size+f.2)
 | _=>.cells #[] 0 (0,0)
noncomputable def Qw(kn:Nat->Bool)(W:q3g):q3g :=
 { W with heap:=Array.ofFn λi:Fin W.heap.size=>if kn i then maskO (Yc kn W.heap.size) W.heap[i] else .cells #[] 0 (0,0) }
theorem vY(kn:Nat->Bool)(W:q3g):(Qw kn W).heap.size=W.heap.size:=by simp[Qw]
theorem vC{kn:Nat->Bool}{W:q3g}{i:Nat}{cs:Array q58}{e:q8u}{f:Nat × Nat}(hk:kn i=true)(h:W.heap[i]?=some (.cells cs e f)) :
  (Qw kn W).heap[i]?=some (.cells (xw (Yc kn W.heap.size) cs) e (0,cs.size+f.2)):=by
 obtain⟨h1,e1⟩:=q45.1 h;have h2:i<(Qw kn W).heap.size:=by rw[vY];exact h1
 rw[q9w h2];simp only[Qw,qe2,hk,if_true,Fin.getElem_fin];rw[e1];rfl
theorem q07{kn:Nat->Bool}{W:q3g}{i:Nat}{o:Obj}(hk:¬ kn i=true)(h:(Qw kn W).heap[i]?=some o):o=.cells #[] 0 (0,0):=by
 obtain⟨h1,e1⟩:=q45.1 h;rw[<- e1];simp only[Qw,qe2];rw[if_neg hk]
theorem q9B(Q:q8b)(a6:∀i,¬ JunkSet.jk i){kn:Nat->Bool}{W:q3g}(Z:∀i,kn i=true->i<W.heap.size->∃cs e f,W.heap[i]?=some (.cells cs e f)) :
  WR Q W.heap.size (Yc kn W.heap.size) (Qw kn W) W where
 len:=by rw[vY];simp[Yc]
 nodup i i' j h h':=by
  obtain⟨_,_,e⟩:=xk.1 h;obtain⟨_,_,e'⟩:=xk.1 h';omega
 lt i j h:=by
  obtain⟨h1,_,e⟩:=xk.1 h;omega
 obj i j o h ho:=by
  obtain⟨h1,hk,rfl⟩:=xk.1 h;obtain⟨cs,e,f,hW⟩:=Z j hk h1;rw[vC hk hW] at ho;cases ho;refine .inr ⟨a6 j,_,hW,.cells e (q7f _ _) λo h1 h2=>?_⟩;simp only;omega
 low i hi:=by
  by_cases hk:kn i=true
  ·obtain⟨cs,e,f,hW⟩:=Z i hk hi
   refine⟨_,_,_,vC hk hW,λo ho=>?_⟩;have:(xw (Yc kn W.heap.size) cs).size=cs.size:=by simp[xw]
   simp only;omega
  ·have h2:i<(Qw kn W).heap.size:=by rw[vY];exact hi
   have:=q07 hk (q9w h2);refine⟨#[],0,(0,0),by rw[q9w h2,this],λo ho=>?_⟩;simp at ho
 env:=rfl
 below i h:=absurd h (a6 i)
 gar i o ho:=by
  right;by_cases hk:kn i=true
  ·have h1:i<W.heap.size:=by rw[<- vY kn W];exact(q45.1 ho).1
   obtain⟨cs,e,f,hW⟩:=Z i hk h1;rw[vC hk hW] at ho;cases ho;rfl
  ·rw[q07 hk ho]
   rfl
end
section
variable[J:JunkSet]{Q P:q8b}{f:qbe}{Post:q58->q3g->Prop}
theorem EL.begin(D:Two Q P)(hok:JunkSet.okf f)(hs:Q.funcs[f]?=P.funcs[f]?)(a6:∀i,¬ JunkSet.jk i){kn:Nat->Bool}{W:q3g}(hg:P.globals.size<W.heap.size)(a7:∀i,i<=P.globals.size->kn i=true)
  (Z:∀i,kn i=true->i<W.heap.size->∃cs e f,W.heap[i]?=some (.cells cs e f)) {aq ap:Array q58} (ha:AsR (Yc kn W.heap.size) aq ap)
  (h:EL Q P f Post W (G (qan Q f aq .normal) [qj f]) (Qw kn W)):Ends P Post (solo (G (qan P f ap .normal) []) W) #[]:=by
 refine E.solo (cl:=λ_=>.mine 0) ?_ λ_=>rfl;have hb:W.heap.size<=(Yc kn W.heap.size).length:=by simp[Yc]
 refine h (Yc kn W.heap.size) _ W (λ_=>.mine 0) ⟨q9B Q a6 Z,hb,λi hi=>xk.2 ⟨by omega,a7 i hi,rfl⟩,⟨[],rfl⟩,yd P f ap [qj f],YM D.H hok hs ha,rfl⟩ (λi j _=>rfl) (λ_ _=>rfl)
  ⟨λ_ _ _=>rfl,rfl,rfl,q5m _,λi j hij hi=>?_,q5m _⟩ λ_ _=>rfl
 obtain⟨h1,_,_⟩:=xk.1 hij;omega
theorem q4i{fr:q8c}{g:q5r}{fn:Func}{v:q58}{w:q3g}(Z:g.frame=fr)(hcs:g.callers=[])(hst:g.status=.running)(a6:g.dying=none)(hin:P.inits.idxOf? fr.fn=none)(hm:fr.mode=.returning)(hn:fr.kind=.normal)(hd:fr.defers=[])(hf:P.funcs[fr.fn]?=some fn)
  (hr:(results fn fr.tmps).run P w=.ok v w) (he:(results fn fr.tmps).events P w #[]=#[]) :
  qb7 P true g w=.ended (.done v) w #[]:=by
 obtain⟨a7,cs,st,dy,off⟩:=g;dsimp only at Z hcs hst a6;subst Z hcs hst a6;simp[qb7,unwind,qc9,hn,hd,hf,hr,he,hm,seen,qbf,hin]
theorem EL.last{W:q3g}{b:q8c}{a:Act}{todo:List qdy}{fn:Func}{t:Nat}{r:Bool}{u:q3g}(hin:P.inits.idxOf? b.fn=none)(hn:b.kind=.normal)(hd:a.defers=[])(hf:P.funcs[b.fn]?=some fn)(hr:fn.results=#[.tmp t])
  (hv:a.tmps.getD t q5s=.bool r) (a6:∀w,(∀j,j<W.heap.size->w.heap[j]?=W.heap[j]?)->w.os=W.os->w.output=W.output->W.heap.size<=w.heap.size->Post (.bool r) w) :
  EL Q P f Post W (G { b.at a todo with mode:=.returning } [qj f]) u:=by
 intro ρ g' w cl ⟨hw,a8,hgl,_,gv,hg,e⟩ ho hc hk hm;subst e;have hcs:=hg.callers;obtain⟨fr,cs,st,dy,off⟩:=gv;have hst:st=.running:=hg.st';have a7:dy=none:=hg.dy';subst hst a7;cases hcs with
 | cons h1 h2 =>
  cases h2;have Z:=hg.frame;have e1:=Z.fn;have e2:=Z.kind;have e3:=Z.tmps;have e4:=Z.defers;have e5:=Z.mode;obtain⟨a9,tmps,td,b0,mode,kind,ro⟩:=fr;simp only[Frame.at,G] at e1 e2 e3 e4 e5;rw[hd] at e4;cases e4;cases e5;subst e1;subst e2;have h1:=e3.getD t (kh ρ);rw[hv] at h1;have h2:tmps.getD t q5s=.bool r:=by
   generalize tmps.getD t q5s=z at h1;cases h1;rfl
  refine E.done rfl λd=>⟨.bool r,w.at d,#[],?_,by simp,?_⟩
  ·exact q4i rfl rfl rfl rfl hin rfl hn rfl hf (by rw[results_tmp hr _ P _];exact congrArg (λz=>Result.ok z (w.at d)) h2) (events_results_tmp hr _ _)
  ·exact a6 _ (λj hj=>hk.old j hj λi hi=>Nat.lt_of_not_le λh=>by
    have h3:=hk.inn i j hi h;omega) hk.os hk.output hk.size
end
end Go.Co
end
