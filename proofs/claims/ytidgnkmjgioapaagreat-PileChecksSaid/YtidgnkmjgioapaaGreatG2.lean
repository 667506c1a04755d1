/-
  Part 2 of the proof. gladstonelaw04.PileChecks answers true for every yard, parcel, pile, number and list of numbers, and leaves its arguments as they were. No conditions.
-/
import Derived.Test.YtidgnkmjgioapaaGreatG1
import Derived.Conc.CrowdTrace
import Derived.Conc.CrowdRun
import Derived.Orders
import Derived.WalkKit
import Derived.Conc.WgGenN3
set_option maxRecDepth 100000
set_option maxHeartbeats 8000000
set_option linter.all false
open Array renaming all_eq_true_iff_forall_mem->qiA,any_eq_true'->qq8,eq_empty_of_size_eq_zero->qlA,getD_eq_getD_getElem?->qik,getElem?_eq_getElem->qhi,getElem?_eq_some_iff->qgy,getElem?_push_lt->qp0,getElem?_setIfInBounds->qhG,getElem?_setIfInBounds_ne->qif,getElem?_toList->qnm,getElem_ofFn->qlj,mem_iff_getElem?->qoF,mem_map->qm7,mem_of_getElem?->qiE,ofFn->qq9,replicate->qi0
open Bool renaming and_eq_true->qhh,false_eq_true->qhy,not_eq_true'->qjA,not_false->qmg,not_true->qmx,or_eq_true->qju
open Classical renaming byContradiction->qhF,choose->qk2,choose_spec->qkj,em->qqg
open Go renaming Addr->qi5,Calls->qhw,Code->qje,CommCase->qk9,CommShape->qjx,Deferred->qiG,Dying->qm4,Event->qiq,Frame->qh4,FuncId->qib,GStep->qjo,GoStatus->qjH,Goroutine->qgC,Item->qkD,MapEntry->qkk,MemOp->qp7,Next->qlo,Oper->qiu,Operand->qhE,PanicEntry->qlG,Program->qh2,Question->qj1,Trace->qo3,TypeId->qh8,Value->qgB,World->qgx,callDeferred->qj0,deafBehind->qk4,doReturn->qj5,endFatal->qnB,endThrow->qnc,execOp->qk3,exitTo->qmh,gotoIn->qmH,results->qjb,stepG->qi7,step_leave_returned->qpv,step_lone_go->qnf,tryRecover->qhm,undef->qgD,unwind->qlm,wpOps->qqF,yielded->qj4
open Go.Conc renaming Deaf->qpb,Deaf_other->ql0,Deaf_own->qph,Good->qrg,awake->qrc,woken->qrd,Goes->qmc,QuitsD->qoe,again_running->qpF,aside_setCell->qlw,crowd->qkl,crowd_pick->qq5,events_results_tmp->qn0,getElem?_append_cases->qmb,noRace_append->qpE,ofEvents_eq->qlD,runT_crowd_go->qm8,run_call_body->qm9,semEvents->qln,stepG_add_atomic->qld,stepG_block->qn6,stepG_end->qqB,stepG_load_atomic->qlp,stepG_loop->qq6,stepG_mark0->qom,stepG_markAt->qo7,stepG_region_end->qgE,stepG_ret'->qjy,stepG_seq->qha,stepG_skip->qin,stepG_value->qpi,touchAt->qmr,woken->qqf,woken_quitsD->qlH
open Go.Conc.Goes renaming cases->qkg,rely->qkt,running->qjs,stop->qj6
open Go.ConcN renaming Mode->qma,WgLive->qjD,get_map_set->qkp,get_map_set_same->qlc,pend->qpc,st_waiters->qq7,sumTo->qmi,sumTo_upd->qpp,sumTo_upd_out->qpG,upd_ne->qkF,upd_same->qk1
open Go.ConcN.Gen.WgLive renaming cell0->qoH,cell1->qjE
open Go.ConcR renaming DC0->qne,mk->qjl,WgAt->qn1,g_of_ofEvents->qnz,loc_of_ofEvent->qnd
open Go.Frame renaming enter->qhD,eval->qlv,finish->qoE,finish_at->qjg,raise->qpf
open Go.GStep renaming after->qic,go->qpg
open Go.Instr renaming endRound->qjG
open Go.IntKind renaming wrap_i32->qns,wrap_u64->qnr
open Go.MemAct renaming ofEvent->qit,touch?->qjd
open Go.MemOp renaming ofEvents->qja
open Go.Region renaming Mode->qkv,binds->qi3,ready->qhd,schedule->qmC,wanted->qhv
open Go.Region.linearise renaming go->qi2
open Go.Sem renaming run->qih,runT_eq->qhA
open Go.stepG renaming apply->qil,exec->qk8,oper->qnq
open List renaming all_eq_true->qid,append_assoc->qjp,append_nil->qmD,cons_append->qhe,dropLast_concat->qnC,getElem?_append_left->qhz,getElem?_append_right->qj3,getElem?_drop->qli,getElem?_eq_none->qi8,getElem?_map->qj7,getElem?_range->ql3,getElem?_take_of_lt->qiz,getElem?_toArray->qnn,length_cons->qh3,length_filter_le->qk5,map_cons->qla,mem_cons->qix,mem_filter->qo2,mem_of_getElem?->qhg,mem_range->qjq,mem_toArray->qkd,nil_append->qho,not_mem_nil->qiF,range->qht,range'->qnD,reverse_singleton->qoG
open List.cons renaming injEq->qk0
open Nat renaming eq_zero_or_pos->qof,le_of_eq->qlF,le_refl->qgA,le_trans->qh0,lt_of_lt_of_le->qh7,lt_of_not_le->qox,lt_or_ge->qiC,lt_succ_self->qmq,mul_lt_mul_of_pos_left->qmj,strongRecOn->qo1,zero_add->qhf,zero_le->qhx
open Option renaming bind_some->qmo,elim_none->qqA,getD_some->qgH,map_eq_some_iff->ql6,map_some->qip
open Option.some renaming inj->qjF,injEq->qhH
namespace Go.Sim
section
section
variable[JunkSet]{Q P:qh2}{base:Nat}{F:qgC->qgx->Prop}{f:qib}{real:List qh4}
theorem q6n{Z:Ren}{b:qh4}(h:qr Q P Z (qj f) b):b=qj f:=by
 obtain⟨fn,tmps,todo,defers,mode,kind,ro⟩:=b;obtain⟨h1,_,_,h4,h5,h6,h7,h8,h9⟩:=h;dsimp only[qj] at h1 h4 h5 h6 h7 h8 h9;have e4:tmps=#[]:=by
  have:=h4.1;exact qlA (by simpa using this.symm)
 have e5:todo=[.code (.exit 0)]:=by
  cases h5 with
  | cons hx hk=>cases hx;cases hk;rfl
 have e6:defers=[{ target:=.nil,args:=#[] }]:=by
  cases h6 with
  | cons hx hk=>
   cases hk
   rename_i d
   obtain⟨t,a⟩:=d;rcases hx with⟨ht,ha⟩ | ⟨h1,_,_⟩
   case bound=>cases h1
   dsimp only at ht ha;cases ht;have:a=#[]:=qlA (by simpa using ha.1.symm);rw[this]
 have e7:mode=.run:=by cases h7;rfl
 have e9:ro=none:=by
  rcases h9 with⟨_,h⟩ | ⟨_,_,h,_⟩
  ·exact h
  ·cases h
 subst e4 e5 e6 e7 e9;subst h1;subst h8;rfl
theorem vE{Z:Ren}:∀{pre cs':List qh4},LsR (qr Q P Z) (pre++[qj f]) cs'->∃pre',cs'=pre'++[qj f]/\LsR (qr Q P Z) pre pre':=by
 intro pre;induction pre with
 | nil=>
  intro cs' h;cases h with
  | cons hx hk=>cases hk;exact⟨[],by rw[q6n hx];rfl,.nil⟩
 | cons p pre ih=>
  intro cs' h;cases h with
  | cons hx hk=>
   obtain⟨pre',e,hp⟩:=ih hk;exact⟨_::pre',by rw[e];rfl,.cons hx hp⟩
structure Sub(Q P:qh2)(base:Nat)(F:qgC->qgx->Prop)(f:qib)(real:List qh4)(Z:Ren)(g:qgC)(wq:qgx)(g':qgC)(w:qgx):Prop where
 len:base<=Z.length
 wr:WR Q base Z wq w
 gl:Gl P Z
 tree:LT Q F g wq
 stack:∃pre,g.callers=pre++[qj f]
 rel:∃gv,kO Q P Z g gv/\g'=swap real gv
theorem YX{Z:Ren}{g gv:qgC}(h:kO Q P Z g gv):q7n gv:=λr a k e=>by
 have:=h.frame.todo;rw[e] at this;generalize g.frame.todo=l at this;cases this with
 | cons hx _=>cases hx
theorem Sub.ret(H:Duo Q P){c:qh4}{Z:Ren}{g:qgC}{wq:qgx}{g':qgC}{w:qgx}(h:Sub Q P base F f (c::real) Z g wq g' w)(hcs:g.callers=[qj f]){T:Nat->qj1->Nat}{v:qgB}(hl:g.frame.leaving Q (wq.tp T) (.returned v))(b:Bool) :∃O wq1 v' w1 es,qi7 P b g' w true=.go { frame:=c.finish v',callers:=real,status:=.running,dying:=none } w1 es/\VR O v v'/\WR Q base O wq1 w1/\wq1=wq.tp T/\Eff base Z O w w1/\(∀e∈es,kR base O e):=by
 obtain⟨gv,hg,rfl⟩:=h.rel;obtain⟨hm,hd,hk,fn,hfn,a8⟩:=hl;obtain⟨fr,cs,st,dy,off⟩:=g;obtain⟨a6,cs',st',dy',b0⟩:=gv;obtain⟨h1,h2,h3,h4,h5,h6⟩:=hg;dsimp only at h1 h2 h3 h4 h5 h6 hm hd hk hfn a8 hcs;subst h6;subst hcs;obtain⟨pre',hp,hl⟩:=vE (pre:=[]) h2;cases hl;have hp:cs'=[qj f]:=hp;subst hp;obtain⟨gf,b6,c9⟩:=h1.same;have d5:fn=gf:=by rw[hfn] at b6;exact qjF b6
 subst d5;have hm':a6.mode=.returning:=by
  have:=h1.mode;rw[hm] at this;generalize a6.mode=m at this;cases this;rfl
 have d8:a6.defers=[]:=by
  have:=h1.defers;rw[hd] at this;generalize a6.defers=m at this;cases this;rfl
 have hk':a6.kind=.normal:=h1.kind.trans hk;have hs:=Za H h.gl fn h1.tmps (Q:=Q) (P:=P);have b9:=Dry.run Q (w:=wq.tp T) (JN fn fr.tmps);have c8:WR Q base Z (wq.tp T) w:=⟨h.wr.len,h.wr.nodup,h.wr.lt,h.wr.obj,h.wr.low,h.wr.env,h.wr.below,h.wr.gar⟩;obtain⟨O,d9,w2,a9,a7,hes,d6,c3,_,d7,_⟩:=SR.runs (es:=#[]) (D:=(wq.tp T).drawn) hs h.len c8 (λn q hn=>absurd hn (by omega)) (qlF b9) (by rw[a8];trivial);rw[a8] at a7;have hst:∀{v'},qih P (qjb fn a6.tmps) w=.ok v' w2->qi7 P b (swap (c::real) { frame:=a6,callers:=[qj f],status:=st',dying:=none,offers:=b0 }) w true =
   .go { frame:=c.finish v',callers:=real,status:=.running,dying:=none } w2 (seen P a6.fn a9):=by
  intro v' hr;have b8:(qjb fn a6.tmps).events P w #[]=a9:=by
   show((qjb fn a6.tmps).runT P w #[]).2=a9;rw[hes];simp
  have b7:P.funcs[a6.fn]?=some fn:=by rw[h1.fn];exact c9
  simp[qi7,swap,hm',qlm,d8,b7,qhA,hr,b8,qj5,hk',qic]
 generalize hr:qih P (qjb fn a6.tmps) w=r at a7;cases a7 with
 | ok _ _ hv=>exact⟨O,_,_,w2,_,hst hr,hv,c3,rfl,d7,λe he=>d6 e (kC _ _ _ e he)⟩
theorem q2z{Z:Ren}(hf:Q.inits.idxOf? f=none)(hs:∃g,Q.funcs[f]?=some g/\P.funcs[f]?=some g):qr Q P Z (qj f) (qj f) :=
 ⟨rfl,hs,hf,⟨rfl,λi x y hx=>by simp[qj] at hx⟩,.cons (.code (.exit 0)) .nil,.cons (.mk .nil ⟨rfl,λi x y hx=>by simp at hx⟩) .nil,.run,rfl,.inl ⟨rfl,rfl⟩⟩
theorem Kn(H:Duo Q P){Z:Ren}(hf:JunkSet.okf f)(hs:Q.funcs[f]?=P.funcs[f]?){a a':Array qgB}(ha:AsR Z a a'):kO Q P Z (yd Q f a [qj f]) (yd P f a' [qj f]):=by
 obtain⟨fq,fp,h1,h2,_⟩:=H.funcs f hf;have e:fp=fq:=by rw[h1,h2] at hs;exact(qjF hs).symm
 subst e;exact⟨qbw H hf hs ha .normal,.cons (q2z (H.inits f hf) ⟨fp,h1,h2⟩) .nil,rfl,rfl,rfl,rfl⟩
theorem Sub.enter(H:Duo Q P){Z:Ren}(hf:JunkSet.okf f)(hs:Q.funcs[f]?=P.funcs[f]?){a a':Array qgB}(ha:AsR Z a a'){wq w:qgx}(hb:base<=Z.length)(hw:WR Q base Z wq w)(hG:Gl P Z)(ht:LT Q F (yd Q f a [qj f]) wq) :Sub Q P base F f real Z (yd Q f a [qj f]) wq { frame:=qhD P f a' .normal,callers:=real,status:=.running,dying:=none } w :=
 ⟨hb,hw,hG,ht,⟨[],rfl⟩,yd P f a' [qj f],Kn H hf hs ha,rfl⟩
end
end
section
section
variable[JunkSet]{Q:qh2}{Z:Ren}{base:Nat}{wq w:qgx}
end
end
section
section
variable[JunkSet]{Q P:qh2}{base:Nat}{F:qgC->qgx->Prop}{f:qib}{real:List qh4}
structure qgm(Q P:qh2)(base:Nat)(F:qgC->qgx->Prop)(f:qib)(real:List qh4)(Z:Ren)(fk:qib)(k:CallKind)(a a':Array qgB)(c c':qh4)(pre pre':List qh4)(wq w:qgx):Prop where
 len:base<=Z.length
 wr:WR Q base Z wq w
 gl:Gl P Z
 tree:LT Q F { frame:=qhD Q fk a k,callers:=c::(pre++[qj f]),status:=.running,dying:=none } wq
 diff:Q.funcs[fk]?≠P.funcs[fk]?
 okf:JunkSet.okf fk
 args:AsR Z a a'
 top:qr Q P Z c c'
 rest:LsR (qr Q P Z) pre pre'
theorem Sub.stepK(H:Duo Q P)(hrf:P.follows .rangeFuncRecover=true)(hR:∀fr,qhm fr real=none){Z:Ren}{g:qgC}{wq:qgx}{g':qgC}{w:qgx}(h:Sub Q P base F f real Z g wq g' w)(hn:¬ F g wq)(b:Bool)(hF:∀g u,F g u->g.callers≠[]) :∃O g1 wq1 g1' w1 es,qi7 P b g' w true=.go g1' w1 es/\Below Q F (g1,wq1) (g,wq)/\Eff base Z O w w1/\(∀e∈es,kR base O e)/\Live g1' /\(Sub Q P base F f real O g1 wq1 g1' w1\/∃fk k a a' c c' pre pre',qgm Q P base F f real O fk k a a' c c' pre pre' wq1 w1 /\g1={ frame:=qhD Q fk a k,callers:=c::(pre++[qj f]),status:=.running,dying:=none } /\g1'={ frame:=qhD P fk a' k,callers:=c'::(pre'++real),status:=.running,dying:=none }):=by
 obtain⟨gv,hg,rfl⟩:=h.rel;obtain⟨pre,b6⟩:=h.stack;have hcs:=hg.callers;rw[b6] at hcs;obtain⟨pre',b0,_⟩:=vE hcs;obtain⟨O,g1,wq1,b9,w1,es,k0,k1,k2,k3,k4,k5,k6,k7,k8,c8,hd1⟩:=K7 H h.len h.wr h.gl hg h.tree hn b;obtain⟨_,T,b7,e1⟩:=k6;dsimp only at e1;have c9:Q.follows .rangeFuncRecover=true:=H.rfr;have a9:g1.callers≠[]:=λa9=>by
  rcases xV (f:=f) c9 b6 hg.dy (wq.tp T) g1 wq1 b7 e1 c8 hd1 with⟨a6,hh⟩ | ⟨_,hp⟩
  ·rw[a9] at hh;cases a6<;>simp at hh
  ·cases k5 with
   | done hh=>exact hF _ _ hh a9
   | step _ h1 _=>
    obtain⟨g2,u2,d9,e2,_,_⟩:=h1 wq1.tape;obtain⟨d7,e5,d6,e4,c3⟩:=g1;dsimp only at a9 hp hd1;subst a9;subst hd1;obtain⟨o,u3,d8,h3⟩:=Q0 (Q:=Q) hp d6 c3 (wq1.tp wq1.tape);rw[h3] at e2;cases e2
 have hst:∃a6,g1.callers=a6++[qj f]:=by
  rcases xV (f:=f) c9 b6 hg.dy (wq.tp T) g1 wq1 b7 e1 c8 hd1 with hh | ⟨hh,_⟩
  ·exact hh
  ·exact absurd hh a9
 obtain⟨a6,a8⟩:=hst;rcases k1 with⟨_,k1⟩ | ⟨fk,k,a,a',c,c',cs,cs',hne,hok,rfl,rfl,ha,hc,hcs1,hm⟩
 ·have hcs1:=k1.callers;rw[a8] at hcs1;obtain⟨a7,d5,_⟩:=vE hcs1;have b8:=q0p hrf hR (f:=f) b0 hg.dy' b b w b9 w1 es k0 ⟨k1.st',k1.dy'⟩ (by rw[d5];simp) (YX k1);exact⟨O,g1,wq1,swap real b9,w1,es,b8,⟨hn,T,b7,e1⟩,k7,k8,⟨k1.st',k1.dy'⟩,.inl ⟨k4,k2,k3,k5,⟨a6,a8⟩,b9,k1,rfl⟩⟩
 ·cases a6 with
  | nil=>
   exfalso;simp only[qho,qk0] at a8;rw[a8.1] at hm;rcases hm with hm | hm
   ·exact hm rfl
   ·exact hm _ _ rfl
  | cons p a6=>
   simp only[qhe,qk0] at a8;obtain⟨rfl,rfl⟩:=a8;obtain⟨a7,rfl,hl⟩:=vE hcs1;have b8:=q0p hrf hR (f:=f) b0 hg.dy' b b w _ w1 es k0 ⟨rfl,rfl⟩ (by simp) (by intro r x l hx;unfold qhD at hx;simp at hx);refine⟨O,_,wq1,_,w1,es,b8,⟨hn,T,b7,e1⟩,k7,k8,⟨rfl,rfl⟩,.inr ⟨fk,k,a,a',c,c',a6,a7,⟨k4,k2,k3,k5,hne,hok,ha,hc,hl⟩,rfl,?_⟩⟩;have:c'::(a7++[qj f])=(c'::a7)++[qj f]:=rfl;simp only[swap,this,qnC];rfl
end
end
end Go.Sim
namespace Go.Co
section
open Go.Conc Go.ConcN
inductive Cl where
 | mine (g:Nat)
 | ro (lo:Nat)
 | sync
def blk:Loc->Option Nat
 | .cell a=>some a.block
 | .obj r=>some r
 | _=>none
theorem qdy{l:Loc}(h:l.isMemory=true):∃b,blk l=some b:=by
 cases l<;>first | exact⟨_,rfl⟩ | cases h
structure Tr(cl:Nat->Cl)(n size:Nat)(t:qo3):Prop where
 inb:∀i a b,qmr t i=some a->blk a.loc=some b->b<size
 sync:∀i a b,qmr t i=some a->blk a.loc=some b->cl b=.sync->a.kind≠.plain/\(a.kind=.said->t.g? i=some 0)
 plain:∀i a b,qmr t i=some a->blk a.loc=some b->cl b≠.sync->a.kind=.plain
 mine:∀i a b g,qmr t i=some a->blk a.loc=some b->cl b=.mine g->Knows t g i
 ro:∀i a b lo,qmr t i=some a->blk a.loc=some b->cl b=.ro lo->a.write=true->Knows t 0 i/\∀g,lo<=g->g<n->Knows t g i
 nr:∀said,¬ Race said t
 gs:∀(i:Nat) (op:qp7),t[i]?=some op->op.g<n
def qgk(cl:Nat->Cl)(size g:Nat)(x:Touch):Prop:=∀b,blk x.loc=some b->b<size /\
 ((cl b=.mine g/\x.kind=.plain)\/(∃lo,cl b=.ro lo/\(g=0\/lo<=g)/\x.write=false/\x.kind=.plain)\/(cl b=.sync/\x.kind≠.plain/\(x.kind=.said->g=0)))
def qeg(cl:Nat->Cl)(size g:Nat)(op:qp7):Prop:=op.g=g/\∀x,op.act.touch?=some x->qgk cl size g x
section
variable{cl cl':Nat->Cl}{n size size' g:Nat}{t u:qo3}
theorem ku{i:Nat}{a:Touch}(h:qmr (t++u) i=some a):(i<t.size/\qmr t i=some a)\/(t.size<=i/\∃op,(t++u)[i]?=some op/\op∈u/\op.act.touch?=some a):=by
 obtain⟨x,hx,a6⟩:=touch_of h;rcases qmb hx with⟨hi,hx'⟩ | ⟨hi,hxu⟩
 ·exact .inl ⟨hi,by rw[touchAt_of hx'];exact a6⟩
 ·exact .inr ⟨hi,x,hx,hxu,a6⟩
theorem q1l{i:Nat}{op:qp7}(h:t[i]?=some op):t.g? i=some op.g:=by simp[Trace.g?,h]
theorem Tr.fresh'(h:Tr cl n size t){m:Nat}(hm:∀i a b,qmr t i=some a->blk a.loc=some b->b<m)(hc:∀b,b<m->cl' b=cl b):Tr cl' n size t :=
 ⟨h.inb,λi a b h1 h2 h3=>h.sync i a b h1 h2 (by rw[<- hc b (hm i a b h1 h2)];exact h3),λi a b h1 h2 h3=>h.plain i a b h1 h2 (by rw[<- hc b (hm i a b h1 h2)];exact h3),
  λi a b g h1 h2 h3=>h.mine i a b g h1 h2 (by rw[<- hc b (hm i a b h1 h2)];exact h3),
  λi a b lo h1 h2 h3=>h.ro i a b lo h1 h2 (by rw[<- hc b (hm i a b h1 h2)];exact h3),h.nr,h.gs⟩
theorem Tr.grow(h:Tr cl n size t)(hs:size<=size'):Tr cl n size' t :=
 ⟨λi a b h1 h2=>qh7 (h.inb i a b h1 h2) hs,h.sync,h.plain,h.mine,h.ro,h.nr,h.gs⟩
theorem Tr.step(h:Tr cl n size t)(hg:g<n)(hu:∀op∈u,qeg cl size g op):Tr cl n size (t++u):=by
 refine⟨λi a b h1 h2=>?_,λi a b h1 h2 h3=>?_,λi a b h1 h2 h3=>?_,λi a b g' h1 h2 h3=>?_,λi a b lo h1 h2 h3 h4=>?_,λsaid=>?_,λi op hi=>?_⟩
 ·rcases ku h1 with⟨_,h1⟩ | ⟨_,op,_,hop,hx⟩
  ·exact h.inb i a b h1 h2
  ·exact((hu op hop).2 a hx b h2).1
 ·rcases ku h1 with⟨hi,h1⟩ | ⟨_,op,ho,hop,hx⟩
  ·obtain⟨k1,k2⟩:=h.sync i a b h1 h2 h3;exact⟨k1,λe=>by rw[g?_old hi];exact k2 e⟩
  ·rcases((hu op hop).2 a hx b h2).2 with⟨k,_⟩ | ⟨lo,k,_⟩ | ⟨_,k1,k2⟩
   ·rw[h3] at k;cases k
   ·rw[h3] at k;cases k
   ·exact⟨k1,λe=>by rw[q1l ho,(hu op hop).1,k2 e]⟩
 ·rcases ku h1 with⟨_,h1⟩ | ⟨_,op,ho,hop,hx⟩
  ·exact h.plain i a b h1 h2 h3
  ·rcases((hu op hop).2 a hx b h2).2 with⟨_,k⟩ | ⟨lo,_,_,_,k⟩ | ⟨k,_⟩
   ·exact k
   ·exact k
   ·exact absurd k h3
 ·rcases ku h1 with⟨_,h1⟩ | ⟨_,op,ho,hop,hx⟩
  ·exact(h.mine i a b g' h1 h2 h3).app u
  ·rcases((hu op hop).2 a hx b h2).2 with⟨k,_⟩ | ⟨lo,k,_⟩ | ⟨k,_⟩
   ·rw[h3] at k;cases k;have:=knows_own ho
    rwa [(hu op hop).1] at this
   ·rw[h3] at k;cases k
   ·rw[h3] at k;cases k
 ·rcases ku h1 with⟨_,h1⟩ | ⟨_,op,ho,hop,hx⟩
  ·obtain⟨k1,k2⟩:=h.ro i a b lo h1 h2 h3 h4;exact⟨k1.app u,λg' hl hn=>(k2 g' hl hn).app u⟩
  ·rcases((hu op hop).2 a hx b h2).2 with⟨k,_⟩ | ⟨lo,_,_,k,_⟩ | ⟨k,_⟩
   ·rw[h3] at k;cases k
   ·rw[h4] at k;cases k
   ·rw[h3] at k;cases k
 ·refine qpE (h.nr said) (λop hop=>(hu op hop).1) (λi a ha op hop b hb hc=>?_);obtain⟨a7,a6,b0,hk⟩:=hc;obtain⟨bb,hbb⟩:=qdy a6;have a8:blk b.loc=some bb:=by rw[<- a7];exact hbb
  rcases((hu op hop).2 b hb bb a8).2 with⟨k,_⟩ | ⟨lo,k,hgl,k1,_⟩ | ⟨k,k1,k2⟩
  ·exact h.mine i a bb g ha hbb k
  ·have b7:a.write=true:=b0.resolve_right (by simp[k1]);obtain⟨m1,m2⟩:=h.ro i a bb lo ha hbb k b7;rcases hgl with rfl | hgl
   ·exact m1
   ·exact m2 g hgl hg
  ·obtain⟨m1,m2⟩:=h.sync i a bb ha hbb k;rcases hk with hk | hk | ⟨_,hk,hk'⟩
   ·exact absurd hk m1
   ·exact absurd hk k1
   ·have e:=m2 hk;have e':=k2 hk';obtain⟨z,hz,a9⟩:=ql6.1 e;have:=knows_own hz
    rwa [a9,<- e'] at this
 ·rcases qmb hi with⟨_,b6⟩ | ⟨_,hiu⟩
  ·exact h.gs i op b6
  ·rw[(hu op hiu).1];exact hg
theorem vA{x y:qp7}{k:Nat}{p:Nat}(hx:x.g=p/\x.act=.go k)(hy:y.g=k/\y.act=.start){i:Nat}{a:Touch}(h:qmr (t++#[x,y]) i=some a):i<t.size/\qmr t i=some a:=by
 rcases ku h with h | ⟨_,op,_,hop,hb⟩
 ·exact h
 ·simp only[qkd,qix,qiF,or_false] at hop;rcases hop with rfl | rfl
  ·rw[hx.2] at hb;cases hb
  ·rw[hy.2] at hb;cases hb
theorem Tr.fork(h:Tr cl n size t)(a7:0<n){x y:qp7}(hx:x.g=0/\x.act=.go n)(hy:y.g=n/\y.act=.start)(hd:qpb t 0=0):Tr cl (n+1) size (t++#[x,y]):=by
 have hk:qpb t n=0:=Deaf_absent λi op hi e=>by have:=h.gs i op hi;omega
 refine⟨λi a b h1 h2=>h.inb i a b (vA hx hy h1).2 h2,λi a b h1 h2 h3=>?_,λi a b h1 h2 h3=>h.plain i a b (vA hx hy h1).2 h2 h3,λi a b g h1 h2 h3=>(h.mine i a b g (vA hx hy h1).2 h2 h3).app _,
  λi a b lo h1 h2 h3 h4=>?_,λsaid=>?_,λi op hi=>?_⟩
 ·obtain⟨hi,h1⟩:=vA hx hy h1;obtain⟨k1,k2⟩:=h.sync i a b h1 h2 h3;exact⟨k1,λe=>by rw[g?_old hi];exact k2 e⟩
 ·obtain⟨k1,k2⟩:=h.ro i a b lo (vA hx hy h1).2 h2 h3 h4;refine⟨k1.app _,λg hl hn=>?_⟩;rcases qiC g n with hlt | hge
  ·exact(k2 g hl hlt).app _
  ·obtain rfl:g=n:=by omega
   exact fork_knows hx hy hd hk k1
 ·have hnt:∀op∈#[x,y],∀b,op.act.touch?=some b->False:=by
   intro op hop b hb;simp only[qkd,qix,qiF,or_false] at hop;rcases hop with rfl | rfl
   ·rw[hx.2] at hb;cases hb
   ·rw[hy.2] at hb;cases hb
  have e:t++#[x,y]=(t++#[x])++#[y]:=by apply Array.ext';simp
  rw[e];exact qpE (g:=n) (qpE (g:=0) (h.nr said) (λop hop=>by simp at hop;rw[hop];exact hx.1) (λi a _ op hop b hb _=>(hnt op (by simp at hop ⊢;exact .inl hop) b hb).elim))
   (λop hop=>by simp at hop;rw[hop];exact hy.1) (λi a _ op hop b hb _=>(hnt op (by simp at hop ⊢;exact .inr hop) b hb).elim)
 ·rcases qmb hi with⟨_,a6⟩ | ⟨_,hiu⟩
  ·exact Nat.lt_succ_of_lt (h.gs i op a6)
  ·simp only[qkd,qix,qiF,or_false] at hiu;rcases hiu with rfl | rfl
   ·rw[hx.1];omega
   ·rw[hy.1];exact qmq _
theorem Tr.fork_deaf(h:Tr cl n size t){x y:qp7}(hx:x.g=0/\x.act=.go n)(hy:y.g=n/\y.act=.start)(g:Nat):qpb (t++#[x,y]) n=0/\qpb (t++#[x,y]) g=qpb t g:=by
 have hk:qpb t n=0:=Deaf_absent λi op hi e=>by have:=h.gs i op hi;omega
 have key:∀g,qpb (t++#[x,y]) g=qpb t g:=λg=>by
  have:=Deaf_append t g [x,y];simp only[List.foldl_cons,List.foldl_nil] at this;rw[show t++#[x,y]=t++[x,y].toArray from rfl,this];simp only[deafStep,hx.2,hy.2]
 exact⟨by rw[key,hk],key g⟩
theorem Tr.recl(h:Tr cl n size t)(hc:∀b,b<size->cl' b=cl b\/(cl b=.mine 0/\cl' b=.ro n)\/(cl b≠.sync/\cl' b=.mine 0/\∀i a,qmr t i=some a->blk a.loc=some b->Knows t 0 i)\/(cl' b=.sync/\∀i a,qmr t i=some a->blk a.loc≠some b)):Tr cl' n size t:=by
 refine⟨h.inb,λi a b h1 h2 h3=>?_,λi a b h1 h2 h3=>?_,λi a b g h1 h2 h3=>?_,λi a b lo h1 h2 h3 h4=>?_,h.nr,h.gs⟩
 ·rcases hc b (h.inb i a b h1 h2) with e | ⟨_,e⟩ | ⟨_,e,_⟩ | ⟨_,e⟩
  ·exact h.sync i a b h1 h2 (e ▸ h3)
  ·rw[h3] at e;cases e
  ·rw[h3] at e;cases e
  ·exact absurd h2 (e i a h1)
 ·rcases hc b (h.inb i a b h1 h2) with e | ⟨k,_⟩ | ⟨k,_,_⟩ | ⟨e,_⟩
  ·exact h.plain i a b h1 h2 (e ▸ h3)
  ·exact h.plain i a b h1 h2 (by rw[k];simp)
  ·exact h.plain i a b h1 h2 k
  ·exact absurd e h3
 ·rcases hc b (h.inb i a b h1 h2) with e | ⟨_,e⟩ | ⟨_,e,k⟩ | ⟨e,_⟩
  ·exact h.mine i a b g h1 h2 (e ▸ h3)
  ·rw[h3] at e;cases e
  ·rw[h3] at e;cases e;exact k i a h1 h2
  ·rw[h3] at e;cases e
 ·rcases hc b (h.inb i a b h1 h2) with e | ⟨k,e⟩ | ⟨_,e,_⟩ | ⟨e,_⟩
  ·exact h.ro i a b lo h1 h2 (e ▸ h3) h4
  ·rw[h3] at e;cases e;exact⟨h.mine i a b 0 h1 h2 k,λg hl hn=>by omega⟩
  ·rw[h3] at e;cases e
  ·rw[h3] at e;cases e
def Hd(lo:Nat)(t:qo3):Prop:=∀i g,t.g? i=some g->g≠0->g<lo->t.counts i->Knows t 0 i
theorem Hd.app{lo:Nat}(h:Hd lo t)(hu:∀op∈u,op.g=0\/lo<=op.g\/op.act.touch?=none):Hd lo (t++u):=by
 intro i g hg hne hlo hc;obtain⟨op,ho,a7⟩:=ql6.1 hg;rcases qmb ho with⟨hi,ho'⟩ | ⟨_,hou⟩
 ·exact(h i g (by rw[q1l ho',a7]) hne hlo ((counts_old hi).1 hc)).app u
 ·rcases hu op hou with e | e | e
  ·rw[a7] at e;exact absurd e hne
  ·omega
  ·obtain⟨x,hx,_⟩:=hc;obtain⟨y,hy,a6⟩:=touch_of hx;rw[ho] at hy;cases hy;rw[e] at a6;cases a6
theorem Hd.join{lo:Nat}{a:qi5}(h:Hd lo t){q:Nat}(all:∀g,lo<=g->g≠0->(∃i,t.g? i=some g)->∃r,RelBy a t g r/\r<q)(hn:NoRelease a t)(hq:t.act? q=some (.mark (.acquire a)))(hg:t.g? q=some 0)(hh:t.heard q)(m:Nat):Hd m t:=by
 intro i g a6 hne _ hc;rcases qiC g lo with hlt | hge
 ·exact h i g a6 hne hlt hc
 ·obtain⟨r,hr,a9⟩:=all g hge hne ⟨i,a6⟩;have a7:HappensBefore t r q:=.single (.inr ⟨.marked a9 (.inr hr.act) hq (λk _ _=>hn k),hr.heard,hh⟩);have hle:i<=r:=Nat.le_of_not_lt λhlt=>hr.after i hlt a6 hc;obtain⟨z,hz,a8⟩:=ql6.1 hg;refine⟨q,z,hz,a8,.inr ?_⟩;rcases qiC i r with hlt | hge
  ·exact .trans (.single (.inl ⟨hlt,g,a6,hr.g⟩)) a7
  ·obtain rfl:i=r:=by omega
   exact a7
theorem Tr.known0(h:Tr cl n size t){m:Nat}(hd:Hd m t)(hm:n<=m){i:Nat}{a:Touch}{b:Nat}(h1:qmr t i=some a)(h2:blk a.loc=some b)(h3:cl b≠.sync):Knows t 0 i:=by
 obtain⟨x,hx,a6⟩:=touch_of h1;by_cases e:x.g=0
 ·have:=knows_own hx
  rwa [e] at this
 ·refine hd i x.g (q1l hx) e (qh7 (h.gs i x hx) hm) ⟨a,h1,?_,.inl ?_⟩
  ·cases hl:a.loc<;>rw[hl] at h2<;>first | rfl | cases h2
  ·rw[h.plain i a b h1 h2 h3];decide
theorem q8y{m:Nat}(hd:Hd m t)(a7:∀(i:Nat) (op:qp7),t[i]?=some op->op.g<m):t.HandedOver:=by
 intro i g hg hne hc;obtain⟨op,ho,a6⟩:=ql6.1 hg;obtain⟨q,z,h1,h2,h3⟩:=hd i g hg hne (by rw[<- a6];exact a7 i op ho) hc;refine⟨q,by rw[q1l h1,h2],?_⟩;rcases h3 with rfl | h3
 ·rw[ho] at h1;cases h1;exact absurd (a6.symm.trans h2) hne
 ·exact h3
end
end
section
open Go.Conc Go.ConcN
open Go.ConcR (loc_of_ofEvent deafBehind_cons deafBehind_one g_of_ofEvents ofEvent_loc_mark)
def Ends(P:qh2)(Post:qgB->qgx->Prop)(m:Machine)(t:qo3):Prop :=
 ∃N last o w' t',runNT P (N+1) m t=(.ended o w',t')/\runN P N m=.next last/\step P last=.ended o w'/\qrg P Post last o w' t'
section
variable{P:qh2}{Post:qgB->qgx->Prop}{m m':Machine}{t:qo3}{ops:Array qp7}
theorem Ends.next(hs:stepT P m=(.next m',ops))(h:Ends P Post m' (t++ops)):Ends P Post m t:=by
 obtain⟨N,last,o,w,t',h1,h2,h3,h4⟩:=h;exact⟨N+1,last,o,w,t',by rw[runNT_succ_next hs];exact h1,by rw[runN_succ_next hs];exact h2,h3,h4⟩
theorem Ends.ended{o:Outcome}{w:qgx}(hs:stepT P m=(.ended o w,ops))(h:qrg P Post m o w (t++ops)):Ends P Post m t :=
 ⟨0,m,o,w,t++ops,by simp[runNT,hs],rfl,by simp[step,hs],h⟩
end
def EvG(cl:Nat->Cl)(size g:Nat)(e:qiq):Prop:=(∀x,(qit e).touch?=some x->qgk cl size g x)
def jq(e:qiq):Prop:=e.loc≠.mark .disable/\e.loc≠.mark .enable/\∀a,e.loc≠.mark (.release a)
section
variable{cl:Nat->Cl}{n size g d:Nat}{t:qo3}{es:Array qiq}{fn:qib}{pos:String}
theorem Jk(h:∀e∈es,EvG cl size g e):∀op∈qja g fn pos es,qeg cl size g op:=by
 intro op hop;rw[qlD] at hop;obtain⟨e,he,rfl⟩:=qm7.1 hop;exact⟨rfl,h e he⟩
theorem deafBehind_idle{es:Array qiq}(h:∀e∈es,jq e)(d:Nat):qk4 d es=d:=by
 obtain⟨l⟩:=es;induction l with
 | nil=>rfl
 | cons e l ih=>
  rw[deafBehind_cons,deafBehind_one (h e (by simp)).1 (h e (by simp)).2.1];exact ih λx hx=>h x (by simp at hx ⊢;exact .inr hx)
theorem YY{e:qiq}(h:e.mute=true):(qit e).touch?=none:=by
 obtain⟨a6,wr,sy⟩:=e;cases a6 with
 | mark m=>cases m<;>first | rfl | cases h
 | _=>cases h
theorem QQ{es:Array qiq}(h:∀e∈es,e.mute=true):∀op∈qja g fn pos es,op.g=g/\op.act.touch?=none:=by
 intro op hop;rw[qlD] at hop;obtain⟨e,he,rfl⟩:=qm7.1 hop;exact⟨rfl,YY (h e he)⟩
end
section
variable{g:Nat}{es:Array qiq}{fn:qib}{pos:String}
theorem qaF{a:qi5}{es:Array qiq}(h:∀e∈es,e.mute=true):∀op∈qja g fn pos es,op.act≠.mark (.release a):=by
 intro op hop hm;rw[qlD] at hop;obtain⟨x,hx,rfl⟩:=qm7.1 hop;have h1:=h x hx;have h2:=qnd hm;obtain⟨a6,wr,sy⟩:=x;simp only at h2;subst h2;cases h1
theorem q13{a:qi5}{es:Array qiq}(h:∀e∈es,jq e):∀op∈qja g fn pos es,op.act≠.mark (.release a):=by
 intro op hop hm;rw[qlD] at hop;obtain⟨x,hx,rfl⟩:=qm7.1 hop;exact(h x hx).2.2 a (qnd hm)
end
structure Al(P:qh2)(cl:Nat->Cl)(gs:Array qgC)(w:qgx)(t:qo3)(g0:qgC)(fu:Nat->Nat):Prop where
 main:gs[0]?=some g0
 lv:∀i,1<=i->i<gs.size->∃g,gs[i]?=some g/\qoe P (fu i) (qpb t i) g
 tr:Tr cl gs.size w.heap.size t
 cl0:∀b,w.heap.size<=b->cl b=.mine 0
 d0:qpb t 0=0
 hd:Hd gs.size t
 nor:∀a,NoRelease a t
def E(P:qh2)(Post:qgB->qgx->Prop)(cl:Nat->Cl)(g0:qgC)(w:qgx):Prop :=
 ∀gs sl t fu,Al P cl gs w t g0 fu->Ends P Post (qkl gs w sl) t
section
variable{P:qh2}{Post:qgB->qgx->Prop}{cl:Nat->Cl}{gs:Array qgC}{w:qgx}{t:qo3}{g0:qgC}{fu:Nat->Nat}{sl:Option (Nat × Nat)}
theorem Al.at(h:Al P cl gs w t g0 fu)(d:Nat):Al P cl gs (w.at d) t g0 fu:=⟨h.main,h.lv,h.tr,h.cl0,h.d0,h.hd,h.nor⟩
theorem JA{q d:Nat}{g:qgC}(h:qoe P q d g):awake g:=by
 intro tm;rcases h.status with e | e<;>rw[e]<;>simp
theorem Al.awake(h:Al P cl gs w t g0 fu)(h0:g0.status=.running):∀g∈gs,qrc g:=by
 intro g hg;obtain⟨i,hi⟩:=qoF.1 hg;cases i with
 | zero=>
  rw[h.main] at hi;cases hi;intro tm;rw[h0];simp
 | succ i=>
  obtain⟨g',a6,hq⟩:=h.lv (i+1) (by omega) (qgy.1 hi).1;rw[hi] at a6;cases a6;exact JA hq
theorem Al.leave(h:Al P cl gs w t g0 fu)(h0:g0.status=.running){i:Nat}{g:qgC}(h1:1<=i)(hg:gs[i]?=some g)(hr:g.status=.running) :∃gs' ops q,runT P (qkl gs w sl) i=(.next (qkl gs' w sl),ops)/\gs'.size=gs.size/\q<fu i/\Al P cl gs' w (t++ops) g0 (upd fu i q):=by
 have hi:=(qgy.1 hg).1;obtain⟨g',a8,hq⟩:=h.lv i h1 hi;rw[hg] at a8;cases a8;cases hf:fu i with
 | zero=>rw[hf] at hq;rw[hq.1] at hr;cases hr
 | succ q=>
  rw[hf] at hq;rcases hq with⟨hx,_⟩ | ⟨_,g1,es,hmute,hstep,hq⟩
  ·rw[hr] at hx;cases hx
  ·have a7:=qm8 (P:=P) (sl:=sl) (i:=i) hg (by rw[show(i == 0)=false by simp;omega];exact hstep w);have hsz:((gs.map (qqf P g g1 w)).setIfInBounds i g1).size=gs.size:=by simp
   have hops:=QQ (g:=i) (fn:=g.frame.fn) (pos:=g.frame.place) hmute;refine⟨_,_,q,a7,hsz,qmq q,?_,?_,?_,h.cl0,?_,?_,λa=>(h.nor a).app (qaF hmute)⟩
   ·rw[qkp _ _ _ _ (by omega),h.main,qip];unfold qqf;split
    ·rw[qpF _ (.inl h0)]
    ·rfl
   ·intro j a9 hj;rw[hsz] at hj;by_cases e:j=i
    ·subst e;refine⟨g1,qlc _ _ _ hi,?_⟩;rw[qk1,qph];exact hq
    ·obtain⟨x,hx,a6⟩:=h.lv j a9 hj;refine⟨x,?_,?_⟩
     ·rw[qkp _ _ _ _ (by omega),hx,qip,qlH a6]
     ·rw[qkF _ _ e,ql0 t (Ne.symm e) _ λop hop=>(hops op hop).1];exact a6
   ·rw[hsz];exact h.tr.step hi λop hop=>⟨(hops op hop).1,λx hx=>by rw[(hops op hop).2] at hx;cases hx⟩
   ·rw[ql0 t (by omega:i≠(0:Nat)) _ λop hop=>(hops op hop).1];exact h.d0
   ·rw[hsz];exact h.hd.app λop hop=>.inr (.inr (hops op hop).2)
theorem q1F{fu:Nat->Nat}{i q n:Nat}(hi:i<n)(h:q<fu i):qmi n (λa=>upd fu i q a)<qmi n fu:=by
 have:=qpp fu q id hi;simp only[id] at this;have e:(qmi n λa=>fu a)=qmi n fu:=rfl;omega
theorem E.stepC(hs:g0.status=.running)(h:∀d,∃g' w' es cl',qi7 P true g0 (w.at d)=.go g' w' es/\w.heap.size<=w'.heap.size/\(∀b,b<w.heap.size->cl' b=cl b)/\(∀b,w'.heap.size<=b->cl' b=.mine 0)/\(∀e∈es,EvG cl' w'.heap.size 0 e/\jq e)/\E P Post cl' g' w'):E P Post cl g0 w:=by
 have key:∀(N:Nat) (gs:Array qgC) (sl:Option (Nat × Nat)) (t:qo3) (fu:Nat->Nat) (d0:Nat),qmi gs.size fu=N->Al P cl gs (w.at d0) t g0 fu->Ends P Post (qkl gs (w.at d0) sl) t:=by
  intro N;induction N using qo1 with
  | _ N ih=>
   intro gs sl t fu d0 hN hA;obtain⟨i,g,d,a8,hg,hr,hst⟩:=qq5 (P:=P) (w:=w.at d0) (sl:=sl) (hA.awake hs) ⟨0,g0,hA.main,hs⟩;have hi:=(qgy.1 hg).1;cases i with
   | zero=>
    rw[hA.main] at hg;cases hg;obtain⟨g',w',es,cl',c3,hsz,b7,b8,a9,hE⟩:=h d;have b6:qi7 P ((0:Nat) == 0) g0 ((w.at d0).at d)=.go g' w' es:=c3;have a7:=qm8 (P:=P) (sl:=a8) (i:=0) hA.main b6;rw[a7] at hst;refine Ends.next hst (hE _ _ _ fu ?_)
    have a6:((gs.map (qqf P g0 g' w')).setIfInBounds 0 g').size=gs.size:=by simp
    have hlt:0<gs.size:=hi;have hops:∀op∈qja 0 g0.frame.fn g0.frame.place es,op.g=0:=qnz;refine⟨qlc _ _ _ hlt,?_,?_,b8,?_,?_,λa=>(hA.nor a).app (q13 λe he=>(a9 e he).2)⟩
    ·intro j b9 hj;rw[a6] at hj;obtain⟨x,hx,b0⟩:=hA.lv j b9 hj;refine⟨x,?_,?_⟩
     ·rw[qkp _ _ _ _ (by omega),hx,qip,qlH b0]
     ·rw[ql0 t (by omega:(0:Nat)≠j) _ hops];exact b0
    ·rw[a6];exact((hA.tr.grow hsz).fresh' (m:=w.heap.size) hA.tr.inb b7).step hlt (Jk λe he=>(a9 e he).1)
    ·rw[qph,deafBehind_idle λe he=>(a9 e he).2];exact hA.d0
    ·rw[a6];exact hA.hd.app λop hop=>.inl (hops op hop)
   | succ i=>
    obtain⟨gs',ops,q,a7,hsz,hq,c8⟩:=(hA.at d).leave (sl:=a8) hs (by omega) hg hr;rw[a7] at hst;exact Ends.next hst (ih _ (by rw[<- hN,hsz];exact q1F hi hq) gs' a8 _ _ d rfl c8)
 intro gs sl t fu hA;exact key _ gs sl t fu w.drawn rfl hA
theorem E.step(hs:g0.status=.running)(h:∀d,∃g' w' es,qi7 P true g0 (w.at d)=.go g' w' es/\w.heap.size<=w'.heap.size/\(∀e∈es,EvG cl w'.heap.size 0 e/\jq e)/\E P Post cl g' w'):E P Post cl g0 w:=by
 have key:∀(N:Nat) (gs:Array qgC) (sl:Option (Nat × Nat)) (t:qo3) (fu:Nat->Nat) (d0:Nat),qmi gs.size fu=N->Al P cl gs (w.at d0) t g0 fu->Ends P Post (qkl gs (w.at d0) sl) t:=by
  intro N;induction N using qo1 with
  | _ N ih=>
   intro gs sl t fu d0 hN hA;obtain⟨i,g,d,a8,hg,hr,hst⟩:=qq5 (P:=P) (w:=w.at d0) (sl:=sl) (hA.awake hs) ⟨0,g0,hA.main,hs⟩;have hi:=(qgy.1 hg).1;cases i with
   | zero=>
    rw[hA.main] at hg;cases hg;obtain⟨g',w',es,b8,hsz,a9,hE⟩:=h d;have b6:qi7 P ((0:Nat) == 0) g0 ((w.at d0).at d)=.go g' w' es:=b8;have a7:=qm8 (P:=P) (sl:=a8) (i:=0) hA.main b6;rw[a7] at hst;refine Ends.next hst (hE _ _ _ fu ?_)
    have a6:((gs.map (qqf P g0 g' w')).setIfInBounds 0 g').size=gs.size:=by simp
    have hlt:0<gs.size:=hi;have hops:∀op∈qja 0 g0.frame.fn g0.frame.place es,op.g=0:=qnz;refine⟨qlc _ _ _ hlt,?_,?_,λb hb=>hA.cl0 b (qh0 hsz hb),?_,?_,λa=>(hA.nor a).app (q13 λe he=>(a9 e he).2)⟩
    ·intro j b7 hj;rw[a6] at hj;obtain⟨x,hx,b0⟩:=hA.lv j b7 hj;refine⟨x,?_,?_⟩
     ·rw[qkp _ _ _ _ (by omega),hx,qip,qlH b0]
     ·rw[ql0 t (by omega:(0:Nat)≠j) _ hops];exact b0
    ·rw[a6];exact(hA.tr.grow hsz).step hlt (Jk λe he=>(a9 e he).1)
    ·rw[qph,deafBehind_idle λe he=>(a9 e he).2];exact hA.d0
    ·rw[a6];exact hA.hd.app λop hop=>.inl (hops op hop)
   | succ i=>
    obtain⟨gs',ops,q,a7,hsz,hq,b9⟩:=(hA.at d).leave (sl:=a8) hs (by omega) hg hr;rw[a7] at hst;exact Ends.next hst (ih _ (by rw[<- hN,hsz];exact q1F hi hq) gs' a8 _ _ d rfl b9)
 intro gs sl t fu hA;exact key _ gs sl t fu w.drawn rfl hA
theorem E.done(hs:g0.status=.running)(h:∀d,∃v w' es,qi7 P true g0 (w.at d)=.ended (.done v) w' es/\(∀e∈es,EvG cl w.heap.size 0 e/\jq e)/\Post v w'):E P Post cl g0 w:=by
 have key:∀(N:Nat) (gs:Array qgC) (sl:Option (Nat × Nat)) (t:qo3) (fu:Nat->Nat) (d0:Nat),qmi gs.size fu=N->Al P cl gs (w.at d0) t g0 fu->Ends P Post (qkl gs (w.at d0) sl) t:=by
  intro N;induction N using qo1 with
  | _ N ih=>
   intro gs sl t fu d0 hN hA;obtain⟨i,g,d,a8,hg,hr,hst⟩:=qq5 (P:=P) (w:=w.at d0) (sl:=sl) (hA.awake hs) ⟨0,g0,hA.main,hs⟩;have hi:=(qgy.1 hg).1;cases i with
   | zero=>
    rw[hA.main] at hg;cases hg;obtain⟨v,w',es,b8,b6,hP⟩:=h d;have b0:qi7 P ((0:Nat) == 0) g0 ((w.at d0).at d)=.ended (.done v) w' es:=b8;have hlt:0<gs.size:=hi;have a6:runT P (qkl gs ((w.at d0).at d) a8) 0=(.ended (.done v) w',qja 0 g0.frame.fn g0.frame.place es):=by
     have h0:=hA.main;obtain⟨_,h0⟩:=qgy.1 h0;subst h0;have b7:=swapAt_of_lt hlt { (default:qgC) with status:=.finished };show runT P { world:=(w.at d0).at d,gs:=gs,rest:={ timers:=#[],alone:=none,slice:=a8 } } 0=_;unfold runT;simp only[b7,b0,GStep.es]
    rw[a6] at hst;have hops:∀op∈qja 0 g0.frame.fn g0.frame.place es,op.g=0:=qnz;refine Ends.ended hst ⟨v,rfl,hP,?_,?_,⟨?_,rfl⟩,?_⟩
    ·exact(hA.tr.step hlt (Jk λe he=>(b6 e he).1)).nr
    ·exact q8y (hA.hd.app λop hop=>.inl (hops op hop)) λi op hi=>(hA.tr.step hlt (Jk λe he=>(b6 e he).1)).gs i op hi
    ·intro x hx;obtain⟨j,hj⟩:=List.mem_iff_getElem?.1 hx;rw[qli] at hj;have a7:gs[1+j]?=some x:=by simpa[qkl] using hj
     obtain⟨y,hy,a9⟩:=hA.lv (1+j) (by omega) (qgy.1 a7).1;rw[a7] at hy;cases hy;exact⟨_,a9.leaves⟩
    ·intro j x hj hne;have a7:gs[j]?=some x:=hj;obtain⟨y,hy,a9⟩:=hA.lv j (by omega) (qgy.1 a7).1;rw[a7] at hy;cases hy;refine⟨fu j,?_⟩;have:=ql0 t (Ne.symm hne) _ hops;unfold qpb at this a9;rw[this];exact a9.hears _
   | succ i=>
    obtain⟨gs',ops,q,a6,hsz,hq,b9⟩:=(hA.at d).leave (sl:=a8) hs (by omega) hg hr;rw[a6] at hst;exact Ends.next hst (ih _ (by rw[<- hN,hsz];exact q1F hi hq) gs' a8 _ _ d rfl b9)
 intro gs sl t fu hA;exact key _ gs sl t fu w.drawn rfl hA
theorem E.solo(h:E P Post cl g0 w)(hc:∀b,cl b=.mine 0):Ends P Post (solo g0 w) #[]:=by
 rw[solo_eq_crowd];refine h #[g0] none #[] (λ_=>0) ⟨rfl,λi h1 hi=>by simp at hi;omega,?_,λb _=>hc b,rfl,λi g hg=>by simp[Trace.g?] at hg,λa i hi=>by simp[Trace.act?] at hi⟩;refine⟨λi a b ha=>?_,λi a b ha=>?_,λi a b ha=>?_,λi a b g ha=>?_,λi a b lo ha=>?_,noRace_nil,λi op hi=>by simp at hi⟩<;>simp[qmr,Trace.act?] at ha
end
end
section
open Go.Conc Go.ConcN Go.Sim
def kQ(cl:Nat->Cl)(Z:Ren):Prop:=∀i j,BR Z i j->cl j=.mine 0
structure yY(M N:Nat)(W:qgx)(Z:Ren)(w:qgx):Prop where
 old:∀j,j<W.heap.size->(∀i,BR Z i j->i<M)->w.heap[j]?=W.heap[j]?
 os:w.os=W.os
 output:w.output=W.output
 size:W.heap.size<=w.heap.size
 inn:∀i j,BR Z i j->M<=i->N<=j
 nsz:N<=w.heap.size
section
variable[JunkSet]{Q P:qh2}{F:qgC->qgx->Prop}{f:qib}{real:List qh4}{Post:qgB->qgx->Prop}{W:qgx}{M N:Nat}
theorem yY.step{Z O:Ren}{w w1:qgx}(h:yY M N W Z w)(he:Eff M Z O w w1):yY M N W O w1 where
 old j hj hn:=by
  have a6:∀i,BR Z i j->i<M:=λi hi=>hn i (hi.mono he.le);rw[he.keep j (qh7 hj h.size) a6,h.old j hj a6]
 os:=he.os.trans h.os
 output:=he.output.trans h.output
 size:=qh0 h.size he.size
 inn i j hij hi:=by
  rcases qiC i Z.length with hlt | hge
  ·exact h.inn i j (BR.back he.le hij hlt) hi
  ·exact qh0 h.nsz (he.fresh i j hij hge)
 nsz:=qh0 h.nsz he.size
theorem yY.at{Z:Ren}{w:qgx}(h:yY M N W Z w)(d:Nat):yY M N W Z (w.at d):=⟨h.old,h.os,h.output,h.size,h.inn,h.nsz⟩
theorem kQ.step{cl:Nat->Cl}{Z O:Ren}{w w1:qgx}{base:Nat}(h:kQ cl Z)(he:Eff base Z O w w1)(hc:∀b,w.heap.size<=b->cl b=.mine 0):kQ cl O:=by
 intro i j hij;rcases qiC i Z.length with hlt | hge
 ·obtain⟨⟨V,rfl⟩,_⟩:=he.le;refine h i j ?_;unfold BR at hij ⊢
  rwa [qhz hlt] at hij
 ·exact hc j (he.fresh i j hij hge)
theorem kY{cl:Nat->Cl}{O:Ren}{wq w:qgx}{base:Nat}(ho:kQ cl O)(hw:WR Q base O wq w){e:qiq}(h:kR base O e):EvG cl w.heap.size 0 e/\jq e:=by
 cases h with
 | @cell i j off spot wr h1 _ _=>
  refine⟨λx hx b hb=>?_,by simp[jq],by simp,by simp⟩;have hx':x=⟨.cell ⟨j,off,spot⟩,wr,.plain⟩:=by cases wr<;>(simp[qit,qjd] at hx;exact hx.symm)
  subst hx';simp only[blk,qhH] at hb;subst hb;exact⟨hw.lt _ _ h1,.inl ⟨ho _ _ h1,rfl⟩⟩
 | @obj i j wr h1 _=>
  refine⟨λx hx b hb=>?_,by simp[jq],by simp,by simp⟩;have hx':x=⟨.obj j,wr,.plain⟩:=by cases wr<;>(simp[qit,qjd] at hx;exact hx.symm)
  subst hx';simp only[blk,qhH] at hb;subst hb;exact⟨hw.lt _ _ h1,.inl ⟨ho _ _ h1,rfl⟩⟩
 | noRoom=>exact⟨λx hx=>by simp[qit,qjd] at hx,by simp[jq],by simp,by simp⟩
 | env=>
  refine⟨λx hx b hb=>?_,by simp[jq],by simp,by simp⟩;have hx':x=⟨.output,true,.plain⟩:=by simp[qit,qjd] at hx;exact hx.symm
  subst hx';cases hb
theorem q9j{Z:Ren}{base:Nat}{wq w:qgx}(h:WR Q base Z wq w)(d:Nat):WR Q base Z wq (w.at d):=⟨h.len,h.nodup,h.lt,h.obj,h.low,h.env,h.below,h.gar⟩
theorem q1G{Z:Ren}{base:Nat}{g g':qgC}{wq w:qgx}(h:Sub Q P base F f real Z g wq g' w)(d:Nat):Sub Q P base F f real Z g wq g' (w.at d):=⟨h.len,q9j h.wr d,h.gl,h.tree,h.stack,h.rel⟩
theorem kU{Z:Ren}{base:Nat}{g g':qgC}{wq w:qgx}(h:Sub Q P base F f real Z g wq g' w):g'.status=.running:=by
 obtain⟨gv,hg,rfl⟩:=h.rel;exact hg.st'
theorem E.sub{Cp:(Nat->Cl)->Prop}(H:Duo Q P)(hrf:P.follows .rangeFuncRecover=true)(hR:∀fr,qhm fr real=none)(hF:∀g u,F g u->g.callers≠[])(hstop:∀Z g wq g' w cl,Sub Q P M F f real Z g wq g' w->F g wq->kQ cl Z->(∀b,w.heap.size<=b->cl b=.mine 0)->yY M N W Z w->Cp cl->E P Post cl g' w)(hK:∀Z fk k a a' c c' pre pre' wq w cl,qgm Q P M F f real Z fk k a a' c c' pre pre' wq w->kQ cl Z->(∀b,w.heap.size<=b->cl b=.mine 0)->yY M N W Z w->Cp cl ->(∀O g2 a7 b0 w2 a6,Sub Q P M F f real O g2 a7 b0 w2->kQ a6 O->(∀b,w2.heap.size<=b->a6 b=.mine 0)->yY M N W O w2->Cp a6 ->Relation.TransGen (Below Q F) (g2,a7) ({ frame:=qhD Q fk a k,callers:=c::(pre++[qj f]),status:=.running,dying:=none },wq)->E P Post a6 b0 w2) ->E P Post cl { frame:=qhD P fk a' k,callers:=c'::(pre'++real),status:=.running,dying:=none } w){Z:Ren}{g g':qgC}{wq w:qgx}{cl:Nat->Cl}(h:Sub Q P M F f real Z g wq g' w)(ho:kQ cl Z)(hc:∀b,w.heap.size<=b->cl b=.mine 0)(hk:yY M N W Z w)(hp:Cp cl):E P Post cl g' w:=by
 have a8:Acc (Relation.TransGen (Below Q F)) (g,wq):=h.tree.acc.transGen;generalize hx:(g,wq)=x at a8;induction a8 generalizing Z g wq g' w cl with
 | intro x _ ih=>
  subst hx;by_cases hn:F g wq
  ·exact hstop Z g wq g' w cl h hn ho hc hk hp
  ·refine E.step (kU h) λd=>?_;obtain⟨O,g1,wq1,g1',w1,es,h1,h2,h3,h4,_,h6⟩:=(q1G h d).stepK H hrf hR hn true hF;have a9:kQ cl O:=ho.step (w:=w.at d) h3 hc;have b7:∀b,w1.heap.size<=b->cl b=.mine 0:=λb hb=>hc b (qh0 h3.size hb);have b6:yY M N W O w1:=yY.step (w:=w.at d) (hk.at d) h3;have b8:WR Q M O wq1 w1:=by
    rcases h6 with h6 | ⟨_,_,_,_,_,_,_,_,h6,_⟩
    ·exact h6.wr
    ·exact h6.wr
   refine⟨g1',w1,es,h1,h3.size,λe he=>kY a9 b8 (h4 e he),?_⟩;rcases h6 with h6 | ⟨fk,k,a,a',c,c',pre,pre',h6,rfl,rfl⟩
   ·exact ih (g1,wq1) (.single h2) h6 a9 b7 b6 hp rfl
   ·exact hK O fk k a a' c c' pre pre' wq1 w1 cl h6 a9 b7 b6 hp λσ2 g2 a7 b0 w2 a6 s1 s2 s3 s4 s6 s5=>ih (g2,a7) (s5.tail h2) s1 s2 s3 s4 s6 rfl
end
end
section
open Go.Conc Go.ConcN Go.Sim
abbrev Bs:=Nat->Prop
structure St where
 S:Bs
 g:qgC
 w:qgx
inductive Rk where
 | leaf
 | nd (f:St->Rk)
def Rk.sub:Rk->Rk->Prop
 | _,.leaf=>False
 | x,.nd f=>∃s,x=f s
theorem Rk.acc:∀r:Rk,Acc Rk.sub r
 | .leaf=>.intro _ λ_ h=>h.elim
 | .nd f=>.intro _ λ_ ⟨s,e⟩=>e ▸ Rk.acc (f s)
def grow(S:Bs)(w w':qgx):Bs:=λb=>S b\/(w.heap.size<=b/\b<w'.heap.size)
structure RC(Fz:Bs)(K:qgx->qgx->Prop)(S:Bs)(w w₁:qgx):Prop where
 own:∀b,S b->w₁.heap[b]?=w.heap[b]?
 fz:∀b,Fz b->w₁.heap[b]?=w.heap[b]?
 size:w.heap.size<=w₁.heap.size
 os:w₁.os=w.os
 output:w₁.output=w.output
 k:K w w₁
def EvC(Fz S:Bs)(size:Nat)(e:qiq):Prop :=
 jq e/\(∀m,e.loc=.mark m->m=.noRoom)/\∀x,(qit e).touch?=some x->∀b,blk x.loc=some b->b<size/\x.kind=.plain/\(S b\/(Fz b/\x.write=false))
structure DC(Fz:Bs)(S:Bs)(w w':qgx)(es:Array qiq):Prop where
 keep:∀b,b<w.heap.size->¬ S b->w'.heap[b]?=w.heap[b]?
 size:w.heap.size<=w'.heap.size
 os:w'.os=w.os
 output:w'.output=w.output
 evs:∀e∈es,EvC Fz (grow S w w') w'.heap.size e
section
variable(P:qh2)(Fz:Bs)(K:qgx->qgx->Prop)(Stop:Bs->qgC->qgx->Prop)
def Cot:Rk->Bs->qgC->qgx->Prop
 | .leaf,S,g,w=>∀w₁,RC Fz K S w w₁->Stop S g w₁
 | .nd f,S,g,w=>g.status=.running/\∀w₁,RC Fz K S w w₁->∃g' w' es,qi7 P false g w₁=.go g' w' es/\DC Fz S w₁ w' es/\Cot (f ⟨grow S w₁ w',g',w'⟩) (grow S w₁ w') g' w'
def qk(S:Bs)(g:qgC)(w:qgx):Prop:=∃r,Cot P Fz K Stop r S g w
end
section
variable{P:qh2}{Fz:Bs}{K:qgx->qgx->Prop}{Stop:Bs->qgC->qgx->Prop}{S:Bs}{g:qgC}{w w₁ w₂:qgx}
theorem RC.trans(hK:∀a b c,K a b->K b c->K a c)(h:RC Fz K S w w₁)(h':RC Fz K S w₁ w₂):RC Fz K S w w₂ :=
 ⟨λb hb=>(h'.own b hb).trans (h.own b hb),λb hb=>(h'.fz b hb).trans (h.fz b hb),qh0 h.size h'.size,h'.os.trans h.os,h'.output.trans h.output,hK _ _ _ h.k h'.k⟩
theorem qk.stop(h:∀w₁,RC Fz K S w w₁->Stop S g w₁):qk P Fz K Stop S g w:=⟨.leaf,h⟩
theorem qk.step(hs:g.status=.running)(h:∀w₁,RC Fz K S w w₁->∃g' w' es,qi7 P false g w₁=.go g' w' es/\DC Fz S w₁ w' es/\qk P Fz K Stop (grow S w₁ w') g' w'):qk P Fz K Stop S g w:=by
 classical
 refine⟨.nd λs=>if hx:∃r,Cot P Fz K Stop r s.S s.g s.w then qk2 hx else .leaf,hs,λw₁ h₁=>?_⟩;obtain⟨g',w',es,h1,h2,h3⟩:=h w₁ h₁;refine⟨g',w',es,h1,h2,?_⟩;have hx:∃r,Cot P Fz K Stop r (grow S w₁ w') g' w':=h3;dsimp only;rw[dif_pos hx];exact qkj hx
theorem Cot.rely(hK:∀a b c,K a b->K b c->K a c){r:Rk}(h:Cot P Fz K Stop r S g w)(hr:RC Fz K S w w₁):Cot P Fz K Stop r S g w₁:=by
 cases r with
 | leaf=>exact λw₂ h₂=>h w₂ (hr.trans hK h₂)
 | nd f=>exact⟨h.1,λw₂ h₂=>h.2 w₂ (hr.trans hK h₂)⟩
theorem qk.rely(hK:∀a b c,K a b->K b c->K a c)(h:qk P Fz K Stop S g w)(hr:RC Fz K S w w₁):qk P Fz K Stop S g w₁:=let ⟨r,h⟩:=h;⟨r,h.rely hK hr⟩
theorem q4w(S:Bs)(w:qgx):DC Fz S w w #[]:=⟨λ_ _ _=>rfl,qgA _,rfl,rfl,by simp⟩
theorem vP(S:Bs)(w:qgx):grow S w w=S:=by
 funext b
 simp only[grow,eq_iff_iff];exact⟨λh=>h.elim id λ⟨a,b⟩=>by omega,.inl⟩
theorem qk.still{g':qgC}(hs:g.status=.running)(h:∀w₁,RC Fz K S w w₁->qi7 P false g w₁=.go g' w₁ #[])(h':∀w₁,RC Fz K S w w₁->qk P Fz K Stop S g' w₁):qk P Fz K Stop S g w :=
 .step hs λw₁ h₁=>⟨g',w₁,#[],h w₁ h₁,q4w S w₁,by rw[vP];exact h' w₁ h₁⟩
end
end
end Go.Co
namespace Go.Sim
section
section
variable[JunkSet]{P:qh2}{c1 c2:qh4}{e1 e2:List qh4}
def Und(c1 c2:qh4)(e1 e2:List qh4)(r r':qjo):Prop:=∀g1 u1 es,r=.go g1 u1 es->Live g1->q7n g1 ->
 (∃pre,g1.callers=pre++c1::e1/\r'=.go { g1 with callers:=pre++c2::e2 } u1 es) \/
 (∃W:qh4->qh4,((∃v,W=(·.finish v))\/W=id)/\g1.frame=W c1/\g1.callers=e1/\r'=.go { g1 with frame:=W c2,callers:=e2 } u1 es) \/
 (∃ch,g1.frame=c1.raise ch/\g1.callers=e1)
theorem vz{r r':qjo}{es:Array qiq}(h:Und c1 c2 e1 e2 r r'):Und c1 c2 e1 e2 (qic es r) (qic es r'):=λg1 u1 es' e hl hn=>by
 obtain⟨e0,h0,rfl⟩:=j3 e;rcases h _ _ _ h0 hl hn with⟨pre,h1,h2⟩ | ⟨W,h1,h2,h3,h4⟩ | h1
 ·exact .inl ⟨pre,h1,by rw[h2];rfl⟩
 ·exact .inr (.inl ⟨W,h1,h2,h3,by rw[h4];rfl⟩)
 ·exact .inr (.inr h1)
theorem qV{o:Outcome}{u:qgx}{es:Array qiq}{r':qjo}:Und c1 c2 e1 e2 (.ended o u es) r':=λ_ _ _ e _ _=>by cases e
theorem xN{r r':qjo}(h:∀g u es,r≠.go g u es):Und c1 c2 e1 e2 r r':=λg u es e _ _=>absurd e (h g u es)
theorem qcm{g:qgC}{u:qgx}{es:Array qiq}{r':qjo}(h:¬ Live g):Und c1 c2 e1 e2 (.go g u es) r':=λ_ _ _ e hl _=>by cases e;exact absurd hl h
theorem q33{fr:qh4}{cs:List qh4}{m:String}{u:qgx}{r':qjo}:Und c1 c2 e1 e2 (qnB P fr cs none m u) r':=λg1 u1 es e hl _=>absurd hl.2 (qY e)
theorem Yr{fr:qh4}{m:String}{u:qgx}{r':qjo}:Und c1 c2 e1 e2 (qnc fr m u) r':=qcm λh=>by cases h.2
theorem yj{fr:qh4}{pre:List qh4}{st:qjH}{dy:Option qm4}{off:Option (Array qk9 × qjx)}{u:qgx}{es:Array qiq} :Und c1 c2 e1 e2 (.go { frame:=fr,callers:=pre++c1::e1,status:=st,dying:=dy,offers:=off } u es) (.go { frame:=fr,callers:=pre++c2::e2,status:=st,dying:=dy,offers:=off } u es):=λ_ _ _ e _ _=>by
 cases e;exact .inl ⟨pre,rfl,rfl⟩
theorem q6u{fr fr2:qh4}{pre:List qh4}{st:qjH}{dy:Option qm4}{off:Option (Array qk9 × qjx)}{u:qgx}{es:Array qiq} :Und c1 c2 e1 e2 (.go { frame:=fr,callers:=fr2::(pre++c1::e1),status:=st,dying:=dy,offers:=off } u es) (.go { frame:=fr,callers:=fr2::(pre++c2::e2),status:=st,dying:=dy,offers:=off } u es) :=
 yj (pre:=fr2::pre)
theorem qej{fr fr2:qh4}{X pre:List qh4}{st:qjH}{dy:Option qm4}{off:Option (Array qk9 × qjx)}{u:qgx}{es:Array qiq} :Und c1 c2 e1 e2 (.go { frame:=fr,callers:=X++fr2::(pre++c1::e1),status:=st,dying:=dy,offers:=off } u es) (.go { frame:=fr,callers:=X++fr2::(pre++c2::e2),status:=st,dying:=dy,offers:=off } u es):=λ_ _ _ e _ _=>by
 cases e;exact .inl ⟨X++fr2::pre,by simp,by simp⟩
theorem q9n{fr:qh4}{cs:List qh4}{st:qjH}{dy:Option qm4}{off:Option (Array qk9 × qjx)}{u:qgx}{es:Array qiq}{r':qjo}{x:String}{a:Array qgB}{k:List qkD}(h:fr.todo=.extern x a::k):Und c1 c2 e1 e2 (.go { frame:=fr,callers:=cs,status:=st,dying:=dy,offers:=off } u es) r':=λ_ _ _ e _ hn=>by
 cases e;exact absurd h (hn _ _ _)
structure JU(c1 c2:qh4)(e1 e2:List qh4):Prop where
 m1:c1.mode=.run
 m2:c2.mode=.run
 r1:∀fr,qhm fr (c1::e1)=none
 r2:∀fr,qhm fr (c2::e2)=none
theorem q3G{c:qh4}{e:List qh4}(hm:c.mode=.run)(hr:∀fr,qhm fr e=none)(fr:qh4):qhm fr (c::e)=none:=by
 unfold qhm;cases fr.kind with
 | deferred=>simp[hm]
 | wrapped=>simp[hr]
 | _=>rfl
theorem Ys(hR:JU c1 c2 e1 e2):∀(pre:List qh4) (fr:qh4),(qhm fr (pre++c1::e1)=none/\qhm fr (pre++c2::e2)=none)\/∃v pre',qhm fr (pre++c1::e1)=some (v,pre'++c1::e1)/\qhm fr (pre++c2::e2)=some (v,pre'++c2::e2):=by
 intro pre;induction pre with
 | nil=>intro fr;exact .inl ⟨hR.r1 fr,hR.r2 fr⟩
 | cons p pre ih=>
  intro fr;simp only[qhe];unfold qhm;cases hk:fr.kind with
  | deferred=>
   dsimp only;split
   ·exact .inr ⟨_,_::pre,rfl,rfl⟩
   ·exact .inl ⟨rfl,rfl⟩
  | wrapped=>
   dsimp only;rcases ih p with⟨h1,h2⟩ | ⟨v,pre',h1,h2⟩
   ·rw[h1,h2];exact .inl ⟨rfl,rfl⟩
   ·rw[h1,h2];exact .inr ⟨v,p::pre',rfl,rfl⟩
  | _=>exact .inl ⟨rfl,rfl⟩
theorem J4(hR:JU c1 c2 e1 e2){fr:qh4}{pre:List qh4}(b b':Bool)(v:qgB)(u:qgx):Und c1 c2 e1 e2 (qj5 P b fr (pre++c1::e1) none v u) (qj5 P b' fr (pre++c2::e2) none v u):=by
 unfold qj5;cases pre with
 | nil=>
  simp only[qho,hR.m1,hR.m2];intro g1 u1 es e _ _;cases hk:fr.kind<;>simp only[hk] at e ⊢<;>cases e
  ·exact .inr (.inl ⟨(·.finish v),.inl ⟨v,rfl⟩,rfl,rfl,rfl⟩)
  ·exact .inr (.inl ⟨id,.inr rfl,rfl,rfl,rfl⟩)
  ·exact .inr (.inl ⟨(·.finish v),.inl ⟨v,rfl⟩,rfl,rfl,rfl⟩)
  ·exact .inr (.inl ⟨id,.inr rfl,rfl,rfl,rfl⟩)
  ·exact .inr (.inl ⟨id,.inr rfl,rfl,rfl,rfl⟩)
 | cons p pre=>
  simp only[qhe];split<;>exact yj
theorem q9o{fr:qh4}{pre:List qh4}(g:Nat)(u:qgx):Und c1 c2 e1 e2 (early P fr (pre++c1::e1) none g u) (early P fr (pre++c2::e2) none g u):=by
 unfold early;dsimp only
 repeat' split
 all_goals first
  | exact yj
  | exact qV
  | exact qej
theorem xO(hrf:P.follows .rangeFuncRecover=true)(hR:JU c1 c2 e1 e2){fr:qh4}{pre:List qh4}(s:Sem qlo)(u:qgx):Und c1 c2 e1 e2 (qil P true fr (pre++c1::e1) none s u) (qil P true fr (pre++c2::e2) none s u):=by
 unfold qil;simp only[if_true,qhA,hrf];refine vz ?_;cases s.run P u with
 | ok a w=>
  cases a with
  | recover=>
   rcases Ys hR pre fr with⟨h1,h2⟩ | ⟨v,pre',h1,h2⟩<;>cases hro:fr.roundOf<;>simp only[h1,h2,hro]<;>exact yj
  | stack r sv=>
   dsimp only;split
   ·exact q9n rfl
   ·exact q9n rfl
  | spawn d=>
   dsimp only
   repeat' split
   all_goals first
    | exact Yr
    | exact xN (λ_ _ _ e=>by cases e)
  | _=>
   dsimp only
   repeat' split
   all_goals first
    | exact yj
    | exact q6u
    | exact xN (λ_ _ _ e=>by cases e)
 | halt x w=>
  cases x with
  | fatal m=>exact q33
  | throw m=>exact Yr
  | unsupported x=>cases x<;>first | exact q9o _ _ | exact qV
  | _=>first | exact yj | exact qV
theorem q34(hR:JU c1 c2 e1 e2){fr:qh4}{pre:List qh4}(d:qiG)(u:qgx):Und c1 c2 e1 e2 (qj0 P fr (pre++c1::e1) none d u) (qj0 P fr (pre++c2::e2) none d u):=by
 unfold qj0;by_cases hc:(kF d.target && kE fr.mode)=true
 ·have:∀(a b r':qjo),(∃o u es,a=.ended o u es)->Und c1 c2 e1 e2 (if(kF d.target && kE fr.mode)=true then a else b) r':=λa b r' ⟨o,u,es,e⟩=>by
   rw[if_pos hc,e];exact qV
  exact this _ _ _ ⟨_,_,_,rfl⟩
 have a6:∀(a b a' b':qjo),Und c1 c2 e1 e2 b b'->Und c1 c2 e1 e2 (if(kF d.target && kE fr.mode)=true then a else b) (if(kF d.target && kE fr.mode)=true then a' else b'):=λa b a' b' hb=>by rw[if_neg hc,if_neg hc];exact hb
 refine a6 _ _ _ _ ?_;simp only[qhA];refine vz ?_;cases qih P (invoke d.target d.args) u with
 | ok a w=>
  cases a with
  | recover=>
   dsimp only;rcases Ys hR pre fr with⟨h1,h2⟩ | ⟨v,pre',h1,h2⟩<;>rw[h1,h2]<;>cases fr.mode<;>exact yj
  | coroswitch c e=>cases e<;>first | exact qV | exact xN (λ_ _ _ e=>by cases e)
  | alone on v=>cases on<;>first | exact qV | exact xN (λ_ _ _ e=>by cases e)
  | _=>
   first
    | exact yj
    | exact q6u
    | exact qV
    | exact xN (λ_ _ _ e=>by cases e)
 | halt x w=>
  cases x with
  | fatal m=>exact q33
  | throw m=>exact Yr
  | _=>first | exact yj | exact qV
theorem q0j(hR:JU c1 c2 e1 e2){fr:qh4}{pre:List qh4}(b b':Bool)(u:qgx):Und c1 c2 e1 e2 (qlm P b fr (pre++c1::e1) none u) (qlm P b' fr (pre++c2::e2) none u):=by
 unfold qlm;split
 ·simp only[qhA];refine vz ?_;split
  ·exact yj
  ·exact qV
 ·exact q34 hR _ _
 ·split
  ·exact qV
  ·split
   ·exact qV
   ·cases pre with
    | nil=>
     intro g1 u1 es e _ _;cases e;exact .inr (.inr ⟨_,rfl,rfl⟩)
    | cons p pre=>exact yj
  ·split
   ·exact J4 hR _ _ _ _
   ·simp only[qhA];refine vz ?_;split
    ·exact J4 hR _ _ _ _
    all_goals exact qV
theorem qcl(hrf:P.follows .rangeFuncRecover=true)(hR:JU c1 c2 e1 e2){fr:qh4}{pre:List qh4}(b b':Bool)(u:qgx) :Und c1 c2 e1 e2 (qk8 P b true fr (pre++c1::e1) none u) (qk8 P b' true fr (pre++c2::e2) none u):=by
 have a6:∀(j:Bool) (jj:Option qje) (s s':String),Und c1 c2 e1 e2 (match fr.roundOf with
   | none=>if j=true then .go { frame:={ fr with mode:=.returning },callers:=pre++c1::e1,status:=.running,dying:=none } u else .ended (.stuck s (fr.pos P)) u
   | some l=>
    let (r,es):=(qjG l jj).runT P u #[]
    qic (seen P fr.fn es) <| match r with
    | .ok v w=>qj5 P b fr (pre++c1::e1) none v w
    | .halt _ w=>.ended (.stuck s' (fr.pos P)) w) (match fr.roundOf with
   | none=>if j=true then .go { frame:={ fr with mode:=.returning },callers:=pre++c2::e2,status:=.running,dying:=none } u else .ended (.stuck s (fr.pos P)) u
   | some l=>
    let (r,es):=(qjG l jj).runT P u #[]
    qic (seen P fr.fn es) <| match r with
    | .ok v w=>qj5 P b' fr (pre++c2::e2) none v w
    | .halt _ w=>.ended (.stuck s' (fr.pos P)) w):=λj jj s s'=>by
  split
  ·split
   ·exact yj
   ·exact qV
  ·simp only[qhA];refine vz ?_;split
   ·exact J4 hR _ _ _ _
   ·exact qV
 unfold qk8;dsimp only;split
 ·exact a6 true _ _ _
 ·exact a6 true _ _ _
 all_goals first
  | exact yj
  | exact qV
  | exact xO hrf hR _ _
  | (
    generalize qmh _ _=X;cases X
    ·exact a6 false _ _ _
    ·exact yj)
  | (
    generalize qmH _ _=X;cases X
    ·exact a6 false _ _ _
    ·exact yj)
  | (
    unfold qnq
    repeat' split
    all_goals first
     | exact yj
     | exact qV
     | exact xO hrf hR _ _)
  | (
    simp only[qhA];refine vz ?_
    repeat' split
    all_goals first
     | exact yj
     | exact qV
     | exact xO hrf hR _ _)
  | (
    repeat' split
    all_goals first
     | exact yj
     | exact qV
     | exact xO hrf hR _ _)
  | (
    generalize Extern.next _=X
    cases X
    ·exact qV
    ·exact xO hrf hR _ _)
theorem q59(hrf:P.follows .rangeFuncRecover=true)(hR:JU c1 c2 e1 e2){g:qgC}{pre:List qh4}(h:g.callers=pre++c1::e1)(hd:g.dying=none)(b b':Bool)(u:qgx) :Und c1 c2 e1 e2 (qi7 P b g u true) (qi7 P b' { g with callers:=pre++c2::e2 } u true):=by
 obtain⟨fr,cs,st,dy,off⟩:=g;dsimp only at h hd;subst hd;subst h;unfold qi7;dsimp only;cases fr.mode with
 | run=>exact qcl hrf hR b b' u
 | returning=>exact q0j hR b b' u
 | panicking l=>exact q0j hR b b' u
end
end
section
def tl(k:List qkD)(D:List qiG)(fr:qh4):qh4:={ fr with todo:=fr.todo++k,defers:=fr.defers++D }
def qed:qkD->Bool
 | .call .. | .extern ..=>false
 | _=>true
structure Pc(fr:qh4):Prop where
 mode:fr.mode=.run
 round:fr.roundOf=none
 todo:∃x l,fr.todo=x::l/\qed x=true
section
variable[JunkSet]{P:qh2}{k:List qkD}{D:List qiG}{e1 e2:List qh4}
def Top(k:List qkD)(D:List qiG)(e1 e2:List qh4)(r r':qjo):Prop:=∀g1 u1 es,r=.go g1 u1 es->Live g1->q7n g1 ->
 (g1.callers=e1/\g1.frame.mode=.run/\g1.frame.roundOf=none/\r'=.go { g1 with frame:=tl k D g1.frame,callers:=e2 } u1 es) \/
 (∃pre c,g1.callers=pre++c::e1/\Pc c/\r'=.go { g1 with callers:=pre++tl k D c::e2 } u1 es) \/
 (g1.callers=e1/\g1.frame.mode≠.run)
theorem Yu{r r':qjo}{es:Array qiq}(h:Top k D e1 e2 r r'):Top k D e1 e2 (qic es r) (qic es r'):=λg1 u1 es' e hl hn=>by
 obtain⟨e0,h0,rfl⟩:=j3 e;rcases h _ _ _ h0 hl hn with⟨h1,h2,h3,h5⟩ | ⟨pre,c,h1,h2,h3⟩ | h1
 ·exact .inl ⟨h1,h2,h3,by rw[h5];rfl⟩
 ·exact .inr (.inl ⟨pre,c,h1,h2,by rw[h3];rfl⟩)
 ·exact .inr (.inr h1)
theorem zX{o:Outcome}{u:qgx}{es:Array qiq}{r':qjo}:Top k D e1 e2 (.ended o u es) r':=λ_ _ _ e _ _=>by cases e
theorem q38{r r':qjo}(h:∀g u es,r≠.go g u es):Top k D e1 e2 r r':=λg u es e _ _=>absurd e (h g u es)
theorem Y7{g:qgC}{u:qgx}{es:Array qiq}{r':qjo}(h:¬ Live g):Top k D e1 e2 (.go g u es) r':=λ_ _ _ e hl _=>by cases e;exact absurd hl h
theorem q9v{fr:qh4}{cs:List qh4}{m:String}{u:qgx}{r':qjo}:Top k D e1 e2 (qnB P fr cs none m u) r':=λg1 u1 es e hl _=>absurd hl.2 (qY e)
theorem q37{fr:qh4}{m:String}{u:qgx}{r':qjo}:Top k D e1 e2 (qnc fr m u) r':=Y7 λh=>by cases h.2
theorem q9u{fr:qh4}(hm:fr.mode=.run)(hr:fr.roundOf=none){st:qjH}{dy:Option qm4}{off:Option (Array qk9 × qjx)}{u:qgx}{es:Array qiq}{a6:qh4}(e:a6=tl k D fr) :Top k D e1 e2 (.go { frame:=fr,callers:=e1,status:=st,dying:=dy,offers:=off } u es) (.go { frame:=a6,callers:=e2,status:=st,dying:=dy,offers:=off } u es):=λ_ _ _ h _ _=>by
 cases h;exact .inl ⟨rfl,hm,hr,by rw[e]⟩
theorem Zx{fr c:qh4}(hc:Pc c){X:List qh4}{st:qjH}{dy:Option qm4}{off:Option (Array qk9 × qjx)}{u:qgx}{es:Array qiq} :Top k D e1 e2 (.go { frame:=fr,callers:=X++c::e1,status:=st,dying:=dy,offers:=off } u es) (.go { frame:=fr,callers:=X++tl k D c::e2,status:=st,dying:=dy,offers:=off } u es):=λ_ _ _ h _ _=>by
 cases h;exact .inr (.inl ⟨X,c,rfl,hc,rfl⟩)
theorem qel{fr:qh4}{cs:List qh4}{st:qjH}{dy:Option qm4}{off:Option (Array qk9 × qjx)}{u:qgx}{es:Array qiq}{r':qjo}{x:String}{a:Array qgB}{l:List qkD}(h:fr.todo=.extern x a::l):Top k D e1 e2 (.go { frame:=fr,callers:=cs,status:=st,dying:=dy,offers:=off } u es) r':=λ_ _ _ e _ hn=>by
 cases e;exact absurd h (hn _ _ _)
theorem q1C{fr:qh4}(hm:fr.mode≠.run){st:qjH}{dy:Option qm4}{off:Option (Array qk9 × qjx)}{u:qgx}{es:Array qiq}{r':qjo} :Top k D e1 e2 (.go { frame:=fr,callers:=e1,status:=st,dying:=dy,offers:=off } u es) r':=λ_ _ _ h _ _=>by
 cases h;exact .inr (.inr ⟨rfl,hm⟩)
theorem kw(fr:qh4)(ch:List qlG):(fr.raise ch).mode≠.run:=by
 unfold qpf;split<;>simp
theorem qco(fr:qh4):(tl k D fr).eval=fr.eval:=by funext x;cases x<;>rfl
theorem q0o{fr:qh4}(h:Pc fr)(v:qgB):(tl k D fr).finish v=tl k D (fr.finish v):=by
 obtain⟨x,l,e,hp⟩:=h.todo;obtain⟨fn,tmps,todo,defers,mode,kind,ro⟩:=fr;dsimp only at e;subst e;unfold tl qoE;cases x with
 | inRegion ops is=>cases is<;>rfl
 | call=>cases hp
 | extern=>cases hp
 | _=>rfl
theorem Qg(fr:qh4)(v:qgB):(fr.finish v).mode=fr.mode/\(fr.finish v).kind=fr.kind/\(fr.finish v).roundOf=fr.roundOf:=by
 unfold qoE;split<;>exact⟨rfl,rfl,rfl⟩
theorem Yt{fr:qh4}(h:Pc fr)(v:qgB){st:qjH}{dy:Option qm4}{off:Option (Array qk9 × qjx)}{u:qgx}{es:Array qiq} :Top k D e1 e2 (.go { frame:=fr.finish v,callers:=e1,status:=st,dying:=dy,offers:=off } u es) (.go { frame:=(tl k D fr).finish v,callers:=e2,status:=st,dying:=dy,offers:=off } u es):=by
 obtain⟨h1,h2,h3⟩:=Qg fr v;exact q9u (h1.trans h.mode) (h3.trans h.round) (q0o h v)
theorem q9w{fr:qh4}(h:Pc fr)(g:Nat)(u:qgx):Top k D e1 e2 (early P fr e1 none g u) (early P (tl k D fr) e2 none g u):=by
 have hg:∀{u:qgx} {es:Array qiq},Top k D e1 e2 (.go { frame:=fr,callers:=e1,status:=.running,dying:=none } u es) (.go { frame:=tl k D fr,callers:=e2,status:=.running,dying:=none } u es):=q9u h.mode h.round rfl;unfold early;have hk:(tl k D fr).kind=fr.kind:=rfl;dsimp only;simp only[hk]
 repeat' split
 all_goals first
  | exact hg
  | exact zX
  | exact Zx h
theorem q39(hrf:P.follows .rangeFuncRecover=true)(a8:∀fr,qhm fr e1=none)(a7:∀fr,qhm fr e2=none){fr:qh4}(h:Pc fr)(s:Sem qlo)(u:qgx):Top k D e1 e2 (qil P true fr e1 none s u) (qil P true (tl k D fr) e2 none s u):=by
 obtain⟨fn,tmps,todo,defers,mode,kind,ro⟩:=fr;obtain⟨h1,h3,h4⟩:=h;dsimp only at h1 h3;subst h1 h3;obtain⟨fr,a6⟩:∃fr:qh4,fr={ fn,tmps,todo,defers,mode:=.run,kind,roundOf:=none }:=⟨_,rfl⟩;have h:Pc { fn,tmps,todo,defers,mode:=.run,kind,roundOf:=none }:=⟨rfl,rfl,h4⟩;rw[<- a6] at h ⊢;obtain⟨x,l,e,hp⟩:=h.todo;have hro:(tl k D fr).roundOf=none:=h.round;have a9:(tl k D fr).kind=fr.kind:=rfl;have hfn:(tl k D fr).fn=fr.fn:=rfl;have ht:(tl k D fr).todo=x::(l++k):=by show fr.todo++k=_;rw[e];rfl
 have b0:∀d:qiG,({ (tl k D fr) with defers:=d::(tl k D fr).defers }:qh4)=tl k D { fr with defers:=d::fr.defers }:=λd=>rfl;unfold qil;simp only[if_true,qhA,hrf,h.round,hro,a9,hfn];refine Yu ?_;cases s.run P u with
 | ok a w=>
  cases a with
  | recover=>
   simp only[a8,a7];exact Yt h _
  | stack r sv=>
   dsimp only;rw[e,ht];cases x<;>first | (cases hp;done) | exact qel rfl
  | spawn d=>
   dsimp only
   repeat' split
   all_goals first
    | exact q37
    | exact q38 (λ_ _ _ e=>by cases e)
  | value v=>exact Yt h v
  | skip=>exact Yt h _
  | defer d=>
   subst a6;have hP:Pc { fn,tmps,todo,defers:=d::defers,mode:=.run,kind,roundOf:=none }:=⟨rfl,rfl,h4⟩;exact Yt (k:=k) (D:=D) hP qgD
  | enter f args=>
   dsimp only;rw[e,ht];cases x<;>first | (cases hp;done) | exact(Zx (X:=[]) h)
  | callThen d r sv wr=>
   dsimp only;rw[e,ht];cases x<;>first | (cases hp;done) | exact(Zx (X:=[]) h)
  | row r args=>
   dsimp only;rw[e,ht];cases x<;>first | (cases hp;done) | exact(Zx (X:=[]) h)
  | round l f tm ag bd=>exact(Zx (X:=[]) h)
  | sleep t=>exact Y7 λhl=>by cases hl.1
  | _=>exact q38 (λ_ _ _ e=>by cases e)
 | halt x w=>
  cases x with
  | fatal m=>exact q9v
  | throw m=>exact q37
  | unsupported x=>cases x<;>first | exact q9w h _ _ | exact zX
  | panic v=>exact q1C (kw _ _)
  | goexit=>exact q1C (kw _ _)
  | blocked=>exact Y7 λhl=>by cases hl.1
  | waiting=>exact Y7 λhl=>by cases hl.1
  | _=>exact zX
theorem Zp{id:Nat}{k':List qkD}:∀{l:List qkD},qmh id l=some k'->qmh id (l++k)=some (k'++k)
 | [],h=>by simp[qmh] at h
 | x::l,h=>by
  cases x with
  | inBlock id'=>
   simp only[qmh,qhe] at h ⊢;split
   ·rename_i he;rw[if_pos he] at h;cases h;rfl
   ·rename_i he;rw[if_neg he] at h;exact Zp h
  | _=>simp only[qmh,qhe] at h ⊢;exact Zp h
theorem Zk{id:Nat}{k':List qkD}:∀{l:List qkD},qmH id l=some k'->qmH id (l++k)=some (k'++k)
 | [],h=>by simp[qmH] at h
 | x::l,h=>by
  cases x with
  | inScope body=>
   simp only[qmH,qhe] at h ⊢;cases hf:findLabel body id with
   | none=>rw[hf] at h;exact Zk h
   | some r=>rw[hf] at h;cases h;rfl
  | _=>simp only[qmH,qhe] at h ⊢;exact Zk h
theorem q9x(hrf:P.follows .rangeFuncRecover=true)(b0:∀fr,qhm fr e1=none)(a9:∀fr,qhm fr e2=none){g:qgC}(h:Pc g.frame)(hc:g.callers=e1)(hd:g.dying=none)(b b':Bool)(u:qgx) :Top k D e1 e2 (qi7 P b g u true) (qi7 P b' { g with frame:=tl k D g.frame,callers:=e2 } u true):=by
 obtain⟨⟨fn,tmps,todo,defers,mode,kind,ro⟩,cs,st,dy,off⟩:=g;dsimp only at h hc hd;subst hd;subst hc;obtain⟨h1,h3,h4⟩:=h;dsimp only at h1 h3;subst h1 h3;obtain⟨fr,b6⟩:∃fr:qh4,fr={ fn,tmps,todo,defers,mode:=.run,kind,roundOf:=none }:=⟨_,rfl⟩;have h:Pc { fn,tmps,todo,defers,mode:=.run,kind,roundOf:=none }:=⟨rfl,rfl,h4⟩;rw[<- b6] at h ⊢;obtain⟨x,l,e,hp⟩:=h.todo;have hm:=h.mode;have hro:=h.round;have a6:∀(t:List qkD) {st:qjH} {dy:Option qm4} {off:Option (Array qk9 × qjx)} {u:qgx} {es:Array qiq},
   Top k D cs e2 (.go { frame:={ fr with todo:=t },callers:=cs,status:=st,dying:=dy,offers:=off } u es) (.go { frame:={ (tl k D fr) with todo:=t++k },callers:=e2,status:=st,dying:=dy,offers:=off } u es):=λt=>q9u (fr:={ fr with todo:=t }) h.mode h.round rfl
 have ha:∀(s:Sem qlo) (u:qgx),Top k D cs e2 (qil P true fr cs none s u) (qil P true (tl k D fr) e2 none s u):=λs u=>q39 hrf b0 a9 h s u;have ht:(tl k D fr).todo=x::(l++k):=by show fr.todo++k=_;rw[e];rfl
 have b8:(tl k D fr).mode=.run:=hm;have a7:(tl k D fr).roundOf=none:=hro;have b7:(tl k D fr).eval=fr.eval:=qco fr;have hfn:(tl k D fr).fn=fr.fn:=rfl;have a8:(tl k D fr).tmps=fr.tmps:=rfl;unfold qi7;dsimp only;rw[hm,b8];dsimp only;unfold qk8;dsimp only;rw[e,ht];cases x with
 | code c=>
  cases c with
  | skip=>exact a6 l
  | label n=>exact a6 l
  | seq a b=>exact a6 (.code a::.code b::l)
  | block id body=>exact a6 (.code body::.inBlock id::l)
  | loop body=>exact a6 (.code body::.inLoop body::l)
  | scope body=>exact a6 (.code body::.inScope body::l)
  | refuse w=>exact zX
  | ret=>
   dsimp only;rw[hro];exact q1C (by simp)
  | cond c a b=>
   dsimp only;rw[b7];split
   ·exact a6 (_::l)
   ·exact zX
  | exit id=>
   dsimp only;cases hx:qmh id l with
   | none=>simp only[qqA,hro];exact zX
   | some k1=>rw[Zp hx];exact a6 k1
  | goto id=>
   dsimp only;cases hx:qmH id l with
   | none=>simp only[qqA,hro];exact zX
   | some k1=>rw[Zk hx];exact a6 k1
  | region id ops draw=>
   dsimp only;split
   ·exact a6 (.inRegion ops (qht ops.size)::l)
   ·rw[hfn];split
    ·exact a6 (.inRegion ops _::l)
    ·exact zX
  | rangeFunc fv ps as body=>
   dsimp only;rw[hfn,a8,hro,a7];simp only[qhA];refine Yu ?_;split
   ·rename_i lm mk w _
    subst b6;have hP:Pc { fn,tmps,todo:=.inRangeFunc lm::l,defers:=mk++defers,mode:=.run,kind,roundOf:=none }:=⟨rfl,rfl,_,_,rfl,rfl⟩;have:=q39 (k:=k) (D:=D) (e1:=cs) (e2:=e2) (P:=P) hrf b0 a9 hP (do let d <- resolve (qlv { fn,tmps,todo:=.inRangeFunc lm::l,defers:=mk++defers,mode:=.run,kind,roundOf:=none }) { callee:=.value fv,args:=#[.const (.func (.yield lm) #[] #[])],argTypes:=#[] } 0;invoke d.target d.args) w;have e5:tl k D { fn,tmps,todo:=.inRangeFunc lm::l,defers:=mk++defers,mode:=.run,kind,roundOf:=none }={ fn,tmps,todo:=.inRangeFunc lm::(l++k),defers:=mk++(defers++D),mode:=.run,kind,roundOf:=none }:=by
     simp[tl]
    rw[e5] at this;exact this
   ·exact zX
 | inBlock id=>exact a6 l
 | inScope c=>exact a6 l
 | inLoop body=>exact a6 (.code body::.inLoop body::l)
 | inRangeFunc n=>exact zX
 | beginRound=>
  dsimp only;rw[hro,a7];exact ha _ u
 | endRangeFunc n=>
  dsimp only;rw[hfn];simp only[qhA];refine Yu ?_;split
  ·rename_i j w _
   have:=a6 ((j.map Item.code).toList++l) (st:=.running) (dy:=none) (off:=none) (u:=w) (es:=#[]);rw[qjp] at this;exact this
  ·exact q1C (kw _ _)
  ·exact zX
 | inRegion ops is=>
  cases is with
  | nil=>exact a6 l
  | cons i is=>
   dsimp only;rw[a8];split
   ·unfold qnq;have ho:(tl k D fr).oper?=fr.oper?:=by unfold Frame.oper?;rw[e,ht]
    rw[ho];split
    ·exact zX
    ·rw[hro,a7,b7];exact ha _ u
   ·exact Yt h qgD
 | call=>cases hp
 | extern=>cases hp
end
end
section
def qe0(e1:List qh4)(g:qgC):Prop:=(g.callers=e1/\g.frame.mode≠.run)\/∃pre c,g.callers=pre++c::e1/\c.mode≠.run
section
variable[JunkSet]{P:qh2}{e1:List qh4}
def Dm(e1:List qh4)(r:qjo):Prop:=∀g1 u1 es,r=.go g1 u1 es->Live g1->qe0 e1 g1\/(∃x,e1=x::g1.callers)
theorem ye{r:qjo}{es:Array qiq}(h:Dm e1 r):Dm e1 (qic es r):=λg1 u1 es' e hl=>by
 obtain⟨e0,h0,rfl⟩:=j3 e;exact h _ _ _ h0 hl
theorem qL{o:Outcome}{u:qgx}{es:Array qiq}:Dm e1 (.ended o u es):=λ_ _ _ e _=>by cases e
theorem yR{r:qjo}(h:∀g u es,r≠.go g u es):Dm e1 r:=λg u es e _=>absurd e (h g u es)
theorem qdp{g:qgC}{u:qgx}{es:Array qiq}(h:¬ Live g):Dm e1 (.go g u es):=λ_ _ _ e hl=>by cases e;exact absurd hl h
theorem Kr{fr:qh4}{cs:List qh4}{m:String}{u:qgx}:Dm e1 (qnB P fr cs none m u):=λg1 u1 es e hl=>absurd hl.2 (qY e)
theorem ZW{fr:qh4}{m:String}{u:qgx}:Dm e1 (qnc fr m u):=qdp λh=>by cases h.2
theorem jO{fr c:qh4}{pre:List qh4}(hc:c.mode≠.run){st:qjH}{dy:Option qm4}{off:Option (Array qk9 × qjx)}{u:qgx}{es:Array qiq} :Dm e1 (.go { frame:=fr,callers:=pre++c::e1,status:=st,dying:=dy,offers:=off } u es):=λ_ _ _ e _=>by
 cases e;exact .inl (.inr ⟨pre,c,rfl,hc⟩)
theorem q7e{fr fr2 c:qh4}{pre:List qh4}(hc:c.mode≠.run){st:qjH}{dy:Option qm4}{off:Option (Array qk9 × qjx)}{u:qgx}{es:Array qiq} :Dm e1 (.go { frame:=fr,callers:=fr2::(pre++c::e1),status:=st,dying:=dy,offers:=off } u es):=jO (pre:=fr2::pre) hc
theorem qf9{fr fr2 c:qh4}{X pre:List qh4}(hc:c.mode≠.run){st:qjH}{dy:Option qm4}{off:Option (Array qk9 × qjx)}{u:qgx}{es:Array qiq} :Dm e1 (.go { frame:=fr,callers:=X++fr2::(pre++c::e1),status:=st,dying:=dy,offers:=off } u es):=λ_ _ _ e _=>by
 cases e;exact .inl (.inr ⟨X++fr2::pre,c,by simp,hc⟩)
theorem vg{fr:qh4}(hc:fr.mode≠.run){st:qjH}{dy:Option qm4}{off:Option (Array qk9 × qjx)}{u:qgx}{es:Array qiq} :Dm e1 (.go { frame:=fr,callers:=e1,status:=st,dying:=dy,offers:=off } u es):=λ_ _ _ e _=>by
 cases e;exact .inl (.inl ⟨rfl,hc⟩)
theorem q6g:∀(pre:List qh4) (fr c:qh4) (v:qgB) (cs:List qh4),c.mode≠.run->qhm fr (pre++c::e1)=some (v,cs)->(∀fr,qhm fr e1=none)->∃pre' c',cs=pre'++c'::e1/\c'.mode≠.run:=by
 intro pre;induction pre with
 | nil=>
  intro fr c v cs hc h hR;simp only[qho] at h;unfold qhm at h;cases hk:fr.kind with
  | deferred=>
   rw[hk] at h;dsimp only at h;split at h
   ·simp only[qhH,Prod.mk.injEq] at h;exact⟨[],_,h.2.symm,by simp⟩
   ·cases h
  | wrapped=>
   rw[hk] at h;dsimp only at h;rw[hR] at h;cases h
  | _=>rw[hk] at h;cases h
 | cons p pre ih=>
  intro fr c v cs hc h hR;simp only[qhe] at h;unfold qhm at h;cases hk:fr.kind with
  | deferred=>
   rw[hk] at h;dsimp only at h;split at h
   ·simp only[qhH,Prod.mk.injEq] at h;exact⟨_::pre,c,h.2.symm,hc⟩
   ·cases h
  | wrapped=>
   rw[hk] at h;dsimp only at h;cases ht:qhm p (pre++c::e1) with
   | none=>rw[ht] at h;cases h
   | some x=>
    obtain⟨v',k'⟩:=x;rw[ht] at h;simp only[qip,qhH,Prod.mk.injEq] at h;obtain⟨pre',c',e,a6⟩:=ih _ _ _ _ hc ht hR;exact⟨p::pre',c',by rw[<- h.2,e];rfl,a6⟩
  | _=>rw[hk] at h;cases h
theorem q1n(fr:qh4)(v:qgB):(fr.finish v).mode=fr.mode:=(Qg fr v).1
theorem Jp{fr c:qh4}{pre:List qh4}(hc:c.mode≠.run)(b:Bool)(v:qgB)(u:qgx):Dm e1 (qj5 P b fr (pre++c::e1) none v u):=by
 unfold qj5;cases pre with
 | nil=>
  simp only[qho];split
  ·exact vg (by rw[q1n];exact hc)
  ·exact vg (by rw[q1n];exact hc)
  ·exact vg hc
  ·refine vg ?_;split
   ·split<;>simp
   ·exact hc
 | cons p pre=>
  simp only[qhe];split<;>exact jO hc
theorem qbB{fr c:qh4}{pre:List qh4}(hc:c.mode≠.run)(g:Nat)(u:qgx):Dm e1 (early P fr (pre++c::e1) none g u):=by
 unfold early;dsimp only
 repeat' split
 all_goals first
  | exact jO hc
  | exact qL
  | exact qf9 hc
variable(hrf:P.follows .rangeFuncRecover=true)(hR:∀fr,qhm fr e1=none)
include hR
theorem qbz{fr c:qh4}{pre:List qh4}(hc:c.mode≠.run){v:qgB}{cs:List qh4}(h:qhm fr (pre++c::e1)=some (v,cs)){a7:qh4}{u:qgx}{es:Array qiq}:Dm e1 (.go { frame:=a7,callers:=cs,status:=.running,dying:=none } u es):=by
 obtain⟨pre',c',e,a6⟩:=q6g pre fr c v cs hc h hR;rw[e];exact jO a6
theorem Qk(hrf:P.follows .rangeFuncRecover=true){fr c:qh4}{pre:List qh4}(hc:c.mode≠.run)(s:Sem qlo)(u:qgx):Dm e1 (qil P true fr (pre++c::e1) none s u):=by
 unfold qil;simp only[if_true,qhA,hrf];refine ye ?_;cases s.run P u with
 | ok a w=>
  cases a with
  | recover=>
   rcases hX:qhm fr (pre++c::e1) with _ | ⟨v,k⟩<;>cases hro:fr.roundOf<;>simp only[hX,hro]<;>first | exact qbz hR hc hX | exact jO hc
  | spawn d=>
   dsimp only
   repeat' split
   all_goals first
    | exact ZW
    | exact yR (λ_ _ _ e=>by cases e)
  | _=>
   dsimp only
   repeat' split
   all_goals first
    | exact jO hc
    | exact q7e hc
    | exact yR (λ_ _ _ e=>by cases e)
 | halt x w=>
  cases x with
  | fatal m=>exact Kr
  | throw m=>exact ZW
  | unsupported x=>cases x<;>first | exact qbB hc _ _ | exact qL
  | _=>first | exact jO hc | exact qL
theorem q4v{fr c:qh4}{pre:List qh4}(hc:c.mode≠.run)(d:qiG)(u:qgx):Dm e1 (qj0 P fr (pre++c::e1) none d u):=by
 unfold qj0;by_cases a6:(kF d.target && kE fr.mode)=true
 ·have:∀(a b:qjo),(∃o u es,a=.ended o u es)->Dm e1 (if(kF d.target && kE fr.mode)=true then a else b):=λa b ⟨o,u,es,e⟩=>by
   rw[if_pos a6,e];exact qL
  exact this _ _ ⟨_,_,_,rfl⟩
 have a7:∀(a b:qjo),Dm e1 b->Dm e1 (if(kF d.target && kE fr.mode)=true then a else b):=λa b hb=>by rw[if_neg a6];exact hb
 refine a7 _ _ ?_;simp only[qhA];refine ye ?_;cases qih P (invoke d.target d.args) u with
 | ok a w=>
  cases a with
  | recover=>
   dsimp only;split
   ·rename_i hX
    exact qbz hR hc hX
   ·exact jO hc
  | coroswitch c e=>cases e<;>first | exact qL | exact yR (λ_ _ _ e=>by cases e)
  | alone on v=>cases on<;>first | exact qL | exact yR (λ_ _ _ e=>by cases e)
  | _=>
   first
    | exact jO hc
    | exact q7e hc
    | exact qL
    | exact yR (λ_ _ _ e=>by cases e)
 | halt x w=>
  cases x with
  | fatal m=>exact Kr
  | throw m=>exact ZW
  | _=>first | exact jO hc | exact qL
theorem q1r{fr c:qh4}{pre:List qh4}(hc:c.mode≠.run)(b:Bool)(u:qgx):Dm e1 (qlm P b fr (pre++c::e1) none u):=by
 unfold qlm;split
 ·simp only[qhA];refine ye ?_;split
  ·exact jO hc
  ·exact qL
 ·exact q4v hR hc _ _
 ·split
  ·exact qL
  ·split
   ·exact qL
   ·cases pre with
    | nil=>exact vg (kw _ _)
    | cons p pre=>exact jO hc
  ·split
   ·exact Jp hc _ _ _
   ·simp only[qhA];refine ye ?_;split
    ·exact Jp hc _ _ _
    all_goals exact qL
theorem qdo(hrf:P.follows .rangeFuncRecover=true){fr c:qh4}{pre:List qh4}(hc:c.mode≠.run)(b:Bool)(u:qgx):Dm e1 (qk8 P b true fr (pre++c::e1) none u):=by
 have a6:∀(j:Bool) (jj:Option qje) (s s':String),Dm e1 (match fr.roundOf with
   | none=>if j=true then .go { frame:={ fr with mode:=.returning },callers:=pre++c::e1,status:=.running,dying:=none } u else .ended (.stuck s (fr.pos P)) u
   | some l=>
    let (r,es):=(qjG l jj).runT P u #[]
    qic (seen P fr.fn es) <| match r with
    | .ok v w=>qj5 P b fr (pre++c::e1) none v w
    | .halt _ w=>.ended (.stuck s' (fr.pos P)) w):=λj jj s s'=>by
  split
  ·split
   ·exact jO hc
   ·exact qL
  ·simp only[qhA];refine ye ?_;split
   ·exact Jp hc _ _ _
   ·exact qL
 unfold qk8;dsimp only;split
 ·exact a6 true _ _ _
 ·exact a6 true _ _ _
 all_goals first
  | exact jO hc
  | exact qL
  | exact Qk hR hrf hc _ _
  | (
    generalize qmh _ _=X;cases X
    ·exact a6 false _ _ _
    ·exact jO hc)
  | (
    generalize qmH _ _=X;cases X
    ·exact a6 false _ _ _
    ·exact jO hc)
  | (
    unfold qnq
    repeat' split
    all_goals first
     | exact jO hc
     | exact qL
     | exact Qk hR hrf hc _ _)
  | (
    simp only[qhA];refine ye ?_
    repeat' split
    all_goals first
     | exact jO hc
     | exact qL
     | exact Qk hR hrf hc _ _)
  | (
    repeat' split
    all_goals first
     | exact jO hc
     | exact qL
     | exact Qk hR hrf hc _ _)
  | (
    generalize Extern.next _=X
    cases X
    ·exact qL
    ·exact Qk hR hrf hc _ _)
theorem qdn{fr x:qh4}(hc:fr.mode≠.run)(b:Bool)(u:qgx)(h1:∀fr,qhm fr (x::e1)=none):Dm (x::e1) (qlm P b fr (x::e1) none u):=by
 have a6:∀{fr2:qh4} {st:qjH} {dy:Option qm4} {off:Option (Array qk9 × qjx)} {u:qgx} {es:Array qiq} {fr:qh4},fr.mode≠.run->Dm (x::e1) (.go { frame:=fr2,callers:=fr::x::e1,status:=st,dying:=dy,offers:=off } u es):=λh=>jO (pre:=[]) h;have a7:∀{fr2:qh4} {st:qjH} {dy:Option qm4} {off:Option (Array qk9 × qjx)} {u:qgx} {es:Array qiq},Dm (x::e1) (.go { frame:=fr2,callers:=e1,status:=st,dying:=dy,offers:=off } u es):=λ_ _ _ e _=>by
  cases e;exact .inr ⟨x,rfl⟩
 have ret:∀(v:qgB) (u:qgx),Dm (x::e1) (qj5 P b fr (x::e1) none v u):=λv u=>by
  unfold qj5;dsimp only;split<;>exact a7
 unfold qlm;split
 ·simp only[qhA];refine ye ?_;split
  ·(refine vg ?_;exact hc)
  ·exact qL
 ·rename_i d ds _ _
  unfold qj0;by_cases a8:(kF d.target && kE fr.mode)=true
  ·have:∀(a b:qjo),(∃o u es,a=.ended o u es)->Dm (x::e1) (if(kF d.target && kE fr.mode)=true then a else b):=λa b ⟨o,u,es,e⟩=>by
    rw[if_pos a8,e];exact qL
   exact this _ _ ⟨_,_,_,rfl⟩
  have a9:∀(a b:qjo),Dm (x::e1) b->Dm (x::e1) (if(kF d.target && kE fr.mode)=true then a else b):=λa b hb=>by rw[if_neg a8];exact hb
  refine a9 _ _ ?_;simp only[qhA];refine ye ?_;cases qih P (invoke d.target d.args) u with
  | ok a w=>
   cases a with
   | recover=>
    dsimp only;rw[h1];split
    ·rename_i hX;cases hX
    ·(refine vg ?_;exact hc)
   | coroswitch c e=>cases e<;>first | exact qL | exact yR (λ_ _ _ e=>by cases e)
   | alone on v=>cases on<;>first | exact qL | exact yR (λ_ _ _ e=>by cases e)
   | _=>
    first
     | (refine vg ?_;exact hc)
     | (refine a6 ?_;exact hc)
     | exact qL
     | exact yR (λ_ _ _ e=>by cases e)
  | halt y w=>
   cases y with
   | fatal m=>exact Kr
   | throw m=>exact ZW
   | _=>first | (refine vg ?_;exact hc) | exact qL | (refine vg ?_;exact kw _ _)
 ·split
  ·rename_i hm;exact absurd hm hc
  ·split
   ·exact qL
   ·exact a7
  ·split
   ·exact ret _ _
   ·simp only[qhA];refine ye ?_;split
    ·exact ret _ _
    all_goals exact qL
end
end
section
inductive Lay (k:List qkD) (D:List qiG) (real:List qh4) (f:qib) (gv:qgC):qgC->Prop
 | top:gv.callers=[qj f]->gv.frame.mode=.run->gv.frame.roundOf=none->Lay k D real f gv { gv with frame:=tl k D gv.frame,callers:=real }
 | und (pre:List qh4) (c:qh4):gv.callers=pre++[c,qj f]->Pc c->Lay k D real f gv { gv with callers:=pre++tl k D c::real }
section
variable[JunkSet](Q P:qh2)(base:Nat)(F:qgC->qgx->Prop)(f:qib)(k:List qkD)(D:List qiG)(real:List qh4)
structure KE(Z:Ren)(g:qgC)(wq:qgx)(g':qgC)(w:qgx):Prop where
 len:base<=Z.length
 wr:WR Q base Z wq w
 gl:Gl P Z
 tree:LT Q F g wq
 stack:∃pre,g.callers=pre++[qj f]
 rel:∃gv,kO Q P Z g gv/\Lay k D real f gv g'
structure q51:Prop where
 cs:∀g u,F g u->g.callers=[qj f]
 md:∀g u,F g u->g.frame.mode=.run
end
section
variable[JunkSet]{Q P:qh2}{base:Nat}{F:qgC->qgx->Prop}{f:qib}{k:List qkD}{D:List qiG}{real:List qh4}
theorem q7m{Y:Type}{pre:List Y}{c x:Y}(h:pre++[c,x]=[x]):False:=by
 have:=congrArg List.length h;simp at this
theorem q0G(a8:Q.follows .rangeFuncRecover=true)(hF:q51 F f){g1:qgC}{u1:qgx}(h:LT Q F g1 u1)(hp:Popped f g1.frame)(hc:g1.callers=[])(hd:g1.dying=none):False:=by
 cases h with
 | done h=>have:=hF.cs _ _ h;rw[hc] at this;cases this
 | step _ h1 _=>
  obtain⟨g2,u2,b6,e2,_,_⟩:=h1 u1.tape;obtain⟨a9,b8,a7,b7,a6⟩:=g1;dsimp only at hc hp hd;subst hc;subst hd;obtain⟨o,u3,b0,h3⟩:=Q0 (Q:=Q) hp a7 a6 (u1.tp u1.tape);rw[h3] at e2;cases e2
theorem LT.doom(a7:Q.follows .rangeFuncRecover=true)(hF:q51 F f){g:qgC}{u:qgx}(h:LT Q F g u)(hd:qe0 [qj f] g)(a8:g.dying=none):False:=by
 induction h with
 | done h=>
  rcases hd with⟨_,hm⟩ | ⟨pre,c,e,_⟩
  ·exact hm (hF.md _ _ h)
  ·rw[hF.cs _ _ h] at e;exact q7m e.symm
 | @step g u hn h1 h2 ih=>
  obtain⟨g1,u1,es,e,hs,hd1⟩:=h1 u.tape;have a6:=jU (f:=f);have hst:∃pre,g.callers=pre++[qj f]:=by
   rcases hd with⟨e,_⟩ | ⟨pre,c,e,_⟩
   ·exact⟨[],e⟩
   ·exact⟨pre++[c],by rw[e];simp⟩
  obtain⟨b8,b6⟩:=hst;have a9:qe0 [qj f] g1\/∃x,[qj f]=x::g1.callers:=by
   obtain⟨fr,cs,st,dy,off⟩:=g;dsimp only at a8 hd;subst a8;rcases hd with⟨hc,hm⟩ | ⟨pre,c,hc,hm⟩
   ·subst hc;have:qi7 Q true { frame:=fr,callers:=[qj f],status:=st,dying:=none,offers:=off } (u.tp u.tape) true=qlm Q true fr [qj f] none (u.tp u.tape):=by
     unfold qi7;dsimp only;cases hmm:fr.mode<;>first | exact absurd hmm hm | rfl
    rw[this] at e;exact qdn (P:=Q) (e1:=[]) (by intro fr;unfold qhm;cases fr.kind<;>rfl) hm true _ a6 _ _ _ e ⟨hs,hd1⟩
   ·subst hc;have key:Dm [qj f] (qi7 Q true { frame:=fr,callers:=pre++c::[qj f],status:=st,dying:=none,offers:=off } (u.tp u.tape) true):=by
     unfold qi7;dsimp only;cases fr.mode with
     | run=>exact qdo a6 a7 hm true _
     | returning=>exact q1r a6 hm true _
     | panicking l=>exact q1r a6 hm true _
    exact key _ _ _ e ⟨hs,hd1⟩
  rcases a9 with a9 | ⟨x,hx⟩
  ·exact ih _ _ _ _ e a9 hd1
  ·have b7:g1.callers=[]:=by simpa using(List.cons.inj hx).2.symm
   rcases xV (f:=f) a7 b6 a8 (u.tp u.tape) g1 u1 es e hs hd1 with⟨b0,hh⟩ | ⟨_,hp⟩
   ·rw[b7] at hh;cases b0<;>simp at hh
   ·exact q0G a7 hF (h2 _ _ _ _ e) hp b7 hd1
theorem zh.plain{Z:Ren}{x x':qkD}(h:zh Q Z x x'):qed x'=true:=by cases h<;>rfl
theorem q17{Z:Ren}{m m':FrameMode}(h:kN Z m m'):m=.run↔m'=.run:=by cases h<;>simp
theorem Ky{Z:Ren}{cs:List qh4}(h:LsR (qr Q P Z) cs [qj f])(hcs:∃pre,cs=pre++[qj f]):cs=[qj f]:=by
 obtain⟨pre,rfl⟩:=hcs;have:=h.length;cases pre with
 | nil=>rfl
 | cons x pre=>simp at this
theorem KE.step(H:Duo Q P)(hrf:P.follows .rangeFuncRecover=true)(hrr:∀fr,qhm fr real=none)(hF:q51 F f)(stub:∀fk,Q.funcs[fk]?≠P.funcs[fk]?->∀a k cs u,∃o w es,qi7 Q true { frame:=qhD Q fk a k,callers:=cs,status:=.running,dying:=none } u true=.ended o w es){Z:Ren}{g:qgC}{wq:qgx}{g':qgC}{w:qgx}(h:KE Q P base F f k D real Z g wq g' w)(hn:¬ F g wq)(b:Bool) :∃O g1 wq1 g1' w1 es,qi7 P b g' w true=.go g1' w1 es/\KE Q P base F f k D real O g1 wq1 g1' w1/\Below Q F (g1,wq1) (g,wq)/\Eff base Z O w w1/\(∀e∈es,kR base O e)/\Live g1':=by
 have b9:Q.follows .rangeFuncRecover=true:=H.rfr;obtain⟨gv,hg,hl⟩:=h.rel;obtain⟨e7,c3⟩:=h.stack;obtain⟨O,g1,wq1,a7,w1,es,k0,k1,k2,k3,k4,k5,k6,k7,k8,e5,hd1⟩:=K7 H h.len h.wr h.gl hg h.tree hn b;obtain⟨_,T,d9,e1⟩:=k6;dsimp only at e1;have hst:∃a8,g1.callers=a8++[qj f]:=by
  rcases xV (f:=f) b9 c3 hg.dy (wq.tp T) g1 wq1 d9 e1 e5 hd1 with hh | ⟨hh,hp⟩
  ·exact hh
  ·exact(q0G b9 hF k5 hp hh hd1).elim
 have hR:kO Q P O g1 a7:=by
  rcases k1 with⟨_,k1⟩ | ⟨fk,kk,a,a',c,c',cs,cs',hne,hok,rfl,rfl,ha,hc,hcs1,hm⟩
  ·exact k1
  ·exfalso;obtain⟨o,u,e9,e2⟩:=stub fk hne a kk (c::cs) (wq1.tp wq1.tape);cases k5 with
   | done hh=>
    have b7:=hF.cs _ _ hh;dsimp only at b7;simp only[qk0] at b7;rw[b7.1] at hm;rcases hm with hm | hm
    ·exact hm rfl
    ·exact hm _ _ rfl
   | step _ h1 _=>
    obtain⟨g3,u3,e8,e3,_⟩:=h1 wq1.tape;rw[e2] at e3;cases e3
 have b6:qe0 [qj f] g1->False:=λhd=>LT.doom b9 hF k5 hd hd1;have mk:∀g1',Lay k D real f a7 g1'->qi7 P b g' w true=.go g1' w1 es->Live g1'->∃O g1 wq1 g1' w1 es,qi7 P b g' w true=.go g1' w1 es/\KE Q P base F f k D real O g1 wq1 g1' w1/\Below Q F (g1,wq1) (g,wq)/\Eff base Z O w w1/\(∀e∈es,kR base O e)/\Live g1' :=
  λg1' d6 he e6=>⟨O,g1,wq1,g1',w1,es,he,⟨k4,k2,k3,k5,hst,a7,hR,d6⟩,⟨hn,T,d9,e1⟩,k7,k8,e6⟩
 have b0:a7.callers=[qj f]->a7.frame.mode≠.run->False:=λhc hm=>by
  have d8:=hR.callers;rw[hc] at d8;exact b6 (.inl ⟨Ky d8 hst,λe=>hm ((q17 hR.frame.mode).1 e)⟩)
 cases hl with
 | top hc hm hro=>
  have c8:=hg.callers;rw[hc] at c8;have b8:g.callers=[qj f]:=Ky c8 h.stack;clear c8;have a6:=hg.frame.todo;cases ht:g.frame.todo with
  | nil=>
   exfalso;have d5:g.frame.mode=.run:=(q17 hg.frame.mode).2 hm;have c9:g.frame.roundOf=none:=by
    rcases hg.frame.round with⟨hh,_⟩ | ⟨_,_,_,hh,_⟩
    ·exact hh
    ·rw[hro] at hh;cases hh
   have d7:=hg.dy;obtain⟨⟨fn,tmps,todo,defers,mode,kind,ro⟩,cs,st,dy,off⟩:=g;dsimp only at d5 c9 d7 ht b8;subst d5 c9 d7 ht;subst b8;have e2:qi7 Q true { frame:={ fn:=fn,tmps:=tmps,todo:=[],defers:=defers,mode:=.run,kind:=kind,roundOf:=none },callers:=[qj f],status:=st,dying:=none,offers:=off } (wq.tp T) true=.go { frame:={ fn:=fn,tmps:=tmps,todo:=[],defers:=defers,mode:=.returning,kind:=kind,roundOf:=none },callers:=[qj f],status:=.running,dying:=none } (wq.tp T) #[]:=by
    simp[qi7,qk8]
   rw[e2] at e1;cases e1;exact b6 (.inl ⟨rfl,by simp⟩)
  | cons x l=>
   rw[ht] at a6;generalize e4:gv.frame.todo=vt at a6;cases a6 with
   | cons hx hxl=>
    rename_i x' l'
    have hP:Pc gv.frame:=⟨hm,hro,x',l',e4,zh.plain hx⟩;have a9:=q9x (k:=k) (D:=D) (e2:=real) hrf jU hrr hP hc hg.dy' b b w;rcases a9 a7 w1 es k0 ⟨hR.st',hR.dy'⟩ (YX hR) with⟨h1,h2,h3,h5⟩ | ⟨pre,c,h1,h2,h3⟩ | ⟨h1,h2⟩
    ·exact mk _ (.top h1 h2 h3) h5 ⟨hR.st',hR.dy'⟩
    ·exact mk _ (.und pre c h1 h2) h3 ⟨hR.st',hR.dy'⟩
    ·exact(b0 h1 h2).elim
 | und pre c hc hP=>
  have hN:JU c (tl k D c) [qj f] real:=⟨hP.mode,hP.mode,λfr=>q3G hP.mode jU fr,λfr=>q3G (c:=tl k D c) hP.mode hrr fr⟩;have a9:=q59 (c1:=c) (c2:=tl k D c) (e1:=[qj f]) (e2:=real) hrf hN (g:=gv) (pre:=pre) hc hg.dy' b b w;rcases a9 a7 w1 es k0 ⟨hR.st',hR.dy'⟩ (YX hR) with⟨a8,h1,h2⟩ | ⟨W,hφ,h1,h2,h3⟩ | ⟨ch,h1,h2⟩
  ·exact mk _ (.und a8 c h1 hP) h2 ⟨hR.st',hR.dy'⟩
  ·have hφ1:W (tl k D c)=tl k D (W c)/\(W c).mode=.run/\(W c).roundOf=none:=by
    rcases hφ with⟨v,rfl⟩ | rfl
    ·obtain⟨q1,q2,q3⟩:=Qg c v;exact⟨q0o hP v,q1.trans hP.mode,q3.trans hP.round⟩
    ·exact⟨rfl,hP.mode,hP.round⟩
   rw[hφ1.1,<- h1] at h3;exact mk _ (.top h2 (by rw[h1];exact hφ1.2.1) (by rw[h1];exact hφ1.2.2)) h3 ⟨hR.st',hR.dy'⟩
  ·exact(b0 h2 (by rw[h1];exact kw _ _)).elim
theorem KE.rely{Z:Ren}{g:qgC}{wq:qgx}{g':qgC}{w w2:qgx}(h:KE Q P base F f k D real Z g wq g' w)(hsz:w.heap.size<=w2.heap.size)(a6:w2.os.env=w.os.env)(hk:∀i j,BR Z i j->¬ JunkSet.jk i->w2.heap[j]?=w.heap[j]?)(hj:∀i j,BR Z i j->JunkSet.jk i->∃c e f,w2.heap[j]?=some (.cells c e f)):KE Q P base F f k D real Z g wq g' w2 :=
 ⟨h.len,h.wr.rely hsz a6 hk hj,h.gl,h.tree,h.stack,h.rel⟩
end
end
end Go.Sim
namespace Go.Co
section
open Go.Conc Go.ConcN Go.Sim
structure Own(base:Nat)(Z:Ren)(jk:Nat->Prop)(Fz S:Bs):Prop where
 low:∀i j,BR Z i j->i<base->¬ jk i->Fz j
 own:∀i j,BR Z i j->base<=i->S j
section
variable[JunkSet]{Q P:qh2}{base:Nat}{F:qgC->qgx->Prop}{f:qib}{k:List qkD}{D:List qiG}{real:List qh4}{Fz:Bs}{K:qgx->qgx->Prop}{Stop:Bs->qgC->qgx->Prop}
theorem q48{gv g':qgC}(h:Lay k D real f gv g')(hs:gv.status=.running):g'.status=.running:=by cases h<;>exact hs
theorem Own.step{Z O:Ren}{S:Bs}{w w1:qgx}(h:Own base Z JunkSet.jk Fz S)(he:Eff base Z O w w1)(hb:base<=Z.length)(hlt:∀i j,BR O i j->j<w1.heap.size):Own base O JunkSet.jk Fz (grow S w w1):=by
 have a6:∀i j,BR O i j->i<Z.length->BR Z i j:=λi j hij hi=>by
  obtain⟨⟨V,rfl⟩,_⟩:=he.le;unfold BR at hij ⊢
  rwa [qhz hi] at hij
 refine⟨λi j hij hi hj=>h.low i j (a6 i j hij (by omega)) hi hj,λi j hij hi=>?_⟩;rcases qiC i Z.length with hlt2 | hge
 ·exact .inl (h.own i j (a6 i j hij hlt2) hi)
 ·exact .inr ⟨he.fresh i j hij hge,hlt i j hij⟩
theorem q94{Z O:Ren}{S:Bs}{wq w w1:qgx}{es:Array qiq}(h:Own base Z JunkSet.jk Fz S)(he:Eff base Z O w w1)(hb:base<=Z.length)(hw:WR Q base O wq w1)(hes:∀e∈es,kR base O e):DC Fz S w w1 es:=by
 have a6:∀i j,BR O i j->i<Z.length->BR Z i j:=λi j hij hi=>by
  obtain⟨⟨V,rfl⟩,_⟩:=he.le;unfold BR at hij ⊢
  rwa [qhz hi] at hij
 have hown:∀i j,BR O i j->base<=i->grow S w w1 j:=(h.step he hb hw.lt).own;refine⟨λb hb1 hS=>he.keep b hb1 λi hi=>qox λhle=>hS (h.own i b hi hle),he.size,he.os,he.output,λe a7=>?_⟩;cases hes e a7 with
 | @cell i j off spot wr h1 h2 h3=>
  refine⟨⟨by simp,by simp,by simp⟩,λm hm=>by simp at hm,λx hx b hbb=>?_⟩;have hx':x=⟨.cell ⟨j,off,spot⟩,wr,.plain⟩:=by cases wr<;>(simp[qit,qjd] at hx;exact hx.symm)
  subst hx';simp only[blk,qhH] at hbb;subst hbb;refine⟨hw.lt _ _ h1,rfl,?_⟩;rcases qiC i base with hlt | hge
  ·refine .inr ⟨h.low i j (a6 i j h1 (by omega)) hlt h2,?_⟩;cases wr with
   | false=>rfl
   | true=>exact absurd (h3 rfl) (by omega)
  ·exact .inl (hown i j h1 hge)
 | @obj i j wr h1 h2=>
  refine⟨⟨by simp,by simp,by simp⟩,λm hm=>by simp at hm,λx hx b hbb=>?_⟩;have hx':x=⟨.obj j,wr,.plain⟩:=by cases wr<;>(simp[qit,qjd] at hx;exact hx.symm)
  subst hx';simp only[blk,qhH] at hbb;subst hbb;exact⟨hw.lt _ _ h1,rfl,.inl (hown i j h1 h2)⟩
 | noRoom=>exact⟨⟨by simp,by simp,by simp⟩,λm hm=>by simp at hm;exact hm.symm,λx hx=>by simp[qit,qjd] at hx⟩
 | env=>
  refine⟨⟨by simp,by simp,by simp⟩,λm hm=>by simp at hm,λx hx b hbb=>?_⟩;have hx':x=⟨.output,true,.plain⟩:=by simp[qit,qjd] at hx;exact hx.symm
  subst hx';cases hbb
theorem qk.tsub(H:Duo Q P)(hrf:P.follows .rangeFuncRecover=true)(hrr:∀fr,qhm fr real=none)(hF:q51 F f)(stub:∀fk,Q.funcs[fk]?≠P.funcs[fk]?->∀a k cs u,∃o w es,qi7 Q true { frame:=qhD Q fk a k,callers:=cs,status:=.running,dying:=none } u true=.ended o w es)(Jc Jb:Bs)(Liv:qgx->Prop)(hL1:∀S w w₁,RC Fz K S w w₁->Liv w->Liv w₁)(hL2:∀S w w' es,DC Fz S w w' es->(∀b,Jb b->w'.heap[b]?=w.heap[b]?)->Liv w->Liv w')(hL3:∀w b,Liv w->Jc b->∃c e f,w.heap[b]?=some (.cells c e f))(hL4:∀w b,Liv w->Jb b->b<w.heap.size){ρ0:Ren}(hend:∀O g wq g' w S,KE Q P base F f k D real O g wq g' w->F g wq->Le ρ0 O->Own base O JunkSet.jk Fz S->(∀i j,BR O i j->JunkSet.jk i->Jc j)->Liv w->(∀j,Jb j->¬ S j)->qk P Fz K Stop S g' w){Z:Ren}{g:qgC}{wq:qgx}{g':qgC}{w:qgx}{S:Bs}(h:KE Q P base F f k D real Z g wq g' w)(hle:Le ρ0 Z)(ho:Own base Z JunkSet.jk Fz S)(hj:∀i j,BR Z i j->JunkSet.jk i->Jc j)(hv:Liv w)(hjs:∀j,Jb j->¬ S j):qk P Fz K Stop S g' w:=by
 have a8:Acc (Below Q F) (g,wq):=h.tree.acc;generalize hx:(g,wq)=x at a8;induction a8 generalizing Z g wq g' w S with
 | intro x _ ih=>
  subst hx;by_cases hn:F g wq
  ·exact hend Z g wq g' w S h hn hle ho hj hv hjs
  ·have b6:g'.status=.running:=by
    obtain⟨gv,hg,hl⟩:=h.rel;exact q48 hl hg.st'
   refine qk.step b6 λw₁ hr=>?_;have a9:Liv w₁:=hL1 _ w w₁ hr hv;have h1:KE Q P base F f k D real Z g wq g' w₁:=h.rely hr.size (by rw[hr.os]) (λi j hij a6=>by
     rcases qiC i base with hlt | hge
     ·exact hr.fz j (ho.low i j hij hlt a6)
     ·exact hr.own j (ho.own i j hij hge)) (λi j hij a6=>hL3 w₁ j a9 (hj i j hij a6))
   obtain⟨O,g1,wq1,g1',w1,es,k1,k2,k3,k4,k5,_⟩:=h1.step H hrf hrr hF stub hn false;have b0:=q94 ho k4 h1.len k2.wr k5;have hlt:∀j,Jb j->j<w₁.heap.size:=λj a7=>hL4 w₁ j a9 a7;refine⟨g1',w1,es,k1,b0,ih (g1,wq1) k3 k2 (hle.trans k4.le) (ho.step k4 h1.len k2.wr.lt) (λi j hij a6=>?_) (hL2 _ w₁ w1 es b0 (λb hb=>b0.keep b (hlt b hb) (hjs b hb)) a9) (λj a7 hS=>?_) rfl⟩;rotate_left
   ·rcases hS with hS | ⟨hS,_⟩
    ·exact hjs j a7 hS
    ·have:=hlt j a7;omega
   refine hj i j ?_ a6;have hi:i<Z.length:=qh7 (h1.wr.below i a6) h1.len;obtain⟨⟨V,rfl⟩,_⟩:=k4.le;unfold BR at hij ⊢
   rwa [qhz hi] at hij
def AtEnd(f:qib)(b:qh4)(R:Act->qgx->Prop)(g:qgC)(u:qgx):Prop:=Live g/\g.callers=[qj f]/\∃a T,g.frame=b.at a []/\R a (u.tp T)
theorem AtEnd.leafs{b:qh4}{R:Act->qgx->Prop}:q51 (AtEnd f b R) f:=⟨λ_ _ h=>h.2.1,λ_ _ ⟨_,_,a,_,e,_⟩=>by rw[e];rfl⟩
theorem AtEnd.tape{b:qh4}{R:Act->qgx->Prop}{g:qgC}{u:qgx}(T:Nat->qj1->Nat)(h:AtEnd f b R g u):AtEnd f b R g (u.tp T):=by
 obtain⟨h1,h2,a,T0,h3,h4⟩:=h;exact⟨h1,h2,a,T0,h3,h4⟩
def yh(R:Act->qgx->Prop):Exit->Act->qgx->Prop
 | .normal,a,w=>R a w
 | _,_,_=>False
theorem LT.of_wp(H:Duo Q Q){b:qh4}{a:Act}{c:qje}{wq:qgx}{R:Act->qgx->Prop}(h:∀T,c.wp Q (yh R) a (wq.tp T))(hr:xC Q base (G (b.at a [.code c]) [qj f]) wq):LT Q (AtEnd f b R) (G (b.at a [.code c]) [qj f]) wq:=by
 refine LT.of_all H (λg u T=>AtEnd.tape T) hr λT=>?_;obtain⟨e,a',w',hq,a6⟩:=h T b [] [qj f];cases e with
 | normal=>
  obtain⟨n,hn⟩:=a6;exact LP.of_runs H n (g:=G (b.at a [.code c]) [qj f]) (g1:=G (b.at a' []) [qj f]) (u:=wq.tp T) (pre:=[]) (hr.tape T) ⟨rfl,rfl⟩ rfl hn ⟨rfl,rfl⟩ ⟨[],rfl⟩ ⟨⟨rfl,rfl⟩,rfl,a',w'.tape,rfl,by rw[Y5];exact hq⟩
 | exit id=>exact hq.elim
 | goto l=>exact hq.elim
 | ret=>exact hq.elim
 | panic chain=>exact hq.elim
 | outgrown=>exact hq.elim
end
end
end Go.Co
section
namespace Go.Co
open Go
theorem zq{md:qkv}{ops:Array qiu}{listed:Array Bool}{i:Nat}(h:i∈qhd md ops listed):i<ops.size/\listed.getD i true=false:=by
 simp only[qhd,qo2,qjq,qhh,qjA] at h;exact⟨h.1,h.2.1⟩
def unl(listed:Array Bool)(n:Nat):Nat:=((qht n).filter λi=>!listed.getD i true).length
theorem kT{listed:Array Bool}{n i:Nat}(hi:i<n)(hs:listed.size=n)(h:listed.getD i true=false):unl (listed.setIfInBounds i true) n<unl listed n:=by
 unfold unl;have key:∀l:List Nat,i∈l->(l.filter λk=>!(listed.setIfInBounds i true).getD k true).length<(l.filter λk=>!listed.getD k true).length:=by
  intro l;have hle:∀l:List Nat,(l.filter λk=>!(listed.setIfInBounds i true).getD k true).length<=(l.filter λk=>!listed.getD k true).length:=by
   intro l;induction l with
   | nil=>simp
   | cons x l ih=>
    simp only[List.filter_cons];by_cases hx:x=i
    ·subst hx;have:(listed.setIfInBounds x true).getD x true=true:=by simp[qik,hs,hi]
     rw[this,h];simp only[qmx,qmg,qhy,if_true,if_false,qh3];omega
    ·have:(listed.setIfInBounds i true).getD x true=listed.getD x true:=by simp[qik,qhG,Ne.symm hx]
     rw[this];split
     ·simp only[qh3];omega
     ·exact ih
  induction l with
  | nil=>intro h;cases h
  | cons x l ih=>
   intro hm;simp only[List.filter_cons];by_cases hx:x=i
   ·subst hx;have:(listed.setIfInBounds x true).getD x true=true:=by simp[qik,hs,hi]
    rw[this,h];have:=hle l;simp only[qmx,qmg,qhy,if_true,if_false,qh3];omega
   ·have:(listed.setIfInBounds i true).getD x true=listed.getD x true:=by simp[qik,qhG,Ne.symm hx]
    rw[this];have hm':i∈l:=by simpa[Ne.symm hx] using hm
    split
    ·have:=ih hm';simp only[qh3];omega
    ·exact ih hm'
 exact key _ (by simp[hi])
theorem q7q{P:qh2}{md:qkv}{ops:Array qiu}{Q:Exit->Act->qgx->Prop}(I:Array Bool->Act->qgx->Prop)(hstep:∀listed a w i,listed.size=ops.size->I listed a w->i∈qhd md ops listed->wpOp P ops Q i (I (listed.setIfInBounds i true)) a w)(hend:∀listed a w,listed.size=ops.size->I listed a w->qhd md ops listed=[]->Q .normal a w) :∀(fuel:Nat) (listed:Array Bool) (a:Act) (w:qgx),listed.size=ops.size->unl listed ops.size<=fuel->I listed a w->wpAny P md ops Q fuel listed a w:=by
 intro fuel;induction fuel with
 | zero=>
  intro listed a w hs hu hI;have hr:qhd md ops listed=[]:=by
   cases hr:qhd md ops listed with
   | nil=>rfl
   | cons i l=>
    exfalso;obtain⟨h1,h2⟩:=zq (md:=md) (ops:=ops) (listed:=listed) (i:=i) (by rw[hr];simp);have:=kT h1 hs h2;omega
  exact⟨hr,hend listed a w hs hI hr⟩
 | succ fuel ih=>
  intro listed a w hs hu hI;refine⟨hend listed a w hs hI,λi hi=>?_⟩;obtain⟨h1,h2⟩:=zq hi;have hlt:=kT h1 hs h2;exact wpOp_mono (λa' w' h'=>ih _ a' w' (by simpa using hs) (by omega) h') (hstep listed a w i hs hI hi)
theorem KH{P:qh2}{id:Nat}{ops:Array qiu}{Q:Exit->Act->qgx->Prop}{a:Act}{w:qgx}(hm:P.follows .mixedOrders=true)(I:Array Bool->Act->qgx->Prop)(h0:I (qi0 ops.size false) a { w with drawn:=w.drawn+1 })(hstep:∀listed a w i,listed.size=ops.size->I listed a w->i∈qhd .any ops listed->wpOp P ops Q i (I (listed.setIfInBounds i true)) a w)(hend:∀listed a w,listed.size=ops.size->I listed a w->qhd .any ops listed=[]->Q .normal a w):(Code.region id ops true).wp P Q a w :=
 wp_region_any hm (q7q I hstep hend ops.size _ a _ (by simp) (by
  unfold unl;refine qh0 (qk5 _ _) (by simp)) h0)
theorem zy{P:qh2}{ops:Array qiu}{R K:Act->qgx->Prop}{i:Nat}{o:qiu}{a:Act}{w:qgx}(ho:ops[i]?=some o)(h:wpList P ops (yh K) [o] a w):wpOp P ops (yh R) i K a w:=by
 have no:∀X:Act->qgx->Prop,¬ LetsOut (yh X):=λX ⟨_,_,h⟩=>h;unfold wpOp;rw[ho];dsimp only;simp only[wpList] at h;split
 ·rename_i hw
  rw[if_pos hw] at h;rcases h with h | ⟨_,h⟩
  ·refine .inl ?_;unfold Oper.wp at h ⊢;generalize (qk3 a.eval o).run P w=r at h ⊢;cases r with
   | ok x w'=>
    cases x with
    | enter f args=>exact Calls.mono h λe w q=>by cases e<;>first | exact q | exact q.elim | exact absurd q (no _)
    | row r args=>exact Rows.mono h λv w q=>q
    | value v=>exact h
    | skip=>exact h
    | defer d=>exact h
    | _=>exact h.elim
   | halt x w'=>cases x<;>first | exact h | exact h.elim
  ·exact absurd h (no _)
 ·rename_i hw
  rw[if_neg hw] at h;exact h
end Go.Co
namespace Go.Co
open Go
theorem zo{md:qkv}{ops:Array qiu}{listed:Array Bool}{i:Nat}{o:qiu}(h:i∈qhd md ops listed)(ho:ops[i]?=some o):(o.after.all λe=>!qi3 md e || listed.getD e.on false)=true:=by
 simp only[qhd,qo2,qjq,qhh,qjA] at h;have:=h.2.2;rw[ho] at this;simpa using this
end Go.Co
namespace Go.Co
open Go
theorem zT{md:qkv}{ops:Array qiu}{listed:Array Bool}(hr:qhd md ops listed=[])(hs:listed.size=ops.size){i:Nat}{o:qiu}(ho:ops[i]?=some o)(hall:(o.after.all λe=>!qi3 md e || listed.getD e.on false)=true):listed[i]?.getD false=true:=by
 have hi:i<ops.size:=(qgy.1 ho).1;refine qhF λhn=>?_;have hl:i<listed.size:=by omega
 have:i∈qhd md ops listed:=by
  simp only[qhd,qo2,qjq,qhh,qjA];refine⟨hi,?_,?_⟩
  ·simp[qik,qhi hl] at hn ⊢;exact hn
  ·rw[ho];simpa using hall
 rw[hr] at this;cases this
theorem QA(listed:Array Bool)(i j:Nat)(h:i<listed.size):(listed.setIfInBounds i true)[j]?.getD false=if i=j then true else listed[j]?.getD false:=by
 simp only[qhG];split
 ·rename_i e;subst e;simp[h]
 ·rfl
theorem ZK{md:qkv}{ops:Array qiu}{listed:Array Bool}{i:Nat}(h:i∈qhd md ops listed):listed[i]?.getD false=false:=by
 have:=(zq h).2;simp only[qik] at this;cases hx:listed[i]? with
 | none=>rfl
 | some b=>rw[hx] at this;exact this
end Go.Co
end
namespace Go.Sim
section
structure Lets where
 f:Nat->Bool
 m:String->Bool
 b:Builtin->Array qh8->Bool
section
variable(Q:qh2)(s:Lets)
def yz:qhE->Bool
 | .tmp _=>true
 | .const v=>qc3 v
 | .global g=>decide (g<Q.globals.size)
 | .func f=>s.f f
def xF(l:List qhE):Bool:=l.all (yz Q s)
def q4D:Call->Bool
 | ⟨.value f,a,_⟩=>yz Q s f && xF Q s a.toList
 | ⟨.invoke r n,a,_⟩=>yz Q s r && s.m n && xF Q s a.toList
 | ⟨.builtin b,a,ts⟩=>s.b b ts && xF Q s a.toList
def opC:Op->Bool
 | .move x | .assign x | .nilCheck x | .box _ x | .load _ x | .unOp _ _ x | .makeInterface _ x | .field _ x _ | .extract x _ | .panic x=>yz Q s x
 | .pick c a b=>yz Q s c && yz Q s a && yz Q s b
 | .alloc t=>kS Q t
 | .build t ps=>kS Q t && xF Q s (ps.toList.map (·.2))
 | .buildSlice t _ ps=>Qi Q t && xF Q s (ps.toList.map (·.2))
 | .store _ a x=>yz Q s a && yz Q s x
 | .binOp op t x y _=>(if q02 op then q92 Q t x y else q28 Q t) && yz Q s x && yz Q s y
 | .convert a d x=>q7f Q a d && yz Q s x
 | .makeFunc (.func f) a b=>s.f f && xF Q s a.toList && xF Q s b.toList
 | .makeMap _ r=>xF Q s r.toList
 | .makeSlice t l c=>Qi Q t && yz Q s l && yz Q s c
 | .slice _ x l h m=>yz Q s x && xF Q s l.toList && xF Q s h.toList && xF Q s m.toList
 | .fieldAddr t x f=>q2l Q t f && yz Q s x
 | .indexAddr _ x i | .index _ x i=>yz Q s x && yz Q s i
 | .lookup t x i _=>K3 Q t && yz Q s x && yz Q s i
 | .mapUpdate t m k x | .insert t m k x=>K3 Q t && yz Q s m && yz Q s k && yz Q s x
 | .typeAssert x _ a _=>kS Q a && yz Q s x
 | .call c | .defer c=>q4D Q s c
 | _=>false
def kh:qje->Bool
 | .skip | .exit _ | .label _ | .goto _ | .ret=>true
 | .region _ ops _=>ops.toList.all λo=>opC Q s o.op
 | .seq a b=>kh a && kh b
 | .cond c a b=>yz Q s c && kh a && kh b
 | .block _ c | .loop c | .scope c=>kh c
 | .rangeFunc f _ a c=>yz Q s f && kh a && kh c
 | _=>false
end
section
variable[JunkSet]{Q:qh2}{s:Lets}(hf:∀f,s.f f=true->JunkSet.okf f)(hm:∀n,s.m n=true->JunkSet.okm n)(hb:∀b ts,s.b b ts=true->JunkSet.okb b ts)
include hf in
theorem qA{x:qhE}(h:yz Q s x=true):qF Q x:=by
 cases x with
 | tmp t=>exact .tmp t
 | const v=>exact .const (q2A h)
 | global g=>exact .global (of_decide_eq_true h)
 | func f=>exact .func (hf f h)
include hf in
theorem jf{l:List qhE}(h:xF Q s l=true):jm Q l:=λx hx=>qA hf (qid.1 h x hx)
include hf hm hb in
theorem q4C{c:Call}(h:q4D Q s c=true):yZ Q c:=by
 obtain⟨ca,a,ts⟩:=c;cases ca with
 | value f=>simp only[q4D,qhh] at h;exact .value (qA hf h.1) (jf hf h.2)
 | invoke r n=>simp only[q4D,qhh] at h;exact .invoke (qA hf h.1.1) (hm _ h.1.2) (jf hf h.2)
 | builtin b=>simp only[q4D,qhh] at h;exact .builtin (hb _ _ h.1) (jf hf h.2)
include hf hm hb in
theorem qeF{o:Op}(h:opC Q s o=true):qN Q o:=by
 cases o with
 | makeFunc fn a b=>
  cases fn with
  | func f=>simp only[opC,qhh] at h;exact .makeFunc (hf _ h.1.1) (jf hf h.1.2) (jf hf h.2)
  | _=>cases h
 | binOp op t x y u=>
  simp only[opC,qhh] at h;obtain⟨⟨h1,h2⟩,h3⟩:=h;split at h1
  ·rename_i he
   exact .eql he h1 (qA hf h2) (qA hf h3)
  ·rename_i he
   exact .arith (by simpa using he) h1 (qA hf h2) (qA hf h3)
 | move x=>exact .move (qA hf h)
 | assign x=>exact .assign (qA hf h)
 | nilCheck x=>exact .nilCheck (qA hf h)
 | box t x=>exact .box (qA hf h)
 | load t x=>exact .load (qA hf h)
 | unOp o t x=>exact .unOp (qA hf h)
 | makeInterface t x=>exact .makeInterface (qA hf h)
 | field t x f=>exact .field (qA hf h)
 | extract x i=>exact .extract (qA hf h)
 | panic x=>exact .panic (qA hf h)
 | pick c a b=>simp only[opC,qhh] at h;exact .pick (qA hf h.1.1) (qA hf h.1.2) (qA hf h.2)
 | alloc t=>exact .alloc h
 | build t ps=>simp only[opC,qhh] at h;exact .build h.1 (jf hf h.2)
 | buildSlice t n ps=>simp only[opC,qhh] at h;exact .buildSlice h.1 (jf hf h.2)
 | store t a x=>simp only[opC,qhh] at h;exact .store (qA hf h.1) (qA hf h.2)
 | convert a d x=>simp only[opC,qhh] at h;exact .convert h.1 (qA hf h.2)
 | makeMap t r=>exact .makeMap (jf hf h)
 | makeSlice t l c=>simp only[opC,qhh] at h;exact .makeSlice h.1.1 (qA hf h.1.2) (qA hf h.2)
 | slice t x l hh m=>simp only[opC,qhh] at h;exact .slice (qA hf h.1.1.1) (jf hf h.1.1.2) (jf hf h.1.2) (jf hf h.2)
 | fieldAddr t x f=>simp only[opC,qhh] at h;exact .fieldAddr h.1 (qA hf h.2)
 | indexAddr t x i=>simp only[opC,qhh] at h;exact .indexAddr (qA hf h.1) (qA hf h.2)
 | index t x i=>simp only[opC,qhh] at h;exact .index (qA hf h.1) (qA hf h.2)
 | lookup t x i c=>simp only[opC,qhh] at h;exact .lookup h.1.1 (qA hf h.1.2) (qA hf h.2)
 | mapUpdate t m k x=>simp only[opC,qhh] at h;exact .mapUpdate h.1.1.1 (qA hf h.1.1.2) (qA hf h.1.2) (qA hf h.2)
 | insert t m k x=>simp only[opC,qhh] at h;exact .insert h.1.1.1 (qA hf h.1.1.2) (qA hf h.1.2) (qA hf h.2)
 | typeAssert x t a c=>simp only[opC,qhh] at h;exact .typeAssert h.1 (qA hf h.2)
 | call c=>exact .call (q4C hf hm hb h)
 | defer c=>exact .defer (q4C hf hm hb h)
 | _=>cases h
include hf hm hb in
theorem q4z{c:qje}(h:kh Q s c=true):qy Q c:=by
 induction c with
 | skip=>exact .skip
 | exit id=>exact .exit id
 | label l=>exact .label l
 | goto l=>exact .goto l
 | ret=>exact .ret
 | region id ops d=>exact .region λo ho=>qeF hf hm hb (qid.1 h o ho)
 | seq a b iha ihb=>simp only[kh,qhh] at h;exact .seq (iha h.1) (ihb h.2)
 | cond c a b iha ihb=>simp only[kh,qhh] at h;exact .cond (qA hf h.1.1) (iha h.1.2) (ihb h.2)
 | block id c ih=>exact .block (ih h)
 | loop c ih=>exact .loop (ih h)
 | scope c ih=>exact .scope (ih h)
 | rangeFunc f ps a c iha ihc=>simp only[kh,qhh] at h;exact .rangeFunc (qA hf h.1.1) (iha h.1.2) (ihc h.2)
 | _=>cases h
end
section
variable{A B:JunkSet}{Q:qh2}(hf:∀f,A.okf f->B.okf f)(hm:∀n,A.okm n->B.okm n)(hb:∀b ts,A.okb b ts->B.okb b ts)
include hf in
theorem qI{x:qhE}(h:@qF A Q x):@qF B Q x:=by
 cases h with
 | tmp t=>exact @qF.tmp B Q t
 | const h=>exact @qF.const B Q _ h
 | global h=>exact @qF.global B Q _ h
 | func h=>exact @qF.func B Q _ (hf _ h)
include hf in
theorem jV{l:List qhE}(h:@jm A Q l):@jm B Q l:=λx hx=>qI hf (h x hx)
include hf hm hb in
theorem q7j{c:Call}(h:@yZ A Q c):@yZ B Q c:=by
 cases h with
 | value h1 h2=>exact @yZ.value B Q _ _ _ (qI hf h1) (jV hf h2)
 | invoke h1 h2 h3=>exact @yZ.invoke B Q _ _ _ _ (qI hf h1) (hm _ h2) (jV hf h3)
 | builtin h1 h2=>exact @yZ.builtin B Q _ _ _ (hb _ _ h1) (jV hf h2)
include hf hm hb in
theorem qe2{o:Op}(h:@qN A Q o):@qN B Q o:=by
 cases h with
 | move h=>exact @qN.move B Q _ (qI hf h)
 | assign h=>exact @qN.assign B Q _ (qI hf h)
 | pick h1 h2 h3=>exact @qN.pick B Q _ _ _ (qI hf h1) (qI hf h2) (qI hf h3)
 | alloc h=>exact @qN.alloc B Q _ h
 | box h=>exact @qN.box B Q _ _ (qI hf h)
 | build h1 h2=>exact @qN.build B Q _ _ h1 (jV hf h2)
 | buildSlice h1 h2=>exact @qN.buildSlice B Q _ _ _ h1 (jV hf h2)
 | load h=>exact @qN.load B Q _ _ (qI hf h)
 | store h1 h2=>exact @qN.store B Q _ _ _ (qI hf h1) (qI hf h2)
 | nilCheck h=>exact @qN.nilCheck B Q _ (qI hf h)
 | arith h1 h2 h3 h4=>exact @qN.arith B Q _ _ _ _ _ h1 h2 (qI hf h3) (qI hf h4)
 | eql h1 h2 h3 h4=>exact @qN.eql B Q _ _ _ _ _ h1 h2 (qI hf h3) (qI hf h4)
 | unOp h=>exact @qN.unOp B Q _ _ _ (qI hf h)
 | convert h1 h2=>exact @qN.convert B Q _ _ _ h1 (qI hf h2)
 | makeInterface h=>exact @qN.makeInterface B Q _ _ (qI hf h)
 | makeFunc h1 h2 h3=>exact @qN.makeFunc B Q _ _ _ (hf _ h1) (jV hf h2) (jV hf h3)
 | makeMap h=>exact @qN.makeMap B Q _ _ (jV hf h)
 | makeSlice h1 h2 h3=>exact @qN.makeSlice B Q _ _ _ h1 (qI hf h2) (qI hf h3)
 | slice h1 h2 h3 h4=>exact @qN.slice B Q _ _ _ _ _ (qI hf h1) (jV hf h2) (jV hf h3) (jV hf h4)
 | fieldAddr h1 h2=>exact @qN.fieldAddr B Q _ _ _ h1 (qI hf h2)
 | field h=>exact @qN.field B Q _ _ _ (qI hf h)
 | indexAddr h1 h2=>exact @qN.indexAddr B Q _ _ _ (qI hf h1) (qI hf h2)
 | index h1 h2=>exact @qN.index B Q _ _ _ (qI hf h1) (qI hf h2)
 | lookup h1 h2 h3=>exact @qN.lookup B Q _ _ _ _ h1 (qI hf h2) (qI hf h3)
 | mapUpdate h1 h2 h3 h4=>exact @qN.mapUpdate B Q _ _ _ _ h1 (qI hf h2) (qI hf h3) (qI hf h4)
 | insert h1 h2 h3 h4=>exact @qN.insert B Q _ _ _ _ h1 (qI hf h2) (qI hf h3) (qI hf h4)
 | typeAssert h1 h2=>exact @qN.typeAssert B Q _ _ _ _ h1 (qI hf h2)
 | extract h=>exact @qN.extract B Q _ _ (qI hf h)
 | call h=>exact @qN.call B Q _ (q7j hf hm hb h)
 | defer h=>exact @qN.defer B Q _ (q7j hf hm hb h)
 | panic h=>exact @qN.panic B Q _ (qI hf h)
include hf hm hb in
theorem q2q{c:qje}(h:@qy A Q c):@qy B Q c:=by
 induction h with
 | skip=>exact @qy.skip B Q
 | region h=>exact @qy.region B Q _ _ _ λo ho=>qe2 hf hm hb (h o ho)
 | seq _ _ h1 h2=>exact @qy.seq B Q _ _ h1 h2
 | cond h _ _ h1 h2=>exact @qy.cond B Q _ _ _ (qI hf h) h1 h2
 | block _ h=>exact @qy.block B Q _ _ h
 | loop _ h=>exact @qy.loop B Q _ h
 | rangeFunc h _ _ h1 h2=>exact @qy.rangeFunc B Q _ _ _ _ (qI hf h) h1 h2
 | exit id=>exact @qy.exit B Q id
 | scope _ h=>exact @qy.scope B Q _ h
 | label l=>exact @qy.label B Q l
 | goto l=>exact @qy.goto B Q l
 | ret=>exact @qy.ret B Q
end
@[reducible] def JS0(s:Lets)(jk:Nat->Prop):JunkSet:={ jk,okf:=λf=>s.f f=true,okm:=λn=>s.m n=true,okb:=λb ts=>s.b b ts=true,okc:=λ_=>False,okg:=λ_=>False }
@[reducible] def JS(Q P:qh2)(s:Lets)(jk:Nat->Prop):JunkSet:={ JS0 s jk with okc:=@qy (JS0 s jk) Q,okg:=λf=>(∃g,Q.funcs[f]?=some g/\P.funcs[f]?=some g)/\Q.inits.idxOf? f=none }
def qdh(Q P:qh2)(s:Lets)(f:Nat):Bool :=
 match Q.funcs[f]?,P.funcs[f]? with
 | some fq,some fp=>!fq.body.isNone && !fp.body.isNone && !(fq.name == "runtime.NumGoroutine") && !(fp.name == "runtime.NumGoroutine") && (Q.inits.idxOf? f).isNone
 | _,_=>false
def qbG(Q:qh2)(s:Lets)(f:Nat):Bool :=
 match (Q.funcs[f]?).bind (·.body) with
 | some c=>kh Q s c
 | none=>false
theorem qbx{Q P:qh2}{s:Lets}{jk:Nat->Prop}(ht:P.toTables=Q.toTables)(hr:Q.follows .rangeFuncRecover=true)
  (h0:(match Q.info? 0 with | some i=>(i.methods.find? (·.name == "")).isNone | none=>true)=true)
  (hb:∀b ts,s.b b ts=true->biB Q b ts=true)
  (hf:∀f,s.f f=true->qdh Q P s f=true) (hbody:∀f,s.f f=true->Q.funcs[f]?=P.funcs[f]?->qbG Q s f=true)
  (hm:∀n,s.m n=true->∀t i m,Q.info? t=some i->i.methods.find? (·.name == n)=some m->m.path=#[]/\∃f b,m.func=some (f,b)/\s.f f=true/\∀e,Q.underlying t=some (.pointer e)->b=true):@Duo (JS Q P s jk) Q P:=by
 letI:=JS Q P s jk
 have fin:∀f,s.f f=true->∃fq fp,Q.funcs[f]?=some fq/\P.funcs[f]?=some fp/\fq.body.isNone=false/\fp.body.isNone=false/\(fq.name == "runtime.NumGoroutine")=false/\(fp.name == "runtime.NumGoroutine")=false/\Q.inits.idxOf? f=none:=by
  intro f h;have:=hf f h;unfold qdh at this;cases h1:Q.funcs[f]? with
  | none=>rw[h1] at this;cases this
  | some fq=>
   cases h2:P.funcs[f]? with
   | none=>rw[h1,h2] at this;cases this
   | some fp=>
    rw[h1,h2] at this;simp only[qhh,qjA,Option.isNone_iff_eq_none] at this;exact⟨fq,fp,rfl,rfl,this.1.1.1.1,this.1.1.1.2,this.1.1.2,this.1.2,this.2⟩
 exact{
  bis:=hb
  tables:=ht
  funcs:=λf h=>let ⟨fq,fp,h1,h2,h3,h4,h5,h6,_⟩:=fin f h;⟨fq,fp,h1,h2,h3,h4,h5,h6⟩
  meths:=hm
  nometh:=λi hi=>by rw[hi] at h0;exact h0
  codes:=λc=>⟨q2q (A:=JS0 s jk) (B:=JS Q P s jk) (λ_ h=>h) (λ_ h=>h) (λ_ _ h=>h),q2q (A:=JS Q P s jk) (B:=JS0 s jk) (λ_ h=>h) (λ_ h=>h) (λ_ _ h=>h)⟩
  rfr:=hr
  bodies:=λf g a6 h1 h2 c hc=>by
   have:=hbody f a6 (by rw[h1,h2]);unfold qbG at this;rw[h1,qmo,hc] at this;exact q4z (s:=s) (λ_ h=>h) (λ_ h=>h) (λ_ _ h=>h) this
  inits:=λf h=>let ⟨_,_,_,_,_,_,_,_,h7⟩:=fin f h;h7
  same:=λf=>Iff.rfl }
end
section
structure qfj where
 j:JunkSet
structure Up(A B:JunkSet):Prop where
 f:∀x,A.okf x->B.okf x
 m:∀x,A.okm x->B.okm x
 b:∀x y,A.okb x y->B.okb x y
 c:∀x,A.okc x->B.okc x
 g:∀x,A.okg x->B.okg x
 j:A.jk=B.jk
section
variable{A B:JunkSet}(U:Up A B){Z:Ren}
include U
theorem FnR.up{x y:Fn}(h:@FnR A Z x y):@FnR B Z x y:=by
 cases h with
 | func f h=>exact @FnR.func B Z f (U.f _ h)
 | yield h=>exact @FnR.yield B Z _ _ h
theorem VR.up{x y:qgB}(h:@VR A Z x y):@VR B Z x y:=by
 induction h with
 | bool b=>exact @VR.bool B Z b
 | int k n=>exact @VR.int B Z k n
 | string s=>exact @VR.string B Z s
 | ptrNil=>exact @VR.ptrNil B Z
 | ptr off spot h=>exact @VR.ptr B Z _ _ off spot h
 | sliceNil n c=>exact @VR.sliceNil B Z n c
 | slice off spot n c h=>exact @VR.slice B Z _ _ off spot n c h
 | mapNil=>exact @VR.mapNil B Z
 | map h=>exact @VR.map B Z _ _ h
 | func hf h1 _ h2 _ ih1 ih2=>exact @VR.func B Z _ _ _ _ _ _ (FnR.up U hf) h1 ih1 h2 ih2
 | nilFunc=>exact @VR.nilFunc B Z
 | iface t _ ih=>exact @VR.iface B Z t _ _ ih
 | nilIface=>exact @VR.nilIface B Z
 | agg h _ ih=>exact @VR.agg B Z _ _ h ih
 | tuple h _ ih=>exact @VR.tuple B Z _ _ h ih
 | wild y h=>exact @VR.wild B Z y h
 | meth n a c=>exact @VR.meth B Z n a c
theorem AsR.up{x y:Array qgB}(h:@AsR A Z x y):@AsR B Z x y:=⟨h.1,λi a b ha hb=>VR.up U (h.2 i a b ha hb)⟩
theorem kq.up{x y:qkk}(h:@kq A Z x y):@kq B Z x y:=@kq.mk B Z x y (VR.up U (@kq.key A Z x y h)) (VR.up U (@kq.val A Z x y h)) (@kq.born A Z x y h)
theorem yp.up{x y:Target}(h:@yp A Z x y):@yp B Z x y:=by
 cases h with
 | fn h1 h2=>exact @yp.fn B Z _ _ _ _ (FnR.up U h1) (AsR.up U h2)
 | meth n h=>exact @yp.meth B Z n (U.m _ h)
 | nil=>exact @yp.nil B Z
 | builtin b a t c h=>exact @yp.builtin B Z b a t c (U.b _ _ h)
 | collected h=>exact @yp.collected B Z _ _ h
theorem yT.up{x y:qiG}(h:@yT A Z x y):@yT B Z x y:=by
 cases h with
 | mk h1 h2=>exact @yT.mk B Z x y (yp.up U h1) (AsR.up U h2)
 | bound h1 h2 h3=>exact @yT.bound B Z x y h1 h2 h3
theorem Z0.up{x y:Loop}(h:@Z0 A Z x y):@Z0 B Z x y:=by
 obtain⟨h1,h2,h3,h4,h5,h6,h7,h8,h9,a8,a7,a6⟩:=h;exact @Z0.mk B Z x y h1 h2 h3 (AsR.up U h4) h5 h6 h7 h8 (U.g _ h9) (U.c _ a8) (U.c _ a7) λc hc=>U.c _ (a6 c hc)
theorem ObR.up{x y:Obj}(h:@ObR A Z x y):@ObR B Z x y:=by
 cases h with
 | cells e h1 h2=>exact @ObR.cells B Z _ _ e _ _ (AsR.up U h1) h2
 | map c h=>exact @ObR.map B Z _ _ c (h.imp λ_ _ k=>kq.up U k)
 | stringIter s p=>exact @ObR.stringIter B Z s p
 | mapIterNil a s b=>exact @ObR.mapIterNil B Z a s b
 | mapIter a s b h=>exact @ObR.mapIter B Z _ _ a s b h
 | loop h=>exact @ObR.loop B Z _ _ (Z0.up U h)
 | number o s x h=>exact @ObR.number B Z _ _ o s x h
 | deferredNone=>exact @ObR.deferredNone B Z
 | deferred h=>exact @ObR.deferred B Z _ _ (h.imp λ_ _ k=>yT.up U k)
theorem WR.up{Q:qh2}{base:Nat}{wq w:qgx}(h:@WR A Q base Z wq w):@WR B Q base Z wq w:=by
 obtain⟨h1,h2,h3,h4,h5,h6,h7,h8⟩:=h;refine @WR.mk B Q base Z wq w h1 h2 h3 (λi j o hb ho=>?_) h5 h6 (λi hi=>h7 i (by rw[U.j];exact hi)) h8;rcases h4 i j o hb ho with⟨k1,k2⟩ | ⟨k1,o',k2,k3⟩
 ·exact .inl ⟨by rw[<- U.j];exact k1,k2⟩
 ·exact .inr ⟨by rw[<- U.j];exact k1,o',k2,ObR.up U k3⟩
theorem qy.up{Q:qh2}{c:qje}(h:@qy A Q c):@qy B Q c:=q2q (A:=A) (B:=B) U.f U.m U.b h
theorem qN.up{Q:qh2}{o:Op}(h:@qN A Q o):@qN B Q o:=qe2 (A:=A) (B:=B) U.f U.m U.b h
theorem zh.up{Q:qh2}{x y:qkD}(h:@zh A Q Z x y):@zh B Q Z x y:=by
 cases h with
 | code h=>exact @zh.code B Q Z _ (qy.up U h)
 | inBlock id=>exact @zh.inBlock B Q Z id
 | inLoop h=>exact @zh.inLoop B Q Z _ (qy.up U h)
 | inScope h=>exact @zh.inScope B Q Z _ (qy.up U h)
 | inRegion l h=>exact @zh.inRegion B Q Z _ l λo ho=>qN.up U (h o ho)
 | inRangeFunc h=>exact @zh.inRangeFunc B Q Z _ _ h
 | endRangeFunc h=>exact @zh.endRangeFunc B Q Z _ _ h
 | beginRound=>exact @zh.beginRound B Q Z
theorem J0.up{x y:qlG}(h:@J0 A Z x y):@J0 B Z x y:=by
 obtain⟨h1,h2,h3⟩:=h;exact @J0.mk B Z x y (VR.up U h1) h2 h3
theorem kN.up{x y:FrameMode}(h:@kN A Z x y):@kN B Z x y:=by
 cases h with
 | run=>exact @kN.run B Z
 | returning=>exact @kN.returning B Z
 | panicking h=>exact @kN.panicking B Z _ _ (h.imp λ_ _ k=>J0.up U k)
theorem qr.up{Q P:qh2}{x y:qh4}(h:@qr A Q P Z x y)(hs:∃g,Q.funcs[x.fn]?=some g/\Q.funcs[x.fn]?=some g):@qr B Q Q Z x y:=by
 obtain⟨h1,h2,h3,h4,h5,h6,h7,h8,h9⟩:=h;exact @qr.mk B Q Q Z x y h1 hs h3 (AsR.up U h4) (h5.imp λ_ _ k=>zh.up U k) (h6.imp λ_ _ k=>yT.up U k) (kN.up U h7) h8 h9
theorem kO.up{Q P:qh2}{x y:qgC}(h:@kO A Q P Z x y):@kO B Q Q Z x y:=by
 obtain⟨h1,h2,h3,h4,h5,h6⟩:=h;exact @kO.mk B Q Q Z x y (qr.up U h1 (let ⟨g,k,_⟩:=@qr.same A Q P Z _ _ h1;⟨g,k,k⟩)) (h2.imp λa b k=>qr.up U k (let ⟨g,k,_⟩:=@qr.same A Q P Z a b k;⟨g,k,k⟩)) h3 h4 h5 h6
end
end
end Go.Sim
namespace Go.Co
section
open Go.Conc Go.ConcN Go.Sim
section
variable[J:JunkSet](Q P:qh2)(f:qib)(Post:qgB->qgx->Prop)(W:qgx)
structure Rl(Z:Ren)(g:qgC)(wq:qgx)(g':qgC)(w:qgx):Prop where
 wr:WR Q W.heap.size Z wq w
 ln:W.heap.size<=Z.length
 gl:Gl P Z
 stack:∃pre,g.callers=pre++[qj f]
 rel:∃gv,kO Q P Z g gv/\g'=swap [] gv
def EL(g:qgC)(wq:qgx):Prop :=
 ∀Z g' w cl,Rl Q P f W Z g wq g' w->kQ cl Z->(∀b,w.heap.size<=b->cl b=.mine 0)->yY W.heap.size W.heap.size W Z w->(∀b,b<W.heap.size->cl b=.mine 0)->E P Post cl g' w
def LF(g:qgC)(u:qgx):Prop:=Live g/\(∃pre,g.callers=pre++[qj f])/\Q.funcs[g.frame.fn]?=P.funcs[g.frame.fn]?/\EL Q P f Post W g u
structure Two:Prop where
 H:Duo Q P
 HQ:∃B:qfj,Up J B.j/\@Duo B.j Q Q
 hrf:P.follows .rangeFuncRecover=true
 stub:∀fk,Q.funcs[fk]?≠P.funcs[fk]?->∀a k cs u,∃o w es,qi7 Q true { frame:=qhD Q fk a k,callers:=cs,status:=.running,dying:=none } u true=.ended o w es
end
section
variable[J:JunkSet]{Q P:qh2}{f:qib}{Post:qgB->qgx->Prop}{W:qgx}
theorem EL.tape{g:qgC}{wq:qgx}(h:EL Q P f Post W g wq)(T:Nat->qj1->Nat):EL Q P f Post W g (wq.tp T):=by
 rintro Z g' w cl ⟨h1,a6,h2,h3,h4⟩ ho hc hk hm;exact h Z g' w cl ⟨⟨h1.len,h1.nodup,h1.lt,h1.obj,h1.low,h1.env,h1.below,h1.gar⟩,a6,h2,h3,h4⟩ ho hc hk hm
theorem LF.tape{g:qgC}{u:qgx}(T:Nat->qj1->Nat)(h:LF Q P f Post W g u):LF Q P f Post W g (u.tp T):=⟨h.1,h.2.1,h.2.2.1,h.2.2.2.tape T⟩
theorem xR(fr:qh4):qhm fr []=none:=by
 unfold qhm;simp
theorem EL.of_tree(D:Two Q P){g:qgC}{wq:qgx}(ht:∀Z g' w,Rl Q P f W Z g wq g' w->LT Q (LF Q P f Post W) g wq):EL Q P f Post W g wq:=by
 intro Z g' w cl h ho hc hk hm;have hF:∀g u,LF Q P f Post W g u->g.callers≠[]:=λg u ⟨_,⟨pre,e⟩,_⟩=>by rw[e];simp
 refine E.sub (Cp:=λcl=>∀b,b<W.heap.size->cl b=.mine 0) (Q:=Q) (F:=LF Q P f Post W) (f:=f) (real:=[]) (W:=W) D.H D.hrf xR hF ?_ ?_ (Z:=Z) (g:=g) (wq:=wq) ⟨h.ln,h.wr,h.gl,ht _ _ _ h,h.stack,h.rel⟩ ho hc hk hm
 ·intro Z g wq g' w cl hs hl ho hc hk hm;exact hl.2.2.2 Z g' w cl ⟨hs.wr,hs.len,hs.gl,hs.stack,hs.rel⟩ ho hc hk hm
 ·intro Z fk k a a' c c' pre pre' wq w cl hks ho hc hk _ _;exfalso;obtain⟨o,u,es,e⟩:=D.stub fk hks.diff a k (c::(pre++[qj f])) (wq.tp wq.tape);cases hks.tree with
  | done hh=>exact hks.diff hh.2.2.1
  | step _ h1 _=>
   obtain⟨g1,u1,a6,e1,_⟩:=h1 wq.tape;rw[e] at e1;cases e1
theorem Rl.rel1{B:qfj}(U:Up J B.j){Z:Ren}{g:qgC}{wq:qgx}{g':qgC}{w:qgx}(D:Two Q P)(h:Rl Q P f W Z g wq g' w):@xC B.j Q W.heap.size g wq:=by
 obtain⟨gv,hg,_⟩:=h.rel;exact⟨Z,gv,w,h.ln,WR.up U h.wr,λi hi=>h.gl i (by rw[D.H.gsize];exact hi),kO.up U hg⟩
theorem EL.of_runs(D:Two Q P){fr:qh4}{cs:List qh4}{wq:qgx}(ht:∀T,∃a6 a7 u1,Steps Q (lone fr cs (wq.tp T)) (lone a6 a7 u1)/\(∃pre,a7=pre++[qj f])/\Q.funcs[a6.fn]?=P.funcs[a6.fn]?/\EL Q P f Post W (G a6 a7) u1) :EL Q P f Post W (G fr cs) wq:=by
 refine EL.of_tree D λZ g' w h=>?_;obtain⟨pre,a9⟩:=h.stack;obtain⟨B,U,HQ⟩:=D.HQ;have a8:=h.rel1 U D;refine @LT.of_all B.j Q W.heap.size _ HQ (λg u T=>LF.tape T) _ _ a8 λT=>?_;obtain⟨a6,a7,u1,⟨n,hn⟩,hst,hs,hE⟩:=ht T;exact @LP.of_runs B.j Q W.heap.size _ HQ f n (g:=G fr cs) (g1:=G a6 a7) (u:=wq.tp T) (u1:=u1) (pre:=pre) (@xC.tape B.j Q W.heap.size _ _ a8 T) ⟨rfl,rfl⟩ a9 hn ⟨rfl,rfl⟩ hst ⟨⟨rfl,rfl⟩,hst,hs,hE⟩
def Bot(f:qib)(cs:List qh4):Prop:=∃pre,cs=pre++[qj f]
theorem Bot.cons{cs:List qh4}{c:qh4}(h:Bot f cs):Bot f (c::cs):=by
 obtain⟨pre,rfl⟩:=h;exact⟨c::pre,rfl⟩
def qfi(Q P:qh2)[J:JunkSet](f:qib)(Post:qgB->qgx->Prop)(W:qgx)(b:qh4)(k:List qkD)(cs:List qh4):Exit->Act->qgx->Prop
 | .normal,a,w=>EL Q P f Post W (G (b.at a k) cs) w
 | .exit id,a,w=>∃k',qmh id k=some k'/\EL Q P f Post W (G (b.at a k') cs) w
 | .ret,a,w=>∀todo,EL Q P f Post W (G { b.at a todo with mode:=.returning } cs) w
 | _,_,_=>False
section
variable{b:qh4}{a:Act}{k:List qkD}{cs:List qh4}{wq:qgx}
theorem EL.land(D:Two Q P)(hb:Bot f cs)(hs:Q.funcs[b.fn]?=P.funcs[b.fn]?){fr:qh4}(ht:∀T,∃e a' w',qfi Q P f Post W b k cs e a' w'/\Arrives Q (lone fr cs (wq.tp T)) b k cs e a' w'):EL Q P f Post W (G fr cs) wq:=by
 refine EL.of_runs D λT=>?_;obtain⟨e,a',w',hl,a6⟩:=ht T;cases e with
 | normal=>exact⟨_,cs,w',a6,hb,hs,hl⟩
 | exit id=>
  obtain⟨k',hk,hE⟩:=hl;exact⟨_,cs,w',a6 k' hk,hb,hs,hE⟩
 | goto l=>exact hl.elim
 | ret=>
  obtain⟨todo,a6⟩:=a6;exact⟨_,cs,w',a6,hb,hs,hl todo⟩
 | panic chain=>exact hl.elim
 | outgrown=>exact hl.elim
theorem EL.piece(D:Two Q P)(hb:Bot f cs)(hs:Q.funcs[b.fn]?=P.funcs[b.fn]?){c:qje}(h:∀T,c.wp Q (qfi Q P f Post W b k cs) a (wq.tp T)):EL Q P f Post W (G (b.at a (.code c::k)) cs) wq :=
 EL.land D hb hs λT=>h T b k cs
end
end
end
section
open Go.Conc Go.ConcN Go.Sim
def EE(P:qh2)(Post:qgB->qgx->Prop)(cl:Nat->Cl)(g:qgC)(w:qgx):Prop:=∀d,E P Post cl g (w.at d)
section
variable{P:qh2}{Post:qgB->qgx->Prop}{cl:Nat->Cl}
theorem EE.pure{g g':qgC}{w:qgx}(hs:g.status=.running)(h:∀w,qi7 P true g w=.go g' w #[])(hE:EE P Post cl g' w):EE P Post cl g w :=
 λd=>E.step hs λd'=>⟨g',(w.at d).at d',#[],h _,qgA _,by simp,hE d'⟩
theorem EE.raw{g g':qgC}{w:qgx}(w':qgx)(cl':Nat->Cl)(hs:g.status=.running)(h:∀d,∃es,qi7 P true g (w.at d)=.go g' (w'.at d) es/\∀e∈es,EvG cl' w'.heap.size 0 e/\jq e)(hsz:w.heap.size<=w'.heap.size)(hcl:∀b,b<w.heap.size->cl' b=cl b)(hc0:∀b,w'.heap.size<=b->cl' b=.mine 0)(hE:EE P Post cl' g' w'):EE P Post cl g w :=
 λd=>E.stepC hs λd'=>by
  obtain⟨es,h1,h2⟩:=h d';exact⟨g',w'.at d',es,cl',h1,hsz,hcl,hc0,h2,hE d'⟩
section
variable{b:qh4}{a:Act}{k:List qkD}{cs:List qh4}{w:qgx}
theorem EE.seq{x y:qje}(h:EE P Post cl (G (b.at a (.code x::.code y::k)) cs) w):EE P Post cl (G (b.at a (.code (.seq x y)::k)) cs) w:=.pure rfl (λ_=>qha) h
theorem EE.block{id:Nat}{c:qje}(h:EE P Post cl (G (b.at a (.code c::.inBlock id::k)) cs) w):EE P Post cl (G (b.at a (.code (.block id c)::k)) cs) w:=.pure rfl (λ_=>qn6) h
theorem EE.loop{c:qje}(h:EE P Post cl (G (b.at a (.code c::.inLoop c::k)) cs) w):EE P Post cl (G (b.at a (.code (.loop c)::k)) cs) w:=.pure rfl (λ_=>qq6) h
theorem EE.region{id:Nat}{ops:Array qiu}(h:EE P Post cl (G (b.at a (.inRegion ops (qht ops.size)::k)) cs) w):EE P Post cl (G (b.at a (.code (.region id ops false)::k)) cs) w:=.pure rfl (λ_=>stepG_region) h
theorem EE.region_end{ops:Array qiu}(h:EE P Post cl (G (b.at a k) cs) w):EE P Post cl (G (b.at a (.inRegion ops []::k)) cs) w:=.pure rfl (λ_=>qgE) h
theorem EE.retS(h:EE P Post cl (G { b.at a (.code .ret::k) with mode:=.returning } cs) w):EE P Post cl (G (b.at a (.code .ret::k)) cs) w:=.pure rfl (λ_=>qjy) h
theorem EE.value{ops:Array qiu}{i:Nat}{rest:List Nat}{o:qiu}(v:qgB)(ho:ops[i]?=some o)(hw:qhv o (qj4 ops a.tmps)=true)(hk:b.kind≠.early)(hr:∀w,(qk3 a.eval o).run P w=.ok (.value v) w)(he:∀w,(qk3 a.eval o).events P w #[]=#[])(h:EE P Post cl (G (b.at (a.put o.dst v) (.inRegion ops rest::k)) cs) w):EE P Post cl (G (b.at a (.inRegion ops (i::rest)::k)) cs) w :=
 .pure rfl (λw=>by rw[qpi ho hw hk (hr w)];unfold listed;rw[he w,seen_none]) h
theorem EE.op[JunkSet]{ops:Array qiu}{i:Nat}{rest:List Nat}{o:qiu}(v:qgB)(w':qgx)(cl':Nat->Cl)(ho:ops[i]?=some o)(hw:qhv o (qj4 ops a.tmps)=true)(hk:b.kind≠.early)(hr:∀d,(qk3 a.eval o).run P (w.at d)=.ok (.value v) (w'.at d))(he:∀d,∀e∈(qk3 a.eval o).events P (w.at d) #[],EvG cl' w'.heap.size 0 e/\jq e)(hsz:w.heap.size<=w'.heap.size)(hcl:∀b,b<w.heap.size->cl' b=cl b)(hc0:∀b,w'.heap.size<=b->cl' b=.mine 0)(h:EE P Post cl' (G (b.at (a.put o.dst v) (.inRegion ops rest::k)) cs) w'):EE P Post cl (G (b.at a (.inRegion ops (i::rest)::k)) cs) w :=
 .raw w' cl' rfl (λd=>⟨_,qpi ho hw hk (hr d),λe hm=>he d e (kC _ _ _ e hm)⟩) hsz hcl hc0 h
theorem KL{main:Bool}{ops:Array qiu}{i:Nat}{rest:List Nat}{o:qiu}{w w':qgx}(ho:ops[i]?=some o)(hw:qhv o (qj4 ops a.tmps)=true)(hk:b.kind≠.early)(hr:(qk3 a.eval o).run P w=.ok .skip w') :qi7 P main (G (b.at a (.inRegion ops (i::rest)::k)) cs) w=.go (G (b.at (a.put o.dst qgD) (.inRegion ops rest::k)) cs) w' (listed P b.fn a o w):=by
 have a6:(b.at a (.inRegion ops (i::rest)::k)).finish qgD=b.at (a.put o.dst qgD) (.inRegion ops rest::k):=by rw[qjg,ho];rfl
 have hk':(b.kind == CallKind.early)=false:=by simpa using hk
 rw[stepG_oper ho hw,<- a6];simp[qil,hr,G,Frame.at,hk',qic,listed]
theorem EE.store[JunkSet]{ops:Array qiu}{i:Nat}{rest:List Nat}{o:qiu}(w':qgx)(ho:ops[i]?=some o)(hw:qhv o (qj4 ops a.tmps)=true)(hk:b.kind≠.early)(hr:∀d,(qk3 a.eval o).run P (w.at d)=.ok .skip (w'.at d))(he:∀d,∀e∈(qk3 a.eval o).events P (w.at d) #[],EvG cl w'.heap.size 0 e/\jq e)(hsz:w'.heap.size=w.heap.size)(hc0:∀b,w.heap.size<=b->cl b=.mine 0)(h:EE P Post cl (G (b.at (a.put o.dst qgD) (.inRegion ops rest::k)) cs) w'):EE P Post cl (G (b.at a (.inRegion ops (i::rest)::k)) cs) w :=
 .raw w' cl rfl (λd=>⟨_,KL ho hw hk (hr d),λe hm=>he d e (kC _ _ _ e hm)⟩) (qlF hsz.symm) (λ_ _=>rfl) (λb hb=>hc0 b (by omega)) h
theorem EE.enter{ops:Array qiu}{i:Nat}{rest:List Nat}{o:qiu}{f:qib}{fn:Func}{args:Array qhE}{a6:Array qh8}(ho:ops[i]?=some o)(hw:qhv o (qj4 ops a.tmps)=true)(hk:b.kind≠.early)(hop:o.op=.call { callee:=.value (.func f),args,argTypes:=a6 })(hf:P.funcs[f]?=some fn)(hname:(fn.name == "runtime.NumGoroutine")=false)(hb:fn.body.isNone=false)(h:EE P Post cl (G (qhD P f (args.map a.eval) .normal) (b.at a (.inRegion ops (i::rest)::k)::cs)) w) :EE P Post cl (G (b.at a (.inRegion ops (i::rest)::k)) cs) w :=
 .pure rfl (λw=>by
  rw[stepG_enter ho hw hk (qm9 hop hf hname hb)];have:listed P b.fn a o w=#[]:=by unfold listed;rw[events_call_body hop hf hname hb];exact seen_none P _
  rw[this]) h
theorem EE.leave1{b₀:qh4}{a₀:Act}{ops:Array qiu}{i:Nat}{rest:List Nat}{todo:List qkD}{fn:Func}{t:Tmp}(hn:b.kind=.normal)(hd:a.defers=[])(hf:P.funcs[b.fn]?=some fn)(hr:fn.results=#[.tmp t])(h:EE P Post cl (G (b₀.at (a₀.put ((ops[i]?).bind (·.dst)) (a.tmps.getD t qgD)) (.inRegion ops rest::k)) cs) w):EE P Post cl (G { b.at a todo with mode:=.returning } (b₀.at a₀ (.inRegion ops (i::rest)::k)::cs)) w :=
 .pure rfl (λw=>by rw[stepG_leave hn hd hf (results_tmp hr _ P w) (qn0 hr _ _),qjg]) h
end
end
theorem q26{c:qh4}{cs:List qh4}(hm:c.mode=.run)(hk:c.kind=.normal)(fr:qh4):qhm fr (c::cs)=none:=by
 have h1:qhm c cs=none:=by
  unfold qhm;rw[hk]
 unfold qhm;split
 ·rename_i h
  cases h;rw[hm]
 ·rename_i h
  cases h;rw[h1];rfl
 ·rfl
section
variable[J:JunkSet]{Q P:qh2}{Post:qgB->qgx->Prop}{cl:Nat->Cl}{M N:Nat}
theorem E.subc(D:Two Q P){F:qgC->qgx->Prop}{f:qib}{real:List qh4}{W:qgx}{ρ0:Ren}(hR:∀fr,qhm fr real=none)(hF:∀g u,F g u->g.callers=[qj f])(hstop:∀Z g wq g' w,Sub Q P M F f real Z g wq g' w->F g wq->Le ρ0 Z->(∀i j,BR Z i j->BR ρ0 i j\/W.heap.size<=j)->kQ cl Z->(∀b,w.heap.size<=b->cl b=.mine 0)->yY M N W Z w->E P Post cl g' w){Z:Ren}{g g':qgC}{wq w:qgx}(h:Sub Q P M F f real Z g wq g' w)(hle:Le ρ0 Z)(a8:∀i j,BR Z i j->BR ρ0 i j\/W.heap.size<=j)(ho:kQ cl Z)(hc:∀b,w.heap.size<=b->cl b=.mine 0)(hk:yY M N W Z w):E P Post cl g' w:=by
 have a6:Acc (Below Q F) (g,wq):=h.tree.acc;generalize hx:(g,wq)=x at a6;induction a6 generalizing Z g wq g' w with
 | intro x _ ih=>
  subst hx;by_cases hn:F g wq
  ·exact hstop Z g wq g' w h hn hle a8 ho hc hk
  ·refine E.step (kU h) λd=>?_;obtain⟨O,g1,wq1,g1',w1,es,h1,h2,h3,h4,_,h6⟩:=(q1G h d).stepK D.H D.hrf hR hn true (λg u hg=>by rw[hF g u hg];simp);have a9:Sub Q P M F f real O g1 wq1 g1' w1:=by
    rcases h6 with h6 | ⟨fk,k,a,a',c,c',pre,pre',h6,rfl,rfl⟩
    ·exact h6
    ·exfalso;obtain⟨o,u,es,e⟩:=D.stub fk h6.diff a k (c::(pre++[qj f])) (wq1.tp wq1.tape);cases h6.tree with
     | done hh=>
      have:=hF _ _ hh;simp at this
     | step _ h1 _=>
      obtain⟨g1,u1,b7,e1,_⟩:=h1 wq1.tape;rw[e] at e1;cases e1
   have a7:kQ cl O:=ho.step (w:=w.at d) h3 hc;have b6:∀b,w1.heap.size<=b->cl b=.mine 0:=λb hb=>hc b (qh0 h3.size hb);have b0:yY M N W O w1:=yY.step (w:=w.at d) (hk.at d) h3;refine⟨g1',w1,es,h1,h3.size,λe he=>kY a7 a9.wr (h4 e he),?_⟩;refine ih (g1,wq1) h2 a9 (hle.trans h3.le) (λi j hij=>?_) a7 b6 b0 rfl;rcases qiC i Z.length with hlt | hge
   ·exact a8 i j (BR.back h3.le hij hlt)
   ·exact .inr (qh0 hk.size (h3.fresh i j hij hge))
theorem EE.call(D:Two Q P){fk:qib}{aq ap:Array qgB}{R:qgB->qgx->Prop}{c:qh4}{cs:List qh4}{Z:Ren}{wq w:qgx}(hok:JunkSet.okf fk)(hs:Q.funcs[fk]?=P.funcs[fk]?)(ha:AsR Z aq ap)(b0:M<=Z.length)(hw:WR Q M Z wq w)(hG:Gl P Z)(hc:∀T,qhw Q fk aq (wq.tp T) λe u=>∃v,e=.returned v/\R v u)(hcm:c.mode=.run)(d5:c.kind=.normal)(ho:kQ cl Z)(hcl:∀b,w.heap.size<=b->cl b=.mine 0)(hend:∀O wq1 v v' w1,R v wq1->VR O v v'->WR Q M O wq1 w1->Le Z O->(∀i j,BR O i j->BR Z i j\/w.heap.size<=j)->kQ cl O->(∀b,w1.heap.size<=b->cl b=.mine 0)->yY M 0 w O w1->EE P Post cl (G (c.finish v') cs) w1) :EE P Post cl (G (qhD P fk ap .normal) (c::cs)) w:=by
 intro d;obtain⟨B,U,HQ⟩:=D.HQ;have a6:=q9j hw d;have b8:@xC B.j Q M (yd Q fk aq [qj fk]) wq:=⟨Z,_,w.at d,b0,WR.up U a6,λi hi=>hG i (by rw[D.H.gsize];exact hi),kO.up U (Kn D.H hok hs ha)⟩;have ht:=@LT.of_calls B.j Q M HQ fk aq wq (λe u=>∃v,e=.returned v/\R v u) hc (λu ⟨v,h,_⟩=>by cases h) b8;have a7:Sub Q P M (AtRet Q fk [qj fk] λe u=>∃v,e=.returned v/\R v u) fk (c::cs) Z (yd Q fk aq [qj fk]) wq (G (qhD P fk ap .normal) (c::cs)) (w.at d) :=
  Sub.enter D.H hok hs ha b0 a6 hG ht
 refine E.subc D (W:=w) (N:=0) (q26 hcm d5) (λg u h=>h.2.1) ?_ a7 (Le.refl _) (λi j h=>.inl h) ho hcl ⟨λ_ _ _=>rfl,rfl,rfl,qgA _,λ_ _ _ _=>qhx _,qhx _⟩;intro O g wq1 g' w1 a8 hF hle c9 b9 b7 b6;refine E.step (kU a8) λd'=>?_;obtain⟨hl,hcs,hfn,T,e,⟨v,rfl,hR⟩,c3⟩:=hF;obtain⟨V,d7,v',w2,es,k1,k2,k3,k4,k5,k6⟩:=Sub.ret D.H (q1G a8 d') hcs c3 true;subst k4;have a9:kQ cl V:=b9.step (w:=w1.at d') k5 b7;have d6:∀b,w2.heap.size<=b->cl b=.mine 0:=λb hb=>b7 b (qh0 k5.size hb);have c8:yY M 0 w V w2:=yY.step (w:=w1.at d') (b6.at d') k5;refine⟨_,w2,es,k1,k5.size,λe he=>kY a9 k3 (k6 e he),?_⟩;have:=hend V _ v v' w2 hR k2 k3 (hle.trans k5.le) (λi j hij=>?_) a9 d6 c8
 ·exact this w2.drawn
 ·rcases qiC i O.length with hlt | hge
  ·exact c9 i j (BR.back k5.le hij hlt)
  ·exact .inr (qh0 b6.size (k5.fresh i j hij hge))
end
end
section
open Go.Conc Go.ConcN Go.Sim
section
variable{P:qh2}{Fz:Bs}{K:qgx->qgx->Prop}{Stop:Bs->qgC->qgx->Prop}{S:Bs}
theorem qk.pure{g g':qgC}{w:qgx}(hK:∀a b c,K a b->K b c->K a c)(hs:g.status=.running)(h:∀w,qi7 P false g w=.go g' w #[])(hE:qk P Fz K Stop S g' w):qk P Fz K Stop S g w :=
 qk.still hs (λw₁ _=>h w₁) λ_ h₁=>hE.rely hK h₁
section
variable(hK:∀a b c,K a b->K b c->K a c){b:qh4}{a:Act}{k:List qkD}{cs:List qh4}{w:qgx}
include hK
theorem qk.seq{x y:qje}(h:qk P Fz K Stop S (G (b.at a (.code x::.code y::k)) cs) w):qk P Fz K Stop S (G (b.at a (.code (.seq x y)::k)) cs) w:=.pure hK rfl (λ_=>qha) h
theorem qk.skip(h:qk P Fz K Stop S (G (b.at a k) cs) w):qk P Fz K Stop S (G (b.at a (.code .skip::k)) cs) w:=.pure hK rfl (λ_=>qin) h
theorem qk.cond{c:qhE}{x y:qje}(t:Bool)(hc:a.eval c=.bool t)(h:qk P Fz K Stop S (G (b.at a (.code (if t then x else y)::k)) cs) w):qk P Fz K Stop S (G (b.at a (.code (.cond c x y)::k)) cs) w:=.pure hK rfl (λ_=>stepG_cond hc) h
theorem qk.block{id:Nat}{c:qje}(h:qk P Fz K Stop S (G (b.at a (.code c::.inBlock id::k)) cs) w):qk P Fz K Stop S (G (b.at a (.code (.block id c)::k)) cs) w:=.pure hK rfl (λ_=>qn6) h
theorem qk.inBlock{id:Nat}(h:qk P Fz K Stop S (G (b.at a k) cs) w):qk P Fz K Stop S (G (b.at a (.inBlock id::k)) cs) w:=.pure hK rfl (λ_=>stepG_inBlock) h
theorem qk.loop{c:qje}(h:qk P Fz K Stop S (G (b.at a (.code c::.inLoop c::k)) cs) w):qk P Fz K Stop S (G (b.at a (.code (.loop c)::k)) cs) w:=.pure hK rfl (λ_=>qq6) h
theorem qk.inLoop{c:qje}(h:qk P Fz K Stop S (G (b.at a (.code c::.inLoop c::k)) cs) w):qk P Fz K Stop S (G (b.at a (.inLoop c::k)) cs) w:=.pure hK rfl (λ_=>stepG_inLoop) h
theorem qk.region{id:Nat}{ops:Array qiu}(h:qk P Fz K Stop S (G (b.at a (.inRegion ops (qht ops.size)::k)) cs) w):qk P Fz K Stop S (G (b.at a (.code (.region id ops false)::k)) cs) w:=.pure hK rfl (λ_=>stepG_region) h
theorem qk.region_end{ops:Array qiu}(h:qk P Fz K Stop S (G (b.at a k) cs) w):qk P Fz K Stop S (G (b.at a (.inRegion ops []::k)) cs) w:=.pure hK rfl (λ_=>qgE) h
theorem qk.retS(h:qk P Fz K Stop S (G { b.at a (.code .ret::k) with mode:=.returning } cs) w):qk P Fz K Stop S (G (b.at a (.code .ret::k)) cs) w:=.pure hK rfl (λ_=>qjy) h
theorem qk.endS(h:qk P Fz K Stop S (G { b.at a [] with mode:=.returning } cs) w):qk P Fz K Stop S (G (b.at a []) cs) w:=.pure hK rfl (λ_=>qqB) h
theorem qk.value{ops:Array qiu}{i:Nat}{rest:List Nat}{o:qiu}(v:qgB)(ho:ops[i]?=some o)(hw:qhv o (qj4 ops a.tmps)=true)(hk:b.kind≠.early)(hr:∀w,(qk3 a.eval o).run P w=.ok (.value v) w)(he:∀w,(qk3 a.eval o).events P w #[]=#[])(h:qk P Fz K Stop S (G (b.at (a.put o.dst v) (.inRegion ops rest::k)) cs) w):qk P Fz K Stop S (G (b.at a (.inRegion ops (i::rest)::k)) cs) w :=
 .pure hK rfl (λw=>by rw[qpi ho hw hk (hr w)];unfold listed;rw[he w,seen_none]) h
theorem qk.unwanted{ops:Array qiu}{i:Nat}{rest:List Nat}{o:qiu}(ho:ops[i]?=some o)(hw:qhv o (qj4 ops a.tmps)=false)(h:qk P Fz K Stop S (G (b.at (a.put o.dst qgD) (.inRegion ops rest::k)) cs) w):qk P Fz K Stop S (G (b.at a (.inRegion ops (i::rest)::k)) cs) w :=
 .pure hK rfl (λ_=>stepG_unwanted ho hw) h
theorem qk.enter{ops:Array qiu}{i:Nat}{rest:List Nat}{o:qiu}{f:qib}{fn:Func}{c:qje}{args:Array qhE}{a6:Array qh8}(ho:ops[i]?=some o)(hw:qhv o (qj4 ops a.tmps)=true)(hk:b.kind≠.early)(hop:o.op=.call { callee:=.value (.func f),args,argTypes:=a6 })(hf:P.funcs[f]?=some fn)(hname:(fn.name == "runtime.NumGoroutine")=false)(hb:fn.body=some c)(h:qk P Fz K Stop S (G ((base f).at { tmps:=args.map a.eval++qi0 (fn.ntmps - (args.map a.eval).size) qgD,defers:=[] } [.code c]) (b.at a (.inRegion ops (i::rest)::k)::cs)) w) :qk P Fz K Stop S (G (b.at a (.inRegion ops (i::rest)::k)) cs) w :=
 .pure hK rfl (λw=>by
  have hb':fn.body.isNone=false:=by rw[hb];rfl
  rw[stepG_enter ho hw hk (qm9 hop hf hname hb'),enter_at _ hf hb];have:listed P b.fn a o w=#[]:=by unfold listed;rw[events_call_body hop hf hname hb'];exact seen_none P _
  rw[this]) h
theorem qk.leave1{b₀:qh4}{a₀:Act}{ops:Array qiu}{i:Nat}{rest:List Nat}{todo:List qkD}{fn:Func}{t:Tmp}(hn:b.kind=.normal)(hd:a.defers=[])(hf:P.funcs[b.fn]?=some fn)(hr:fn.results=#[.tmp t])(h:qk P Fz K Stop S (G (b₀.at (a₀.put ((ops[i]?).bind (·.dst)) (a.tmps.getD t qgD)) (.inRegion ops rest::k)) cs) w):qk P Fz K Stop S (G { b.at a todo with mode:=.returning } (b₀.at a₀ (.inRegion ops (i::rest)::k)::cs)) w :=
 .pure hK rfl (λw=>by rw[stepG_leave hn hd hf (results_tmp hr _ P w) (qn0 hr _ _),qjg]) h
theorem qk.leave0{b₀:qh4}{a₀:Act}{ops:Array qiu}{i:Nat}{rest:List Nat}{todo:List qkD}{fn:Func}(hn:b.kind=.normal)(hd:a.defers=[])(hf:P.funcs[b.fn]?=some fn)(hr:fn.results=#[])(h:qk P Fz K Stop S (G (b₀.at (a₀.put ((ops[i]?).bind (·.dst)) (.tuple #[])) (.inRegion ops rest::k)) cs) w):qk P Fz K Stop S (G { b.at a todo with mode:=.returning } (b₀.at a₀ (.inRegion ops (i::rest)::k)::cs)) w :=
 .pure hK rfl (λw=>by rw[stepG_leave hn hd hf (results_none hr _ P w) (events_results_none hr _ _),qjg]) h
theorem qk.load[JunkSet]{ops:Array qiu}{i:Nat}{rest:List Nat}{o:qiu}(v:qgB)(ho:ops[i]?=some o)(hw:qhv o (qj4 ops a.tmps)=true)(hk:b.kind≠.early)(hr:∀w₁,RC Fz K S w w₁->(qk3 a.eval o).run P w₁=.ok (.value v) w₁/\∀e∈(qk3 a.eval o).events P w₁ #[],EvC Fz S w₁.heap.size e)(h:qk P Fz K Stop S (G (b.at (a.put o.dst v) (.inRegion ops rest::k)) cs) w) :qk P Fz K Stop S (G (b.at a (.inRegion ops (i::rest)::k)) cs) w :=
 qk.step rfl λw₁ h₁=>by
  obtain⟨h2,h3⟩:=hr w₁ h₁;refine⟨_,w₁,_,qpi ho hw hk h2,⟨λ_ _ _=>rfl,qgA _,rfl,rfl,λe he=>?_⟩,by rw[vP];exact h.rely hK h₁⟩;rw[vP];exact h3 e (kC _ _ _ e he)
end
theorem qk.offers{g:qgC}{w:qgx}(hSo:∀S g w off,Stop S g w->Stop S { g with offers:=off } w)(off:Option (Array qk9 × qjx))(h:qk P Fz K Stop S g w):qk P Fz K Stop S { g with offers:=off } w:=by
 obtain⟨r,h⟩:=h;cases r with
 | leaf=>exact⟨.leaf,λw₁ h₁=>hSo _ _ _ _ (h w₁ h₁)⟩
 | nd f=>exact⟨.nd f,h.1,h.2⟩
section
variable[J:JunkSet]{Q:qh2}{base:Nat}
structure qfh(Q P:qh2)(base:Nat)(Fz S Jc Jb:Bs)(Z:Ren)(a:Act)(tm:Array qgB)(wq w:qgx):Prop where
 len:base<=Z.length
 wr:WR Q base Z wq w
 gl:Gl P Z
 tm:AsR Z a.tmps tm
 df:a.defers=[]
 own:Own base Z JunkSet.jk Fz S
 jb:∀i j,BR Z i j->JunkSet.jk i->Jc j
 js:∀j,Jb j->¬ S j
theorem qk.piece(H:Duo Q P){X:qfj}(U:Up J X.j)(HQ:@Duo X.j Q Q)(hrf:P.follows .rangeFuncRecover=true){real:List qh4}(hrr:∀fr,qhm fr real=none)(stub:∀fk,Q.funcs[fk]?≠P.funcs[fk]?->∀a k cs u,∃o w es,qi7 Q true { frame:=qhD Q fk a k,callers:=cs,status:=.running,dying:=none } u true=.ended o w es)(Jc Jb:Bs)(Liv:qgx->Prop)(hL1:∀S w w₁,RC Fz K S w w₁->Liv w->Liv w₁)(hL2:∀S w w' es,DC Fz S w w' es->(∀b,Jb b->w'.heap[b]?=w.heap[b]?)->Liv w->Liv w')(hL3:∀w b,Liv w->Jc b->∃c e f,w.heap[b]?=some (.cells c e f))(hL4:∀w b,Liv w->Jb b->b<w.heap.size)(hSo:∀S g w off,Stop S g w->Stop S { g with offers:=off } w){b:qh4}(hfn:∃g,Q.funcs[b.fn]?=some g/\P.funcs[b.fn]?=some g)(hin:Q.inits.idxOf? b.fn=none)(hbr:b.roundOf=none){c:qje}(hc:qy Q c){Z:Ren}{a:Act}{tm:Array qgB}{D:List qiG}{k:List qkD}{wq w:qgx}{S:Bs}{R:Act->qgx->Prop}(h:qfh Q P base Fz S Jc Jb Z a tm wq w)(hv:Liv w)(hwp:∀T,c.wp Q (yh R) a (wq.tp T))(hRd:∀a u,R a u->a.defers=[])(hend:∀ρ' a' tm' wq' w' S',R a' wq'->Le Z ρ'->qfh Q P base Fz S' Jc Jb ρ' a' tm' wq' w'->Liv w'->qk P Fz K Stop S' (G (b.at ⟨tm',D⟩ k) real) w') :qk P Fz K Stop S (G (b.at ⟨tm,D⟩ (.code c::k)) real) w:=by
 obtain⟨c8,hg1,b0⟩:=hfn;have b8:∀(X:qh2),(∃g,Q.funcs[b.fn]?=some g/\X.funcs[b.fn]?=some g)->kO Q X Z (G (b.at a [.code c]) [qj b.fn]) (G (b.at ⟨tm,[]⟩ [.code c]) [qj b.fn]):=λX hX=>
  ⟨⟨rfl,hX,hin,h.tm,.cons (.code hc) .nil,by simp only[G,Frame.at];rw[h.df];exact .nil,.run,rfl,.inl ⟨rfl,rfl⟩⟩,.cons (q2z hin hX) .nil,rfl,rfl,rfl,rfl⟩
 have d9:@xC X.j Q base (G (b.at a [.code c]) [qj b.fn]) wq:=⟨Z,_,w,h.len,WR.up U h.wr,λi hi=>h.gl i (by rw[H.gsize];exact hi),kO.up U (b8 P ⟨c8,hg1,b0⟩)⟩;have ht:=@LT.of_wp X.j Q base b.fn HQ _ _ _ _ _ hwp d9;have d5:KE Q P base (AtEnd b.fn b R) b.fn k D real Z (G (b.at a [.code c]) [qj b.fn]) wq (G (b.at ⟨tm,D⟩ (.code c::k)) real) w :=
  ⟨h.len,h.wr,h.gl,ht,⟨[],rfl⟩,_,b8 P ⟨c8,hg1,b0⟩,by
   have:=Lay.top (k:=k) (D:=D) (real:=real) (f:=b.fn) (gv:=G (b.at ⟨tm,[]⟩ [.code c]) [qj b.fn]) rfl rfl rfl;simpa[tl,G,Frame.at] using this⟩
 refine qk.tsub H hrf hrr AtEnd.leafs stub Jc Jb Liv hL1 hL2 hL3 hL4 (ρ0:=Z) ?_ d5 (Le.refl _) h.own h.jb hv h.js;rintro O g wq' g' w' S' hs ⟨e4,hcs,a',T,b7,hR⟩ a7 ho d7 c9 a9;obtain⟨gv,hg,a8⟩:=hs.rel;have hd:=hRd _ _ hR;have c3:=hg.callers;rw[hcs] at c3;obtain⟨pre',a6,d6⟩:=vE (pre:=[]) c3;cases d6;have a6:gv.callers=[qj b.fn]:=a6;have hf:=hg.frame;rw[b7] at hf;cases a8 with
 | und pre c0 hc0 _=>
  rw[a6] at hc0;exact(q7m hc0.symm).elim
 | top _ hm hro=>
  obtain⟨⟨fn,tmps,todo,defers,mode,kind,ro⟩,cs,st,dy,off⟩:=gv;obtain⟨h1,h2,h3,h4,h5,h6,h7,h8,h9⟩:=hf;have hst:=hg.st';have b9:=hg.dy';dsimp only[Frame.at] at h1 h4 h5 h6 h8 hm hro hst b9;rw[hd] at h6;cases h5;cases h6;subst h1 h8 hm hro hst b9;have d8:({ frame:=tl k D { fn:=b.fn,tmps:=tmps,todo:=[],defers:=[],mode:=.run,kind:=b.kind,roundOf:=none },callers:=real,status:=.running,dying:=none,offers:=off }:qgC)={ G (b.at ⟨tmps,D⟩ k) real with offers:=off }:=by
   simp[tl,G,Frame.at]
  have b6:({ ({ frame:={ fn:=b.fn,tmps:=tmps,todo:=[],defers:=[],mode:=.run,kind:=b.kind,roundOf:=none },callers:=cs,status:=.running,dying:=none,offers:=off }:qgC) with frame:=tl k D { fn:=b.fn,tmps:=tmps,todo:=[],defers:=[],mode:=.run,kind:=b.kind,roundOf:=none },callers:=real }:qgC)={ G (b.at ⟨tmps,D⟩ k) real with offers:=off }:=d8;rw[b6];exact qk.offers hSo off (hend O a' tmps (wq'.tp T) w' S' hR a7 ⟨hs.len,⟨hs.wr.len,hs.wr.nodup,hs.wr.lt,hs.wr.obj,hs.wr.low,hs.wr.env,hs.wr.below,hs.wr.gar⟩,hs.gl,h4,hd,ho,d7,a9⟩ c9)
end
end
end
section
open Go.Conc Go.ConcN Go.Sim
section
variable{P:qh2}{Fz:Bs}{K:qgx->qgx->Prop}{Stop:Bs->qgC->qgx->Prop}{S:Bs}(hK:∀a b c,K a b->K b c->K a c){b:qh4}{k:List qkD}{cs:List qh4}
include hK
omit hK in
theorem qd8{md:qkv}{ops:Array qiu}{fuel t:Nat}{listed:Array Bool}(hr:qhd md ops listed=[]):qi2 md ops fuel t listed []=[]:=by
 cases fuel with
 | zero=>simp[qi2]
 | succ fuel=>
  simp only[qi2];change (match (qhd md ops listed)[t % (qhd md ops listed).length]? with
   | some i=>qi2 md ops fuel (t / (qhd md ops listed).length) (listed.setIfInBounds i true) [i]
   | none=>[].reverse)=[]
  rw[hr];rfl
theorem qk.any{md:qkv}{ops:Array qiu}(I:Array Bool->Act->Prop){w:qgx}(hstep:∀listed a i,listed.size=ops.size->I listed a->i∈qhd md ops listed->∀rest,(qhd md ops (listed.setIfInBounds i true)=[]->rest=[])->(∀a',I (listed.setIfInBounds i true) a'->qk P Fz K Stop S (G (b.at a' (.inRegion ops rest::k)) cs) w)->qk P Fz K Stop S (G (b.at a (.inRegion ops (i::rest)::k)) cs) w)(hend:∀listed a,listed.size=ops.size->I listed a->qhd md ops listed=[]->qk P Fz K Stop S (G (b.at a k) cs) w) :∀(fuel t:Nat) (listed:Array Bool) (a:Act),listed.size=ops.size->unl listed ops.size<=fuel->I listed a->qk P Fz K Stop S (G (b.at a (.inRegion ops (qi2 md ops fuel t listed [])::k)) cs) w:=by
 intro fuel;induction fuel with
 | zero=>
  intro t listed a hs hu hI;have hr:qhd md ops listed=[]:=by
   cases hr:qhd md ops listed with
   | nil=>rfl
   | cons i l=>
    exfalso;obtain⟨h1,h2⟩:=zq (md:=md) (ops:=ops) (listed:=listed) (i:=i) (by rw[hr];simp);have:=kT h1 hs h2;omega
  simp only[qi2,List.reverse_nil];exact qk.region_end hK (hend listed a hs hI hr)
 | succ fuel ih=>
  intro t listed a hs hu hI;simp only[qi2];change qk P Fz K Stop S (G (b.at a (.inRegion ops (match (qhd md ops listed)[t % (qhd md ops listed).length]? with
   | some i=>qi2 md ops fuel (t / (qhd md ops listed).length) (listed.setIfInBounds i true) [i]
   | none=>[].reverse)::k)) cs) w
  cases hi:(qhd md ops listed)[t % (qhd md ops listed).length]? with
  | none=>
   have hr:qhd md ops listed=[]:=by
    cases hr:qhd md ops listed with
    | nil=>rfl
    | cons x xs=>
     rw[hr] at hi;have hlt:t % (x::xs).length<(x::xs).length:=Nat.mod_lt _ (by simp);simp at hi;simp at hlt;omega
   exact qk.region_end hK (hend listed a hs hI hr)
  | some i=>
   simp only[];rw[linearise_go_acc,qoG,List.singleton_append];have hi:=qhg hi;obtain⟨h1,h2⟩:=zq hi;have hlt:=kT h1 hs h2;refine hstep listed a i hs hI hi _ (λhr=>?_) λa' a6=>ih _ _ a' (by simpa using hs) (by omega) a6;exact qd8 hr
theorem qk.region_inv{id:Nat}{ops:Array qiu}{a:Act}{w:qgx}(hm:P.follows .mixedOrders=true)(a7:∀w n,K w { w with drawn:=n })(I:Array Bool->Act->Prop)(h0:I (qi0 ops.size false) a)(hstep:∀listed a i,listed.size=ops.size->I listed a->i∈qhd .any ops listed->∀rest,(qhd .any ops (listed.setIfInBounds i true)=[]->rest=[])->(∀a',I (listed.setIfInBounds i true) a'->qk P Fz K Stop S (G (b.at a' (.inRegion ops rest::k)) cs) w)->qk P Fz K Stop S (G (b.at a (.inRegion ops (i::rest)::k)) cs) w)(hend:∀listed a,listed.size=ops.size->I listed a->qhd .any ops listed=[]->qk P Fz K Stop S (G (b.at a k) cs) w) :qk P Fz K Stop S (G (b.at a (.code (.region id ops true)::k)) cs) w:=by
 refine qk.step rfl λw₁ h₁=>?_;have a6:qi7 P false (G (b.at a (.code (.region id ops true)::k)) cs) w₁=.go (G (b.at a (.inRegion ops (qmC (P.follows .mixedOrders) ops (w₁.tape w₁.drawn (.order b.fn id)))::k)) cs) { w₁ with drawn:=w₁.drawn+1 } #[]:=by
  simp[G,qi7,qk8,Frame.at,choose,qih,Question.forced,Question.cut]
 refine⟨_,_,_,a6,⟨λ_ _ _=>rfl,qgA _,rfl,rfl,by simp⟩,?_⟩;have hg:grow S w₁ { w₁ with drawn:=w₁.drawn+1 }=S:=vP S w₁;rw[hg];have:=qk.any hK I (w:=w) hstep hend ops.size (w₁.tape w₁.drawn (.order b.fn id)) _ a (by simp) (by
  unfold unl;exact qh0 (qk5 _ _) (by simp)) h0
 have h2:qk P Fz K Stop S (G (b.at a (.inRegion ops (qmC (P.follows .mixedOrders) ops (w₁.tape w₁.drawn (.order b.fn id)))::k)) cs) w:=by
  simp only[qmC,hm,Bool.true_or,if_true];exact this
 exact h2.rely hK ⟨λb hb=>h₁.own b hb,λb hb=>h₁.fz b hb,h₁.size,h₁.os,h₁.output,hK _ _ _ h₁.k (a7 _ _)⟩
omit hK in
theorem qk.of_goes2{R:qgx->qgx->Prop}(hR:∀w w₁,RC Fz K S w w₁->R w w₁)(hr:∀w,R w w){a6:qgC->qgx->Prop}(hS:∀g w,a6 g w->Stop S g w):∀{n:Nat} {g:qgC} {w:qgx},qmc P false R qne a6 n g w->qk P Fz K Stop S g w:=by
 intro n;induction n with
 | zero=>exact λh=>qk.stop λw₁ h₁=>hS _ _ (h w₁ (hR _ _ h₁))
 | succ n ih=>
  intro g w h;rcases h with h | ⟨h0,h⟩
  ·exact qk.stop λw₁ h₁=>hS _ _ (h w₁ (hR _ _ h₁))
  ·refine .step h0 λw₁ h₁=>?_;obtain⟨g',w',es,e,⟨d1,d2⟩,hg⟩:=goes_elim (h w₁ (hR _ _ h₁));subst d1;subst d2;exact⟨g',w',#[],e,q4w S w',by rw[vP];exact ih hg⟩
end
end
section
open Go.Conc Go.ConcN
open Go.ConcR (KK wgBlock WgAt stA smA rd wr mk DC0)
def LR(ty:qh8)(Wg:Nat)(w w₁:qgx):Prop:=qjD ty Wg w->qjD ty Wg w₁
def DM(Wg:Nat)(w w':qgx)(es:Array qiq):Prop:=w'=w/\∀e∈es,e=mk (.read (smA Wg))\/e=mk (.write (smA Wg))
section
variable(P:qh2)(ty:qh8)(Wg:Nat)
def WG(Stop:qgC->qgx->Prop)(m:Nat)(g:qgC)(w:qgx):Prop:=qmc P false (LR ty Wg) DC0 Stop m g w
def WD4(g:qgC)(w:qgx):Prop :=
 g.status=.running/\mayWake P g=true/\(qn1 ty Wg w 0 0->∃g',qi7 P false g w=.go g' (w.setCell (smA Wg) (.int .u32 1)) (qln (smA Wg))/\∃q,qoe P q 1 g')
def WD3(g:qgC)(w:qgx):Prop :=
 g.status=.running/\(qn1 ty Wg w 1 0->∃g',qi7 P false g w=.go g' (w.setCell (stA Wg) (.int .u64 0)) #[wr (stA Wg)]/\∃m,WG P ty Wg (WD4 P ty Wg) m g' (w.setCell (stA Wg) (.int .u64 0)))
def WD2(g:qgC)(w:qgx):Prop :=
 g.status=.running/\(qn1 ty Wg w 1 0->∃g',qi7 P false g w=.go g' w #[rd (stA Wg)]/\∃m,WG P ty Wg (WD3 P ty Wg) m g' w)
def WD1(g:qgC)(w:qgx):Prop :=
 g.status=.running/\∀v wt:Nat,wt<=1->v<2147483647->qn1 ty Wg w ((v+1)*KK+wt) 0 ->
  ∃g',qi7 P false g w=.go g' (w.setCell (stA Wg) (.int .u64 (v*KK+wt))) #[rd (stA Wg),wr (stA Wg)] /\
   ((v=0/\wt=1)->∃m,WG P ty Wg (WD2 P ty Wg) m g' (w.setCell (stA Wg) (.int .u64 (v*KK+wt))))/\(¬ (v=0/\wt=1)->∃q,qoe P q 1 g')
def WK1(g:qgC)(w:qgx):Prop :=
 g.status=.running/\∃g',qi7 P false g w=.go g' w #[qjl .disable]/\∃m,WG P ty Wg (WD1 P ty Wg) m g' w
def qge(g:qgC)(w:qgx):Prop :=
 ∃g',qi7 P false g w=.go g' w #[qjl (.releaseMerge (stA Wg))]/\∃m,WG P ty Wg (WK1 P ty Wg) m g' w
end
structure Cfg(U X:Type) where
 P:qh2
 ty:qh8
 Wg:Nat
 lo:Nat
 n:Nat
 Fz:Bs
 Sy:Bs
 clA:Nat->Cl
 DataAt:U->qgx->Prop
 WA:X->Bs->qgC->qgx->Prop
 Tr:U->X->U->X->Prop
 J:U->Nat->(Nat->X)->Prop
 m:U->Nat
 nu:X->Nat
 l0:X
 fin:X->Prop
 W1:qgx
 Fin:qgC->qgx->Prop
 AnchW:qgC->qgx->Prop
 Post:qgB->qgx->Prop
section
variable{U X:Type}(C:Cfg U X)
def Cfg.K(w w₁:qgx):Prop:=(qjD C.ty C.Wg w->qjD C.ty C.Wg w₁)/\((∃W,C.DataAt W w)->∃W,C.DataAt W w₁)
structure Cfg.Ph(w:qgx):Prop where
 fz:∀b,C.Fz b->w.heap[b]?=C.W1.heap[b]?
 size:C.W1.heap.size<=w.heap.size
 os:w.os=C.W1.os
 output:w.output=C.W1.output
def flat(cl:Nat->Cl)(b:Nat):Cl:=match cl b with | .sync=>.sync | _=>.mine 0
def Cfg.GW(Stop:qgC->qgx->Prop)(m:Nat)(g:qgC)(w:qgx):Prop:=WG C.P C.ty C.Wg Stop m g w
def Cfg.AtD4:qgC->qgx->Prop:=WD4 C.P C.ty C.Wg
def Cfg.AtD3:qgC->qgx->Prop:=WD3 C.P C.ty C.Wg
def Cfg.AtD2:qgC->qgx->Prop:=WD2 C.P C.ty C.Wg
def Cfg.AtD1:qgC->qgx->Prop:=WD1 C.P C.ty C.Wg
def Cfg.AtK1:qgC->qgx->Prop:=WK1 C.P C.ty C.Wg
def Cfg.AtEnd:qgC->qgx->Prop:=qge C.P C.ty C.Wg
def Cfg.AtSync(l:X)(S:Bs)(g:qgC)(w:qgx):Prop :=
 ∀W,C.DataAt W w->(∃j ls,j<=C.n/\C.J W j ls)->∃g' w' es γ' l',qi7 C.P false g w=.go g' w' es/\(∀b,¬ C.Sy b->w'.heap[b]?=w.heap[b]?)/\w'.heap.size=w.heap.size/\w'.os=w.os/\w'.output=w.output /\
  (∀e∈es,∃a wr,e=⟨.cell a,wr,true⟩/\C.Sy a.block)/\C.DataAt γ' w'/\C.Tr W l γ' l'/\C.WA l' S g' w'
def Cfg.Stop(l:X)(S:Bs)(g:qgC)(w:qgx):Prop:=g.status=.running/\((C.fin l/\C.AtEnd g w)\/(¬ C.fin l/\C.AtSync l S g w))
def Cfg.GM(Stop:qgC->qgx->Prop)(m:Nat)(g:qgC)(w:qgx):Prop:=qmc C.P true (LR C.ty C.Wg) (DM C.Wg) Stop m g w
def Cfg.AtAcq(g:qgC)(w:qgx):Prop :=
 g.status=.running/\∃g',qi7 C.P true g w=.go g' w #[qjl (.acquire (stA C.Wg))]/\C.Fin g' w
def Cfg.AtKe(g:qgC)(w:qgx):Prop :=
 g.status=.running/\∃g',qi7 C.P true g w=.go g' w #[qjl .enable]/\∃m,C.GM C.AtAcq m g' w
def Cfg.AtW4(g:qgC)(w:qgx):Prop :=
 g.status=.running/\(qn1 C.ty C.Wg w 0 0->∃g',qi7 C.P true g w=.go g' w #[rd (stA C.Wg)]/\∃m,C.GM C.AtKe m g' w)
def Cfg.AtW3(g:qgC)(w:qgx):Prop :=
 g.status=.running/\g.offers=none /\
  ((∃st,qn1 C.ty C.Wg w st 0)->qi7 C.P true g w=.go { g with status:=.blocked } w #[]) /\
  (qn1 C.ty C.Wg w 0 1->∃g',qi7 C.P true g w=.go g' (w.setCell (smA C.Wg) (.int .u32 0)) (qln (smA C.Wg))/\∃m,C.GM C.AtW4 m g' (w.setCell (smA C.Wg) (.int .u32 0)))
def Cfg.AtW2(vs:Nat)(g:qgC)(w:qgx):Prop :=
 g.status=.running/\∀v:Nat,v<2147483648->qn1 C.ty C.Wg w (v*KK) 0 ->
  (v=vs->∃g',qi7 C.P true g w=.go g' (w.setCell (stA C.Wg) (.int .u64 (v*KK+1))) #[rd (stA C.Wg),wr (stA C.Wg)]/\∃m,C.GM C.AtW3 m g' (w.setCell (stA C.Wg) (.int .u64 (v*KK+1)))) /\
  (v≠vs->∃g',qi7 C.P true g w=.go g' w #[rd (stA C.Wg)]/\∃m,C.GM C.AnchW m g' w)
def Cfg.AtW1(g:qgC)(w:qgx):Prop :=
 g.status=.running/\∀v:Nat,v<2147483648->qn1 C.ty C.Wg w (v*KK) 0->∃g',qi7 C.P true g w=.go g' w #[rd (stA C.Wg)] /\
  (v=0->∃m,C.GM C.AtKe m g' w)/\(v≠0->∃m,C.GM (C.AtW2 v) m g' w)
def Cfg.AtKd(g:qgC)(w:qgx):Prop :=
 g.status=.running/\∃g',qi7 C.P true g w=.go g' w #[qjl .disable]/\∃m,C.GM C.AnchW m g' w
def Cfg.FinS(g:qgC)(w:qgx):Prop:=∃m,C.GM C.AtKd m g w
def Cfg.AtGoS(qlo:qgC->qgx->Prop)(g:qgC)(w:qgx):Prop :=
 g.status=.running/\∃g' child,qi7 C.P true g w=.spawn g' child w #[]/\(C.Ph w->(∃W,C.DataAt W w)->C.WA C.l0 (λ_=>False) child w)/\qlo g' w
def Cfg.AtKeS(qlo:qgC->qgx->Prop)(g:qgC)(w:qgx):Prop :=
 g.status=.running/\∃g',qi7 C.P true g w=.go g' w #[qjl .enable]/\∃m,C.GM (C.AtGoS qlo) m g' w
def Cfg.AtA1(qlo:qgC->qgx->Prop)(g:qgC)(w:qgx):Prop :=
 g.status=.running/\∀v:Nat,v<2147483647->qn1 C.ty C.Wg w (v*KK) 0 ->
  ∃g',qi7 C.P true g w=.go g' (w.setCell (stA C.Wg) (.int .u64 ((v+1)*KK))) #[rd (stA C.Wg),wr (stA C.Wg)]/\∃m,C.GM (C.AtKeS qlo) m g' (w.setCell (stA C.Wg) (.int .u64 ((v+1)*KK)))
def Cfg.AtKdS(qlo:qgC->qgx->Prop)(g:qgC)(w:qgx):Prop :=
 g.status=.running/\∃g',qi7 C.P true g w=.go g' w #[qjl .disable]/\∃m,C.GM (C.AtA1 qlo) m g' w
def Cfg.Spawns:Nat->qgC->qgx->Prop
 | 0,g,w=>C.FinS g w
 | r+1,g,w=>∃m,C.GM (C.AtKdS (Cfg.Spawns r)) m g w
structure Cfg.Ok:Prop where
 hn:C.n<2147483648
 hlo:1<=C.lo
 dat:∀W w w',(∀b,C.Sy b->w'.heap[b]?=w.heap[b]?)->C.DataAt W w->C.DataAt W w'
 fzc:∀b,C.Fz b->C.clA b=.ro C.lo/\b<C.W1.heap.size
 syc:∀b,C.Sy b->C.clA b=.sync/\b<C.W1.heap.size
 cla0:∀b,C.W1.heap.size<=b->C.clA b=.mine 0
 wgc:C.clA C.Wg=.sync/\C.Wg<C.W1.heap.size/\¬ C.Sy C.Wg
 hW:∀l S g w,C.WA l S g w->qk C.P C.Fz C.K (C.Stop l) S g w
 hJ0:∀W j ls,C.J W j ls->C.J W (j+1) (upd ls j C.l0)
 hJ:∀W j ls i γ' l',C.J W j ls->i<j->C.Tr W (ls i) γ' l'->C.J γ' j (upd ls i l')
 hm:∀W l γ' l',C.Tr W l γ' l'->C.m γ'+C.nu l'<C.m W+C.nu l
 hAr:∀g w,C.AnchW g w->g.status=.running
 hAn:∀g w,C.AnchW g w->∃m,C.GM C.AtW1 m g w
 hFin:∀W ls g w,C.Fin g w->C.J W C.n ls->(∀i,i<C.n->C.fin (ls i))->C.DataAt W w->C.Ph w->E C.P C.Post (flat C.clA) g w
inductive Cfg.WS:Nat->Nat->Nat->X->Bs->Rk->qgC->qgx->Prop
 | run {l:X} {S:Bs} {r:Rk} {g:qgC} {w:qgx}:Cot C.P C.Fz C.K (C.Stop l) r S g w->Cfg.WS 7 0 0 l S r g w
 | k1 {m:Nat} {l:X} {S:Bs} {r:Rk} {g:qgC} {w:qgx}:C.fin l->C.GW C.AtK1 m g w->Cfg.WS 6 m 0 l S r g w
 | d1 {m:Nat} {l:X} {S:Bs} {r:Rk} {g:qgC} {w:qgx}:C.fin l->C.GW C.AtD1 m g w->Cfg.WS 5 m 1 l S r g w
 | d2 {m:Nat} {l:X} {S:Bs} {r:Rk} {g:qgC} {w:qgx}:C.fin l->C.GW C.AtD2 m g w->Cfg.WS 4 m 1 l S r g w
 | d3 {m:Nat} {l:X} {S:Bs} {r:Rk} {g:qgC} {w:qgx}:C.fin l->C.GW C.AtD3 m g w->Cfg.WS 3 m 1 l S r g w
 | d4 {m:Nat} {l:X} {S:Bs} {r:Rk} {g:qgC} {w:qgx}:C.fin l->C.GW C.AtD4 m g w->Cfg.WS 2 m 1 l S r g w
 | quit {q d:Nat} {l:X} {S:Bs} {r:Rk} {g:qgC} {w:qgx}:C.fin l->qoe C.P q d g->Cfg.WS 1 q d l S r g w
inductive Cfg.CS:CTag->Nat->Nat->Nat->qgC->qgx->Prop
 | skd {r m:Nat} {g:qgC} {w:qgx}:r<C.n->C.GM (C.AtKdS (C.Spawns r)) m g w->Cfg.CS (.sp r 5) (C.n - (r+1)) m 0 g w
 | sa1 {r m:Nat} {g:qgC} {w:qgx}:r<C.n->C.GM (C.AtA1 (C.Spawns r)) m g w->Cfg.CS (.sp r 4) (C.n - (r+1)) m 1 g w
 | ske {r m:Nat} {g:qgC} {w:qgx}:r<C.n->C.GM (C.AtKeS (C.Spawns r)) m g w->Cfg.CS (.sp r 3) (C.n - (r+1)) m 1 g w
 | sgo {r m:Nat} {g:qgC} {w:qgx}:r<C.n->C.GM (C.AtGoS (C.Spawns r)) m g w->Cfg.CS (.sp r 2) (C.n - (r+1)) m 0 g w
 | kd {m:Nat} {g:qgC} {w:qgx}:C.GM C.AtKd m g w->Cfg.CS .kd C.n m 0 g w
 | anch {m:Nat} {g:qgC} {w:qgx}:C.GM C.AnchW m g w->Cfg.CS .anch C.n m 1 g w
 | w1 {m:Nat} {g:qgC} {w:qgx}:C.GM C.AtW1 m g w->Cfg.CS .w1 C.n m 1 g w
 | w2 {vs m:Nat} {g:qgC} {w:qgx}:C.GM (C.AtW2 vs) m g w->Cfg.CS (.w2 vs) C.n m 1 g w
 | w3 {m:Nat} {g:qgC} {w:qgx}:C.GM C.AtW3 m g w->Cfg.CS .w3 C.n (m+1) 1 g w
 | blk {g:qgC} {w:qgx}:(∀w₁,LR C.ty C.Wg w w₁->C.AtW3 g w₁)->Cfg.CS .blk C.n 0 1 { g with status:=.blocked } w
 | w4 {m:Nat} {g:qgC} {w:qgx}:C.GM C.AtW4 m g w->Cfg.CS .w4 C.n m 1 g w
 | ke {m:Nat} {g:qgC} {w:qgx}:C.GM C.AtKe m g w->Cfg.CS .ke C.n m 1 g w
 | acq {m:Nat} {g:qgC} {w:qgx}:C.GM C.AtAcq m g w->Cfg.CS .acq C.n m 0 g w
end
section
variable{ty:qh8}{Wg:Nat}{w w₁ w₂:qgx}
theorem LR.refl(w:qgx):LR ty Wg w w:=id
theorem LR.trans(h:LR ty Wg w w₁)(h':LR ty Wg w₁ w₂):LR ty Wg w w₂:=h' ∘ h
theorem qX:∀a b c,LR ty Wg a b->LR ty Wg b c->LR ty Wg a c:=λ_ _ _ h h'=>h' ∘ h
theorem LR.to(h:qjD ty Wg w₁):LR ty Wg w w₁:=λ_=>h
end
section
variable{U X:Type}{C:Cfg U X}{S:Bs}{w w₁:qgx}{s m d j f0:Nat}{l:X}{r:Rk}{g a:qgC}{tag:CTag}
theorem Cfg.K.trans:∀a b c,C.K a b->C.K b c->C.K a c:=λ_ _ _ h h'=>⟨h'.1 ∘ h.1,h'.2 ∘ h.2⟩
theorem Cfg.K.refl(w:qgx):C.K w w:=⟨id,id⟩
theorem RC.refl(w:qgx):RC C.Fz C.K S w w:=⟨λ_ _=>rfl,λ_ _=>rfl,qgA _,rfl,rfl,.refl w⟩
theorem Cfg.WS.rely(h:C.WS s m d l S r g w)(hr:RC C.Fz C.K S w w₁):C.WS s m d l S r g w₁:=by
 cases h with
 | run h=>exact .run (h.rely Cfg.K.trans hr)
 | k1 hf h=>exact .k1 hf (qkt qX h hr.k.1)
 | d1 hf h=>exact .d1 hf (qkt qX h hr.k.1)
 | d2 hf h=>exact .d2 hf (qkt qX h hr.k.1)
 | d3 hf h=>exact .d3 hf (qkt qX h hr.k.1)
 | d4 hf h=>exact .d4 hf (qkt qX h hr.k.1)
 | quit hf h=>exact .quit hf h
theorem q4x{P:qh2}{Fz:Bs}{K:qgx->qgx->Prop}{Stop:Bs->qgC->qgx->Prop}(hs:∀S g w,Stop S g w->g.status=.running)(hK:∀w,K w w)(h:Cot P Fz K Stop r S g w):g.status=.running:=by
 cases r with
 | leaf=>exact hs _ _ _ (h w ⟨λ_ _=>rfl,λ_ _=>rfl,qgA _,rfl,rfl,hK w⟩)
 | nd f=>exact h.1
theorem Cfg.WS.running_of(h:C.WS s m d l S r g w)(hs:s≠1):g.status=.running:=by
 cases h with
 | run h=>exact q4x (λ_ _ _ h=>h.1) .refl h
 | k1 hf h=>exact qjs (λ_ _ x=>x.1) w (LR.refl w) h
 | d1 hf h=>exact qjs (λ_ _ x=>x.1) w (LR.refl w) h
 | d2 hf h=>exact qjs (λ_ _ x=>x.1) w (LR.refl w) h
 | d3 hf h=>exact qjs (λ_ _ x=>x.1) w (LR.refl w) h
 | d4 hf h=>exact qjs (λ_ _ x=>x.1) w (LR.refl w) h
 | quit hf h=>exact absurd rfl hs
theorem Cfg.WS.status(h:C.WS s m d l S r g w):g.status=.running\/g.status=.finished:=by
 by_cases e:s=1
 ·subst e;cases h with
  | quit _ h=>exact h.status
 ·exact .inl (h.running_of e)
theorem Cfg.WS.woken(h:C.WS s m d l S r g w)(a a':qgC)(w':qgx):qqf C.P a a' w' g=g:=by
 unfold qrd;split
 ·exact qpF _ h.status
 ·rfl
theorem Cfg.WS.fin_of(h:C.WS s m d l S r g w)(hs:s<=6):C.fin l:=by
 cases h<;>first | assumption | omega
theorem Cfg.CS.rely(h:C.CS tag j f0 d a w)(hr:LR C.ty C.Wg w w₁):C.CS tag j f0 d a w₁:=by
 cases h with
 | skd hr' h=>exact .skd hr' (qkt qX h hr)
 | sa1 hr' h=>exact .sa1 hr' (qkt qX h hr)
 | ske hr' h=>exact .ske hr' (qkt qX h hr)
 | sgo hr' h=>exact .sgo hr' (qkt qX h hr)
 | kd h=>exact .kd (qkt qX h hr)
 | anch h=>exact .anch (qkt qX h hr)
 | w1 h=>exact .w1 (qkt qX h hr)
 | w2 h=>exact .w2 (qkt qX h hr)
 | w3 h=>exact .w3 (qkt qX h hr)
 | blk h=>exact .blk λw₂ h₂=>h w₂ (LR.trans hr h₂)
 | w4 h=>exact .w4 (qkt qX h hr)
 | ke h=>exact .ke (qkt qX h hr)
 | acq h=>exact .acq (qkt qX h hr)
theorem Cfg.CS.status(H:C.Ok)(h:C.CS tag j f0 d a w):(a.status=.running/\tag≠.blk)\/(a.status=.blocked/\tag=.blk):=by
 cases h with
 | skd _ h=>exact .inl ⟨qjs (λ_ _ x=>x.1) w (LR.refl w) h,by simp⟩
 | sa1 _ h=>exact .inl ⟨qjs (λ_ _ x=>x.1) w (LR.refl w) h,by simp⟩
 | ske _ h=>exact .inl ⟨qjs (λ_ _ x=>x.1) w (LR.refl w) h,by simp⟩
 | sgo _ h=>exact .inl ⟨qjs (λ_ _ x=>x.1) w (LR.refl w) h,by simp⟩
 | kd h=>exact .inl ⟨qjs (λ_ _ x=>x.1) w (LR.refl w) h,by simp⟩
 | anch h=>exact .inl ⟨qjs H.hAr w (LR.refl w) h,by simp⟩
 | w1 h=>exact .inl ⟨qjs (λ_ _ x=>x.1) w (LR.refl w) h,by simp⟩
 | w2 h=>exact .inl ⟨qjs (λ_ _ x=>x.1) w (LR.refl w) h,by simp⟩
 | w3 h=>exact .inl ⟨qjs (λ_ _ x=>x.1) w (LR.refl w) h,by simp⟩
 | blk h=>exact .inr ⟨rfl,rfl⟩
 | w4 h=>exact .inl ⟨qjs (λ_ _ x=>x.1) w (LR.refl w) h,by simp⟩
 | ke h=>exact .inl ⟨qjs (λ_ _ x=>x.1) w (LR.refl w) h,by simp⟩
 | acq h=>exact .inl ⟨qjs (λ_ _ x=>x.1) w (LR.refl w) h,by simp⟩
theorem Cfg.CS.le(h:C.CS tag j f0 d a w):j+qpc tag<=C.n:=by
 cases h<;>simp only[qpc]<;>(try simp)<;>omega
open Go.ConcR (again_blocked) in
theorem Cfg.CS.wokenBy(H:C.Ok)(h:C.CS tag j f0 d a w)(hr:LR C.ty C.Wg w w₁)(g g':qgC) :∃tag' f',C.CS tag' j f' d (qqf C.P g g' w₁ a) w₁/\f'<=f0+1/\(tag'=tag\/(tag=.blk/\tag'=.w3))/\(mayWake C.P g=true->g'.status=.running->tag'≠.blk):=by
 have h':=h.rely hr;unfold qrd;split
 ·rcases h'.status H with⟨hs,hne⟩ | ⟨_,rfl⟩
  ·exact⟨tag,f0,by rw[qpF _ (.inl hs)];exact h',by omega,.inl rfl,λ_ _=>hne⟩
  ·cases h' with
   | blk hb=>
    have h3:=hb w₁ (LR.refl w₁);exact⟨.w3,0+1,by rw[again_blocked h3.1 h3.2.1];exact .w3 (qj6 hb),by omega,.inr ⟨rfl,rfl⟩,λ_ _=>by simp⟩
 ·rename_i hc
  exact⟨tag,f0,h',by omega,.inl rfl,λh1 h2=>absurd (by simp[h1,h2]) hc⟩
end
end
section
open Go.Conc Go.ConcN Go.ConcN.Gen Go.RowKit Go.Conc.Lib Go.ConcR.Gen
open Go.ConcR (KK wgBlock WgAt stA smA rd wr mk DC0)
theorem qv{P:qh2}{n d:Nat}{b:qh4}{cs:List qh4}{k:List qkD}{a:Act}{ops:Array qiu}{i:Nat}{rest:List Nat}{o:qiu}{v:qgB}(hq:qoe P n d (G (b.at (a.put o.dst v) (.inRegion ops rest::k)) cs))(ho:ops[i]?=some o:=by rfl)(hw:qhv o (qj4 ops a.tmps)=true:=by rfl)(hk:b.kind≠.early:=by k_ne)(hr:∀w,(qk3 a.eval o).run P w=.ok (.value v) w:=by intro _;go_simp;first | rfl | (w_num;rfl))(he:∀w,(qk3 a.eval o).events P w #[]=#[]:=by intro _;simp[go_sem, *]) :qoe P (n+1) d (G (b.at a (.inRegion ops (i::rest)::k)) cs):=QuitsD.value v ho hw hk hr he hq
theorem qb{ty:qh8}{Wg:Nat}{w w₁:qgx}(h:qjD ty Wg w)(r:LR ty Wg w w₁):qjD ty Wg w₁:=r h
section
variable{L:WgLink}{Wg:Nat}{b₀:qh4}{a₀:Act}{ops₀:Array qiu}{i₀:Nat}{rest₀:List Nat}{k₀:List qkD}{cs:List qh4}{qt:Nat}
def qfk(P:qh2)(ty:qh8)(Wg:Nat)(g:qgC)(w:qgx):Prop:=g.status=.running/\qge P ty Wg g w
theorem addNeg{P:qh2}(H:WgLib P L)(hT:qoe P qt 0 (G (b₀.at (a₀.put ((ops₀[i₀]?).bind (·.dst)) (.tuple #[])) (.inRegion ops₀ rest₀::k₀)) cs))(w:qgx)(hF:qjD L.tWg Wg w) :qmc P false (LR L.tWg Wg) DC0 (qfk P L.tWg Wg) 20 (G ((base L.add).at ⟨#[.pointer (some ⟨Wg,0,none⟩),.int .i64 (-1),qgD,qgD,qgD,qgD,qgD,qgD,qgD,qgD,qgD,qgD,qgD,qgD,qgD,qgD,qgD,qgD,qgD,qgD,qgD,qgD,qgD,qgD,qgD,qgD,qgD,qgD,qgD,qgD,qgD,qgD,qgD,qgD,qgD,qgD,qgD,qgD,qgD,qgD,qgD,qgD,qgD,qgD,qgD,qgD,qgD,qgD,qgD,qgD,qgD,qgD,qgD,qgD,qgD,qgD,qgD,qgD,qgD,qgD,qgD,qgD,qgD,qgD,qgD,qgD,qgD,qgD,qgD,qgD,qgD,qgD,qgD,qgD,qgD,qgD,qgD,qgD,qgD,qgD,qgD,qgD,qgD,qgD,qgD,qgD,qgD,qgD,qgD,qgD,qgD,qgD,qgD,qgD,qgD,qgD,qgD,qgD,qgD,qgD,qgD,qgD,qgD,qgD,qgD,qgD,qgD,qgD,qgD,qgD,qgD,qgD,qgD,qgD,qgD,qgD,qgD],[]⟩ [.code (body_add L)]) (b₀.at a₀ (.inRegion ops₀ (i₀::rest₀)::k₀)::cs)) w:=by
 lib_facts;simp only[body_add,addFn,qgH];u_c qha qb hF;u_cond true qb hF;(iterate 2 u_c qha qb hF);u_reg qb hF;(iterate 2 u_conv H.underlying_tWgP H.room_tWg (qoH hF).choose_spec qb hF);u_c qgE qb hF;u_cond true qb hF;u_reg qb hF;(iterate 2 u_conv H.underlying_tWgP H.room_tWg (qoH hF).choose_spec qb hF);refine qj6 (λw₁ h₁=>?_);replace hF:=qb hF h₁;clear h₁;refine⟨rfl,_,qo7 .releaseMerge (by simp) rfl rfl (by k_ne) rfl H.f_relMerge (x_relMerge_n L) (x_relMerge_b L) (x_relMerge_x L) (x_relMerge_f L) (by simp[Act.eval,stA]),10,?_⟩;unfold WG;walk_nrm;u_c qgE qb hF;u_c qha qb hF;u_reg qb hF;refine qj6 (λw₁ h₁=>?_);replace hF:=qb hF h₁;clear h₁;refine⟨rfl,_,qom .disable (by simp) rfl rfl (by k_ne) rfl H.f_disable (x_disable_n L) (x_disable_b L) (x_disable_x L) (x_disable_f L),50,?_⟩;unfold WG;walk_nrm;u_c qgE qb hF;u_reg qb hF;u_defer qb hF;u_c qgE qb hF;u_c qha qb hF;u_reg qb hF;u_op qb hF;u_c qgE qb hF;(iterate 2 u_c qha qb hF);u_reg qb hF;u_bub qb hF;u_c qgE qb hF;u_cond false qb hF;u_c qin qb hF;u_c qha qb hF;u_reg qb hF;(iterate 6 u_op qb hF);u_call H.f_uAdd (nm_uAdd L) uAddFn qb hF;u_c qha qb hF;u_reg qb hF;u_op qb hF;u_c qgE qb hF;u_c qha qb hF;u_reg qb hF;(iterate 4 u_op qb hF);refine qj6 (λw₁ h₁=>?_);clear h₁ hF;refine⟨rfl,λv wt a7 hv hw=>?_⟩;have e0:IntKind.u64.wrap (KK+18446744069414584320)=0:=by decide
 have e1:IntKind.u64.wrap (KK+1+18446744069414584320)=1:=by decide
 rcases qof v with rfl | hvp<;>(obtain rfl | rfl:wt=0\/wt=1:=by omega)
 ·replace hw:qn1 L.tWg Wg w₁ KK 0:=by simpa using hw
  have z:((0:Nat):Int)*KK+((0:Nat):Int)=0:=by simp
  rw[z];refine⟨_,(qld rfl rfl (by k_ne) rfl H.f_addU64 (x_addU64_n L) (x_addU64_b L) (x_addU64_x L) .u64 (x_addU64_f L) rfl rfl hw.cellSt (hw.thaw 0)).trans (by rw[e0];rfl),λhl=>absurd hl.2 (by decide),λ_=>⟨qt+89,?_⟩⟩;clear hw;have f1:IntKind.u32.wrap 0=0:=by decide
  have f2:IntKind.u32.wrap (bits .and .u64 0 2147483647)=0:=by decide
  walk_nrm
  (refine qv ?_;walk_nrm)
  q_c qgE;q_c qjy;q_leave1 H.f_uAdd
  (refine qv ?_;walk_nrm)
  q_c qgE;q_c qha;q_c qha;q_reg
  iterate 4 (refine qv ?_;walk_nrm)
  q_skip;q_skip
  (refine qv ?_;walk_nrm)
  q_c qgE;q_cond false;q_c qin;q_c qha;q_reg
  iterate 4 (refine qv ?_;walk_nrm)
  q_c qgE;q_c qha;q_reg
  iterate 4 (refine qv ?_;walk_nrm)
  q_c qgE;q_c qha;q_c qha;q_reg
  iterate 5 (refine qv ?_;walk_nrm)
  q_skip;q_skip;q_skip;q_skip
  (refine qv ?_;walk_nrm)
  q_c qgE;q_cond false;q_c qin;q_c qha;q_c qha;q_reg
  iterate 2 (refine qv ?_;walk_nrm)
  q_c qgE;q_cond false;q_c qin;q_c qha;q_c qha;q_reg
  iterate 3 (refine qv ?_;walk_nrm)
  q_skip;q_skip
  iterate 2 (refine qv ?_;walk_nrm)
  q_skip;q_skip;q_skip;q_skip
  (refine qv ?_;walk_nrm)
  q_c qgE;q_cond false;q_c qin;q_c qha;q_c qha;q_reg
  iterate 6 (refine qv ?_;walk_nrm)
  q_c qgE;q_cond true;q_c qjy;q_enable;q_leave0 H.f_add;exact hT
 ·replace hw:qn1 L.tWg Wg w₁ (KK+1) 0:=by simpa using hw
  have z:((0:Nat):Int)*KK+((1:Nat):Int)=1:=by simp
  rw[z];refine⟨_,(qld rfl rfl (by k_ne) rfl H.f_addU64 (x_addU64_n L) (x_addU64_b L) (x_addU64_x L) .u64 (x_addU64_f L) rfl rfl hw.cellSt (hw.thaw 0)).trans (by rw[e1];rfl),λ_=>⟨120,?_⟩,λhl=>absurd ⟨rfl,rfl⟩ hl⟩;have hF:qjD L.tWg Wg (w₁.setCell (stA Wg) (.int .u64 1)):=⟨_,_,hw.setSt 1⟩;clear hw;unfold WG;walk_nrm;u_op qb hF;u_c qgE qb hF;u_c qjy qb hF;u_leave1 H.f_uAdd qb hF;u_op qb hF;u_c qgE qb hF;(iterate 2 u_c qha qb hF);u_reg qb hF;(iterate 4 u_op qb hF);(iterate 2 u_skip qb hF);u_op qb hF;u_c qgE qb hF;u_cond false qb hF;u_c qin qb hF;u_c qha qb hF;u_reg qb hF;(iterate 4 u_op qb hF);u_c qgE qb hF;u_c qha qb hF;u_reg qb hF;(iterate 4 u_op qb hF);u_c qgE qb hF;(iterate 2 u_c qha qb hF);u_reg qb hF;(iterate 5 u_op qb hF);(iterate 4 u_skip qb hF);u_op qb hF;u_c qgE qb hF;u_cond false qb hF;u_c qin qb hF;(iterate 2 u_c qha qb hF);u_reg qb hF;u_op qb hF;u_op qb hF;u_c qgE qb hF;u_cond false qb hF;u_c qin qb hF;(iterate 2 u_c qha qb hF);u_reg qb hF;(iterate 7 u_op qb hF);(iterate 4 u_skip qb hF);u_op qb hF;u_c qgE qb hF;u_cond false qb hF;u_c qin qb hF;(iterate 2 u_c qha qb hF);u_reg qb hF;(iterate 6 u_op qb hF);u_c qgE qb hF;u_cond false qb hF;u_c qin qb hF;(iterate 2 u_c qha qb hF);u_reg qb hF;(iterate 3 u_op qb hF);u_call H.f_uLoad (nm_uLoad L) uLoadFn qb hF;u_c qha qb hF;u_reg qb hF;u_op qb hF;u_c qgE qb hF;u_c qha qb hF;u_reg qb hF;(iterate 3 u_op qb hF);refine qj6 (λw₂ h₂=>?_);clear h₂ hF;refine⟨rfl,λhw=>⟨_,qlp rfl rfl (by k_ne) rfl H.f_loadU64 (x_loadU64_n L) (x_loadU64_b L) (x_loadU64_x L) .u64 (x_loadU64_f L) rfl hw.cellSt,40,?_⟩⟩;have hF:qjD L.tWg Wg w₂:=⟨_,_,hw⟩;clear hw;unfold WG;walk_nrm;u_op qb hF;u_c qgE qb hF;u_c qjy qb hF;u_leave1 H.f_uLoad qb hF;u_op qb hF;u_op qb hF;u_c qgE qb hF;u_cond false qb hF;u_c qin qb hF;u_c qha qb hF;u_reg qb hF;(iterate 3 u_op qb hF);u_call H.f_uStore (nm_uStore L) uStoreFn qb hF;u_reg qb hF;(iterate 4 u_op qb hF);refine qj6 (λw₃ h₃=>?_);clear h₃ hF;refine⟨rfl,λhw=>⟨_,stepG_store_atomic rfl rfl (by k_ne) rfl H.f_storeU64 (x_storeU64_n L) (x_storeU64_b L) (x_storeU64_x L) (x_storeU64_f L) rfl rfl hw.cellSt (hw.thaw 0),50,?_⟩⟩;have hF:qjD L.tWg Wg (w₃.setCell (stA Wg) (.int .u64 0)):=⟨_,_,hw.setSt 0⟩;clear hw;unfold WG;walk_nrm;u_c qgE qb hF;u_c qqB qb hF;u_leave0 H.f_uStore qb hF;u_c qgE qb hF;(iterate 2 u_c qha qb hF);u_reg qb hF;u_op qb hF;u_c qgE qb hF;u_cond false qb hF;u_c qin qb hF;u_c qn6 qb hF;u_c qq6 qb hF;(iterate 2 u_c qha qb hF);u_reg qb hF;u_op qb hF;u_op qb hF;u_c qgE qb hF;u_cond true qb hF;u_c qin qb hF;u_c qha qb hF;u_c qn6 qb hF;u_reg qb hF;(iterate 3 u_op qb hF);refine qj6 (λw₄ h₄=>?_);clear h₄ hF;refine⟨rfl,mayWake_entry rfl rfl H.f_semrelease (x_semrelease_b L),λhw=>⟨_,(stepG_semrelease rfl rfl (by k_ne) rfl H.f_semrelease (x_semrelease_n L) (x_semrelease_b L) (x_semrelease_x L) (x_semrelease_f L) (by simp[Act.eval,smA]) hw.cellSm (hw.thaw 1)).trans (by rfl),qt+19,?_⟩⟩;clear hw;walk_nrm;q_c qgE;q_c stepG_inBlock;q_reg
  iterate 3 (refine qv ?_;walk_nrm)
  have f1:IntKind.u32.wrap 0=0:=by decide
  simp only[f1];q_c qgE;q_c stepG_inLoop;q_c qha;q_c qha;q_reg
  iterate 2 (refine qv ?_;walk_nrm)
  q_c qgE;q_cond false;q_exit;q_c qqB;q_enable;q_leave0 H.f_add;exact hT
 ·replace hw:qn1 L.tWg Wg w₁ (((v:Nat)+1)*KK+0) 0:=by simpa using hw
  have z:((v:Nat):Int)*KK+((0:Nat):Int)=(v:Int)*KK+0:=by simp
  rw[z];have a6:0<v:=by omega
  have eS:IntKind.u64.wrap (((v:Nat)+1)*KK+0+18446744069414584320)=(v:Int)*KK+0:=by rw[qnr];simp only[KK];omega
  obtain⟨S,hS⟩:∃S:Int,S=(v:Int)*KK+0:=⟨_,rfl⟩;rw[<- hS] at eS ⊢;have a1:S / 4294967296=(v:Int):=by rw[hS];simp only[KK];omega
  have b1:bits .and .u64 S 2147483648=0:=by rw[hS];have:=st_flag v 0 (by omega) (by omega);simpa[KK] using this
  have b2:bits .and .u64 S 2147483647=0:=by rw[hS];have:=qq7 v 0 (by omega) (by omega);simpa[KK] using this
  have c1:IntKind.i32.wrap (v:Int)=(v:Int):=by rw[qns];omega
  have q3:decide ((v:Int)<0)=false:=decide_eq_false (by omega);have q4:decide (0<(v:Int))=true:=decide_eq_true (by omega);have q5:((v:Int) == 0)=false:=by simp;omega
  have q6:decide ((v:Int)=0)=false:=decide_eq_false (by omega);have f1:IntKind.u32.wrap 0=0:=by decide
  refine⟨_,(qld rfl rfl (by k_ne) rfl H.f_addU64 (x_addU64_n L) (x_addU64_b L) (x_addU64_x L) .u64 (x_addU64_f L) rfl rfl hw.cellSt (hw.thaw 0)).trans (by rw[eS];rfl),λhl=>absurd hl.1 (by omega),λ_=>⟨qt+89,?_⟩⟩;clear hw hS z eS;walk_nrm
  (refine qv ?_;walk_nrm)
  q_c qgE;q_c qjy;q_leave1 H.f_uAdd
  (refine qv ?_;walk_nrm)
  q_c qgE;q_c qha;q_c qha;q_reg
  iterate 4 (refine qv ?_;walk_nrm)
  q_skip;q_skip
  (refine qv ?_;walk_nrm)
  q_c qgE;q_cond false;q_c qin;q_c qha;q_reg
  iterate 4 (refine qv ?_;walk_nrm)
  q_c qgE;q_c qha;q_reg
  iterate 4 (refine qv ?_;walk_nrm)
  q_c qgE;q_c qha;q_c qha;q_reg
  iterate 5 (refine qv ?_;walk_nrm)
  q_skip;q_skip;q_skip;q_skip
  (refine qv ?_;walk_nrm)
  q_c qgE;q_cond false;q_c qin;q_c qha;q_c qha;q_reg
  iterate 2 (refine qv ?_;walk_nrm)
  q_c qgE;q_cond false;q_c qin;q_c qha;q_c qha;q_reg
  iterate 3 (refine qv ?_;walk_nrm)
  q_skip;q_skip
  iterate 2 (refine qv ?_;walk_nrm)
  q_skip;q_skip;q_skip;q_skip
  (refine qv ?_;walk_nrm)
  q_c qgE;q_cond false;q_c qin;q_c qha;q_c qha;q_reg
  iterate 3 (refine qv ?_;walk_nrm)
  q_skip;q_skip
  (refine qv ?_;walk_nrm)
  q_c qgE;q_cond true;q_c qjy;q_enable;q_leave0 H.f_add;exact hT
 ·replace hw:qn1 L.tWg Wg w₁ (((v:Nat)+1)*KK+1) 0:=by simpa using hw
  have z:((v:Nat):Int)*KK+((1:Nat):Int)=(v:Int)*KK+1:=by simp
  rw[z];have a6:0<v:=by omega
  have eS:IntKind.u64.wrap (((v:Nat)+1)*KK+1+18446744069414584320)=(v:Int)*KK+1:=by rw[qnr];simp only[KK];omega
  obtain⟨S,hS⟩:∃S:Int,S=(v:Int)*KK+1:=⟨_,rfl⟩;rw[<- hS] at eS ⊢;have a1:S / 4294967296=(v:Int):=by rw[hS];simp only[KK];omega
  have b1:bits .and .u64 S 2147483648=0:=by rw[hS];have:=st_flag v 1 (by omega) (by omega);simpa[KK] using this
  have b2:bits .and .u64 S 2147483647=1:=by rw[hS];have:=qq7 v 1 (by omega) (by omega);simpa[KK] using this
  have c1:IntKind.i32.wrap (v:Int)=(v:Int):=by rw[qns];omega
  have q3:decide ((v:Int)<0)=false:=decide_eq_false (by omega);have q4:decide (0<(v:Int))=true:=decide_eq_true (by omega);have q5:((v:Int) == 0)=false:=by simp;omega
  have q6:decide ((v:Int)=0)=false:=decide_eq_false (by omega);refine⟨_,(qld rfl rfl (by k_ne) rfl H.f_addU64 (x_addU64_n L) (x_addU64_b L) (x_addU64_x L) .u64 (x_addU64_f L) rfl rfl hw.cellSt (hw.thaw 0)).trans (by rw[eS];rfl),λhl=>absurd hl.1 (by omega),λ_=>⟨qt+89,?_⟩⟩;clear hw hS z eS;walk_nrm
  (refine qv ?_;walk_nrm)
  q_c qgE;q_c qjy;q_leave1 H.f_uAdd
  (refine qv ?_;walk_nrm)
  q_c qgE;q_c qha;q_c qha;q_reg
  iterate 4 (refine qv ?_;walk_nrm)
  q_skip;q_skip
  (refine qv ?_;walk_nrm)
  q_c qgE;q_cond false;q_c qin;q_c qha;q_reg
  iterate 4 (refine qv ?_;walk_nrm)
  q_c qgE;q_c qha;q_reg
  iterate 4 (refine qv ?_;walk_nrm)
  q_c qgE;q_c qha;q_c qha;q_reg
  iterate 5 (refine qv ?_;walk_nrm)
  q_skip;q_skip;q_skip;q_skip
  (refine qv ?_;walk_nrm)
  q_c qgE;q_cond false;q_c qin;q_c qha;q_c qha;q_reg
  iterate 2 (refine qv ?_;walk_nrm)
  q_c qgE;q_cond false;q_c qin;q_c qha;q_c qha;q_reg
  iterate 7 (refine qv ?_;walk_nrm)
  q_skip;q_skip;q_skip;q_skip
  (refine qv ?_;walk_nrm)
  q_c qgE;q_cond false;q_c qin;q_c qha;q_c qha;q_reg
  iterate 3 (refine qv ?_;walk_nrm)
  q_skip;q_skip
  (refine qv ?_;walk_nrm)
  q_c qgE;q_cond true;q_c qjy;q_enable;q_leave0 H.f_add;exact hT
theorem done{P:qh2}(H:WgLib P L){c:qh4}(hcm:c.mode=.returning)(hT:qoe P qt 0 (G c cs))(w:qgx)(hF:qjD L.tWg Wg w) :qmc P false (LR L.tWg Wg) DC0 (qfk P L.tWg Wg) 23 (G ((baseD L.done).at ⟨#[.pointer (some ⟨Wg,0,none⟩),qgD,qgD,qgD],[]⟩ [.code (body_done L)]) (c::cs)) w:=by
 lib_facts;have hA:=@addNeg L Wg;simp only[body_done,body_add,doneFn,addFn,qgH] at hA ⊢;u_reg qb hF;u_op qb hF;u_in qb hF;refine goes_call rfl rfl (by k_ne) rfl H.f_add (nm_add L) rfl ⟨by u_nil,?_⟩
 walk_nrmf addFn
 refine hA (qt:=qt+3) H ?_ _ hF;q_c qgE;q_c qqB;exact QuitsD.leaveD rfl rfl H.f_done rfl hcm hT
end
end
section
open Go.Conc Go.ConcN Go.ConcN.Gen Go.RowKit Go.Conc.Lib Go.ConcR.Gen
open Go.ConcR (KK wgBlock WgAt stA smA rd wr mk DC0)
theorem qa{ty:qh8}{Wg:Nat}{w w₁:qgx}(h:qjD ty Wg w)(r:LR ty Wg w w₁):qjD ty Wg w₁:=r h
section
variable(P:qh2)(b:Bool)(ty:qh8)(Wg:Nat)
def q6s(m:Mark)(qlo:qgC->qgx->Prop)(N:Nat)(g:qgC)(w:qgx):Prop :=
 g.status=.running/\∃g',qi7 P b g w=.go g' w #[mk m]/\qmc P b (LR ty Wg) DC0 qlo N g' w
def qei(qlo:qgC->qgx->Prop)(g:qgC)(w:qgx):Prop :=
 g.status=.running/\∀v:Nat,v<2147483647->qn1 ty Wg w (v*KK) 0 ->
  ∃g',qi7 P b g w=.go g' (w.setCell (stA Wg) (.int .u64 ((v+1)*KK))) #[rd (stA Wg),wr (stA Wg)] /\
   (qmc P b (LR ty Wg) DC0 (q6s P b ty Wg (.read (smA Wg)) (q6s P b ty Wg .enable qlo 2) 60) 110 g' (w.setCell (stA Wg) (.int .u64 ((v+1)*KK))) \/
    qmc P b (LR ty Wg) DC0 (q6s P b ty Wg .enable qlo 2) 110 g' (w.setCell (stA Wg) (.int .u64 ((v+1)*KK))))
end
section
variable{L:WgLink}{Wg:Nat}{qlo:qgC->qgx->Prop}{b₀:qh4}{a₀:Act}{ops₀:Array qiu}{i₀:Nat}{rest₀:List Nat}{k₀:List qkD}{cs:List qh4}
theorem addPos{P:qh2}(H:WgLib P L)(hT:∀w,qjD L.tWg Wg w->qlo (G (b₀.at (a₀.put ((ops₀[i₀]?).bind (·.dst)) (.tuple #[])) (.inRegion ops₀ rest₀::k₀)) cs) w)(w:qgx)(hF:qjD L.tWg Wg w) :qmc P true (LR L.tWg Wg) DC0 (q6s P true L.tWg Wg .disable (qei P true L.tWg Wg qlo) 40) 12 (G ((base L.add).at ⟨#[.pointer (some ⟨Wg,0,none⟩),.int .i64 1,qgD,qgD,qgD,qgD,qgD,qgD,qgD,qgD,qgD,qgD,qgD,qgD,qgD,qgD,qgD,qgD,qgD,qgD,qgD,qgD,qgD,qgD,qgD,qgD,qgD,qgD,qgD,qgD,qgD,qgD,qgD,qgD,qgD,qgD,qgD,qgD,qgD,qgD,qgD,qgD,qgD,qgD,qgD,qgD,qgD,qgD,qgD,qgD,qgD,qgD,qgD,qgD,qgD,qgD,qgD,qgD,qgD,qgD,qgD,qgD,qgD,qgD,qgD,qgD,qgD,qgD,qgD,qgD,qgD,qgD,qgD,qgD,qgD,qgD,qgD,qgD,qgD,qgD,qgD,qgD,qgD,qgD,qgD,qgD,qgD,qgD,qgD,qgD,qgD,qgD,qgD,qgD,qgD,qgD,qgD,qgD,qgD,qgD,qgD,qgD,qgD,qgD,qgD,qgD,qgD,qgD,qgD,qgD,qgD,qgD,qgD,qgD,qgD,qgD,qgD],[]⟩ [.code (body_add L)]) (b₀.at a₀ (.inRegion ops₀ (i₀::rest₀)::k₀)::cs)) w:=by
 lib_facts;simp only[body_add,addFn,qgH];u_c qha qa hF;u_cond true qa hF;(iterate 2 u_c qha qa hF);u_reg qa hF;u_op qa hF;u_op qa hF;u_c qgE qa hF;u_cond false qa hF;u_c qin qa hF;u_c qha qa hF;u_reg qa hF;refine qj6 (λw₁ h₁=>?_);replace hF:=qa hF h₁;clear h₁;refine⟨rfl,_,qom .disable (by simp) rfl rfl (by k_ne) rfl H.f_disable (x_disable_n L) (x_disable_b L) (x_disable_x L) (x_disable_f L),?_⟩;walk_nrm;u_c qgE qa hF;u_reg qa hF;u_defer qa hF;u_c qgE qa hF;u_c qha qa hF;u_reg qa hF;u_op qa hF;u_c qgE qa hF;(iterate 2 u_c qha qa hF);u_reg qa hF;u_bub qa hF;u_c qgE qa hF;u_cond false qa hF;u_c qin qa hF;u_c qha qa hF;u_reg qa hF;(iterate 6 u_op qa hF);u_call H.f_uAdd (nm_uAdd L) uAddFn qa hF;u_c qha qa hF;u_reg qa hF;u_op qa hF;u_c qgE qa hF;u_c qha qa hF;u_reg qa hF;(iterate 4 u_op qa hF);refine qj6 (λw₂ h₂=>?_);clear h₂ hF;refine⟨rfl,λv hv hw=>?_⟩;rcases qof v with rfl | hvp
 ·replace hw:qn1 L.tWg Wg w₂ 0 0:=by simpa using hw
  have z:(((0:Nat):Int)+1)*KK=KK:=by simp
  rw[z];have e0:IntKind.u64.wrap (0+4294967296)=KK:=by decide
  refine⟨_,(qld rfl rfl (by k_ne) rfl H.f_addU64 (x_addU64_n L) (x_addU64_b L) (x_addU64_x L) .u64 (x_addU64_f L) rfl rfl hw.cellSt (hw.thaw 0)).trans (by rw[e0];rfl),.inl ?_⟩;have hF:qjD L.tWg Wg (w₂.setCell (stA Wg) (.int .u64 KK)):=⟨_,_,hw.setSt _⟩;clear hw;simp only[KK] at hF ⊢;walk_nrm;u_conv H.underlying_tPU32 H.room_tU32 (qjE hF).choose_spec qa hF;u_c qgE qa hF;u_c qjy qa hF;u_leave1 H.f_uAdd qa hF;u_conv H.underlying_tPU32 H.room_tU32 (qjE hF).choose_spec qa hF;u_c qgE qa hF;(iterate 2 u_c qha qa hF);u_reg qa hF;(iterate 4 u_conv H.underlying_tPU32 H.room_tU32 (qjE hF).choose_spec qa hF);(iterate 2 u_skip qa hF);u_conv H.underlying_tPU32 H.room_tU32 (qjE hF).choose_spec qa hF;u_c qgE qa hF;u_cond false qa hF;u_c qin qa hF;u_c qha qa hF;u_reg qa hF;(iterate 2 u_conv H.underlying_tPU32 H.room_tU32 (qjE hF).choose_spec qa hF);u_op qa hF;u_conv H.underlying_tPU32 H.room_tU32 (qjE hF).choose_spec qa hF;u_c qgE qa hF;u_c qha qa hF;u_reg qa hF;(iterate 2 u_conv H.underlying_tPU32 H.room_tU32 (qjE hF).choose_spec qa hF);u_op qa hF;u_conv H.underlying_tPU32 H.room_tU32 (qjE hF).choose_spec qa hF;u_c qgE qa hF;(iterate 2 u_c qha qa hF);u_reg qa hF;(iterate 7 u_conv H.underlying_tPU32 H.room_tU32 (qjE hF).choose_spec qa hF);u_op qa hF;(iterate 2 u_conv H.underlying_tPU32 H.room_tU32 (qjE hF).choose_spec qa hF);u_c qgE qa hF;u_cond true qa hF;u_reg qa hF;(iterate 2 u_conv H.underlying_tPU32 H.room_tU32 (qjE hF).choose_spec qa hF);u_op qa hF;u_conv H.underlying_tPU32 H.room_tU32 (qjE hF).choose_spec qa hF;refine qj6 (λw₃ h₃=>?_);replace hF:=qa hF h₃;clear h₃;refine⟨rfl,_,qo7 .read (by simp) rfl rfl (by k_ne) rfl H.f_raceRead (x_raceRead_n L) (x_raceRead_b L) (x_raceRead_x L) (x_raceRead_f L) (ad:=⟨Wg,1,none⟩) (by simp[Act.eval]),?_⟩;walk_nrm;u_c qgE qa hF;(iterate 2 u_c qha qa hF);u_reg qa hF;u_op qa hF;u_op qa hF;u_c qgE qa hF;u_cond false qa hF;u_c qin qa hF;(iterate 2 u_c qha qa hF);u_reg qa hF;(iterate 3 u_op qa hF);(iterate 2 u_skip qa hF);u_op qa hF;u_op qa hF;(iterate 4 u_skip qa hF);u_op qa hF;u_c qgE qa hF;u_cond false qa hF;u_c qin qa hF;(iterate 2 u_c qha qa hF);u_reg qa hF;(iterate 3 u_op qa hF);(iterate 2 u_skip qa hF);u_op qa hF;u_c qgE qa hF;u_cond true qa hF;u_c qjy qa hF;refine qj6 (λw₃ h₃=>?_);replace hF:=qa hF h₃;clear h₃;refine⟨rfl,_,stepG_unwind_entry (v:=.tuple #[]) (evs:=#[mk .enable]) rfl H.f_enable (x_enable_n L) (x_enable_b L) (x_enable_x L) (x_enable_f L) (by simp[Extern.Race.none_]) (by simp[mk]) (by simp[mk]),?_⟩;u_leave0 H.f_add qa hF;exact qj6 λw₄ h₄=>hT _ (qa hF h₄)
 ·obtain⟨V,hV⟩:∃V:Int,V=(v:Int)+1:=⟨_,rfl⟩;obtain⟨S,hS⟩:∃S:Int,S=V*KK:=⟨_,rfl⟩;have eS:IntKind.u64.wrap ((v:Int)*KK+4294967296)=S:=by rw[qnr,hS,hV];simp only[KK];omega
  rw[<- hV,<- hS];have a1:S / 4294967296=V:=by rw[hS];simp only[KK];omega
  have b1:bits .and .u64 S 2147483648=0:=by rw[hS,hV];have:=st_flag (v+1) 0 (by omega) (by omega);simpa[KK] using this
  have b2:bits .and .u64 S 2147483647=0:=by rw[hS,hV];have:=qq7 (v+1) 0 (by omega) (by omega);simpa[KK] using this
  have c1:IntKind.i32.wrap V=V:=by rw[qns];omega
  have a7:1<V:=by omega
  have a6:V<2147483648:=by omega
  have q1:(V == 1)=false:=by simp;omega
  have q2:decide (V=1)=false:=decide_eq_false (by omega);have q3:decide (V<0)=false:=decide_eq_false (by omega);have q4:decide (0<V)=true:=decide_eq_true (by omega);have q5:(V == 0)=false:=by simp;omega
  have q6:decide (V=0)=false:=decide_eq_false (by omega);refine⟨_,(qld rfl rfl (by k_ne) rfl H.f_addU64 (x_addU64_n L) (x_addU64_b L) (x_addU64_x L) .u64 (x_addU64_f L) rfl rfl hw.cellSt (hw.thaw 0)).trans (by rw[eS];rfl),.inr ?_⟩;have hF:qjD L.tWg Wg (w₂.setCell (stA Wg) (.int .u64 S)):=⟨_,_,hw.setSt _⟩;clear hw hS hV eS;walk_nrm;u_op qa hF;u_c qgE qa hF;u_c qjy qa hF;u_leave1 H.f_uAdd qa hF;u_op qa hF;u_c qgE qa hF;(iterate 2 u_c qha qa hF);u_reg qa hF;(iterate 4 u_op qa hF);(iterate 2 u_skip qa hF);u_op qa hF;u_c qgE qa hF;u_cond false qa hF;u_c qin qa hF;u_c qha qa hF;u_reg qa hF;(iterate 4 u_op qa hF);u_c qgE qa hF;u_c qha qa hF;u_reg qa hF;(iterate 4 u_op qa hF);u_c qgE qa hF;(iterate 2 u_c qha qa hF);u_reg qa hF;(iterate 10 u_op qa hF);u_c qgE qa hF;u_cond false qa hF;u_c qin qa hF;(iterate 2 u_c qha qa hF);u_reg qa hF;u_op qa hF;u_op qa hF;u_c qgE qa hF;u_cond false qa hF;u_c qin qa hF;(iterate 2 u_c qha qa hF);u_reg qa hF;(iterate 3 u_op qa hF);(iterate 2 u_skip qa hF);u_op qa hF;u_op qa hF;(iterate 4 u_skip qa hF);u_op qa hF;u_c qgE qa hF;u_cond false qa hF;u_c qin qa hF;(iterate 2 u_c qha qa hF);u_reg qa hF;(iterate 3 u_op qa hF);(iterate 2 u_skip qa hF);u_op qa hF;u_c qgE qa hF;u_cond true qa hF;u_c qjy qa hF;refine qj6 (λw₃ h₃=>?_);replace hF:=qa hF h₃;clear h₃;refine⟨rfl,_,stepG_unwind_entry (v:=.tuple #[]) (evs:=#[mk .enable]) rfl H.f_enable (x_enable_n L) (x_enable_b L) (x_enable_x L) (x_enable_f L) (by simp[Extern.Race.none_]) (by simp[mk]) (by simp[mk]),?_⟩;u_leave0 H.f_add qa hF;exact qj6 λw₄ h₄=>hT _ (qa hF h₄)
end
end
section
open Go.Conc Go.ConcN Go.ConcN.Gen Go.RowKit Go.Conc.Lib Go.ConcR.Gen
open Go.ConcR (KK wgBlock WgAt stA smA rd wr mk DC0)
theorem q9{ty:qh8}{Wg:Nat}{w w₁:qgx}(h:qjD ty Wg w)(r:LR ty Wg w w₁):qjD ty Wg w₁:=r h
section
variable(P:qh2)(ty:qh8)(Wg:Nat)(Fin Anch:qgC->qgx->Prop)
def KF(m:Mark)(qlo:qgC->qgx->Prop)(N:Nat)(g:qgC)(w:qgx):Prop :=
 g.status=.running/\∃g',qi7 P true g w=.go g' w #[mk m]/\qmc P true (LR ty Wg) DC0 qlo N g' w
def MW4(g:qgC)(w:qgx):Prop :=
 g.status=.running/\(qn1 ty Wg w 0 0->∃g',qi7 P true g w=.go g' w #[rd (stA Wg)]/\qmc P true (LR ty Wg) DC0 (KF P ty Wg .enable (KF P ty Wg (.acquire (stA Wg)) Fin 40) 12) 30 g' w)
def MW3(g:qgC)(w:qgx):Prop :=
 g.status=.running/\g.offers=none /\
  ((∃st,qn1 ty Wg w st 0)->qi7 P true g w=.go { g with status:=.blocked } w #[]) /\
  (qn1 ty Wg w 0 1->∃g',qi7 P true g w=.go g' (w.setCell (smA Wg) (.int .u32 0)) (qln (smA Wg))/\qmc P true (LR ty Wg) DC0 (MW4 P ty Wg Fin) 30 g' (w.setCell (smA Wg) (.int .u32 0)))
def MW2(vs:Nat)(g:qgC)(w:qgx):Prop :=
 g.status=.running/\∀v:Nat,v<2147483648->qn1 ty Wg w (v*KK) 0 ->
  (v=vs->∃g',qi7 P true g w=.go g' (w.setCell (stA Wg) (.int .u64 (v*KK+1))) #[rd (stA Wg),wr (stA Wg)]/\qmc P true (LR ty Wg) DC0 (KF P ty Wg (.write (smA Wg)) (MW3 P ty Wg Fin) 40) 70 g' (w.setCell (stA Wg) (.int .u64 (v*KK+1)))) /\
  (v≠vs->∃g',qi7 P true g w=.go g' w #[rd (stA Wg)]/\qmc P true (LR ty Wg) DC0 Anch 20 g' w)
def MW1(g:qgC)(w:qgx):Prop :=
 g.status=.running/\∀v:Nat,v<2147483648->qn1 ty Wg w (v*KK) 0->∃g',qi7 P true g w=.go g' w #[rd (stA Wg)] /\
  (v=0->qmc P true (LR ty Wg) DC0 (KF P ty Wg .enable (KF P ty Wg (.acquire (stA Wg)) Fin 40) 12) 50 g' w)/\(v≠0->qmc P true (LR ty Wg) DC0 (MW2 P ty Wg Fin Anch v) 60 g' w)
end
def J3(L:WgLink)(Wg:Nat)(c:qh4)(cs:List qh4)(g:qgC)(w:qgx):Prop :=
 ∃T:Array qgB,g=G ((base L.wait).at ⟨T,[]⟩ [.code (L7 L),.inLoop (L7 L),.inBlock 0]) (c::cs)/\T.size=84/\T[0]?=some (.pointer (some ⟨Wg,0,none⟩))/\qjD L.tWg Wg w
section
variable{L:WgLink}{Wg:Nat}{Fin:qgC->qgx->Prop}{b₀:qh4}{a₀:Act}{ops₀:Array qiu}{i₀:Nat}{rest₀:List Nat}{k₀:List qkD}{cs:List qh4}
theorem waitRound{P:qh2}(H:WgLib P L)(hT:∀w,qjD L.tWg Wg w->Fin (G (b₀.at (a₀.put ((ops₀[i₀]?).bind (·.dst)) (.tuple #[])) (.inRegion ops₀ rest₀::k₀)) cs) w)(g:qgC)(w:qgx)(h:J3 L Wg (b₀.at a₀ (.inRegion ops₀ (i₀::rest₀)::k₀)) cs g w) :qmc P true (LR L.tWg Wg) DC0 (MW1 P L.tWg Wg Fin (J3 L Wg (b₀.at a₀ (.inRegion ops₀ (i₀::rest₀)::k₀)) cs)) 30 g w:=by
 lib_facts;obtain⟨T,rfl,a6,t0,hF⟩:=h;obtain⟨v0,v1,v2,v3,v4,v5,v6,v7,v8,v9,s1,r9,r8,r7,r6,r5,r4,r3,q7,q2,q1,q0,p9,p8,p7,p6,p5,p4,p3,n9,n8,n7,n6,n4,n3,n2,m9,m8,m7,m6,m5,m4,m3,l9,l8,l7,l6,l5,l4,k9,k8,k7,k6,k5,k0,h9,h8,g9,g8,g7,g6,g5,e9,e8,e7,e6,e5,e4,d9,d8,d7,d6,d5,c9,c8,c3,b9,b8,b7,b6,b0,a9,a8,a7,rfl⟩:=array84 T a6;simp only[qnn,List.getElem?_cons_zero,qhH] at t0;subst t0;simp only[L7,body_wait,waitFn,qgH];u_c qn6 q9 hF;u_c qha q9 hF;u_reg q9 hF;(iterate 3 u_op q9 hF);u_call H.f_uLoad (nm_uLoad L) uLoadFn q9 hF;u_c qha q9 hF;u_reg q9 hF;u_op q9 hF;u_c qgE q9 hF;u_c qha q9 hF;u_reg q9 hF;(iterate 3 u_op q9 hF);refine qj6 (λw₁ h₁=>?_);replace hF:=q9 hF h₁;clear h₁;refine⟨rfl,λv hv hw=>?_⟩;rcases qof v with rfl | hvp
 ·replace hw:qn1 L.tWg Wg w₁ 0 0:=by simpa using hw
  refine⟨_,qlp (v:=0) rfl rfl (by k_ne) rfl H.f_loadU64 (x_loadU64_n L) (x_loadU64_b L) (x_loadU64_x L) .u64 (x_loadU64_f L) rfl hw.cellSt,λ_=>?_,λh=>absurd rfl h⟩;clear hw;walk_nrm;u_op q9 hF;u_c qgE q9 hF;u_c qjy q9 hF;u_leave1 H.f_uLoad q9 hF;u_op q9 hF;u_c qgE q9 hF;u_c qha q9 hF;u_reg q9 hF;(iterate 4 u_op q9 hF);u_c qgE q9 hF;u_c qha q9 hF;u_reg q9 hF;(iterate 4 u_op q9 hF);u_c qgE q9 hF;(iterate 2 u_c qha q9 hF);u_reg q9 hF;u_op q9 hF;u_op q9 hF;u_c qgE q9 hF;u_cond true q9 hF;u_c qha q9 hF;u_cond true q9 hF;u_c qha q9 hF;u_reg q9 hF;refine qj6 (λw₅ h₅=>?_);replace hF:=q9 hF h₅;clear h₅;refine⟨rfl,_,qom .enable (by simp) rfl rfl (by k_ne) rfl H.f_enable (x_enable_n L) (x_enable_b L) (x_enable_x L) (x_enable_f L),?_⟩;walk_nrm;u_c qgE q9 hF;u_reg q9 hF;(iterate 2 u_conv H.underlying_tWgP H.room_tWg (qoH hF).choose_spec q9 hF);refine qj6 (λw₆ h₆=>?_);replace hF:=q9 hF h₆;clear h₆;refine⟨rfl,_,qo7 .acquire (by simp) rfl rfl (by k_ne) rfl H.f_acquire (x_acquire_n L) (x_acquire_b L) (x_acquire_x L) (x_acquire_f L) (by simp[Act.eval,stA]),?_⟩;walk_nrm;u_c qgE q9 hF;(iterate 2 u_c qha q9 hF);u_reg q9 hF;(iterate 8 u_op q9 hF);(iterate 2 u_skip q9 hF);u_op q9 hF;u_c qgE q9 hF;u_cond false q9 hF;u_c qin q9 hF;u_c qjy q9 hF;u_leave0 H.f_wait q9 hF;exact qj6 λw₇ h₇=>hT _ (q9 hF h₇)
 ·obtain⟨S,hS⟩:∃S:Int,(v:Int)*KK=S:=⟨_,rfl⟩;have a1:S / 4294967296=(v:Int):=by rw[<- hS];simp only[KK];omega
  have b1:bits .and .u64 S 2147483648=0:=by rw[<- hS];have:=st_flag v 0 (by omega) (by omega);simpa[KK] using this
  have b2:bits .and .u64 S 2147483647=0:=by rw[<- hS];have:=qq7 v 0 (by omega) (by omega);simpa[KK] using this
  have c1:IntKind.i32.wrap (v:Int)=(v:Int):=by rw[qns];omega
  have w1:IntKind.u64.wrap (S+1)=S+1:=by rw[qnr,<- hS];simp only[KK];omega
  have q3:decide ((v:Int)<0)=false:=decide_eq_false (by omega);have q4:decide (0<(v:Int))=true:=decide_eq_true (by omega);have q5:((v:Int) == 0)=false:=by simp;omega
  have q6:decide ((v:Int)=0)=false:=decide_eq_false (by omega);rw[hS] at hw;refine⟨_,qlp (v:=S) rfl rfl (by k_ne) rfl H.f_loadU64 (x_loadU64_n L) (x_loadU64_b L) (x_loadU64_x L) .u64 (x_loadU64_f L) rfl hw.cellSt,λh0=>absurd h0 (by omega),λ_=>?_⟩;clear hw;walk_nrm;u_op q9 hF;u_c qgE q9 hF;u_c qjy q9 hF;u_leave1 H.f_uLoad q9 hF;u_op q9 hF;u_c qgE q9 hF;u_c qha q9 hF;u_reg q9 hF;(iterate 4 u_op q9 hF);u_c qgE q9 hF;u_c qha q9 hF;u_reg q9 hF;(iterate 4 u_op q9 hF);u_c qgE q9 hF;(iterate 2 u_c qha q9 hF);u_reg q9 hF;u_op q9 hF;u_op q9 hF;u_c qgE q9 hF;u_cond false q9 hF;u_c qin q9 hF;u_c qha q9 hF;u_reg q9 hF;(iterate 6 u_op q9 hF);u_call H.f_uCas (nm_uCas L) uCasFn q9 hF;u_c qha q9 hF;u_reg q9 hF;u_op q9 hF;u_c qgE q9 hF;u_c qha q9 hF;u_reg q9 hF;(iterate 5 u_op q9 hF);refine qj6 (λw₂ h₂=>?_);replace hF:=q9 hF h₂;clear h₂;refine⟨rfl,λv' s2 hw=>⟨λe=>?_,λe=>?_⟩⟩
  ·subst e;rw[hS] at hw ⊢;refine⟨_,(stepG_cas_hit (v:=S) (n:=S+1) rfl rfl (by k_ne) rfl H.f_casU64 (x_casU64_n L) (x_casU64_b L) (x_casU64_x L) .u64 (x_casU64_f L) rfl rfl rfl hw.cellSt (hw.thaw 0)).trans (by rfl),?_⟩;replace hF:qjD L.tWg Wg (w₂.setCell (stA Wg) (.int .u64 (S+1))):=⟨_,_,hw.setSt _⟩;clear hw;walk_nrm;u_conv H.underlying_tPU32 H.room_tU32 (qjE hF).choose_spec q9 hF;u_c qgE q9 hF;u_c qjy q9 hF;u_leave1 H.f_uCas q9 hF;u_c qgE q9 hF;u_cond true q9 hF;(iterate 2 u_c qha q9 hF);u_reg q9 hF;(iterate 4 u_conv H.underlying_tPU32 H.room_tU32 (qjE hF).choose_spec q9 hF);u_c qgE q9 hF;u_cond true q9 hF;u_reg q9 hF;(iterate 2 u_conv H.underlying_tPU32 H.room_tU32 (qjE hF).choose_spec q9 hF);u_op q9 hF;u_conv H.underlying_tPU32 H.room_tU32 (qjE hF).choose_spec q9 hF;refine qj6 (λw₃ h₃=>?_);replace hF:=q9 hF h₃;clear h₃;refine⟨rfl,_,qo7 .write (by simp) rfl rfl (by k_ne) rfl H.f_raceWrite (x_raceWrite_n L) (x_raceWrite_b L) (x_raceWrite_x L) (x_raceWrite_f L) (ad:=⟨_,1,none⟩) (by simp[Act.eval]<;>rfl),?_⟩;walk_nrm;u_c qgE q9 hF;u_c qha q9 hF;u_reg q9 hF;u_op q9 hF;u_c qgE q9 hF;(iterate 2 u_c qha q9 hF);u_reg q9 hF;(iterate 4 u_op q9 hF);u_skip q9 hF;u_op q9 hF;u_c qgE q9 hF;u_cond false q9 hF;u_c qin q9 hF;u_c qha q9 hF;u_reg q9 hF;(iterate 4 u_op q9 hF);refine qj6 (λw₃ h₃=>?_);replace hF:=q9 hF h₃;clear h₃;refine⟨rfl,rfl,λ⟨st,hw⟩=>stepG_semacquire_wait rfl rfl rfl H.f_semacquire (x_semacquire_n L) (x_semacquire_b L) (x_semacquire_x L) (x_semacquire_f L) (by simp[Act.eval,smA]) hw.cellSm,λhf=>?_⟩;refine⟨_,(stepG_semacquire (n:=1) rfl rfl (by k_ne) rfl H.f_semacquire (x_semacquire_n L) (x_semacquire_b L) (x_semacquire_x L) (x_semacquire_f L) (by simp[Act.eval,smA]) hf.cellSm (by k_ne) (hf.thaw 1)).trans (by rfl),?_⟩;replace hF:qjD L.tWg Wg (w₃.setCell (smA Wg) (.int .u32 0)):=⟨_,_,hf.setSm 0⟩;clear hf;walk_nrm;u_c qgE q9 hF;u_c qha q9 hF;u_reg q9 hF;(iterate 3 u_op q9 hF);u_call H.f_uLoad (nm_uLoad L) uLoadFn q9 hF;u_c qha q9 hF;u_reg q9 hF;u_op q9 hF;u_c qgE q9 hF;u_c qha q9 hF;u_reg q9 hF;(iterate 3 u_op q9 hF);refine qj6 (λw₄ h₄=>?_);replace hF:=q9 hF h₄;clear h₄;refine⟨rfl,λhw=>⟨_,qlp (v:=0) rfl rfl (by k_ne) rfl H.f_loadU64 (x_loadU64_n L) (x_loadU64_b L) (x_loadU64_x L) .u64 (x_loadU64_f L) rfl hw.cellSt,?_⟩⟩;clear hw;walk_nrm;u_op q9 hF;u_c qgE q9 hF;u_c qjy q9 hF;u_leave1 H.f_uLoad q9 hF;u_op q9 hF;u_op q9 hF;u_c qgE q9 hF;u_c qha q9 hF;u_cond true q9 hF;u_c qha q9 hF;u_reg q9 hF;refine qj6 (λw₅ h₅=>?_);replace hF:=q9 hF h₅;clear h₅;refine⟨rfl,_,qom .enable (by simp) rfl rfl (by k_ne) rfl H.f_enable (x_enable_n L) (x_enable_b L) (x_enable_x L) (x_enable_f L),?_⟩;walk_nrm;u_c qgE q9 hF;u_reg q9 hF;(iterate 2 u_conv H.underlying_tWgP H.room_tWg (qoH hF).choose_spec q9 hF);refine qj6 (λw₆ h₆=>?_);replace hF:=q9 hF h₆;clear h₆;refine⟨rfl,_,qo7 .acquire (by simp) rfl rfl (by k_ne) rfl H.f_acquire (x_acquire_n L) (x_acquire_b L) (x_acquire_x L) (x_acquire_f L) (by simp[Act.eval,stA]),?_⟩;walk_nrm;u_c qgE q9 hF;(iterate 2 u_c qha q9 hF);u_reg q9 hF;u_op q9 hF;u_c qgE q9 hF;u_cond false q9 hF;u_c qin q9 hF;u_c qjy q9 hF;u_leave0 H.f_wait q9 hF;exact qj6 λw₇ h₇=>hT _ (q9 hF h₇)
  ·refine⟨_,stepG_cas_miss (v:=(v':Int)*KK) (old:=S) (n:=S+1) rfl rfl (by k_ne) rfl H.f_casU64 (x_casU64_n L) (x_casU64_b L) (x_casU64_x L) .u64 (x_casU64_f L) rfl rfl rfl hw.cellSt (hw.thaw 0) (by rw[<- hS];simp only[KK];omega),?_⟩;clear hw;walk_nrm;u_op q9 hF;u_c qgE q9 hF;u_c qjy q9 hF;u_leave1 H.f_uCas q9 hF;u_c qgE q9 hF;u_cond false q9 hF;u_c qin q9 hF;u_c stepG_inBlock q9 hF;u_c stepG_inLoop q9 hF;refine qj6 (λw₃ h₃=>?_);replace hF:=q9 hF h₃;exact⟨_,rfl,by simp,by simp,hF⟩
theorem waitStart{P:qh2}(H:WgLib P L)(w:qgx)(hF:qjD L.tWg Wg w) :qmc P true (LR L.tWg Wg) DC0 (KF P L.tWg Wg .disable (J3 L Wg (b₀.at a₀ (.inRegion ops₀ (i₀::rest₀)::k₀)) cs) 3) 3 (G ((base L.wait).at ⟨#[.pointer (some ⟨Wg,0,none⟩),qgD,qgD,qgD,qgD,qgD,qgD,qgD,qgD,qgD,qgD,qgD,qgD,qgD,qgD,qgD,qgD,qgD,qgD,qgD,qgD,qgD,qgD,qgD,qgD,qgD,qgD,qgD,qgD,qgD,qgD,qgD,qgD,qgD,qgD,qgD,qgD,qgD,qgD,qgD,qgD,qgD,qgD,qgD,qgD,qgD,qgD,qgD,qgD,qgD,qgD,qgD,qgD,qgD,qgD,qgD,qgD,qgD,qgD,qgD,qgD,qgD,qgD,qgD,qgD,qgD,qgD,qgD,qgD,qgD,qgD,qgD,qgD,qgD,qgD,qgD,qgD,qgD,qgD,qgD,qgD,qgD,qgD,qgD],[]⟩ [.code (body_wait L)]) (b₀.at a₀ (.inRegion ops₀ (i₀::rest₀)::k₀)::cs)) w:=by
 lib_facts;simp only[body_wait,waitFn,qgH];u_c qha q9 hF;u_cond true q9 hF;u_reg q9 hF;refine qj6 (λw₁ h₁=>?_);replace hF:=q9 hF h₁;clear h₁;refine⟨rfl,_,qom .disable (by simp) rfl rfl (by k_ne) rfl H.f_disable (x_disable_n L) (x_disable_b L) (x_disable_x L) (x_disable_f L),?_⟩;walk_nrm;u_c qgE q9 hF;u_c qn6 q9 hF;u_c qq6 q9 hF;exact qj6 (λw₂ h₂=>⟨_,rfl,by simp,by simp,q9 hF h₂⟩)
end
end
section
open Go.Conc Go.ConcN Go.ConcN.Gen Go.RowKit Go.Conc.Lib Go.ConcR.Gen
open Go.ConcR (KK wgBlock WgAt stA smA rd wr mk DC0)
section
variable{P:qh2}{b:Bool}{ty:qh8}{Wg:Nat}{R:qgx->qgx->Prop}{D D':qgx->qgx->Array qiq->Prop}{Stop Stop' qlo:qgC->qgx->Prop}
theorem vQ(hD:∀w w' es,D w w' es->D' w w' es)(hS:∀g w,Stop g w->Stop' g w) :∀{n:Nat} {g:qgC} {w:qgx},qmc P b R D Stop n g w->qmc P b R D' Stop' n g w
 | 0,_,_,h=>λw₁ hr=>hS _ _ (h w₁ hr)
 | n+1,_,_,.inl h=>.inl λw₁ hr=>hS _ _ (h w₁ hr)
 | n+1,g,w,.inr ⟨hs,h⟩=>.inr ⟨hs,λw₁ hr=>by
   obtain⟨g',w',es,e,hd,hg⟩:=goes_elim (h w₁ hr);rw[e];exact⟨hD _ _ _ hd,vQ hD hS hg⟩⟩
theorem q7a{n:Nat}{g:qgC}{w:qgx}:∀r,qmc P b R D Stop n g w->qmc P b R D Stop (n+r) g w
 | 0,h=>h
 | r+1,h=>(q7a r h).more
theorem Zl(hR:∀w,R w w){N:Nat}:∀{n:Nat} {g:qgC} {w:qgx},qmc P b R D (λg w=>qmc P b R D Stop N g w) n g w->qmc P b R D Stop (n+N) g w
 | 0,_,w,h=>by rw[qhf];exact h w (hR w)
 | n+1,_,w,.inl h=>by rw[Nat.add_comm];exact q7a (n+1) (h w (hR w))
 | n+1,g,w,.inr ⟨hs,h⟩=>by
   rw[Nat.add_right_comm];refine .inr ⟨hs,λw₁ hr=>?_⟩;obtain⟨g',w',es,e,hd,hg⟩:=goes_elim (h w₁ hr);rw[e];exact⟨hd,Zl hR hg⟩
theorem ZU(hR:∀w,R w w)(hT:∀a b c,R a b->R b c->R a c){N:Nat}(hS:∀g w,Stop g w->g.status=.running/\∃g' es,qi7 P b g w=.go g' w es/\D w w es/\qmc P b R D qlo N g' w){n:Nat}{g:qgC}{w:qgx}(h:qmc P b R D Stop n g w):qmc P b R D qlo (n+(N+1)) g w:=by
 have key:∀{g:qgC} {w:qgx},(∀w₁,R w w₁->Stop g w₁)->∀w₁,R w w₁->qmc P b R D qlo (N+1) g w₁:=λ{g w} h w₁ hr=>
  .inr ⟨(hS _ _ (h w₁ hr)).1,λw₂ hr₂=>by
   obtain⟨g',es,e,hd,hg⟩:=(hS _ _ (h w₂ (hT _ _ _ hr hr₂))).2;rw[e];exact⟨hd,hg⟩⟩
 refine Zl hR ?_;induction n generalizing g w with
 | zero=>exact key h
 | succ n ih=>
  rcases h with h | ⟨hs,h⟩
  ·exact .inl (key h)
  ·refine .inr ⟨hs,λw₁ hr=>?_⟩;obtain⟨g',w',es,e,hd,hg⟩:=goes_elim (h w₁ hr);rw[e];exact⟨hd,ih hg⟩
end
section
variable{U X:Type}(C:Cfg U X)
theorem qbA{Wg:Nat}:∀w w' es,DC0 w w' es->DM Wg w w' es:=λ_ _ _ h=>⟨h.1,by rw[h.2];simp⟩
variable{C}
theorem Cfg.GM.of{Stop Stop':qgC->qgx->Prop}{m:Nat}{g:qgC}{w:qgx}(h:qmc C.P true (LR C.ty C.Wg) DC0 Stop m g w)(hS:∀g w,Stop g w->Stop' g w):C.GM Stop' m g w :=
 vQ qbA hS h
theorem Cfg.GM.trans{Stop:qgC->qgx->Prop}{N n:Nat}{g:qgC}{w:qgx}(h:C.GM (λg w=>C.GM Stop N g w) n g w):C.GM Stop (n+N) g w:=Zl LR.refl h
theorem Cfg.GM.swallow{m:Mark}{qlo:qgC->qgx->Prop}{N n:Nat}{g:qgC}{w:qgx}(hm:m=.read (smA C.Wg)\/m=.write (smA C.Wg))(h:C.GM (q6s C.P true C.ty C.Wg m qlo N) n g w):C.GM qlo (n+(N+1)) g w :=
 ZU LR.refl qX (λg w ⟨hs,g',e,hg⟩=>⟨hs,g',_,e,⟨rfl,by rcases hm with rfl | rfl<;>simp⟩,vQ qbA (λ_ _ h=>h) hg⟩) h
theorem Cfg.add_spawn{S:qgC->qgx->Prop}{N n:Nat}{g:qgC}{w:qgx}(h:qmc C.P true (LR C.ty C.Wg) DC0 (q6s C.P true C.ty C.Wg .disable (qei C.P true C.ty C.Wg (λg w=>C.GM (C.AtGoS S) N g w)) 40) n g w) :C.GM (C.AtKdS S) n g w:=by
 refine Cfg.GM.of h λg w ⟨hs,g',e,hg⟩=>⟨hs,g',e,40,Cfg.GM.of hg λg w ⟨hs,hv⟩=>⟨hs,λv h1 h2=>?_⟩⟩;obtain⟨g',e,hg⟩:=hv v h1 h2;have hk:∀g w,q6s C.P true C.ty C.Wg .enable (λg w=>C.GM (C.AtGoS S) N g w) 2 g w->C.AtKeS S g w :=
  λg w ⟨hs,g',e,hg⟩=>⟨hs,g',e,2+N,Cfg.GM.trans (Cfg.GM.of hg λ_ _ h=>h)⟩
 refine⟨g',e,?_⟩;rcases hg with hg | hg
 ·exact⟨_,vQ (λ_ _ _ h=>h) hk (Cfg.GM.swallow (.inl rfl) (Cfg.GM.of hg λ_ _ h=>h))⟩
 ·exact⟨_,Cfg.GM.of hg hk⟩
theorem Cfg.GM.sayC{m:Mark}{qlo:qgC->qgx->Prop}{N n:Nat}{g:qgC}{w:qgx}(hm:m=.read (smA C.Wg)\/m=.write (smA C.Wg))(h:C.GM (KF C.P C.ty C.Wg m qlo N) n g w):C.GM qlo (n+(N+1)) g w :=
 ZU LR.refl qX (λg w ⟨hs,g',e,hg⟩=>⟨hs,g',_,e,⟨rfl,by rcases hm with rfl | rfl<;>simp⟩,vQ qbA (λ_ _ h=>h) hg⟩) h
section
variable{F0:qgC->qgx->Prop}(hF:∀g w,qmc C.P true (LR C.ty C.Wg) DC0 F0 40 g w->C.Fin g w)
include hF
theorem Cfg.acq_of{g:qgC}{w:qgx}(h:KF C.P C.ty C.Wg (.acquire (stA C.Wg)) F0 40 g w):C.AtAcq g w:=by
 obtain⟨hs,g',e,hg⟩:=h;exact⟨hs,g',e,hF _ _ hg⟩
theorem Cfg.ke_of{g:qgC}{w:qgx}(h:KF C.P C.ty C.Wg .enable (KF C.P C.ty C.Wg (.acquire (stA C.Wg)) F0 40) 12 g w):C.AtKe g w:=by
 obtain⟨hs,g',e,hg⟩:=h;exact⟨hs,g',e,12,Cfg.GM.of hg λ_ _ h=>Cfg.acq_of hF h⟩
theorem Cfg.w4_of{g:qgC}{w:qgx}(h:MW4 C.P C.ty C.Wg F0 g w):C.AtW4 g w:=by
 obtain⟨hs,h⟩:=h;refine⟨hs,λhw=>?_⟩;obtain⟨g',e,hg⟩:=h hw;exact⟨g',e,30,Cfg.GM.of hg λ_ _ h=>Cfg.ke_of hF h⟩
theorem Cfg.w3_of{g:qgC}{w:qgx}(h:MW3 C.P C.ty C.Wg F0 g w):C.AtW3 g w:=by
 obtain⟨hs,ho,hb,h⟩:=h;refine⟨hs,ho,hb,λhw=>?_⟩;obtain⟨g',e,hg⟩:=h hw;exact⟨g',e,30,Cfg.GM.of hg λ_ _ h=>Cfg.w4_of hF h⟩
theorem Cfg.w2_of{vs:Nat}{g:qgC}{w:qgx}(h:MW2 C.P C.ty C.Wg F0 C.AnchW vs g w):C.AtW2 vs g w:=by
 obtain⟨hs,h⟩:=h;refine⟨hs,λv hv hw=>⟨λe=>?_,λe=>?_⟩⟩
 ·obtain⟨g',e',hg⟩:=(h v hv hw).1 e;exact⟨g',e',_,vQ (λ_ _ _ h=>h) (λ_ _ h=>Cfg.w3_of hF h) (Cfg.GM.sayC (.inr rfl) (Cfg.GM.of hg λ_ _ h=>h))⟩
 ·obtain⟨g',e',hg⟩:=(h v hv hw).2 e;exact⟨g',e',20,Cfg.GM.of hg λ_ _ h=>h⟩
theorem Cfg.w1_of{g:qgC}{w:qgx}(h:MW1 C.P C.ty C.Wg F0 C.AnchW g w):C.AtW1 g w:=by
 obtain⟨hs,h⟩:=h;refine⟨hs,λv hv hw=>?_⟩;obtain⟨g',e,h1,h2⟩:=h v hv hw;exact⟨g',e,λe=>⟨50,Cfg.GM.of (h1 e) λ_ _ h=>Cfg.ke_of hF h⟩,λe=>⟨60,Cfg.GM.of (h2 e) λ_ _ h=>Cfg.w2_of hF h⟩⟩
end
theorem Cfg.kd_of{n:Nat}{g:qgC}{w:qgx}(h:qmc C.P true (LR C.ty C.Wg) DC0 (KF C.P C.ty C.Wg .disable C.AnchW 3) n g w):C.GM C.AtKd n g w :=
 Cfg.GM.of h λ_ _ ⟨hs,g',e,hg⟩=>⟨hs,g',e,3,Cfg.GM.of hg λ_ _ h=>h⟩
end
end
section
open Go.Conc Go.ConcN
open Go.ConcR (KK wgBlock WgAt stA smA rd wr DC0 Bk g_of_ofEvents loc_of_ofEvent)
structure Inv{U X:Type}(C:Cfg U X)(gs:Array qgC)(w:qgx)(t:qo3)(j:Nat)(D:Nat->WD)(ls:Nat->X)(Ss:Nat->Bs)(rk:Nat->Rk)(W:U)(tag:CTag)(f0 d0:Nat)(a:qgC)(st sm:Int)(cl:Nat->Cl)(fu:Nat->Nat):Prop where
 size:gs.size=C.lo+j
 main:gs[0]?=some a
 cs:C.CS tag j f0 d0 a w
 lv:∀i,1<=i->i<C.lo->∃g,gs[i]?=some g/\qoe C.P (fu i) (qpb t i) g
 wk:∀i,i<j->∃g,gs[C.lo+i]?=some g/\C.WS (D i).stage (D i).fuel (D i).deaf (ls i) (Ss i) (rk i) g w
 wd:∀i,i<j->qpb t (C.lo+i)=(D i).deaf
 rel:∀i,i<j->(D i).stage<=6->∃r,RelBy (stA C.Wg) t (C.lo+i) r
 tr:Tr cl gs.size w.heap.size t
 clw:∀i,i<j->∀b,Ss i b->cl b=.mine (C.lo+i)/\b<w.heap.size
 cl0:∀b,w.heap.size<=b->cl b=.mine 0
 cla:∀b,b<C.W1.heap.size->cl b=C.clA b
 cln:∀b,C.W1.heap.size<=b->cl b≠.sync
 nor:∀ad,NoRelease ad t
 deaf0:qpb t 0=d0
 hd:Hd C.lo t
 data:C.DataAt W w
 jj:C.J W j ls
 ph:C.Ph w
 wg:qn1 C.ty C.Wg w st sm
 mode:qma j D tag st sm
section
variable{U X:Type}{C:Cfg U X}{gs:Array qgC}{w w':qgx}{t:qo3}{j:Nat}{D:Nat->WD}{ls:Nat->X}{Ss:Nat->Bs}{rk:Nat->Rk}{W γ':U}{tag:CTag}{f0 d0:Nat}{a:qgC}{st sm st' sm':Int}{cl:Nat->Cl}{fu:Nat->Nat}
structure Ef(cl:Nat->Cl)(x:Nat)(w w':qgx):Prop where
 keep:∀b,b<w.heap.size->cl b≠.mine x->cl b≠.sync->w'.heap[b]?=w.heap[b]?
 size:w.heap.size<=w'.heap.size
 os:w'.os=w.os
 output:w'.output=w.output
def JZ(cl:Nat->Cl)(x:Nat)(w w':qgx)(b:Nat):Cl:=if w.heap.size<=b/\b<w'.heap.size then .mine x else cl b
theorem vT{x b:Nat}(h:b<w.heap.size):JZ cl x w w' b=cl b:=by unfold JZ;rw[if_neg (by omega)]
theorem q1s{x:Nat}(h:w'.heap.size=w.heap.size):JZ cl x w w'=cl:=by
 funext b
 unfold JZ;rw[if_neg (by omega)]
theorem Inv.fzc(H:C.Ok)(h:Inv C gs w t j D ls Ss rk W tag f0 d0 a st sm cl fu){b:Nat}(hb:C.Fz b):cl b=.ro C.lo/\b<w.heap.size:=by
 obtain⟨h1,h2⟩:=H.fzc b hb;exact⟨(h.cla b h2).trans h1,qh7 h2 h.ph.size⟩
theorem Inv.syc(H:C.Ok)(h:Inv C gs w t j D ls Ss rk W tag f0 d0 a st sm cl fu){b:Nat}(hb:C.Sy b):cl b=.sync/\b<w.heap.size:=by
 obtain⟨h1,h2⟩:=H.syc b hb;exact⟨(h.cla b h2).trans h1,qh7 h2 h.ph.size⟩
theorem Inv.wgc(H:C.Ok)(h:Inv C gs w t j D ls Ss rk W tag f0 d0 a st sm cl fu):cl C.Wg=.sync/\C.Wg<w.heap.size:=by
 obtain⟨h1,h2,_⟩:=H.wgc;exact⟨(h.cla _ h2).trans h1,qh7 h2 h.ph.size⟩
theorem Inv.ph'(H:C.Ok)(h:Inv C gs w t j D ls Ss rk W tag f0 d0 a st sm cl fu){x:Nat}(e:Ef cl x w w'):C.Ph w' where
 fz b hb:=by
  obtain⟨h1,h2⟩:=h.fzc H hb;rw[e.keep b h2 (by rw[h1];simp) (by rw[h1];simp)];exact h.ph.fz b hb
 size:=qh0 h.ph.size e.size
 os:=e.os.trans h.ph.os
 output:=e.output.trans h.ph.output
theorem Inv.rc(H:C.Ok)(h:Inv C gs w t j D ls Ss rk W tag f0 d0 a st sm cl fu){x i:Nat}(e:Ef cl x w w')(hi:i<j)(hx:x≠C.lo+i)(a7:qn1 C.ty C.Wg w' st' sm')(a6:C.DataAt γ' w'):RC C.Fz C.K (Ss i) w w' where
 own b hb:=by
  obtain⟨h1,h2⟩:=h.clw i hi b hb;exact e.keep b h2 (by rw[h1];intro hc;cases hc;exact hx rfl) (by rw[h1];simp)
 fz b hb:=by
  obtain⟨h1,h2⟩:=h.fzc H hb;exact e.keep b h2 (by rw[h1];simp) (by rw[h1];simp)
 size:=e.size
 os:=e.os
 output:=e.output
 k:=⟨λ_=>⟨_,_,a7⟩,λ_=>⟨_,a6⟩⟩
theorem Inv.stepW(H:C.Ok)(h:Inv C gs w t j D ls Ss rk W tag f0 d0 a st sm cl fu){i:Nat}(hi:i<j){g g':qgC}{es:Array qiq}(sl:Option (Nat × Nat))(hg:gs[C.lo+i]?=some g)(d8:qi7 C.P false g w=.go g' w' es)(e:Ef cl (C.lo+i) w w')(c3:∀e∈es,EvG (JZ cl (C.lo+i) w w') w'.heap.size (C.lo+i) e/\∀a,e.loc≠.mark (.release a)){s' m' a6:Nat}{l':X}{r':Rk}(d7:C.WS s' m' a6 l' (grow (Ss i) w w') r' g' w')(b6:qk4 (D i).deaf es=a6)(hrel:s'<=6->∃r,RelBy (stA C.Wg) (t++qja (C.lo+i) g.frame.fn g.frame.place es) (C.lo+i) r)(a9:qn1 C.ty C.Wg w' st' sm')(a8:C.DataAt γ' w')(hJ:C.J γ' j (upd ls i l'))(b0:∀tag',(tag'=tag\/(tag=.blk/\tag'=.w3))->(mayWake C.P g=true->g'.status=.running->tag'≠.blk)->qma j (upd D i ⟨s',m',a6⟩) tag' st' sm') :∃gs' tag' f' a',runT C.P (qkl gs w sl) (C.lo+i)=(.next (qkl gs' w' sl),qja (C.lo+i) g.frame.fn g.frame.place es)/\f'<=f0+1/\(tag'=tag\/(tag=.blk/\tag'=.w3)) /\Inv C gs' w' (t++qja (C.lo+i) g.frame.fn g.frame.place es) j (upd D i ⟨s',m',a6⟩) (upd ls i l') (upd Ss i (grow (Ss i) w w')) (upd rk i r') γ' tag' f' d0 a' st' sm' (JZ cl (C.lo+i) w w') fu:=by
 have hlo:=H.hlo;obtain⟨tag',f',c8,d9,a7,d6⟩:=h.cs.wokenBy H (LR.to (w:=w) ⟨_,_,a9⟩) g g';have b9:=qm8 (P:=C.P) (sl:=sl) (i:=C.lo+i) hg (by rw[show(C.lo+i == 0)=false by simp;omega];exact d8);have hsz:((gs.map (qqf C.P g g' w')).setIfInBounds (C.lo+i) g').size=gs.size:=by simp
 have hlt:C.lo+i<gs.size:=by rw[h.size];omega
 have hops:∀op∈qja (C.lo+i) g.frame.fn g.frame.place es,op.g=C.lo+i:=qnz;refine⟨_,tag',f',_,b9,d9,a7,⟨by rw[hsz];exact h.size,by rw[qkp _ _ _ _ (by omega),h.main];rfl,c8,λx d5 c9=>?_,λx hx=>?_,λx hx=>?_,λx hx hst=>?_,?_,λx hx b hb=>?_,λb hb=>?_,λb hb=>?_,λb hb=>?_,?_,?_,?_,a8,hJ,h.ph' H e,a9,b0 tag' a7 d6⟩⟩
 ·obtain⟨y,hy,b8⟩:=h.lv x d5 c9;exact⟨y,by rw[qkp _ _ _ _ (by omega),hy,qip,qlH b8],by rw[ql0 t (by omega:C.lo+i≠x) _ hops];exact b8⟩
 ·by_cases ex:x=i
  ·subst ex;exact⟨g',qlc _ _ _ hlt,by simp only[qk1];exact d7⟩
  ·obtain⟨y,hy,b7⟩:=h.wk x hx;refine⟨y,by rw[qkp _ _ _ _ (by omega),hy,qip,b7.woken],?_⟩;rw[qkF D _ ex,qkF ls _ ex,qkF Ss _ ex,qkF rk _ ex];exact b7.rely (h.rc H e hx (by omega) a9 a8)
 ·by_cases ex:x=i
  ·subst ex;rw[qph,h.wd x hx,qk1];exact b6
  ·rw[ql0 t (by omega) _ hops,h.wd x hx,qkF D _ ex]
 ·by_cases ex:x=i
  ·subst ex;rw[qk1] at hst;exact hrel hst
  ·rw[qkF D _ ex] at hst;obtain⟨r,hr⟩:=h.rel x hx hst;exact⟨r,hr.appOther hops (by omega)⟩
 ·rw[hsz];exact(((h.tr.grow e.size).fresh' (cl':=JZ cl (C.lo+i) w w') (m:=w.heap.size) h.tr.inb λb hb=>vT hb)).step hlt (Jk λe he=>(c3 e he).1)
 ·by_cases ex:x=i
  ·subst ex;rw[qk1] at hb;rcases hb with hb | hb
   ·obtain⟨h1,h2⟩:=h.clw x hi b hb;exact⟨by rw[vT h2];exact h1,qh7 h2 e.size⟩
   ·exact⟨by unfold JZ;rw[if_pos hb],hb.2⟩
  ·rw[qkF Ss _ ex] at hb;obtain⟨h1,h2⟩:=h.clw x hx b hb;exact⟨by rw[vT h2];exact h1,qh7 h2 e.size⟩
 ·unfold JZ;rw[if_neg (by omega)];exact h.cl0 b (qh0 e.size hb)
 ·rw[vT (qh7 hb h.ph.size)];exact h.cla b hb
 ·unfold JZ;split
  ·simp
  ·exact h.cln b hb
 ·exact λad=>(h.nor ad).app λop hop hm=>by
   rw[qlD] at hop;obtain⟨x,hx,rfl⟩:=qm7.1 hop;exact(c3 x hx).2 _ (qnd hm)
 ·rw[ql0 t (by omega) _ hops];exact h.deaf0
 ·exact h.hd.app λop hop=>.inr (.inl (by rw[hops op hop];omega))
theorem Inv.step0(H:C.Ok)(h:Inv C gs w t j D ls Ss rk W tag f0 d0 a st sm cl fu){a':qgC}{es:Array qiq}(sl:Option (Nat × Nat))(c8:qi7 C.P true a w=.go a' w' es)(e:Ef cl 0 w w')(c9:w'.heap.size=w.heap.size)(b7:∀e∈es,EvG cl w'.heap.size 0 e/\∀a,e.loc≠.mark (.release a)){tag':CTag}{f':Nat}(b8:C.CS tag' j f' (qk4 d0 es) a' w')(b0:qn1 C.ty C.Wg w' st' sm')(a6:C.DataAt W w')(a7:qma j D tag' st' sm') :∃gs',runT C.P (qkl gs w sl) 0=(.next (qkl gs' w' sl),qja 0 a.frame.fn a.frame.place es) /\Inv C gs' w' (t++qja 0 a.frame.fn a.frame.place es) j D ls Ss rk W tag' f' (qk4 d0 es) a' st' sm' cl fu:=by
 have hlo:=H.hlo;have b6:=qm8 (P:=C.P) (sl:=sl) (i:=0) h.main c8;have hsz:((gs.map (qqf C.P a a' w')).setIfInBounds 0 a').size=gs.size:=by simp
 have hlt:0<gs.size:=by rw[h.size];omega
 have hops:∀op∈qja 0 a.frame.fn a.frame.place es,op.g=0:=qnz;refine⟨_,b6,⟨by rw[hsz];exact h.size,qlc _ _ _ hlt,b8,λx c3 b9=>?_,λx hx=>?_,λx hx=>?_,λx hx hst=>?_,?_,λx hx b hb=>?_,λb hb=>h.cl0 b (by omega),h.cla,h.cln,?_,?_,?_,a6,h.jj,h.ph' H e,b0,a7⟩⟩
 ·obtain⟨y,hy,a9⟩:=h.lv x c3 b9;exact⟨y,by rw[qkp _ _ _ _ (by omega),hy,qip,qlH a9],by rw[ql0 t (by omega:0≠x) _ hops];exact a9⟩
 ·obtain⟨y,hy,a8⟩:=h.wk x hx;exact⟨y,by rw[qkp _ _ _ _ (by omega),hy,qip,a8.woken],a8.rely (h.rc H e hx (by omega) b0 a6)⟩
 ·rw[ql0 t (by omega) _ hops];exact h.wd x hx
 ·obtain⟨r,hr⟩:=h.rel x hx hst;exact⟨r,hr.appOther hops (by omega)⟩
 ·rw[hsz];exact(h.tr.grow e.size).step hlt (Jk λe he=>(b7 e he).1)
 ·obtain⟨h1,h2⟩:=h.clw x hx b hb;exact⟨h1,qh7 h2 e.size⟩
 ·exact λad=>(h.nor ad).app λop hop hm=>by
   rw[qlD] at hop;obtain⟨x,hx,rfl⟩:=qm7.1 hop;exact(b7 x hx).2 _ (qnd hm)
 ·rw[qph,h.deaf0]
 ·exact h.hd.app λop hop=>.inl (hops op hop)
theorem Inv.leave(H:C.Ok)(h:Inv C gs w t j D ls Ss rk W tag f0 d0 a st sm cl fu)(sl:Option (Nat × Nat)){i:Nat}{g:qgC}(h1:1<=i)(h2:i<C.lo)(hg:gs[i]?=some g)(hr:g.status=.running) :∃gs' ops q tag' f' a',runT C.P (qkl gs w sl) i=(.next (qkl gs' w sl),ops)/\q<fu i/\f'<=f0+1/\(tag'=tag\/(tag=.blk/\tag'=.w3)) /\Inv C gs' w (t++ops) j D ls Ss rk W tag' f' d0 a' st sm cl (upd fu i q):=by
 have hlo:=H.hlo;obtain⟨g0,b0,hq⟩:=h.lv i h1 h2;rw[hg] at b0;cases b0;cases hf:fu i with
 | zero=>rw[hf] at hq;rw[hq.1] at hr;cases hr
 | succ q=>
  rw[hf] at hq;rcases hq with⟨hx,_⟩ | ⟨_,g1,es,hmute,hstep,hq⟩
  ·rw[hr] at hx;cases hx
  ·obtain⟨tag',f',b6,b9,a6,c8⟩:=h.cs.wokenBy H (LR.refl w) g g1;have a9:=qm8 (P:=C.P) (sl:=sl) (i:=i) hg (by rw[show(i == 0)=false by simp;omega];exact hstep w);have hsz:((gs.map (qqf C.P g g1 w)).setIfInBounds i g1).size=gs.size:=by simp
   have hlt:i<gs.size:=by rw[h.size];omega
   have hops:=QQ (g:=i) (fn:=g.frame.fn) (pos:=g.frame.place) hmute;refine⟨_,_,q,tag',f',_,a9,qmq q,b9,a6,⟨by rw[hsz];exact h.size,by rw[qkp _ _ _ _ (by omega),h.main];rfl,b6,λx b8 b7=>?_,λx hx=>?_,λx hx=>?_,λx hx hst=>?_,?_,h.clw,h.cl0,h.cla,h.cln,?_,?_,?_,h.data,h.jj,h.ph,h.wg,h.mode.retag a6⟩⟩
   ·by_cases e:x=i
    ·subst e;exact⟨g1,qlc _ _ _ hlt,by rw[qk1,qph];exact hq⟩
    ·obtain⟨y,hy,a8⟩:=h.lv x b8 b7;exact⟨y,by rw[qkp _ _ _ _ (by omega),hy,qip,qlH a8],by rw[qkF _ _ e,ql0 t (Ne.symm e) _ λop hop=>(hops op hop).1];exact a8⟩
   ·obtain⟨y,hy,a7⟩:=h.wk x hx;exact⟨y,by rw[qkp _ _ _ _ (by omega),hy,qip,a7.woken],a7⟩
   ·rw[ql0 t (by omega) _ λop hop=>(hops op hop).1];exact h.wd x hx
   ·obtain⟨r,hr⟩:=h.rel x hx hst;exact⟨r,hr.appOther (λop hop=>(hops op hop).1) (by omega)⟩
   ·rw[hsz];exact h.tr.step hlt λop hop=>⟨(hops op hop).1,λx hx=>by rw[(hops op hop).2] at hx;cases hx⟩
   ·exact λad=>(h.nor ad).app λop hop hm=>by
     rw[qlD] at hop;obtain⟨x,hx,rfl⟩:=qm7.1 hop;have h1:=hmute x hx;have h2:=qnd hm;obtain⟨c3,wr,sy⟩:=x;simp only at h2;subst h2;cases h1
   ·rw[ql0 t (by omega) _ λop hop=>(hops op hop).1];exact h.deaf0
   ·exact h.hd.app λop hop=>.inr (.inr (hops op hop).2)
end
end
section
open Go.Conc Go.ConcN
open Go.ConcR (KK wgBlock WgAt stA smA rd wr DC0 Bk g_of_ofEvents loc_of_ofEvent ofEvent_mk ofEvent_cell)
def qcd(n:Nat)(f' f:Nat->Rk):Prop:=∃i,i<n/\Rk.sub (f' i) (f i)/\∀k,k≠i->f' k=f k
theorem q32:∀(n:Nat) (f:Nat->Rk),Acc (qcd n) f
 | 0,f=>.intro _ λ_ ⟨_,h,_⟩=>absurd h (Nat.not_lt_zero _)
 | n+1,f=>by
  have key:∀x:Rk,Acc Rk.sub x->∀f:Nat->Rk,f n=x->Acc (qcd (n+1)) f:=by
   intro x hx;induction hx with
   | intro x _ ihx=>
    intro f hf;have a6:=q32 n f;induction a6 with
    | intro f _ ihf=>
     refine .intro _ λf' ⟨i,hi,hs,hk⟩=>?_;by_cases e:i=n
     ·subst e;exact ihx (f' i) (by rw[<- hf];exact hs) f' rfl
     ·exact ihf f' ⟨i,by omega,hs,hk⟩ (by rw[hk n (Ne.symm e)];exact hf)
  exact key (f n) (Rk.acc _) f rfl
abbrev Me:=Nat × (Nat->Rk) × Nat
def LtM(n:Nat):Me->Me->Prop:=Prod.Lex (·<·) (Prod.Lex (qcd n) (·<·))
theorem qeH(n:Nat):WellFounded (LtM n):=(Prod.lex ⟨_,Nat.lt_wfRel.wf⟩ (Prod.lex ⟨qcd n,⟨q32 n⟩⟩ ⟨_,Nat.lt_wfRel.wf⟩)).wf
theorem q1c{n x x':Nat}{y y':(Nat->Rk) × Nat}(h:x'<x):LtM n (x',y') (x,y):=Prod.Lex.left _ _ h
theorem qg1{n x x' z z':Nat}{y y':Nat->Rk}(h0:x'=x)(h:qcd n y' y):LtM n (x',y',z') (x,y,z):=by
 subst h0;exact Prod.Lex.right _ (Prod.Lex.left _ _ h)
theorem q76{n x x' z z':Nat}{y:Nat->Rk}(h0:x'=x)(h:z'<z):LtM n (x',y,z') (x,y,z):=by
 subst h0;exact Prod.Lex.right _ (Prod.Lex.right _ h)
section
variable{U X:Type}(C:Cfg U X)
def Cfg.nuD(x:WD × X):Nat:=if x.1.stage=7 then C.nu x.2 else 0
def Cfg.Nsum(j:Nat)(D:Nat->WD)(ls:Nat->X):Nat:=qmi j λi=>C.nuD (D i,ls i)
def Cfg.big(j:Nat)(D:Nat->WD)(ls:Nat->X)(W:U)(tag:CTag):Nat:=(C.nu C.l0+8)*phi C.n (Vc j D) tag+(Ssum j D+(C.m W+C.Nsum j D ls))
def Cfg.low(j:Nat)(D:Nat->WD)(fu:Nat->Nat)(f0:Nat):Nat:=f0+2*(Fsum j D+qmi C.lo fu)
end
section
variable{U X:Type}{C:Cfg U X}{gs:Array qgC}{w w':qgx}{t:qo3}{j:Nat}{D:Nat->WD}{ls:Nat->X}{Ss:Nat->Bs}{rk:Nat->Rk}{W γ':U}{tag tag':CTag}{f0 d0:Nat}{a:qgC}{st sm st' sm':Int}{cl:Nat->Cl}{fu:Nat->Nat}
theorem qaE{i:Nat}(x:WD)(l:X)(hi:i<j):C.Nsum j (upd D i x) (upd ls i l)+C.nuD (D i,ls i)=C.Nsum j D ls+C.nuD (x,l):=by
 have e:(λa=>C.nuD (upd D i x a,upd ls i l a))=λa=>C.nuD (upd (λa=>(D a,ls a)) i (x,l) a):=by
  funext a
  by_cases h:a=i
  ·subst h;simp only[qk1]
  ·simp only[qkF _ _ h]
 have:=qpp (λa=>(D a,ls a)) (x,l) C.nuD hi;unfold Cfg.Nsum;rw[e];exact this
theorem Zw{Y:Type}(f:Nat->Y)(i:Nat):upd f i (f i)=f:=by
 funext a
 by_cases h:a=i
 ·subst h;rw[qk1]
 ·rw[qkF _ _ h]
theorem Inv.at(H:C.Ok)(h:Inv C gs w t j D ls Ss rk W tag f0 d0 a st sm cl fu)(d:Nat):Inv C gs (w.at d) t j D ls Ss rk W tag f0 d0 a st sm cl fu :=
 ⟨h.size,h.main,h.cs.rely (LR.to ⟨_,_,h.wg⟩),h.lv,λi hi=>let ⟨g,hg,hs⟩:=h.wk i hi;⟨g,hg,hs.rely ⟨λ_ _=>rfl,λ_ _=>rfl,qgA _,rfl,rfl,id,λ⟨W,x⟩=>⟨W,H.dat W w _ (λ_ _=>rfl) x⟩⟩⟩,h.wd,h.rel,h.tr,h.clw,h.cl0,h.cla,h.cln,h.nor,h.deaf0,h.hd,
  H.dat W w _ (λ_ _=>rfl) h.data,h.jj,⟨h.ph.fz,h.ph.size,h.ph.os,h.ph.output⟩,h.wg,h.mode⟩
theorem Inv.awake(H:C.Ok)(h:Inv C gs w t j D ls Ss rk W tag f0 d0 a st sm cl fu):∀g∈gs,qrc g:=by
 intro g hg;obtain⟨i,hi⟩:=qoF.1 hg;have hlt:=(qgy.1 hi).1;rw[h.size] at hlt;by_cases e0:i=0
 ·subst e0;rw[h.main] at hi;cases hi;intro tm;rcases h.cs.status H with⟨hs,_⟩ | ⟨hs,_⟩<;>rw[hs]<;>simp
 ·rcases qiC i C.lo with hl | hl
  ·obtain⟨x,hx,hq⟩:=h.lv i (by omega) hl;rw[hi] at hx;cases hx;exact JA hq
  ·obtain⟨x,hx,hs⟩:=h.wk (i - C.lo) (by omega);rw[show C.lo+(i - C.lo)=i by omega,hi] at hx;cases hx;intro tm;rcases hs.status with h' | h'<;>rw[h']<;>simp
theorem Inv.someone(H:C.Ok)(h:Inv C gs w t j D ls Ss rk W tag f0 d0 a st sm cl fu):∃(i:Nat) (g:qgC),gs[i]?=some g/\g.status=.running:=by
 rcases h.cs.status H with⟨hs,_⟩ | ⟨_,rfl⟩
 ·exact⟨0,a,h.main,hs⟩
 ·have hm:=h.mode;cases hm with
  | opn h1 _ _=>exact h1.elim
  | reg _ _ h3=>
   obtain⟨i,hi,h5⟩:=exists_counted h3;obtain⟨g,hg,hs⟩:=h.wk i hi;exact⟨C.lo+i,g,hg,hs.running_of (by omega)⟩
  | last L _ h2 h3 _=>
   obtain⟨g,hg,hs⟩:=h.wk L h2;exact⟨C.lo+L,g,hg,hs.running_of (by omega)⟩
  | fin h1 _=>exact h1.elim
theorem qbv(H:C.Ok)(h:Inv C gs w t j D ls Ss rk W tag f0 d0 a st sm cl fu){x:Nat}{e:qiq}(hb:Bk C.Wg e):EvG cl w.heap.size x e/\∀a,e.loc≠.mark (.release a):=by
 obtain⟨h1,h2⟩:=h.wgc H;rcases hb with hb | hb | ⟨ad,wr,rfl,ha⟩
 ·refine⟨λy hy=>?_,λa=>by rw[hb];simp⟩;obtain⟨a6,wr,sy⟩:=e;simp only at hb;subst hb;simp[qit,qjd] at hy
 ·refine⟨λy hy=>?_,λa=>by rw[hb];simp⟩;obtain⟨a6,wr,sy⟩:=e;simp only at hb;subst hb;simp[qit,qjd] at hy
 ·refine⟨λy hy=>?_,λa=>by simp⟩;simp only[ofEvent_cell,qjd,qhH] at hy;subst hy;intro b hb;simp only[blk,qhH] at hb;subst hb;rw[ha];exact⟨h2,.inr (.inr ⟨h1,by simp,by simp⟩)⟩
theorem vS(H:C.Ok)(h:Inv C gs w t j D ls Ss rk W tag f0 d0 a st sm cl fu){e:qiq}(hb:e=qjl (.read (smA C.Wg))\/e=qjl (.write (smA C.Wg))):EvG cl w.heap.size 0 e/\jq e:=by
 obtain⟨h1,h2⟩:=h.wgc H;rcases hb with rfl | rfl
 ·refine⟨λy hy=>?_,by simp[jq,qjl]⟩;simp only[qjl,qit,qjd,qhH] at hy;subst hy;intro b hb;simp only[blk,smA,qhH] at hb;subst hb;exact⟨h2,.inr (.inr ⟨h1,by simp,λ_=>rfl⟩)⟩
 ·refine⟨λy hy=>?_,by simp[jq,qjl]⟩;simp only[qjl,qit,qjd,qhH] at hy;subst hy;intro b hb;simp only[blk,smA,qhH] at hb;subst hb;exact⟨h2,.inr (.inr ⟨h1,by simp,λ_=>rfl⟩)⟩
theorem Inv.ef(H:C.Ok)(h:Inv C gs w t j D ls Ss rk W tag f0 d0 a st sm cl fu)(x:Nat)(hA:Aside C.Wg w w'):Ef cl x w w'/\w'.heap.size=w.heap.size/\C.DataAt W w':=by
 obtain⟨h1,h2⟩:=h.wgc H;refine⟨⟨λb _ _ hb=>hA.block b λe=>hb (e ▸ h1),qlF hA.size.symm,hA.os,hA.output⟩,hA.size,H.dat W w w' (λb hb=>hA.block b λe=>?_) h.data⟩;exact H.wgc.2.2 (e ▸ hb)
end
end
section
open Go.Conc Go.ConcN
open Go.ConcR (KK wgBlock WgAt stA smA rd wr DC0 Bk g_of_ofEvents loc_of_ofEvent ofEvent_mk ofEvent_cell)
section
variable{U X:Type}{C:Cfg U X}{gs:Array qgC}{w w':qgx}{t:qo3}{j:Nat}{D:Nat->WD}{ls:Nat->X}{Ss:Nat->Bs}{rk:Nat->Rk}{W γ':U}{tag tag':CTag}{f0 d0:Nat}{a:qgC}{st sm st' sm':Int}{cl:Nat->Cl}{fu:Nat->Nat}
theorem q6d(H:C.Ok)(h:Inv C gs w t j D ls Ss rk W tag f0 d0 a st sm cl fu){i:Nat}(hi:i<j)(hsz:w.heap.size<=w'.heap.size){e:qiq}(he:EvC C.Fz (grow (Ss i) w w') w'.heap.size e):EvG (JZ cl (C.lo+i) w w') w'.heap.size (C.lo+i) e/\∀a,e.loc≠.mark (.release a):=by
 obtain⟨h1,_,h3⟩:=he;refine⟨λx hx b hb=>?_,h1.2.2⟩;obtain⟨k1,k2,k3⟩:=h3 x hx b hb;refine⟨k1,?_⟩;rcases k3 with(k3 | k3) | ⟨k3,k4⟩
 ·obtain⟨m1,m2⟩:=h.clw i hi b k3;exact .inl ⟨by rw[vT m2];exact m1,k2⟩
 ·exact .inl ⟨by unfold JZ;rw[if_pos k3],k2⟩
 ·obtain⟨m1,m2⟩:=h.fzc H k3;exact .inr (.inl ⟨C.lo,by rw[vT m2];exact m1,.inr (by omega),k4,k2⟩)
theorem Inv.worker(H:C.Ok)(h:Inv C gs w t j D ls Ss rk W tag f0 d0 a st sm cl fu){i:Nat}(hi:i<j){g:qgC}(hg:gs[C.lo+i]?=some g)(e5:g.status=.running)(sl:Option (Nat × Nat))(IH:∀gs' w' t' D' ls' Ss' rk' γ' tag' f' a' st' sm' cl',Inv C gs' w' t' j D' ls' Ss' rk' γ' tag' f' d0 a' st' sm' cl' fu->LtM C.n (C.big j D' ls' γ' tag',rk',C.low j D' fu f') (C.big j D ls W tag,rk,C.low j D fu f0)->Ends C.P C.Post (qkl gs' w' sl) t') :∃gs' w' ops,runT C.P (qkl gs w sl) (C.lo+i)=(.next (qkl gs' w' sl),ops)/\Ends C.P C.Post (qkl gs' w' sl) (t++ops):=by
 obtain⟨g₁,hg₁,hs⟩:=h.wk i hi;obtain rfl:g=g₁:=by rw[hg] at hg₁;exact qjF hg₁
 have hlo:=H.hlo;have hn:=H.hn;have hb:=h.cs.le;have n9:=Vc_le j D;have b0:=h.mode;have a9:=h.wg;generalize hst:(D i).stage=s at hs;generalize n7:(D i).fuel=m at hs;generalize e9:(D i).deaf=dd at hs;have m6:qpb t (C.lo+i)=dd:=by rw[h.wd i hi,e9]
 obtain⟨l6,l5⟩:=h.wgc H;have g8:∀{s' m' a8:Nat} {l':X} {r':Rk} {tag':CTag} {f':Nat} {γ':U},(tag'=tag\/(tag=.blk/\tag'=.w3))->f'<=f0+1 ->
   ((s'<s/\cnt ⟨s',m',a8⟩<=cnt (D i)/\C.m γ'=C.m W/\C.nuD (⟨s',m',a8⟩,l')<=C.nuD (D i,ls i))\/(s'=s/\m'=m/\C.m γ'+C.nuD (⟨s',m',a8⟩,l')<C.m W+C.nuD (D i,ls i)) \/
    (s'=s/\m'=m/\l'=ls i/\γ'=W/\Rk.sub r' (rk i))\/(s'=s/\m'+1=m/\l'=ls i/\γ'=W/\r'=rk i)) ->
   LtM C.n (C.big j (upd D i ⟨s',m',a8⟩) (upd ls i l') γ' tag',upd rk i r',C.low j (upd D i ⟨s',m',a8⟩) fu f') (C.big j D ls W tag,rk,C.low j D fu f0):=by
  intro s' m' a8 l' r' tag' f' γ' b7 hf hc;have e1:=qpp D (⟨s',m',a8⟩:WD) cnt hi;have e2:=qpp D (⟨s',m',a8⟩:WD) WD.stage hi;have e3:=qpp D (⟨s',m',a8⟩:WD) WD.fuel hi;have e4:=qaE (C:=C) (D:=D) (ls:=ls) (⟨s',m',a8⟩:WD) l' hi;have ep:phi C.n (Vc j (upd D i ⟨s',m',a8⟩)) tag'=phi C.n (Vc j (upd D i ⟨s',m',a8⟩)) tag:=phi_retag _ _ b7;have m4:s'=s->l'=ls i->C.nuD (⟨s',m',a8⟩,l')=C.nuD (D i,ls i):=λx y=>by unfold Cfg.nuD;rw[hst,x,y]
  have k6:s'=s->cnt (⟨s',m',a8⟩:WD)=cnt (D i):=λx=>by simp only[cnt,hst,x]
  unfold Cfg.big Cfg.low;rw[ep];simp only[Vc,Ssum,Fsum,hst,n7] at *
  rcases hc with⟨c1,c2,c3,c4⟩ | ⟨c1,c2,c3⟩ | ⟨c1,c2,c3,c4,c5⟩ | ⟨c1,c2,c3,c4,c5⟩
  ·refine q1c ?_;have hp:=phi_mono C.n (v':=qmi j λa=>cnt (upd D i ⟨s',m',a8⟩ a)) (v:=qmi j λa=>cnt (D a)) (by omega) tag;have:=Nat.mul_le_mul_left (C.nu C.l0+8) hp;omega
  ·refine q1c ?_;have:=k6 c1;rw[show(qmi j λa=>cnt (upd D i ⟨s',m',a8⟩ a))=qmi j λa=>cnt (D a) by omega];omega
  ·have h1:=k6 c1;have h2:=m4 c1 c3;refine qg1 ?_ ⟨i,by omega,by rw[qk1];exact c5,λk hk=>qkF _ _ hk⟩;rw[show(qmi j λa=>cnt (upd D i ⟨s',m',a8⟩ a))=qmi j λa=>cnt (D a) by omega,c4];omega
  ·have h1:=k6 c1;have h2:=m4 c1 c3;rw[c5,Zw];refine q76 ?_ (by omega);rw[show(qmi j λa=>cnt (upd D i ⟨s',m',a8⟩ a))=qmi j λa=>cnt (D a) by omega,c4];omega
 have g7:∀{g':qgC} {w':qgx} {es:Array qiq} {s' m' a8:Nat} {st' sm':Int},qi7 C.P false g w=.go g' w' es->Aside C.Wg w w'->qn1 C.ty C.Wg w' st' sm'->(∀e∈es,Bk C.Wg e) ->
   (∀jx e,es[jx]?=some e->(qit e).touch?=none\/0<qk4 dd (es.extract 0 jx))->C.WS s' m' a8 (ls i) (Ss i) (rk i) g' w'->qk4 dd es=a8->s<=6 ->
   (∀tag',(tag'=tag\/(tag=.blk/\tag'=.w3))->(mayWake C.P g=true->g'.status=.running->tag'≠.blk)->qma j (upd D i ⟨s',m',a8⟩) tag' st' sm')->((s'<s/\cnt ⟨s',m',a8⟩<=cnt (D i))\/(s'=s/\m'+1=m)) ->
   ∃gs' w' ops,runT C.P (qkl gs w sl) (C.lo+i)=(.next (qkl gs' w' sl),ops)/\Ends C.P C.Post (qkl gs' w' sl) (t++ops):=by
  intro g' w' es s' m' a8 st' sm' a6 k7 e7 e6 hd e8 k0 h6 c9 hlt;obtain⟨d9,hsz,d7⟩:=h.ef H (C.lo+i) k7;have h9:grow (Ss i) w w'=Ss i:=by
   funext b
   simp only[grow,eq_iff_iff];exact⟨λh=>h.elim id λ⟨a,b⟩=>by omega,.inl⟩
  obtain⟨gs',tag',f',a',b6,d8,b7,c8⟩:=h.stepW H hi sl hg a6 d9 (λe he=>by rw[q1s hsz,hsz];exact qbv H h (e6 e he)) (by rw[h9];exact e8) (by rw[e9];exact k0)
   (λ_=>let ⟨r,hr⟩:=h.rel i hi (by omega);⟨r,hr.book m6 _ _ e6 hd⟩) e7 d7 (by rw[Zw];exact h.jj) c9
  refine⟨gs',w',_,b6,IH _ _ _ _ _ _ _ _ _ _ _ _ _ _ c8 (g8 b7 d8 ?_)⟩;rcases hlt with⟨h1,h2⟩ | ⟨h1,h2⟩
  ·refine .inl ⟨h1,h2,rfl,?_⟩;unfold Cfg.nuD;rw[if_neg (by simp only;omega),if_neg (by simp only[hst];omega)];exact qgA _
  ·exact .inr (.inr (.inr ⟨h1,h2,rfl,rfl,rfl⟩))
 have b8:∀{g':qgC} {w':qgx} {es:Array qiq} {s' m' a8:Nat} {st' sm':Int},qi7 C.P false g w=.go g' w' es->Aside C.Wg w w'->qn1 C.ty C.Wg w' st' sm'->(∀e∈es,Bk C.Wg e) ->
   (∀jx e,es[jx]?=some e->(qit e).touch?=none\/0<qk4 dd (es.extract 0 jx))->C.WS s' m' a8 (ls i) (Ss i) (rk i) g' w'->qk4 dd es=a8->s<=6 ->
   qma j (upd D i ⟨s',m',a8⟩) tag st' sm'->((s'<s/\cnt ⟨s',m',a8⟩<=cnt (D i))\/(s'=s/\m'+1=m)) ->
   ∃gs' w' ops,runT C.P (qkl gs w sl) (C.lo+i)=(.next (qkl gs' w' sl),ops)/\Ends C.P C.Post (qkl gs' w' sl) (t++ops) :=
  λa6 k7 e7 e6 hd e8 k0 h6 c9 hlt=>g7 a6 k7 e7 e6 hd e8 k0 h6 (λ_ ht _=>c9.retag ht) hlt
 have jQ:∀{g':qgC} {m':Nat},qi7 C.P false g w=.go g' w #[]->C.WS s m' dd (ls i) (Ss i) (rk i) g' w->m'+1=m->s<=6 ->
   ∃gs' w' ops,runT C.P (qkl gs w sl) (C.lo+i)=(.next (qkl gs' w' sl),ops)/\Ends C.P C.Post (qkl gs' w' sl) (t++ops):=by
  intro g' m' a6 e8 hm h6;exact b8 a6 (.refl C.Wg w) a9 (by simp) (by simp) e8 rfl h6 (by have:=b0.same (i:=i) m' dd;rwa [hst] at this) (.inr ⟨rfl,hm⟩)
 have g5:5<=s->cnt (D i)=1:=λh=>by simp[cnt,hst,h]
 cases hs with
 | run hcot=>
  generalize n2:rk i=r at hcot;cases r with
  | leaf=>
   obtain⟨_,hx⟩:=hcot w (RC.refl w);rcases hx with⟨a7,g',a6,m₂,hk⟩ | ⟨_,hx⟩
   ·-- it releases
    obtain⟨d9,hsz,d7⟩:=h.ef H (C.lo+i) (Aside.refl C.Wg w);obtain⟨gs',tag',f',a',b6,d8,b7,c8⟩:=h.stepW H (w':=w) (γ':=W) (st':=st) (sm':=sm) hi sl hg a6 d9 (l':=ls i) (r':=rk i)
     (λe he=>by simp at he;subst he;exact⟨λx hx=>by simp[qjl,qit,qjd] at hx,λa=>by simp[qjl]⟩) (.k1 a7 hk) (by rw[e9];rfl) (λ_=>⟨t.size,RelBy.new m6 _ _⟩) a9 d7
     (by rw[Zw];exact h.jj) (λ_ ht _=>(b0.counted hi (by omega) (.inl rfl) _ _).retag ht)
    refine⟨gs',w,_,b6,IH _ _ _ _ _ _ _ _ _ _ _ _ _ _ c8 (g8 b7 d8 (.inl ⟨by omega,by rw[g5 (by omega)];simp[cnt],rfl,?_⟩))⟩;unfold Cfg.nuD;rw[if_neg (by simp)];exact qhx _
   ·-- a synchronising operation on the data
    obtain⟨g',w',es,γ',l',a6,l8,hsz,n3,hout,m5,d7,l7,m8⟩:=hx W h.data ⟨j,ls,by have:=h.cs.le;omega,h.jj⟩;obtain⟨r',hr'⟩:=H.hW _ _ _ _ m8;have h9:grow (Ss i) w w'=Ss i:=by
     funext b
     simp only[grow,eq_iff_iff];exact⟨λh=>h.elim id λ⟨a,b⟩=>by omega,.inl⟩
    have d9:Ef cl (C.lo+i) w w':=⟨λb _ _ hb=>l8 b λhs=>hb (h.syc H hs).1,qlF hsz.symm,n3,hout⟩;obtain⟨gs',tag',f',a',b6,d8,b7,c8⟩:=h.stepW H (γ':=γ') (st':=st) (sm':=sm) hi sl hg a6 d9 (l':=l') (r':=r')
     (λe he=>by
      obtain⟨ad,wr,rfl,m7⟩:=m5 e he;obtain⟨k1,k2⟩:=h.syc H m7;refine⟨λx hx b hb=>?_,λa=>by simp⟩;simp only[ofEvent_cell,qjd,qhH] at hx;subst hx;simp only[blk,qhH] at hb;subst hb;rw[q1s hsz,hsz];exact⟨k2,.inr (.inr ⟨k1,by simp,by simp⟩)⟩) (.run (by rw[h9];exact hr')) (by
      rw[e9];refine deafBehind_idle (λe he=>?_) 0;obtain⟨ad,wr,rfl,m7⟩:=m5 e he;exact⟨by simp,by simp,by simp⟩) (λh=>by omega) (a9.of_block (l8 _ H.wgc.2.2)) d7
     (H.hJ _ _ _ _ _ _ h.jj hi l7) (λ_ ht _=>Go.ConcN.Mode.retag (by have:=b0.same (i:=i) 0 0;rwa [hst] at this) ht)
    refine⟨gs',w',_,b6,IH _ _ _ _ _ _ _ _ _ _ _ _ _ _ c8 (g8 b7 d8 (.inr (.inl ⟨rfl,rfl,?_⟩)))⟩;have:=H.hm _ _ _ _ l7;unfold Cfg.nuD;rw[if_pos (by simp),if_pos (by simp only[hst])];exact this
  | nd f=>
   obtain⟨g',w',es,a6,d6,k5⟩:=hcot.2 w (RC.refl w);have d9:Ef cl (C.lo+i) w w':=⟨λb hb hm hs=>d6.keep b hb λhS=>hm (h.clw i hi b hS).1,d6.size,d6.os,d6.output⟩;have m3:∀b,cl b=.sync->¬ Ss i b:=λb hb hS=>by rw[(h.clw i hi b hS).1] at hb;cases hb
   obtain⟨gs',tag',f',a',b6,d8,b7,c8⟩:=h.stepW H (γ':=W) (st':=st) (sm':=sm) hi sl hg a6 d9 (l':=ls i)
    (λe he=>q6d H h hi d6.size (d6.evs e he)) (.run k5) (by rw[e9];exact deafBehind_idle (λe he=>(d6.evs e he).1) 0) (λh=>by omega) (a9.of_block (d6.keep _ l5 (m3 _ l6)))
    (H.dat W w w' (λb hb=>d6.keep b (h.syc H hb).2 (m3 _ (h.syc H hb).1)) h.data) (by rw[Zw];exact h.jj) (λ_ ht _=>Go.ConcN.Mode.retag (by have:=b0.same (i:=i) 0 0;rwa [hst] at this) ht)
   exact⟨gs',w',_,b6,IH _ _ _ _ _ _ _ _ _ _ _ _ _ _ c8 (g8 b7 d8 (.inr (.inr (.inl ⟨rfl,rfl,rfl,rfl,by rw[n2];exact⟨_,rfl⟩⟩))))⟩
 | k1 a7 hh=>
  rcases qkg hh with hstop | ⟨m',rfl,hstep⟩
  ·obtain⟨_,g',a6,m₂,hk⟩:=hstop w (LR.refl w);exact b8 a6 (.refl C.Wg w) a9 (by intro e he;simp at he;subst he;exact .inl rfl) (by intro jx e he;exact .inl (by have:=qiE he;simp at this;subst this;rfl)) (.d1 a7 hk) rfl (by omega)
    (b0.counted hi (by omega) (.inr rfl) _ _) (.inl ⟨by omega,by rw[g5 (by omega)];simp[cnt]⟩)
  ·obtain⟨g',w',es,a6,⟨rfl,rfl⟩,d5⟩:=hstep w (LR.refl w);exact jQ a6 (.k1 a7 d5) rfl (by omega)
 | d1 a7 hh=>
  rcases qkg hh with hstop | ⟨m',rfl,hstep⟩
  ·obtain⟨_,hall⟩:=hstop w (LR.refl w);have n8:cnt (D i)=1:=g5 (by omega);have p3:1<=Vc j D:=by have:=le_sumTo (f:=λx=>cnt (D x)) hi;simp only[Vc];omega
   have k9:∀e∈#[rd (stA C.Wg),wr (stA C.Wg)],Bk C.Wg e:=by intro e he;simp at he;rcases he with rfl | rfl<;>exact bk_cell _ _ rfl
   have k8:∀jx e,(#[rd (stA C.Wg),wr (stA C.Wg)]:Array qiq)[jx]?=some e->(qit e).touch?=none\/0<qk4 1 ((#[rd (stA C.Wg),wr (stA C.Wg)]:Array qiq).extract 0 jx):=by
    intro jx e he
    match jx,he with
    | 0,_=>exact .inr (by simp[qk4])
    | 1,_=>exact .inr (by simp[qk4,rd])
    | jx+2,he=>simp at he
   have l9:∀q,cnt (⟨1,q,1⟩:WD)=0:=λ_=>rfl;have l4:∀q,OpenSt j D->OpenSt j (upd D i ⟨1,q,1⟩):=λq h a ha=>by
    by_cases e:a=i
    ·subst e;rw[qk1];simp
    ·rw[qkF D _ e];exact h a ha
   cases b0 with
   | opn h1 h2 h3=>
    obtain⟨v,hv⟩:∃v,Vc j D+qpc tag=v+1:=⟨Vc j D+qpc tag - 1,by omega⟩;rw[hv] at a9;have g9:qn1 C.ty C.Wg w (((v:Nat)+1)*KK+((0:Nat):Int)) 0:=by simpa using a9
    obtain⟨g',a6,_,hq⟩:=hall v 0 (by omega) (by omega) g9;obtain⟨q,hq⟩:=hq (by omega);have h8:Vc j (upd D i ⟨1,q,1⟩)+qpc tag=v:=by have:=Vc_upd D (⟨1,q,1⟩:WD) hi;have:=l9 q;omega
    refine b8 a6 (qlw w (stA C.Wg) _) (a9.setSt _) k9 k8 (.quit a7 hq) rfl (by omega) ?_ (.inl ⟨by omega,by simp[cnt]⟩);have e:((v:Nat):Int)*KK+((0:Nat):Int)=((Vc j (upd D i ⟨1,q,1⟩)+qpc tag:Nat):Int)*KK:=by rw[h8];simp
    rw[e];exact .opn h1 (l4 q h2) (λvs ev=>by have:=h3 vs ev;omega)
   | reg h1 h2 h3=>
    obtain⟨v,hv⟩:∃v,Vc j D=v+1:=⟨Vc j D - 1,by omega⟩;rw[hv] at a9;have hp:qpc tag=0:=by cases tag<;>first | rfl | exact h1.elim
    have g9:qn1 C.ty C.Wg w (((v:Nat)+1)*KK+((1:Nat):Int)) 0:=by simpa using a9
    obtain⟨g',a6,hl,hq⟩:=hall v 1 (by omega) (by omega) g9;by_cases m9:v=0
    ·subst m9;obtain⟨m₂,hk⟩:=hl ⟨rfl,rfl⟩;refine b8 a6 (qlw w (stA C.Wg) _) (a9.setSt _) k9 k8 (.d2 a7 hk) rfl (by omega) ?_ (.inl ⟨by omega,by simp[cnt]⟩);have b9:∀a,a<j->a≠i->(D a).stage=1:=λa ha e=>by
      have c0:=others_uncounted hi hv n8 a ha e;have:=h2 a ha;simp only[cnt] at c0;split at c0<;>omega
     have:=Go.ConcN.Mode.last (j:=j) (D:=upd D i ⟨4,m₂,1⟩) (tag:=tag) i h1 hi (by rw[qk1];simp) (λa ha e=>by rw[qkF D _ e];exact b9 a ha e);rw[qk1] at this;simpa using this
    ·obtain⟨q,hq⟩:=hq (by omega);have h8:Vc j (upd D i ⟨1,q,1⟩)=v:=by have:=Vc_upd D (⟨1,q,1⟩:WD) hi;have:=l9 q;omega
     refine b8 a6 (qlw w (stA C.Wg) _) (a9.setSt _) k9 k8 (.quit a7 hq) rfl (by omega) ?_ (.inl ⟨by omega,by simp[cnt]⟩);have e:((v:Nat):Int)*KK+((1:Nat):Int)=((Vc j (upd D i ⟨1,q,1⟩):Nat):Int)*KK+1:=by rw[h8];simp
     rw[e];exact .reg h1 (l4 q h2) (by omega)
   | last L _ h2 h3 h4=>
    by_cases e:i=L
    ·subst e;omega
    ·have:=h4 i hi e;omega
   | sema h2=>have:=h2 i hi;omega
   | fin _ h2=>have:=h2 i hi;omega
  ·obtain⟨g',w',es,a6,⟨rfl,rfl⟩,d5⟩:=hstep w (LR.refl w);exact jQ a6 (.d1 a7 d5) rfl (by omega)
 | d2 a7 hh=>
  rcases qkg hh with hstop | ⟨m',rfl,hstep⟩
  ·obtain⟨_,hx⟩:=hstop w (LR.refl w);obtain⟨g6,b9,rfl,rfl⟩:=b0.isLast hi (by omega);simp only[hst] at a9;obtain⟨g',a6,m₂,hk⟩:=hx (by simpa using a9);refine b8 a6 (.refl C.Wg w) a9 (by intro e he;simp at he;subst he;exact bk_cell _ _ rfl) (by intro jx e he;match jx,he with | 0,_=>exact .inr (by simp[qk4]) | jx+1,he=>simp at he) (.d3 a7 hk) rfl (by omega) ?_ (.inl ⟨by omega,by simp[cnt]⟩);have:=Go.ConcN.Mode.last (j:=j) (D:=upd D i ⟨3,m₂,1⟩) (tag:=tag) i g6 hi (by rw[qk1];simp) (λa ha e=>by rw[qkF D _ e];exact b9 a ha e);rw[qk1] at this;simpa using this
  ·obtain⟨g',w',es,a6,⟨rfl,rfl⟩,d5⟩:=hstep w (LR.refl w);exact jQ a6 (.d2 a7 d5) rfl (by omega)
 | d3 a7 hh=>
  rcases qkg hh with hstop | ⟨m',rfl,hstep⟩
  ·obtain⟨_,hx⟩:=hstop w (LR.refl w);obtain⟨g6,b9,rfl,rfl⟩:=b0.isLast hi (by omega);simp only[hst] at a9;obtain⟨g',a6,m₂,hk⟩:=hx (by simpa using a9);refine b8 a6 (qlw w (stA C.Wg) _) (a9.setSt 0) (by intro e he;simp at he;subst he;exact bk_cell _ _ rfl) (by intro jx e he;match jx,he with | 0,_=>exact .inr (by simp[qk4]) | jx+1,he=>simp at he) (.d4 a7 hk) rfl (by omega) ?_ (.inl ⟨by omega,by simp[cnt]⟩);have:=Go.ConcN.Mode.last (j:=j) (D:=upd D i ⟨2,m₂,1⟩) (tag:=tag) i g6 hi (by rw[qk1];simp) (λa ha e=>by rw[qkF D _ e];exact b9 a ha e);rw[qk1] at this;simpa using this
  ·obtain⟨g',w',es,a6,⟨rfl,rfl⟩,d5⟩:=hstep w (LR.refl w);exact jQ a6 (.d3 a7 d5) rfl (by omega)
 | d4 a7 hh=>
  rcases qkg hh with hstop | ⟨m',rfl,hstep⟩
  ·obtain⟨_,n6,hx⟩:=hstop w (LR.refl w);obtain⟨g6,b9,rfl,rfl⟩:=b0.isLast hi (by omega);simp only[hst] at a9;obtain⟨g',a6,q,hq⟩:=hx (by simpa using a9);have b6:g'.status=.running:=by
    cases q with
    | zero=>exact absurd hq.2 (by decide)
    | succ q=>exact hq.elim (λx=>absurd x.2 (by decide)) (λx=>x.1)
   refine g7 a6 (qlw w (smA C.Wg) _) (a9.setSm 1) (es:=qln (smA C.Wg)) ?_ ?_ (.quit a7 hq) (by simp[qk4,qln]) (by omega) ?_ (.inl ⟨by omega,by simp[cnt]⟩)
   ·intro e he;simp[qln] at he;rcases he with rfl | rfl | rfl | rfl
    ·exact .inl rfl
    ·exact bk_cell _ _ rfl
    ·exact bk_cell _ _ rfl
    ·exact .inr (.inl rfl)
   ·intro jx e he
    match jx,he with
    | 0,he=>simp[qln] at he;subst he;exact .inl rfl
    | 1,_=>exact .inr (by simp[qk4,qln])
    | 2,_=>exact .inr (by simp[qk4,qln])
    | 3,he=>simp[qln] at he;subst he;exact .inl rfl
    | jx+4,he=>simp[qln] at he
   ·intro tag' ht hw;have n4:=hw n6 b6;have e3:tag'=.w3:=by
     rcases ht with rfl | ⟨_,rfl⟩
     ·cases tag'<;>first | rfl | exact g6.elim | exact absurd rfl n4
     ·rfl
    subst e3;simp only[if_true];exact .sema λa ha=>by
     by_cases e:a=i
     ·subst e;rw[qk1]
     ·rw[qkF D _ e];exact b9 a ha e
  ·obtain⟨g',w',es,a6,⟨rfl,rfl⟩,d5⟩:=hstep w (LR.refl w);exact jQ a6 (.d4 a7 d5) rfl (by omega)
 | quit a7 hh=>
  cases m with
  | zero=>rw[hh.1] at e5;cases e5
  | succ q=>
   rcases hh with⟨hf,_⟩ | ⟨_,g',es,hmute,hstep,hq⟩
   ·rw[hf] at e5;cases e5
   ·have e6:∀e∈es,Bk C.Wg e:=λe he=>Go.ConcR.bk_of_mute (hmute e he);exact b8 (hstep w) (.refl C.Wg w) a9 e6 (λjx e he=>.inl (YY (hmute e (qiE he)))) (.quit a7 hq) rfl (by omega) (by have:=b0.same (i:=i) q (qk4 dd es);rwa [hst] at this) (.inr ⟨rfl,rfl⟩)
end
end
section
open Go.Conc Go.ConcN
open Go.ConcR (KK wgBlock WgAt stA smA rd wr DC0 Bk g_of_ofEvents loc_of_ofEvent ofEvent_mk ofEvent_cell)
section
variable{U X:Type}{C:Cfg U X}{gs:Array qgC}{w w':qgx}{t:qo3}{j:Nat}{D:Nat->WD}{ls:Nat->X}{Ss:Nat->Bs}{rk:Nat->Rk}{W γ':U}{tag tag':CTag}{f0 d0:Nat}{a:qgC}{st sm st' sm':Int}{cl:Nat->Cl}{fu:Nat->Nat}
theorem q1t{Wg:Nat}:∀e∈#[qjl .disable],Bk Wg e:=by intro e he;simp at he;subst he;exact .inl rfl
theorem q4F{Wg:Nat}:∀e∈#[qjl .enable],Bk Wg e:=by intro e he;simp at he;subst he;exact .inr (.inl rfl)
theorem qdA{Wg:Nat}:∀e∈#[rd (stA Wg)],Bk Wg e:=by intro e he;simp at he;subst he;exact bk_cell _ _ rfl
theorem qbH{Wg:Nat}:∀e∈#[rd (stA Wg),wr (stA Wg)],Bk Wg e:=by intro e he;simp at he;rcases he with rfl | rfl<;>exact bk_cell _ _ rfl
theorem qdz{Wg:Nat}:∀e∈qln (smA Wg),Bk Wg e:=by
 intro e he;simp[qln] at he;rcases he with rfl | rfl | rfl | rfl
 ·exact .inl rfl
 ·exact bk_cell _ _ rfl
 ·exact bk_cell _ _ rfl
 ·exact .inr (.inl rfl)
theorem Jq{Wg:Nat}{es:Array qiq}(h:∀e∈es,e=qjl (.read (smA Wg))\/e=qjl (.write (smA Wg)))(d:Nat):qk4 d es=d :=
 deafBehind_idle (λe he=>by rcases h e he with rfl | rfl<;>simp[jq,qjl]) d
theorem Inv.spawn(H:C.Ok){r:Nat}(hr:r<C.n)(h:Inv C gs w t (C.n - (r+1)) D ls Ss rk W (.sp r 2) f0 0 a st sm cl fu)(sl:Option (Nat × Nat)){a' child:qgC}(hsp:qi7 C.P true a w=.spawn a' child w #[])(b9:C.WA C.l0 (λ_=>False) child w){tag':CTag}{f':Nat}(a9:C.CS tag' (C.n - r) f' 0 a' w)(ho:isOpen tag')(hp:qpc tag'=0)(hv2:∀vs,tag'≠.w2 vs) :∃gs' ops r',runT C.P (qkl gs w sl) 0=(.next (qkl gs' w sl),ops) /\Inv C gs' w (t++ops) (C.n - r) (upd D (C.n - (r+1)) ⟨7,0,0⟩) (upd ls (C.n - (r+1)) C.l0) (upd Ss (C.n - (r+1)) (λ_=>False)) (upd rk (C.n - (r+1)) r') W tag' f' 0 a' st sm cl fu:=by
 have hlo:=H.hlo;have ej:C.n - r=C.n - (r+1)+1:=by omega
 generalize C.n - (r+1)=j at *
 rw[ej] at a9 ⊢;obtain⟨rr,hrr⟩:=H.hW _ _ _ _ b9;have a6:=runT_crowd_spawn (P:=C.P) (sl:=sl) (i:=0) h.main hsp;have e0:(qja 0 a.frame.fn a.frame.place #[]:Array qp7)=#[]:=by rw[qlD];simp
 rw[e0] at a6;have b7:((#[]:Array qp7).push { g:=0,fn:=a.frame.fn,pos:=a.frame.place,act:=.go gs.size } |>.push { g:=gs.size,fn:=child.frame.fn,pos:=a.frame.place,act:=.start })=#[{ g:=0,fn:=a.frame.fn,pos:=a.frame.place,act:=.go gs.size },{ g:=gs.size,fn:=child.frame.fn,pos:=a.frame.place,act:=.start }]:=rfl;rw[b7] at a6;refine⟨_,_,rr,a6,?_⟩;generalize hx:({ g:=0,fn:=a.frame.fn,pos:=a.frame.place,act:=.go gs.size }:qp7)=x;generalize hy:({ g:=gs.size,fn:=child.frame.fn,pos:=a.frame.place,act:=.start }:qp7)=y;have hx':x.g=0/\x.act=.go gs.size:=by rw[<- hx];exact⟨rfl,rfl⟩
 have hy':y.g=gs.size/\y.act=.start:=by rw[<- hy];exact⟨rfl,rfl⟩
 have hsz:((gs.setIfInBounds 0 a').push child).size=gs.size+1:=by simp
 have b0:=h.size;have a7:∀g,qpb (t++#[x,y]) g=qpb t g:=λg=>(h.tr.fork_deaf hx' hy' g).2;have a8:∀i,1<=i->i<gs.size->((gs.setIfInBounds 0 a').push child)[i]?=gs[i]?:=λi h1 h2=>by
  rw[qp0 (by simpa using h2),<- qhi,qif (by omega)]
 have hops:∀op∈#[x,y],op.g=0\/op.g=gs.size:=λop hop=>by
  simp only[qkd,qix,qiF,or_false] at hop;rcases hop with rfl | rfl
  ·exact .inl hx'.1
  ·exact .inr hy'.1
 have b6:∀op∈#[x,y],op.act=.go gs.size\/op.act=.start:=λop hop=>by
  simp only[qkd,qix,qiF,or_false] at hop;rcases hop with rfl | rfl
  ·exact .inl hx'.2
  ·exact .inr hy'.2
 refine⟨by rw[hsz,b0];omega,?_,a9,λi h1 h2=>?_,λi hi=>?_,λi hi=>?_,λi hi hst=>?_,?_,λi hi b hb=>?_,h.cl0,h.cla,h.cln,?_,?_,?_,h.data,H.hJ0 _ _ _ h.jj,h.ph,h.wg,?_⟩
 ·rw[qp0 (by simp;omega),<- qhi,qhG,if_pos rfl,if_pos (by omega)]
 ·obtain⟨z,hz,hq⟩:=h.lv i h1 h2;exact⟨z,by rw[a8 i h1 (by omega)];exact hz,by rw[a7];exact hq⟩
 ·by_cases e:i=j
  ·subst e;refine⟨child,?_,by simp only[qk1];exact .run hrr⟩;rw[<- b0,show gs.size=(gs.setIfInBounds 0 a').size by simp];exact Array.getElem?_push_size
  ·obtain⟨z,hz,hs⟩:=h.wk i (by omega);refine⟨z,by rw[a8 _ (by omega) (by omega)];exact hz,?_⟩;rw[qkF D _ e,qkF ls _ e,qkF Ss _ e,qkF rk _ e];exact hs
 ·rw[a7];by_cases e:i=j
  ·subst e;rw[qk1,<- b0];have:=(h.tr.fork_deaf hx' hy' 0).1;rw[a7] at this;exact this
  ·rw[qkF D _ e];exact h.wd i (by omega)
 ·by_cases e:i=j
  ·subst e;rw[qk1] at hst;simp at hst
  ·rw[qkF D _ e] at hst;obtain⟨r,hr⟩:=h.rel i (by omega) hst;exact⟨r,hr.appNot λop hop=>by rcases hops op hop with h | h<;>omega⟩
 ·rw[hsz];exact h.tr.fork (by omega) hx' hy' h.deaf0
 ·by_cases e:i=j
  ·subst e;rw[qk1] at hb;exact hb.elim
  ·rw[qkF Ss _ e] at hb;exact h.clw i (by omega) b hb
 ·exact λad=>(h.nor ad).app λop hop hm=>by
   rcases b6 op hop with e | e<;>rw[e] at hm<;>cases hm
 ·rw[a7];exact h.deaf0
 ·exact h.hd.app λop hop=>by rcases hops op hop with e | e<;>omega
 ·have hm:=h.mode;obtain⟨b8,h1,h2,_⟩:=hm.open_inv trivial;have eV:Vc (j+1) (upd D j ⟨7,0,0⟩)=Vc j D+1:=by
   simp only[Vc,qmi,qk1];rw[qpG D _ cnt (qgA _)];rfl
  have ho':OpenSt (j+1) (upd D j ⟨7,0,0⟩):=λi hi=>by
   by_cases e:i=j
   ·subst e;rw[qk1];simp
   ·rw[qkF D _ e];exact b8 i (by omega)
  rw[h1,h2];have c3:((Vc j D+qpc (.sp r 2):Nat):Int)*KK=((Vc (j+1) (upd D j ⟨7,0,0⟩)+qpc tag':Nat):Int)*KK:=by rw[eV,hp];simp[qpc]
  rw[c3];exact .opn ho ho' (λvs e=>absurd e (hv2 vs))
theorem Inv.starter(H:C.Ok)(h:Inv C gs w t j D ls Ss rk W tag f0 d0 a st sm cl fu)(k0:a.status=.running)(sl:Option (Nat × Nat))(IH:∀gs' w' t' j' D' ls' Ss' rk' tag' f' d' a' st' sm',Inv C gs' w' t' j' D' ls' Ss' rk' W tag' f' d' a' st' sm' cl fu->LtM C.n (C.big j' D' ls' W tag',rk',C.low j' D' fu f') (C.big j D ls W tag,rk,C.low j D fu f0)->Ends C.P C.Post (qkl gs' w' sl) t') :∃gs' w' ops,runT C.P (qkl gs w sl) 0=(.next (qkl gs' w' sl),ops)/\Ends C.P C.Post (qkl gs' w' sl) (t++ops):=by
 have hn:=H.hn;have m3:=Vc_le j D;have hle:=h.cs.le;have a7:=h.mode;have a9:=h.wg;have b0:∀{a':qgC} {w':qgx} {es:Array qiq} {tag':CTag} {f':Nat} {st' sm':Int},qi7 C.P true a w=.go a' w' es->Aside C.Wg w w'->qn1 C.ty C.Wg w' st' sm'->(∀e∈es,Bk C.Wg e)->C.CS tag' j f' (qk4 d0 es) a' w' ->
   qma j D tag' st' sm'->(phi C.n (Vc j D) tag'<phi C.n (Vc j D) tag\/(phi C.n (Vc j D) tag'=phi C.n (Vc j D) tag/\f'<f0)) ->
   ∃gs' w' ops,runT C.P (qkl gs w sl) 0=(.next (qkl gs' w' sl),ops)/\Ends C.P C.Post (qkl gs' w' sl) (t++ops):=by
  intro a' w' es tag' f' st' sm' a6 l8 h8 l7 d9 e5 hlt;obtain⟨c8,hsz,b8⟩:=h.ef H 0 l8;obtain⟨gs',hr,b6⟩:=h.step0 H sl a6 c8 hsz (λe he=>by rw[hsz];exact qbv H h (l7 e he)) d9 h8 b8 e5;refine⟨gs',w',_,hr,IH _ _ _ _ _ _ _ _ _ _ _ _ _ _ b6 ?_⟩;unfold Cfg.big Cfg.low;rcases hlt with h1 | ⟨h1,h2⟩
  ·refine q1c ?_;have:=qmj h1 (show 0<C.nu C.l0+8 by omega);omega
  ·rw[h1];exact q76 rfl (by omega)
 have jQ:∀{a':qgC} {w':qgx} {es:Array qiq} {f':Nat},qi7 C.P true a w=.go a' w' es->DM C.Wg w w' es->C.CS tag j f' d0 a' w'->f'<f0 ->
   ∃gs' w' ops,runT C.P (qkl gs w sl) 0=(.next (qkl gs' w' sl),ops)/\Ends C.P C.Post (qkl gs' w' sl) (t++ops):=by
  intro a' w' es f' a6 hD d9 hf;obtain⟨rfl,hes⟩:=hD;have b9:=Jq hes d0;obtain⟨c8,hsz,b8⟩:=h.ef H 0 (Aside.refl C.Wg w');obtain⟨gs',hr,b6⟩:=h.step0 H sl a6 c8 hsz (λe he=>⟨(vS H h (hes e he)).1,(vS H h (hes e he)).2.2.2⟩) (by rw[b9];exact d9) a9 b8 a7;refine⟨gs',w',_,hr,IH _ _ _ _ _ _ _ _ _ _ _ _ _ _ b6 ?_⟩;unfold Cfg.big Cfg.low;exact q76 rfl (by omega)
 have hcs:=h.cs;have c9:∀{m:Nat},tag=.w1\/tag=.anch->j=C.n->d0=1->f0=m\/tag=.anch->C.GM C.AtW1 m a w ->
   ∃gs' w' ops,runT C.P (qkl gs w sl) 0=(.next (qkl gs' w' sl),ops)/\Ends C.P C.Post (qkl gs' w' sl) (t++ops):=by
  intro m d5 hj hd hf hh;have hop:isOpen tag:=by rcases d5 with rfl | rfl<;>trivial
  have g6:qpc tag=0:=by rcases d5 with rfl | rfl<;>rfl
  have e7:8*Vc j D+5<=phi C.n (Vc j D) tag:=by rcases d5 with rfl | rfl<;>simp only[phi]<;>omega
  obtain⟨ho,h1,h2,_⟩:=a7.open_inv hop;rcases qkg hh with hstop | ⟨m',rfl,hstep⟩
  ·obtain⟨_,hall⟩:=hstop w (.refl w);obtain⟨a',a6,h0,hne⟩:=hall (Vc j D) (by omega) (by have:=a9;rw[h1,h2,g6] at this;simpa using this);subst hj;subst hd;by_cases hv:Vc C.n D=0
   ·obtain⟨m₂,hk⟩:=h0 hv;refine b0 a6 (.refl C.Wg w) a9 qdA (tag':=.ke) (.ke hk) ?_ (.inl (qh7 (by simp only[phi];omega) e7));have e:st=0:=by rw[h1,hv,g6];simp
    rw[e,h2];exact .fin trivial (allQuit_of ho hv)
   ·obtain⟨m₂,hk⟩:=hne hv;refine b0 a6 (.refl C.Wg w) a9 qdA (tag':=.w2 (Vc C.n D)) (.w2 hk) ?_ (.inl (qh7 (by simp only[phi];omega) e7));have e:st=((Vc C.n D+qpc (.w2 (Vc C.n D)):Nat):Int)*KK:=by rw[h1,g6];rfl
    rw[e,h2];exact .opn trivial ho (λvs e=>by cases e;omega)
  ·obtain⟨a',w',es,a6,hD,a8⟩:=hstep w (.refl w);rcases hf with hf | hf
   ·rcases d5 with rfl | rfl
    ·subst hj;subst hd;exact jQ a6 hD (.w1 a8) (by omega)
    ·subst hj;subst hd;obtain⟨rfl,hes⟩:=hD;have b9:=Jq hes 1;obtain⟨c8,hsz,b8⟩:=h.ef H 0 (Aside.refl C.Wg w');obtain⟨gs',hr,b6⟩:=h.step0 H sl a6 c8 hsz (λe he=>⟨(vS H h (hes e he)).1,(vS H h (hes e he)).2.2.2⟩) (tag':=.w1) (by rw[b9];exact .w1 a8) a9 b8 (a7.reopen trivial trivial rfl (by simp));refine⟨gs',w',_,hr,IH _ _ _ _ _ _ _ _ _ _ _ _ _ _ b6 ?_⟩;unfold Cfg.big Cfg.low;refine q1c ?_;have:=qmj (show phi C.n (Vc C.n D) .w1<phi C.n (Vc C.n D) .anch by simp only[phi];omega) (show 0<C.nu C.l0+8 by omega);omega
   ·subst hf;subst hj;subst hd;obtain⟨rfl,hes⟩:=hD;have b9:=Jq hes 1;obtain⟨c8,hsz,b8⟩:=h.ef H 0 (Aside.refl C.Wg w');obtain⟨gs',hr,b6⟩:=h.step0 H sl a6 c8 hsz (λe he=>⟨(vS H h (hes e he)).1,(vS H h (hes e he)).2.2.2⟩) (tag':=.w1) (by rw[b9];exact .w1 a8) a9 b8 (a7.reopen trivial trivial rfl (by simp));refine⟨gs',w',_,hr,IH _ _ _ _ _ _ _ _ _ _ _ _ _ _ b6 ?_⟩;unfold Cfg.big Cfg.low;refine q1c ?_;have:=qmj (show phi C.n (Vc C.n D) .w1<phi C.n (Vc C.n D) .anch by simp only[phi];omega) (show 0<C.nu C.l0+8 by omega);omega
 cases hcs with
 | skd hr hh=>
  rcases qkg hh with hstop | ⟨m',rfl,hstep⟩
  ·obtain⟨_,a',a6,m₂,hk⟩:=hstop w (.refl w);exact b0 a6 (.refl C.Wg w) a9 q1t (.sa1 hr hk) (a7.reopen trivial trivial rfl (by simp)) (.inl (by simp only[phi];omega))
  ·obtain⟨a',w',es,a6,hD,a8⟩:=hstep w (.refl w);exact jQ a6 hD (.skd hr a8) (by omega)
 | sa1 hr hh=>
  rename_i r
  rcases qkg hh with hstop | ⟨m',rfl,hstep⟩
  ·obtain⟨_,hall⟩:=hstop w (.refl w);obtain⟨ho,rfl,rfl,_⟩:=a7.open_inv trivial;obtain⟨a',a6,m₂,hk⟩:=hall (Vc (C.n - (r+1)) D) (by omega) (by simpa[qpc] using a9);refine b0 a6 (qlw w (stA C.Wg) _) (a9.setSt _) qbH (.ske hr hk) ?_ (.inl (by simp only[phi];omega));have e:(((Vc (C.n - (r+1)) D:Nat):Int)+1)*KK=((Vc (C.n - (r+1)) D+qpc (.sp r 3):Nat):Int)*KK:=by simp[qpc]
   rw[e];exact .opn trivial ho (by simp)
  ·obtain⟨a',w',es,a6,hD,a8⟩:=hstep w (.refl w);exact jQ a6 hD (.sa1 hr a8) (by omega)
 | ske hr hh=>
  rcases qkg hh with hstop | ⟨m',rfl,hstep⟩
  ·obtain⟨_,a',a6,m₂,hk⟩:=hstop w (.refl w);exact b0 a6 (.refl C.Wg w) a9 q4F (.sgo hr hk) (a7.reopen trivial trivial rfl (by simp)) (.inl (by simp only[phi];omega))
  ·obtain⟨a',w',es,a6,hD,a8⟩:=hstep w (.refl w);exact jQ a6 hD (.ske hr a8) (by omega)
 | sgo hr hh=>
  rename_i r
  rcases qkg hh with hstop | ⟨m',rfl,hstep⟩
  ·obtain⟨_,a',child,hsp,k8,d8⟩:=hstop w (.refl w);have e6:=k8 h.ph ⟨_,h.data⟩;have eV:Vc (C.n - r) (upd D (C.n - (r+1)) ⟨7,0,0⟩)=Vc (C.n - (r+1)) D+1:=by
    rw[show C.n - r=C.n - (r+1)+1 by omega];simp only[Vc,qmi,qk1];rw[qpG D _ cnt (qgA _)];rfl
   have eS:Ssum (C.n - r) (upd D (C.n - (r+1)) ⟨7,0,0⟩)=Ssum (C.n - (r+1)) D+7:=by
    rw[show C.n - r=C.n - (r+1)+1 by omega];simp only[Ssum,qmi,qk1];rw[qpG D _ WD.stage (qgA _)]
   have eN:C.Nsum (C.n - r) (upd D (C.n - (r+1)) ⟨7,0,0⟩) (upd ls (C.n - (r+1)) C.l0)=C.Nsum (C.n - (r+1)) D ls+C.nu C.l0:=by
    rw[show C.n - r=C.n - (r+1)+1 by omega];simp only[Cfg.Nsum,qmi,qk1];rw[sumTo_congr (g:=λi=>C.nuD (D i,ls i)) λi hi=>by rw[qkF _ _ (by omega),qkF _ _ (by omega)]];simp[Cfg.nuD]
   have g9:∀{tag':CTag} {r':Rk} {f':Nat},(phi C.n (Vc (C.n - (r+1)) D+1) tag'+1<=phi C.n (Vc (C.n - (r+1)) D) (.sp r 2)) ->
     LtM C.n (C.big (C.n - r) (upd D (C.n - (r+1)) ⟨7,0,0⟩) (upd ls (C.n - (r+1)) C.l0) W tag',upd rk (C.n - (r+1)) r',C.low (C.n - r) (upd D (C.n - (r+1)) ⟨7,0,0⟩) fu f') (C.big (C.n - (r+1)) D ls W (.sp r 2),rk,C.low (C.n - (r+1)) D fu f0):=by
    intro tag' r' f' l4;refine q1c ?_;unfold Cfg.big;rw[eV,eS,eN];have:=Nat.mul_le_mul_left (C.nu C.l0+8) l4;rw[Nat.mul_add,Nat.mul_one] at this;omega
   cases r with
   | zero=>
    obtain⟨m₃,hk⟩:=d8;obtain⟨gs',ops,r',b7,b6⟩:=h.spawn H hr sl hsp e6 (tag':=.kd) (f':=m₃) (by rw[Nat.sub_zero];exact .kd hk) trivial rfl (by simp);exact⟨gs',w,ops,b7,IH _ _ _ _ _ _ _ _ _ _ _ _ _ _ b6 (g9 (by simp only[phi];omega))⟩
   | succ r2=>
    obtain⟨m₃,hk⟩:=d8;obtain⟨gs',ops,r',b7,b6⟩:=h.spawn H hr sl hsp e6 (tag':=.sp r2 5) (f':=m₃) (.skd (by omega) hk) trivial rfl (by simp);exact⟨gs',w,ops,b7,IH _ _ _ _ _ _ _ _ _ _ _ _ _ _ b6 (g9 (by simp only[phi];omega))⟩
  ·obtain⟨a',w',es,a6,hD,a8⟩:=hstep w (.refl w);exact jQ a6 hD (.sgo hr a8) (by omega)
 | kd hh=>
  rcases qkg hh with hstop | ⟨m',rfl,hstep⟩
  ·obtain⟨_,a',a6,m₂,hk⟩:=hstop w (.refl w);exact b0 a6 (.refl C.Wg w) a9 q1t (.anch hk) (a7.reopen trivial trivial rfl (by simp)) (.inl (by simp only[phi];omega))
  ·obtain⟨a',w',es,a6,hD,a8⟩:=hstep w (.refl w);exact jQ a6 hD (.kd a8) (by omega)
 | anch hh=>
  rcases qkg hh with hstop | ⟨m',rfl,hstep⟩
  ·obtain⟨m₂,hk⟩:=H.hAn a w (hstop w (.refl w));exact c9 (.inr rfl) rfl rfl (.inr rfl) hk
  ·obtain⟨a',w',es,a6,hD,a8⟩:=hstep w (.refl w);exact jQ a6 hD (.anch a8) (by omega)
 | w1 hh=>exact c9 (.inl rfl) rfl rfl (.inl rfl) hh
 | w2 hh=>
  rename_i vs
  rcases qkg hh with hstop | ⟨m',rfl,hstep⟩
  ·obtain⟨_,hall⟩:=hstop w (.refl w);obtain⟨ho,rfl,rfl,k9⟩:=a7.open_inv trivial;obtain⟨hle,h1⟩:=k9 vs rfl;obtain⟨k5,g7⟩:=hall (Vc C.n D) (by omega) (by simpa[qpc] using a9);by_cases e:Vc C.n D=vs
   ·obtain⟨a',a6,m₂,hk⟩:=k5 e;exact b0 a6 (qlw w (stA C.Wg) _) (a9.setSt _) qbH (.w3 hk) (.reg trivial ho (by omega)) (.inl (by simp only[phi];omega))
   ·obtain⟨a',a6,m₂,hk⟩:=g7 e;exact b0 a6 (.refl C.Wg w) a9 qdA (.anch hk) (a7.reopen trivial trivial rfl (by simp)) (.inl (by simp only[phi];omega))
  ·obtain⟨a',w',es,a6,hD,a8⟩:=hstep w (.refl w);exact jQ a6 hD (.w2 a8) (by omega)
 | w3 hh=>
  rcases qkg hh with hstop | ⟨m',rfl,hstep⟩
  ·obtain⟨_,l9,e8,htake⟩:=hstop w (.refl w);cases a7 with
   | opn h1 _ _=>exact h1.elim
   | reg h1 h2 h3=>exact b0 (e8 ⟨_,a9⟩) (.refl C.Wg w) a9 (by simp) (.blk hstop) (.reg trivial h2 h3) (.inr ⟨rfl,by omega⟩)
   | last L h1 h2 h3 h4=>exact b0 (e8 ⟨_,a9⟩) (.refl C.Wg w) a9 (by simp) (.blk hstop) (.last L trivial h2 h3 h4) (.inr ⟨rfl,by omega⟩)
   | sema h2=>
    obtain⟨a',a6,m₂,hk⟩:=htake a9;exact b0 a6 (qlw w (smA C.Wg) _) (a9.setSm 0) qdz (.w4 hk) (.fin trivial h2) (.inl (by simp only[phi];omega))
   | fin h1 _=>exact h1.elim
  ·obtain⟨a',w',es,a6,hD,a8⟩:=hstep w (.refl w);exact jQ a6 hD (.w3 a8) (by omega)
 | blk hh=>simp at k0
 | w4 hh=>
  rcases qkg hh with hstop | ⟨m',rfl,hstep⟩
  ·obtain⟨_,hx⟩:=hstop w (.refl w);obtain⟨hq,rfl,rfl⟩:=a7.fin_inv trivial;obtain⟨a',a6,m₂,hk⟩:=hx a9;exact b0 a6 (.refl C.Wg w) a9 qdA (.ke hk) (.fin trivial hq) (.inl (by simp only[phi];omega))
  ·obtain⟨a',w',es,a6,hD,a8⟩:=hstep w (.refl w);exact jQ a6 hD (.w4 a8) (by omega)
 | ke hh=>
  rcases qkg hh with hstop | ⟨m',rfl,hstep⟩
  ·obtain⟨_,a',a6,m₂,hk⟩:=hstop w (.refl w);obtain⟨hq,rfl,rfl⟩:=a7.fin_inv trivial;exact b0 a6 (.refl C.Wg w) a9 q4F (.acq hk) (.fin trivial hq) (.inl (by simp only[phi];omega))
  ·obtain⟨a',w',es,a6,hD,a8⟩:=hstep w (.refl w);exact jQ a6 hD (.ke a8) (by omega)
 | acq hh=>
  rcases qkg hh with hstop | ⟨m',rfl,hstep⟩
  ·obtain⟨_,a',a6,k7⟩:=hstop w (.refl w);obtain⟨hq,rfl,rfl⟩:=a7.fin_inv trivial;have b7:=qm8 (P:=C.P) (sl:=sl) (i:=0) h.main a6;refine⟨_,_,_,b7,?_⟩;have l5:∀i,i<C.n->C.fin (ls i):=λi hi=>by
    obtain⟨g,_,hs⟩:=h.wk i hi;exact hs.fin_of (by rw[hq i hi];omega)
   have hE:=H.hFin W ls a' w k7 h.jj l5 h.data h.ph;have hlo:=H.hlo;have hsz:((gs.map (qqf C.P a a' w)).setIfInBounds 0 a').size=gs.size:=by simp
   have hlt:0<gs.size:=by rw[h.size];omega
   have e1:qja 0 a.frame.fn a.frame.place #[qjl (.acquire (stA C.Wg))]=#[{ g:=0,fn:=a.frame.fn,pos:=a.frame.place,act:=.mark (.acquire (stA C.Wg)) }]:=by rw[qlD];simp[ofEvent_mk]
   rw[e1];generalize hy:({ g:=0,fn:=a.frame.fn,pos:=a.frame.place,act:=.mark (.acquire (stA C.Wg)) }:qp7)=y;have e4:y.g=0:=by rw[<- hy]
   have d6:y.act=.mark (.acquire (stA C.Wg)):=by rw[<- hy]
   have hops:∀op∈#[y],op.g=0:=λop hop=>by simp at hop;rw[hop];exact e4
   have e9:(t++#[y])[t.size]?=some y:=by simp
   have b9:∀g,qpb (t++#[y]) g=qpb t g:=λg=>Deaf_still t g _ λop hop=>by simp at hop;rw[hop,d6];simp
   have g5:Tr cl gs.size w.heap.size (t++#[y]):=h.tr.step hlt λop hop=>by
    simp at hop;rw[hop];exact⟨e4,λx hx=>by rw[d6] at hx;cases hx⟩
   have k6:∀m,Hd m (t++#[y]):=λm=>by
    refine Hd.join (lo:=C.lo) (q:=t.size) (h.hd.app λop hop=>.inl (hops op hop)) (λg hg hne ⟨i,hi⟩=>?_) ((h.nor _).app λop hop hm=>by simp at hop;rw[hop,d6] at hm;cases hm) (by rw[act?_of e9,d6]) (by rw[q1l e9,e4])
     ⟨0,by rw[q1l e9,e4],by rw[deaf_old (qgA _)];exact h.deaf0⟩ m
    obtain⟨op,ho,rfl⟩:=ql6.1 hi;have c3:=g5.gs i op ho;rw[h.size] at c3;obtain⟨r,hr⟩:=h.rel (op.g - C.lo) (by omega) (by rw[hq _ (by omega)];omega);rw[show C.lo+(op.g - C.lo)=op.g by omega] at hr;exact⟨r,hr.appOther hops (by omega),lt_of_act? hr.act⟩
   refine hE _ sl _ (λi=>if i<C.lo then fu i else(D (i - C.lo)).fuel) ⟨qlc _ _ _ hlt,λi h1 h2=>?_,?_,λb hb=>?_,?_,k6 _,λad=>?_⟩
   ·rw[hsz] at h2;by_cases hl:i<C.lo
    ·obtain⟨x,hx,d7⟩:=h.lv i h1 hl;refine⟨x,by rw[qkp _ _ _ _ (by omega),hx,qip,qlH d7],?_⟩;rw[if_pos hl,b9];exact d7
    ·have c3:i - C.lo<C.n:=by rw[h.size] at h2;omega
     obtain⟨x,hx,hxs⟩:=h.wk (i - C.lo) c3;have h9:=h.wd (i - C.lo) c3;rw[show C.lo+(i - C.lo)=i by omega] at hx h9;have d7:qoe C.P (D (i - C.lo)).fuel (D (i - C.lo)).deaf x:=by
      have h1:=hq _ c3;generalize D (i - C.lo)=dd at *
      obtain⟨s1,f1,d1⟩:=dd;dsimp only at *
      subst h1;cases hxs with
      | quit _ h=>exact h
     refine⟨x,by rw[qkp _ _ _ _ (by omega),hx,qip,qlH d7],?_⟩;rw[if_neg hl,b9,h9];exact d7
   ·rw[hsz];refine g5.recl (λb hb=>?_);by_cases hs:cl b=.sync
    ·left;rw[hs];have g8:b<C.W1.heap.size:=qox λhge=>h.cln b hge hs;unfold flat;rw[<- h.cla b g8,hs]
    ·right;right;left;refine⟨hs,?_,λi x hx l6=>g5.known0 (k6 gs.size) (qgA _) hx l6 hs⟩;unfold flat;by_cases g8:b<C.W1.heap.size
     ·rw[<- h.cla b g8];cases hc:cl b<;>first | rfl | exact absurd hc hs
     ·cases hc:C.clA b with
      | sync=>rw[H.cla0 b (by omega)] at hc;cases hc
      | _=>rfl
   ·unfold flat;rw[H.cla0 b (qh0 h.ph.size hb)]
   ·rw[b9];exact h.deaf0
   ·exact(h.nor ad).app λop hop hm=>by simp at hop;rw[hop,d6] at hm;cases hm
  ·obtain⟨a',w',es,a6,hD,a8⟩:=hstep w (.refl w);exact jQ a6 hD (.acq a8) (by omega)
theorem Ks(H:C.Ok)(h:Inv C gs w t j D ls Ss rk W tag f0 d0 a st sm cl fu)(sl:Option (Nat × Nat)):Ends C.P C.Post (qkl gs w sl) t:=by
 have key:∀(Z:Me) (gs:Array qgC) (w:qgx) (t:qo3) (j:Nat) (D:Nat->WD) (ls:Nat->X) (Ss:Nat->Bs) (rk:Nat->Rk) (W:U) (tag:CTag) (f0 d0:Nat) (a:qgC) (st sm:Int) (cl:Nat->Cl) (fu:Nat->Nat) (sl:Option (Nat × Nat)),
   Inv C gs w t j D ls Ss rk W tag f0 d0 a st sm cl fu->Z=(C.big j D ls W tag,rk,C.low j D fu f0)->Ends C.P C.Post (qkl gs w sl) t:=by
  intro Z;induction Z using(qeH C.n).induction with
  | _ Z ih=>
   intro gs w t j D ls Ss rk W tag f0 d0 a st sm cl fu sl h hμ;subst hμ;obtain⟨i,g,d,a7,hg,a8,hstep⟩:=qq5 (P:=C.P) (w:=w) (sl:=sl) (h.awake H) (h.someone H);have h':=h.at H d;have hlt:=(qgy.1 hg).1;rw[h.size] at hlt;by_cases e0:i=0
   ·subst e0;rw[h.main] at hg;cases hg;obtain⟨gs',w',ops,h1,h2⟩:=h'.starter H a8 a7 λgs' w' t' j' D' ls' Ss' rk' tag' f' d' a' st' sm' a6 hlt=>ih _ hlt gs' w' t' j' D' ls' Ss' rk' W tag' f' d' a' st' sm' cl fu a7 a6 rfl;exact Ends.next (hstep.trans h1) h2
   ·rcases qiC i C.lo with hl | hl
    ·obtain⟨gs',ops,q,tag',f',a',h1,hq,hf,a9,a6⟩:=h'.leave H a7 (by omega) hl hg a8;refine Ends.next (hstep.trans h1) (ih _ ?_ _ _ _ _ _ _ _ _ _ _ _ _ _ _ _ _ _ a7 a6 rfl)
     have e:=phi_retag C.n (Vc j D) a9;unfold Cfg.big Cfg.low;rw[e];have:=q1F hl hq;exact q76 rfl (by
      have e2:(qmi C.lo λa=>upd fu i q a)=qmi C.lo (upd fu i q):=rfl;omega)
    ·have hi:i - C.lo<j:=by omega
     have ei:C.lo+(i - C.lo)=i:=by omega
     rw[<- ei] at hg hstep;obtain⟨gs',w',ops,h1,h2⟩:=h'.worker H hi hg a8 a7 λgs' w' t' D' ls' Ss' rk' γ' tag' f' a' st' sm' cl' a6 hlt=>ih _ hlt gs' w' t' j D' ls' Ss' rk' γ' tag' f' d0 a' st' sm' cl' fu a7 a6 rfl;exact Ends.next (hstep.trans h1) h2
 exact key _ gs w t j D ls Ss rk W tag f0 d0 a st sm cl fu sl h rfl
end
theorem E.crowd{U X:Type}{P:qh2}{Post:qgB->qgx->Prop}{cl:Nat->Cl}{a:qgC}{w:qgx}(hs:∀lo,1<=lo->∃C:Cfg U X,C.P=P/\C.Post=Post/\C.lo=lo/\C.W1=w/\C.Ok/\(∀b,b<w.heap.size->C.clA b=cl b\/(cl b=.mine 0/\C.clA b=.ro lo))/\C.Spawns C.n a w/\qn1 C.ty C.Wg w 0 0/\∃W ls,C.DataAt W w/\C.J W 0 ls):E P Post cl a w:=by
 intro gs sl t fu hA;have b0:=(qgy.1 hA.main).1;obtain⟨C,rfl,rfl,hlo,hW,H,hcl,hsp,a8,W,ls,a7,hJ⟩:=hs gs.size (by omega);have a9:Tr C.clA gs.size w.heap.size t:=hA.tr.recl λb hb=>by
  rcases hcl b hb with e | ⟨e1,e2⟩
  ·exact .inl e
  ·exact .inr (.inl ⟨e1,e2⟩)
 have a6:∀tag,isOpen tag->qpc tag=0->(∀vs,tag≠.w2 vs)->qma 0 (λ_=>(⟨0,0,0⟩:WD)) tag 0 0:=λtag h1 h2 h3=>by
  have:=Go.ConcN.Mode.opn (j:=0) (D:=λ_=>(⟨0,0,0⟩:WD)) h1 (λi hi=>by omega) (λvs e=>absurd e (h3 vs));simpa[Vc,qmi,h2] using this
 have base:∀tag f0,C.CS tag 0 f0 0 a w->isOpen tag->qpc tag=0->(∀vs,tag≠.w2 vs)->Inv C gs w t 0 (λ_=>⟨0,0,0⟩) ls (λ_ _=>False) (λ_=>.leaf) W tag f0 0 a 0 0 C.clA fu:=λtag f0 hcs h1 h2 h3=>
  ⟨by rw[hlo,Nat.add_zero],hA.main,hcs,λi h1 h2=>hA.lv i h1 (by omega),λi hi=>by omega,λi hi=>by omega,λi hi=>by omega,a9,λi hi=>by omega,λb hb=>H.cla0 b (by rw[hW];exact hb),λb _=>rfl,λb hb=>by rw[H.cla0 b hb];simp,
   hA.nor,hA.d0,by rw[hlo];exact hA.hd,a7,hJ,⟨λb _=>by rw[hW],by rw[hW];exact qgA _,by rw[hW],by rw[hW]⟩,a8,a6 tag h1 h2 h3⟩
 cases hn:C.n with
 | zero=>
  rw[hn] at hsp;obtain⟨m,hk⟩:=hsp;have hc:C.CS .kd C.n m 0 a w:=.kd hk;rw[hn] at hc;exact Ks H (base .kd m hc trivial rfl (by simp)) sl
 | succ r=>
  rw[hn] at hsp;obtain⟨m,hk⟩:=hsp;have hc:C.CS (.sp r 5) (C.n - (r+1)) m 0 a w:=.skd (by omega) hk;rw[hn,Nat.sub_self] at hc;exact Ks H (base (.sp r 5) m hc trivial rfl (by simp)) sl
end
section
open Go.Conc Go.ConcN Go.Sim
def q50(R:Act->qgx->Prop):Exit->Act->qgx->Prop
 | .normal,a,w=>R a w
 | _,_,_=>False
theorem YU{R:Act->qgx->Prop}:¬ LetsOut (q50 R):=λ⟨_,_,h⟩=>h
theorem q6G{Q:qh2}{ops:Array qiu}{R:Act->qgx->Prop}(rest:List Nat)(l:List Nat):∀(a:Act) (w:qgx),qqF Q ops (q50 R) l a w->∀(b:qh4) (k:List qkD) (cs:List qh4),∃a' w',R a' w'/\Steps Q (lone (b.at a (.inRegion ops (l++rest)::k)) cs w) (lone (b.at a' (.inRegion ops rest::k)) cs w'):=by
 induction l with
 | nil=>exact λa w h b k cs=>⟨a,w,h,.refl _ _⟩
 | cons i l ih=>
  intro a w h b k cs;simp only[qqF] at h;cases ho:ops[i]? with
  | none=>
   simp only[ho] at h;obtain⟨a',w',hq,hst⟩:=ih a w h b k cs;have hs:=step_op_skip (P:=Q) (b:=b) (a:=a) (k:=k) (cs:=cs) (w:=w) (ops:=ops) (i:=i) (rest:=l++rest) (by simp[ho]);simp only[ho,Option.bind_none,Act.put] at hs;exact⟨a',w',hq,.head hs hst⟩
  | some o=>
   simp only[ho] at h;by_cases hw:qhv o (qj4 ops a.tmps)=true
   ·simp only[hw,if_true] at h;rcases h with h | ⟨_,hout⟩
    case inr=>exact absurd hout YU
    simp only[Oper.wp,Oper.upon] at h;have hg:=stepG_op (P:=Q) (b:=b) (k:=k) (cs:=cs) (w:=w) (rest:=l++rest) ho hw;have a9:∀v,(b.at a (.inRegion ops (i::(l++rest))::k)).finish v=b.at (a.put o.dst v) (.inRegion ops (l++rest)::k):=by
     intro v;rw[qjg,ho];rfl
    split at h
    ·rename_i v w' hr
     obtain⟨a',a8,hq,hst⟩:=ih _ _ h b k cs;exact⟨a',a8,hq,.head (qnf (by rw[qhe,hg,<- a9];simp[qil,hr])) hst⟩
    ·rename_i w' hr
     obtain⟨a',a8,hq,hst⟩:=ih _ _ h b k cs;exact⟨a',a8,hq,.head (qnf (by rw[qhe,hg,<- a9];simp[qil,hr])) hst⟩
    ·rename_i d w' hr
     obtain⟨a',a8,hq,hst⟩:=ih _ _ h b k cs;refine⟨a',a8,hq,.head (qnf ?_) hst⟩;have:({ b.at a (.inRegion ops (i::(l++rest))::k) with defers:=d::a.defers }:qh4).finish qgD =
       b.at ({ a with defers:=d::a.defers }.put o.dst qgD) (.inRegion ops (l++rest)::k):=by
      have:=qjg b { a with defers:=d::a.defers } ops i (l++rest) k qgD;rw[ho] at this;exact this
     rw[qhe,hg];simp only[qil,qhA,hr,GStep.bare_after];exact congrArg (λfr=>qpg { frame:=fr,callers:=cs,status:=.running,dying:=none } w') this
    ·rename_i f args w' hr
     obtain⟨e,a8,fr,hR,a6,_,b0⟩:=h (b.at a (.inRegion ops (i::(l++rest))::k)::cs);have a7:step Q (lone (b.at a (.inRegion ops (i::(l++rest))::k)) cs w) =
       .next (lone (qhD Q f args .normal) (b.at a (.inRegion ops (i::(l++rest))::k)::cs) w') :=
      qnf (by rw[hg];simp[qil,hr,Frame.at])
     cases e with
     | returned v=>
      obtain⟨a',w₃,hq,hst⟩:=ih _ _ hR b k cs;refine⟨a',w₃,hq,.head a7 (Steps.trans a6 (.head ?_ hst))⟩;rw[<- a9];exact qpv b0
     | panicked chain=>exact hR.elim
     | outgrown=>exact absurd hR YU
    ·rename_i row args w' hr
     obtain⟨v,a8,hR,a6⟩:=h (b.at a (.inRegion ops (i::(l++rest))::k)) cs;have a7:step Q (lone (b.at a (.inRegion ops (i::(l++rest))::k)) cs w) =
       .next (lone (Frame.ofRow Q row args .normal) (b.at a (.inRegion ops (i::(l++rest))::k)::cs) w') :=
      qnf (by rw[hg];simp[qil,hr,Frame.at])
     obtain⟨a',w₃,hq,hst⟩:=ih _ _ hR b k cs;refine⟨a',w₃,hq,.head a7 (Steps.trans ?_ hst)⟩;rw[<- a9];exact a6
    ·exact h.elim
    ·exact h.elim
   ·simp only[hw,if_false,qhy] at h;obtain⟨a',w',hq,hst⟩:=ih _ _ h b k cs;have hs:=step_op_skip (P:=Q) (b:=b) (a:=a) (k:=k) (cs:=cs) (w:=w) (ops:=ops) (i:=i) (rest:=l++rest) (by simp[ho];simpa using hw);simp only[ho,qmo] at hs;exact⟨a',w',hq,.head hs hst⟩
theorem q8b{Q:qh2}{o:qiu}{a:Act}{w:qgx}{K K':Act->qgx->Prop}{R:Exit->Act->qgx->Prop}(hk:∀a w,K a w->K' a w)(h:o.wp Q a w K R):o.wp Q a w K' R:=by
 unfold Oper.wp at h ⊢;unfold Oper.upon at h ⊢;generalize (qk3 a.eval o).run Q w=r at h ⊢;cases r with
 | ok x w'=>
  cases x with
  | value v=>exact hk _ _ h
  | skip=>exact hk _ _ h
  | defer d=>exact hk _ _ h
  | enter f args=>exact Calls.mono h λe w q=>by cases e<;>first | exact hk _ _ q | exact q
  | row r args=>exact Rows.mono h λv w q=>hk _ _ q
  | _=>exact h.elim
 | halt x w'=>cases x<;>first | exact h | exact h.elim
theorem QK{Q:qh2}{ops:Array qiu}{R:Exit->Act->qgx->Prop}:∀(l:List Nat) (os:List qiu) (a:Act) (w:qgx),l.map (λi=>ops[i]?)=os.map some->wpList Q ops R os a w->qqF Q ops R l a w
 | [],[],a,w,_,h=>h
 | [],_::_,_,_,e,_=>by simp at e
 | _::_,[],_,_,e,_=>by simp at e
 | i::l,o::os,a,w,e,h=>by
  simp only[qla,qk0] at e;simp only[qqF,e.1];simp only[wpList] at h;have key:∀a w,wpList Q ops R os a w->qqF Q ops R l a w:=λa w=>QK l os a w e.2;split
  ·rename_i hw
   rw[if_pos hw] at h;exact h.imp (λh=>q8b key h) id
  ·rename_i hw
   rw[if_neg hw] at h;exact key _ _ h
section
variable[JunkSet]{Q P:qh2}{f:qib}{Post:qgB->qgx->Prop}{W:qgx}
variable{b:qh4}{a:Act}{k:List qkD}{cs:List qh4}{wq:qgx}
theorem EL.one(D:Two Q P){fr a6:qh4}{a7:List qh4}{fn:qib}(hE:EL Q P f Post W (G a6 a7) wq)(h:∀w,step Q (lone fr cs w)=.next (lone a6 a7 w))(hb1:Bot f a7)(hn:a6.fn=fn)(hs:Q.funcs[fn]?=P.funcs[fn]?):EL Q P f Post W (G fr cs) wq :=
 EL.of_runs D λT=>⟨a6,a7,wq.tp T,.one (h _),hb1,by rw[hn];exact hs,hE.tape T⟩
section
variable(D:Two Q P)(hb:Bot f cs)(hs:Q.funcs[b.fn]?=P.funcs[b.fn]?)
include D hb hs
theorem EL.seq{x y:qje}(h:EL Q P f Post W (G (b.at a (.code x::.code y::k)) cs) wq):EL Q P f Post W (G (b.at a (.code (.seq x y)::k)) cs) wq:=EL.one D h (λ_=>step_seq) hb (fn:=b.fn) rfl hs
theorem EL.sp{x y:qje}(h:∀T,x.wp Q (qfi Q P f Post W b (.code y::k) cs) a (wq.tp T)):EL Q P f Post W (G (b.at a (.code (.seq x y)::k)) cs) wq:=EL.seq D hb hs (EL.piece D hb hs h)
theorem EL.skip(h:EL Q P f Post W (G (b.at a k) cs) wq):EL Q P f Post W (G (b.at a (.code .skip::k)) cs) wq:=EL.one D h (λ_=>step_skip) hb (fn:=b.fn) rfl hs
theorem EL.cond{c:qhE}{x y:qje}(t:Bool)(hc:a.eval c=.bool t)(h:EL Q P f Post W (G (b.at a (.code (if t then x else y)::k)) cs) wq):EL Q P f Post W (G (b.at a (.code (.cond c x y)::k)) cs) wq:=EL.one D h (λ_=>step_cond hc) hb (fn:=b.fn) rfl hs
theorem EL.block{id:Nat}{c:qje}(h:EL Q P f Post W (G (b.at a (.code c::.inBlock id::k)) cs) wq):EL Q P f Post W (G (b.at a (.code (.block id c)::k)) cs) wq:=EL.one D h (λ_=>step_block) hb (fn:=b.fn) rfl hs
theorem EL.inBlock{id:Nat}(h:EL Q P f Post W (G (b.at a k) cs) wq):EL Q P f Post W (G (b.at a (.inBlock id::k)) cs) wq:=EL.one D h (λ_=>step_inBlock) hb (fn:=b.fn) rfl hs
theorem EL.loop{c:qje}(h:EL Q P f Post W (G (b.at a (.code c::.inLoop c::k)) cs) wq):EL Q P f Post W (G (b.at a (.code (.loop c)::k)) cs) wq:=EL.one D h (λ_=>step_loop) hb (fn:=b.fn) rfl hs
theorem EL.inLoop{c:qje}(h:EL Q P f Post W (G (b.at a (.code c::.inLoop c::k)) cs) wq):EL Q P f Post W (G (b.at a (.inLoop c::k)) cs) wq:=EL.one D h (λ_=>step_inLoop) hb (fn:=b.fn) rfl hs
theorem EL.exit{id:Nat}{k':List qkD}(he:qmh id k=some k')(h:EL Q P f Post W (G (b.at a k') cs) wq):EL Q P f Post W (G (b.at a (.code (.exit id)::k)) cs) wq:=EL.one D h (λ_=>step_exit he) hb (fn:=b.fn) rfl hs
theorem EL.retS(h:EL Q P f Post W (G { b.at a (.code .ret::k) with mode:=.returning } cs) wq):EL Q P f Post W (G (b.at a (.code .ret::k)) cs) wq:=EL.one D h (λ_=>step_ret) hb (fn:=b.fn) rfl hs
theorem EL.region{id:Nat}{ops:Array qiu}(h:EL Q P f Post W (G (b.at a (.inRegion ops (qht ops.size)::k)) cs) wq):EL Q P f Post W (G (b.at a (.code (.region id ops false)::k)) cs) wq:=EL.one D h (λ_=>step_region) hb (fn:=b.fn) rfl hs
theorem EL.region_end{ops:Array qiu}(h:EL Q P f Post W (G (b.at a k) cs) wq):EL Q P f Post W (G (b.at a (.inRegion ops []::k)) cs) wq:=EL.one D h (λ_=>step_region_end) hb (fn:=b.fn) rfl hs
theorem EL.list{ops:Array qiu}(l:List Nat)(os:List qiu){rest:List Nat}(hl:l.map (λi=>ops[i]?)=os.map some)(h:∀T,wpList Q ops (q50 λa' w'=>EL Q P f Post W (G (b.at a' (.inRegion ops rest::k)) cs) w') os a (wq.tp T)) :EL Q P f Post W (G (b.at a (.inRegion ops (l++rest)::k)) cs) wq :=
 EL.of_runs D λT=>by
  obtain⟨a',w',hE,hst⟩:=q6G rest l a (wq.tp T) (QK l os a _ hl (h T)) b k cs;exact⟨_,cs,w',hst,hb,hs,hE⟩
theorem EL.enter{ops:Array qiu}{i:Nat}{rest:List Nat}{o:qiu}{fk:qib}{args:Array qgB}(ho:ops[i]?=some o)(hw:qhv o (qj4 ops a.tmps)=true)(a6:∀T,(qk3 a.eval o).run Q (wq.tp T)=.ok (.enter fk args) (wq.tp T))(a7:Q.funcs[fk]?=P.funcs[fk]?)(h:EL Q P f Post W (G (qhD Q fk args .normal) (b.at a (.inRegion ops (i::rest)::k)::cs)) wq):EL Q P f Post W (G (b.at a (.inRegion ops (i::rest)::k)) cs) wq :=
 EL.of_runs D λT=>by
  have hg:=stepG_op (P:=Q) (b:=b) (k:=k) (cs:=cs) (w:=wq.tp T) (rest:=rest) ho hw;exact⟨_,_,wq.tp T,.one (qnf (by rw[hg];simp[qil,a6,Frame.at])),hb.cons,a7,h.tape T⟩
end
theorem EL.back(D:Two Q P){fr c:qh4}{v:qgB}(hb:Bot f cs)(hs:Q.funcs[c.fn]?=P.funcs[c.fn]?)(hl:∀T,fr.leaving Q (wq.tp T) (.returned v))(h:EL Q P f Post W (G (c.finish v) cs) wq):EL Q P f Post W (G fr (c::cs)) wq :=
 EL.of_runs D λT=>⟨_,cs,wq.tp T,.one (qpv (hl T)),hb,by
  have:(c.finish v).fn=c.fn:=by unfold qoE;split<;>rfl
  rw[this];exact hs,h.tape T⟩
def EC(Q P:qh2)(f:qib)(Post:qgB->qgx->Prop)(W:qgx)(fk:qib)(args:Array qgB)(wq:qgx)(R:qgB->qgx->Prop):Prop :=
 ∀c cs,Bot f cs->Q.funcs[c.fn]?=P.funcs[c.fn]?->(∀v u,R v u->EL Q P f Post W (G (c.finish v) cs) u)->EL Q P f Post W (G (qhD Q fk args .normal) (c::cs)) wq
theorem EC.of_body(D:Two Q P){fk:qib}{fn:Func}{c0:qje}{args:Array qgB}{R:qgB->qgx->Prop}(hf:Q.funcs[fk]?=some fn)(hp:P.funcs[fk]?=some fn)(a7:fn.body=some c0)(h:∀cs,Bot f cs->(∀a todo u v,a.defers=[]->(∀T,(qjb fn a.tmps).run Q (u.tp T)=.ok v (u.tp T))->R v u->EL Q P f Post W (G { (base fk).at a todo with mode:=.returning } cs) u) ->EL Q P f Post W (G ((base fk).at ⟨args++qi0 (fn.ntmps - args.size) qgD,[]⟩ [.code c0]) cs) wq):EC Q P f Post W fk args wq R:=by
 intro c cs hb hs hk;have e:qhD Q fk args .normal=(base fk).at ⟨args++qi0 (fn.ntmps - args.size) qgD,[]⟩ [.code c0]:=by
  simp[qhD,hf,a7,Frame.at,base]
 rw[e];refine h (c::cs) hb.cons λa todo u v hd a6 hR=>EL.back D hb hs (λT=>⟨rfl,hd,rfl,fn,hf,a6 T⟩) (hk v u hR)
end
end
section
open Go.Conc Go.ConcN Go.Sim
section
variable[J:JunkSet]{Q P:qh2}{f:qib}{Post:qgB->qgx->Prop}{W:qgx}
structure AtK(Q P:qh2)[JunkSet](W:qgx)(Z:Ren)(tq tp:Array qgB)(c c':qh4)(pre pre':List qh4)(wq w:qgx)(cl:Nat->Cl):Prop where
 wr:WR Q W.heap.size Z wq w
 ln:W.heap.size<=Z.length
 gl:Gl P Z
 tm:AsR Z tq tp
 top:qr Q P Z c c'
 rest:LsR (qr Q P Z) pre pre'
 own:kQ cl Z
 c0:∀b,w.heap.size<=b->cl b=.mine 0
 kp:yY W.heap.size W.heap.size W Z w
 om:∀b,b<W.heap.size->cl b=.mine 0
theorem EL.enterK(D:Two Q P){b:qh4}{a:Act}{k:List qkD}{cs:List qh4}{wq:qgx}(hb:Bot f cs)(hs:Q.funcs[b.fn]?=P.funcs[b.fn]?){ops:Array qiu}{i:Nat}{rest:List Nat}{o:qiu}{fk:qib}{fq fp:Func}{c0:qje}{args:Array qgB}(ho:ops[i]?=some o)(hw:qhv o (qj4 ops a.tmps)=true)(a9:∀T,(qk3 a.eval o).run Q (wq.tp T)=.ok (.enter fk args) (wq.tp T))(hne:Q.funcs[fk]?≠P.funcs[fk]?)(b9:Q.funcs[fk]?=some fq)(c3:P.funcs[fk]?=some fp)(hn:fq.ntmps=fp.ntmps)(c9:fp.body=some c0)(hK:∀Z tp c' pre pre' w cl,cs=pre++[qj f]->AtK Q P W Z (args++qi0 (fp.ntmps - args.size) qgD) tp (b.at a (.inRegion ops (i::rest)::k)) c' pre pre' wq w cl->E P Post cl (G ((base fk).at ⟨tp,[]⟩ [.code c0]) (c'::pre')) w) :EL Q P f Post W (G (b.at a (.inRegion ops (i::rest)::k)) cs) wq:=by
 intro Z g' w cl h b7 hc hk hm
 let g1:qgC:=G (qhD Q fk args .normal) (b.at a (.inRegion ops (i::rest)::k)::cs)
 let F:qgC->qgx->Prop:=λg _=>g.frame.fn=fk/\g.callers≠[]
 have a7:∀T,∃es,qi7 Q true (G (b.at a (.inRegion ops (i::rest)::k)) cs) (wq.tp T) true=.go g1 (wq.tp T) es:=λT=>by
  have hg:=stepG_op (P:=Q) (b:=b) (k:=k) (cs:=cs) (w:=wq.tp T) (rest:=rest) ho hw;refine⟨?_,?_⟩;rotate_left
  ·refine Eq.trans (b:=qil Q true (b.at a (.inRegion ops (i::rest)::k)) cs none (qk3 a.eval o) (wq.tp T)) hg ?_;simp only[qil,qhA,a9];rfl
 have b6:¬ F (G (b.at a (.inRegion ops (i::rest)::k)) cs) wq:=λ⟨h1,_⟩=>hne (by have e:b.fn=fk:=h1;rw[<- e];exact hs);have ht:LT Q F (G (b.at a (.inRegion ops (i::rest)::k)) cs) wq:=.step b6 (λT=>by
   obtain⟨es,e⟩:=a7 T;exact⟨g1,_,es,e,rfl,rfl⟩) λT g2 u2 d7 e2=>by
   obtain⟨es,e⟩:=a7 T;rw[e] at e2;cases e2;exact .done ⟨rfl,by show(_::_:List qh4)≠[];simp⟩
 have a6:Sub Q P W.heap.size F f [] Z (G (b.at a (.inRegion ops (i::rest)::k)) cs) wq g' w:=⟨h.ln,h.wr,h.gl,ht,h.stack,h.rel⟩;refine E.step (kU a6) λd=>?_;obtain⟨O,g2,d5,d6,w2,es,h1,h2,h3,h4,_,h6⟩:=(q1G a6 d).stepK D.H D.hrf xR b6 true (λg u hg=>hg.2);obtain⟨_,T,d8,e1⟩:=h2;obtain⟨d9,e0⟩:=a7 T;dsimp only at e1;rw[e0] at e1;cases e1;have b0:kQ cl O:=b7.step (w:=w.at d) h3 hc;have c8:∀b,w2.heap.size<=b->cl b=.mine 0:=λb hb=>hc b (qh0 h3.size hb);have b8:yY W.heap.size W.heap.size W O w2:=yY.step (w:=w.at d) (hk.at d) h3;rcases h6 with h6 | ⟨fk',kd,a1,a1',c,c',pre,pre',h6,hg1,rfl⟩
 ·exfalso;obtain⟨gv,hg,_⟩:=h6.rel;obtain⟨gf,k1,k2⟩:=hg.frame.same;exact hne (by
   have e:g1.frame.fn=fk:=rfl;rw[e] at k1 k2;rw[k1,k2])
 ·refine⟨_,w2,es,h1,h3.size,λe he=>kY b0 h6.wr (h4 e he),?_⟩;have a8:qhD Q fk args .normal=qhD Q fk' a1 kd:=congrArg (·.frame) hg1;have hcs:b.at a (.inRegion ops (i::rest)::k)::cs=c::(pre++[qj f]):=congrArg (·.callers) hg1;have e1:fk=fk':=congrArg (·.fn) a8;subst e1;have e2:CallKind.normal=kd:=congrArg (·.kind) a8;subst e2;have e3:args++qi0 (fp.ntmps - args.size) qgD=a1++qi0 (fp.ntmps - a1.size) qgD:=by
   have:=congrArg (·.tmps) a8;simp only[qhD,b9,qip,qgH,hn] at this;exact this
  simp only[qk0] at hcs;obtain⟨rfl,hcs⟩:=hcs;have e4:qhD P fk a1' .normal=(base fk).at ⟨a1'++qi0 (fp.ntmps - a1'.size) qgD,[]⟩ [.code c0]:=enter_at _ c3 c9;have e5:a1'.size=a1.size:=h6.args.1.symm;have:=hK O (a1'++qi0 (fp.ntmps - a1'.size) qgD) c' pre pre' w2 cl hcs ⟨⟨h6.wr.len,h6.wr.nodup,h6.wr.lt,h6.wr.obj,h6.wr.low,h6.wr.env,h6.wr.below,h6.wr.gar⟩,h6.len,h6.gl,?_,h6.top,h6.rest,b0,c8,b8,hm⟩
  ·rw[e4,qmD];exact this
  ·rw[e3,e5];refine AsR.append h6.args ⟨rfl,λi x y hx hy=>?_⟩;rw[hx] at hy;cases hy;have:x=qgD:=by
    have:=qgy.1 hx;obtain⟨hl,he⟩:=this;simp at he;exact he.symm
   rw[this];exact kz _
theorem EL.resume{O Z:Ren}{c c':qh4}{pre pre':List qh4}{wq w:qgx}{cl:Nat->Cl}{v v':qgB}(hE:EL Q P f Post W (G (c.finish v) (pre++[qj f])) wq)(hin:Q.inits.idxOf? f=none)(hfs:∃g,Q.funcs[f]?=some g/\P.funcs[f]?=some g)(hle:Le Z O)(ht:qr Q P Z c c')(hr:LsR (qr Q P Z) pre pre')(hv:VR O v v')(hw:WR Q W.heap.size O wq w)(a6:W.heap.size<=O.length)(hG:Gl P Z)(ho:kQ cl O)(hc:∀b,w.heap.size<=b->cl b=.mine 0)(hk:yY W.heap.size W.heap.size W O w)(hm:∀b,b<W.heap.size->cl b=.mine 0):E P Post cl (G (c'.finish v') pre') w:=by
 refine hE O (G (c'.finish v') pre') w cl ⟨hw,a6,hG.mono hle,⟨pre,rfl⟩,G (c'.finish v') (pre'++[qj f]),⟨(ht.mono hle).finish hv,?_,rfl,rfl,rfl,rfl⟩,?_⟩ ho hc hk hm
 ·have h1:LsR (qr Q P O) pre pre':=hr.imp λ_ _ k=>k.mono hle;have h2:qr Q P O (qj f) (qj f):=q2z hin hfs;show LsR (qr Q P O) (pre++[qj f]) (pre'++[qj f]);clear hE hr;induction h1 with
  | nil=>exact .cons h2 .nil
  | cons hx _ ih=>exact .cons hx ih
 ·simp[swap,G]
end
end
section
open Go.Conc Go.ConcN Go.Sim
def Closed(ops:Array qiu)(listed:Array Bool):Prop:=∀(i:Nat) (o:qiu),ops[i]?=some o->listed[i]?.getD false=true->∀e∈o.after,qi3 .any e=true->listed[e.on]?.getD false=true
def jQ(o:qiu):qiu:={ dst:=none,op:=.move (.const (.bool true)),type:=o.type,pos:=o.pos,after:=o.after,guard:=none }
def chainB(ops:Array qiu)(n:Nat):Bool :=
 (qht ops.size).all (λj=>match ops[j]? with
  | some o=>o.after.all (λe=>!qi3 .any e || decide (e.on<j)) && (decide (j<=n) || o.after.any (λe=>qi3 .any e && e.on+1 == j)) && (decide (n<=j) || (match o.guard with | some (g,_)=>decide (g<j) | none=>true))
  | none=>false) &&
 (qht n).all (λi=>(qht (n+1)).any λj=>decide (i<j) && match ops[j]? with | some o=>o.after.any (λe=>qi3 .any e && e.on == i) | none=>false)
section
variable{ops:Array qiu}{n:Nat}(hB:chainB ops n=true)
include hB
theorem Kt{j:Nat}{o:qiu}(hj:ops[j]?=some o):(∀e∈o.after,qi3 .any e=true->e.on<j)/\(n<j->∃e∈o.after,qi3 .any e=true/\e.on+1=j)/\(j<n->∀g b,o.guard=some (g,b)->g<j):=by
 unfold chainB at hB;simp only[qhh,qid,qjq] at hB;have:=hB.1 j (qgy.1 hj).1;rw[hj] at this;simp only[qiA,qju,qjA,decide_eq_true_eq,qhh] at this;obtain⟨⟨h1,h2⟩,h3⟩:=this;refine⟨λe he hb=>?_,λh=>?_,λh g b hg=>?_⟩
 ·rcases h1 e he with h | h
  ·rw[hb] at h;cases h
  ·exact h
 ·rcases h2 with h4 | h4
  ·omega
  ·obtain⟨e,he,hb⟩:=qq8.1 h4;simp only[qhh,beq_iff_eq] at hb;exact⟨e,he,hb⟩
 ·rcases h3 with h4 | h4
  ·omega
  ·rw[hg] at h4;simpa using h4
theorem q2C(hn:n<ops.size){listed:Array Bool}(hc:Closed ops listed)(hl:∀o,ops[n]?=some o->∀e∈o.after,qi3 .any e=true->listed[e.on]?.getD false=true):∀i,i<n->listed[i]?.getD false=true:=by
 have a6:=hB;unfold chainB at a6;simp only[qhh,qid (l:=qht n),qjq] at a6;have key:∀d i,i<n->n - i<=d->listed[i]?.getD false=true:=by
  intro d;induction d with
  | zero=>intro i hi h;omega
  | succ d ih=>
   intro i hi h;have:=a6.2 i hi;simp only[List.any_eq_true,qjq,qhh,decide_eq_true_eq] at this;obtain⟨j,hj,hij,hx⟩:=this;cases ho:ops[j]? with
   | none=>rw[ho] at hx;cases hx
   | some o=>
    rw[ho] at hx;simp only at hx;obtain⟨e,he,hb⟩:=qq8.1 hx;simp only[qhh,beq_iff_eq] at hb;by_cases a7:j=n
    ·subst a7;rw[<- hb.2];exact hl o ho e he hb.1
    ·have:=hc j o ho (ih j (by omega) (by omega)) e he hb.1;rw[hb.2] at this;exact this
 exact λi hi=>key (n - i) i hi (qgA _)
theorem kV{m:Nat}(hm:m<ops.size){listed:Array Bool}(hs:listed.size=ops.size)(a6:listed[m]?.getD false=false):qhd .any ops listed≠[]:=by
 intro hr;have key:∀i,i<ops.size->listed[i]?.getD false=true:=by
  intro i;induction i using qo1 with
  | _ i ih=>
   intro hi;refine zT hr hs (qhi hi) ?_;simp only[qiA,qju,qjA];intro e he;cases hb:qi3 .any e with
   | false=>exact .inl rfl
   | true=>
    right;have:=(Kt hB (qhi hi)).1 e he hb;rw[qik];exact ih e.on this (by omega)
 rw[key m hm] at a6;cases a6
theorem Jz{listed:Array Bool}{i:Nat}(hi:i∈qhd .any ops listed)(hni:n<i):listed[i - 1]?.getD false=true:=by
 obtain⟨h1,-⟩:=zq hi;have ho:=qhi h1;obtain⟨e,he,hb,a6⟩:=(Kt hB ho).2.1 hni;have:=zo hi ho;simp only[qiA,qju,qjA] at this;rcases this e he with h | h
 ·rw[hb] at h;cases h
 ·rw[<- qik,show i - 1=e.on by omega];exact h
omit hB in
theorem q7b{fuel t:Nat}{listed:Array Bool}(hne:qhd .any ops listed≠[]):∃i t',i∈qhd .any ops listed/\qi2 .any ops (fuel+1) t listed []=i::qi2 .any ops fuel t' (listed.setIfInBounds i true) []:=by
 simp only[qi2];change ∃i t',_/\(match (qhd .any ops listed)[t % (qhd .any ops listed).length]? with
  | some i=>qi2 .any ops fuel (t / (qhd .any ops listed).length) (listed.setIfInBounds i true) [i]
  | none=>[].reverse)=_
 cases hi:(qhd .any ops listed)[t % (qhd .any ops listed).length]? with
 | none=>
  exfalso;cases hr:qhd .any ops listed with
  | nil=>exact hne hr
  | cons x xs=>
   rw[hr] at hi;have hlt:t % (x::xs).length<(x::xs).length:=Nat.mod_lt _ (by simp);simp at hi;simp at hlt;omega
 | some i=>exact⟨i,_,qhg hi,by simp only[];rw[linearise_go_acc,qoG];rfl⟩
theorem qb6:∀(fuel t m:Nat) (listed:Array Bool),n<=m->m<=ops.size->listed.size=ops.size->(∀k,k<m->listed[k]?.getD false=true)->(∀k,m<=k->listed[k]?.getD false=false)->unl listed ops.size<=fuel ->qi2 .any ops fuel t listed []=qnD m (ops.size - m):=by
 intro fuel;induction fuel with
 | zero=>
  intro t m listed a6 a7 hs hl hu hf;by_cases h:m<ops.size
  ·exfalso;cases hr:qhd .any ops listed with
   | nil=>exact kV hB h hs (hu m (qgA _)) hr
   | cons i l=>
    obtain⟨h1,h2⟩:=zq (md:=.any) (ops:=ops) (listed:=listed) (i:=i) (by rw[hr];simp);have:=kT (n:=ops.size) h1 hs h2;omega
  ·rw[show ops.size - m=0 by omega];rfl
 | succ fuel ih=>
  intro t m listed a6 a7 hs hl hu hf;by_cases h:m<ops.size
  ·obtain⟨i,t',hi,he⟩:=q7b (fuel:=fuel) (t:=t) (kV hB h hs (hu m (qgA _)));have a8:i=m:=by
    have h1:=ZK hi;have h2:¬ i<m:=λh=>by rw[hl i h] at h1;cases h1
    refine qhF λh3=>?_;have h4:=Jz hB hi (by omega);rw[hu (i - 1) (by omega)] at h4;cases h4
   subst a8;obtain⟨h1,h2⟩:=zq hi;have h3:=kT (n:=ops.size) h1 hs h2;rw[he,ih t' (i+1) (listed.setIfInBounds i true) (by omega) (by omega) (by simpa using hs) (λk hk=>by
    rw[QA _ _ _ (by omega)];split
    ·rfl
    ·exact hl k (by omega)) (λk hk=>by rw[QA _ _ _ (by omega),if_neg (by omega)];exact hu k (by omega)) (by omega),show ops.size - i=(ops.size - (i+1))+1 by omega,List.range'_succ]
  ·have hr:qhd .any ops listed=[]:=by
    cases hr:qhd .any ops listed with
    | nil=>rfl
    | cons x xs=>
     exfalso;have hx:x∈qhd .any ops listed:=by rw[hr];simp
     have h1:=(zq hx).1;have h2:=ZK hx;rw[hl x (by omega)] at h2;cases h2
   rw[show ops.size - m=0 by omega];simp only[qi2];change (match (qhd .any ops listed)[t % (qhd .any ops listed).length]? with
    | some i'=>qi2 .any ops fuel _ _ [i']
    | none=>[].reverse)=[]
   rw[hr];rfl
theorem q8n(hn:n<ops.size):∀(fuel t:Nat) (listed:Array Bool),listed.size=ops.size->Closed ops listed->(∀k,n<=k->listed[k]?.getD false=false)->unl listed ops.size<=fuel ->∃L,qi2 .any ops fuel t listed []=L++qnD n (ops.size - n)/\∀i∈L,i<n:=by
 intro fuel;induction fuel with
 | zero=>
  intro t listed hs hc hu hf;exfalso;cases hr:qhd .any ops listed with
  | nil=>exact kV hB hn hs (hu n (qgA _)) hr
  | cons i l=>
   obtain⟨h1,h2⟩:=zq (md:=.any) (ops:=ops) (listed:=listed) (i:=i) (by rw[hr];simp);have:=kT (n:=ops.size) h1 hs h2;omega
 | succ fuel ih=>
  intro t listed hs hc hu hf;rcases qqg (∀k,k<n->listed[k]?.getD false=true) with hall | hall
  ·exact⟨[],qb6 hB (fuel+1) t n listed (qgA _) (by omega) hs hall hu hf,by simp⟩
  ·obtain⟨i,t',hi,he⟩:=q7b (fuel:=fuel) (t:=t) (kV hB hn hs (hu n (qgA _)));obtain⟨h1,h2⟩:=zq hi;have h3:=kT (n:=ops.size) h1 hs h2;have ra:∀o,ops[i]?=some o->∀e∈o.after,qi3 .any e=true->listed[e.on]?.getD false=true:=λo ho e he hb=>by
    have:=zo hi ho;simp only[qiA,qju,qjA] at this;rcases this e he with h | h
    ·rw[hb] at h;cases h
    ·rw[<- qik];exact h
   have hin:i<n:=by
    refine qhF λh=>?_;by_cases e:i=n
    ·subst e;exact hall (q2C hB hn hc ra)
    ·have:=Jz hB hi (by omega);rw[hu (i - 1) (by omega)] at this;cases this
   obtain⟨L,hL,hlt⟩:=ih t' (listed.setIfInBounds i true) (by simpa using hs) (λj o ho hj e he hb=>by
     rw[QA _ _ _ (by omega)] at hj ⊢;split at hj
     ·rename_i a6
      subst a6;split
      ·rfl
      ·exact ra o ho e he hb
     ·have:=hc j o ho hj e he hb;split
      ·rfl
      ·exact this) (λk hk=>by rw[QA _ _ _ (by omega),if_neg (by omega)];exact hu k hk) (by omega)
   exact⟨i::L,by rw[he,hL];rfl,λk hk=>by
    rcases qix.1 hk with rfl | hk
    ·exact hin
    ·exact hlt k hk⟩
end
def zL(ops:Array qiu)(n:Nat):Array qiu:=(ops.toList.take n++(ops.toList.drop n).map jQ).toArray
theorem Zi(ops:Array qiu)(n i:Nat):(zL ops n)[i]?=(ops[i]?).map λo=>if i<n then o else jQ o:=by
 unfold zL;rw[qnn,<- qnm];by_cases h:i<n
 ·by_cases h2:i<ops.toList.length
  ·rw[qhz (by simp at h2 ⊢;omega),qiz h];cases ops.toList[i]?<;>simp[h]
  ·rw[qi8 (by simp at h2 ⊢;omega),qi8 (by omega)];rfl
 ·by_cases h2:n<=ops.toList.length
  ·rw[qj3 (by simp at h2 ⊢;omega),qj7,qli,show n+(i - (ops.toList.take n).length)=i by simp at h2 ⊢;omega];cases ops.toList[i]?<;>simp[h]
  ·rw[qi8 (by simp at h2 ⊢;omega),qi8 (by omega)];rfl
theorem JJ(ops:Array qiu)(n:Nat):(zL ops n).size=ops.size:=by
 simp[zL];omega
theorem q65(ops:Array qiu)(n:Nat)(md:qkv):∀(fuel t:Nat) (listed:Array Bool) (a6:List Nat),qi2 md (zL ops n) fuel t listed a6=qi2 md ops fuel t listed a6:=by
 intro fuel;have hr:∀listed,qhd md (zL ops n) listed=qhd md ops listed:=λlisted=>by
  unfold qhd;rw[JJ]
  congr 1
  funext i
  rw[Zi];cases ops[i]? with
  | none=>rfl
  | some o=>simp only[qip];split<;>rfl
 induction fuel with
 | zero=>intro t listed a6;rfl
 | succ fuel ih=>
  intro t listed a6;simp only[qi2];change (match (qhd md (zL ops n) listed)[t % (qhd md (zL ops n) listed).length]? with
   | some i=>qi2 md (zL ops n) fuel (t / (qhd md (zL ops n) listed).length) (listed.setIfInBounds i true) (i::a6)
   | none=>a6.reverse)=(match (qhd md ops listed)[t % (qhd md ops listed).length]? with
   | some i=>qi2 md ops fuel (t / (qhd md ops listed).length) (listed.setIfInBounds i true) (i::a6)
   | none=>a6.reverse)
  rw[hr];cases(qhd md ops listed)[t % (qhd md ops listed).length]? with
  | none=>rfl
  | some i=>exact ih _ _ _
theorem q3B{Q:qh2}{ops:Array qiu}{n:Nat}{K:Act->qgx->Prop}(hB:chainB ops n=true)(R:List Nat)(hR:∀i∈R,n<=i/\i<ops.size):∀(L:List Nat) (a:Act) (w:qgx),(∀i∈L,i<n)->qqF Q (zL ops n) (q50 K) (L++R) a w->qqF Q ops (q50 K) L a w:=by
 have a6:∀(R:List Nat),(∀i∈R,n<=i/\i<ops.size)->∀(a:Act) (w:qgx),qqF Q (zL ops n) (q50 K) R a w->qqF Q ops (q50 K) [] a w:=by
  intro R;induction R with
  | nil=>exact λ_ _ _ h=>h
  | cons i R ih=>
   intro hR a w h;rw[wpOps_cons] at h;obtain⟨h1,h2⟩:=hR i (by simp);unfold wpOp at h;rw[Zi,qhi h2] at h;simp only[qip,if_neg (show ¬ i<n by omega)] at h;have hw:qhv (jQ ops[i]) (qj4 (zL ops n) a.tmps)=true:=by simp[qhv,jQ]
   rw[if_pos hw] at h;rcases h with h | ⟨_,hout⟩
   ·unfold Oper.wp at h;have:(qk3 a.eval (jQ ops[i])).run Q w=.ok (.value (.bool true)) w:=rfl;rw[this] at h;simp only[Oper.upon,jQ] at h;exact ih (λj hj=>hR j (by simp[hj])) _ _ h
   ·exact absurd hout YU
 intro L;induction L with
 | nil=>exact λa w _ h=>a6 R hR a w h
 | cons i L ih=>
  intro a w hlt h;rw[qhe,wpOps_cons] at h;rw[wpOps_cons];have hi:=hlt i (by simp);have e:∀j,j<n->(zL ops n)[j]?=ops[j]?:=λj hj=>by rw[Zi];cases ops[j]?<;>simp[hj]
  have h':=wpOp_mono (λa' w' hx=>ih a' w' (λj hj=>hlt j (by simp[hj])) hx) h;unfold wpOp at h' ⊢;rw[e i hi] at h';cases ho:ops[i]? with
  | none=>rw[ho] at h';exact h'
  | some o=>
   rw[ho] at h';dsimp only at h' ⊢;have hw:qhv o (qj4 (zL ops n) a.tmps)=qhv o (qj4 ops a.tmps):=by
    unfold qhv;cases hg:o.guard with
    | none=>rfl
    | some p=>
     obtain⟨g,b⟩:=p;have:=(Kt hB ho).2.2 hi g b hg;simp only[qj4,e g (by omega)]
   rw[hw] at h';exact h'
section
variable[JunkSet]{Q P:qh2}{f:qib}{Post:qgB->qgx->Prop}{W:qgx}
variable{b:qh4}{a:Act}{k:List qkD}{cs:List qh4}{wq:qgx}
theorem EL.region_chain(D:Two Q P)(hb:Bot f cs)(hs:Q.funcs[b.fn]?=P.funcs[b.fn]?){id:Nat}{ops:Array qiu}(n:Nat)(rest:List Nat)(hm:Q.follows .mixedOrders=true)(hB:chainB ops n=true)(hn:decide (n<ops.size)=true)(hr:decide (rest=qnD n (ops.size - n))=true)(h:∀T,wpAny Q .any (zL ops n) (q50 λa' w'=>EL Q P f Post W (G (b.at a' (.inRegion ops rest::k)) cs) w') (zL ops n).size (qi0 (zL ops n).size false) a { wq.tp T with drawn:=wq.drawn+1 }) :EL Q P f Post W (G (b.at a (.code (.region id ops true)::k)) cs) wq:=by
 refine EL.of_runs D λT=>?_;have hn:=of_decide_eq_true hn;have hr:=of_decide_eq_true hr;have hsz:=JJ ops n;have a6:∀k:Nat,(qi0 ops.size false)[k]?.getD false=false:=λk=>by
  simp only[Array.getElem?_replicate];split<;>rfl
 obtain⟨L,hL,hlt⟩:=q8n hB hn ops.size ((wq.tp T).tape (wq.tp T).drawn (.order b.fn id)) (qi0 ops.size false) (by simp) (λi o _ hi=>by rw[a6] at hi;cases hi) (λk _=>a6 k) (by
   unfold unl;refine qh0 (qk5 _ _) (by simp))
 have h1:=wpAny_sound _ ((wq.tp T).tape (wq.tp T).drawn (.order b.fn id)) _ _ _ (h T);rw[q65,hsz,hL,<- hr] at h1;have h2:=q3B hB rest (λi hi=>by
  rw[hr] at hi;have:=List.mem_range'.1 hi;omega) L _ _ hlt h1
 obtain⟨a',w',hE,hst⟩:=q6G rest L a _ h2 b k cs;refine⟨b.at a' (.inRegion ops rest::k),cs,w',.head (step_region_draw) ?_,hb,hs,hE⟩;have e:qmC (Q.follows .mixedOrders) ops ((wq.tp T).tape (wq.tp T).drawn (.order b.fn id))=L++rest:=by
  simp only[qmC,hm,Bool.true_or,if_true];show qi2 .any ops ops.size _ _ []=_;rw[hL,hr]
 rw[e];exact hst
end
end
section
open Go.Conc Go.ConcN Go.Sim
section
variable[JunkSet]
theorem K0(Z:Ren)(y:qgB):∃x,VR Z x y/\∀k n,y=.int k n->x=y:=by
 cases y with
 | bool b=>exact⟨_,.bool b,λk n e=>by cases e⟩
 | int k n=>exact⟨_,.int k n,λ_ _ _=>rfl⟩
 | string s=>exact⟨_,.string s,λk n e=>by cases e⟩
 | tuple a=>
  have h:∀i:Fin a.size,∃x,VR Z x a[i]:=λi=>let ⟨x,h,_⟩:=K0 Z a[i];⟨x,h⟩;refine⟨.tuple (qq9 λi=>qk2 (h i)),.tuple (by simp) λi x y hx hy=>?_,λk n e=>by cases e⟩;obtain⟨h1,e1⟩:=qgy.1 hx;obtain⟨h2,e2⟩:=qgy.1 hy;rw[<- e1,<- e2,qlj];exact qkj (h ⟨i,h2⟩)
 | agg a=>
  have h:∀i:Fin a.size,∃x,VR Z x a[i]:=λi=>let ⟨x,h,_⟩:=K0 Z a[i];⟨x,h⟩;refine⟨.agg (qq9 λi=>qk2 (h i)),.agg (by simp) λi x y hx hy=>?_,λk n e=>by cases e⟩;obtain⟨h1,e1⟩:=qgy.1 hx;obtain⟨h2,e2⟩:=qgy.1 hy;rw[<- e1,<- e2,qlj];exact qkj (h ⟨i,h2⟩)
 | pointer a=>
  cases a with
  | none=>exact⟨_,.ptrNil,λk n e=>by cases e⟩
  | some a=>exact⟨_,.wild _ rfl,λk n e=>by cases e⟩
 | slice a n c=>
  cases a with
  | none=>exact⟨_,.sliceNil n c,λk n e=>by cases e⟩
  | some a=>exact⟨_,.wild _ rfl,λk n e=>by cases e⟩
 | map r=>
  cases r with
  | none=>exact⟨_,.mapNil,λk n e=>by cases e⟩
  | some a=>exact⟨_,.wild _ rfl,λk n e=>by cases e⟩
 | func f a c=>
  cases f with
  | method n=>exact⟨_,.meth n a c,λk n e=>by cases e⟩
  | _=>exact⟨_,.wild _ rfl,λk n e=>by cases e⟩
 | nilFunc=>exact⟨_,.nilFunc,λk n e=>by cases e⟩
 | nilIface=>exact⟨_,.nilIface,λk n e=>by cases e⟩
 | _=>exact⟨_,.wild _ rfl,λk n e=>by cases e⟩
termination_by SizeOf.sizeOf y
decreasing_by
 all_goals
  subst_vars
  have:=Array.sizeOf_get a i.1 i.2;simp only[Value.agg.sizeOf_spec,Value.tuple.sizeOf_spec];have e:a[i]=a[i.1]:=rfl;rw[e];omega
noncomputable def xG(Z:Ren)(cs:Array qgB):Array qgB:=qq9 λi:Fin cs.size=>qk2 (K0 Z cs[i])
theorem q8j(Z:Ren)(cs:Array qgB):AsR Z (xG Z cs) cs:=by
 refine⟨by simp[xG],λi x y hx hy=>?_⟩;obtain⟨h1,e1⟩:=qgy.1 hx;obtain⟨h2,e2⟩:=qgy.1 hy;rw[<- e1,<- e2];simp only[xG,qlj];exact(qkj (K0 Z cs[i])).1
theorem q1b(Z:Ren)(cs:Array qgB){i:Nat}{k:IntKind}{n:Int}(h:cs[i]?=some (.int k n)):(xG Z cs)[i]?=some (.int k n):=by
 obtain⟨h2,e2⟩:=qgy.1 h;have h1:i<(xG Z cs).size:=by simp[xG,h2]
 rw[qhi h1];simp only[xG,qlj];have:=(qkj (K0 Z cs[i])).2 k n e2;exact congrArg some (this.trans e2)
def JW(kn:Nat->Bool)(n:Nat):Ren:=(qht n).map λi=>if kn i then some i else none
theorem xA{kn:Nat->Bool}{n i j:Nat}:BR (JW kn n) i j↔i<n/\kn i=true/\j=i:=by
 unfold BR JW;rw[qj7];by_cases h:i<n
 ·rw[ql3 h,qip];by_cases hk:kn i=true
  ·rw[if_pos hk];exact⟨λe=>⟨h,hk,by cases e;rfl⟩,λ⟨_,_,e⟩=>by rw[e]⟩
  ·rw[if_neg hk];exact⟨λe=>(by cases e),λ⟨_,h2,_⟩=>absurd h2 hk⟩
 ·rw[qi8 (by rw[List.length_range];omega)];exact⟨λe=>(by cases e),λ⟨h1,_,_⟩=>absurd h1 h⟩
noncomputable def qfH(Z:Ren):Obj->Obj
 | .cells cs e f=>.cells (xG Z cs) e (0,cs.size+f.2)
 | _=>.cells #[] 0 (0,0)
noncomputable def Qc(kn:Nat->Bool)(W:qgx):qgx :=
 { W with heap:=qq9 λi:Fin W.heap.size=>if kn i then qfH (JW kn W.heap.size) W.heap[i] else .cells #[] 0 (0,0) }
theorem jh(kn:Nat->Bool)(W:qgx):(Qc kn W).heap.size=W.heap.size:=by simp[Qc]
theorem vM{kn:Nat->Bool}{W:qgx}{i:Nat}{cs:Array qgB}{e:qh8}{f:Nat × Nat}(hk:kn i=true)(h:W.heap[i]?=some (.cells cs e f)) :(Qc kn W).heap[i]?=some (.cells (xG (JW kn W.heap.size) cs) e (0,cs.size+f.2)):=by
 obtain⟨h1,e1⟩:=qgy.1 h;have h2:i<(Qc kn W).heap.size:=by rw[jh];exact h1
 rw[qhi h2];simp only[Qc,qlj,hk,if_true,Fin.getElem_fin];rw[e1];rfl
theorem q1d{kn:Nat->Bool}{W:qgx}{i:Nat}{o:Obj}(hk:¬ kn i=true)(h:(Qc kn W).heap[i]?=some o):o=.cells #[] 0 (0,0):=by
 obtain⟨h1,e1⟩:=qgy.1 h;rw[<- e1];simp only[Qc,qlj];rw[if_neg hk]
theorem qb3(Q:qh2)(a7:∀i,¬ JunkSet.jk i){kn:Nat->Bool}{W:qgx}(a6:∀i,kn i=true->i<W.heap.size->∃cs e f,W.heap[i]?=some (.cells cs e f)) :WR Q W.heap.size (JW kn W.heap.size) (Qc kn W) W where
 len:=by rw[jh];simp[JW]
 nodup i i' j h h':=by
  obtain⟨_,_,e⟩:=xA.1 h;obtain⟨_,_,e'⟩:=xA.1 h';omega
 lt i j h:=by
  obtain⟨h1,_,e⟩:=xA.1 h;omega
 obj i j o h ho:=by
  obtain⟨h1,hk,rfl⟩:=xA.1 h;obtain⟨cs,e,f,hW⟩:=a6 j hk h1;rw[vM hk hW] at ho;cases ho;refine .inr ⟨a7 j,_,hW,.cells e (q8j _ _) λo h1 h2=>?_⟩;simp only;omega
 low i hi:=by
  by_cases hk:kn i=true
  ·obtain⟨cs,e,f,hW⟩:=a6 i hk hi;refine⟨_,_,_,vM hk hW,λo ho=>?_⟩;have:(xG (JW kn W.heap.size) cs).size=cs.size:=by simp[xG]
   simp only;omega
  ·have h2:i<(Qc kn W).heap.size:=by rw[jh];exact hi
   have:=q1d hk (qhi h2);refine⟨#[],0,(0,0),by rw[qhi h2,this],λo ho=>?_⟩;simp at ho
 env:=rfl
 below i h:=absurd h (a7 i)
 gar i o ho:=by
  right;by_cases hk:kn i=true
  ·have h1:i<W.heap.size:=by rw[<- jh kn W];exact(qgy.1 ho).1
   obtain⟨cs,e,f,hW⟩:=a6 i hk h1;rw[vM hk hW] at ho;cases ho;rfl
  ·rw[q1d hk ho];rfl
end
section
variable[J:JunkSet]{Q P:qh2}{f:qib}{Post:qgB->qgx->Prop}
theorem EL.begin(D:Two Q P)(hok:JunkSet.okf f)(hs:Q.funcs[f]?=P.funcs[f]?)(a7:∀i,¬ JunkSet.jk i){kn:Nat->Bool}{W:qgx}(hg:P.globals.size<W.heap.size)(a8:∀i,i<=P.globals.size->kn i=true)(a6:∀i,kn i=true->i<W.heap.size->∃cs e f,W.heap[i]?=some (.cells cs e f)){aq ap:Array qgB}(ha:AsR (JW kn W.heap.size) aq ap)(h:EL Q P f Post W (G (qhD Q f aq .normal) [qj f]) (Qc kn W)):Ends P Post (solo (G (qhD P f ap .normal) []) W) #[]:=by
 refine E.solo (cl:=λ_=>.mine 0) ?_ λ_=>rfl;have hb:W.heap.size<=(JW kn W.heap.size).length:=by simp[JW]
 refine h (JW kn W.heap.size) _ W (λ_=>.mine 0) ⟨qb3 Q a7 a6,hb,λi hi=>xA.2 ⟨by omega,a8 i hi,rfl⟩,⟨[],rfl⟩,yd P f ap [qj f],Kn D.H hok hs ha,rfl⟩ (λi j _=>rfl) (λ_ _=>rfl)
  ⟨λ_ _ _=>rfl,rfl,rfl,qgA _,λi j hij hi=>?_,qgA _⟩ λ_ _=>rfl
 obtain⟨h1,_,_⟩:=xA.1 hij;omega
theorem q5f{fr:qh4}{g:qgC}{fn:Func}{v:qgB}{w:qgx}(a6:g.frame=fr)(hcs:g.callers=[])(hst:g.status=.running)(a7:g.dying=none)(hin:P.inits.idxOf? fr.fn=none)(hm:fr.mode=.returning)(hn:fr.kind=.normal)(hd:fr.defers=[])(hf:P.funcs[fr.fn]?=some fn)(hr:(qjb fn fr.tmps).run P w=.ok v w)(he:(qjb fn fr.tmps).events P w #[]=#[]) :qi7 P true g w=.ended (.done v) w #[]:=by
 obtain⟨a8,cs,st,dy,off⟩:=g;dsimp only at a6 hcs hst a7;subst a6 hcs hst a7;simp[qi7,qlm,qj5,hn,hd,hf,hr,he,hm,seen,qic,hin]
theorem EL.last{W:qgx}{b:qh4}{a:Act}{todo:List qkD}{fn:Func}{t:Nat}{r:Bool}{u:qgx}(hin:P.inits.idxOf? b.fn=none)(hn:b.kind=.normal)(hd:a.defers=[])(hf:P.funcs[b.fn]?=some fn)(hr:fn.results=#[.tmp t])(hv:a.tmps.getD t qgD=.bool r)(a7:∀w,(∀j,j<W.heap.size->w.heap[j]?=W.heap[j]?)->w.os=W.os->w.output=W.output->W.heap.size<=w.heap.size->Post (.bool r) w) :EL Q P f Post W (G { b.at a todo with mode:=.returning } [qj f]) u:=by
 intro Z g' w cl ⟨hw,a9,hgl,_,gv,hg,e⟩ ho hc hk hm;subst e;have hcs:=hg.callers;obtain⟨fr,cs,st,dy,off⟩:=gv;have hst:st=.running:=hg.st';have a8:dy=none:=hg.dy';subst hst a8;cases hcs with
 | cons h1 h2=>
  cases h2;have a6:=hg.frame;have e1:=a6.fn;have e2:=a6.kind;have e3:=a6.tmps;have e4:=a6.defers;have e5:=a6.mode;obtain⟨b0,tmps,td,b6,mode,kind,ro⟩:=fr;simp only[Frame.at,G] at e1 e2 e3 e4 e5;rw[hd] at e4;cases e4;cases e5;subst e1;subst e2;have h1:=e3.getD t (kz Z);rw[hv] at h1;have h2:tmps.getD t qgD=.bool r:=by
   generalize tmps.getD t qgD=z at h1;cases h1;rfl
  refine E.done rfl λd=>⟨.bool r,w.at d,#[],?_,by simp,?_⟩
  ·exact q5f rfl rfl rfl rfl hin rfl hn rfl hf (by rw[results_tmp hr _ P _];exact congrArg (λz=>Result.ok z (w.at d)) h2) (qn0 hr _ _)
  ·exact a7 _ (λj hj=>hk.old j hj λi hi=>qox λh=>by
    have h3:=hk.inn i j hi h;omega) hk.os hk.output hk.size
end
end
end Go.Co
