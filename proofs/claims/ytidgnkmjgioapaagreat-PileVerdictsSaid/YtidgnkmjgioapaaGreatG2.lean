/-
  Part 2 of the proof. gladstonelaw04.PileVerdicts answers true for every yard, parcel, pile, number and list of numbers that the statement takes, and leaves its arguments as they were. No conditions.
-/
import Derived.Test.YtidgnkmjgioapaaGreatG1
import Derived.Conc.CrowdTrace
import Derived.Conc.CrowdRun
import Derived.Orders
import Derived.WalkKit
import Derived.Conc.WgGenN3
set_option maxRecDepth 100000
set_option maxHeartbeats 8000000
set_option linter.all false
open Array renaming all_eq_true_iff_forall_mem->qjD,any_eq_true'->qrb,getD_eq_getD_getElem?->qjn,getElem?_eq_getElem->qip,getElem?_eq_some_iff->qhB,getElem?_push_lt->qq3,getElem?_setIfInBounds->qj2,getElem?_setIfInBounds_ne->qjj,getElem?_toList->qot,getElem_ofFn->qmo,mem_iff_getElem?->qq0,mem_map->qnh,mem_of_getElem?->qk4,ofFn->qrc,replicate->qj4
open Bool renaming and_eq_true->qio,false_eq_true->qiC,not_eq_true'->qkD,not_false->qmF,not_true->qng,or_eq_true->qky
open Classical renaming byContradiction->qiG,choose->ql5,choose_spec->qlo,em->qnB
open Go renaming Addr->qj5,Calls->qiw,Code->qkk,CommCase->qlb,CommShape->qkA,Deferred->qk6,Dying->qnd,Event->qjs,Frame->qi5,FuncId->qjf,GStep->qks,GoStatus->ql2,Goroutine->qhD,Item->qm1,MapEntry->qlp,MemOp->qqa,Next->qmt,Oper->qjx,Operand->qj0,PanicEntry->qn6,Program->qi4,Question->qk9,Trace->qpb,TypeId->qid,Value->qhC,World->qhy,callDeferred->qk8,deafBehind->ql6,doReturn->qkc,endFatal->qp0,endThrow->qoj,execOp->ql0,exitTo->qnq,gotoIn->qo7,results->qkh,stepG->qjc,step_leave_returned->qqy,step_lone_go->qom,tryRecover->qis,undef->qhE,unwind->qmr,wpOps->qrG,yielded->qjG
open Go.Conc renaming Deaf->qqe,Deaf_other->qm6,Deaf_own->qqk,Good->qsg,awake->qsc,woken->qsd,Goes->qnm,QuitsD->qpl,again_running->qr0,aside_setCell->qmB,crowd->qlq,crowd_pick->qr8,events_results_tmp->qo8,getElem?_append_cases->qnl,noRace_append->qqH,ofEvents_eq->qn3,runT_crowd_go->qni,run_call_body->qnj,semEvents->qms,stepG_add_atomic->qmi,stepG_block->qod,stepG_end->qrC,stepG_load_atomic->qmu,stepG_loop->qr9,stepG_mark0->qpr,stepG_markAt->qpf,stepG_region_end->qhF,stepG_ret'->qkB,stepG_seq->qif,stepG_skip->qjr,stepG_value->qql,touchAt->qnA,woken->qri,woken_quitsD->qn7
open Go.Conc.Goes renaming cases->qlk,rely->qly,running->qkw,stop->qkd
open Go.ConcN renaming Mode->qnk,WgLive->qkF,get_map_set->qlu,get_map_set_same->qmh,pend->qqf,st_waiters->qra,sumTo->qnr,sumTo_upd->qqs,sumTo_upd_out->qr1,upd_ne->qm3,upd_same->ql4
open Go.ConcN.Gen.WgLive renaming cell0->qq2,cell1->qkG
open Go.ConcR renaming DC0->qol,mk->qkp,WgAt->qo9,g_of_ofEvents->qoG,loc_of_ofEvent->qok
open Go.Frame renaming enter->qj1,eval->qmA,finish->qpH,finish_at->qkm,raise->qqi
open Go.GStep renaming after->qjg,go->qqj
open Go.Instr renaming endRound->ql1
open Go.IntKind renaming wrap_i32->qoz,wrap_u64->qoy
open Go.MemAct renaming ofEvent->qjy,touch?->qkj
open Go.MemOp renaming ofEvents->qkf
open Go.Region renaming Mode->qlA,binds->qj8,ready->qil,schedule->qo2,wanted->qiy
open Go.Region.linearise renaming go->qj6
open Go.Sem renaming run->qjk,runT_eq->qiE
open Go.stepG renaming apply->qjp,exec->qla,oper->qox
open List renaming all_eq_true->qje,append_assoc->qkt,append_nil->qo3,cons_append->qi9,getElem?_append_left->qiD,getElem?_append_right->qkb,getElem?_drop->qmn,getElem?_eq_none->qjd,getElem?_map->qjA,getElem?_range->qll,getElem?_take_of_lt->qjC,getElem?_toArray->qou,length_cons->qi3,length_filter_le->qko,map_cons->qle,mem_cons->qjB,mem_filter->qpa,mem_of_getElem?->qih,mem_range->qkg,mem_toArray->qlh,nil_append->qin,not_mem_nil->qk5,range->qiz,range'->qp2,reverse_singleton->qq1
open List.cons renaming injEq->ql3
open Nat renaming eq_zero_or_pos->qpm,le_of_eq->qn5,le_refl->qhz,le_trans->qi1,lt_of_lt_of_le->qia,lt_of_not_le->qpB,lt_or_ge->qk2,lt_succ_self->qnz,mul_lt_mul_of_pos_left->qns,strongRecOn->qp9,zero_add->qib,zero_le->qix
open Option renaming bind_some->qnx,elim_none->qrB,getD_some->qi0,map_eq_some_iff->qmb,map_some->qjo
open Option.some renaming inj->qkH,injEq->qj3
namespace Go.Co
section
open Go.Conc Go.ConcN
inductive Cl where
 | mine (g:Nat)
 | ro (lo:Nat)
 | sync
def blk:Loc->Option Nat
 | .cell a=>some a.block
 | .obj r=>some r
 | _=>none
def qev{l:Loc}(h:l.isMemory=true):∃b,blk l=some b:=by
 cases l<;>first | exact⟨_,rfl⟩ | cases h
structure Tr(cl:Nat->Cl)(n size:Nat)(t:qpb):Prop where
 inb:∀i a b,qnA t i=some a->blk a.loc=some b->b<size
 sync:∀i a b,qnA t i=some a->blk a.loc=some b->cl b=.sync->a.kind≠.plain/\(a.kind=.said->t.g? i=some 0)
 plain:∀i a b,qnA t i=some a->blk a.loc=some b->cl b≠.sync->a.kind=.plain
 mine:∀i a b g,qnA t i=some a->blk a.loc=some b->cl b=.mine g->Knows t g i
 ro:∀i a b lo,qnA t i=some a->blk a.loc=some b->cl b=.ro lo->a.write=true->Knows t 0 i/\∀g,lo<=g->g<n->Knows t g i
 nr:∀said,¬ Race said t
 gs:∀(i:Nat) (op:qqa),t[i]?=some op->op.g<n
def qhl(cl:Nat->Cl)(size g:Nat)(x:Touch):Prop:=∀b,blk x.loc=some b->b<size /\
 ((cl b=.mine g/\x.kind=.plain)\/(∃a,cl b=.ro a/\(g=0\/a<=g)/\x.write=false/\x.kind=.plain)\/(cl b=.sync/\x.kind≠.plain/\(x.kind=.said->g=0)))
def qfe(cl:Nat->Cl)(size g:Nat)(a:qqa):Prop:=a.g=g/\∀x,a.act.touch?=some x->qhl cl size g x
section
variable{cl cl':Nat->Cl}{n size size' g:Nat}{t u:qpb}
def kK{i:Nat}{a:Touch}(h:qnA (t++u) i=some a):(i<t.size/\qnA t i=some a)\/(t.size<=i/\∃c,(t++u)[i]?=some c/\c∈u/\c.act.touch?=some a):=by
 have⟨x,j,b⟩:=touch_of h;rcases qnl j with⟨f,e⟩ | ⟨f,d⟩
 ·exact .inl ⟨f,by rw[touchAt_of e];exact b⟩
 ·exact .inr ⟨f,x,j,d,b⟩
def q2a{i:Nat}{a:qqa}(h:t[i]?=some a):t.g? i=some a.g:=by simp[Trace.g?,h]
def Tr.fresh'(h:Tr cl n size t){m:Nat}(hm:∀i a b,qnA t i=some a->blk a.loc=some b->b<m)(f:∀b,b<m->cl' b=cl b):Tr cl' n size t :=
 ⟨h.inb,λi a b d c e=>h.sync i a b d c (by rw[<- f b (hm i a b d c)];exact e),λi a b d c e=>h.plain i a b d c (by rw[<- f b (hm i a b d c)];exact e),
  λi a b g d c e=>h.mine i a b g d c (by rw[<- f b (hm i a b d c)];exact e),
  λi a b j d c e=>h.ro i a b j d c (by rw[<- f b (hm i a b d c)];exact e),h.nr,h.gs⟩
def Tr.grow(h:Tr cl n size t)(c:size<=size'):Tr cl n size' t :=
 ⟨λi a b e d=>qia (h.inb i a b e d) c,h.sync,h.plain,h.mine,h.ro,h.nr,h.gs⟩
def Tr.step(h:Tr cl n size t)(V:g<n)(o:∀d∈u,qfe cl size g d):Tr cl n size (t++u):=by
 refine⟨λi a b f l=>?_,λi a b f l j=>?_,λi a b f l j=>?_,λi a b U f l j=>?_,λi a b s f l j W=>?_,λB=>?_,λi d R=>?_⟩
 ·rcases kK f with⟨_,f⟩ | ⟨_,d,_,c,q⟩
  ·exact h.inb i a b f l
  ·exact((o d c).2 a q b l).1
 ·rcases kK f with⟨R,f⟩ | ⟨_,d,C,c,q⟩
  ·have⟨p,x⟩:=h.sync i a b f l j;exact⟨p,λe=>by rw[g?_old R];exact x e⟩
  ·rcases((o d c).2 a q b l).2 with⟨k,_⟩ | ⟨s,k,_⟩ | ⟨_,p,x⟩
   ·rw[j] at k;cases k
   ·rw[j] at k;cases k
   ·exact⟨p,λe=>by rw[q2a C,(o d c).1,x e]⟩
 ·rcases kK f with⟨_,f⟩ | ⟨_,d,C,c,q⟩
  ·exact h.plain i a b f l j
  ·rcases((o d c).2 a q b l).2 with⟨_,k⟩ | ⟨s,_,_,_,k⟩ | ⟨k,_⟩
   ·exact k
   ·exact k
   ·exact absurd k j
 ·rcases kK f with⟨_,f⟩ | ⟨_,d,C,c,q⟩
  ·exact(h.mine i a b U f l j).app u
  ·rcases((o d c).2 a q b l).2 with⟨k,_⟩ | ⟨s,k,_⟩ | ⟨k,_⟩
   ·rw[j] at k;cases k;have:=knows_own C
    rwa [(o d c).1] at this
   ·rw[j] at k;cases k
   ·rw[j] at k;cases k
 ·rcases kK f with⟨_,f⟩ | ⟨_,d,C,c,q⟩
  ·have⟨p,x⟩:=h.ro i a b s f l j W;exact⟨p.app u,λU Z Y=>(x U Z Y).app u⟩
  ·rcases((o d c).2 a q b l).2 with⟨k,_⟩ | ⟨s,_,_,k,_⟩ | ⟨k,_⟩
   ·rw[j] at k;cases k
   ·rw[W] at k;cases k
   ·rw[j] at k;cases k
 ·refine qqH (h.nr B) (λd c=>(o d c).1) (λi a T d c b hb hc=>?_);obtain⟨F,D,N,y⟩:=hc;have⟨H,r⟩:=qev D;have G:blk b.loc=some H:=by rw[<- F];exact r
  rcases((o d c).2 b hb H G).2 with⟨k,_⟩ | ⟨s,k,A,p,_⟩ | ⟨k,p,x⟩
  ·exact h.mine i a H g T r k
  ·have S:a.write=true:=N.resolve_right (by simp[p]);have⟨L,I⟩:=h.ro i a H s T r k S;rcases A with rfl | A
   ·exact L
   ·exact I g A V
  ·have⟨L,I⟩:=h.sync i a H T r k;rcases y with y | y | ⟨_,y,O⟩
   ·exact absurd y L
   ·exact absurd y p
   ·have e:=I y;have e':=x O;have⟨z,X,M⟩:=qmb.1 e;have:=knows_own X
    rwa [M,<- e'] at this
 ·rcases qnl R with⟨_,Q⟩ | ⟨_,P⟩
  ·exact h.gs i d Q
  ·rw[(o d P).1];exact V
def vO{x y:qqa}{k:Nat}{p:Nat}(e:x.g=p/\x.act=.go k)(d:y.g=k/\y.act=.start){i:Nat}{a:Touch}(h:qnA (t++#[x,y]) i=some a):i<t.size/\qnA t i=some a:=by
 rcases kK h with h | ⟨_,f,_,b,c⟩
 ·exact h
 ·simp only[qlh,qjB,qk5,or_false] at b;rcases b with rfl | rfl
  ·rw[e.2] at c;cases c
  ·rw[d.2] at c;cases c
def Tr.fork(h:Tr cl n size t)(L:0<n){x y:qqa}(k:x.g=0/\x.act=.go n)(j:y.g=n/\y.act=.start)(H:qqe t 0=0):Tr cl (n+1) size (t++#[x,y]):=by
 have F:qqe t n=0:=Deaf_absent λi d v e=>by have:=h.gs i d v;omega
 refine⟨λi a b f l=>h.inb i a b (vO k j f).2 l,λi a b f l p=>?_,λi a b f l p=>h.plain i a b (vO k j f).2 l p,λi a b g f l p=>(h.mine i a b g (vO k j f).2 l p).app _,
  λi a b C f l p I=>?_,λq=>?_,λi d v=>?_⟩
 ·have⟨v,f⟩:=vO k j f;have⟨w,z⟩:=h.sync i a b f l p;exact⟨w,λe=>by rw[g?_old v];exact z e⟩
 ·have⟨w,z⟩:=h.ro i a b C (vO k j f).2 l p I;refine⟨w.app _,λg D M=>?_⟩;rcases qk2 g n with A | G
  ·exact(z g D A).app _
  ·obtain rfl:g=n:=by omega
   exact fork_knows k j H F w
 ·have r:∀d∈#[x,y],∀b,d.act.touch?=some b->False:=by
   intro d c b o;simp only[qlh,qjB,qk5,or_false] at c;rcases c with rfl | rfl
   ·rw[k.2] at o;cases o
   ·rw[j.2] at o;cases o
  have e:t++#[x,y]=(t++#[x])++#[y]:=by apply Array.ext';simp
  rw[e];exact qqH (g:=n) (qqH (g:=0) (h.nr q) (λd c=>by simp at c;rw[c];exact k.1) (λi a _ d c b o _=>(r d (by simp at c ⊢;exact .inl c) b o).elim))
   (λd c=>by simp at c;rw[c];exact j.1) (λi a _ d c b o _=>(r d (by simp at c ⊢;exact .inr c) b o).elim)
 ·rcases qnl v with⟨_,B⟩ | ⟨_,s⟩
  ·exact Nat.lt_succ_of_lt (h.gs i d B)
  ·simp only[qlh,qjB,qk5,or_false] at s;rcases s with rfl | rfl
   ·rw[k.1];omega
   ·rw[j.1];exact qnz _
def Tr.fork_deaf(h:Tr cl n size t){x y:qqa}(d:x.g=0/\x.act=.go n)(c:y.g=n/\y.act=.start)(g:Nat):qqe (t++#[x,y]) n=0/\qqe (t++#[x,y]) g=qqe t g:=by
 have f:qqe t n=0:=Deaf_absent λi b j e=>by have:=h.gs i b j;omega
 have a:∀g,qqe (t++#[x,y]) g=qqe t g:=λg=>by
  have:=Deaf_append t g [x,y];simp only[List.foldl_cons,List.foldl_nil] at this;rw[show t++#[x,y]=t++[x,y].toArray from rfl,this];simp only[deafStep,d.2,c.2]
 exact⟨by rw[a,f],a g⟩
def Tr.recl(h:Tr cl n size t)(j:∀b,b<size->cl' b=cl b\/(cl b=.mine 0/\cl' b=.ro n)\/(cl b≠.sync/\cl' b=.mine 0/\∀i a,qnA t i=some a->blk a.loc=some b->Knows t 0 i)\/(cl' b=.sync/\∀i a,qnA t i=some a->blk a.loc≠some b)):Tr cl' n size t:=by
 refine⟨h.inb,λi a b f d c=>?_,λi a b f d c=>?_,λi a b g f d c=>?_,λi a b l f d c o=>?_,h.nr,h.gs⟩
 ·rcases j b (h.inb i a b f d) with e | ⟨_,e⟩ | ⟨_,e,_⟩ | ⟨_,e⟩
  ·exact h.sync i a b f d (e ▸ c)
  ·rw[c] at e;cases e
  ·rw[c] at e;cases e
  ·exact absurd d (e i a f)
 ·rcases j b (h.inb i a b f d) with e | ⟨k,_⟩ | ⟨k,_,_⟩ | ⟨e,_⟩
  ·exact h.plain i a b f d (e ▸ c)
  ·exact h.plain i a b f d (by rw[k];simp)
  ·exact h.plain i a b f d k
  ·exact absurd e c
 ·rcases j b (h.inb i a b f d) with e | ⟨_,e⟩ | ⟨_,e,k⟩ | ⟨e,_⟩
  ·exact h.mine i a b g f d (e ▸ c)
  ·rw[c] at e;cases e
  ·rw[c] at e;cases e;exact k i a f d
  ·rw[c] at e;cases e
 ·rcases j b (h.inb i a b f d) with e | ⟨k,e⟩ | ⟨_,e,_⟩ | ⟨e,_⟩
  ·exact h.ro i a b l f d (e ▸ c) o
  ·rw[c] at e;cases e;exact⟨h.mine i a b 0 f d k,λg q p=>by omega⟩
  ·rw[c] at e;cases e
  ·rw[c] at e;cases e
def Hd(a:Nat)(t:qpb):Prop:=∀i g,t.g? i=some g->g≠0->g<a->t.counts i->Knows t 0 i
def Hd.app{f:Nat}(h:Hd f t)(s:∀a∈u,a.g=0\/f<=a.g\/a.act.touch?=none):Hd f (t++u):=by
 intro i g w d l q;have⟨a,p,c⟩:=qmb.1 w;rcases qnl p with⟨v,k⟩ | ⟨_,j⟩
 ·exact(h i g (by rw[q2a k,c]) d l ((counts_old v).1 q)).app u
 ·rcases s a j with e | e | e
  ·rw[c] at e;exact absurd e d
  ·omega
  ·obtain⟨x,r,_⟩:=q;have⟨y,o,b⟩:=touch_of r;rw[p] at o;cases o;rw[e] at b;cases b
def Hd.join{lo:Nat}{a:qj5}(h:Hd lo t){q:Nat}(all:∀g,lo<=g->g≠0->(∃i,t.g? i=some g)->∃r,RelBy a t g r/\r<q)(w:NoRelease a t)(v:t.act? q=some (.mark (.acquire a)))(A:t.g? q=some 0)(y:t.heard q)(m:Nat):Hd m t:=by
 intro i g c e _ p;rcases qk2 g lo with b | f
 ·exact h i g c e b p
 ·have⟨r,j,o⟩:=all g f e ⟨i,c⟩;have d:HappensBefore t r q:=.single (.inr ⟨.marked o (.inr j.act) v (λk _ _=>w k),j.heard,y⟩);have x:i<=r:=Nat.le_of_not_lt λb=>j.after i b c p;have⟨z,s,l⟩:=qmb.1 A;refine⟨q,z,s,l,.inr ?_⟩;rcases qk2 i r with b | f
  ·exact .trans (.single (.inl ⟨b,g,c,j.g⟩)) d
  ·obtain rfl:i=r:=by omega
   exact d
def Tr.known0(h:Tr cl n size t){m:Nat}(k:Hd m t)(hm:n<=m){i:Nat}{a:Touch}{b:Nat}(f:qnA t i=some a)(d:blk a.loc=some b)(l:cl b≠.sync):Knows t 0 i:=by
 have⟨x,c,j⟩:=touch_of f;by_cases e:x.g=0
 ·have:=knows_own c
  rwa [e] at this
 ·refine k i x.g (q2a c) e (qia (h.gs i x c) hm) ⟨a,f,?_,.inl ?_⟩
  ·cases hl:a.loc<;>rw[hl] at d<;>first | rfl | cases d
  ·rw[h.plain i a b f d l];decide
def q9q{m:Nat}(l:Hd m t)(d:∀(i:Nat) (c:qqa),t[i]?=some c->c.g<m):t.HandedOver:=by
 intro i g j b o;have⟨c,h,a⟩:=qmb.1 j;have⟨q,z,f,k,e⟩:=l i g j b (by rw[<- a];exact d i c h) o;refine⟨q,by rw[q2a f,k],?_⟩;rcases e with rfl | e
 ·rw[h] at f;cases f;exact absurd (a.symm.trans k) b
 ·exact e
end
end
section
open Go.Conc Go.ConcN
open Go.ConcR (loc_of_ofEvent deafBehind_cons deafBehind_one g_of_ofEvents ofEvent_loc_mark)
def Ends(P:qi4)(Post:qhC->qhy->Prop)(m:Machine)(t:qpb):Prop :=
 ∃N a o b c,runNT P (N+1) m t=(.ended o b,c)/\runN P N m=.next a/\step P a=.ended o b/\qsg P Post a o b c
section
variable{P:qi4}{Post:qhC->qhy->Prop}{m m':Machine}{t:qpb}{ops:Array qqa}
def Ends.next(b:stepT P m=(.next m',ops))(h:Ends P Post m' (t++ops)):Ends P Post m t:=by
 obtain⟨N,a,o,w,c,k,j,i,e⟩:=h;exact⟨N+1,a,o,w,c,by rw[runNT_succ_next b];exact k,by rw[runN_succ_next b];exact j,i,e⟩
def Ends.ended{o:Outcome}{w:qhy}(a:stepT P m=(.ended o w,ops))(h:qsg P Post m o w (t++ops)):Ends P Post m t :=
 ⟨0,m,o,w,t++ops,by simp[runNT,a],rfl,by simp[step,a],h⟩
end
def EvG(cl:Nat->Cl)(size g:Nat)(e:qjs):Prop:=(∀x,(qjy e).touch?=some x->qhl cl size g x)
def jy(e:qjs):Prop:=e.loc≠.mark .disable/\e.loc≠.mark .enable/\∀a,e.loc≠.mark (.release a)
section
variable{cl:Nat->Cl}{n size g d:Nat}{t:qpb}{es:Array qjs}{fn:qjf}{pos:String}
def JM(h:∀e∈es,EvG cl size g e):∀b∈qkf g fn pos es,qfe cl size g b:=by
 intro b a;rw[qn3] at a;obtain⟨e,c,rfl⟩:=qnh.1 a;exact⟨rfl,h e c⟩
def deafBehind_idle{es:Array qjs}(h:∀e∈es,jy e)(d:Nat):ql6 d es=d:=by
 obtain⟨l⟩:=es;induction l with
 | nil=>rfl
 | cons e l b=>
  rw[deafBehind_cons,deafBehind_one (h e (by simp)).1 (h e (by simp)).2.1];exact b λx a=>h x (by simp at a ⊢;exact .inr a)
def KF{e:qjs}(h:e.mute=true):(qjy e).touch?=none:=by
 obtain⟨a,wr,b⟩:=e;cases a with
 | mark m=>cases m<;>first | rfl | cases h
 | _=>cases h
def Zl{es:Array qjs}(h:∀e∈es,e.mute=true):∀b∈qkf g fn pos es,b.g=g/\b.act.touch?=none:=by
 intro b a;rw[qn3] at a;obtain⟨e,c,rfl⟩:=qnh.1 a;exact⟨rfl,KF (h e c)⟩
end
section
variable{g:Nat}{es:Array qjs}{fn:qjf}{pos:String}
def qbA{a:qj5}{es:Array qjs}(h:∀e∈es,e.mute=true):∀c∈qkf g fn pos es,c.act≠.mark (.release a):=by
 intro c b hm;rw[qn3] at b;obtain⟨x,j,rfl⟩:=qnh.1 b;have k:=h x j;have f:=qok hm;obtain⟨i,wr,l⟩:=x;simp only at f;subst f;cases k
def q1C{a:qj5}{es:Array qjs}(h:∀e∈es,jy e):∀c∈qkf g fn pos es,c.act≠.mark (.release a):=by
 intro c b hm;rw[qn3] at b;obtain⟨x,f,rfl⟩:=qnh.1 b;exact(h x f).2.2 a (qok hm)
end
structure Al(P:qi4)(cl:Nat->Cl)(gs:Array qhD)(w:qhy)(t:qpb)(g0:qhD)(fu:Nat->Nat):Prop where
 main:gs[0]?=some g0
 lv:∀i,1<=i->i<gs.size->∃g,gs[i]?=some g/\qpl P (fu i) (qqe t i) g
 tr:Tr cl gs.size w.heap.size t
 cl0:∀b,w.heap.size<=b->cl b=.mine 0
 d0:qqe t 0=0
 hd:Hd gs.size t
 nor:∀a,NoRelease a t
def E(P:qi4)(Post:qhC->qhy->Prop)(cl:Nat->Cl)(g0:qhD)(w:qhy):Prop :=
 ∀gs sl t fu,Al P cl gs w t g0 fu->Ends P Post (qlq gs w sl) t
section
variable{P:qi4}{Post:qhC->qhy->Prop}{cl:Nat->Cl}{gs:Array qhD}{w:qhy}{t:qpb}{g0:qhD}{fu:Nat->Nat}{sl:Option (Nat × Nat)}
def Al.at(h:Al P cl gs w t g0 fu)(d:Nat):Al P cl gs (w.at d) t g0 fu:=⟨h.main,h.lv,h.tr,h.cl0,h.d0,h.hd,h.nor⟩
def Yh{q d:Nat}{g:qhD}(h:qpl P q d g):awake g:=by
 intro a;rcases h.status with e | e<;>rw[e]<;>simp
def Al.awake(h:Al P cl gs w t g0 fu)(f:g0.status=.running):∀g∈gs,qsc g:=by
 intro g e;have⟨i,b⟩:=qq0.1 e;cases i with
 | zero=>
  rw[h.main] at b;cases b;intro j;rw[f];simp
 | succ i=>
  have⟨k,a,c⟩:=h.lv (i+1) (by omega) (qhB.1 b).1;rw[b] at a;cases a;exact Yh c
def Al.leave(h:Al P cl gs w t g0 fu)(H:g0.status=.running){i:Nat}{g:qhD}(G:1<=i)(C:gs[i]?=some g)(z:g.status=.running) :∃r ops q,runT P (qlq gs w sl) i=(.next (qlq r w sl),ops)/\r.size=gs.size/\q<fu i/\Al P cl r w (t++ops) g0 (upd fu i q):=by
 have B:=(qhB.1 C).1;have⟨I,y,s⟩:=h.lv i G B;rw[C] at y;cases y;cases hf:fu i with
 | zero=>rw[hf] at s;rw[s.1] at z;cases z
 | succ q=>
  rw[hf] at s;rcases s with⟨o,_⟩ | ⟨_,D,es,f,p,s⟩
  ·rw[z] at o;cases o
  ·have v:=qni (P:=P) (sl:=sl) (i:=i) C (by rw[show(i == 0)=false by simp;omega];exact p w);have k:((gs.map (qri P g D w)).setIfInBounds i D).size=gs.size:=by simp
   have b:=Zl (g:=i) (fn:=g.frame.fn) (pos:=g.frame.place) f;refine⟨_,_,q,v,k,qnz q,?_,?_,?_,h.cl0,?_,?_,λa=>(h.nor a).app (qbA f)⟩
   ·rw[qlu _ _ _ _ (by omega),h.main,qjo];unfold qri;split
    ·rw[qr0 _ (.inl H)]
    ·rfl
   ·intro j A F;rw[k] at F;by_cases e:j=i
    ·subst e;refine⟨D,qmh _ _ _ B,?_⟩;rw[ql4,qqk];exact s
    ·have⟨x,o,u⟩:=h.lv j A F;refine⟨x,?_,?_⟩
     ·rw[qlu _ _ _ _ (by omega),o,qjo,qn7 u]
     ·rw[qm3 _ _ e,qm6 t (Ne.symm e) _ λl c=>(b l c).1];exact u
   ·rw[k];exact h.tr.step B λl c=>⟨(b l c).1,λx o=>by rw[(b l c).2] at o;cases o⟩
   ·rw[qm6 t (by omega:i≠(0:Nat)) _ λl c=>(b l c).1];exact h.d0
   ·rw[k];exact h.hd.app λl c=>.inr (.inr (b l c).2)
def q2u{fu:Nat->Nat}{i q n:Nat}(b:i<n)(h:q<fu i):qnr n (λa=>upd fu i q a)<qnr n fu:=by
 have:=qqs fu q id b;simp only[id] at this;have e:(qnr n λa=>fu a)=qnr n fu:=rfl;omega
def E.stepC(M:g0.status=.running)(h:∀d,∃y p es l,qjc P true g0 (w.at d)=.go y p es/\w.heap.size<=p.heap.size/\(∀b,b<w.heap.size->l b=cl b)/\(∀b,p.heap.size<=b->l b=.mine 0)/\(∀e∈es,EvG l p.heap.size 0 e/\jy e)/\E P Post l y p):E P Post cl g0 w:=by
 have L:∀(N:Nat) (gs:Array qhD) (sl:Option (Nat × Nat)) (t:qpb) (fu:Nat->Nat) (G:Nat),qnr gs.size fu=N->Al P cl gs (w.at G) t g0 fu->Ends P Post (qlq gs (w.at G) sl) t:=by
  intro N;induction N using qp9 with
  | _ N W=>
   intro gs sl t fu G hN c;have⟨i,g,d,s,H,Y,o⟩:=qr8 (P:=P) (w:=w.at G) (sl:=sl) (c.awake M) ⟨0,g0,c.main,M⟩;have V:=(qhB.1 H).1;cases i with
   | zero=>
    rw[c.main] at H;cases H;have⟨y,p,es,l,R,u,D,F,v,hE⟩:=h d;have B:qjc P ((0:Nat) == 0) g0 ((w.at G).at d)=.go y p es:=R;have k:=qni (P:=P) (sl:=s) (i:=0) c.main B;rw[k] at o;refine Ends.next o (hE _ _ _ fu ?_)
    have f:((gs.map (qri P g0 y p)).setIfInBounds 0 y).size=gs.size:=by simp
    have A:0<gs.size:=V;have r:∀I∈qkf 0 g0.frame.fn g0.frame.place es,I.g=0:=qoG;refine⟨qmh _ _ _ A,?_,?_,F,?_,?_,λa=>(c.nor a).app (q1C λe C=>(v e C).2)⟩
    ·intro j Q U;rw[f] at U;have⟨x,X,z⟩:=c.lv j Q U;refine⟨x,?_,?_⟩
     ·rw[qlu _ _ _ _ (by omega),X,qjo,qn7 z]
     ·rw[qm6 t (by omega:(0:Nat)≠j) _ r];exact z
    ·rw[f];exact((c.tr.grow u).fresh' (m:=w.heap.size) c.tr.inb D).step A (JM λe C=>(v e C).1)
    ·rw[qqk,deafBehind_idle λe C=>(v e C).2];exact c.d0
    ·rw[f];exact c.hd.app λI O=>.inl (r I O)
   | succ i=>
    have⟨T,ops,q,k,u,Z,S⟩:=(c.at d).leave (sl:=s) M (by omega) H Y;rw[k] at o;exact Ends.next o (W _ (by rw[<- hN,u];exact q2u V Z) T s _ _ d rfl S)
 intro gs sl t fu c;exact L _ gs sl t fu w.drawn rfl c
def E.step(I:g0.status=.running)(h:∀d,∃y r es,qjc P true g0 (w.at d)=.go y r es/\w.heap.size<=r.heap.size/\(∀e∈es,EvG cl r.heap.size 0 e/\jy e)/\E P Post cl y r):E P Post cl g0 w:=by
 have H:∀(N:Nat) (gs:Array qhD) (sl:Option (Nat × Nat)) (t:qpb) (fu:Nat->Nat) (D:Nat),qnr gs.size fu=N->Al P cl gs (w.at D) t g0 fu->Ends P Post (qlq gs (w.at D) sl) t:=by
  intro N;induction N using qp9 with
  | _ N U=>
   intro gs sl t fu D Z c;have⟨i,g,d,s,F,W,o⟩:=qr8 (P:=P) (w:=w.at D) (sl:=sl) (c.awake I) ⟨0,g0,c.main,I⟩;have T:=(qhB.1 F).1;cases i with
   | zero=>
    rw[c.main] at F;cases F;have⟨y,r,es,O,l,u,hE⟩:=h d;have B:qjc P ((0:Nat) == 0) g0 ((w.at D).at d)=.go y r es:=O;have k:=qni (P:=P) (sl:=s) (i:=0) c.main B;rw[k] at o;refine Ends.next o (hE _ _ _ fu ?_)
    have f:((gs.map (qri P g0 y r)).setIfInBounds 0 y).size=gs.size:=by simp
    have A:0<gs.size:=T;have p:∀G∈qkf 0 g0.frame.fn g0.frame.place es,G.g=0:=qoG;refine⟨qmh _ _ _ A,?_,?_,λb Y=>c.cl0 b (qi1 l Y),?_,?_,λa=>(c.nor a).app (q1C λe C=>(u e C).2)⟩
    ·intro j M S;rw[f] at S;have⟨x,V,z⟩:=c.lv j M S;refine⟨x,?_,?_⟩
     ·rw[qlu _ _ _ _ (by omega),V,qjo,qn7 z]
     ·rw[qm6 t (by omega:(0:Nat)≠j) _ p];exact z
    ·rw[f];exact(c.tr.grow l).step A (JM λe C=>(u e C).1)
    ·rw[qqk,deafBehind_idle λe C=>(u e C).2];exact c.d0
    ·rw[f];exact c.hd.app λG L=>.inl (p G L)
   | succ i=>
    have⟨R,ops,q,k,l,X,Q⟩:=(c.at d).leave (sl:=s) I (by omega) F W;rw[k] at o;exact Ends.next o (U _ (by rw[<- Z,l];exact q2u T X) R s _ _ d rfl Q)
 intro gs sl t fu c;exact H _ gs sl t fu w.drawn rfl c
def E.done(O:g0.status=.running)(h:∀d,∃v u es,qjc P true g0 (w.at d)=.ended (.done v) u es/\(∀e∈es,EvG cl w.heap.size 0 e/\jy e)/\Post v u):E P Post cl g0 w:=by
 have H:∀(N:Nat) (gs:Array qhD) (sl:Option (Nat × Nat)) (t:qpb) (fu:Nat->Nat) (s:Nat),qnr gs.size fu=N->Al P cl gs (w.at s) t g0 fu->Ends P Post (qlq gs (w.at s) sl) t:=by
  intro N;induction N using qp9 with
  | _ N X=>
   intro gs sl t fu s hN a;have⟨i,g,d,k,G,Z,o⟩:=qr8 (P:=P) (w:=w.at s) (sl:=sl) (a.awake O) ⟨0,g0,a.main,O⟩;have F:=(qhB.1 G).1;cases i with
   | zero=>
    rw[a.main] at G;cases G;have⟨v,u,es,S,C,hP⟩:=h d;have B:qjc P ((0:Nat) == 0) g0 ((w.at s).at d)=.ended (.done v) u es:=S;have r:0<gs.size:=F;have b:runT P (qlq gs ((w.at s).at d) k) 0=(.ended (.done v) u,qkf 0 g0.frame.fn g0.frame.place es):=by
     have V:=a.main;have⟨_,V⟩:=qhB.1 V;subst V;have M:=swapAt_of_lt r { (default:qhD) with status:=.finished };show runT P { world:=(w.at s).at d,gs:=gs,rest:={ timers:=#[],alone:=none,slice:=k } } 0=_;unfold runT;simp only[M,B,GStep.es]
    rw[b] at o;have p:∀z∈qkf 0 g0.frame.fn g0.frame.place es,z.g=0:=qoG;refine Ends.ended o ⟨v,rfl,hP,?_,?_,⟨?_,rfl⟩,?_⟩
    ·exact(a.tr.step r (JM λe T=>(C e T).1)).nr
    ·exact q9q (a.hd.app λz Q=>.inl (p z Q)) λi z F=>(a.tr.step r (JM λe T=>(C e T).1)).gs i z F
    ·intro x Y;have⟨j,D⟩:=List.mem_iff_getElem?.1 Y;rw[qmn] at D;have f:gs[1+j]?=some x:=by simpa[qlq] using D
     have⟨y,A,l⟩:=a.lv (1+j) (by omega) (qhB.1 f).1;rw[f] at A;cases A;exact⟨_,l.leaves⟩
    ·intro j x D R;have f:gs[j]?=some x:=D;have⟨y,A,l⟩:=a.lv j (by omega) (qhB.1 f).1;rw[f] at A;cases A;refine⟨fu j,?_⟩;have:=qm6 t (Ne.symm R) _ p;unfold qqe at this l;rw[this];exact l.hears _
   | succ i=>
    have⟨W,ops,q,b,I,hq,U⟩:=(a.at d).leave (sl:=k) O (by omega) G Z;rw[b] at o;exact Ends.next o (X _ (by rw[<- hN,I];exact q2u F hq) W k _ _ d rfl U)
 intro gs sl t fu a;exact H _ gs sl t fu w.drawn rfl a
def E.solo(h:E P Post cl g0 w)(j:∀b,cl b=.mine 0):Ends P Post (solo g0 w) #[]:=by
 rw[solo_eq_crowd];refine h #[g0] none #[] (λ_=>0) ⟨rfl,λi o c=>by simp at c;omega,?_,λb _=>j b,rfl,λi g f=>by simp[Trace.g?] at f,λa i c=>by simp[Trace.act?] at c⟩;refine⟨λi a b e=>?_,λi a b e=>?_,λi a b e=>?_,λi a b g e=>?_,λi a b l e=>?_,noRace_nil,λi k c=>by simp at c⟩<;>simp[qnA,Trace.act?] at e
end
end
section
open Go.Conc Go.ConcN Go.Sim
def vf(a:Nat->Cl)(Z:Ren):Prop:=∀i j,BR Z i j->a j=.mine 0
structure kA(M N:Nat)(W:qhy)(Z:Ren)(w:qhy):Prop where
 old:∀j,j<W.heap.size->(∀i,BR Z i j->i<M)->w.heap[j]?=W.heap[j]?
 os:w.os=W.os
 output:w.output=W.output
 size:W.heap.size<=w.heap.size
 inn:∀i j,BR Z i j->M<=i->N<=j
 nsz:N<=w.heap.size
section
variable[JunkSet]{Q P:qi4}{F:qhD->qhy->Prop}{f:qjf}{real:List qi5}{Post:qhC->qhy->Prop}{W:qhy}{M N:Nat}
def kA.step{Z O:Ren}{w k:qhy}(h:kA M N W Z w)(a:Eff M Z O w k):kA M N W O k where
 old j hj hn:=by
  have b:∀i,BR Z i j->i<M:=λi d=>hn i (d.mono a.le);rw[a.keep j (qia hj h.size) b,h.old j hj b]
 os:=a.os.trans h.os
 output:=a.output.trans h.output
 size:=qi1 h.size a.size
 inn i j hij d:=by
  rcases qk2 i Z.length with c | e
  ·exact h.inn i j (BR.back a.le hij c) d
  ·exact qi1 h.nsz (a.fresh i j hij e)
 nsz:=qi1 h.nsz a.size
def kA.at{Z:Ren}{w:qhy}(h:kA M N W Z w)(d:Nat):kA M N W Z (w.at d):=⟨h.old,h.os,h.output,h.size,h.inn,h.nsz⟩
def vf.step{e:Nat->Cl}{Z O:Ren}{w l:qhy}{base:Nat}(h:vf e Z)(k:Eff base Z O w l)(n:∀b,w.heap.size<=b->e b=.mine 0):vf e O:=by
 intro i j a;rcases qk2 i Z.length with c | d
 ·obtain⟨⟨V,rfl⟩,_⟩:=k.le;refine h i j ?_;unfold BR at a ⊢
  rwa [qiD c] at a
 ·exact n j (k.fresh i j a d)
def vz{p:Nat->Cl}{O:Ren}{q w:qhy}{base:Nat}(o:vf p O)(n:WR Q base O q w){e:qjs}(h:vg base O e):EvG p w.heap.size 0 e/\jy e:=by
 cases h with
 | @cell i j l g wr k _ _=>
  refine⟨λx c b d=>?_,by simp[jy],by simp,by simp⟩;have a:x=⟨.cell ⟨j,l,g⟩,wr,.plain⟩:=by cases wr<;>(simp[qjy,qkj] at c;exact c.symm)
  subst a;simp only[blk,qj3] at d;subst d;exact⟨n.lt _ _ k,.inl ⟨o _ _ k,rfl⟩⟩
 | @obj i j wr k _=>
  refine⟨λx c b d=>?_,by simp[jy],by simp,by simp⟩;have a:x=⟨.obj j,wr,.plain⟩:=by cases wr<;>(simp[qjy,qkj] at c;exact c.symm)
  subst a;simp only[blk,qj3] at d;subst d;exact⟨n.lt _ _ k,.inl ⟨o _ _ k,rfl⟩⟩
 | noRoom=>exact⟨λx c=>by simp[qjy,qkj] at c,by simp[jy],by simp,by simp⟩
 | env=>
  refine⟨λx c b d=>?_,by simp[jy],by simp,by simp⟩;have a:x=⟨.output,true,.plain⟩:=by simp[qjy,qkj] at c;exact c.symm
  subst a;cases d
def qae{Z:Ren}{base:Nat}{a w:qhy}(h:WR Q base Z a w)(d:Nat):WR Q base Z a (w.at d):=⟨h.len,h.nodup,h.lt,h.obj,h.low,h.env,h.below,h.gar⟩
def q2v{Z:Ren}{base:Nat}{g b:qhD}{a w:qhy}(h:Sub Q P base F f real Z g a b w)(d:Nat):Sub Q P base F f real Z g a b (w.at d):=⟨h.len,qae h.wr d,h.gl,h.tree,h.stack,h.rel⟩
def vk{Z:Ren}{base:Nat}{g a:qhD}{b w:qhy}(h:Sub Q P base F f real Z g b a w):a.status=.running:=by
 obtain⟨d,c,rfl⟩:=h.rel;exact c.st'
def E.sub{Cp:(Nat->Cl)->Prop}(H:Duo Q P)(hrf:P.follows .rangeFuncRecover=true)(hR:∀fr,qis fr real=none)(hF:∀g u,F g u->g.callers≠[])(r:∀Z g wq v w i,Sub Q P M F f real Z g wq v w->F g wq->vf i Z->(∀b,w.heap.size<=b->i b=.mine 0)->kA M N W Z w->Cp i->E P Post i v w)(hK:∀Z C k a L c I pre j wq w i,qhn Q P M F f real Z C k a L c I pre j wq w->vf i Z->(∀b,w.heap.size<=b->i b=.mine 0)->kA M N W Z w->Cp i ->(∀O G o t y l,Sub Q P M F f real O G o t y->vf l O->(∀b,y.heap.size<=b->l b=.mine 0)->kA M N W O y->Cp l ->Relation.TransGen (Below Q F) (G,o) ({ frame:=qj1 Q C a k,callers:=c::(pre++[qk f]),status:=.running,dying:=none },wq)->E P Post l t y) ->E P Post i { frame:=qj1 P C L k,callers:=I::(j++real),status:=.running,dying:=none } w){Z:Ren}{g v:qhD}{wq w:qhy}{i:Nat->Cl}(h:Sub Q P M F f real Z g wq v w)(ho:vf i Z)(hc:∀b,w.heap.size<=b->i b=.mine 0)(hk:kA M N W Z w)(hp:Cp i):E P Post i v w:=by
 have p:Acc (Relation.TransGen (Below Q F)) (g,wq):=h.tree.acc.transGen;generalize hx:(g,wq)=x at p;induction p generalizing Z g wq v w i with
 | intro x _ T=>
  subst hx;by_cases U:F g wq
  ·exact r Z g wq v w i h U ho hc hk hp
  ·refine E.step (vk h) λd=>?_;have⟨O,g1,q,S,z,es,h1,V,D,h4,_,n⟩:=(q2v h d).stepK H hrf hR U true hF;have s:vf i O:=ho.step (w:=w.at d) D hc;have B:∀b,z.heap.size<=b->i b=.mine 0:=λb hb=>hc b (qi1 D.size hb);have A:kA M N W O z:=kA.step (w:=w.at d) (hk.at d) D;have R:WR Q M O q z:=by
    rcases n with n | ⟨_,_,_,_,_,_,_,_,n,_⟩
    ·exact n.wr
    ·exact n.wr
   refine⟨S,z,es,h1,D.size,λe he=>vz s R (h4 e he),?_⟩;rcases n with n | ⟨C,k,a,L,c,I,pre,j,n,rfl,rfl⟩
   ·exact T (g1,q) (.single V) n s B A hp rfl
   ·exact hK O C k a L c I pre j q z i n s B A hp λσ2 G o t y l s1 s2 s3 s4 X Y=>T (G,o) (Y.tail V) s1 s2 s3 s4 X rfl
end
end
section
open Go.Conc Go.ConcN Go.Sim
abbrev Bs:=Nat->Prop
structure St where
 S:Bs
 g:qhD
 w:qhy
inductive Rk where
 | leaf
 | nd (f:St->Rk)
def Rk.sub:Rk->Rk->Prop
 | _,.leaf=>False
 | x,.nd f=>∃s,x=f s
def Rk.acc:∀r:Rk,Acc Rk.sub r
 | .leaf=>.intro _ λ_ h=>h.elim
 | .nd f=>.intro _ λ_ ⟨s,e⟩=>e ▸ Rk.acc (f s)
def grow(S:Bs)(w a:qhy):Bs:=λb=>S b\/(w.heap.size<=b/\b<a.heap.size)
structure RC(Fz:Bs)(K:qhy->qhy->Prop)(S:Bs)(w w₁:qhy):Prop where
 own:∀b,S b->w₁.heap[b]?=w.heap[b]?
 fz:∀b,Fz b->w₁.heap[b]?=w.heap[b]?
 size:w.heap.size<=w₁.heap.size
 os:w₁.os=w.os
 output:w₁.output=w.output
 k:K w w₁
def EvC(Fz S:Bs)(a:Nat)(e:qjs):Prop :=
 jy e/\(∀m,e.loc=.mark m->m=.noRoom)/\∀x,(qjy e).touch?=some x->∀b,blk x.loc=some b->b<a/\x.kind=.plain/\(S b\/(Fz b/\x.write=false))
structure DC(Fz:Bs)(S:Bs)(w w':qhy)(es:Array qjs):Prop where
 keep:∀b,b<w.heap.size->¬ S b->w'.heap[b]?=w.heap[b]?
 size:w.heap.size<=w'.heap.size
 os:w'.os=w.os
 output:w'.output=w.output
 evs:∀e∈es,EvC Fz (grow S w w') w'.heap.size e
section
variable(P:qi4)(Fz:Bs)(K:qhy->qhy->Prop)(Stop:Bs->qhD->qhy->Prop)
def Cot:Rk->Bs->qhD->qhy->Prop
 | .leaf,S,g,w=>∀w₁,RC Fz K S w w₁->Stop S g w₁
 | .nd f,S,g,w=>g.status=.running/\∀w₁,RC Fz K S w w₁->∃g' w' es,qjc P false g w₁=.go g' w' es/\DC Fz S w₁ w' es/\Cot (f ⟨grow S w₁ w',g',w'⟩) (grow S w₁ w') g' w'
def ql(S:Bs)(g:qhD)(w:qhy):Prop:=∃r,Cot P Fz K Stop r S g w
end
section
variable{P:qi4}{Fz:Bs}{K:qhy->qhy->Prop}{Stop:Bs->qhD->qhy->Prop}{S:Bs}{g:qhD}{w w₁ w₂:qhy}
def RC.trans(f:∀a b c,K a b->K b c->K a c)(h:RC Fz K S w w₁)(d:RC Fz K S w₁ w₂):RC Fz K S w w₂ :=
 ⟨λb e=>(d.own b e).trans (h.own b e),λb e=>(d.fz b e).trans (h.fz b e),qi1 h.size d.size,d.os.trans h.os,d.output.trans h.output,f _ _ _ h.k d.k⟩
def ql.stop(h:∀w₁,RC Fz K S w w₁->Stop S g w₁):ql P Fz K Stop S g w:=⟨.leaf,h⟩
def ql.step(e:g.status=.running)(h:∀w₁,RC Fz K S w w₁->∃b a d,qjc P false g w₁=.go b a d/\DC Fz S w₁ a d/\ql P Fz K Stop (grow S w₁ a) b a):ql P Fz K Stop S g w:=by
 classical
 refine⟨.nd λs=>if c:∃r,Cot P Fz K Stop r s.S s.g s.w then ql5 c else .leaf,e,λw₁ h₁=>?_⟩;have⟨b,a,d,j,i,f⟩:=h w₁ h₁;refine⟨b,a,d,j,i,?_⟩;have c:∃r,Cot P Fz K Stop r (grow S w₁ a) b a:=f;dsimp only;rw[dif_pos c];exact qlo c
def Cot.rely(e:∀a b c,K a b->K b c->K a c){r:Rk}(h:Cot P Fz K Stop r S g w)(d:RC Fz K S w w₁):Cot P Fz K Stop r S g w₁:=by
 cases r with
 | leaf=>exact λw₂ h₂=>h w₂ (d.trans e h₂)
 | nd f=>exact⟨h.1,λw₂ h₂=>h.2 w₂ (d.trans e h₂)⟩
def ql.rely(e:∀a b c,K a b->K b c->K a c)(h:ql P Fz K Stop S g w)(d:RC Fz K S w w₁):ql P Fz K Stop S g w₁:=let ⟨r,h⟩:=h;⟨r,h.rely e d⟩
def q5j(S:Bs)(w:qhy):DC Fz S w w #[]:=⟨λ_ _ _=>rfl,qhz _,rfl,rfl,by simp⟩
def xj(S:Bs)(w:qhy):grow S w w=S:=by
 funext b
 simp only[grow,eq_iff_iff];exact⟨λh=>h.elim id λ⟨a,b⟩=>by omega,.inl⟩
def ql.still{a:qhD}(b:g.status=.running)(h:∀w₁,RC Fz K S w w₁->qjc P false g w₁=.go a w₁ #[])(c:∀w₁,RC Fz K S w w₁->ql P Fz K Stop S a w₁):ql P Fz K Stop S g w :=
 .step b λw₁ h₁=>⟨a,w₁,#[],h w₁ h₁,q5j S w₁,by rw[xj];exact c w₁ h₁⟩
end
end
end Go.Co
namespace Go.Sim
section
section
variable[JunkSet]{P:qi4}{c1 c2:qi5}{e1 e2:List qi5}
def Und(c1 c2:qi5)(e1 e2:List qi5)(r b:qks):Prop:=∀g1 u1 a,r=.go g1 u1 a->Live g1->q8h g1 ->
 (∃pre,g1.callers=pre++c1::e1/\b=.go { g1 with callers:=pre++c2::e2 } u1 a) \/
 (∃W:qi5->qi5,((∃v,W=(·.finish v))\/W=id)/\g1.frame=W c1/\g1.callers=e1/\b=.go { g1 with frame:=W c2,callers:=e2 } u1 a) \/
 (∃c,g1.frame=c1.raise c/\g1.callers=e1)
def vN{r c:qks}{d:Array qjs}(h:Und c1 c2 e1 e2 r c):Und c1 c2 e1 e2 (qjg d r) (qjg d c):=λn u1 l e g f=>by
 obtain⟨o,k,rfl⟩:=ja e;rcases h _ _ _ k g f with⟨pre,a,b⟩ | ⟨W,a,b,j,i⟩ | a
 ·exact .inl ⟨pre,a,by rw[b];rfl⟩
 ·exact .inr (.inl ⟨W,a,b,j,by rw[i];rfl⟩)
 ·exact .inr (.inr a)
def z6{o:Outcome}{u:qhy}{b:Array qjs}{a:qks}:Und c1 c2 e1 e2 (.ended o u b) a:=λ_ _ _ e _ _=>by cases e
def Qc{r b:qks}(h:∀g u a,r≠.go g u a):Und c1 c2 e1 e2 r b:=λg u a e _ _=>absurd e (h g u a)
def qdi{g:qhD}{u:qhy}{c:Array qjs}{a:qks}(h:¬ Live g):Und c1 c2 e1 e2 (.go g u c) a:=λ_ _ _ e b _=>by cases e;exact absurd b h
def q3z{c:qi5}{d:List qi5}{m:String}{u:qhy}{a:qks}:Und c1 c2 e1 e2 (qp0 P c d none m u) a:=λf u1 g e b _=>absurd b.2 (zd e)
def K8{b:qi5}{m:String}{u:qhy}{a:qks}:Und c1 c2 e1 e2 (qoj b m u) a:=qdi λh=>by cases h.2
def yC{c:qi5}{pre:List qi5}{b:ql2}{f:Option qnd}{a:Option (Array qlb × qkA)}{u:qhy}{d:Array qjs} :Und c1 c2 e1 e2 (.go { frame:=c,callers:=pre++c1::e1,status:=b,dying:=f,offers:=a } u d) (.go { frame:=c,callers:=pre++c2::e2,status:=b,dying:=f,offers:=a } u d):=λ_ _ _ e _ _=>by
 cases e;exact .inl ⟨pre,rfl,rfl⟩
def q7n{d a:qi5}{pre:List qi5}{c:ql2}{f:Option qnd}{b:Option (Array qlb × qkA)}{u:qhy}{e:Array qjs} :Und c1 c2 e1 e2 (.go { frame:=d,callers:=a::(pre++c1::e1),status:=c,dying:=f,offers:=b } u e) (.go { frame:=d,callers:=a::(pre++c2::e2),status:=c,dying:=f,offers:=b } u e) :=
 yC (pre:=a::pre)
def qfh{d a:qi5}{X pre:List qi5}{c:ql2}{g:Option qnd}{b:Option (Array qlb × qkA)}{u:qhy}{f:Array qjs} :Und c1 c2 e1 e2 (.go { frame:=d,callers:=X++a::(pre++c1::e1),status:=c,dying:=g,offers:=b } u f) (.go { frame:=d,callers:=X++a::(pre++c2::e2),status:=c,dying:=g,offers:=b } u f):=λ_ _ _ e _ _=>by
 cases e;exact .inl ⟨X++a::pre,by simp,by simp⟩
def qai{c:qi5}{l:List qi5}{d:ql2}{j:Option qnd}{b:Option (Array qlb × qkA)}{u:qhy}{i:Array qjs}{f:qks}{x:String}{a:Array qhC}{k:List qm1}(h:c.todo=.extern x a::k):Und c1 c2 e1 e2 (.go { frame:=c,callers:=l,status:=d,dying:=j,offers:=b } u i) f:=λ_ _ _ e _ g=>by
 cases e;exact absurd h (g _ _ _)
structure YA(c1 c2:qi5)(e1 e2:List qi5):Prop where
 m1:c1.mode=.run
 m2:c2.mode=.run
 r1:∀fr,qis fr (c1::e1)=none
 r2:∀fr,qis fr (c2::e2)=none
def q4u{c:qi5}{e:List qi5}(hm:c.mode=.run)(b:∀a,qis a e=none)(a:qi5):qis a (c::e)=none:=by
 unfold qis;cases a.kind with
 | deferred=>simp[hm]
 | wrapped=>simp[b]
 | _=>rfl
def Ka(e:YA c1 c2 e1 e2):∀(pre:List qi5) (b:qi5),(qis b (pre++c1::e1)=none/\qis b (pre++c2::e2)=none)\/∃v a,qis b (pre++c1::e1)=some (v,a++c1::e1)/\qis b (pre++c2::e2)=some (v,a++c2::e2):=by
 intro pre;induction pre with
 | nil=>intro b;exact .inl ⟨e.r1 b,e.r2 b⟩
 | cons p pre f=>
  intro b;simp only[qi9];unfold qis;cases hk:b.kind with
  | deferred=>
   dsimp only;split
   ·exact .inr ⟨_,_::pre,rfl,rfl⟩
   ·exact .inl ⟨rfl,rfl⟩
  | wrapped=>
   dsimp only;rcases f p with⟨d,c⟩ | ⟨v,a,d,c⟩
   ·rw[d,c];exact .inl ⟨rfl,rfl⟩
   ·rw[d,c];exact .inr ⟨v,p::a,rfl,rfl⟩
  | _=>exact .inl ⟨rfl,rfl⟩
def Ju(c:YA c1 c2 e1 e2){a:qi5}{pre:List qi5}(b d:Bool)(v:qhC)(u:qhy):Und c1 c2 e1 e2 (qkc P b a (pre++c1::e1) none v u) (qkc P d a (pre++c2::e2) none v u):=by
 unfold qkc;cases pre with
 | nil=>
  simp only[qin,c.m1,c.m2];intro f u1 g e _ _;cases hk:a.kind<;>simp only[hk] at e ⊢<;>cases e
  ·exact .inr (.inl ⟨(·.finish v),.inl ⟨v,rfl⟩,rfl,rfl,rfl⟩)
  ·exact .inr (.inl ⟨id,.inr rfl,rfl,rfl,rfl⟩)
  ·exact .inr (.inl ⟨(·.finish v),.inl ⟨v,rfl⟩,rfl,rfl,rfl⟩)
  ·exact .inr (.inl ⟨id,.inr rfl,rfl,rfl,rfl⟩)
  ·exact .inr (.inl ⟨id,.inr rfl,rfl,rfl,rfl⟩)
 | cons p pre=>
  simp only[qi9];split<;>exact yC
def qaj{a:qi5}{pre:List qi5}(g:Nat)(u:qhy):Und c1 c2 e1 e2 (early P a (pre++c1::e1) none g u) (early P a (pre++c2::e2) none g u):=by
 unfold early;dsimp only
 repeat' split
 all_goals first
  | exact yC
  | exact z6
  | exact qfh
def Qd(hrf:P.follows .rangeFuncRecover=true)(h:YA c1 c2 e1 e2){b:qi5}{pre:List qi5}(s:Sem qmt)(u:qhy):Und c1 c2 e1 e2 (qjp P true b (pre++c1::e1) none s u) (qjp P true b (pre++c2::e2) none s u):=by
 unfold qjp;simp only[if_true,qiE,hrf];refine vN ?_;cases s.run P u with
 | ok a w=>
  cases a with
  | recover=>
   rcases Ka h pre b with⟨g,f⟩ | ⟨v,c,g,f⟩<;>cases hro:b.roundOf<;>simp only[g,f,hro]<;>exact yC
  | stack r i=>
   dsimp only;split
   ·exact qai rfl
   ·exact qai rfl
  | spawn d=>
   dsimp only
   repeat' split
   all_goals first
    | exact K8
    | exact Qc (λ_ _ _ e=>by cases e)
  | _=>
   dsimp only
   repeat' split
   all_goals first
    | exact yC
    | exact q7n
    | exact Qc (λ_ _ _ e=>by cases e)
 | halt x w=>
  cases x with
  | fatal m=>exact q3z
  | throw m=>exact K8
  | unsupported x=>cases x<;>first | exact qaj _ _ | exact z6
  | _=>first | exact yC | exact z6
def q3A(s:YA c1 c2 e1 e2){f:qi5}{pre:List qi5}(d:qk6)(u:qhy):Und c1 c2 e1 e2 (qk8 P f (pre++c1::e1) none d u) (qk8 P f (pre++c2::e2) none d u):=by
 unfold qk8;by_cases g:(kU d.target && kT f.mode)=true
 ·have:∀(a b j:qks),(∃o u p,a=.ended o u p)->Und c1 c2 e1 e2 (if(kU d.target && kT f.mode)=true then a else b) j:=λa b j ⟨o,u,p,e⟩=>by
   rw[if_pos g,e];exact z6
  exact this _ _ _ ⟨_,_,_,rfl⟩
 have h:∀(a b q i:qks),Und c1 c2 e1 e2 b i->Und c1 c2 e1 e2 (if(kU d.target && kT f.mode)=true then a else b) (if(kU d.target && kT f.mode)=true then q else i):=λa b q i r=>by rw[if_neg g,if_neg g];exact r
 refine h _ _ _ _ ?_;simp only[qiE];refine vN ?_;cases qjk P (invoke d.target d.args) u with
 | ok a w=>
  cases a with
  | recover=>
   dsimp only;rcases Ka s pre f with⟨n,l⟩ | ⟨v,k,n,l⟩<;>rw[n,l]<;>cases f.mode<;>exact yC
  | coroswitch c e=>cases e<;>first | exact z6 | exact Qc (λ_ _ _ e=>by cases e)
  | alone on v=>cases on<;>first | exact z6 | exact Qc (λ_ _ _ e=>by cases e)
  | _=>
   first
    | exact yC
    | exact q7n
    | exact z6
    | exact Qc (λ_ _ _ e=>by cases e)
 | halt x w=>
  cases x with
  | fatal m=>exact q3z
  | throw m=>exact K8
  | _=>first | exact yC | exact z6
def q19(a:YA c1 c2 e1 e2){c:qi5}{pre:List qi5}(b d:Bool)(u:qhy):Und c1 c2 e1 e2 (qmr P b c (pre++c1::e1) none u) (qmr P d c (pre++c2::e2) none u):=by
 unfold qmr;split
 ·simp only[qiE];refine vN ?_;split
  ·exact yC
  ·exact z6
 ·exact q3A a _ _
 ·split
  ·exact z6
  ·split
   ·exact z6
   ·cases pre with
    | nil=>
     intro f u1 g e _ _;cases e;exact .inr (.inr ⟨_,rfl,rfl⟩)
    | cons p pre=>exact yC
  ·split
   ·exact Ju a _ _ _ _
   ·simp only[qiE];refine vN ?_;split
    ·exact Ju a _ _ _ _
    all_goals exact z6
def qdh(hrf:P.follows .rangeFuncRecover=true)(c:YA c1 c2 e1 e2){fr:qi5}{pre:List qi5}(b f:Bool)(u:qhy) :Und c1 c2 e1 e2 (qla P b true fr (pre++c1::e1) none u) (qla P f true fr (pre++c2::e2) none u):=by
 have a:∀(j:Bool) (e:Option qkk) (s d:String),Und c1 c2 e1 e2 (match fr.roundOf with
   | none=>if j=true then .go { frame:={ fr with mode:=.returning },callers:=pre++c1::e1,status:=.running,dying:=none } u else .ended (.stuck s (fr.pos P)) u
   | some l=>
    let (r,es):=(ql1 l e).runT P u #[]
    qjg (seen P fr.fn es) <| match r with
    | .ok v w=>qkc P b fr (pre++c1::e1) none v w
    | .halt _ w=>.ended (.stuck d (fr.pos P)) w) (match fr.roundOf with
   | none=>if j=true then .go { frame:={ fr with mode:=.returning },callers:=pre++c2::e2,status:=.running,dying:=none } u else .ended (.stuck s (fr.pos P)) u
   | some l=>
    let (r,es):=(ql1 l e).runT P u #[]
    qjg (seen P fr.fn es) <| match r with
    | .ok v w=>qkc P f fr (pre++c2::e2) none v w
    | .halt _ w=>.ended (.stuck d (fr.pos P)) w):=λj e s d=>by
  split
  ·split
   ·exact yC
   ·exact z6
  ·simp only[qiE];refine vN ?_;split
   ·exact Ju c _ _ _ _
   ·exact z6
 unfold qla;dsimp only;split
 ·exact a true _ _ _
 ·exact a true _ _ _
 all_goals first
  | exact yC
  | exact z6
  | exact Qd hrf c _ _
  | (
    generalize qnq _ _=X;cases X
    ·exact a false _ _ _
    ·exact yC)
  | (
    generalize qo7 _ _=X;cases X
    ·exact a false _ _ _
    ·exact yC)
  | (
    unfold qox
    repeat' split
    all_goals first
     | exact yC
     | exact z6
     | exact Qd hrf c _ _)
  | (
    simp only[qiE];refine vN ?_
    repeat' split
    all_goals first
     | exact yC
     | exact z6
     | exact Qd hrf c _ _)
  | (
    repeat' split
    all_goals first
     | exact yC
     | exact z6
     | exact Qd hrf c _ _)
  | (
    generalize Extern.next _=X
    cases X
    ·exact z6
    ·exact Qd hrf c _ _)
def q5G(hrf:P.follows .rangeFuncRecover=true)(c:YA c1 c2 e1 e2){g:qhD}{pre:List qi5}(h:g.callers=pre++c1::e1)(d:g.dying=none)(b a:Bool)(u:qhy) :Und c1 c2 e1 e2 (qjc P b g u true) (qjc P a { g with callers:=pre++c2::e2 } u true):=by
 obtain⟨f,k,i,j,e⟩:=g;dsimp only at h d;subst d;subst h;unfold qjc;dsimp only;cases f.mode with
 | run=>exact qdh hrf c b a u
 | returning=>exact q19 c b a u
 | panicking l=>exact q19 c b a u
end
end
section
def tl(k:List qm1)(D:List qk6)(fr:qi5):qi5:={ fr with todo:=fr.todo++k,defers:=fr.defers++D }
def qfb:qm1->Bool
 | .call .. | .extern ..=>false
 | _=>true
structure Pc(fr:qi5):Prop where
 mode:fr.mode=.run
 round:fr.roundOf=none
 todo:∃x l,fr.todo=x::l/\qfb x=true
section
variable[JunkSet]{P:qi4}{k:List qm1}{D:List qk6}{e1 e2:List qi5}
def Top(k:List qm1)(D:List qk6)(e1 e2:List qi5)(r b:qks):Prop:=∀g1 u1 a,r=.go g1 u1 a->Live g1->q8h g1 ->
 (g1.callers=e1/\g1.frame.mode=.run/\g1.frame.roundOf=none/\b=.go { g1 with frame:=tl k D g1.frame,callers:=e2 } u1 a) \/
 (∃pre c,g1.callers=pre++c::e1/\Pc c/\b=.go { g1 with callers:=pre++tl k D c::e2 } u1 a) \/
 (g1.callers=e1/\g1.frame.mode≠.run)
def Kc{r f:qks}{g:Array qjs}(h:Top k D e1 e2 r f):Top k D e1 e2 (qjg g r) (qjg g f):=λp u1 o e j i=>by
 obtain⟨q,n,rfl⟩:=ja e;rcases h _ _ _ n j i with⟨a,d,b,l⟩ | ⟨pre,c,a,d,b⟩ | a
 ·exact .inl ⟨a,d,b,by rw[l];rfl⟩
 ·exact .inr (.inl ⟨pre,c,a,d,by rw[b];rfl⟩)
 ·exact .inr (.inr a)
def j6{o:Outcome}{u:qhy}{b:Array qjs}{a:qks}:Top k D e1 e2 (.ended o u b) a:=λ_ _ _ e _ _=>by cases e
def q3E{r b:qks}(h:∀g u a,r≠.go g u a):Top k D e1 e2 r b:=λg u a e _ _=>absurd e (h g u a)
def YS{g:qhD}{u:qhy}{c:Array qjs}{a:qks}(h:¬ Live g):Top k D e1 e2 (.go g u c) a:=λ_ _ _ e b _=>by cases e;exact absurd b h
def qaq{c:qi5}{d:List qi5}{m:String}{u:qhy}{a:qks}:Top k D e1 e2 (qp0 P c d none m u) a:=λf u1 g e b _=>absurd b.2 (zd e)
def q3D{b:qi5}{m:String}{u:qhy}{a:qks}:Top k D e1 e2 (qoj b m u) a:=YS λh=>by cases h.2
def qap{fr:qi5}(hm:fr.mode=.run)(g:fr.roundOf=none){c:ql2}{f:Option qnd}{a:Option (Array qlb × qkA)}{u:qhy}{d:Array qjs}{b:qi5}(e:b=tl k D fr) :Top k D e1 e2 (.go { frame:=fr,callers:=e1,status:=c,dying:=f,offers:=a } u d) (.go { frame:=b,callers:=e2,status:=c,dying:=f,offers:=a } u d):=λ_ _ _ h _ _=>by
 cases h;exact .inl ⟨rfl,hm,g,by rw[e]⟩
def ZT{d c:qi5}(g:Pc c){X:List qi5}{b:ql2}{f:Option qnd}{a:Option (Array qlb × qkA)}{u:qhy}{e:Array qjs} :Top k D e1 e2 (.go { frame:=d,callers:=X++c::e1,status:=b,dying:=f,offers:=a } u e) (.go { frame:=d,callers:=X++tl k D c::e2,status:=b,dying:=f,offers:=a } u e):=λ_ _ _ h _ _=>by
 cases h;exact .inr (.inl ⟨X,c,rfl,g,rfl⟩)
def qfj{c:qi5}{n:List qi5}{d:ql2}{j:Option qnd}{b:Option (Array qlb × qkA)}{u:qhy}{i:Array qjs}{f:qks}{x:String}{a:Array qhC}{l:List qm1}(h:c.todo=.extern x a::l):Top k D e1 e2 (.go { frame:=c,callers:=n,status:=d,dying:=j,offers:=b } u i) f:=λ_ _ _ e _ g=>by
 cases e;exact absurd h (g _ _ _)
def q2r{b:qi5}(hm:b.mode≠.run){c:ql2}{f:Option qnd}{a:Option (Array qlb × qkA)}{u:qhy}{e:Array qjs}{d:qks} :Top k D e1 e2 (.go { frame:=b,callers:=e1,status:=c,dying:=f,offers:=a } u e) d:=λ_ _ _ h _ _=>by
 cases h;exact .inr (.inr ⟨rfl,hm⟩)
def kL(a:qi5)(b:List qn6):(a.raise b).mode≠.run:=by
 unfold qqi;split<;>simp
def qdk(a:qi5):(tl k D a).eval=a.eval:=by funext x;cases x<;>rfl
def q1d{a:qi5}(h:Pc a)(v:qhC):(tl k D a).finish v=tl k D (a.finish v):=by
 have⟨x,l,e,i⟩:=h.todo;obtain⟨p,d,c,b,f,g,o⟩:=a;dsimp only at e;subst e;unfold tl qpH;cases x with
 | inRegion j n=>cases n<;>rfl
 | call=>cases i
 | extern=>cases i
 | _=>rfl
def QD(a:qi5)(v:qhC):(a.finish v).mode=a.mode/\(a.finish v).kind=a.kind/\(a.finish v).roundOf=a.roundOf:=by
 unfold qpH;split<;>exact⟨rfl,rfl,rfl⟩
def Kb{b:qi5}(h:Pc b)(v:qhC){c:ql2}{e:Option qnd}{a:Option (Array qlb × qkA)}{u:qhy}{d:Array qjs} :Top k D e1 e2 (.go { frame:=b.finish v,callers:=e1,status:=c,dying:=e,offers:=a } u d) (.go { frame:=(tl k D b).finish v,callers:=e2,status:=c,dying:=e,offers:=a } u d):=by
 have⟨g,i,f⟩:=QD b v;exact qap (g.trans h.mode) (f.trans h.round) (q1d h v)
def qar{a:qi5}(h:Pc a)(g:Nat)(u:qhy):Top k D e1 e2 (early P a e1 none g u) (early P (tl k D a) e2 none g u):=by
 have c:∀{u:qhy} {es:Array qjs},Top k D e1 e2 (.go { frame:=a,callers:=e1,status:=.running,dying:=none } u es) (.go { frame:=tl k D a,callers:=e2,status:=.running,dying:=none } u es):=qap h.mode h.round rfl;unfold early;have b:(tl k D a).kind=a.kind:=rfl;dsimp only;simp only[b]
 repeat' split
 all_goals first
  | exact c
  | exact j6
  | exact ZT h
def q3F(hrf:P.follows .rangeFuncRecover=true)(p:∀fr,qis fr e1=none)(o:∀fr,qis fr e2=none){fr:qi5}(h:Pc fr)(s:Sem qmt)(u:qhy):Top k D e1 e2 (qjp P true fr e1 none s u) (qjp P true (tl k D fr) e2 none s u):=by
 obtain⟨fn,tmps,todo,defers,mode,kind,I⟩:=fr;obtain⟨B,A,z⟩:=h;dsimp only at B A;subst B A;obtain⟨fr,c⟩:∃fr:qi5,fr={ fn,tmps,todo,defers,mode:=.run,kind,roundOf:=none }:=⟨_,rfl⟩;have h:Pc { fn,tmps,todo,defers,mode:=.run,kind,roundOf:=none }:=⟨rfl,rfl,z⟩;rw[<- c] at h ⊢;have⟨x,l,e,j⟩:=h.todo;have n:(tl k D fr).roundOf=none:=h.round;have q:(tl k D fr).kind=fr.kind:=rfl;have y:(tl k D fr).fn=fr.fn:=rfl;have i:(tl k D fr).todo=x::(l++k):=by show fr.todo++k=_;rw[e];rfl
 have F:∀d:qk6,({ (tl k D fr) with defers:=d::(tl k D fr).defers }:qi5)=tl k D { fr with defers:=d::fr.defers }:=λd=>rfl;unfold qjp;simp only[if_true,qiE,hrf,h.round,n,q,y];refine Kc ?_;cases s.run P u with
 | ok a w=>
  cases a with
  | recover=>
   simp only[p,o];exact Kb h _
  | stack r C=>
   dsimp only;rw[e,i];cases x<;>first | (cases j;done) | exact qfj rfl
  | spawn d=>
   dsimp only
   repeat' split
   all_goals first
    | exact q3D
    | exact q3E (λ_ _ _ e=>by cases e)
  | value v=>exact Kb h v
  | skip=>exact Kb h _
  | defer d=>
   subst c;have G:Pc { fn,tmps,todo,defers:=d::defers,mode:=.run,kind,roundOf:=none }:=⟨rfl,rfl,z⟩;exact Kb (k:=k) (D:=D) G qhE
  | enter f g=>
   dsimp only;rw[e,i];cases x<;>first | (cases j;done) | exact(ZT (X:=[]) h)
  | callThen d r C wr=>
   dsimp only;rw[e,i];cases x<;>first | (cases j;done) | exact(ZT (X:=[]) h)
  | row r g=>
   dsimp only;rw[e,i];cases x<;>first | (cases j;done) | exact(ZT (X:=[]) h)
  | round l f H M L=>exact(ZT (X:=[]) h)
  | sleep t=>exact YS λb=>by cases b.1
  | _=>exact q3E (λ_ _ _ e=>by cases e)
 | halt x w=>
  cases x with
  | fatal m=>exact qaq
  | throw m=>exact q3D
  | unsupported x=>cases x<;>first | exact qar h _ _ | exact j6
  | panic v=>exact q2r (kL _ _)
  | goexit=>exact q2r (kL _ _)
  | blocked=>exact YS λb=>by cases b.1
  | waiting=>exact YS λb=>by cases b.1
  | _=>exact j6
def ZL{id:Nat}{b:List qm1}:∀{l:List qm1},qnq id l=some b->qnq id (l++k)=some (b++k)
 | [],h=>by simp[qnq] at h
 | x::l,h=>by
  cases x with
  | inBlock c=>
   simp only[qnq,qi9] at h ⊢;split
   ·rename_i a;rw[if_pos a] at h;cases h;rfl
   ·rename_i a;rw[if_neg a] at h;exact ZL h
  | _=>simp only[qnq,qi9] at h ⊢;exact ZL h
def ZG{id:Nat}{b:List qm1}:∀{l:List qm1},qo7 id l=some b->qo7 id (l++k)=some (b++k)
 | [],h=>by simp[qo7] at h
 | x::l,h=>by
  cases x with
  | inScope a=>
   simp only[qo7,qi9] at h ⊢;cases hf:findLabel a id with
   | none=>rw[hf] at h;exact ZG h
   | some r=>rw[hf] at h;cases h;rfl
  | _=>simp only[qo7,qi9] at h ⊢;exact ZG h
def qas(hrf:P.follows .rangeFuncRecover=true)(B:∀fr,qis fr e1=none)(A:∀fr,qis fr e2=none){g:qhD}(h:Pc g.frame)(Q:g.callers=e1)(O:g.dying=none)(b b':Bool)(u:qhy) :Top k D e1 e2 (qjc P b g u true) (qjc P b' { g with frame:=tl k D g.frame,callers:=e2 } u true):=by
 obtain⟨⟨fn,tmps,todo,defers,mode,kind,ro⟩,G,st,dy,off⟩:=g;dsimp only at h Q O;subst O;subst Q;obtain⟨T,S,X⟩:=h;dsimp only at T S;subst T S;obtain⟨fr,C⟩:∃fr:qi5,fr={ fn,tmps,todo,defers,mode:=.run,kind,roundOf:=none }:=⟨_,rfl⟩;have h:Pc { fn,tmps,todo,defers,mode:=.run,kind,roundOf:=none }:=⟨rfl,rfl,X⟩;rw[<- C] at h ⊢;have⟨x,l,e,N⟩:=h.todo;have hm:=h.mode;have p:=h.round;have o:∀(t:List qm1) {st:ql2} {dy:Option qnd} {off:Option (Array qlb × qkA)} {u:qhy} {es:Array qjs},
   Top k D G e2 (.go { frame:={ fr with todo:=t },callers:=G,status:=st,dying:=dy,offers:=off } u es) (.go { frame:={ (tl k D fr) with todo:=t++k },callers:=e2,status:=st,dying:=dy,offers:=off } u es):=λt=>qap (fr:={ fr with todo:=t }) h.mode h.round rfl
 have R:∀(s:Sem qmt) (u:qhy),Top k D G e2 (qjp P true fr G none s u) (qjp P true (tl k D fr) e2 none s u):=λs u=>q3F hrf B A h s u;have M:(tl k D fr).todo=x::(l++k):=by show fr.todo++k=_;rw[e];rfl
 have I:(tl k D fr).mode=.run:=hm;have r:(tl k D fr).roundOf=none:=p;have F:(tl k D fr).eval=fr.eval:=qdk fr;have v:(tl k D fr).fn=fr.fn:=rfl;have z:(tl k D fr).tmps=fr.tmps:=rfl;unfold qjc;dsimp only;rw[hm,I];dsimp only;unfold qla;dsimp only;rw[e,M];cases x with
 | code c=>
  cases c with
  | skip=>exact o l
  | label n=>exact o l
  | seq a b=>exact o (.code a::.code b::l)
  | block id f=>exact o (.code f::.inBlock id::l)
  | loop f=>exact o (.code f::.inLoop f::l)
  | scope f=>exact o (.code f::.inScope f::l)
  | refuse w=>exact j6
  | ret=>
   dsimp only;rw[p];exact q2r (by simp)
  | cond c a b=>
   dsimp only;rw[F];split
   ·exact o (_::l)
   ·exact j6
  | exit id=>
   dsimp only;cases hx:qnq id l with
   | none=>simp only[qrB,p];exact j6
   | some H=>rw[ZL hx];exact o H
  | goto id=>
   dsimp only;cases hx:qo7 id l with
   | none=>simp only[qrB,p];exact j6
   | some H=>rw[ZG hx];exact o H
  | region id q U=>
   dsimp only;split
   ·exact o (.inRegion q (qiz q.size)::l)
   ·rw[v];split
    ·exact o (.inRegion q _::l)
    ·exact j6
  | rangeFunc Y ps as f=>
   dsimp only;rw[v,z,p,r];simp only[qiE];refine Kc ?_;split
   ·rename_i y mk w _
    subst C;have W:Pc { fn,tmps,todo:=.inRangeFunc y::l,defers:=mk++defers,mode:=.run,kind,roundOf:=none }:=⟨rfl,rfl,_,_,rfl,rfl⟩;have:=q3F (k:=k) (D:=D) (e1:=G) (e2:=e2) (P:=P) hrf B A W (do let d <- resolve (qmA { fn,tmps,todo:=.inRangeFunc y::l,defers:=mk++defers,mode:=.run,kind,roundOf:=none }) { callee:=.value Y,args:=#[.const (.func (.yield y) #[] #[])],argTypes:=#[] } 0;invoke d.target d.args) w;have Z:tl k D { fn,tmps,todo:=.inRangeFunc y::l,defers:=mk++defers,mode:=.run,kind,roundOf:=none }={ fn,tmps,todo:=.inRangeFunc y::(l++k),defers:=mk++(defers++D),mode:=.run,kind,roundOf:=none }:=by
     simp[tl]
    rw[Z] at this;exact this
   ·exact j6
 | inBlock id=>exact o l
 | inScope c=>exact o l
 | inLoop f=>exact o (.code f::.inLoop f::l)
 | inRangeFunc n=>exact j6
 | beginRound=>
  dsimp only;rw[p,r];exact R _ u
 | endRangeFunc n=>
  dsimp only;rw[v];simp only[qiE];refine Kc ?_;split
  ·rename_i j w _
   have:=o ((j.map Item.code).toList++l) (st:=.running) (dy:=none) (off:=none) (u:=w) (es:=#[]);rw[qkt] at this;exact this
  ·exact q2r (kL _ _)
  ·exact j6
 | inRegion q L=>
  cases L with
  | nil=>exact o l
  | cons i L=>
   dsimp only;rw[z];split
   ·unfold qox;have V:(tl k D fr).oper?=fr.oper?:=by unfold Frame.oper?;rw[e,M]
    rw[V];split
    ·exact j6
    ·rw[p,r,F];exact R _ u
   ·exact Kb h qhE
 | call=>cases N
 | extern=>cases N
end
end
section
def qeF(e1:List qi5)(g:qhD):Prop:=(g.callers=e1/\g.frame.mode≠.run)\/∃pre c,g.callers=pre++c::e1/\c.mode≠.run
section
variable[JunkSet]{P:qi4}{e1:List qi5}
def Dm(e1:List qi5)(r:qks):Prop:=∀a u1 b,r=.go a u1 b->Live a->qeF e1 a\/(∃x,e1=x::a.callers)
def yx{r:qks}{d:Array qjs}(h:Dm e1 r):Dm e1 (qjg d r):=λf u1 c e a=>by
 obtain⟨g,b,rfl⟩:=ja e;exact h _ _ _ b a
def qM{o:Outcome}{u:qhy}{a:Array qjs}:Dm e1 (.ended o u a):=λ_ _ _ e _=>by cases e
def ko{r:qks}(h:∀g u a,r≠.go g u a):Dm e1 r:=λg u a e _=>absurd e (h g u a)
def qem{g:qhD}{u:qhy}{b:Array qjs}(h:¬ Live g):Dm e1 (.go g u b):=λ_ _ _ e a=>by cases e;exact absurd a h
def q05{b:qi5}{c:List qi5}{m:String}{u:qhy}:Dm e1 (qp0 P b c none m u):=λd u1 f e a=>absurd a.2 (zd e)
def Jl{a:qi5}{m:String}{u:qhy}:Dm e1 (qoj a m u):=qem λh=>by cases h.2
def jW{f c:qi5}{pre:List qi5}(d:c.mode≠.run){b:ql2}{h:Option qnd}{a:Option (Array qlb × qkA)}{u:qhy}{g:Array qjs} :Dm e1 (.go { frame:=f,callers:=pre++c::e1,status:=b,dying:=h,offers:=a } u g):=λ_ _ _ e _=>by
 cases e;exact .inl (.inr ⟨pre,c,rfl,d⟩)
def q88{f a c:qi5}{pre:List qi5}(e:c.mode≠.run){d:ql2}{h:Option qnd}{b:Option (Array qlb × qkA)}{u:qhy}{g:Array qjs} :Dm e1 (.go { frame:=f,callers:=a::(pre++c::e1),status:=d,dying:=h,offers:=b } u g):=jW (pre:=a::pre) e
def qg8{g a c:qi5}{X pre:List qi5}(f:c.mode≠.run){d:ql2}{i:Option qnd}{b:Option (Array qlb × qkA)}{u:qhy}{h:Array qjs} :Dm e1 (.go { frame:=g,callers:=X++a::(pre++c::e1),status:=d,dying:=i,offers:=b } u h):=λ_ _ _ e _=>by
 cases e;exact .inl (.inr ⟨X++a::pre,c,by simp,f⟩)
def vE{b:qi5}(d:b.mode≠.run){c:ql2}{g:Option qnd}{a:Option (Array qlb × qkA)}{u:qhy}{f:Array qjs} :Dm e1 (.go { frame:=b,callers:=e1,status:=c,dying:=g,offers:=a } u f):=λ_ _ _ e _=>by
 cases e;exact .inl (.inl ⟨rfl,d⟩)
def q78:∀(pre:List qi5) (b c:qi5) (v:qhC) (d:List qi5),c.mode≠.run->qis b (pre++c::e1)=some (v,d)->(∀b,qis b e1=none)->∃a f,d=a++f::e1/\f.mode≠.run:=by
 intro pre;induction pre with
 | nil=>
  intro b c v d i h hR;simp only[qin] at h;unfold qis at h;cases hk:b.kind with
  | deferred=>
   rw[hk] at h;dsimp only at h;split at h
   ·simp only[qj3,Prod.mk.injEq] at h;exact⟨[],_,h.2.symm,by simp⟩
   ·cases h
  | wrapped=>
   rw[hk] at h;dsimp only at h;rw[hR] at h;cases h
  | _=>rw[hk] at h;cases h
 | cons p pre j=>
  intro b c v d i h hR;simp only[qi9] at h;unfold qis at h;cases hk:b.kind with
  | deferred=>
   rw[hk] at h;dsimp only at h;split at h
   ·simp only[qj3,Prod.mk.injEq] at h;exact⟨_::pre,c,h.2.symm,i⟩
   ·cases h
  | wrapped=>
   rw[hk] at h;dsimp only at h;cases ht:qis p (pre++c::e1) with
   | none=>rw[ht] at h;cases h
   | some x=>
    obtain⟨k,l⟩:=x;rw[ht] at h;simp only[qjo,qj3,Prod.mk.injEq] at h;have⟨a,f,e,g⟩:=j _ _ _ _ i ht hR;exact⟨p::a,f,by rw[<- h.2,e];rfl,g⟩
  | _=>rw[hk] at h;cases h
def q2c(a:qi5)(v:qhC):(a.finish v).mode=a.mode:=(QD a v).1
def JU{d c:qi5}{pre:List qi5}(a:c.mode≠.run)(b:Bool)(v:qhC)(u:qhy):Dm e1 (qkc P b d (pre++c::e1) none v u):=by
 unfold qkc;cases pre with
 | nil=>
  simp only[qin];split
  ·exact vE (by rw[q2c];exact a)
  ·exact vE (by rw[q2c];exact a)
  ·exact vE a
  ·refine vE ?_;split
   ·split<;>simp
   ·exact a
 | cons p pre=>
  simp only[qi9];split<;>exact jW a
def qcx{b c:qi5}{pre:List qi5}(a:c.mode≠.run)(g:Nat)(u:qhy):Dm e1 (early P b (pre++c::e1) none g u):=by
 unfold early;dsimp only
 repeat' split
 all_goals first
  | exact jW a
  | exact qM
  | exact qg8 a
variable(hrf:P.follows .rangeFuncRecover=true)(hR:∀fr,qis fr e1=none)
include hR
theorem qcv{g c:qi5}{pre:List qi5}(i:c.mode≠.run){v:qhC}{d:List qi5}(h:qis g (pre++c::e1)=some (v,d)){b:qi5}{u:qhy}{j:Array qjs}:Dm e1 (.go { frame:=b,callers:=d,status:=.running,dying:=none } u j):=by
 have⟨f,k,e,a⟩:=q78 pre g c v d i h hR;rw[e];exact jW a
theorem QH(hrf:P.follows .rangeFuncRecover=true){f c:qi5}{pre:List qi5}(b:c.mode≠.run)(s:Sem qmt)(u:qhy):Dm e1 (qjp P true f (pre++c::e1) none s u):=by
 unfold qjp;simp only[if_true,qiE,hrf];refine yx ?_;cases s.run P u with
 | ok a w=>
  cases a with
  | recover=>
   rcases hX:qis f (pre++c::e1) with _ | ⟨v,k⟩<;>cases hro:f.roundOf<;>simp only[hX,hro]<;>first | exact qcv hR b hX | exact jW b
  | spawn d=>
   dsimp only
   repeat' split
   all_goals first
    | exact Jl
    | exact ko (λ_ _ _ e=>by cases e)
  | _=>
   dsimp only
   repeat' split
   all_goals first
    | exact jW b
    | exact q88 b
    | exact ko (λ_ _ _ e=>by cases e)
 | halt x w=>
  cases x with
  | fatal m=>exact q05
  | throw m=>exact Jl
  | unsupported x=>cases x<;>first | exact qcx b _ _ | exact qM
  | _=>first | exact jW b | exact qM
theorem q5i{h c:qi5}{pre:List qi5}(g:c.mode≠.run)(d:qk6)(u:qhy):Dm e1 (qk8 P h (pre++c::e1) none d u):=by
 unfold qk8;by_cases f:(kU d.target && kT h.mode)=true
 ·have:∀(a b:qks),(∃o u j,a=.ended o u j)->Dm e1 (if(kU d.target && kT h.mode)=true then a else b):=λa b ⟨o,u,j,e⟩=>by
   rw[if_pos f,e];exact qM
  exact this _ _ ⟨_,_,_,rfl⟩
 have i:∀(a b:qks),Dm e1 b->Dm e1 (if(kU d.target && kT h.mode)=true then a else b):=λa b k=>by rw[if_neg f];exact k
 refine i _ _ ?_;simp only[qiE];refine yx ?_;cases qjk P (invoke d.target d.args) u with
 | ok a w=>
  cases a with
  | recover=>
   dsimp only;split
   ·rename_i l
    exact qcv hR g l
   ·exact jW g
  | coroswitch c e=>cases e<;>first | exact qM | exact ko (λ_ _ _ e=>by cases e)
  | alone on v=>cases on<;>first | exact qM | exact ko (λ_ _ _ e=>by cases e)
  | _=>
   first
    | exact jW g
    | exact q88 g
    | exact qM
    | exact ko (λ_ _ _ e=>by cases e)
 | halt x w=>
  cases x with
  | fatal m=>exact q05
  | throw m=>exact Jl
  | _=>first | exact jW g | exact qM
theorem q2g{d c:qi5}{pre:List qi5}(a:c.mode≠.run)(b:Bool)(u:qhy):Dm e1 (qmr P b d (pre++c::e1) none u):=by
 unfold qmr;split
 ·simp only[qiE];refine yx ?_;split
  ·exact jW a
  ·exact qM
 ·exact q5i hR a _ _
 ·split
  ·exact qM
  ·split
   ·exact qM
   ·cases pre with
    | nil=>exact vE (kL _ _)
    | cons p pre=>exact jW a
  ·split
   ·exact JU a _ _ _
   ·simp only[qiE];refine yx ?_;split
    ·exact JU a _ _ _
    all_goals exact qM
theorem qel(hrf:P.follows .rangeFuncRecover=true){fr c:qi5}{pre:List qi5}(d:c.mode≠.run)(b:Bool)(u:qhy):Dm e1 (qla P b true fr (pre++c::e1) none u):=by
 have a:∀(j:Bool) (f:Option qkk) (s e:String),Dm e1 (match fr.roundOf with
   | none=>if j=true then .go { frame:={ fr with mode:=.returning },callers:=pre++c::e1,status:=.running,dying:=none } u else .ended (.stuck s (fr.pos P)) u
   | some l=>
    let (r,es):=(ql1 l f).runT P u #[]
    qjg (seen P fr.fn es) <| match r with
    | .ok v w=>qkc P b fr (pre++c::e1) none v w
    | .halt _ w=>.ended (.stuck e (fr.pos P)) w):=λj f s e=>by
  split
  ·split
   ·exact jW d
   ·exact qM
  ·simp only[qiE];refine yx ?_;split
   ·exact JU d _ _ _
   ·exact qM
 unfold qla;dsimp only;split
 ·exact a true _ _ _
 ·exact a true _ _ _
 all_goals first
  | exact jW d
  | exact qM
  | exact QH hR hrf d _ _
  | (
    generalize qnq _ _=X;cases X
    ·exact a false _ _ _
    ·exact jW d)
  | (
    generalize qo7 _ _=X;cases X
    ·exact a false _ _ _
    ·exact jW d)
  | (
    unfold qox
    repeat' split
    all_goals first
     | exact jW d
     | exact qM
     | exact QH hR hrf d _ _)
  | (
    simp only[qiE];refine yx ?_
    repeat' split
    all_goals first
     | exact jW d
     | exact qM
     | exact QH hR hrf d _ _)
  | (
    repeat' split
    all_goals first
     | exact jW d
     | exact qM
     | exact QH hR hrf d _ _)
  | (
    generalize Extern.next _=X
    cases X
    ·exact qM
    ·exact QH hR hrf d _ _)
theorem qek{f x:qi5}(g:f.mode≠.run)(b:Bool)(u:qhy)(s:∀f,qis f (x::e1)=none):Dm (x::e1) (qmr P b f (x::e1) none u):=by
 have k:∀{fr2:qi5} {st:ql2} {dy:Option qnd} {off:Option (Array qlb × qkA)} {u:qhy} {i:Array qjs} {f:qi5},f.mode≠.run->Dm (x::e1) (.go { frame:=fr2,callers:=f::x::e1,status:=st,dying:=dy,offers:=off } u i):=λh=>jW (pre:=[]) h;have l:∀{fr2:qi5} {st:ql2} {dy:Option qnd} {off:Option (Array qlb × qkA)} {u:qhy} {i:Array qjs},Dm (x::e1) (.go { frame:=fr2,callers:=e1,status:=st,dying:=dy,offers:=off } u i):=λ_ _ _ e _=>by
  cases e;exact .inr ⟨x,rfl⟩
 have j:∀(v:qhC) (u:qhy),Dm (x::e1) (qkc P b f (x::e1) none v u):=λv u=>by
  unfold qkc;dsimp only;split<;>exact l
 unfold qmr;split
 ·simp only[qiE];refine yx ?_;split
  ·(refine vE ?_;exact g)
  ·exact qM
 ·rename_i d t _ _
  unfold qk8;by_cases n:(kU d.target && kT f.mode)=true
  ·have:∀(a b:qks),(∃o u i,a=.ended o u i)->Dm (x::e1) (if(kU d.target && kT f.mode)=true then a else b):=λa b ⟨o,u,i,e⟩=>by
    rw[if_pos n,e];exact qM
   exact this _ _ ⟨_,_,_,rfl⟩
  have p:∀(a b:qks),Dm (x::e1) b->Dm (x::e1) (if(kU d.target && kT f.mode)=true then a else b):=λa b q=>by rw[if_neg n];exact q
  refine p _ _ ?_;simp only[qiE];refine yx ?_;cases qjk P (invoke d.target d.args) u with
  | ok a w=>
   cases a with
   | recover=>
    dsimp only;rw[s];split
    ·rename_i r;cases r
    ·(refine vE ?_;exact g)
   | coroswitch c e=>cases e<;>first | exact qM | exact ko (λ_ _ _ e=>by cases e)
   | alone on v=>cases on<;>first | exact qM | exact ko (λ_ _ _ e=>by cases e)
   | _=>
    first
     | (refine vE ?_;exact g)
     | (refine k ?_;exact g)
     | exact qM
     | exact ko (λ_ _ _ e=>by cases e)
  | halt y w=>
   cases y with
   | fatal m=>exact q05
   | throw m=>exact Jl
   | _=>first | (refine vE ?_;exact g) | exact qM | (refine vE ?_;exact kL _ _)
 ·split
  ·rename_i hm;exact absurd hm g
  ·split
   ·exact qM
   ·exact l
  ·split
   ·exact j _ _
   ·simp only[qiE];refine yx ?_;split
    ·exact j _ _
    all_goals exact qM
end
end
section
inductive Lay (k:List qm1) (D:List qk6) (real:List qi5) (f:qjf) (gv:qhD):qhD->Prop
 | top:gv.callers=[qk f]->gv.frame.mode=.run->gv.frame.roundOf=none->Lay k D real f gv { gv with frame:=tl k D gv.frame,callers:=real }
 | und (pre:List qi5) (c:qi5):gv.callers=pre++[c,qk f]->Pc c->Lay k D real f gv { gv with callers:=pre++tl k D c::real }
section
variable[JunkSet](Q P:qi4)(base:Nat)(F:qhD->qhy->Prop)(f:qjf)(k:List qm1)(D:List qk6)(real:List qi5)
structure q0l(Z:Ren)(g:qhD)(wq:qhy)(g':qhD)(w:qhy):Prop where
 len:base<=Z.length
 wr:WR Q base Z wq w
 gl:Gl P Z
 tree:LT Q F g wq
 stack:∃pre,g.callers=pre++[qk f]
 rel:∃gv,ve Q P Z g gv/\Lay k D real f gv g'
structure q5y:Prop where
 cs:∀g u,F g u->g.callers=[qk f]
 md:∀g u,F g u->g.frame.mode=.run
end
section
variable[JunkSet]{Q P:qi4}{base:Nat}{F:qhD->qhy->Prop}{f:qjf}{k:List qm1}{D:List qk6}{real:List qi5}
def q8g{Y:Type}{pre:List Y}{c x:Y}(h:pre++[c,x]=[x]):False:=by
 have:=congrArg List.length h;simp at this
def q1x(j:Q.follows .rangeFuncRecover=true)(l:q5y F f){b:qhD}{u1:qhy}(h:LT Q F b u1)(e:Popped f b.frame)(d:b.callers=[])(g:b.dying=none):False:=by
 cases h with
 | done h=>have:=l.cs _ _ h;rw[d] at this;cases this
 | step _ p _=>
  have⟨v,u2,s,i,_,_⟩:=p u1.tape;obtain⟨q,u,c,t,a⟩:=b;dsimp only at d e g;subst d;subst g;have⟨o,u3,r,n⟩:=Qs (Q:=Q) e c a (u1.tp u1.tape);rw[n] at i;cases i
def LT.doom(d:Q.follows .rangeFuncRecover=true)(A:q5y F f){g:qhD}{u:qhy}(h:LT Q F g u)(s:qeF [qk f] g)(i:g.dying=none):False:=by
 induction h with
 | done h=>
  rcases s with⟨_,hm⟩ | ⟨pre,c,e,_⟩
  ·exact hm (A.md _ _ h)
  ·rw[A.cs _ _ h] at e;exact q8g e.symm
 | @step g u R N M H=>
  have⟨t,u1,O,e,y,a⟩:=N u.tape;have b:=yj (f:=f);have w:∃pre,g.callers=pre++[qk f]:=by
   rcases s with⟨e,_⟩ | ⟨pre,c,e,_⟩
   ·exact⟨[],e⟩
   ·exact⟨pre++[c],by rw[e];simp⟩
  obtain⟨C,q⟩:=w;have j:qeF [qk f] t\/∃x,[qk f]=x::t.callers:=by
   obtain⟨n,T,B,S,p⟩:=g;dsimp only at i s;subst i;rcases s with⟨z,hm⟩ | ⟨pre,c,z,hm⟩
   ·subst z;have:qjc Q true { frame:=n,callers:=[qk f],status:=B,dying:=none,offers:=p } (u.tp u.tape) true=qmr Q true n [qk f] none (u.tp u.tape):=by
     unfold qjc;dsimp only;cases hmm:n.mode<;>first | exact absurd hmm hm | rfl
    rw[this] at e;exact qek (P:=Q) (e1:=[]) (by intro n;unfold qis;cases n.kind<;>rfl) hm true _ b _ _ _ e ⟨y,a⟩
   ·subst z;have v:Dm [qk f] (qjc Q true { frame:=n,callers:=pre++c::[qk f],status:=B,dying:=none,offers:=p } (u.tp u.tape) true):=by
     unfold qjc;dsimp only;cases n.mode with
     | run=>exact qel b d hm true _
     | returning=>exact q2g b hm true _
     | panicking l=>exact q2g b hm true _
    exact v _ _ _ e ⟨y,a⟩
  rcases j with j | ⟨x,I⟩
  ·exact H _ _ _ _ e j a
  ·have r:t.callers=[]:=by simpa using(List.cons.inj I).2.symm
   rcases Qk (f:=f) d q i (u.tp u.tape) t u1 O e y a with⟨o,G⟩ | ⟨_,L⟩
   ·rw[r] at G;cases o<;>simp at G
   ·exact q1x d A (M _ _ _ _ e) L r a
def zp.plain{Z:Ren}{x a:qm1}(h:zp Q Z x a):qfb a=true:=by cases h<;>rfl
def q1G{Z:Ren}{m a:FrameMode}(h:vd Z m a):m=.run↔a=.run:=by cases h<;>simp
def q0e{Z:Ren}{b:List qi5}(h:LsR (qx Q P Z) b [qk f])(a:∃pre,b=pre++[qk f]):b=[qk f]:=by
 obtain⟨pre,rfl⟩:=a;have:=h.length;cases pre with
 | nil=>rfl
 | cons x pre=>simp at this
def q0l.step(H:Duo Q P)(hrf:P.follows .rangeFuncRecover=true)(hrr:∀fr,qis fr real=none)(hF:q5y F f)(a6:∀fk,Q.funcs[fk]?≠P.funcs[fk]?->∀a k cs u,∃o w t,qjc Q true { frame:=qj1 Q fk a k,callers:=cs,status:=.running,dying:=none } u true=.ended o w t){Z:Ren}{g:qhD}{wq:qhy}{g':qhD}{w:qhy}(h:q0l Q P base F f k D real Z g wq g' w)(hn:¬ F g wq)(b:Bool) :∃O I i d r t,qjc P b g' w true=.go d r t/\q0l Q P base F f k D real O I i d r/\Below Q F (I,i) (g,wq)/\Eff base Z O w r/\(∀e∈t,vg base O e)/\Live d:=by
 have R:Q.follows .rangeFuncRecover=true:=H.rfr;have⟨gv,M,hl⟩:=h.rel;have⟨e8,S⟩:=h.stack;have⟨O,I,i,q,r,t,k0,k1,k2,k3,k4,k5,k6,k7,k8,d9,U⟩:=KL H h.len h.wr h.gl M h.tree hn b;obtain⟨_,T,c8,e1⟩:=k6;dsimp only at e1;have a7:∃y,I.callers=y++[qk f]:=by
  rcases Qk (f:=f) R S M.dy (wq.tp T) I i c8 e1 d9 U with L | ⟨L,hp⟩
  ·exact L
  ·exact(q1x R hF k5 hp L U).elim
 have j:ve Q P O I q:=by
  rcases k1 with⟨_,k1⟩ | ⟨fk,kk,a,a',c,c',cs,n7,e4,m6,rfl,rfl,ha,X,g5,hm⟩
  ·exact k1
  ·exfalso;have⟨o,u,n6,e2⟩:=a6 fk e4 a kk (c::cs) (i.tp i.tape);cases k5 with
   | done L=>
    have C:=hF.cs _ _ L;dsimp only at C;simp only[ql3] at C;rw[C.1] at hm;rcases hm with hm | hm
    ·exact hm rfl
    ·exact hm _ _ rfl
   | step _ p _=>
    have⟨g3,u3,n4,e3,_⟩:=p i.tape;rw[e2] at e3;cases e3
 have B:qeF [qk f] I->False:=λhd=>LT.doom R hF k5 hd U;have mk:∀d,Lay k D real f q d->qjc P b g' w true=.go d r t->Live d->∃O I i d r t,qjc P b g' w true=.go d r t/\q0l Q P base F f k D real O I i d r/\Below Q F (I,i) (g,wq)/\Eff base Z O w r/\(∀e∈t,vg base O e)/\Live d :=
  λd b6 he e5=>⟨O,I,i,d,r,t,he,⟨k4,k2,k3,k5,a7,q,j,b6⟩,⟨hn,T,c8,e1⟩,k7,k8,e5⟩
 have A:q.callers=[qk f]->q.frame.mode≠.run->False:=λX hm=>by
  have b8:=j.callers;rw[X] at b8;exact B (.inl ⟨q0e b8 a7,λe=>hm ((q1G j.frame.mode).1 e)⟩)
 cases hl with
 | top X hm a8=>
  have V:=M.callers;rw[X] at V;have N:g.callers=[qk f]:=q0e V h.stack;clear V;have n:=M.frame.todo;cases ht:g.frame.todo with
  | nil=>
   exfalso;have b0:g.frame.mode=.run:=(q1G M.frame.mode).2 hm;have a9:g.frame.roundOf=none:=by
    rcases M.frame.round with⟨L,_⟩ | ⟨_,_,_,L,_⟩
    ·exact L
    ·rw[a8] at L;cases L
   have b7:=M.dy;obtain⟨⟨fn,tmps,todo,defers,mode,kind,ro⟩,cs,st,dy,d6⟩:=g;dsimp only at b0 a9 b7 ht N;subst b0 a9 b7 ht;subst N;have e2:qjc Q true { frame:={ fn:=fn,tmps:=tmps,todo:=[],defers:=defers,mode:=.run,kind:=kind,roundOf:=none },callers:=[qk f],status:=st,dying:=none,offers:=d6 } (wq.tp T) true=.go { frame:={ fn:=fn,tmps:=tmps,todo:=[],defers:=defers,mode:=.returning,kind:=kind,roundOf:=none },callers:=[qk f],status:=.running,dying:=none } (wq.tp T) #[]:=by
    simp[qjc,qla]
   rw[e2] at e1;cases e1;exact B (.inl ⟨rfl,by simp⟩)
  | cons x l=>
   rw[ht] at n;generalize d8:gv.frame.todo=vt at n;cases n with
   | cons hx m3=>
    rename_i x' l'
    have s:Pc gv.frame:=⟨hm,a8,x',l',d8,zp.plain hx⟩;have z:=qas (k:=k) (D:=D) (e2:=real) hrf yj hrr s X M.dy' b b w;rcases z q r t k0 ⟨j.st',j.dy'⟩ (KE j) with⟨p,G,Y,h5⟩ | ⟨pre,c,p,G,Y⟩ | ⟨p,G⟩
    ·exact mk _ (.top p G Y) h5 ⟨j.st',j.dy'⟩
    ·exact mk _ (.und pre c p G) Y ⟨j.st',j.dy'⟩
    ·exact(A p G).elim
 | und pre c X s=>
  have hN:YA c (tl k D c) [qk f] real:=⟨s.mode,s.mode,λfr=>q4u s.mode yj fr,λfr=>q4u (c:=tl k D c) s.mode hrr fr⟩;have z:=q5G (c1:=c) (c2:=tl k D c) (e1:=[qk f]) (e2:=real) hrf hN (g:=gv) (pre:=pre) X M.dy' b b w;rcases z q r t k0 ⟨j.st',j.dy'⟩ (KE j) with⟨y,p,G⟩ | ⟨W,hφ,p,G,Y⟩ | ⟨ch,p,G⟩
  ·exact mk _ (.und y c p s) G ⟨j.st',j.dy'⟩
  ·have hφ1:W (tl k D c)=tl k D (W c)/\(W c).mode=.run/\(W c).roundOf=none:=by
    rcases hφ with⟨v,rfl⟩ | rfl
    ·have⟨q1,q2,q3⟩:=QD c v;exact⟨q1d s v,q1.trans s.mode,q3.trans s.round⟩
    ·exact⟨rfl,s.mode,s.round⟩
   rw[hφ1.1,<- p] at Y;exact mk _ (.top G (by rw[p];exact hφ1.2.1) (by rw[p];exact hφ1.2.2)) Y ⟨j.st',j.dy'⟩
  ·exact(A G (by rw[p];exact kL _ _)).elim
def q0l.rely{Z:Ren}{g:qhD}{l:qhy}{n:qhD}{w a:qhy}(h:q0l Q P base F f k D real Z g l n w)(d:w.heap.size<=a.heap.size)(b:a.os.env=w.os.env)(o:∀i j,BR Z i j->¬ JunkSet.jk i->a.heap[j]?=w.heap[j]?)(p:∀i j,BR Z i j->JunkSet.jk i->∃c e f,a.heap[j]?=some (.cells c e f)):q0l Q P base F f k D real Z g l n a :=
 ⟨h.len,h.wr.rely d b o p,h.gl,h.tree,h.stack,h.rel⟩
end
end
end Go.Sim
namespace Go.Co
section
open Go.Conc Go.ConcN Go.Sim
structure Own(base:Nat)(Z:Ren)(jk:Nat->Prop)(Fz S:Bs):Prop where
 low:∀i j,BR Z i j->i<base->¬ jk i->Fz j
 own:∀i j,BR Z i j->base<=i->S j
section
variable[JunkSet]{Q P:qi4}{base:Nat}{F:qhD->qhy->Prop}{f:qjf}{k:List qm1}{D:List qk6}{real:List qi5}{Fz:Bs}{K:qhy->qhy->Prop}{Stop:Bs->qhD->qhy->Prop}
def q4F{a b:qhD}(h:Lay k D real f a b)(c:a.status=.running):b.status=.running:=by cases h<;>exact c
def Own.step{Z O:Ren}{S:Bs}{w e:qhy}(h:Own base Z JunkSet.jk Fz S)(o:Eff base Z O w e)(q:base<=Z.length)(l:∀i j,BR O i j->j<e.heap.size):Own base O JunkSet.jk Fz (grow S w e):=by
 have b:∀i j,BR O i j->i<Z.length->BR Z i j:=λi j a d=>by
  obtain⟨⟨V,rfl⟩,_⟩:=o.le;unfold BR at a ⊢
  rwa [qiD d] at a
 refine⟨λi j a d p=>h.low i j (b i j a (by omega)) d p,λi j a d=>?_⟩;rcases qk2 i Z.length with c | n
 ·exact .inl (h.own i j (b i j a c) d)
 ·exact .inr ⟨o.fresh i j a n,l i j a⟩
def q9E{Z O:Ren}{S:Bs}{I w s:qhy}{H:Array qjs}(h:Own base Z JunkSet.jk Fz S)(l:Eff base Z O w s)(L:base<=Z.length)(u:WR Q base O I s)(B:∀e∈H,vg base O e):DC Fz S w s H:=by
 have p:∀i j,BR O i j->i<Z.length->BR Z i j:=λi j r z=>by
  obtain⟨⟨V,rfl⟩,_⟩:=l.le;unfold BR at r ⊢
  rwa [qiD z] at r
 have g:∀i j,BR O i j->base<=i->grow S w s j:=(h.step l L u.lt).own;refine⟨λb C M=>l.keep b C λi z=>qpB λy=>M (h.own i b z y),l.size,l.os,l.output,λe q=>?_⟩;cases B e q with
 | @cell i j t o wr n G N=>
  refine⟨⟨by simp,by simp,by simp⟩,λm hm=>by simp at hm,λx d b a=>?_⟩;have c:x=⟨.cell ⟨j,t,o⟩,wr,.plain⟩:=by cases wr<;>(simp[qjy,qkj] at d;exact d.symm)
  subst c;simp only[blk,qj3] at a;subst a;refine⟨u.lt _ _ n,rfl,?_⟩;rcases qk2 i base with v | A
  ·refine .inr ⟨h.low i j (p i j n (by omega)) v G,?_⟩;cases wr with
   | false=>rfl
   | true=>exact absurd (N rfl) (by omega)
  ·exact .inl (g i j n A)
 | @obj i j wr n G=>
  refine⟨⟨by simp,by simp,by simp⟩,λm hm=>by simp at hm,λx d b a=>?_⟩;have c:x=⟨.obj j,wr,.plain⟩:=by cases wr<;>(simp[qjy,qkj] at d;exact d.symm)
  subst c;simp only[blk,qj3] at a;subst a;exact⟨u.lt _ _ n,rfl,.inl (g i j n G)⟩
 | noRoom=>exact⟨⟨by simp,by simp,by simp⟩,λm hm=>by simp at hm;exact hm.symm,λx d=>by simp[qjy,qkj] at d⟩
 | env=>
  refine⟨⟨by simp,by simp,by simp⟩,λm hm=>by simp at hm,λx d b a=>?_⟩;have c:x=⟨.output,true,.plain⟩:=by simp[qjy,qkj] at d;exact d.symm
  subst c;cases a
def ql.tsub(H:Duo Q P)(hrf:P.follows .rangeFuncRecover=true)(hrr:∀fr,qis fr real=none)(hF:q5y F f)(z:∀U,Q.funcs[U]?≠P.funcs[U]?->∀a k cs u,∃o w y,qjc Q true { frame:=qj1 Q U a k,callers:=cs,status:=.running,dying:=none } u true=.ended o w y)(Jc Jb:Bs)(Liv:qhy->Prop)(hL1:∀S w w₁,RC Fz K S w w₁->Liv w->Liv w₁)(hL2:∀S w M y,DC Fz S w M y->(∀b,Jb b->M.heap[b]?=w.heap[b]?)->Liv w->Liv M)(hL3:∀w b,Liv w->Jc b->∃c e f,w.heap[b]?=some (.cells c e f))(hL4:∀w b,Liv w->Jb b->b<w.heap.size){ρ0:Ren}(hend:∀O g n r w S,q0l Q P base F f k D real O g n r w->F g n->Le ρ0 O->Own base O JunkSet.jk Fz S->(∀i j,BR O i j->JunkSet.jk i->Jc j)->Liv w->(∀j,Jb j->¬ S j)->ql P Fz K Stop S r w){Z:Ren}{g:qhD}{n:qhy}{r:qhD}{w:qhy}{S:Bs}(h:q0l Q P base F f k D real Z g n r w)(hle:Le ρ0 Z)(ho:Own base Z JunkSet.jk Fz S)(hj:∀i j,BR Z i j->JunkSet.jk i->Jc j)(hv:Liv w)(hjs:∀j,Jb j->¬ S j):ql P Fz K Stop S r w:=by
 have s:Acc (Below Q F) (g,n):=h.tree.acc;generalize hx:(g,n)=x at s;induction s generalizing Z g n r w S with
 | intro x _ ih=>
  subst hx;by_cases X:F g n
  ·exact hend Z g n r w S h X hle ho hj hv hjs
  ·have A:r.status=.running:=by
    have⟨gv,hg,hl⟩:=h.rel;exact q4F hl hg.st'
   refine ql.step A λw₁ B=>?_;have t:Liv w₁:=hL1 _ w w₁ B hv;have C:q0l Q P base F f k D real Z g n r w₁:=h.rely B.size (by rw[B.os]) (λi j d l=>by
     rcases qk2 i base with p | R
     ·exact B.fz j (ho.low i j d p l)
     ·exact B.own j (ho.own i j d R)) (λi j d l=>hL3 w₁ j t (hj i j d l))
   have⟨O,g1,L,T,W,y,k1,N,k3,G,k5,_⟩:=C.step H hrf hrr hF z X false;have v:=q9E ho G C.len N.wr k5;have p:∀j,Jb j->j<w₁.heap.size:=λj q=>hL4 w₁ j t q;refine⟨T,W,y,k1,v,ih (g1,L) k3 N (hle.trans G.le) (ho.step G C.len N.wr.lt) (λi j d l=>?_) (hL2 _ w₁ W y v (λb Y=>v.keep b (p b Y) (hjs b Y)) t) (λj q I=>?_) rfl⟩;rotate_left
   ·rcases I with I | ⟨I,_⟩
    ·exact hjs j q I
    ·have:=p j q;omega
   refine hj i j ?_ l;have hi:i<Z.length:=qia (C.wr.below i l) C.len;obtain⟨⟨V,rfl⟩,_⟩:=G.le;unfold BR at d ⊢
   rwa [qiD hi] at d
def AtEnd(f:qjf)(b:qi5)(R:Act->qhy->Prop)(g:qhD)(u:qhy):Prop:=Live g/\g.callers=[qk f]/\∃a T,g.frame=b.at a []/\R a (u.tp T)
def AtEnd.leafs{b:qi5}{R:Act->qhy->Prop}:q5y (AtEnd f b R) f:=⟨λ_ _ h=>h.2.1,λ_ _ ⟨_,_,a,_,e,_⟩=>by rw[e];rfl⟩
def AtEnd.tape{b:qi5}{R:Act->qhy->Prop}{g:qhD}{u:qhy}(T:Nat->qk9->Nat)(h:AtEnd f b R g u):AtEnd f b R g (u.tp T):=by
 obtain⟨i,e,a,j,d,c⟩:=h;exact⟨i,e,a,j,d,c⟩
def yB(R:Act->qhy->Prop):Exit->Act->qhy->Prop
 | .normal,a,w=>R a w
 | _,_,_=>False
def LT.of_wp(H:Duo Q Q){b:qi5}{a:Act}{c:qkk}{i:qhy}{R:Act->qhy->Prop}(h:∀T,c.wp Q (yB R) a (i.tp T))(p:xV Q base (G (b.at a [.code c]) [qk f]) i):LT Q (AtEnd f b R) (G (b.at a [.code c]) [qk f]) i:=by
 refine LT.of_all H (λg u T=>AtEnd.tape T) p λT=>?_;have⟨e,q,r,d,j⟩:=h T b [] [qk f];cases e with
 | normal=>
  obtain⟨n,s⟩:=j;exact LP.of_runs H n (g:=G (b.at a [.code c]) [qk f]) (g1:=G (b.at q []) [qk f]) (u:=i.tp T) (pre:=[]) (p.tape T) ⟨rfl,rfl⟩ rfl s ⟨rfl,rfl⟩ ⟨[],rfl⟩ ⟨⟨rfl,rfl⟩,rfl,q,r.tape,rfl,by rw[YQ];exact d⟩
 | exit id=>exact d.elim
 | goto l=>exact d.elim
 | ret=>exact d.elim
 | panic o=>exact d.elim
 | outgrown=>exact d.elim
end
end
end Go.Co
section
namespace Go.Co
open Go
def zy{md:qlA}{ops:Array qjx}{listed:Array Bool}{i:Nat}(h:i∈qil md ops listed):i<ops.size/\listed.getD i true=false:=by
 simp only[qil,qpa,qkg,qio,qkD] at h;exact⟨h.1,h.2.1⟩
def unl(listed:Array Bool)(n:Nat):Nat:=((qiz n).filter λi=>!listed.getD i true).length
def vj{listed:Array Bool}{n i:Nat}(f:i<n)(g:listed.size=n)(h:listed.getD i true=false):unl (listed.setIfInBounds i true) n<unl listed n:=by
 unfold unl;have d:∀l:List Nat,i∈l->(l.filter λk=>!(listed.setIfInBounds i true).getD k true).length<(l.filter λk=>!listed.getD k true).length:=by
  intro l;have e:∀l:List Nat,(l.filter λk=>!(listed.setIfInBounds i true).getD k true).length<=(l.filter λk=>!listed.getD k true).length:=by
   intro l;induction l with
   | nil=>simp
   | cons x l c=>
    simp only[List.filter_cons];by_cases a:x=i
    ·subst a;have:(listed.setIfInBounds x true).getD x true=true:=by simp[qjn,g,f]
     rw[this,h];simp only[qng,qmF,qiC,if_true,if_false,qi3];omega
    ·have:(listed.setIfInBounds i true).getD x true=listed.getD x true:=by simp[qjn,qj2,Ne.symm a]
     rw[this];split
     ·simp only[qi3];omega
     ·exact c
  induction l with
  | nil=>intro h;cases h
  | cons x l c=>
   intro hm;simp only[List.filter_cons];by_cases a:x=i
   ·subst a;have:(listed.setIfInBounds x true).getD x true=true:=by simp[qjn,g,f]
    rw[this,h];have:=e l;simp only[qng,qmF,qiC,if_true,if_false,qi3];omega
   ·have:(listed.setIfInBounds i true).getD x true=listed.getD x true:=by simp[qjn,qj2,Ne.symm a]
    rw[this];have b:i∈l:=by simpa[Ne.symm a] using hm
    split
    ·have:=c b;simp only[qi3];omega
    ·exact c b
 exact d _ (by simp[f])
def q8k{P:qi4}{md:qlA}{ops:Array qjx}{Q:Exit->Act->qhy->Prop}(I:Array Bool->Act->qhy->Prop)(d:∀listed a w i,listed.size=ops.size->I listed a w->i∈qil md ops listed->wpOp P ops Q i (I (listed.setIfInBounds i true)) a w)(c:∀listed a w,listed.size=ops.size->I listed a w->qil md ops listed=[]->Q .normal a w) :∀(b:Nat) (listed:Array Bool) (a:Act) (w:qhy),listed.size=ops.size->unl listed ops.size<=b->I listed a w->wpAny P md ops Q b listed a w:=by
 intro b;induction b with
 | zero=>
  intro listed a w e p g;have f:qil md ops listed=[]:=by
   cases f:qil md ops listed with
   | nil=>rfl
   | cons i l=>
    exfalso;have⟨j,h⟩:=zy (md:=md) (ops:=ops) (listed:=listed) (i:=i) (by rw[f];simp);have:=vj j e h;omega
  exact⟨f,c listed a w e g f⟩
 | succ b o=>
  intro listed a w e p g;refine⟨c listed a w e g,λi k=>?_⟩;have⟨j,h⟩:=zy k;have q:=vj j e h;exact wpOp_mono (λs n r=>o _ s n (by simpa using e) (by omega) r) (d listed a w i e g k)
def q0o{P:qi4}{id:Nat}{b:Array qjx}{Q:Exit->Act->qhy->Prop}{a:Act}{w:qhy}(hm:P.follows .mixedOrders=true)(I:Array Bool->Act->qhy->Prop)(c:I (qj4 b.size false) a { w with drawn:=w.drawn+1 })(hstep:∀listed a w i,listed.size=b.size->I listed a w->i∈qil .any b listed->wpOp P b Q i (I (listed.setIfInBounds i true)) a w)(hend:∀listed a w,listed.size=b.size->I listed a w->qil .any b listed=[]->Q .normal a w):(Code.region id b true).wp P Q a w :=
 wp_region_any hm (q8k I hstep hend b.size _ a _ (by simp) (by
  unfold unl;refine qi1 (qko _ _) (by simp)) c)
def zE{P:qi4}{b:Array qjx}{R K:Act->qhy->Prop}{i:Nat}{o:qjx}{a:Act}{w:qhy}(l:b[i]?=some o)(h:wpList P b (yB K) [o] a w):wpOp P b (yB R) i K a w:=by
 have j:∀X:Act->qhy->Prop,¬ LetsOut (yB X):=λX ⟨_,_,h⟩=>h;unfold wpOp;rw[l];dsimp only;simp only[wpList] at h;split
 ·rename_i g
  rw[if_pos g] at h;rcases h with h | ⟨_,h⟩
  ·refine .inl ?_;unfold Oper.wp at h ⊢;generalize (ql0 a.eval o).run P w=r at h ⊢;cases r with
   | ok x k=>
    cases x with
    | enter f c=>exact Calls.mono h λe w q=>by cases e<;>first | exact q | exact q.elim | exact absurd q (j _)
    | row r c=>exact Rows.mono h λv w q=>q
    | value v=>exact h
    | skip=>exact h
    | defer d=>exact h
    | _=>exact h.elim
   | halt x k=>cases x<;>first | exact h | exact h.elim
  ·exact absurd h (j _)
 ·rename_i g
  rw[if_neg g] at h;exact h
end Go.Co
namespace Go.Co
open Go
def zx{b:qlA}{a:Array qjx}{listed:Array Bool}{i:Nat}{o:qjx}(h:i∈qil b a listed)(c:a[i]?=some o):(o.after.all λe=>!qj8 b e || listed.getD e.on false)=true:=by
 simp only[qil,qpa,qkg,qio,qkD] at h;have:=h.2.2;rw[c] at this;simpa using this
end Go.Co
namespace Go.Co
open Go
def zY{c:qlA}{a:Array qjx}{listed:Array Bool}(g:qil c a listed=[])(k:listed.size=a.size){i:Nat}{o:qjx}(d:a[i]?=some o)(b:(o.after.all λe=>!qj8 c e || listed.getD e.on false)=true):listed[i]?.getD false=true:=by
 have j:i<a.size:=(qhB.1 d).1;refine qiG λf=>?_;have h:i<listed.size:=by omega
 have:i∈qil c a listed:=by
  simp only[qil,qpa,qkg,qio,qkD];refine⟨j,?_,?_⟩
  ·simp[qjn,qip h] at f ⊢;exact f
  ·rw[d];simpa using b
 rw[g] at this;cases this
def Z1(listed:Array Bool)(i j:Nat)(h:i<listed.size):(listed.setIfInBounds i true)[j]?.getD false=if i=j then true else listed[j]?.getD false:=by
 simp only[qj2];split
 ·rename_i e;subst e;simp[h]
 ·rfl
def J8{c:qlA}{a:Array qjx}{listed:Array Bool}{i:Nat}(h:i∈qil c a listed):listed[i]?.getD false=false:=by
 have:=(zy h).2;simp only[qjn] at this;cases hx:listed[i]? with
 | none=>rfl
 | some b=>rw[hx] at this;exact this
end Go.Co
end
namespace Go.Sim
section
structure Lets where
 f:Nat->Bool
 m:String->Bool
 b:Builtin->Array qid->Bool
section
variable(Q:qi4)(s:Lets)
def yL:qj0->Bool
 | .tmp _=>true
 | .const v=>qd0 v
 | .global g=>decide (g<Q.globals.size)
 | .func f=>s.f f
def xY(l:List qj0):Bool:=l.all (yL Q s)
def q5r:Call->Bool
 | ⟨.value f,a,_⟩=>yL Q s f && xY Q s a.toList
 | ⟨.invoke r n,a,_⟩=>yL Q s r && s.m n && xY Q s a.toList
 | ⟨.builtin b,a,ts⟩=>s.b b ts && xY Q s a.toList
def opC:Op->Bool
 | .move x | .assign x | .nilCheck x | .box _ x | .load _ x | .unOp _ _ x | .makeInterface _ x | .field _ x _ | .extract x _ | .panic x=>yL Q s x
 | .pick c a b=>yL Q s c && yL Q s a && yL Q s b
 | .alloc t=>vh Q t
 | .build t ps=>vh Q t && xY Q s (ps.toList.map (·.2))
 | .buildSlice t _ ps=>QF Q t && xY Q s (ps.toList.map (·.2))
 | .store _ a x=>yL Q s a && yL Q s x
 | .binOp op t x y _=>(if q0B op then q9C Q t x y else q2E Q t) && yL Q s x && yL Q s y
 | .convert a d x=>q89 Q a d && yL Q s x
 | .makeFunc (.func f) a b=>s.f f && xY Q s a.toList && xY Q s b.toList
 | .makeMap _ r=>xY Q s r.toList
 | .makeSlice t l c=>QF Q t && yL Q s l && yL Q s c
 | .slice _ x l h m=>yL Q s x && xY Q s l.toList && xY Q s h.toList && xY Q s m.toList
 | .fieldAddr t x f=>q3a Q t f && yL Q s x
 | .indexAddr _ x i | .index _ x i=>yL Q s x && yL Q s i
 | .lookup t x i _=>KI Q t && yL Q s x && yL Q s i
 | .mapUpdate t m k x | .insert t m k x=>KI Q t && yL Q s m && yL Q s k && yL Q s x
 | .typeAssert x _ a _=>vh Q a && yL Q s x
 | .call c | .defer c=>q5r Q s c
 | _=>false
def kE:qkk->Bool
 | .skip | .exit _ | .label _ | .goto _ | .ret=>true
 | .region _ d _=>d.toList.all λo=>opC Q s o.op
 | .seq a b=>kE a && kE b
 | .cond c a b=>yL Q s c && kE a && kE b
 | .block _ c | .loop c | .scope c=>kE c
 | .rangeFunc f _ a c=>yL Q s f && kE a && kE c
 | _=>false
end
section
variable[JunkSet]{Q:qi4}{s:Lets}(hf:∀f,s.f f=true->JunkSet.okf f)(hm:∀n,s.m n=true->JunkSet.okm n)(hb:∀b ts,s.b b ts=true->JunkSet.okb b ts)
include hf in
theorem qB{x:qj0}(h:yL Q s x=true):qH Q x:=by
 cases x with
 | tmp t=>exact .tmp t
 | const v=>exact .const (q3p h)
 | global g=>exact .global (of_decide_eq_true h)
 | func f=>exact .func (hf f h)
include hf in
theorem jm{l:List qj0}(h:xY Q s l=true):jq Q l:=λx a=>qB hf (qje.1 h x a)
include hf hm hb in
theorem q5q{c:Call}(h:q5r Q s c=true):kB Q c:=by
 obtain⟨d,a,e⟩:=c;cases d with
 | value f=>simp only[q5r,qio] at h;exact .value (qB hf h.1) (jm hf h.2)
 | invoke r n=>simp only[q5r,qio] at h;exact .invoke (qB hf h.1.1) (hm _ h.1.2) (jm hf h.2)
 | builtin b=>simp only[q5r,qio] at h;exact .builtin (hb _ _ h.1) (jm hf h.2)
include hf hm hb in
theorem qfD{o:Op}(h:opC Q s o=true):qP Q o:=by
 cases o with
 | makeFunc v a b=>
  cases v with
  | func f=>simp only[opC,qio] at h;exact .makeFunc (hf _ h.1.1) (jm hf h.1.2) (jm hf h.2)
  | _=>cases h
 | binOp w t x y u=>
  simp only[opC,qio] at h;obtain⟨⟨g,p⟩,j⟩:=h;split at g
  ·rename_i e
   exact .eql e g (qB hf p) (qB hf j)
  ·rename_i e
   exact .arith (by simpa using e) g (qB hf p) (qB hf j)
 | move x=>exact .move (qB hf h)
 | assign x=>exact .assign (qB hf h)
 | nilCheck x=>exact .nilCheck (qB hf h)
 | box t x=>exact .box (qB hf h)
 | load t x=>exact .load (qB hf h)
 | unOp o t x=>exact .unOp (qB hf h)
 | makeInterface t x=>exact .makeInterface (qB hf h)
 | field t x f=>exact .field (qB hf h)
 | extract x i=>exact .extract (qB hf h)
 | panic x=>exact .panic (qB hf h)
 | pick c a b=>simp only[opC,qio] at h;exact .pick (qB hf h.1.1) (qB hf h.1.2) (qB hf h.2)
 | alloc t=>exact .alloc h
 | build t q=>simp only[opC,qio] at h;exact .build h.1 (jm hf h.2)
 | buildSlice t n q=>simp only[opC,qio] at h;exact .buildSlice h.1 (jm hf h.2)
 | store t a x=>simp only[opC,qio] at h;exact .store (qB hf h.1) (qB hf h.2)
 | convert a d x=>simp only[opC,qio] at h;exact .convert h.1 (qB hf h.2)
 | makeMap t r=>exact .makeMap (jm hf h)
 | makeSlice t l c=>simp only[opC,qio] at h;exact .makeSlice h.1.1 (qB hf h.1.2) (qB hf h.2)
 | slice t x l z m=>simp only[opC,qio] at h;exact .slice (qB hf h.1.1.1) (jm hf h.1.1.2) (jm hf h.1.2) (jm hf h.2)
 | fieldAddr t x f=>simp only[opC,qio] at h;exact .fieldAddr h.1 (qB hf h.2)
 | indexAddr t x i=>simp only[opC,qio] at h;exact .indexAddr (qB hf h.1) (qB hf h.2)
 | index t x i=>simp only[opC,qio] at h;exact .index (qB hf h.1) (qB hf h.2)
 | lookup t x i c=>simp only[opC,qio] at h;exact .lookup h.1.1 (qB hf h.1.2) (qB hf h.2)
 | mapUpdate t m k x=>simp only[opC,qio] at h;exact .mapUpdate h.1.1.1 (qB hf h.1.1.2) (qB hf h.1.2) (qB hf h.2)
 | insert t m k x=>simp only[opC,qio] at h;exact .insert h.1.1.1 (qB hf h.1.1.2) (qB hf h.1.2) (qB hf h.2)
 | typeAssert x t a c=>simp only[opC,qio] at h;exact .typeAssert h.1 (qB hf h.2)
 | call c=>exact .call (q5q hf hm hb h)
 | defer c=>exact .defer (q5q hf hm hb h)
 | _=>cases h
include hf hm hb in
theorem q5n{c:qkk}(h:kE Q s c=true):qA Q c:=by
 induction c with
 | skip=>exact .skip
 | exit id=>exact .exit id
 | label l=>exact .label l
 | goto l=>exact .goto l
 | ret=>exact .ret
 | region id k d=>exact .region λo n=>qfD hf hm hb (qje.1 h o n)
 | seq a b e g=>simp only[kE,qio] at h;exact .seq (e h.1) (g h.2)
 | cond c a b e g=>simp only[kE,qio] at h;exact .cond (qB hf h.1.1) (e h.1.2) (g h.2)
 | block id c i=>exact .block (i h)
 | loop c i=>exact .loop (i h)
 | scope c i=>exact .scope (i h)
 | rangeFunc f p a c e j=>simp only[kE,qio] at h;exact .rangeFunc (qB hf h.1.1) (e h.1.2) (j h.2)
 | _=>cases h
end
section
variable{A B:JunkSet}{Q:qi4}(hf:∀f,A.okf f->B.okf f)(hm:∀n,A.okm n->B.okm n)(hb:∀b ts,A.okb b ts->B.okb b ts)
include hf in
theorem qL{x:qj0}(h:@qH A Q x):@qH B Q x:=by
 cases h with
 | tmp t=>exact @qH.tmp B Q t
 | const h=>exact @qH.const B Q _ h
 | global h=>exact @qH.global B Q _ h
 | func h=>exact @qH.func B Q _ (hf _ h)
include hf in
theorem ym{l:List qj0}(h:@jq A Q l):@jq B Q l:=λx a=>qL hf (h x a)
include hf hm hb in
theorem q8d{c:Call}(h:@kB A Q c):@kB B Q c:=by
 cases h with
 | value b a=>exact @kB.value B Q _ _ _ (qL hf b) (ym hf a)
 | invoke b a d=>exact @kB.invoke B Q _ _ _ _ (qL hf b) (hm _ a) (ym hf d)
 | builtin b a=>exact @kB.builtin B Q _ _ _ (hb _ _ b) (ym hf a)
include hf hm hb in
theorem qeH{o:Op}(h:@qP A Q o):@qP B Q o:=by
 cases h with
 | move h=>exact @qP.move B Q _ (qL hf h)
 | assign h=>exact @qP.assign B Q _ (qL hf h)
 | pick b a c=>exact @qP.pick B Q _ _ _ (qL hf b) (qL hf a) (qL hf c)
 | alloc h=>exact @qP.alloc B Q _ h
 | box h=>exact @qP.box B Q _ _ (qL hf h)
 | build b a=>exact @qP.build B Q _ _ b (ym hf a)
 | buildSlice b a=>exact @qP.buildSlice B Q _ _ _ b (ym hf a)
 | load h=>exact @qP.load B Q _ _ (qL hf h)
 | store b a=>exact @qP.store B Q _ _ _ (qL hf b) (qL hf a)
 | nilCheck h=>exact @qP.nilCheck B Q _ (qL hf h)
 | arith b a c d=>exact @qP.arith B Q _ _ _ _ _ b a (qL hf c) (qL hf d)
 | eql b a c d=>exact @qP.eql B Q _ _ _ _ _ b a (qL hf c) (qL hf d)
 | unOp h=>exact @qP.unOp B Q _ _ _ (qL hf h)
 | convert b a=>exact @qP.convert B Q _ _ _ b (qL hf a)
 | makeInterface h=>exact @qP.makeInterface B Q _ _ (qL hf h)
 | makeFunc b a c=>exact @qP.makeFunc B Q _ _ _ (hf _ b) (ym hf a) (ym hf c)
 | makeMap h=>exact @qP.makeMap B Q _ _ (ym hf h)
 | makeSlice b a c=>exact @qP.makeSlice B Q _ _ _ b (qL hf a) (qL hf c)
 | slice b a c d=>exact @qP.slice B Q _ _ _ _ _ (qL hf b) (ym hf a) (ym hf c) (ym hf d)
 | fieldAddr b a=>exact @qP.fieldAddr B Q _ _ _ b (qL hf a)
 | field h=>exact @qP.field B Q _ _ _ (qL hf h)
 | indexAddr b a=>exact @qP.indexAddr B Q _ _ _ (qL hf b) (qL hf a)
 | index b a=>exact @qP.index B Q _ _ _ (qL hf b) (qL hf a)
 | lookup b a c=>exact @qP.lookup B Q _ _ _ _ b (qL hf a) (qL hf c)
 | mapUpdate b a c d=>exact @qP.mapUpdate B Q _ _ _ _ b (qL hf a) (qL hf c) (qL hf d)
 | insert b a c d=>exact @qP.insert B Q _ _ _ _ b (qL hf a) (qL hf c) (qL hf d)
 | typeAssert b a=>exact @qP.typeAssert B Q _ _ _ _ b (qL hf a)
 | extract h=>exact @qP.extract B Q _ _ (qL hf h)
 | call h=>exact @qP.call B Q _ (q8d hf hm hb h)
 | defer h=>exact @qP.defer B Q _ (q8d hf hm hb h)
 | panic h=>exact @qP.panic B Q _ (qL hf h)
include hf hm hb in
theorem q3f{c:qkk}(h:@qA A Q c):@qA B Q c:=by
 induction h with
 | skip=>exact @qA.skip B Q
 | region h=>exact @qA.region B Q _ _ _ λo d=>qeH hf hm hb (h o d)
 | seq _ _ b a=>exact @qA.seq B Q _ _ b a
 | cond h _ _ b a=>exact @qA.cond B Q _ _ _ (qL hf h) b a
 | block _ h=>exact @qA.block B Q _ _ h
 | loop _ h=>exact @qA.loop B Q _ h
 | rangeFunc h _ _ b a=>exact @qA.rangeFunc B Q _ _ _ _ (qL hf h) b a
 | exit id=>exact @qA.exit B Q id
 | scope _ h=>exact @qA.scope B Q _ h
 | label l=>exact @qA.label B Q l
 | goto l=>exact @qA.goto B Q l
 | ret=>exact @qA.ret B Q
end
@[reducible] def JS0(s:Lets)(jk:Nat->Prop):JunkSet:={ jk,okf:=λf=>s.f f=true,okm:=λn=>s.m n=true,okb:=λb a=>s.b b a=true,okc:=λ_=>False,okg:=λ_=>False }
@[reducible] def JS(Q P:qi4)(s:Lets)(jk:Nat->Prop):JunkSet:={ JS0 s jk with okc:=@qA (JS0 s jk) Q,okg:=λf=>(∃g,Q.funcs[f]?=some g/\P.funcs[f]?=some g)/\Q.inits.idxOf? f=none }
def qee(Q P:qi4)(s:Lets)(f:Nat):Bool :=
 match Q.funcs[f]?,P.funcs[f]? with
 | some a,some b=>!a.body.isNone && !b.body.isNone && !(a.name == "runtime.NumGoroutine") && !(b.name == "runtime.NumGoroutine") && (Q.inits.idxOf? f).isNone
 | _,_=>false
def qcD(Q:qi4)(s:Lets)(f:Nat):Bool :=
 match (Q.funcs[f]?).bind (·.body) with
 | some c=>kE Q s c
 | none=>false
def qct{Q P:qi4}{s:Lets}{jk:Nat->Prop}(o:P.toTables=Q.toTables)(p:Q.follows .rangeFuncRecover=true)
  (l:(match Q.info? 0 with | some i=>(i.methods.find? (·.name == "")).isNone | none=>true)=true)
  (hb:∀b k,s.b b k=true->biB Q b k=true)
  (hf:∀f,s.f f=true->qee Q P s f=true) (a:∀f,s.f f=true->Q.funcs[f]?=P.funcs[f]?->qcD Q s f=true)
  (hm:∀n,s.m n=true->∀t i m,Q.info? t=some i->i.methods.find? (·.name == n)=some m->m.path=#[]/\∃f b,m.func=some (f,b)/\s.f f=true/\∀e,Q.underlying t=some (.pointer e)->b=true):@Duo (JS Q P s jk) Q P:=by
 letI:=JS Q P s jk
 have fin:∀f,s.f f=true->∃d fp,Q.funcs[f]?=some d/\P.funcs[f]?=some fp/\d.body.isNone=false/\fp.body.isNone=false/\(d.name == "runtime.NumGoroutine")=false/\(fp.name == "runtime.NumGoroutine")=false/\Q.inits.idxOf? f=none:=by
  intro f h;have:=hf f h;unfold qee at this;cases h1:Q.funcs[f]? with
  | none=>rw[h1] at this;cases this
  | some d=>
   cases h2:P.funcs[f]? with
   | none=>rw[h1,h2] at this;cases this
   | some fp=>
    rw[h1,h2] at this;simp only[qio,qkD,Option.isNone_iff_eq_none] at this;exact⟨d,fp,rfl,rfl,this.1.1.1.1,this.1.1.1.2,this.1.1.2,this.1.2,this.2⟩
 exact{
  bis:=hb
  tables:=o
  funcs:=λf h=>let ⟨d,fp,h1,h2,h3,h4,h5,h6,_⟩:=fin f h;⟨d,fp,h1,h2,h3,h4,h5,h6⟩
  meths:=hm
  nometh:=λi q=>by rw[q] at l;exact l
  codes:=λc=>⟨q3f (A:=JS0 s jk) (B:=JS Q P s jk) (λ_ h=>h) (λ_ h=>h) (λ_ _ h=>h),q3f (A:=JS Q P s jk) (B:=JS0 s jk) (λ_ h=>h) (λ_ h=>h) (λ_ _ h=>h)⟩
  rfr:=p
  bodies:=λf g j h1 h2 c r=>by
   have:=a f j (by rw[h1,h2]);unfold qcD at this;rw[h1,qnx,r] at this;exact q5n (s:=s) (λ_ h=>h) (λ_ h=>h) (λ_ _ h=>h) this
  inits:=λf h=>let ⟨_,_,_,_,_,_,_,_,h7⟩:=fin f h;h7
  same:=λf=>Iff.rfl }
end
section
structure qgi where
 j:JunkSet
structure Up(A B:JunkSet):Prop where
 f:∀x,A.okf x->B.okf x
 m:∀x,A.okm x->B.okm x
 b:∀x y,A.okb x y->B.okb x y
 c:∀x,A.okc x->B.okc x
 g:∀x,A.okg x->B.okg x
 j:A.jk=B.jk
section
variable{A B:JunkSet}(U:Up A B){Z:Ren}
include U
theorem FnR.up{x y:Fn}(h:@FnR A Z x y):@FnR B Z x y:=by
 cases h with
 | func f h=>exact @FnR.func B Z f (U.f _ h)
 | yield h=>exact @FnR.yield B Z _ _ h
theorem VR.up{x y:qhC}(h:@VR A Z x y):@VR B Z x y:=by
 induction h with
 | bool b=>exact @VR.bool B Z b
 | int k n=>exact @VR.int B Z k n
 | string s=>exact @VR.string B Z s
 | ptrNil=>exact @VR.ptrNil B Z
 | ptr e d h=>exact @VR.ptr B Z _ _ e d h
 | sliceNil n c=>exact @VR.sliceNil B Z n c
 | slice e d n c h=>exact @VR.slice B Z _ _ e d n c h
 | mapNil=>exact @VR.mapNil B Z
 | map h=>exact @VR.map B Z _ _ h
 | func j o _ l _ i g=>exact @VR.func B Z _ _ _ _ _ _ (FnR.up U j) o i l g
 | nilFunc=>exact @VR.nilFunc B Z
 | iface t _ f=>exact @VR.iface B Z t _ _ f
 | nilIface=>exact @VR.nilIface B Z
 | agg h _ f=>exact @VR.agg B Z _ _ h f
 | tuple h _ f=>exact @VR.tuple B Z _ _ h f
 | wild y h=>exact @VR.wild B Z y h
 | meth n a c=>exact @VR.meth B Z n a c
theorem AsR.up{x y:Array qhC}(h:@AsR A Z x y):@AsR B Z x y:=⟨h.1,λi a b d c=>VR.up U (h.2 i a b d c)⟩
theorem kI.up{x y:qlp}(h:@kI A Z x y):@kI B Z x y:=@kI.mk B Z x y (VR.up U (@kI.key A Z x y h)) (VR.up U (@kI.val A Z x y h)) (@kI.born A Z x y h)
theorem yE.up{x y:Target}(h:@yE A Z x y):@yE B Z x y:=by
 cases h with
 | fn e d=>exact @yE.fn B Z _ _ _ _ (FnR.up U e) (AsR.up U d)
 | meth n h=>exact @yE.meth B Z n (U.m _ h)
 | nil=>exact @yE.nil B Z
 | builtin b a t c h=>exact @yE.builtin B Z b a t c (U.b _ _ h)
 | collected h=>exact @yE.collected B Z _ _ h
theorem ku.up{x y:qk6}(h:@ku A Z x y):@ku B Z x y:=by
 cases h with
 | mk b a=>exact @ku.mk B Z x y (yE.up U b) (AsR.up U a)
 | bound b a c=>exact @ku.bound B Z x y b a c
theorem Zr.up{x y:Loop}(h:@Zr A Z x y):@Zr B Z x y:=by
 obtain⟨q,p,o,n,l,k,j,i,f,d,b,a⟩:=h;exact @Zr.mk B Z x y q p o (AsR.up U n) l k j i (U.g _ f) (U.c _ d) (U.c _ b) λc e=>U.c _ (a c e)
theorem ObR.up{x y:Obj}(h:@ObR A Z x y):@ObR B Z x y:=by
 cases h with
 | cells e f d=>exact @ObR.cells B Z _ _ e _ _ (AsR.up U f) d
 | map c h=>exact @ObR.map B Z _ _ c (h.imp λ_ _ k=>kI.up U k)
 | stringIter s p=>exact @ObR.stringIter B Z s p
 | mapIterNil a s b=>exact @ObR.mapIterNil B Z a s b
 | mapIter a s b h=>exact @ObR.mapIter B Z _ _ a s b h
 | loop h=>exact @ObR.loop B Z _ _ (Zr.up U h)
 | number o s x h=>exact @ObR.number B Z _ _ o s x h
 | deferredNone=>exact @ObR.deferredNone B Z
 | deferred h=>exact @ObR.deferred B Z _ _ (h.imp λ_ _ k=>ku.up U k)
theorem WR.up{Q:qi4}{base:Nat}{a w:qhy}(h:@WR A Q base Z a w):@WR B Q base Z a w:=by
 obtain⟨u,t,s,r,q,p,n,l⟩:=h;refine @WR.mk B Q base Z a w u t s (λi j o k f=>?_) q p (λi g=>n i (by rw[U.j];exact g)) l;rcases r i j o k f with⟨c,b⟩ | ⟨c,d,b,e⟩
 ·exact .inl ⟨by rw[<- U.j];exact c,b⟩
 ·exact .inr ⟨by rw[<- U.j];exact c,d,b,ObR.up U e⟩
theorem qA.up{Q:qi4}{c:qkk}(h:@qA A Q c):@qA B Q c:=q3f (A:=A) (B:=B) U.f U.m U.b h
theorem qP.up{Q:qi4}{o:Op}(h:@qP A Q o):@qP B Q o:=qeH (A:=A) (B:=B) U.f U.m U.b h
theorem zp.up{Q:qi4}{x y:qm1}(h:@zp A Q Z x y):@zp B Q Z x y:=by
 cases h with
 | code h=>exact @zp.code B Q Z _ (qA.up U h)
 | inBlock id=>exact @zp.inBlock B Q Z id
 | inLoop h=>exact @zp.inLoop B Q Z _ (qA.up U h)
 | inScope h=>exact @zp.inScope B Q Z _ (qA.up U h)
 | inRegion l h=>exact @zp.inRegion B Q Z _ l λo a=>qP.up U (h o a)
 | inRangeFunc h=>exact @zp.inRangeFunc B Q Z _ _ h
 | endRangeFunc h=>exact @zp.endRangeFunc B Q Z _ _ h
 | beginRound=>exact @zp.beginRound B Q Z
theorem Jq.up{x y:qn6}(h:@Jq A Z x y):@Jq B Z x y:=by
 obtain⟨c,b,a⟩:=h;exact @Jq.mk B Z x y (VR.up U c) b a
theorem vd.up{x y:FrameMode}(h:@vd A Z x y):@vd B Z x y:=by
 cases h with
 | run=>exact @vd.run B Z
 | returning=>exact @vd.returning B Z
 | panicking h=>exact @vd.panicking B Z _ _ (h.imp λ_ _ k=>Jq.up U k)
theorem qx.up{Q P:qi4}{x y:qi5}(h:@qx A Q P Z x y)(a:∃g,Q.funcs[x.fn]?=some g/\Q.funcs[x.fn]?=some g):@qx B Q Q Z x y:=by
 obtain⟨l,n,j,i,f,e,d,c,b⟩:=h;exact @qx.mk B Q Q Z x y l a j (AsR.up U i) (f.imp λ_ _ k=>zp.up U k) (e.imp λ_ _ k=>ku.up U k) (vd.up U d) c b
theorem ve.up{Q P:qi4}{x y:qhD}(h:@ve A Q P Z x y):@ve B Q Q Z x y:=by
 obtain⟨c,j,i,f,e,d⟩:=h;exact @ve.mk B Q Q Z x y (qx.up U c (let ⟨g,k,_⟩:=@qx.same A Q P Z _ _ c;⟨g,k,k⟩)) (j.imp λa b k=>qx.up U k (let ⟨g,k,_⟩:=@qx.same A Q P Z a b k;⟨g,k,k⟩)) i f e d
end
end
end Go.Sim
namespace Go.Co
section
open Go.Conc Go.ConcN Go.Sim
section
variable[J:JunkSet](Q P:qi4)(f:qjf)(Post:qhC->qhy->Prop)(W:qhy)
structure Rl(Z:Ren)(g:qhD)(wq:qhy)(g':qhD)(w:qhy):Prop where
 wr:WR Q W.heap.size Z wq w
 ln:W.heap.size<=Z.length
 gl:Gl P Z
 stack:∃pre,g.callers=pre++[qk f]
 rel:∃gv,ve Q P Z g gv/\g'=swap [] gv
def EL(g:qhD)(wq:qhy):Prop :=
 ∀Z d w c,Rl Q P f W Z g wq d w->vf c Z->(∀b,w.heap.size<=b->c b=.mine 0)->kA W.heap.size W.heap.size W Z w->(∀b,b<W.heap.size->c b=.mine 0)->E P Post c d w
def LF(g:qhD)(u:qhy):Prop:=Live g/\(∃pre,g.callers=pre++[qk f])/\Q.funcs[g.frame.fn]?=P.funcs[g.frame.fn]?/\EL Q P f Post W g u
structure Two:Prop where
 H:Duo Q P
 HQ:∃B:qgi,Up J B.j/\@Duo B.j Q Q
 hrf:P.follows .rangeFuncRecover=true
 stub:∀fk,Q.funcs[fk]?≠P.funcs[fk]?->∀a k cs u,∃o w es,qjc Q true { frame:=qj1 Q fk a k,callers:=cs,status:=.running,dying:=none } u true=.ended o w es
end
section
variable[J:JunkSet]{Q P:qi4}{f:qjf}{Post:qhC->qhy->Prop}{W:qhy}
def EL.tape{g:qhD}{wq:qhy}(h:EL Q P f Post W g wq)(T:Nat->qk9->Nat):EL Q P f Post W g (wq.tp T):=by
 rintro Z q w r ⟨c,d,p,o,n⟩ e j i hm;exact h Z q w r ⟨⟨c.len,c.nodup,c.lt,c.obj,c.low,c.env,c.below,c.gar⟩,d,p,o,n⟩ e j i hm
def LF.tape{g:qhD}{u:qhy}(T:Nat->qk9->Nat)(h:LF Q P f Post W g u):LF Q P f Post W g (u.tp T):=⟨h.1,h.2.1,h.2.2.1,h.2.2.2.tape T⟩
def Qg(c:qi5):qis c []=none:=by
 unfold qis;simp
def EL.of_tree(D:Two Q P){g:qhD}{wq:qhy}(t:∀Z q w,Rl Q P f W Z g wq q w->LT Q (LF Q P f Post W) g wq):EL Q P f Post W g wq:=by
 intro Z q w j h l p n hm;have y:∀g u,LF Q P f Post W g u->g.callers≠[]:=λg u ⟨_,⟨pre,e⟩,_⟩=>by rw[e];simp
 refine E.sub (Cp:=λj=>∀b,b<W.heap.size->j b=.mine 0) (Q:=Q) (F:=LF Q P f Post W) (f:=f) (real:=[]) (W:=W) D.H D.hrf Qg y ?_ ?_ (Z:=Z) (g:=g) (wq:=wq) ⟨h.ln,h.wr,h.gl,t _ _ _ h,h.stack,h.rel⟩ l p n hm
 ·intro Z g wq q w j i v l p n hm;exact v.2.2.2 Z q w j ⟨i.wr,i.len,i.gl,i.stack,i.rel⟩ l p n hm
 ·intro Z A k a L c I pre r wq w j d l p n _ _;exfalso;have⟨o,u,G,e⟩:=D.stub A d.diff a k (c::(pre++[qk f])) (wq.tp wq.tape);cases d.tree with
  | done x=>exact d.diff x.2.2.1
  | step _ z _=>
   have⟨C,u1,B,s,_⟩:=z wq.tape;rw[e] at s;cases s
def Rl.rel1{B:qgi}(U:Up J B.j){Z:Ren}{g:qhD}{wq:qhy}{l:qhD}{w:qhy}(D:Two Q P)(h:Rl Q P f W Z g wq l w):@xV B.j Q W.heap.size g wq:=by
 have⟨e,d,_⟩:=h.rel;exact⟨Z,e,w,h.ln,WR.up U h.wr,λi c=>h.gl i (by rw[D.H.gsize];exact c),ve.up U d⟩
def EL.of_runs(D:Two Q P){o:qi5}{cs:List qi5}{wq:qhy}(q:∀T,∃c d u1,Steps Q (lone o cs (wq.tp T)) (lone c d u1)/\(∃pre,d=pre++[qk f])/\Q.funcs[c.fn]?=P.funcs[c.fn]?/\EL Q P f Post W (G c d) u1) :EL Q P f Post W (G o cs) wq:=by
 refine EL.of_tree D λZ v w h=>?_;have⟨pre,l⟩:=h.stack;have⟨B,U,p⟩:=D.HQ;have i:=h.rel1 U D;refine @LT.of_all B.j Q W.heap.size _ p (λg u T=>LF.tape T) _ _ i λT=>?_;have⟨c,d,u1,⟨n,s⟩,e,r,t⟩:=q T;exact @LP.of_runs B.j Q W.heap.size _ p f n (g:=G o cs) (g1:=G c d) (u:=wq.tp T) (u1:=u1) (pre:=pre) (@xV.tape B.j Q W.heap.size _ _ i T) ⟨rfl,rfl⟩ l s ⟨rfl,rfl⟩ e ⟨⟨rfl,rfl⟩,e,r,t⟩
def Bot(f:qjf)(cs:List qi5):Prop:=∃pre,cs=pre++[qk f]
def Bot.cons{cs:List qi5}{c:qi5}(h:Bot f cs):Bot f (c::cs):=by
 obtain⟨pre,rfl⟩:=h;exact⟨c::pre,rfl⟩
def qgh(Q P:qi4)[J:JunkSet](f:qjf)(Post:qhC->qhy->Prop)(W:qhy)(b:qi5)(k:List qm1)(cs:List qi5):Exit->Act->qhy->Prop
 | .normal,a,w=>EL Q P f Post W (G (b.at a k) cs) w
 | .exit id,a,w=>∃d,qnq id k=some d/\EL Q P f Post W (G (b.at a d) cs) w
 | .ret,a,w=>∀c,EL Q P f Post W (G { b.at a c with mode:=.returning } cs) w
 | _,_,_=>False
section
variable{b:qi5}{a:Act}{k:List qm1}{cs:List qi5}{wq:qhy}
def EL.land(D:Two Q P)(j:Bot f cs)(i:Q.funcs[b.fn]?=P.funcs[b.fn]?){p:qi5}(r:∀T,∃e o d,qgh Q P f Post W b k cs e o d/\Arrives Q (lone p cs (wq.tp T)) b k cs e o d):EL Q P f Post W (G p cs) wq:=by
 refine EL.of_runs D λT=>?_;have⟨e,o,d,g,c⟩:=r T;cases e with
 | normal=>exact⟨_,cs,d,c,j,i,g⟩
 | exit id=>
  obtain⟨q,s,t⟩:=g;exact⟨_,cs,d,c q s,j,i,t⟩
 | goto l=>exact g.elim
 | ret=>
  obtain⟨h,c⟩:=c;exact⟨_,cs,d,c,j,i,g h⟩
 | panic n=>exact g.elim
 | outgrown=>exact g.elim
def EL.piece(D:Two Q P)(e:Bot f cs)(d:Q.funcs[b.fn]?=P.funcs[b.fn]?){c:qkk}(h:∀T,c.wp Q (qgh Q P f Post W b k cs) a (wq.tp T)):EL Q P f Post W (G (b.at a (.code c::k)) cs) wq :=
 EL.land D e d λT=>h T b k cs
end
end
end
section
open Go.Conc Go.ConcN Go.Sim
def EE(P:qi4)(Post:qhC->qhy->Prop)(cl:Nat->Cl)(g:qhD)(w:qhy):Prop:=∀d,E P Post cl g (w.at d)
section
variable{P:qi4}{Post:qhC->qhy->Prop}{cl:Nat->Cl}
def EE.pure{g g':qhD}{w:qhy}(e:g.status=.running)(h:∀w,qjc P true g w=.go g' w #[])(f:EE P Post cl g' w):EE P Post cl g w :=
 λd=>E.step e λc=>⟨g',(w.at d).at c,#[],h _,qhz _,by simp,f c⟩
def EE.raw{g o:qhD}{w:qhy}(f:qhy)(c:Nat->Cl)(q:g.status=.running)(h:∀d,∃i,qjc P true g (w.at d)=.go o (f.at d) i/\∀e∈i,EvG c f.heap.size 0 e/\jy e)(j:w.heap.size<=f.heap.size)(l:∀b,b<w.heap.size->c b=cl b)(n:∀b,f.heap.size<=b->c b=.mine 0)(r:EE P Post c o f):EE P Post cl g w :=
 λd=>E.stepC q λp=>by
  have⟨i,t,s⟩:=h p;exact⟨o,f.at p,i,c,t,j,l,n,s,r p⟩
section
variable{b:qi5}{a:Act}{k:List qm1}{cs:List qi5}{w:qhy}
def EE.seq{x y:qkk}(h:EE P Post cl (G (b.at a (.code x::.code y::k)) cs) w):EE P Post cl (G (b.at a (.code (.seq x y)::k)) cs) w:=.pure rfl (λ_=>qif) h
def EE.block{id:Nat}{c:qkk}(h:EE P Post cl (G (b.at a (.code c::.inBlock id::k)) cs) w):EE P Post cl (G (b.at a (.code (.block id c)::k)) cs) w:=.pure rfl (λ_=>qod) h
def EE.loop{c:qkk}(h:EE P Post cl (G (b.at a (.code c::.inLoop c::k)) cs) w):EE P Post cl (G (b.at a (.code (.loop c)::k)) cs) w:=.pure rfl (λ_=>qr9) h
def EE.region{id:Nat}{c:Array qjx}(h:EE P Post cl (G (b.at a (.inRegion c (qiz c.size)::k)) cs) w):EE P Post cl (G (b.at a (.code (.region id c false)::k)) cs) w:=.pure rfl (λ_=>stepG_region) h
def EE.region_end{c:Array qjx}(h:EE P Post cl (G (b.at a k) cs) w):EE P Post cl (G (b.at a (.inRegion c []::k)) cs) w:=.pure rfl (λ_=>qhF) h
def EE.retS(h:EE P Post cl (G { b.at a (.code .ret::k) with mode:=.returning } cs) w):EE P Post cl (G (b.at a (.code .ret::k)) cs) w:=.pure rfl (λ_=>qkB) h
def EE.value{c:Array qjx}{i:Nat}{d:List Nat}{o:qjx}(v:qhC)(g:c[i]?=some o)(e:qiy o (qjG c a.tmps)=true)(j:b.kind≠.early)(f:∀w,(ql0 a.eval o).run P w=.ok (.value v) w)(l:∀w,(ql0 a.eval o).events P w #[]=#[])(h:EE P Post cl (G (b.at (a.put o.dst v) (.inRegion c d::k)) cs) w):EE P Post cl (G (b.at a (.inRegion c (i::d)::k)) cs) w :=
 .pure rfl (λw=>by rw[qql g e j (f w)];unfold listed;rw[l w,seen_none]) h
def EE.op[JunkSet]{f:Array qjx}{i:Nat}{g:List Nat}{o:qjx}(v:qhC)(j:qhy)(c:Nat->Cl)(s:f[i]?=some o)(q:qiy o (qjG f a.tmps)=true)(t:b.kind≠.early)(r:∀d,(ql0 a.eval o).run P (w.at d)=.ok (.value v) (j.at d))(u:∀d,∀e∈(ql0 a.eval o).events P (w.at d) #[],EvG c j.heap.size 0 e/\jy e)(l:w.heap.size<=j.heap.size)(n:∀b,b<w.heap.size->c b=cl b)(p:∀b,j.heap.size<=b->c b=.mine 0)(h:EE P Post c (G (b.at (a.put o.dst v) (.inRegion f g::k)) cs) j):EE P Post cl (G (b.at a (.inRegion f (i::g)::k)) cs) w :=
 .raw j c rfl (λd=>⟨_,qql s q t (r d),λe hm=>u d e (kR _ _ _ e hm)⟩) l n p h
def q0r{e:Bool}{d:Array qjx}{i:Nat}{c:List Nat}{o:qjx}{w h:qhy}(j:d[i]?=some o)(l:qiy o (qjG d a.tmps)=true)(p:b.kind≠.early)(n:(ql0 a.eval o).run P w=.ok .skip h) :qjc P e (G (b.at a (.inRegion d (i::c)::k)) cs) w=.go (G (b.at (a.put o.dst qhE) (.inRegion d c::k)) cs) h (listed P b.fn a o w):=by
 have f:(b.at a (.inRegion d (i::c)::k)).finish qhE=b.at (a.put o.dst qhE) (.inRegion d c::k):=by rw[qkm,j];rfl
 have g:(b.kind == CallKind.early)=false:=by simpa using p
 rw[stepG_oper j l,<- f];simp[qjp,n,G,Frame.at,g,qjg,listed]
def EE.store[JunkSet]{c:Array qjx}{i:Nat}{f:List Nat}{o:qjx}(g:qhy)(q:c[i]?=some o)(n:qiy o (qjG c a.tmps)=true)(r:b.kind≠.early)(p:∀d,(ql0 a.eval o).run P (w.at d)=.ok .skip (g.at d))(s:∀d,∀e∈(ql0 a.eval o).events P (w.at d) #[],EvG cl g.heap.size 0 e/\jy e)(j:g.heap.size=w.heap.size)(l:∀b,w.heap.size<=b->cl b=.mine 0)(h:EE P Post cl (G (b.at (a.put o.dst qhE) (.inRegion c f::k)) cs) g):EE P Post cl (G (b.at a (.inRegion c (i::f)::k)) cs) w :=
 .raw g cl rfl (λd=>⟨_,q0r q n r (p d),λe hm=>s d e (kR _ _ _ e hm)⟩) (qn5 j.symm) (λ_ _=>rfl) (λb t=>l b (by omega)) h
def EE.enter{c:Array qjx}{i:Nat}{d:List Nat}{o:qjx}{f:qjf}{g:Func}{args:Array qj0}{j:Array qid}(p:c[i]?=some o)(n:qiy o (qjG c a.tmps)=true)(q:b.kind≠.early)(e:o.op=.call { callee:=.value (.func f),args,argTypes:=j })(hf:P.funcs[f]?=some g)(hname:(g.name == "runtime.NumGoroutine")=false)(hb:g.body.isNone=false)(h:EE P Post cl (G (qj1 P f (args.map a.eval) .normal) (b.at a (.inRegion c (i::d)::k)::cs)) w) :EE P Post cl (G (b.at a (.inRegion c (i::d)::k)) cs) w :=
 .pure rfl (λw=>by
  rw[stepG_enter p n q (qnj e hf hname hb)];have:listed P b.fn a o w=#[]:=by unfold listed;rw[events_call_body e hf hname hb];exact seen_none P _
  rw[this]) h
def EE.leave1{b₀:qi5}{a₀:Act}{d:Array qjx}{i:Nat}{c:List Nat}{e:List qm1}{g:Func}{t:Tmp}(j:b.kind=.normal)(n:a.defers=[])(l:P.funcs[b.fn]?=some g)(f:g.results=#[.tmp t])(h:EE P Post cl (G (b₀.at (a₀.put ((d[i]?).bind (·.dst)) (a.tmps.getD t qhE)) (.inRegion d c::k)) cs) w):EE P Post cl (G { b.at a e with mode:=.returning } (b₀.at a₀ (.inRegion d (i::c)::k)::cs)) w :=
 .pure rfl (λw=>by rw[stepG_leave j n l (results_tmp f _ P w) (qo8 f _ _),qkm]) h
end
end
def q2C{c:qi5}{cs:List qi5}(hm:c.mode=.run)(d:c.kind=.normal)(f:qi5):qis f (c::cs)=none:=by
 have e:qis c cs=none:=by
  unfold qis;rw[d]
 unfold qis;split
 ·rename_i h
  cases h;rw[hm]
 ·rename_i h
  cases h;rw[e];rfl
 ·rfl
section
variable[J:JunkSet]{Q P:qi4}{Post:qhC->qhy->Prop}{cl:Nat->Cl}{M N:Nat}
def E.subc(D:Two Q P){F:qhD->qhy->Prop}{f:qjf}{l:List qi5}{W:qhy}{ρ0:Ren}(hR:∀fr,qis fr l=none)(hF:∀g u,F g u->g.callers=[qk f])(r:∀Z g p t w,Sub Q P M F f l Z g p t w->F g p->Le ρ0 Z->(∀i j,BR Z i j->BR ρ0 i j\/W.heap.size<=j)->vf cl Z->(∀b,w.heap.size<=b->cl b=.mine 0)->kA M N W Z w->E P Post cl t w){Z:Ren}{g t:qhD}{p w:qhy}(h:Sub Q P M F f l Z g p t w)(z:Le ρ0 Z)(B:∀i j,BR Z i j->BR ρ0 i j\/W.heap.size<=j)(ho:vf cl Z)(V:∀b,w.heap.size<=b->cl b=.mine 0)(S:kA M N W Z w):E P Post cl t w:=by
 have q:Acc (Below Q F) (g,p):=h.tree.acc;generalize hx:(g,p)=x at q;induction q generalizing Z g p t w with
 | intro x _ ih=>
  subst hx;by_cases hn:F g p
  ·exact r Z g p t w h hn z B ho V S
  ·refine E.step (vk h) λd=>?_;have⟨O,Y,n,G,I,es,X,h2,s,h4,_,v⟩:=(q2v h d).stepK D.H D.hrf hR hn true (λg u hg=>by rw[hF g u hg];simp);have C:Sub Q P M F f l O Y n G I:=by
    rcases v with v | ⟨fk,k,a,a',c,c',pre,a6,v,rfl,rfl⟩
    ·exact v
    ·exfalso;have⟨o,u,es,e⟩:=D.stub fk v.diff a k (c::(pre++[qk f])) (n.tp n.tape);cases v.tree with
     | done hh=>
      have:=hF _ _ hh;simp at this
     | step _ X _=>
      have⟨Y,u1,e4,e1,_⟩:=X n.tape;rw[e] at e1;cases e1
   have y:vf cl O:=ho.step (w:=w.at d) s V;have U:∀b,I.heap.size<=b->cl b=.mine 0:=λb hb=>V b (qi1 s.size hb);have R:kA M N W O I:=kA.step (w:=w.at d) (S.at d) s;refine⟨G,I,es,X,s.size,λe he=>vz y C.wr (h4 e he),?_⟩;refine ih (Y,n) h2 C (z.trans s.le) (λi j A=>?_) y U R rfl;rcases qk2 i Z.length with L | T
   ·exact B i j (BR.back s.le A L)
   ·exact .inr (qi1 S.size (s.fresh i j A T))
def EE.call(D:Two Q P){f:qjf}{aq ap:Array qhC}{R:qhC->qhy->Prop}{c:qi5}{cs:List qi5}{Z:Ren}{wq w:qhy}(t:JunkSet.okf f)(hs:Q.funcs[f]?=P.funcs[f]?)(ha:AsR Z aq ap)(y:M<=Z.length)(hw:WR Q M Z wq w)(hG:Gl P Z)(hc:∀T,qiw Q f aq (wq.tp T) λe u=>∃v,e=.returned v/\R v u)(b7:c.mode=.run)(b9:c.kind=.normal)(ho:vf cl Z)(b8:∀b,w.heap.size<=b->cl b=.mine 0)(C:∀O l v I n,R v l->VR O v I->WR Q M O l n->Le Z O->(∀i j,BR O i j->BR Z i j\/w.heap.size<=j)->vf cl O->(∀b,n.heap.size<=b->cl b=.mine 0)->kA M 0 w O n->EE P Post cl (G (c.finish I) cs) n) :EE P Post cl (G (qj1 P f ap .normal) (c::cs)) w:=by
 intro d;have⟨B,U,HQ⟩:=D.HQ;have q:=qae hw d;have S:@xV B.j Q M (yw Q f aq [qk f]) wq:=⟨Z,_,w.at d,y,WR.up U q,λi hi=>hG i (by rw[D.H.gsize];exact hi),ve.up U (q02 D.H t hs ha)⟩;have ht:=@LT.of_calls B.j Q M HQ f aq wq (λe u=>∃v,e=.returned v/\R v u) hc (λu ⟨v,h,_⟩=>by cases h) S;have r:Sub Q P M (AtRet Q f [qk f] λe u=>∃v,e=.returned v/\R v u) f (c::cs) Z (yw Q f aq [qk f]) wq (G (qj1 P f ap .normal) (c::cs)) (w.at d) :=
  Sub.enter D.H t hs ha y q hG ht
 refine E.subc D (W:=w) (N:=0) (q2C b7 b9) (λg u h=>h.2.1) ?_ r (Le.refl _) (λi j h=>.inl h) ho b8 ⟨λ_ _ _=>rfl,rfl,rfl,qhz _,λ_ _ _ _=>qix _,qix _⟩;intro O g l g' n s hF a7 b0 X F z;refine E.step (vk s) λL=>?_;obtain⟨hl,b6,g6,T,e,⟨v,rfl,hR⟩,Y⟩:=hF;have⟨V,d8,I,p,es,k1,k2,k3,k4,o,k6⟩:=Sub.ret D.H (q2v s L) b6 Y true;subst k4;have x:vf cl V:=X.step (w:=n.at L) o F;have c3:∀b,p.heap.size<=b->cl b=.mine 0:=λb hb=>F b (qi1 o.size hb);have a8:kA M 0 w V p:=kA.step (w:=n.at L) (z.at L) o;refine⟨_,p,es,k1,o.size,λe he=>vz x k3 (k6 e he),?_⟩;have:=C V _ v I p hR k2 k3 (a7.trans o.le) (λi j A=>?_) x c3 a8
 ·exact this p.drawn
 ·rcases qk2 i O.length with a6 | a9
  ·exact b0 i j (BR.back o.le A a6)
  ·exact .inr (qi1 z.size (o.fresh i j A a9))
end
end
section
open Go.Conc Go.ConcN Go.Sim
section
variable{P:qi4}{Fz:Bs}{K:qhy->qhy->Prop}{Stop:Bs->qhD->qhy->Prop}{S:Bs}
def ql.pure{g g':qhD}{w:qhy}(hK:∀a b c,K a b->K b c->K a c)(d:g.status=.running)(h:∀w,qjc P false g w=.go g' w #[])(e:ql P Fz K Stop S g' w):ql P Fz K Stop S g w :=
 ql.still d (λw₁ _=>h w₁) λ_ h₁=>e.rely hK h₁
section
variable(hK:∀a b c,K a b->K b c->K a c){b:qi5}{a:Act}{k:List qm1}{cs:List qi5}{w:qhy}
include hK
theorem ql.seq{x y:qkk}(h:ql P Fz K Stop S (G (b.at a (.code x::.code y::k)) cs) w):ql P Fz K Stop S (G (b.at a (.code (.seq x y)::k)) cs) w:=.pure hK rfl (λ_=>qif) h
theorem ql.skip(h:ql P Fz K Stop S (G (b.at a k) cs) w):ql P Fz K Stop S (G (b.at a (.code .skip::k)) cs) w:=.pure hK rfl (λ_=>qjr) h
theorem ql.cond{c:qj0}{x y:qkk}(t:Bool)(d:a.eval c=.bool t)(h:ql P Fz K Stop S (G (b.at a (.code (if t then x else y)::k)) cs) w):ql P Fz K Stop S (G (b.at a (.code (.cond c x y)::k)) cs) w:=.pure hK rfl (λ_=>stepG_cond d) h
theorem ql.block{id:Nat}{c:qkk}(h:ql P Fz K Stop S (G (b.at a (.code c::.inBlock id::k)) cs) w):ql P Fz K Stop S (G (b.at a (.code (.block id c)::k)) cs) w:=.pure hK rfl (λ_=>qod) h
theorem ql.inBlock{id:Nat}(h:ql P Fz K Stop S (G (b.at a k) cs) w):ql P Fz K Stop S (G (b.at a (.inBlock id::k)) cs) w:=.pure hK rfl (λ_=>stepG_inBlock) h
theorem ql.loop{c:qkk}(h:ql P Fz K Stop S (G (b.at a (.code c::.inLoop c::k)) cs) w):ql P Fz K Stop S (G (b.at a (.code (.loop c)::k)) cs) w:=.pure hK rfl (λ_=>qr9) h
theorem ql.inLoop{c:qkk}(h:ql P Fz K Stop S (G (b.at a (.code c::.inLoop c::k)) cs) w):ql P Fz K Stop S (G (b.at a (.inLoop c::k)) cs) w:=.pure hK rfl (λ_=>stepG_inLoop) h
theorem ql.region{id:Nat}{c:Array qjx}(h:ql P Fz K Stop S (G (b.at a (.inRegion c (qiz c.size)::k)) cs) w):ql P Fz K Stop S (G (b.at a (.code (.region id c false)::k)) cs) w:=.pure hK rfl (λ_=>stepG_region) h
theorem ql.region_end{c:Array qjx}(h:ql P Fz K Stop S (G (b.at a k) cs) w):ql P Fz K Stop S (G (b.at a (.inRegion c []::k)) cs) w:=.pure hK rfl (λ_=>qhF) h
theorem ql.retS(h:ql P Fz K Stop S (G { b.at a (.code .ret::k) with mode:=.returning } cs) w):ql P Fz K Stop S (G (b.at a (.code .ret::k)) cs) w:=.pure hK rfl (λ_=>qkB) h
theorem ql.endS(h:ql P Fz K Stop S (G { b.at a [] with mode:=.returning } cs) w):ql P Fz K Stop S (G (b.at a []) cs) w:=.pure hK rfl (λ_=>qrC) h
theorem ql.value{c:Array qjx}{i:Nat}{d:List Nat}{o:qjx}(v:qhC)(g:c[i]?=some o)(e:qiy o (qjG c a.tmps)=true)(j:b.kind≠.early)(f:∀w,(ql0 a.eval o).run P w=.ok (.value v) w)(l:∀w,(ql0 a.eval o).events P w #[]=#[])(h:ql P Fz K Stop S (G (b.at (a.put o.dst v) (.inRegion c d::k)) cs) w):ql P Fz K Stop S (G (b.at a (.inRegion c (i::d)::k)) cs) w :=
 .pure hK rfl (λw=>by rw[qql g e j (f w)];unfold listed;rw[l w,seen_none]) h
theorem ql.unwanted{c:Array qjx}{i:Nat}{d:List Nat}{o:qjx}(f:c[i]?=some o)(e:qiy o (qjG c a.tmps)=false)(h:ql P Fz K Stop S (G (b.at (a.put o.dst qhE) (.inRegion c d::k)) cs) w):ql P Fz K Stop S (G (b.at a (.inRegion c (i::d)::k)) cs) w :=
 .pure hK rfl (λ_=>stepG_unwanted f e) h
theorem ql.enter{d:Array qjx}{i:Nat}{e:List Nat}{o:qjx}{f:qjf}{n:Func}{c:qkk}{args:Array qj0}{p:Array qid}(r:d[i]?=some o)(q:qiy o (qjG d a.tmps)=true)(s:b.kind≠.early)(g:o.op=.call { callee:=.value (.func f),args,argTypes:=p })(hf:P.funcs[f]?=some n)(hname:(n.name == "runtime.NumGoroutine")=false)(hb:n.body=some c)(h:ql P Fz K Stop S (G ((base f).at { tmps:=args.map a.eval++qj4 (n.ntmps - (args.map a.eval).size) qhE,defers:=[] } [.code c]) (b.at a (.inRegion d (i::e)::k)::cs)) w) :ql P Fz K Stop S (G (b.at a (.inRegion d (i::e)::k)) cs) w :=
 .pure hK rfl (λw=>by
  have j:n.body.isNone=false:=by rw[hb];rfl
  rw[stepG_enter r q s (qnj g hf hname j),enter_at _ hf hb];have:listed P b.fn a o w=#[]:=by unfold listed;rw[events_call_body g hf hname j];exact seen_none P _
  rw[this]) h
theorem ql.leave1{b₀:qi5}{a₀:Act}{d:Array qjx}{i:Nat}{c:List Nat}{e:List qm1}{g:Func}{t:Tmp}(j:b.kind=.normal)(n:a.defers=[])(l:P.funcs[b.fn]?=some g)(f:g.results=#[.tmp t])(h:ql P Fz K Stop S (G (b₀.at (a₀.put ((d[i]?).bind (·.dst)) (a.tmps.getD t qhE)) (.inRegion d c::k)) cs) w):ql P Fz K Stop S (G { b.at a e with mode:=.returning } (b₀.at a₀ (.inRegion d (i::c)::k)::cs)) w :=
 .pure hK rfl (λw=>by rw[stepG_leave j n l (results_tmp f _ P w) (qo8 f _ _),qkm]) h
theorem ql.leave0{b₀:qi5}{a₀:Act}{d:Array qjx}{i:Nat}{c:List Nat}{e:List qm1}{g:Func}(j:b.kind=.normal)(n:a.defers=[])(l:P.funcs[b.fn]?=some g)(f:g.results=#[])(h:ql P Fz K Stop S (G (b₀.at (a₀.put ((d[i]?).bind (·.dst)) (.tuple #[])) (.inRegion d c::k)) cs) w):ql P Fz K Stop S (G { b.at a e with mode:=.returning } (b₀.at a₀ (.inRegion d (i::c)::k)::cs)) w :=
 .pure hK rfl (λw=>by rw[stepG_leave j n l (results_none f _ P w) (events_results_none f _ _),qkm]) h
theorem ql.load[JunkSet]{c:Array qjx}{i:Nat}{d:List Nat}{o:qjx}(v:qhC)(j:c[i]?=some o)(f:qiy o (qjG c a.tmps)=true)(l:b.kind≠.early)(g:∀w₁,RC Fz K S w w₁->(ql0 a.eval o).run P w₁=.ok (.value v) w₁/\∀e∈(ql0 a.eval o).events P w₁ #[],EvC Fz S w₁.heap.size e)(h:ql P Fz K Stop S (G (b.at (a.put o.dst v) (.inRegion c d::k)) cs) w) :ql P Fz K Stop S (G (b.at a (.inRegion c (i::d)::k)) cs) w :=
 ql.step rfl λw₁ h₁=>by
  have⟨q,p⟩:=g w₁ h₁;refine⟨_,w₁,_,qql j f l q,⟨λ_ _ _=>rfl,qhz _,rfl,rfl,λe n=>?_⟩,by rw[xj];exact h.rely hK h₁⟩;rw[xj];exact p e (kR _ _ _ e n)
end
def ql.offers{g:qhD}{w:qhy}(hSo:∀S g w c,Stop S g w->Stop S { g with offers:=c } w)(c:Option (Array qlb × qkA))(h:ql P Fz K Stop S g w):ql P Fz K Stop S { g with offers:=c } w:=by
 obtain⟨r,h⟩:=h;cases r with
 | leaf=>exact⟨.leaf,λw₁ h₁=>hSo _ _ _ _ (h w₁ h₁)⟩
 | nd f=>exact⟨.nd f,h.1,h.2⟩
section
variable[J:JunkSet]{Q:qi4}{base:Nat}
structure qgg(Q P:qi4)(base:Nat)(Fz S Jc Jb:Bs)(Z:Ren)(a:Act)(tm:Array qhC)(wq w:qhy):Prop where
 len:base<=Z.length
 wr:WR Q base Z wq w
 gl:Gl P Z
 tm:AsR Z a.tmps tm
 df:a.defers=[]
 own:Own base Z JunkSet.jk Fz S
 jb:∀i j,BR Z i j->JunkSet.jk i->Jc j
 js:∀j,Jb j->¬ S j
def ql.piece(H:Duo Q P){X:qgi}(U:Up J X.j)(HQ:@Duo X.j Q Q)(hrf:P.follows .rangeFuncRecover=true){real:List qi5}(hrr:∀fr,qis fr real=none)(s:∀fk,Q.funcs[fk]?≠P.funcs[fk]?->∀a k cs u,∃o w es,qjc Q true { frame:=qj1 Q fk a k,callers:=cs,status:=.running,dying:=none } u true=.ended o w es)(Jc Jb:Bs)(Liv:qhy->Prop)(hL1:∀S w w₁,RC Fz K S w w₁->Liv w->Liv w₁)(hL2:∀S w p es,DC Fz S w p es->(∀b,Jb b->p.heap[b]?=w.heap[b]?)->Liv w->Liv p)(hL3:∀w b,Liv w->Jc b->∃c e f,w.heap[b]?=some (.cells c e f))(hL4:∀w b,Liv w->Jb b->b<w.heap.size)(hSo:∀S g w d,Stop S g w->Stop S { g with offers:=d } w){b:qi5}(hfn:∃g,Q.funcs[b.fn]?=some g/\P.funcs[b.fn]?=some g)(hin:Q.inits.idxOf? b.fn=none)(hbr:b.roundOf=none){c:qkk}(hc:qA Q c){Z:Ren}{a:Act}{tm:Array qhC}{D:List qk6}{k:List qm1}{wq w:qhy}{S:Bs}{R:Act->qhy->Prop}(h:qgg Q P base Fz S Jc Jb Z a tm wq w)(hv:Liv w)(hwp:∀T,c.wp Q (yB R) a (wq.tp T))(hRd:∀a u,R a u->a.defers=[])(hend:∀ρ' Y r n p S',R Y n->Le Z ρ'->qgg Q P base Fz S' Jc Jb ρ' Y r n p->Liv p->ql P Fz K Stop S' (G (b.at ⟨r,D⟩ k) real) p) :ql P Fz K Stop S (G (b.at ⟨tm,D⟩ (.code c::k)) real) w:=by
 obtain⟨V,B,A⟩:=hfn;have I:∀(X:qi4),(∃g,Q.funcs[b.fn]?=some g/\X.funcs[b.fn]?=some g)->ve Q X Z (G (b.at a [.code c]) [qk b.fn]) (G (b.at ⟨tm,[]⟩ [.code c]) [qk b.fn]):=λX hX=>
  ⟨⟨rfl,hX,hin,h.tm,.cons (.code hc) .nil,by simp only[G,Frame.at];rw[h.df];exact .nil,.run,rfl,.inl ⟨rfl,rfl⟩⟩,.cons (q3o hin hX) .nil,rfl,rfl,rfl,rfl⟩
 have b8:@xV X.j Q base (G (b.at a [.code c]) [qk b.fn]) wq:=⟨Z,_,w,h.len,WR.up U h.wr,λi hi=>h.gl i (by rw[H.gsize];exact hi),ve.up U (I P ⟨V,B,A⟩)⟩;have ht:=@LT.of_wp X.j Q base b.fn HQ _ _ _ _ _ hwp b8;have a8:q0l Q P base (AtEnd b.fn b R) b.fn k D real Z (G (b.at a [.code c]) [qk b.fn]) wq (G (b.at ⟨tm,D⟩ (.code c::k)) real) w :=
  ⟨h.len,h.wr,h.gl,ht,⟨[],rfl⟩,_,I P ⟨V,B,A⟩,by
   have:=Lay.top (k:=k) (D:=D) (real:=real) (f:=b.fn) (gv:=G (b.at ⟨tm,[]⟩ [.code c]) [qk b.fn]) rfl rfl rfl;simpa[tl,G,Frame.at] using this⟩
 refine ql.tsub H hrf hrr AtEnd.leafs s Jc Jb Liv hL1 hL2 hL3 hL4 (ρ0:=Z) ?_ a8 (Le.refl _) h.own h.jb hv h.js;rintro O g n g' p S' l ⟨e9,b7,Y,T,F,hR⟩ x ho b0 a7 z;have⟨gv,W,y⟩:=l.rel;have hd:=hRd _ _ hR;have M:=W.callers;rw[b7] at M;have⟨c9,q,a9⟩:=vS (pre:=[]) M;cases a9;have q:gv.callers=[qk b.fn]:=q;have hf:=W.frame;rw[F] at hf;cases y with
 | und pre c0 N _=>
  rw[q] at N;exact(q8g N.symm).elim
 | top _ hm v=>
  obtain⟨⟨fn,tmps,todo,defers,mode,kind,ro⟩,cs,st,dy,d⟩:=gv;obtain⟨h1,h2,h3,h4,h5,h6,h7,h8,h9⟩:=hf;have t:=W.st';have L:=W.dy';dsimp only[Frame.at] at h1 h4 h5 h6 h8 hm v t L;rw[hd] at h6;cases h5;cases h6;subst h1 h8 hm v t L;have b6:({ frame:=tl k D { fn:=b.fn,tmps:=tmps,todo:=[],defers:=[],mode:=.run,kind:=b.kind,roundOf:=none },callers:=real,status:=.running,dying:=none,offers:=d }:qhD)={ G (b.at ⟨tmps,D⟩ k) real with offers:=d }:=by
   simp[tl,G,Frame.at]
  have C:({ ({ frame:={ fn:=b.fn,tmps:=tmps,todo:=[],defers:=[],mode:=.run,kind:=b.kind,roundOf:=none },callers:=cs,status:=.running,dying:=none,offers:=d }:qhD) with frame:=tl k D { fn:=b.fn,tmps:=tmps,todo:=[],defers:=[],mode:=.run,kind:=b.kind,roundOf:=none },callers:=real }:qhD)={ G (b.at ⟨tmps,D⟩ k) real with offers:=d }:=b6;rw[C];exact ql.offers hSo d (hend O Y tmps (n.tp T) p S' hR x ⟨l.len,⟨l.wr.len,l.wr.nodup,l.wr.lt,l.wr.obj,l.wr.low,l.wr.env,l.wr.below,l.wr.gar⟩,l.gl,h4,hd,ho,b0,z⟩ a7)
end
end
end
section
open Go.Conc Go.ConcN Go.Sim
section
variable{P:qi4}{Fz:Bs}{K:qhy->qhy->Prop}{Stop:Bs->qhD->qhy->Prop}{S:Bs}(hK:∀a b c,K a b->K b c->K a c){b:qi5}{k:List qm1}{cs:List qi5}
include hK
omit hK in
theorem qe5{d:qlA}{c:Array qjx}{a t:Nat}{listed:Array Bool}(e:qil d c listed=[]):qj6 d c a t listed []=[]:=by
 cases a with
 | zero=>simp[qj6]
 | succ a=>
  simp only[qj6];change (match (qil d c listed)[t % (qil d c listed).length]? with
   | some i=>qj6 d c a (t / (qil d c listed).length) (listed.setIfInBounds i true) [i]
   | none=>[].reverse)=[]
  rw[e];rfl
theorem ql.any{md:qlA}{ops:Array qjx}(I:Array Bool->Act->Prop){w:qhy}(g:∀listed a i,listed.size=ops.size->I listed a->i∈qil md ops listed->∀d,(qil md ops (listed.setIfInBounds i true)=[]->d=[])->(∀p,I (listed.setIfInBounds i true) p->ql P Fz K Stop S (G (b.at p (.inRegion ops d::k)) cs) w)->ql P Fz K Stop S (G (b.at a (.inRegion ops (i::d)::k)) cs) w)(f:∀listed a,listed.size=ops.size->I listed a->qil md ops listed=[]->ql P Fz K Stop S (G (b.at a k) cs) w) :∀(c t:Nat) (listed:Array Bool) (a:Act),listed.size=ops.size->unl listed ops.size<=c->I listed a->ql P Fz K Stop S (G (b.at a (.inRegion ops (qj6 md ops c t listed [])::k)) cs) w:=by
 intro c;induction c with
 | zero=>
  intro t listed a h y o;have e:qil md ops listed=[]:=by
   cases e:qil md ops listed with
   | nil=>rfl
   | cons i l=>
    exfalso;have⟨s,r⟩:=zy (md:=md) (ops:=ops) (listed:=listed) (i:=i) (by rw[e];simp);have:=vj s h r;omega
  simp only[qj6,List.reverse_nil];exact ql.region_end hK (f listed a h o e)
 | succ c v=>
  intro t listed a h y o;simp only[qj6];change ql P Fz K Stop S (G (b.at a (.inRegion ops (match (qil md ops listed)[t % (qil md ops listed).length]? with
   | some i=>qj6 md ops c (t / (qil md ops listed).length) (listed.setIfInBounds i true) [i]
   | none=>[].reverse)::k)) cs) w
  cases j:(qil md ops listed)[t % (qil md ops listed).length]? with
  | none=>
   have e:qil md ops listed=[]:=by
    cases e:qil md ops listed with
    | nil=>rfl
    | cons x u=>
     rw[e] at j;have n:t % (x::u).length<(x::u).length:=Nat.mod_lt _ (by simp);simp at j;simp at n;omega
   exact ql.region_end hK (f listed a h o e)
  | some i=>
   simp only[];rw[linearise_go_acc,qq1,List.singleton_append];have j:=qih j;have⟨s,r⟩:=zy j;have n:=vj s h r;refine g listed a i h o j _ (λe=>?_) λp q=>v _ _ p (by simpa using h) (by omega) q;exact qe5 e
theorem ql.region_inv{id:Nat}{c:Array qjx}{a:Act}{w:qhy}(hm:P.follows .mixedOrders=true)(g:∀w n,K w { w with drawn:=n })(I:Array Bool->Act->Prop)(h0:I (qj4 c.size false) a)(hstep:∀listed a i,listed.size=c.size->I listed a->i∈qil .any c listed->∀d,(qil .any c (listed.setIfInBounds i true)=[]->d=[])->(∀h,I (listed.setIfInBounds i true) h->ql P Fz K Stop S (G (b.at h (.inRegion c d::k)) cs) w)->ql P Fz K Stop S (G (b.at a (.inRegion c (i::d)::k)) cs) w)(hend:∀listed a,listed.size=c.size->I listed a->qil .any c listed=[]->ql P Fz K Stop S (G (b.at a k) cs) w) :ql P Fz K Stop S (G (b.at a (.code (.region id c true)::k)) cs) w:=by
 refine ql.step rfl λw₁ h₁=>?_;have e:qjc P false (G (b.at a (.code (.region id c true)::k)) cs) w₁=.go (G (b.at a (.inRegion c (qo2 (P.follows .mixedOrders) c (w₁.tape w₁.drawn (.order b.fn id)))::k)) cs) { w₁ with drawn:=w₁.drawn+1 } #[]:=by
  simp[G,qjc,qla,Frame.at,choose,qjk,Question.forced,Question.cut]
 refine⟨_,_,_,e,⟨λ_ _ _=>rfl,qhz _,rfl,rfl,by simp⟩,?_⟩;have j:grow S w₁ { w₁ with drawn:=w₁.drawn+1 }=S:=xj S w₁;rw[j];have:=ql.any hK I (w:=w) hstep hend c.size (w₁.tape w₁.drawn (.order b.fn id)) _ a (by simp) (by
  unfold unl;exact qi1 (qko _ _) (by simp)) h0
 have l:ql P Fz K Stop S (G (b.at a (.inRegion c (qo2 (P.follows .mixedOrders) c (w₁.tape w₁.drawn (.order b.fn id)))::k)) cs) w:=by
  simp only[qo2,hm,Bool.true_or,if_true];exact this
 exact l.rely hK ⟨λb f=>h₁.own b f,λb f=>h₁.fz b f,h₁.size,h₁.os,h₁.output,hK _ _ _ h₁.k (g _ _)⟩
omit hK in
theorem ql.of_goes2{R:qhy->qhy->Prop}(c:∀w w₁,RC Fz K S w w₁->R w w₁)(r:∀w,R w w){a:qhD->qhy->Prop}(f:∀g w,a g w->Stop S g w):∀{n:Nat} {g:qhD} {w:qhy},qnm P false R qol a n g w->ql P Fz K Stop S g w:=by
 intro n;induction n with
 | zero=>exact λh=>ql.stop λw₁ h₁=>f _ _ (h w₁ (c _ _ h₁))
 | succ n i=>
  intro g w h;rcases h with h | ⟨l,h⟩
  ·exact ql.stop λw₁ h₁=>f _ _ (h w₁ (c _ _ h₁))
  ·refine .step l λw₁ h₁=>?_;have⟨o,d,s,e,⟨q,p⟩,j⟩:=goes_elim (h w₁ (c _ _ h₁));subst q;subst p;exact⟨o,d,#[],e,q5j S d,by rw[xj];exact i j⟩
end
end
section
open Go.Conc Go.ConcN
open Go.ConcR (KK wgBlock WgAt stA smA rd wr mk DC0)
def LR(ty:qid)(Wg:Nat)(w w₁:qhy):Prop:=qkF ty Wg w->qkF ty Wg w₁
def DM(Wg:Nat)(w b:qhy)(c:Array qjs):Prop:=b=w/\∀e∈c,e=mk (.read (smA Wg))\/e=mk (.write (smA Wg))
section
variable(P:qi4)(ty:qid)(Wg:Nat)
def WG(b:qhD->qhy->Prop)(m:Nat)(g:qhD)(w:qhy):Prop:=qnm P false (LR ty Wg) DC0 b m g w
def WD4(g:qhD)(w:qhy):Prop :=
 g.status=.running/\mayWake P g=true/\(qo9 ty Wg w 0 0->∃b,qjc P false g w=.go b (w.setCell (smA Wg) (.int .u32 1)) (qms (smA Wg))/\∃q,qpl P q 1 b)
def WD3(g:qhD)(w:qhy):Prop :=
 g.status=.running/\(qo9 ty Wg w 1 0->∃b,qjc P false g w=.go b (w.setCell (stA Wg) (.int .u64 0)) #[wr (stA Wg)]/\∃m,WG P ty Wg (WD4 P ty Wg) m b (w.setCell (stA Wg) (.int .u64 0)))
def WD2(g:qhD)(w:qhy):Prop :=
 g.status=.running/\(qo9 ty Wg w 1 0->∃b,qjc P false g w=.go b w #[rd (stA Wg)]/\∃m,WG P ty Wg (WD3 P ty Wg) m b w)
def WD1(g:qhD)(w:qhy):Prop :=
 g.status=.running/\∀v b:Nat,b<=1->v<2147483647->qo9 ty Wg w ((v+1)*KK+b) 0 ->
  ∃c,qjc P false g w=.go c (w.setCell (stA Wg) (.int .u64 (v*KK+b))) #[rd (stA Wg),wr (stA Wg)] /\
   ((v=0/\b=1)->∃m,WG P ty Wg (WD2 P ty Wg) m c (w.setCell (stA Wg) (.int .u64 (v*KK+b))))/\(¬ (v=0/\b=1)->∃q,qpl P q 1 c)
def WK1(g:qhD)(w:qhy):Prop :=
 g.status=.running/\∃b,qjc P false g w=.go b w #[qkp .disable]/\∃m,WG P ty Wg (WD1 P ty Wg) m b w
def qhf(g:qhD)(w:qhy):Prop :=
 ∃b,qjc P false g w=.go b w #[qkp (.releaseMerge (stA Wg))]/\∃m,WG P ty Wg (WK1 P ty Wg) m b w
end
structure Cfg(U X:Type) where
 P:qi4
 ty:qid
 Wg:Nat
 lo:Nat
 n:Nat
 Fz:Bs
 Sy:Bs
 clA:Nat->Cl
 DataAt:U->qhy->Prop
 WA:X->Bs->qhD->qhy->Prop
 Tr:U->X->U->X->Prop
 J:U->Nat->(Nat->X)->Prop
 m:U->Nat
 nu:X->Nat
 l0:X
 fin:X->Prop
 W1:qhy
 Fin:qhD->qhy->Prop
 AnchW:qhD->qhy->Prop
 Post:qhC->qhy->Prop
section
variable{U X:Type}(C:Cfg U X)
def Cfg.K(w w₁:qhy):Prop:=(qkF C.ty C.Wg w->qkF C.ty C.Wg w₁)/\((∃W,C.DataAt W w)->∃W,C.DataAt W w₁)
structure Cfg.Ph(w:qhy):Prop where
 fz:∀b,C.Fz b->w.heap[b]?=C.W1.heap[b]?
 size:C.W1.heap.size<=w.heap.size
 os:w.os=C.W1.os
 output:w.output=C.W1.output
def flat(c:Nat->Cl)(b:Nat):Cl:=match c b with | .sync=>.sync | _=>.mine 0
def Cfg.GW(b:qhD->qhy->Prop)(m:Nat)(g:qhD)(w:qhy):Prop:=WG C.P C.ty C.Wg b m g w
def Cfg.AtD4:qhD->qhy->Prop:=WD4 C.P C.ty C.Wg
def Cfg.AtD3:qhD->qhy->Prop:=WD3 C.P C.ty C.Wg
def Cfg.AtD2:qhD->qhy->Prop:=WD2 C.P C.ty C.Wg
def Cfg.AtD1:qhD->qhy->Prop:=WD1 C.P C.ty C.Wg
def Cfg.AtK1:qhD->qhy->Prop:=WK1 C.P C.ty C.Wg
def Cfg.AtEnd:qhD->qhy->Prop:=qhf C.P C.ty C.Wg
def Cfg.AtSync(l:X)(S:Bs)(g:qhD)(w:qhy):Prop :=
 ∀W,C.DataAt W w->(∃j ls,j<=C.n/\C.J W j ls)->∃h c i γ' f,qjc C.P false g w=.go h c i/\(∀b,¬ C.Sy b->c.heap[b]?=w.heap[b]?)/\c.heap.size=w.heap.size/\c.os=w.os/\c.output=w.output /\
  (∀e∈i,∃a wr,e=⟨.cell a,wr,true⟩/\C.Sy a.block)/\C.DataAt γ' c/\C.Tr W l γ' f/\C.WA f S h c
def Cfg.Stop(l:X)(S:Bs)(g:qhD)(w:qhy):Prop:=g.status=.running/\((C.fin l/\C.AtEnd g w)\/(¬ C.fin l/\C.AtSync l S g w))
def Cfg.GM(b:qhD->qhy->Prop)(m:Nat)(g:qhD)(w:qhy):Prop:=qnm C.P true (LR C.ty C.Wg) (DM C.Wg) b m g w
def Cfg.AtAcq(g:qhD)(w:qhy):Prop :=
 g.status=.running/\∃b,qjc C.P true g w=.go b w #[qkp (.acquire (stA C.Wg))]/\C.Fin b w
def Cfg.AtKe(g:qhD)(w:qhy):Prop :=
 g.status=.running/\∃b,qjc C.P true g w=.go b w #[qkp .enable]/\∃m,C.GM C.AtAcq m b w
def Cfg.AtW4(g:qhD)(w:qhy):Prop :=
 g.status=.running/\(qo9 C.ty C.Wg w 0 0->∃b,qjc C.P true g w=.go b w #[rd (stA C.Wg)]/\∃m,C.GM C.AtKe m b w)
def Cfg.AtW3(g:qhD)(w:qhy):Prop :=
 g.status=.running/\g.offers=none /\
  ((∃c,qo9 C.ty C.Wg w c 0)->qjc C.P true g w=.go { g with status:=.blocked } w #[]) /\
  (qo9 C.ty C.Wg w 0 1->∃b,qjc C.P true g w=.go b (w.setCell (smA C.Wg) (.int .u32 0)) (qms (smA C.Wg))/\∃m,C.GM C.AtW4 m b (w.setCell (smA C.Wg) (.int .u32 0)))
def Cfg.AtW2(c:Nat)(g:qhD)(w:qhy):Prop :=
 g.status=.running/\∀v:Nat,v<2147483648->qo9 C.ty C.Wg w (v*KK) 0 ->
  (v=c->∃b,qjc C.P true g w=.go b (w.setCell (stA C.Wg) (.int .u64 (v*KK+1))) #[rd (stA C.Wg),wr (stA C.Wg)]/\∃m,C.GM C.AtW3 m b (w.setCell (stA C.Wg) (.int .u64 (v*KK+1)))) /\
  (v≠c->∃b,qjc C.P true g w=.go b w #[rd (stA C.Wg)]/\∃m,C.GM C.AnchW m b w)
def Cfg.AtW1(g:qhD)(w:qhy):Prop :=
 g.status=.running/\∀v:Nat,v<2147483648->qo9 C.ty C.Wg w (v*KK) 0->∃b,qjc C.P true g w=.go b w #[rd (stA C.Wg)] /\
  (v=0->∃m,C.GM C.AtKe m b w)/\(v≠0->∃m,C.GM (C.AtW2 v) m b w)
def Cfg.AtKd(g:qhD)(w:qhy):Prop :=
 g.status=.running/\∃b,qjc C.P true g w=.go b w #[qkp .disable]/\∃m,C.GM C.AnchW m b w
def Cfg.FinS(g:qhD)(w:qhy):Prop:=∃m,C.GM C.AtKd m g w
def Cfg.AtGoS(qmt:qhD->qhy->Prop)(g:qhD)(w:qhy):Prop :=
 g.status=.running/\∃c b,qjc C.P true g w=.spawn c b w #[]/\(C.Ph w->(∃W,C.DataAt W w)->C.WA C.l0 (λ_=>False) b w)/\qmt c w
def Cfg.AtKeS(qmt:qhD->qhy->Prop)(g:qhD)(w:qhy):Prop :=
 g.status=.running/\∃b,qjc C.P true g w=.go b w #[qkp .enable]/\∃m,C.GM (C.AtGoS qmt) m b w
def Cfg.AtA1(qmt:qhD->qhy->Prop)(g:qhD)(w:qhy):Prop :=
 g.status=.running/\∀v:Nat,v<2147483647->qo9 C.ty C.Wg w (v*KK) 0 ->
  ∃b,qjc C.P true g w=.go b (w.setCell (stA C.Wg) (.int .u64 ((v+1)*KK))) #[rd (stA C.Wg),wr (stA C.Wg)]/\∃m,C.GM (C.AtKeS qmt) m b (w.setCell (stA C.Wg) (.int .u64 ((v+1)*KK)))
def Cfg.AtKdS(qmt:qhD->qhy->Prop)(g:qhD)(w:qhy):Prop :=
 g.status=.running/\∃b,qjc C.P true g w=.go b w #[qkp .disable]/\∃m,C.GM (C.AtA1 qmt) m b w
def Cfg.Spawns:Nat->qhD->qhy->Prop
 | 0,g,w=>C.FinS g w
 | r+1,g,w=>∃m,C.GM (C.AtKdS (Cfg.Spawns r)) m g w
structure Cfg.Ok:Prop where
 hn:C.n<2147483648
 hlo:1<=C.lo
 dat:∀W w w',(∀b,C.Sy b->w'.heap[b]?=w.heap[b]?)->C.DataAt W w->C.DataAt W w'
 fzc:∀b,C.Fz b->C.clA b=.ro C.lo/\b<C.W1.heap.size
 syc:∀b,C.Sy b->C.clA b=.sync/\b<C.W1.heap.size
 cla0:∀b,C.W1.heap.size<=b->C.clA b=.mine 0
 wgc:C.clA C.Wg=.sync/\C.Wg<C.W1.heap.size/\¬ C.Sy C.Wg
 hW:∀l S g w,C.WA l S g w->ql C.P C.Fz C.K (C.Stop l) S g w
 hJ0:∀W j ls,C.J W j ls->C.J W (j+1) (upd ls j C.l0)
 hJ:∀W j ls i γ' l',C.J W j ls->i<j->C.Tr W (ls i) γ' l'->C.J γ' j (upd ls i l')
 hm:∀W l γ' l',C.Tr W l γ' l'->C.m γ'+C.nu l'<C.m W+C.nu l
 hAr:∀g w,C.AnchW g w->g.status=.running
 hAn:∀g w,C.AnchW g w->∃m,C.GM C.AtW1 m g w
 hFin:∀W ls g w,C.Fin g w->C.J W C.n ls->(∀i,i<C.n->C.fin (ls i))->C.DataAt W w->C.Ph w->E C.P C.Post (flat C.clA) g w
inductive Cfg.WS:Nat->Nat->Nat->X->Bs->Rk->qhD->qhy->Prop
 | run {l:X} {S:Bs} {r:Rk} {g:qhD} {w:qhy}:Cot C.P C.Fz C.K (C.Stop l) r S g w->Cfg.WS 7 0 0 l S r g w
 | k1 {m:Nat} {l:X} {S:Bs} {r:Rk} {g:qhD} {w:qhy}:C.fin l->C.GW C.AtK1 m g w->Cfg.WS 6 m 0 l S r g w
 | d1 {m:Nat} {l:X} {S:Bs} {r:Rk} {g:qhD} {w:qhy}:C.fin l->C.GW C.AtD1 m g w->Cfg.WS 5 m 1 l S r g w
 | d2 {m:Nat} {l:X} {S:Bs} {r:Rk} {g:qhD} {w:qhy}:C.fin l->C.GW C.AtD2 m g w->Cfg.WS 4 m 1 l S r g w
 | d3 {m:Nat} {l:X} {S:Bs} {r:Rk} {g:qhD} {w:qhy}:C.fin l->C.GW C.AtD3 m g w->Cfg.WS 3 m 1 l S r g w
 | d4 {m:Nat} {l:X} {S:Bs} {r:Rk} {g:qhD} {w:qhy}:C.fin l->C.GW C.AtD4 m g w->Cfg.WS 2 m 1 l S r g w
 | quit {q d:Nat} {l:X} {S:Bs} {r:Rk} {g:qhD} {w:qhy}:C.fin l->qpl C.P q d g->Cfg.WS 1 q d l S r g w
inductive Cfg.CS:CTag->Nat->Nat->Nat->qhD->qhy->Prop
 | skd {r m:Nat} {g:qhD} {w:qhy}:r<C.n->C.GM (C.AtKdS (C.Spawns r)) m g w->Cfg.CS (.sp r 5) (C.n - (r+1)) m 0 g w
 | sa1 {r m:Nat} {g:qhD} {w:qhy}:r<C.n->C.GM (C.AtA1 (C.Spawns r)) m g w->Cfg.CS (.sp r 4) (C.n - (r+1)) m 1 g w
 | ske {r m:Nat} {g:qhD} {w:qhy}:r<C.n->C.GM (C.AtKeS (C.Spawns r)) m g w->Cfg.CS (.sp r 3) (C.n - (r+1)) m 1 g w
 | sgo {r m:Nat} {g:qhD} {w:qhy}:r<C.n->C.GM (C.AtGoS (C.Spawns r)) m g w->Cfg.CS (.sp r 2) (C.n - (r+1)) m 0 g w
 | kd {m:Nat} {g:qhD} {w:qhy}:C.GM C.AtKd m g w->Cfg.CS .kd C.n m 0 g w
 | anch {m:Nat} {g:qhD} {w:qhy}:C.GM C.AnchW m g w->Cfg.CS .anch C.n m 1 g w
 | w1 {m:Nat} {g:qhD} {w:qhy}:C.GM C.AtW1 m g w->Cfg.CS .w1 C.n m 1 g w
 | w2 {vs m:Nat} {g:qhD} {w:qhy}:C.GM (C.AtW2 vs) m g w->Cfg.CS (.w2 vs) C.n m 1 g w
 | w3 {m:Nat} {g:qhD} {w:qhy}:C.GM C.AtW3 m g w->Cfg.CS .w3 C.n (m+1) 1 g w
 | blk {g:qhD} {w:qhy}:(∀w₁,LR C.ty C.Wg w w₁->C.AtW3 g w₁)->Cfg.CS .blk C.n 0 1 { g with status:=.blocked } w
 | w4 {m:Nat} {g:qhD} {w:qhy}:C.GM C.AtW4 m g w->Cfg.CS .w4 C.n m 1 g w
 | ke {m:Nat} {g:qhD} {w:qhy}:C.GM C.AtKe m g w->Cfg.CS .ke C.n m 1 g w
 | acq {m:Nat} {g:qhD} {w:qhy}:C.GM C.AtAcq m g w->Cfg.CS .acq C.n m 0 g w
end
section
variable{ty:qid}{Wg:Nat}{w w₁ w₂:qhy}
def LR.refl(w:qhy):LR ty Wg w w:=id
def LR.trans(h:LR ty Wg w w₁)(c:LR ty Wg w₁ w₂):LR ty Wg w w₂:=c ∘ h
def zc:∀a b c,LR ty Wg a b->LR ty Wg b c->LR ty Wg a c:=λ_ _ _ h e=>e ∘ h
def LR.to(h:qkF ty Wg w₁):LR ty Wg w w₁:=λ_=>h
end
section
variable{U X:Type}{C:Cfg U X}{S:Bs}{w w₁:qhy}{s m d j f0:Nat}{l:X}{r:Rk}{g a:qhD}{tag:CTag}
def Cfg.K.trans:∀a b c,C.K a b->C.K b c->C.K a c:=λ_ _ _ h e=>⟨e.1 ∘ h.1,e.2 ∘ h.2⟩
def Cfg.K.refl(w:qhy):C.K w w:=⟨id,id⟩
def RC.refl(w:qhy):RC C.Fz C.K S w w:=⟨λ_ _=>rfl,λ_ _=>rfl,qhz _,rfl,rfl,.refl w⟩
def Cfg.WS.rely(h:C.WS s m d l S r g w)(c:RC C.Fz C.K S w w₁):C.WS s m d l S r g w₁:=by
 cases h with
 | run h=>exact .run (h.rely Cfg.K.trans c)
 | k1 b h=>exact .k1 b (qly zc h c.k.1)
 | d1 b h=>exact .d1 b (qly zc h c.k.1)
 | d2 b h=>exact .d2 b (qly zc h c.k.1)
 | d3 b h=>exact .d3 b (qly zc h c.k.1)
 | d4 b h=>exact .d4 b (qly zc h c.k.1)
 | quit b h=>exact .quit b h
def q5l{P:qi4}{Fz:Bs}{K:qhy->qhy->Prop}{b:Bs->qhD->qhy->Prop}(c:∀S g w,b S g w->g.status=.running)(e:∀w,K w w)(h:Cot P Fz K b r S g w):g.status=.running:=by
 cases r with
 | leaf=>exact c _ _ _ (h w ⟨λ_ _=>rfl,λ_ _=>rfl,qhz _,rfl,rfl,e w⟩)
 | nd f=>exact h.1
def Cfg.WS.running_of(h:C.WS s m d l S r g w)(c:s≠1):g.status=.running:=by
 cases h with
 | run h=>exact q5l (λ_ _ _ h=>h.1) .refl h
 | k1 b h=>exact qkw (λ_ _ x=>x.1) w (LR.refl w) h
 | d1 b h=>exact qkw (λ_ _ x=>x.1) w (LR.refl w) h
 | d2 b h=>exact qkw (λ_ _ x=>x.1) w (LR.refl w) h
 | d3 b h=>exact qkw (λ_ _ x=>x.1) w (LR.refl w) h
 | d4 b h=>exact qkw (λ_ _ x=>x.1) w (LR.refl w) h
 | quit b h=>exact absurd rfl c
def Cfg.WS.status(h:C.WS s m d l S r g w):g.status=.running\/g.status=.finished:=by
 by_cases e:s=1
 ·subst e;cases h with
  | quit _ h=>exact h.status
 ·exact .inl (h.running_of e)
def Cfg.WS.woken(h:C.WS s m d l S r g w)(a c:qhD)(b:qhy):qri C.P a c b g=g:=by
 unfold qsd;split
 ·exact qr0 _ h.status
 ·rfl
def Cfg.WS.fin_of(h:C.WS s m d l S r g w)(b:s<=6):C.fin l:=by
 cases h<;>first | assumption | omega
def Cfg.CS.rely(h:C.CS tag j f0 d a w)(c:LR C.ty C.Wg w w₁):C.CS tag j f0 d a w₁:=by
 cases h with
 | skd b h=>exact .skd b (qly zc h c)
 | sa1 b h=>exact .sa1 b (qly zc h c)
 | ske b h=>exact .ske b (qly zc h c)
 | sgo b h=>exact .sgo b (qly zc h c)
 | kd h=>exact .kd (qly zc h c)
 | anch h=>exact .anch (qly zc h c)
 | w1 h=>exact .w1 (qly zc h c)
 | w2 h=>exact .w2 (qly zc h c)
 | w3 h=>exact .w3 (qly zc h c)
 | blk h=>exact .blk λw₂ h₂=>h w₂ (LR.trans c h₂)
 | w4 h=>exact .w4 (qly zc h c)
 | ke h=>exact .ke (qly zc h c)
 | acq h=>exact .acq (qly zc h c)
def Cfg.CS.status(H:C.Ok)(h:C.CS tag j f0 d a w):(a.status=.running/\tag≠.blk)\/(a.status=.blocked/\tag=.blk):=by
 cases h with
 | skd _ h=>exact .inl ⟨qkw (λ_ _ x=>x.1) w (LR.refl w) h,by simp⟩
 | sa1 _ h=>exact .inl ⟨qkw (λ_ _ x=>x.1) w (LR.refl w) h,by simp⟩
 | ske _ h=>exact .inl ⟨qkw (λ_ _ x=>x.1) w (LR.refl w) h,by simp⟩
 | sgo _ h=>exact .inl ⟨qkw (λ_ _ x=>x.1) w (LR.refl w) h,by simp⟩
 | kd h=>exact .inl ⟨qkw (λ_ _ x=>x.1) w (LR.refl w) h,by simp⟩
 | anch h=>exact .inl ⟨qkw H.hAr w (LR.refl w) h,by simp⟩
 | w1 h=>exact .inl ⟨qkw (λ_ _ x=>x.1) w (LR.refl w) h,by simp⟩
 | w2 h=>exact .inl ⟨qkw (λ_ _ x=>x.1) w (LR.refl w) h,by simp⟩
 | w3 h=>exact .inl ⟨qkw (λ_ _ x=>x.1) w (LR.refl w) h,by simp⟩
 | blk h=>exact .inr ⟨rfl,rfl⟩
 | w4 h=>exact .inl ⟨qkw (λ_ _ x=>x.1) w (LR.refl w) h,by simp⟩
 | ke h=>exact .inl ⟨qkw (λ_ _ x=>x.1) w (LR.refl w) h,by simp⟩
 | acq h=>exact .inl ⟨qkw (λ_ _ x=>x.1) w (LR.refl w) h,by simp⟩
def Cfg.CS.le(h:C.CS tag j f0 d a w):j+qqf tag<=C.n:=by
 cases h<;>simp only[qqf]<;>(try simp)<;>omega
open Go.ConcR (again_blocked) in
def Cfg.CS.wokenBy(H:C.Ok)(h:C.CS tag j f0 d a w)(p:LR C.ty C.Wg w w₁)(g k:qhD) :∃b n,C.CS b j n d (qri C.P g k w₁ a) w₁/\n<=f0+1/\(b=tag\/(tag=.blk/\b=.w3))/\(mayWake C.P g=true->k.status=.running->b≠.blk):=by
 have c:=h.rely p;unfold qsd;split
 ·rcases c.status H with⟨o,e⟩ | ⟨_,rfl⟩
  ·exact⟨tag,f0,by rw[qr0 _ (.inl o)];exact c,by omega,.inl rfl,λ_ _=>e⟩
  ·cases c with
   | blk f=>
    have i:=f w₁ (LR.refl w₁);exact⟨.w3,0+1,by rw[again_blocked i.1 i.2.1];exact .w3 (qkd f),by omega,.inr ⟨rfl,rfl⟩,λ_ _=>by simp⟩
 ·rename_i q
  exact⟨tag,f0,c,by omega,.inl rfl,λu t=>absurd (by simp[u,t]) q⟩
end
end
section
open Go.Conc Go.ConcN Go.ConcN.Gen Go.RowKit Go.Conc.Lib Go.ConcR.Gen
open Go.ConcR (KK wgBlock WgAt stA smA rd wr mk DC0)
def qv{P:qi4}{n d:Nat}{b:qi5}{cs:List qi5}{k:List qm1}{a:Act}{c:Array qjx}{i:Nat}{e:List Nat}{o:qjx}{v:qhC}(f:qpl P n d (G (b.at (a.put o.dst v) (.inRegion c e::k)) cs))(g:c[i]?=some o:=by rfl)(hw:qiy o (qjG c a.tmps)=true:=by rfl)(hk:b.kind≠.early:=by k_ne)(hr:∀w,(ql0 a.eval o).run P w=.ok (.value v) w:=by intro _;go_simp;first | rfl | (w_num;rfl))(he:∀w,(ql0 a.eval o).events P w #[]=#[]:=by intro _;simp[go_sem, *]) :qpl P (n+1) d (G (b.at a (.inRegion c (i::e)::k)) cs):=QuitsD.value v g hw hk hr he f
def qc{a:qid}{Wg:Nat}{w w₁:qhy}(h:qkF a Wg w)(r:LR a Wg w w₁):qkF a Wg w₁:=r h
section
variable{L:WgLink}{Wg:Nat}{b₀:qi5}{a₀:Act}{ops₀:Array qjx}{i₀:Nat}{rest₀:List Nat}{k₀:List qm1}{cs:List qi5}{qt:Nat}
def qgj(P:qi4)(a:qid)(Wg:Nat)(g:qhD)(w:qhy):Prop:=g.status=.running/\qhf P a Wg g w
def addNeg{P:qi4}(H:WgLib P L)(f:qpl P qt 0 (G (b₀.at (a₀.put ((ops₀[i₀]?).bind (·.dst)) (.tuple #[])) (.inRegion ops₀ rest₀::k₀)) cs))(w:qhy)(a:qkF L.tWg Wg w) :qnm P false (LR L.tWg Wg) DC0 (qgj P L.tWg Wg) 20 (G ((base L.add).at ⟨#[.pointer (some ⟨Wg,0,none⟩),.int .i64 (-1),qhE,qhE,qhE,qhE,qhE,qhE,qhE,qhE,qhE,qhE,qhE,qhE,qhE,qhE,qhE,qhE,qhE,qhE,qhE,qhE,qhE,qhE,qhE,qhE,qhE,qhE,qhE,qhE,qhE,qhE,qhE,qhE,qhE,qhE,qhE,qhE,qhE,qhE,qhE,qhE,qhE,qhE,qhE,qhE,qhE,qhE,qhE,qhE,qhE,qhE,qhE,qhE,qhE,qhE,qhE,qhE,qhE,qhE,qhE,qhE,qhE,qhE,qhE,qhE,qhE,qhE,qhE,qhE,qhE,qhE,qhE,qhE,qhE,qhE,qhE,qhE,qhE,qhE,qhE,qhE,qhE,qhE,qhE,qhE,qhE,qhE,qhE,qhE,qhE,qhE,qhE,qhE,qhE,qhE,qhE,qhE,qhE,qhE,qhE,qhE,qhE,qhE,qhE,qhE,qhE,qhE,qhE,qhE,qhE,qhE,qhE,qhE,qhE,qhE,qhE],[]⟩ [.code (body_add L)]) (b₀.at a₀ (.inRegion ops₀ (i₀::rest₀)::k₀)::cs)) w:=by
 lib_facts;simp only[body_add,addFn,qi0];u_c qif qc a;u_cond true qc a;(iterate 2 u_c qif qc a);u_reg qc a;(iterate 2 u_conv H.underlying_tWgP H.room_tWg (qq2 a).choose_spec qc a);u_c qhF qc a;u_cond true qc a;u_reg qc a;(iterate 2 u_conv H.underlying_tWgP H.room_tWg (qq2 a).choose_spec qc a);refine qkd (λw₁ h₁=>?_);replace a:=qc a h₁;clear h₁;refine⟨rfl,_,qpf .releaseMerge (by simp) rfl rfl (by k_ne) rfl H.f_relMerge (x_relMerge_n L) (x_relMerge_b L) (x_relMerge_x L) (x_relMerge_f L) (by simp[Act.eval,stA]),10,?_⟩;unfold WG;walk_nrm;u_c qhF qc a;u_c qif qc a;u_reg qc a;refine qkd (λw₁ h₁=>?_);replace a:=qc a h₁;clear h₁;refine⟨rfl,_,qpr .disable (by simp) rfl rfl (by k_ne) rfl H.f_disable (x_disable_n L) (x_disable_b L) (x_disable_x L) (x_disable_f L),50,?_⟩;unfold WG;walk_nrm;u_c qhF qc a;u_reg qc a;u_defer qc a;u_c qhF qc a;u_c qif qc a;u_reg qc a;u_op qc a;u_c qhF qc a;(iterate 2 u_c qif qc a);u_reg qc a;u_bub qc a;u_c qhF qc a;u_cond false qc a;u_c qjr qc a;u_c qif qc a;u_reg qc a;(iterate 6 u_op qc a);u_call H.f_uAdd (nm_uAdd L) uAddFn qc a;u_c qif qc a;u_reg qc a;u_op qc a;u_c qhF qc a;u_c qif qc a;u_reg qc a;(iterate 4 u_op qc a);refine qkd (λw₁ h₁=>?_);clear h₁ a;refine⟨rfl,λv h n x b=>?_⟩;have q:IntKind.u64.wrap (KK+18446744069414584320)=0:=by decide
 have p:IntKind.u64.wrap (KK+1+18446744069414584320)=1:=by decide
 rcases qpm v with rfl | o<;>(obtain rfl | rfl:h=0\/h=1:=by omega)
 ·replace b:qo9 L.tWg Wg w₁ KK 0:=by simpa using b
  have z:((0:Nat):Int)*KK+((0:Nat):Int)=0:=by simp
  rw[z];refine⟨_,(qmi rfl rfl (by k_ne) rfl H.f_addU64 (x_addU64_n L) (x_addU64_b L) (x_addU64_x L) .u64 (x_addU64_f L) rfl rfl b.cellSt (b.thaw 0)).trans (by rw[q];rfl),λd=>absurd d.2 (by decide),λ_=>⟨qt+89,?_⟩⟩;clear b;have f1:IntKind.u32.wrap 0=0:=by decide
  have f2:IntKind.u32.wrap (bits .and .u64 0 2147483647)=0:=by decide
  walk_nrm
  (refine qv ?_;walk_nrm)
  q_c qhF;q_c qkB;q_leave1 H.f_uAdd
  (refine qv ?_;walk_nrm)
  q_c qhF;q_c qif;q_c qif;q_reg
  iterate 4 (refine qv ?_;walk_nrm)
  q_skip;q_skip
  (refine qv ?_;walk_nrm)
  q_c qhF;q_cond false;q_c qjr;q_c qif;q_reg
  iterate 4 (refine qv ?_;walk_nrm)
  q_c qhF;q_c qif;q_reg
  iterate 4 (refine qv ?_;walk_nrm)
  q_c qhF;q_c qif;q_c qif;q_reg
  iterate 5 (refine qv ?_;walk_nrm)
  q_skip;q_skip;q_skip;q_skip
  (refine qv ?_;walk_nrm)
  q_c qhF;q_cond false;q_c qjr;q_c qif;q_c qif;q_reg
  iterate 2 (refine qv ?_;walk_nrm)
  q_c qhF;q_cond false;q_c qjr;q_c qif;q_c qif;q_reg
  iterate 3 (refine qv ?_;walk_nrm)
  q_skip;q_skip
  iterate 2 (refine qv ?_;walk_nrm)
  q_skip;q_skip;q_skip;q_skip
  (refine qv ?_;walk_nrm)
  q_c qhF;q_cond false;q_c qjr;q_c qif;q_c qif;q_reg
  iterate 6 (refine qv ?_;walk_nrm)
  q_c qhF;q_cond true;q_c qkB;q_enable;q_leave0 H.f_add;exact f
 ·replace b:qo9 L.tWg Wg w₁ (KK+1) 0:=by simpa using b
  have z:((0:Nat):Int)*KK+((1:Nat):Int)=1:=by simp
  rw[z];refine⟨_,(qmi rfl rfl (by k_ne) rfl H.f_addU64 (x_addU64_n L) (x_addU64_b L) (x_addU64_x L) .u64 (x_addU64_f L) rfl rfl b.cellSt (b.thaw 0)).trans (by rw[p];rfl),λ_=>⟨120,?_⟩,λd=>absurd ⟨rfl,rfl⟩ d⟩;have a:qkF L.tWg Wg (w₁.setCell (stA Wg) (.int .u64 1)):=⟨_,_,b.setSt 1⟩;clear b;unfold WG;walk_nrm;u_op qc a;u_c qhF qc a;u_c qkB qc a;u_leave1 H.f_uAdd qc a;u_op qc a;u_c qhF qc a;(iterate 2 u_c qif qc a);u_reg qc a;(iterate 4 u_op qc a);u_skip qc a;u_skip qc a;u_op qc a;u_c qhF qc a;u_cond false qc a;u_c qjr qc a;u_c qif qc a;u_reg qc a;(iterate 4 u_op qc a);u_c qhF qc a;u_c qif qc a;u_reg qc a;(iterate 4 u_op qc a);u_c qhF qc a;(iterate 2 u_c qif qc a);u_reg qc a;(iterate 5 u_op qc a);(iterate 4 u_skip qc a);u_op qc a;u_c qhF qc a;u_cond false qc a;u_c qjr qc a;(iterate 2 u_c qif qc a);u_reg qc a;u_op qc a;u_op qc a;u_c qhF qc a;u_cond false qc a;u_c qjr qc a;(iterate 2 u_c qif qc a);u_reg qc a;(iterate 7 u_op qc a);(iterate 4 u_skip qc a);u_op qc a;u_c qhF qc a;u_cond false qc a;u_c qjr qc a;(iterate 2 u_c qif qc a);u_reg qc a;(iterate 6 u_op qc a);u_c qhF qc a;u_cond false qc a;u_c qjr qc a;(iterate 2 u_c qif qc a);u_reg qc a;(iterate 3 u_op qc a);u_call H.f_uLoad (nm_uLoad L) uLoadFn qc a;u_c qif qc a;u_reg qc a;u_op qc a;u_c qhF qc a;u_c qif qc a;u_reg qc a;(iterate 3 u_op qc a);refine qkd (λw₂ h₂=>?_);clear h₂ a;refine⟨rfl,λb=>⟨_,qmu rfl rfl (by k_ne) rfl H.f_loadU64 (x_loadU64_n L) (x_loadU64_b L) (x_loadU64_x L) .u64 (x_loadU64_f L) rfl b.cellSt,40,?_⟩⟩;have a:qkF L.tWg Wg w₂:=⟨_,_,b⟩;clear b;unfold WG;walk_nrm;u_op qc a;u_c qhF qc a;u_c qkB qc a;u_leave1 H.f_uLoad qc a;u_op qc a;u_op qc a;u_c qhF qc a;u_cond false qc a;u_c qjr qc a;u_c qif qc a;u_reg qc a;(iterate 3 u_op qc a);u_call H.f_uStore (nm_uStore L) uStoreFn qc a;u_reg qc a;(iterate 4 u_op qc a);refine qkd (λw₃ h₃=>?_);clear h₃ a;refine⟨rfl,λb=>⟨_,stepG_store_atomic rfl rfl (by k_ne) rfl H.f_storeU64 (x_storeU64_n L) (x_storeU64_b L) (x_storeU64_x L) (x_storeU64_f L) rfl rfl b.cellSt (b.thaw 0),50,?_⟩⟩;have a:qkF L.tWg Wg (w₃.setCell (stA Wg) (.int .u64 0)):=⟨_,_,b.setSt 0⟩;clear b;unfold WG;walk_nrm;u_c qhF qc a;u_c qrC qc a;u_leave0 H.f_uStore qc a;u_c qhF qc a;(iterate 2 u_c qif qc a);u_reg qc a;u_op qc a;u_c qhF qc a;u_cond false qc a;u_c qjr qc a;u_c qod qc a;u_c qr9 qc a;(iterate 2 u_c qif qc a);u_reg qc a;u_op qc a;u_op qc a;u_c qhF qc a;u_cond true qc a;u_c qjr qc a;u_c qif qc a;u_c qod qc a;u_reg qc a;(iterate 3 u_op qc a);refine qkd (λw₄ h₄=>?_);clear h₄ a;refine⟨rfl,mayWake_entry rfl rfl H.f_semrelease (x_semrelease_b L),λb=>⟨_,(stepG_semrelease rfl rfl (by k_ne) rfl H.f_semrelease (x_semrelease_n L) (x_semrelease_b L) (x_semrelease_x L) (x_semrelease_f L) (by simp[Act.eval,smA]) b.cellSm (b.thaw 1)).trans (by rfl),qt+19,?_⟩⟩;clear b;walk_nrm;q_c qhF;q_c stepG_inBlock;q_reg
  iterate 3 (refine qv ?_;walk_nrm)
  have f1:IntKind.u32.wrap 0=0:=by decide
  simp only[f1];q_c qhF;q_c stepG_inLoop;q_c qif;q_c qif;q_reg
  iterate 2 (refine qv ?_;walk_nrm)
  q_c qhF;q_cond false;q_exit;q_c qrC;q_enable;q_leave0 H.f_add;exact f
 ·replace b:qo9 L.tWg Wg w₁ (((v:Nat)+1)*KK+0) 0:=by simpa using b
  have z:((v:Nat):Int)*KK+((0:Nat):Int)=(v:Int)*KK+0:=by simp
  rw[z];have g:0<v:=by omega
  have e:IntKind.u64.wrap (((v:Nat)+1)*KK+0+18446744069414584320)=(v:Int)*KK+0:=by rw[qoy];simp only[KK];omega
  obtain⟨S,c⟩:∃S:Int,S=(v:Int)*KK+0:=⟨_,rfl⟩;rw[<- c] at e ⊢;have u:S / 4294967296=(v:Int):=by rw[c];simp only[KK];omega
  have t:bits .and .u64 S 2147483648=0:=by rw[c];have:=st_flag v 0 (by omega) (by omega);simpa[KK] using this
  have s:bits .and .u64 S 2147483647=0:=by rw[c];have:=qra v 0 (by omega) (by omega);simpa[KK] using this
  have r:IntKind.i32.wrap (v:Int)=(v:Int):=by rw[qoz];omega
  have l:decide ((v:Int)<0)=false:=decide_eq_false (by omega);have k:decide (0<(v:Int))=true:=decide_eq_true (by omega);have j:((v:Int) == 0)=false:=by simp;omega
  have i:decide ((v:Int)=0)=false:=decide_eq_false (by omega);have f1:IntKind.u32.wrap 0=0:=by decide
  refine⟨_,(qmi rfl rfl (by k_ne) rfl H.f_addU64 (x_addU64_n L) (x_addU64_b L) (x_addU64_x L) .u64 (x_addU64_f L) rfl rfl b.cellSt (b.thaw 0)).trans (by rw[e];rfl),λd=>absurd d.1 (by omega),λ_=>⟨qt+89,?_⟩⟩;clear b c z e;walk_nrm
  (refine qv ?_;walk_nrm)
  q_c qhF;q_c qkB;q_leave1 H.f_uAdd
  (refine qv ?_;walk_nrm)
  q_c qhF;q_c qif;q_c qif;q_reg
  iterate 4 (refine qv ?_;walk_nrm)
  q_skip;q_skip
  (refine qv ?_;walk_nrm)
  q_c qhF;q_cond false;q_c qjr;q_c qif;q_reg
  iterate 4 (refine qv ?_;walk_nrm)
  q_c qhF;q_c qif;q_reg
  iterate 4 (refine qv ?_;walk_nrm)
  q_c qhF;q_c qif;q_c qif;q_reg
  iterate 5 (refine qv ?_;walk_nrm)
  q_skip;q_skip;q_skip;q_skip
  (refine qv ?_;walk_nrm)
  q_c qhF;q_cond false;q_c qjr;q_c qif;q_c qif;q_reg
  iterate 2 (refine qv ?_;walk_nrm)
  q_c qhF;q_cond false;q_c qjr;q_c qif;q_c qif;q_reg
  iterate 3 (refine qv ?_;walk_nrm)
  q_skip;q_skip
  iterate 2 (refine qv ?_;walk_nrm)
  q_skip;q_skip;q_skip;q_skip
  (refine qv ?_;walk_nrm)
  q_c qhF;q_cond false;q_c qjr;q_c qif;q_c qif;q_reg
  iterate 3 (refine qv ?_;walk_nrm)
  q_skip;q_skip
  (refine qv ?_;walk_nrm)
  q_c qhF;q_cond true;q_c qkB;q_enable;q_leave0 H.f_add;exact f
 ·replace b:qo9 L.tWg Wg w₁ (((v:Nat)+1)*KK+1) 0:=by simpa using b
  have z:((v:Nat):Int)*KK+((1:Nat):Int)=(v:Int)*KK+1:=by simp
  rw[z];have g:0<v:=by omega
  have e:IntKind.u64.wrap (((v:Nat)+1)*KK+1+18446744069414584320)=(v:Int)*KK+1:=by rw[qoy];simp only[KK];omega
  obtain⟨S,c⟩:∃S:Int,S=(v:Int)*KK+1:=⟨_,rfl⟩;rw[<- c] at e ⊢;have u:S / 4294967296=(v:Int):=by rw[c];simp only[KK];omega
  have t:bits .and .u64 S 2147483648=0:=by rw[c];have:=st_flag v 1 (by omega) (by omega);simpa[KK] using this
  have s:bits .and .u64 S 2147483647=1:=by rw[c];have:=qra v 1 (by omega) (by omega);simpa[KK] using this
  have r:IntKind.i32.wrap (v:Int)=(v:Int):=by rw[qoz];omega
  have l:decide ((v:Int)<0)=false:=decide_eq_false (by omega);have k:decide (0<(v:Int))=true:=decide_eq_true (by omega);have j:((v:Int) == 0)=false:=by simp;omega
  have i:decide ((v:Int)=0)=false:=decide_eq_false (by omega);refine⟨_,(qmi rfl rfl (by k_ne) rfl H.f_addU64 (x_addU64_n L) (x_addU64_b L) (x_addU64_x L) .u64 (x_addU64_f L) rfl rfl b.cellSt (b.thaw 0)).trans (by rw[e];rfl),λd=>absurd d.1 (by omega),λ_=>⟨qt+89,?_⟩⟩;clear b c z e;walk_nrm
  (refine qv ?_;walk_nrm)
  q_c qhF;q_c qkB;q_leave1 H.f_uAdd
  (refine qv ?_;walk_nrm)
  q_c qhF;q_c qif;q_c qif;q_reg
  iterate 4 (refine qv ?_;walk_nrm)
  q_skip;q_skip
  (refine qv ?_;walk_nrm)
  q_c qhF;q_cond false;q_c qjr;q_c qif;q_reg
  iterate 4 (refine qv ?_;walk_nrm)
  q_c qhF;q_c qif;q_reg
  iterate 4 (refine qv ?_;walk_nrm)
  q_c qhF;q_c qif;q_c qif;q_reg
  iterate 5 (refine qv ?_;walk_nrm)
  q_skip;q_skip;q_skip;q_skip
  (refine qv ?_;walk_nrm)
  q_c qhF;q_cond false;q_c qjr;q_c qif;q_c qif;q_reg
  iterate 2 (refine qv ?_;walk_nrm)
  q_c qhF;q_cond false;q_c qjr;q_c qif;q_c qif;q_reg
  iterate 7 (refine qv ?_;walk_nrm)
  q_skip;q_skip;q_skip;q_skip
  (refine qv ?_;walk_nrm)
  q_c qhF;q_cond false;q_c qjr;q_c qif;q_c qif;q_reg
  iterate 3 (refine qv ?_;walk_nrm)
  q_skip;q_skip
  (refine qv ?_;walk_nrm)
  q_c qhF;q_cond true;q_c qkB;q_enable;q_leave0 H.f_add;exact f
def done{P:qi4}(H:WgLib P L){c:qi5}(b:c.mode=.returning)(e:qpl P qt 0 (G c cs))(w:qhy)(a:qkF L.tWg Wg w) :qnm P false (LR L.tWg Wg) DC0 (qgj P L.tWg Wg) 23 (G ((baseD L.done).at ⟨#[.pointer (some ⟨Wg,0,none⟩),qhE,qhE,qhE],[]⟩ [.code (body_done L)]) (c::cs)) w:=by
 lib_facts;have d:=@addNeg L Wg;simp only[body_done,body_add,doneFn,addFn,qi0] at d ⊢;u_reg qc a;u_op qc a;u_in qc a;refine goes_call rfl rfl (by k_ne) rfl H.f_add (nm_add L) rfl ⟨by u_nil,?_⟩
 walk_nrmf addFn
 refine d (qt:=qt+3) H ?_ _ a;q_c qhF;q_c qrC;exact QuitsD.leaveD rfl rfl H.f_done rfl b e
end
end
section
open Go.Conc Go.ConcN Go.ConcN.Gen Go.RowKit Go.Conc.Lib Go.ConcR.Gen
open Go.ConcR (KK wgBlock WgAt stA smA rd wr mk DC0)
def qb{ty:qid}{Wg:Nat}{w w₁:qhy}(h:qkF ty Wg w)(r:LR ty Wg w w₁):qkF ty Wg w₁:=r h
section
variable(P:qi4)(b:Bool)(ty:qid)(Wg:Nat)
def q7l(m:Mark)(qmt:qhD->qhy->Prop)(N:Nat)(g:qhD)(w:qhy):Prop :=
 g.status=.running/\∃a,qjc P b g w=.go a w #[mk m]/\qnm P b (LR ty Wg) DC0 qmt N a w
def qfg(qmt:qhD->qhy->Prop)(g:qhD)(w:qhy):Prop :=
 g.status=.running/\∀v:Nat,v<2147483647->qo9 ty Wg w (v*KK) 0 ->
  ∃a,qjc P b g w=.go a (w.setCell (stA Wg) (.int .u64 ((v+1)*KK))) #[rd (stA Wg),wr (stA Wg)] /\
   (qnm P b (LR ty Wg) DC0 (q7l P b ty Wg (.read (smA Wg)) (q7l P b ty Wg .enable qmt 2) 60) 110 a (w.setCell (stA Wg) (.int .u64 ((v+1)*KK))) \/
    qnm P b (LR ty Wg) DC0 (q7l P b ty Wg .enable qmt 2) 110 a (w.setCell (stA Wg) (.int .u64 ((v+1)*KK))))
end
section
variable{L:WgLink}{Wg:Nat}{qmt:qhD->qhy->Prop}{b₀:qi5}{a₀:Act}{ops₀:Array qjx}{i₀:Nat}{rest₀:List Nat}{k₀:List qm1}{cs:List qi5}
def addPos{P:qi4}(H:WgLib P L)(f:∀w,qkF L.tWg Wg w->qmt (G (b₀.at (a₀.put ((ops₀[i₀]?).bind (·.dst)) (.tuple #[])) (.inRegion ops₀ rest₀::k₀)) cs) w)(w:qhy)(a:qkF L.tWg Wg w) :qnm P true (LR L.tWg Wg) DC0 (q7l P true L.tWg Wg .disable (qfg P true L.tWg Wg qmt) 40) 12 (G ((base L.add).at ⟨#[.pointer (some ⟨Wg,0,none⟩),.int .i64 1,qhE,qhE,qhE,qhE,qhE,qhE,qhE,qhE,qhE,qhE,qhE,qhE,qhE,qhE,qhE,qhE,qhE,qhE,qhE,qhE,qhE,qhE,qhE,qhE,qhE,qhE,qhE,qhE,qhE,qhE,qhE,qhE,qhE,qhE,qhE,qhE,qhE,qhE,qhE,qhE,qhE,qhE,qhE,qhE,qhE,qhE,qhE,qhE,qhE,qhE,qhE,qhE,qhE,qhE,qhE,qhE,qhE,qhE,qhE,qhE,qhE,qhE,qhE,qhE,qhE,qhE,qhE,qhE,qhE,qhE,qhE,qhE,qhE,qhE,qhE,qhE,qhE,qhE,qhE,qhE,qhE,qhE,qhE,qhE,qhE,qhE,qhE,qhE,qhE,qhE,qhE,qhE,qhE,qhE,qhE,qhE,qhE,qhE,qhE,qhE,qhE,qhE,qhE,qhE,qhE,qhE,qhE,qhE,qhE,qhE,qhE,qhE,qhE,qhE,qhE],[]⟩ [.code (body_add L)]) (b₀.at a₀ (.inRegion ops₀ (i₀::rest₀)::k₀)::cs)) w:=by
 lib_facts;simp only[body_add,addFn,qi0];u_c qif qb a;u_cond true qb a;(iterate 2 u_c qif qb a);u_reg qb a;u_op qb a;u_op qb a;u_c qhF qb a;u_cond false qb a;u_c qjr qb a;u_c qif qb a;u_reg qb a;refine qkd (λw₁ h₁=>?_);replace a:=qb a h₁;clear h₁;refine⟨rfl,_,qpr .disable (by simp) rfl rfl (by k_ne) rfl H.f_disable (x_disable_n L) (x_disable_b L) (x_disable_x L) (x_disable_f L),?_⟩;walk_nrm;u_c qhF qb a;u_reg qb a;u_defer qb a;u_c qhF qb a;u_c qif qb a;u_reg qb a;u_op qb a;u_c qhF qb a;(iterate 2 u_c qif qb a);u_reg qb a;u_bub qb a;u_c qhF qb a;u_cond false qb a;u_c qjr qb a;u_c qif qb a;u_reg qb a;(iterate 6 u_op qb a);u_call H.f_uAdd (nm_uAdd L) uAddFn qb a;u_c qif qb a;u_reg qb a;u_op qb a;u_c qhF qb a;u_c qif qb a;u_reg qb a;(iterate 4 u_op qb a);refine qkd (λw₂ h₂=>?_);clear h₂ a;refine⟨rfl,λv s c=>?_⟩;rcases qpm v with rfl | h
 ·replace c:qo9 L.tWg Wg w₂ 0 0:=by simpa using c
  have z:(((0:Nat):Int)+1)*KK=KK:=by simp
  rw[z];have k:IntKind.u64.wrap (0+4294967296)=KK:=by decide
  refine⟨_,(qmi rfl rfl (by k_ne) rfl H.f_addU64 (x_addU64_n L) (x_addU64_b L) (x_addU64_x L) .u64 (x_addU64_f L) rfl rfl c.cellSt (c.thaw 0)).trans (by rw[k];rfl),.inl ?_⟩;have a:qkF L.tWg Wg (w₂.setCell (stA Wg) (.int .u64 KK)):=⟨_,_,c.setSt _⟩;clear c;simp only[KK] at a ⊢;walk_nrm;u_conv H.underlying_tPU32 H.room_tU32 (qkG a).choose_spec qb a;u_c qhF qb a;u_c qkB qb a;u_leave1 H.f_uAdd qb a;u_conv H.underlying_tPU32 H.room_tU32 (qkG a).choose_spec qb a;u_c qhF qb a;(iterate 2 u_c qif qb a);u_reg qb a;(iterate 4 u_conv H.underlying_tPU32 H.room_tU32 (qkG a).choose_spec qb a);u_skip qb a;u_skip qb a;u_conv H.underlying_tPU32 H.room_tU32 (qkG a).choose_spec qb a;u_c qhF qb a;u_cond false qb a;u_c qjr qb a;u_c qif qb a;u_reg qb a;(iterate 2 u_conv H.underlying_tPU32 H.room_tU32 (qkG a).choose_spec qb a);u_op qb a;u_conv H.underlying_tPU32 H.room_tU32 (qkG a).choose_spec qb a;u_c qhF qb a;u_c qif qb a;u_reg qb a;(iterate 2 u_conv H.underlying_tPU32 H.room_tU32 (qkG a).choose_spec qb a);u_op qb a;u_conv H.underlying_tPU32 H.room_tU32 (qkG a).choose_spec qb a;u_c qhF qb a;(iterate 2 u_c qif qb a);u_reg qb a;(iterate 7 u_conv H.underlying_tPU32 H.room_tU32 (qkG a).choose_spec qb a);u_op qb a;(iterate 2 u_conv H.underlying_tPU32 H.room_tU32 (qkG a).choose_spec qb a);u_c qhF qb a;u_cond true qb a;u_reg qb a;(iterate 2 u_conv H.underlying_tPU32 H.room_tU32 (qkG a).choose_spec qb a);u_op qb a;u_conv H.underlying_tPU32 H.room_tU32 (qkG a).choose_spec qb a;refine qkd (λw₃ h₃=>?_);replace a:=qb a h₃;clear h₃;refine⟨rfl,_,qpf .read (by simp) rfl rfl (by k_ne) rfl H.f_raceRead (x_raceRead_n L) (x_raceRead_b L) (x_raceRead_x L) (x_raceRead_f L) (ad:=⟨Wg,1,none⟩) (by simp[Act.eval]),?_⟩;walk_nrm;u_c qhF qb a;(iterate 2 u_c qif qb a);u_reg qb a;u_op qb a;u_op qb a;u_c qhF qb a;u_cond false qb a;u_c qjr qb a;(iterate 2 u_c qif qb a);u_reg qb a;(iterate 3 u_op qb a);u_skip qb a;u_skip qb a;u_op qb a;u_op qb a;(iterate 4 u_skip qb a);u_op qb a;u_c qhF qb a;u_cond false qb a;u_c qjr qb a;(iterate 2 u_c qif qb a);u_reg qb a;(iterate 3 u_op qb a);u_skip qb a;u_skip qb a;u_op qb a;u_c qhF qb a;u_cond true qb a;u_c qkB qb a;refine qkd (λw₃ h₃=>?_);replace a:=qb a h₃;clear h₃;refine⟨rfl,_,stepG_unwind_entry (v:=.tuple #[]) (evs:=#[mk .enable]) rfl H.f_enable (x_enable_n L) (x_enable_b L) (x_enable_x L) (x_enable_f L) (by simp[Extern.Race.none_]) (by simp[mk]) (by simp[mk]),?_⟩;u_leave0 H.f_add qb a;exact qkd λw₄ h₄=>f _ (qb a h₄)
 ·obtain⟨V,e⟩:∃V:Int,V=(v:Int)+1:=⟨_,rfl⟩;obtain⟨S,d⟩:∃S:Int,S=V*KK:=⟨_,rfl⟩;have g:IntKind.u64.wrap ((v:Int)*KK+4294967296)=S:=by rw[qoy,d,e];simp only[KK];omega
  rw[<- e,<- d];have y:S / 4294967296=V:=by rw[d];simp only[KK];omega
  have x:bits .and .u64 S 2147483648=0:=by rw[d,e];have:=st_flag (v+1) 0 (by omega) (by omega);simpa[KK] using this
  have u:bits .and .u64 S 2147483647=0:=by rw[d,e];have:=qra (v+1) 0 (by omega) (by omega);simpa[KK] using this
  have t:IntKind.i32.wrap V=V:=by rw[qoz];omega
  have j:1<V:=by omega
  have i:V<2147483648:=by omega
  have r:(V == 1)=false:=by simp;omega
  have q:decide (V=1)=false:=decide_eq_false (by omega);have p:decide (V<0)=false:=decide_eq_false (by omega);have o:decide (0<V)=true:=decide_eq_true (by omega);have n:(V == 0)=false:=by simp;omega
  have l:decide (V=0)=false:=decide_eq_false (by omega);refine⟨_,(qmi rfl rfl (by k_ne) rfl H.f_addU64 (x_addU64_n L) (x_addU64_b L) (x_addU64_x L) .u64 (x_addU64_f L) rfl rfl c.cellSt (c.thaw 0)).trans (by rw[g];rfl),.inr ?_⟩;have a:qkF L.tWg Wg (w₂.setCell (stA Wg) (.int .u64 S)):=⟨_,_,c.setSt _⟩;clear c d e g;walk_nrm;u_op qb a;u_c qhF qb a;u_c qkB qb a;u_leave1 H.f_uAdd qb a;u_op qb a;u_c qhF qb a;(iterate 2 u_c qif qb a);u_reg qb a;(iterate 4 u_op qb a);u_skip qb a;u_skip qb a;u_op qb a;u_c qhF qb a;u_cond false qb a;u_c qjr qb a;u_c qif qb a;u_reg qb a;(iterate 4 u_op qb a);u_c qhF qb a;u_c qif qb a;u_reg qb a;(iterate 4 u_op qb a);u_c qhF qb a;(iterate 2 u_c qif qb a);u_reg qb a;(iterate 10 u_op qb a);u_c qhF qb a;u_cond false qb a;u_c qjr qb a;(iterate 2 u_c qif qb a);u_reg qb a;u_op qb a;u_op qb a;u_c qhF qb a;u_cond false qb a;u_c qjr qb a;(iterate 2 u_c qif qb a);u_reg qb a;(iterate 3 u_op qb a);u_skip qb a;u_skip qb a;u_op qb a;u_op qb a;(iterate 4 u_skip qb a);u_op qb a;u_c qhF qb a;u_cond false qb a;u_c qjr qb a;(iterate 2 u_c qif qb a);u_reg qb a;(iterate 3 u_op qb a);u_skip qb a;u_skip qb a;u_op qb a;u_c qhF qb a;u_cond true qb a;u_c qkB qb a;refine qkd (λw₃ h₃=>?_);replace a:=qb a h₃;clear h₃;refine⟨rfl,_,stepG_unwind_entry (v:=.tuple #[]) (evs:=#[mk .enable]) rfl H.f_enable (x_enable_n L) (x_enable_b L) (x_enable_x L) (x_enable_f L) (by simp[Extern.Race.none_]) (by simp[mk]) (by simp[mk]),?_⟩;u_leave0 H.f_add qb a;exact qkd λw₄ h₄=>f _ (qb a h₄)
end
end
section
open Go.Conc Go.ConcN Go.ConcN.Gen Go.RowKit Go.Conc.Lib Go.ConcR.Gen
open Go.ConcR (KK wgBlock WgAt stA smA rd wr mk DC0)
def qa{ty:qid}{Wg:Nat}{w w₁:qhy}(h:qkF ty Wg w)(r:LR ty Wg w w₁):qkF ty Wg w₁:=r h
section
variable(P:qi4)(ty:qid)(Wg:Nat)(Fin Anch:qhD->qhy->Prop)
def q0m(m:Mark)(qmt:qhD->qhy->Prop)(N:Nat)(g:qhD)(w:qhy):Prop :=
 g.status=.running/\∃a,qjc P true g w=.go a w #[mk m]/\qnm P true (LR ty Wg) DC0 qmt N a w
def MW4(g:qhD)(w:qhy):Prop :=
 g.status=.running/\(qo9 ty Wg w 0 0->∃a,qjc P true g w=.go a w #[rd (stA Wg)]/\qnm P true (LR ty Wg) DC0 (q0m P ty Wg .enable (q0m P ty Wg (.acquire (stA Wg)) Fin 40) 12) 30 a w)
def MW3(g:qhD)(w:qhy):Prop :=
 g.status=.running/\g.offers=none /\
  ((∃b,qo9 ty Wg w b 0)->qjc P true g w=.go { g with status:=.blocked } w #[]) /\
  (qo9 ty Wg w 0 1->∃a,qjc P true g w=.go a (w.setCell (smA Wg) (.int .u32 0)) (qms (smA Wg))/\qnm P true (LR ty Wg) DC0 (MW4 P ty Wg Fin) 30 a (w.setCell (smA Wg) (.int .u32 0)))
def MW2(b:Nat)(g:qhD)(w:qhy):Prop :=
 g.status=.running/\∀v:Nat,v<2147483648->qo9 ty Wg w (v*KK) 0 ->
  (v=b->∃a,qjc P true g w=.go a (w.setCell (stA Wg) (.int .u64 (v*KK+1))) #[rd (stA Wg),wr (stA Wg)]/\qnm P true (LR ty Wg) DC0 (q0m P ty Wg (.write (smA Wg)) (MW3 P ty Wg Fin) 40) 70 a (w.setCell (stA Wg) (.int .u64 (v*KK+1)))) /\
  (v≠b->∃a,qjc P true g w=.go a w #[rd (stA Wg)]/\qnm P true (LR ty Wg) DC0 Anch 20 a w)
def MW1(g:qhD)(w:qhy):Prop :=
 g.status=.running/\∀v:Nat,v<2147483648->qo9 ty Wg w (v*KK) 0->∃a,qjc P true g w=.go a w #[rd (stA Wg)] /\
  (v=0->qnm P true (LR ty Wg) DC0 (q0m P ty Wg .enable (q0m P ty Wg (.acquire (stA Wg)) Fin 40) 12) 50 a w)/\(v≠0->qnm P true (LR ty Wg) DC0 (MW2 P ty Wg Fin Anch v) 60 a w)
end
def Jt(L:WgLink)(Wg:Nat)(c:qi5)(cs:List qi5)(g:qhD)(w:qhy):Prop :=
 ∃T:Array qhC,g=G ((base L.wait).at ⟨T,[]⟩ [.code (L7 L),.inLoop (L7 L),.inBlock 0]) (c::cs)/\T.size=84/\T[0]?=some (.pointer (some ⟨Wg,0,none⟩))/\qkF L.tWg Wg w
section
variable{L:WgLink}{Wg:Nat}{Fin:qhD->qhy->Prop}{b₀:qi5}{a₀:Act}{ops₀:Array qjx}{i₀:Nat}{rest₀:List Nat}{k₀:List qm1}{cs:List qi5}
def waitRound{P:qi4}(H:WgLib P L)(j:∀w,qkF L.tWg Wg w->Fin (G (b₀.at (a₀.put ((ops₀[i₀]?).bind (·.dst)) (.tuple #[])) (.inRegion ops₀ rest₀::k₀)) cs) w)(g:qhD)(w:qhy)(h:Jt L Wg (b₀.at a₀ (.inRegion ops₀ (i₀::rest₀)::k₀)) cs g w) :qnm P true (LR L.tWg Wg) DC0 (MW1 P L.tWg Wg Fin (Jt L Wg (b₀.at a₀ (.inRegion ops₀ (i₀::rest₀)::k₀)) cs)) 30 g w:=by
 lib_facts;obtain⟨T,rfl,d,i,a⟩:=h;obtain⟨v0,v1,v2,v3,v4,v5,v6,v7,v8,v9,m6,m5,m4,m3,l9,l8,l7,l6,l5,l4,k9,k8,k7,k6,k5,k0,h9,h8,g9,g8,g7,g6,g5,e9,e8,e7,e6,e5,e4,d9,d8,d7,d6,d5,c9,c8,c3,b9,b8,b7,b6,b0,a9,a8,a7,a6,Z,Y,X,W,V,U,R,Q,O,N,M,I,F,D,B,A,z,y,x,u,t,s,r,q,p,o,l,k,rfl⟩:=array84 T d;simp only[qou,List.getElem?_cons_zero,qj3] at i;subst i;simp only[L7,body_wait,waitFn,qi0];u_c qod qa a;u_c qif qa a;u_reg qa a;(iterate 3 u_op qa a);u_call H.f_uLoad (nm_uLoad L) uLoadFn qa a;u_c qif qa a;u_reg qa a;u_op qa a;u_c qhF qa a;u_c qif qa a;u_reg qa a;(iterate 3 u_op qa a);refine qkd (λw₁ h₁=>?_);replace a:=qa a h₁;clear h₁;refine⟨rfl,λv hv b=>?_⟩;rcases qpm v with rfl | m8
 ·replace b:qo9 L.tWg Wg w₁ 0 0:=by simpa using b
  refine⟨_,qmu (v:=0) rfl rfl (by k_ne) rfl H.f_loadU64 (x_loadU64_n L) (x_loadU64_b L) (x_loadU64_x L) .u64 (x_loadU64_f L) rfl b.cellSt,λ_=>?_,λh=>absurd rfl h⟩;clear b;walk_nrm;u_op qa a;u_c qhF qa a;u_c qkB qa a;u_leave1 H.f_uLoad qa a;u_op qa a;u_c qhF qa a;u_c qif qa a;u_reg qa a;(iterate 4 u_op qa a);u_c qhF qa a;u_c qif qa a;u_reg qa a;(iterate 4 u_op qa a);u_c qhF qa a;(iterate 2 u_c qif qa a);u_reg qa a;u_op qa a;u_op qa a;u_c qhF qa a;u_cond true qa a;u_c qif qa a;u_cond true qa a;u_c qif qa a;u_reg qa a;refine qkd (λw₅ h₅=>?_);replace a:=qa a h₅;clear h₅;refine⟨rfl,_,qpr .enable (by simp) rfl rfl (by k_ne) rfl H.f_enable (x_enable_n L) (x_enable_b L) (x_enable_x L) (x_enable_f L),?_⟩;walk_nrm;u_c qhF qa a;u_reg qa a;(iterate 2 u_conv H.underlying_tWgP H.room_tWg (qq2 a).choose_spec qa a);refine qkd (λw₆ h₆=>?_);replace a:=qa a h₆;clear h₆;refine⟨rfl,_,qpf .acquire (by simp) rfl rfl (by k_ne) rfl H.f_acquire (x_acquire_n L) (x_acquire_b L) (x_acquire_x L) (x_acquire_f L) (by simp[Act.eval,stA]),?_⟩;walk_nrm;u_c qhF qa a;(iterate 2 u_c qif qa a);u_reg qa a;(iterate 8 u_op qa a);u_skip qa a;u_skip qa a;u_op qa a;u_c qhF qa a;u_cond false qa a;u_c qjr qa a;u_c qkB qa a;u_leave0 H.f_wait qa a;exact qkd λw₇ h₇=>j _ (qa a h₇)
 ·obtain⟨S,c⟩:∃S:Int,(v:Int)*KK=S:=⟨_,rfl⟩;have a1:S / 4294967296=(v:Int):=by rw[<- c];simp only[KK];omega
  have b1:bits .and .u64 S 2147483648=0:=by rw[<- c];have:=st_flag v 0 (by omega) (by omega);simpa[KK] using this
  have b2:bits .and .u64 S 2147483647=0:=by rw[<- c];have:=qra v 0 (by omega) (by omega);simpa[KK] using this
  have c1:IntKind.i32.wrap (v:Int)=(v:Int):=by rw[qoz];omega
  have w1:IntKind.u64.wrap (S+1)=S+1:=by rw[qoy,<- c];simp only[KK];omega
  have q3:decide ((v:Int)<0)=false:=decide_eq_false (by omega);have q4:decide (0<(v:Int))=true:=decide_eq_true (by omega);have q5:((v:Int) == 0)=false:=by simp;omega
  have q6:decide ((v:Int)=0)=false:=decide_eq_false (by omega);rw[c] at b;refine⟨_,qmu (v:=S) rfl rfl (by k_ne) rfl H.f_loadU64 (x_loadU64_n L) (x_loadU64_b L) (x_loadU64_x L) .u64 (x_loadU64_f L) rfl b.cellSt,λh0=>absurd h0 (by omega),λ_=>?_⟩;clear b;walk_nrm;u_op qa a;u_c qhF qa a;u_c qkB qa a;u_leave1 H.f_uLoad qa a;u_op qa a;u_c qhF qa a;u_c qif qa a;u_reg qa a;(iterate 4 u_op qa a);u_c qhF qa a;u_c qif qa a;u_reg qa a;(iterate 4 u_op qa a);u_c qhF qa a;(iterate 2 u_c qif qa a);u_reg qa a;u_op qa a;u_op qa a;u_c qhF qa a;u_cond false qa a;u_c qjr qa a;u_c qif qa a;u_reg qa a;(iterate 6 u_op qa a);u_call H.f_uCas (nm_uCas L) uCasFn qa a;u_c qif qa a;u_reg qa a;u_op qa a;u_c qhF qa a;u_c qif qa a;u_reg qa a;(iterate 5 u_op qa a);refine qkd (λw₂ h₂=>?_);replace a:=qa a h₂;clear h₂;refine⟨rfl,λv' m9 b=>⟨λe=>?_,λe=>?_⟩⟩
  ·subst e;rw[c] at b ⊢;refine⟨_,(stepG_cas_hit (v:=S) (n:=S+1) rfl rfl (by k_ne) rfl H.f_casU64 (x_casU64_n L) (x_casU64_b L) (x_casU64_x L) .u64 (x_casU64_f L) rfl rfl rfl b.cellSt (b.thaw 0)).trans (by rfl),?_⟩;replace a:qkF L.tWg Wg (w₂.setCell (stA Wg) (.int .u64 (S+1))):=⟨_,_,b.setSt _⟩;clear b;walk_nrm;u_conv H.underlying_tPU32 H.room_tU32 (qkG a).choose_spec qa a;u_c qhF qa a;u_c qkB qa a;u_leave1 H.f_uCas qa a;u_c qhF qa a;u_cond true qa a;(iterate 2 u_c qif qa a);u_reg qa a;(iterate 4 u_conv H.underlying_tPU32 H.room_tU32 (qkG a).choose_spec qa a);u_c qhF qa a;u_cond true qa a;u_reg qa a;(iterate 2 u_conv H.underlying_tPU32 H.room_tU32 (qkG a).choose_spec qa a);u_op qa a;u_conv H.underlying_tPU32 H.room_tU32 (qkG a).choose_spec qa a;refine qkd (λw₃ h₃=>?_);replace a:=qa a h₃;clear h₃;refine⟨rfl,_,qpf .write (by simp) rfl rfl (by k_ne) rfl H.f_raceWrite (x_raceWrite_n L) (x_raceWrite_b L) (x_raceWrite_x L) (x_raceWrite_f L) (ad:=⟨_,1,none⟩) (by simp[Act.eval]<;>rfl),?_⟩;walk_nrm;u_c qhF qa a;u_c qif qa a;u_reg qa a;u_op qa a;u_c qhF qa a;(iterate 2 u_c qif qa a);u_reg qa a;(iterate 4 u_op qa a);u_skip qa a;u_op qa a;u_c qhF qa a;u_cond false qa a;u_c qjr qa a;u_c qif qa a;u_reg qa a;(iterate 4 u_op qa a);refine qkd (λw₃ h₃=>?_);replace a:=qa a h₃;clear h₃;refine⟨rfl,rfl,λ⟨st,b⟩=>stepG_semacquire_wait rfl rfl rfl H.f_semacquire (x_semacquire_n L) (x_semacquire_b L) (x_semacquire_x L) (x_semacquire_f L) (by simp[Act.eval,smA]) b.cellSm,λf=>?_⟩;refine⟨_,(stepG_semacquire (n:=1) rfl rfl (by k_ne) rfl H.f_semacquire (x_semacquire_n L) (x_semacquire_b L) (x_semacquire_x L) (x_semacquire_f L) (by simp[Act.eval,smA]) f.cellSm (by k_ne) (f.thaw 1)).trans (by rfl),?_⟩;replace a:qkF L.tWg Wg (w₃.setCell (smA Wg) (.int .u32 0)):=⟨_,_,f.setSm 0⟩;clear f;walk_nrm;u_c qhF qa a;u_c qif qa a;u_reg qa a;(iterate 3 u_op qa a);u_call H.f_uLoad (nm_uLoad L) uLoadFn qa a;u_c qif qa a;u_reg qa a;u_op qa a;u_c qhF qa a;u_c qif qa a;u_reg qa a;(iterate 3 u_op qa a);refine qkd (λw₄ h₄=>?_);replace a:=qa a h₄;clear h₄;refine⟨rfl,λb=>⟨_,qmu (v:=0) rfl rfl (by k_ne) rfl H.f_loadU64 (x_loadU64_n L) (x_loadU64_b L) (x_loadU64_x L) .u64 (x_loadU64_f L) rfl b.cellSt,?_⟩⟩;clear b;walk_nrm;u_op qa a;u_c qhF qa a;u_c qkB qa a;u_leave1 H.f_uLoad qa a;u_op qa a;u_op qa a;u_c qhF qa a;u_c qif qa a;u_cond true qa a;u_c qif qa a;u_reg qa a;refine qkd (λw₅ h₅=>?_);replace a:=qa a h₅;clear h₅;refine⟨rfl,_,qpr .enable (by simp) rfl rfl (by k_ne) rfl H.f_enable (x_enable_n L) (x_enable_b L) (x_enable_x L) (x_enable_f L),?_⟩;walk_nrm;u_c qhF qa a;u_reg qa a;(iterate 2 u_conv H.underlying_tWgP H.room_tWg (qq2 a).choose_spec qa a);refine qkd (λw₆ h₆=>?_);replace a:=qa a h₆;clear h₆;refine⟨rfl,_,qpf .acquire (by simp) rfl rfl (by k_ne) rfl H.f_acquire (x_acquire_n L) (x_acquire_b L) (x_acquire_x L) (x_acquire_f L) (by simp[Act.eval,stA]),?_⟩;walk_nrm;u_c qhF qa a;(iterate 2 u_c qif qa a);u_reg qa a;u_op qa a;u_c qhF qa a;u_cond false qa a;u_c qjr qa a;u_c qkB qa a;u_leave0 H.f_wait qa a;exact qkd λw₇ h₇=>j _ (qa a h₇)
  ·refine⟨_,stepG_cas_miss (v:=(v':Int)*KK) (old:=S) (n:=S+1) rfl rfl (by k_ne) rfl H.f_casU64 (x_casU64_n L) (x_casU64_b L) (x_casU64_x L) .u64 (x_casU64_f L) rfl rfl rfl b.cellSt (b.thaw 0) (by rw[<- c];simp only[KK];omega),?_⟩;clear b;walk_nrm;u_op qa a;u_c qhF qa a;u_c qkB qa a;u_leave1 H.f_uCas qa a;u_c qhF qa a;u_cond false qa a;u_c qjr qa a;u_c stepG_inBlock qa a;u_c stepG_inLoop qa a;refine qkd (λw₃ h₃=>?_);replace a:=qa a h₃;exact⟨_,rfl,by simp,by simp,a⟩
def waitStart{P:qi4}(H:WgLib P L)(w:qhy)(a:qkF L.tWg Wg w) :qnm P true (LR L.tWg Wg) DC0 (q0m P L.tWg Wg .disable (Jt L Wg (b₀.at a₀ (.inRegion ops₀ (i₀::rest₀)::k₀)) cs) 3) 3 (G ((base L.wait).at ⟨#[.pointer (some ⟨Wg,0,none⟩),qhE,qhE,qhE,qhE,qhE,qhE,qhE,qhE,qhE,qhE,qhE,qhE,qhE,qhE,qhE,qhE,qhE,qhE,qhE,qhE,qhE,qhE,qhE,qhE,qhE,qhE,qhE,qhE,qhE,qhE,qhE,qhE,qhE,qhE,qhE,qhE,qhE,qhE,qhE,qhE,qhE,qhE,qhE,qhE,qhE,qhE,qhE,qhE,qhE,qhE,qhE,qhE,qhE,qhE,qhE,qhE,qhE,qhE,qhE,qhE,qhE,qhE,qhE,qhE,qhE,qhE,qhE,qhE,qhE,qhE,qhE,qhE,qhE,qhE,qhE,qhE,qhE,qhE,qhE,qhE,qhE,qhE,qhE],[]⟩ [.code (body_wait L)]) (b₀.at a₀ (.inRegion ops₀ (i₀::rest₀)::k₀)::cs)) w:=by
 lib_facts;simp only[body_wait,waitFn,qi0];u_c qif qa a;u_cond true qa a;u_reg qa a;refine qkd (λw₁ h₁=>?_);replace a:=qa a h₁;clear h₁;refine⟨rfl,_,qpr .disable (by simp) rfl rfl (by k_ne) rfl H.f_disable (x_disable_n L) (x_disable_b L) (x_disable_x L) (x_disable_f L),?_⟩;walk_nrm;u_c qhF qa a;u_c qod qa a;u_c qr9 qa a;exact qkd (λw₂ h₂=>⟨_,rfl,by simp,by simp,qa a h₂⟩)
end
end
section
open Go.Conc Go.ConcN Go.ConcN.Gen Go.RowKit Go.Conc.Lib Go.ConcR.Gen
open Go.ConcR (KK wgBlock WgAt stA smA rd wr mk DC0)
section
variable{P:qi4}{b:Bool}{ty:qid}{Wg:Nat}{R:qhy->qhy->Prop}{D D':qhy->qhy->Array qjs->Prop}{Stop Stop' qmt:qhD->qhy->Prop}
def xk(i:∀w c f,D w c f->D' w c f)(d:∀g w,Stop g w->Stop' g w) :∀{n:Nat} {g:qhD} {w:qhy},qnm P b R D Stop n g w->qnm P b R D' Stop' n g w
 | 0,_,_,h=>λw₁ a=>d _ _ (h w₁ a)
 | n+1,_,_,.inl h=>.inl λw₁ a=>d _ _ (h w₁ a)
 | n+1,g,w,.inr ⟨j,h⟩=>.inr ⟨j,λw₁ a=>by
   have⟨o,c,f,e,l,k⟩:=goes_elim (h w₁ a);rw[e];exact⟨i _ _ _ l,xk i d k⟩⟩
def q84{n:Nat}{g:qhD}{w:qhy}:∀r,qnm P b R D Stop n g w->qnm P b R D Stop (n+r) g w
 | 0,h=>h
 | r+1,h=>(q84 r h).more
def ZH(a:∀w,R w w){N:Nat}:∀{n:Nat} {g:qhD} {w:qhy},qnm P b R D (λg w=>qnm P b R D Stop N g w) n g w->qnm P b R D Stop (n+N) g w
 | 0,_,w,h=>by rw[qib];exact h w (a w)
 | n+1,_,w,.inl h=>by rw[Nat.add_comm];exact q84 (n+1) (h w (a w))
 | n+1,g,w,.inr ⟨c,h⟩=>by
   rw[Nat.add_right_comm];refine .inr ⟨c,λw₁ d=>?_⟩;have⟨k,j,l,e,i,f⟩:=goes_elim (h w₁ d);rw[e];exact⟨i,ZH a f⟩
def Ji(s:∀w,R w w)(r:∀a b c,R a b->R b c->R a c){N:Nat}(o:∀g w,Stop g w->g.status=.running/\∃i j,qjc P b g w=.go i w j/\D w w j/\qnm P b R D qmt N i w){n:Nat}{g:qhD}{w:qhy}(h:qnm P b R D Stop n g w):qnm P b R D qmt (n+(N+1)) g w:=by
 have d:∀{g:qhD} {w:qhy},(∀w₁,R w w₁->Stop g w₁)->∀w₁,R w w₁->qnm P b R D qmt (N+1) g w₁:=λ{g w} h w₁ f=>
  .inr ⟨(o _ _ (h w₁ f)).1,λw₂ hr₂=>by
   have⟨i,j,e,l,k⟩:=(o _ _ (h w₂ (r _ _ _ f hr₂))).2;rw[e];exact⟨l,k⟩⟩
 refine ZH s ?_;induction n generalizing g w with
 | zero=>exact d h
 | succ n p=>
  rcases h with h | ⟨q,h⟩
  ·exact .inl (d h)
  ·refine .inr ⟨q,λw₁ f=>?_⟩;have⟨i,t,j,e,l,k⟩:=goes_elim (h w₁ f);rw[e];exact⟨l,p k⟩
end
section
variable{U X:Type}(C:Cfg U X)
def qcw{Wg:Nat}:∀w a c,DC0 w a c->DM Wg w a c:=λ_ _ _ h=>⟨h.1,by rw[h.2];simp⟩
variable{C}
def Cfg.GM.of{Stop Stop':qhD->qhy->Prop}{m:Nat}{g:qhD}{w:qhy}(h:qnm C.P true (LR C.ty C.Wg) DC0 Stop m g w)(a:∀g w,Stop g w->Stop' g w):C.GM Stop' m g w :=
 xk qcw a h
def Cfg.GM.trans{Stop:qhD->qhy->Prop}{N n:Nat}{g:qhD}{w:qhy}(h:C.GM (λg w=>C.GM Stop N g w) n g w):C.GM Stop (n+N) g w:=ZH LR.refl h
def Cfg.GM.swallow{m:Mark}{qmt:qhD->qhy->Prop}{N n:Nat}{g:qhD}{w:qhy}(hm:m=.read (smA C.Wg)\/m=.write (smA C.Wg))(h:C.GM (q7l C.P true C.ty C.Wg m qmt N) n g w):C.GM qmt (n+(N+1)) g w :=
 Ji LR.refl zc (λg w ⟨a,d,e,c⟩=>⟨a,d,_,e,⟨rfl,by rcases hm with rfl | rfl<;>simp⟩,xk qcw (λ_ _ h=>h) c⟩) h
def Cfg.add_spawn{S:qhD->qhy->Prop}{N n:Nat}{g:qhD}{w:qhy}(h:qnm C.P true (LR C.ty C.Wg) DC0 (q7l C.P true C.ty C.Wg .disable (qfg C.P true C.ty C.Wg (λg w=>C.GM (C.AtGoS S) N g w)) 40) n g w) :C.GM (C.AtKdS S) n g w:=by
 refine Cfg.GM.of h λg w ⟨c,d,e,a⟩=>⟨c,d,e,40,Cfg.GM.of a λg w ⟨c,i⟩=>⟨c,λv k j=>?_⟩⟩;have⟨d,e,a⟩:=i v k j;have f:∀g w,q7l C.P true C.ty C.Wg .enable (λg w=>C.GM (C.AtGoS S) N g w) 2 g w->C.AtKeS S g w :=
  λg w ⟨c,d,e,a⟩=>⟨c,d,e,2+N,Cfg.GM.trans (Cfg.GM.of a λ_ _ h=>h)⟩
 refine⟨d,e,?_⟩;rcases a with a | a
 ·exact⟨_,xk (λ_ _ _ h=>h) f (Cfg.GM.swallow (.inl rfl) (Cfg.GM.of a λ_ _ h=>h))⟩
 ·exact⟨_,Cfg.GM.of a f⟩
def Cfg.GM.sayC{m:Mark}{qmt:qhD->qhy->Prop}{N n:Nat}{g:qhD}{w:qhy}(hm:m=.read (smA C.Wg)\/m=.write (smA C.Wg))(h:C.GM (q0m C.P C.ty C.Wg m qmt N) n g w):C.GM qmt (n+(N+1)) g w :=
 Ji LR.refl zc (λg w ⟨a,d,e,c⟩=>⟨a,d,_,e,⟨rfl,by rcases hm with rfl | rfl<;>simp⟩,xk qcw (λ_ _ h=>h) c⟩) h
section
variable{F0:qhD->qhy->Prop}(hF:∀g w,qnm C.P true (LR C.ty C.Wg) DC0 F0 40 g w->C.Fin g w)
include hF
theorem Cfg.acq_of{g:qhD}{w:qhy}(h:q0m C.P C.ty C.Wg (.acquire (stA C.Wg)) F0 40 g w):C.AtAcq g w:=by
 obtain⟨a,d,e,c⟩:=h;exact⟨a,d,e,hF _ _ c⟩
theorem Cfg.ke_of{g:qhD}{w:qhy}(h:q0m C.P C.ty C.Wg .enable (q0m C.P C.ty C.Wg (.acquire (stA C.Wg)) F0 40) 12 g w):C.AtKe g w:=by
 obtain⟨a,d,e,c⟩:=h;exact⟨a,d,e,12,Cfg.GM.of c λ_ _ h=>Cfg.acq_of hF h⟩
theorem Cfg.w4_of{g:qhD}{w:qhy}(h:MW4 C.P C.ty C.Wg F0 g w):C.AtW4 g w:=by
 obtain⟨c,h⟩:=h;refine⟨c,λa=>?_⟩;have⟨f,e,d⟩:=h a;exact⟨f,e,30,Cfg.GM.of d λ_ _ h=>Cfg.ke_of hF h⟩
theorem Cfg.w3_of{g:qhD}{w:qhy}(h:MW3 C.P C.ty C.Wg F0 g w):C.AtW3 g w:=by
 obtain⟨c,d,i,h⟩:=h;refine⟨c,d,i,λa=>?_⟩;have⟨j,e,f⟩:=h a;exact⟨j,e,30,Cfg.GM.of f λ_ _ h=>Cfg.w4_of hF h⟩
theorem Cfg.w2_of{f:Nat}{g:qhD}{w:qhy}(h:MW2 C.P C.ty C.Wg F0 C.AnchW f g w):C.AtW2 f g w:=by
 obtain⟨k,h⟩:=h;refine⟨k,λv j i=>⟨λe=>?_,λe=>?_⟩⟩
 ·have⟨c,d,a⟩:=(h v j i).1 e;exact⟨c,d,_,xk (λ_ _ _ h=>h) (λ_ _ h=>Cfg.w3_of hF h) (Cfg.GM.sayC (.inr rfl) (Cfg.GM.of a λ_ _ h=>h))⟩
 ·have⟨c,d,a⟩:=(h v j i).2 e;exact⟨c,d,20,Cfg.GM.of a λ_ _ h=>h⟩
theorem Cfg.w1_of{g:qhD}{w:qhy}(h:MW1 C.P C.ty C.Wg F0 C.AnchW g w):C.AtW1 g w:=by
 obtain⟨d,h⟩:=h;refine⟨d,λv c a=>?_⟩;have⟨j,e,i,f⟩:=h v c a;exact⟨j,e,λe=>⟨50,Cfg.GM.of (i e) λ_ _ h=>Cfg.ke_of hF h⟩,λe=>⟨60,Cfg.GM.of (f e) λ_ _ h=>Cfg.w2_of hF h⟩⟩
end
def Cfg.kd_of{n:Nat}{g:qhD}{w:qhy}(h:qnm C.P true (LR C.ty C.Wg) DC0 (q0m C.P C.ty C.Wg .disable C.AnchW 3) n g w):C.GM C.AtKd n g w :=
 Cfg.GM.of h λ_ _ ⟨a,d,e,c⟩=>⟨a,d,e,3,Cfg.GM.of c λ_ _ h=>h⟩
end
end
section
open Go.Conc Go.ConcN
open Go.ConcR (KK wgBlock WgAt stA smA rd wr DC0 Bk g_of_ofEvents loc_of_ofEvent)
structure Inv{U X:Type}(C:Cfg U X)(gs:Array qhD)(w:qhy)(t:qpb)(j:Nat)(D:Nat->WD)(ls:Nat->X)(Ss:Nat->Bs)(rk:Nat->Rk)(W:U)(tag:CTag)(f0 d0:Nat)(a:qhD)(st sm:Int)(cl:Nat->Cl)(fu:Nat->Nat):Prop where
 size:gs.size=C.lo+j
 main:gs[0]?=some a
 cs:C.CS tag j f0 d0 a w
 lv:∀i,1<=i->i<C.lo->∃g,gs[i]?=some g/\qpl C.P (fu i) (qqe t i) g
 wk:∀i,i<j->∃g,gs[C.lo+i]?=some g/\C.WS (D i).stage (D i).fuel (D i).deaf (ls i) (Ss i) (rk i) g w
 wd:∀i,i<j->qqe t (C.lo+i)=(D i).deaf
 rel:∀i,i<j->(D i).stage<=6->∃r,RelBy (stA C.Wg) t (C.lo+i) r
 tr:Tr cl gs.size w.heap.size t
 clw:∀i,i<j->∀b,Ss i b->cl b=.mine (C.lo+i)/\b<w.heap.size
 cl0:∀b,w.heap.size<=b->cl b=.mine 0
 cla:∀b,b<C.W1.heap.size->cl b=C.clA b
 cln:∀b,C.W1.heap.size<=b->cl b≠.sync
 nor:∀ad,NoRelease ad t
 deaf0:qqe t 0=d0
 hd:Hd C.lo t
 data:C.DataAt W w
 jj:C.J W j ls
 ph:C.Ph w
 wg:qo9 C.ty C.Wg w st sm
 mode:qnk j D tag st sm
section
variable{U X:Type}{C:Cfg U X}{gs:Array qhD}{w w':qhy}{t:qpb}{j:Nat}{D:Nat->WD}{ls:Nat->X}{Ss:Nat->Bs}{rk:Nat->Rk}{W γ':U}{tag:CTag}{f0 d0:Nat}{a:qhD}{st sm st' sm':Int}{cl:Nat->Cl}{fu:Nat->Nat}
structure Ef(cl:Nat->Cl)(x:Nat)(w w':qhy):Prop where
 keep:∀b,b<w.heap.size->cl b≠.mine x->cl b≠.sync->w'.heap[b]?=w.heap[b]?
 size:w.heap.size<=w'.heap.size
 os:w'.os=w.os
 output:w'.output=w.output
def YM(cl:Nat->Cl)(x:Nat)(w w':qhy)(b:Nat):Cl:=if w.heap.size<=b/\b<w'.heap.size then .mine x else cl b
def xr{x b:Nat}(h:b<w.heap.size):YM cl x w w' b=cl b:=by unfold YM;rw[if_neg (by omega)]
def q2h{x:Nat}(h:w'.heap.size=w.heap.size):YM cl x w w'=cl:=by
 funext b
 unfold YM;rw[if_neg (by omega)]
def Inv.fzc(H:C.Ok)(h:Inv C gs w t j D ls Ss rk W tag f0 d0 a st sm cl fu){b:Nat}(d:C.Fz b):cl b=.ro C.lo/\b<w.heap.size:=by
 have⟨e,c⟩:=H.fzc b d;exact⟨(h.cla b c).trans e,qia c h.ph.size⟩
def Inv.syc(H:C.Ok)(h:Inv C gs w t j D ls Ss rk W tag f0 d0 a st sm cl fu){b:Nat}(d:C.Sy b):cl b=.sync/\b<w.heap.size:=by
 have⟨e,c⟩:=H.syc b d;exact⟨(h.cla b c).trans e,qia c h.ph.size⟩
def Inv.wgc(H:C.Ok)(h:Inv C gs w t j D ls Ss rk W tag f0 d0 a st sm cl fu):cl C.Wg=.sync/\C.Wg<w.heap.size:=by
 have⟨c,b,_⟩:=H.wgc;exact⟨(h.cla _ b).trans c,qia b h.ph.size⟩
def Inv.ph'(H:C.Ok)(h:Inv C gs w t j D ls Ss rk W tag f0 d0 a st sm cl fu){x:Nat}(e:Ef cl x w w'):C.Ph w' where
 fz b hb:=by
  have⟨c,d⟩:=h.fzc H hb;rw[e.keep b d (by rw[c];simp) (by rw[c];simp)];exact h.ph.fz b hb
 size:=qi1 h.ph.size e.size
 os:=e.os.trans h.ph.os
 output:=e.output.trans h.ph.output
def Inv.rc(H:C.Ok)(h:Inv C gs w t j D ls Ss rk W tag f0 d0 a st sm cl fu){x i:Nat}(e:Ef cl x w w')(n:i<j)(l:x≠C.lo+i)(f:qo9 C.ty C.Wg w' st' sm')(c:C.DataAt γ' w'):RC C.Fz C.K (Ss i) w w' where
 own b hb:=by
  have⟨d,g⟩:=h.clw i n b hb;exact e.keep b g (by rw[d];intro o;cases o;exact l rfl) (by rw[d];simp)
 fz b hb:=by
  have⟨d,g⟩:=h.fzc H hb;exact e.keep b g (by rw[d];simp) (by rw[d];simp)
 size:=e.size
 os:=e.os
 output:=e.output
 k:=⟨λ_=>⟨_,_,f⟩,λ_=>⟨_,c⟩⟩
def Inv.stepW(H:C.Ok)(h:Inv C gs w t j D ls Ss rk W tag f0 d0 a st sm cl fu){i:Nat}(hi:i<j){g A:qhD}{B:Array qjs}(sl:Option (Nat × Nat))(hg:gs[C.lo+i]?=some g)(b0:qjc C.P false g w=.go A w' B)(e:Ef cl (C.lo+i) w w')(N:∀e∈B,EvG (YM cl (C.lo+i) w w') w'.heap.size (C.lo+i) e/\∀a,e.loc≠.mark (.release a)){S Y p:Nat}{l':X}{r':Rk}(a9:C.WS S Y p l' (grow (Ss i) w w') r' A w')(z:ql6 (D i).deaf B=p)(hrel:S<=6->∃r,RelBy (stA C.Wg) (t++qkf (C.lo+i) g.frame.fn g.frame.place B) (C.lo+i) r)(u:qo9 C.ty C.Wg w' st' sm')(s:C.DataAt γ' w')(hJ:C.J γ' j (upd ls i l'))(v:∀c,(c=tag\/(tag=.blk/\c=.w3))->(mayWake C.P g=true->A.status=.running->c≠.blk)->qnk j (upd D i ⟨S,Y,p⟩) c st' sm') :∃R c V a',runT C.P (qlq gs w sl) (C.lo+i)=(.next (qlq R w' sl),qkf (C.lo+i) g.frame.fn g.frame.place B)/\V<=f0+1/\(c=tag\/(tag=.blk/\c=.w3)) /\Inv C R w' (t++qkf (C.lo+i) g.frame.fn g.frame.place B) j (upd D i ⟨S,Y,p⟩) (upd ls i l') (upd Ss i (grow (Ss i) w w')) (upd rk i r') γ' c V d0 a' st' sm' (YM cl (C.lo+i) w w') fu:=by
 have b9:=H.hlo;have⟨c,V,O,b6,q,a8⟩:=h.cs.wokenBy H (LR.to (w:=w) ⟨_,_,u⟩) g A;have L:=qni (P:=C.P) (sl:=sl) (i:=C.lo+i) hg (by rw[show(C.lo+i == 0)=false by simp;omega];exact b0);have I:((gs.map (qri C.P g A w')).setIfInBounds (C.lo+i) A).size=gs.size:=by simp
 have M:C.lo+i<gs.size:=by rw[h.size];omega
 have f:∀T∈qkf (C.lo+i) g.frame.fn g.frame.place B,T.g=C.lo+i:=qoG;refine⟨_,c,V,_,L,b6,q,⟨by rw[I];exact h.size,by rw[qlu _ _ _ _ (by omega),h.main];rfl,O,λx a7 a6=>?_,λx l=>?_,λx l=>?_,λx l n=>?_,?_,λx l b d=>?_,λb d=>?_,λb d=>?_,λb d=>?_,?_,?_,?_,s,hJ,h.ph' H e,u,v c q a8⟩⟩
 ·have⟨y,Z,G⟩:=h.lv x a7 a6;exact⟨y,by rw[qlu _ _ _ _ (by omega),Z,qjo,qn7 G],by rw[qm6 t (by omega:C.lo+i≠x) _ f];exact G⟩
 ·by_cases k:x=i
  ·subst k;exact⟨A,qmh _ _ _ M,by simp only[ql4];exact a9⟩
  ·have⟨y,Z,F⟩:=h.wk x l;refine⟨y,by rw[qlu _ _ _ _ (by omega),Z,qjo,F.woken],?_⟩;rw[qm3 D _ k,qm3 ls _ k,qm3 Ss _ k,qm3 rk _ k];exact F.rely (h.rc H e l (by omega) u s)
 ·by_cases k:x=i
  ·subst k;rw[qqk,h.wd x l,ql4];exact z
  ·rw[qm6 t (by omega) _ f,h.wd x l,qm3 D _ k]
 ·by_cases k:x=i
  ·subst k;rw[ql4] at n;exact hrel n
  ·rw[qm3 D _ k] at n;have⟨r,hr⟩:=h.rel x l n;exact⟨r,hr.appOther f (by omega)⟩
 ·rw[I];exact(((h.tr.grow e.size).fresh' (cl':=YM cl (C.lo+i) w w') (m:=w.heap.size) h.tr.inb λb d=>xr d)).step M (JM λe he=>(N e he).1)
 ·by_cases k:x=i
  ·subst k;rw[ql4] at d;rcases d with d | d
   ·have⟨h1,Q⟩:=h.clw x hi b d;exact⟨by rw[xr Q];exact h1,qia Q e.size⟩
   ·exact⟨by unfold YM;rw[if_pos d],d.2⟩
  ·rw[qm3 Ss _ k] at d;have⟨h1,Q⟩:=h.clw x l b d;exact⟨by rw[xr Q];exact h1,qia Q e.size⟩
 ·unfold YM;rw[if_neg (by omega)];exact h.cl0 b (qi1 e.size d)
 ·rw[xr (qia d h.ph.size)];exact h.cla b d
 ·unfold YM;split
  ·simp
  ·exact h.cln b d
 ·exact λad=>(h.nor ad).app λT o hm=>by
   rw[qn3] at o;obtain⟨x,l,rfl⟩:=qnh.1 o;exact(N x l).2 _ (qok hm)
 ·rw[qm6 t (by omega) _ f];exact h.deaf0
 ·exact h.hd.app λT o=>.inr (.inl (by rw[f T o];omega))
def Inv.step0(H:C.Ok)(h:Inv C gs w t j D ls Ss rk W tag f0 d0 a st sm cl fu){F:qhD}{n:Array qjs}(sl:Option (Nat × Nat))(O:qjc C.P true a w=.go F w' n)(e:Ef cl 0 w w')(Q:w'.heap.size=w.heap.size)(z:∀e∈n,EvG cl w'.heap.size 0 e/\∀a,e.loc≠.mark (.release a)){tag':CTag}{S:Nat}(A:C.CS tag' j S (ql6 d0 n) F w')(q:qo9 C.ty C.Wg w' st' sm')(k:C.DataAt W w')(l:qnk j D tag' st' sm') :∃B,runT C.P (qlq gs w sl) 0=(.next (qlq B w' sl),qkf 0 a.frame.fn a.frame.place n) /\Inv C B w' (t++qkf 0 a.frame.fn a.frame.place n) j D ls Ss rk W tag' S (ql6 d0 n) F st' sm' cl fu:=by
 have V:=H.hlo;have u:=qni (P:=C.P) (sl:=sl) (i:=0) h.main O;have s:((gs.map (qri C.P a F w')).setIfInBounds 0 F).size=gs.size:=by simp
 have v:0<gs.size:=by rw[h.size];omega
 have c:∀G∈qkf 0 a.frame.fn a.frame.place n,G.g=0:=qoG;refine⟨_,u,⟨by rw[s];exact h.size,qmh _ _ _ v,A,λx M L=>?_,λx d=>?_,λx d=>?_,λx d N=>?_,?_,λx d b R=>?_,λb R=>h.cl0 b (by omega),h.cla,h.cln,?_,?_,?_,k,h.jj,h.ph' H e,q,l⟩⟩
 ·have⟨y,I,p⟩:=h.lv x M L;exact⟨y,by rw[qlu _ _ _ _ (by omega),I,qjo,qn7 p],by rw[qm6 t (by omega:0≠x) _ c];exact p⟩
 ·have⟨y,I,o⟩:=h.wk x d;exact⟨y,by rw[qlu _ _ _ _ (by omega),I,qjo,o.woken],o.rely (h.rc H e d (by omega) q k)⟩
 ·rw[qm6 t (by omega) _ c];exact h.wd x d
 ·have⟨r,T⟩:=h.rel x d N;exact⟨r,T.appOther c (by omega)⟩
 ·rw[s];exact(h.tr.grow e.size).step v (JM λe Y=>(z e Y).1)
 ·have⟨h1,Z⟩:=h.clw x d b R;exact⟨h1,qia Z e.size⟩
 ·exact λad=>(h.nor ad).app λG f hm=>by
   rw[qn3] at f;obtain⟨x,d,rfl⟩:=qnh.1 f;exact(z x d).2 _ (qok hm)
 ·rw[qqk,h.deaf0]
 ·exact h.hd.app λG f=>.inl (c G f)
def Inv.leave(H:C.Ok)(h:Inv C gs w t j D ls Ss rk W tag f0 d0 a st sm cl fu)(sl:Option (Nat × Nat)){i:Nat}{g:qhD}(Y:1<=i)(M:i<C.lo)(Z:gs[i]?=some g)(B:g.status=.running) :∃L s q d O a',runT C.P (qlq gs w sl) i=(.next (qlq L w sl),s)/\q<fu i/\O<=f0+1/\(d=tag\/(tag=.blk/\d=.w3)) /\Inv C L w (t++s) j D ls Ss rk W d O d0 a' st sm cl (upd fu i q):=by
 have a8:=H.hlo;have⟨g0,G,p⟩:=h.lv i Y M;rw[Z] at G;cases G;cases hf:fu i with
 | zero=>rw[hf] at p;rw[p.1] at B;cases B
 | succ q=>
  rw[hf] at p;rcases p with⟨k,_⟩ | ⟨_,N,es,l,o,p⟩
  ·rw[B] at k;cases k
  ·have⟨d,O,I,V,n,a7⟩:=h.cs.wokenBy H (LR.refl w) g N;have A:=qni (P:=C.P) (sl:=sl) (i:=i) Z (by rw[show(i == 0)=false by simp;omega];exact o w);have z:((gs.map (qri C.P g N w)).setIfInBounds i N).size=gs.size:=by simp
   have F:i<gs.size:=by rw[h.size];omega
   have c:=Zl (g:=i) (fn:=g.frame.fn) (pos:=g.frame.place) l;refine⟨_,_,q,d,O,_,A,qnz q,V,n,⟨by rw[z];exact h.size,by rw[qlu _ _ _ _ (by omega),h.main];rfl,I,λx S R=>?_,λx k=>?_,λx k=>?_,λx k T=>?_,?_,h.clw,h.cl0,h.cla,h.cln,?_,?_,?_,h.data,h.jj,h.ph,h.wg,h.mode.retag n⟩⟩
   ·by_cases e:x=i
    ·subst e;exact⟨N,qmh _ _ _ F,by rw[ql4,qqk];exact p⟩
    ·have⟨y,Q,v⟩:=h.lv x S R;exact⟨y,by rw[qlu _ _ _ _ (by omega),Q,qjo,qn7 v],by rw[qm3 _ _ e,qm6 t (Ne.symm e) _ λf b=>(c f b).1];exact v⟩
   ·have⟨y,Q,u⟩:=h.wk x k;exact⟨y,by rw[qlu _ _ _ _ (by omega),Q,qjo,u.woken],u⟩
   ·rw[qm6 t (by omega) _ λf b=>(c f b).1];exact h.wd x k
   ·have⟨r,B⟩:=h.rel x k T;exact⟨r,B.appOther (λf b=>(c f b).1) (by omega)⟩
   ·rw[z];exact h.tr.step F λf b=>⟨(c f b).1,λx k=>by rw[(c f b).2] at k;cases k⟩
   ·exact λad=>(h.nor ad).app λf b hm=>by
     rw[qn3] at b;obtain⟨x,k,rfl⟩:=qnh.1 b;have Y:=l x k;have M:=qok hm;obtain⟨a6,wr,sy⟩:=x;simp only at M;subst M;cases Y
   ·rw[qm6 t (by omega) _ λf b=>(c f b).1];exact h.deaf0
   ·exact h.hd.app λf b=>.inr (.inr (c f b).2)
end
end
section
open Go.Conc Go.ConcN
open Go.ConcR (KK wgBlock WgAt stA smA rd wr DC0 Bk g_of_ofEvents loc_of_ofEvent ofEvent_mk ofEvent_cell)
def qd9(n:Nat)(b f:Nat->Rk):Prop:=∃i,i<n/\Rk.sub (b i) (f i)/\∀k,k≠i->b k=f k
def q3y:∀(n:Nat) (f:Nat->Rk),Acc (qd9 n) f
 | 0,f=>.intro _ λ_ ⟨_,h,_⟩=>absurd h (Nat.not_lt_zero _)
 | n+1,f=>by
  have c:∀x:Rk,Acc Rk.sub x->∀f:Nat->Rk,f n=x->Acc (qd9 (n+1)) f:=by
   intro x q;induction q with
   | intro x _ d=>
    intro f p;have b:=q3y n f;induction b with
    | intro f _ g=>
     refine .intro _ λk ⟨i,r,l,o⟩=>?_;by_cases e:i=n
     ·subst e;exact d (k i) (by rw[<- p];exact l) k rfl
     ·exact g k ⟨i,by omega,l,o⟩ (by rw[o n (Ne.symm e)];exact p)
  exact c (f n) (Rk.acc _) f rfl
abbrev Me:=Nat × (Nat->Rk) × Nat
def LtM(n:Nat):Me->Me->Prop:=Prod.Lex (·<·) (Prod.Lex (qd9 n) (·<·))
def qfG(n:Nat):WellFounded (LtM n):=(Prod.lex ⟨_,Nat.lt_wfRel.wf⟩ (Prod.lex ⟨qd9 n,⟨q3y n⟩⟩ ⟨_,Nat.lt_wfRel.wf⟩)).wf
def q23{n x b:Nat}{y c:(Nat->Rk) × Nat}(h:b<x):LtM n (b,c) (x,y):=Prod.Lex.left _ _ h
def qh1{n x c z d:Nat}{y b:Nat->Rk}(e:c=x)(h:qd9 n b y):LtM n (c,b,d) (x,y,z):=by
 subst e;exact Prod.Lex.right _ (Prod.Lex.left _ _ h)
def q80{n x c z b:Nat}{y:Nat->Rk}(d:c=x)(h:b<z):LtM n (c,y,b) (x,y,z):=by
 subst d;exact Prod.Lex.right _ (Prod.Lex.right _ h)
section
variable{U X:Type}(C:Cfg U X)
def Cfg.nuD(x:WD × X):Nat:=if x.1.stage=7 then C.nu x.2 else 0
def Cfg.Nsum(j:Nat)(D:Nat->WD)(ls:Nat->X):Nat:=qnr j λi=>C.nuD (D i,ls i)
def Cfg.big(j:Nat)(D:Nat->WD)(ls:Nat->X)(W:U)(tag:CTag):Nat:=(C.nu C.l0+8)*phi C.n (Vc j D) tag+(Ssum j D+(C.m W+C.Nsum j D ls))
def Cfg.low(j:Nat)(D:Nat->WD)(fu:Nat->Nat)(f0:Nat):Nat:=f0+2*(Fsum j D+qnr C.lo fu)
end
section
variable{U X:Type}{C:Cfg U X}{gs:Array qhD}{w w':qhy}{t:qpb}{j:Nat}{D:Nat->WD}{ls:Nat->X}{Ss:Nat->Bs}{rk:Nat->Rk}{W γ':U}{tag tag':CTag}{f0 d0:Nat}{a:qhD}{st sm st' sm':Int}{cl:Nat->Cl}{fu:Nat->Nat}
def qbz{i:Nat}(x:WD)(l:X)(b:i<j):C.Nsum j (upd D i x) (upd ls i l)+C.nuD (D i,ls i)=C.Nsum j D ls+C.nuD (x,l):=by
 have e:(λa=>C.nuD (upd D i x a,upd ls i l a))=λa=>C.nuD (upd (λa=>(D a,ls a)) i (x,l) a):=by
  funext a
  by_cases h:a=i
  ·subst h;simp only[ql4]
  ·simp only[qm3 _ _ h]
 have:=qqs (λa=>(D a,ls a)) (x,l) C.nuD b;unfold Cfg.Nsum;rw[e];exact this
def ZS{Y:Type}(f:Nat->Y)(i:Nat):upd f i (f i)=f:=by
 funext a
 by_cases h:a=i
 ·subst h;rw[ql4]
 ·rw[qm3 _ _ h]
def Inv.at(H:C.Ok)(h:Inv C gs w t j D ls Ss rk W tag f0 d0 a st sm cl fu)(d:Nat):Inv C gs (w.at d) t j D ls Ss rk W tag f0 d0 a st sm cl fu :=
 ⟨h.size,h.main,h.cs.rely (LR.to ⟨_,_,h.wg⟩),h.lv,λi b=>let ⟨g,hg,hs⟩:=h.wk i b;⟨g,hg,hs.rely ⟨λ_ _=>rfl,λ_ _=>rfl,qhz _,rfl,rfl,id,λ⟨W,x⟩=>⟨W,H.dat W w _ (λ_ _=>rfl) x⟩⟩⟩,h.wd,h.rel,h.tr,h.clw,h.cl0,h.cla,h.cln,h.nor,h.deaf0,h.hd,
  H.dat W w _ (λ_ _=>rfl) h.data,h.jj,⟨h.ph.fz,h.ph.size,h.ph.os,h.ph.output⟩,h.wg,h.mode⟩
def Inv.awake(H:C.Ok)(h:Inv C gs w t j D ls Ss rk W tag f0 d0 a st sm cl fu):∀g∈gs,qsc g:=by
 intro g o;have⟨i,c⟩:=qq0.1 o;have e:=(qhB.1 c).1;rw[h.size] at e;by_cases p:i=0
 ·subst p;rw[h.main] at c;cases c;intro l;rcases h.cs.status H with⟨d,_⟩ | ⟨d,_⟩<;>rw[d]<;>simp
 ·rcases qk2 i C.lo with f | f
  ·have⟨x,b,n⟩:=h.lv i (by omega) f;rw[c] at b;cases b;exact Yh n
  ·have⟨x,b,d⟩:=h.wk (i - C.lo) (by omega);rw[show C.lo+(i - C.lo)=i by omega,c] at b;cases b;intro l;rcases d.status with k | k<;>rw[k]<;>simp
def Inv.someone(H:C.Ok)(h:Inv C gs w t j D ls Ss rk W tag f0 d0 a st sm cl fu):∃(i:Nat) (g:qhD),gs[i]?=some g/\g.status=.running:=by
 rcases h.cs.status H with⟨b,_⟩ | ⟨_,rfl⟩
 ·exact⟨0,a,h.main,b⟩
 ·have hm:=h.mode;cases hm with
  | opn d _ _=>exact d.elim
  | reg _ _ e=>
   have⟨i,f,l⟩:=exists_counted e;have⟨g,c,b⟩:=h.wk i f;exact⟨C.lo+i,g,c,b.running_of (by omega)⟩
  | last L _ k e _=>
   have⟨g,c,b⟩:=h.wk L k;exact⟨C.lo+L,g,c,b.running_of (by omega)⟩
  | fin d _=>exact d.elim
def qcr(H:C.Ok)(h:Inv C gs w t j D ls Ss rk W tag f0 d0 a st sm cl fu){x:Nat}{e:qjs}(c:Bk C.Wg e):EvG cl w.heap.size x e/\∀a,e.loc≠.mark (.release a):=by
 have⟨l,k⟩:=h.wgc H;rcases c with c | c | ⟨n,wr,rfl,i⟩
 ·refine⟨λy d=>?_,λa=>by rw[c];simp⟩;obtain⟨f,wr,g⟩:=e;simp only at c;subst c;simp[qjy,qkj] at d
 ·refine⟨λy d=>?_,λa=>by rw[c];simp⟩;obtain⟨f,wr,g⟩:=e;simp only at c;subst c;simp[qjy,qkj] at d
 ·refine⟨λy d=>?_,λa=>by simp⟩;simp only[ofEvent_cell,qkj,qj3] at d;subst d;intro b c;simp only[blk,qj3] at c;subst c;rw[i];exact⟨k,.inr (.inr ⟨l,by simp,by simp⟩)⟩
def xq(H:C.Ok)(h:Inv C gs w t j D ls Ss rk W tag f0 d0 a st sm cl fu){e:qjs}(c:e=qkp (.read (smA C.Wg))\/e=qkp (.write (smA C.Wg))):EvG cl w.heap.size 0 e/\jy e:=by
 have⟨g,f⟩:=h.wgc H;rcases c with rfl | rfl
 ·refine⟨λy d=>?_,by simp[jy,qkp]⟩;simp only[qkp,qjy,qkj,qj3] at d;subst d;intro b c;simp only[blk,smA,qj3] at c;subst c;exact⟨f,.inr (.inr ⟨g,by simp,λ_=>rfl⟩)⟩
 ·refine⟨λy d=>?_,by simp[jy,qkp]⟩;simp only[qkp,qjy,qkj,qj3] at d;subst d;intro b c;simp only[blk,smA,qj3] at c;subst c;exact⟨f,.inr (.inr ⟨g,by simp,λ_=>rfl⟩)⟩
def Inv.ef(H:C.Ok)(h:Inv C gs w t j D ls Ss rk W tag f0 d0 a st sm cl fu)(x:Nat)(c:Aside C.Wg w w'):Ef cl x w w'/\w'.heap.size=w.heap.size/\C.DataAt W w':=by
 have⟨f,g⟩:=h.wgc H;refine⟨⟨λb _ _ d=>c.block b λe=>d (e ▸ f),qn5 c.size.symm,c.os,c.output⟩,c.size,H.dat W w w' (λb d=>c.block b λe=>?_) h.data⟩;exact H.wgc.2.2 (e ▸ d)
end
end
section
open Go.Conc Go.ConcN
open Go.ConcR (KK wgBlock WgAt stA smA rd wr DC0 Bk g_of_ofEvents loc_of_ofEvent ofEvent_mk ofEvent_cell)
section
variable{U X:Type}{C:Cfg U X}{gs:Array qhD}{w w':qhy}{t:qpb}{j:Nat}{D:Nat->WD}{ls:Nat->X}{Ss:Nat->Bs}{rk:Nat->Rk}{W γ':U}{tag tag':CTag}{f0 d0:Nat}{a:qhD}{st sm st' sm':Int}{cl:Nat->Cl}{fu:Nat->Nat}
def q75(H:C.Ok)(h:Inv C gs w t j D ls Ss rk W tag f0 d0 a st sm cl fu){i:Nat}(p:i<j)(o:w.heap.size<=w'.heap.size){e:qjs}(q:EvC C.Fz (grow (Ss i) w w') w'.heap.size e):EvG (YM cl (C.lo+i) w w') w'.heap.size (C.lo+i) e/\∀a,e.loc≠.mark (.release a):=by
 obtain⟨u,_,s⟩:=q;refine⟨λx n b r=>?_,u.2.2⟩;have⟨l,g,c⟩:=s x n b r;refine⟨l,?_⟩;rcases c with(c | c) | ⟨c,k⟩
 ·have⟨f,d⟩:=h.clw i p b c;exact .inl ⟨by rw[xr d];exact f,g⟩
 ·exact .inl ⟨by unfold YM;rw[if_pos c],g⟩
 ·have⟨f,d⟩:=h.fzc H c;exact .inr (.inl ⟨C.lo,by rw[xr d];exact f,.inr (by omega),k,g⟩)
def Inv.worker(H:C.Ok)(h:Inv C gs w t j D ls Ss rk W tag f0 d0 a st sm cl fu){i:Nat}(M:i<j){g:qhD}(hg:gs[C.lo+i]?=some g)(b9:g.status=.running)(sl:Option (Nat × Nat))(IH:∀z w' t' D' m4 r9 l9 γ' tag' f' a' st' sm' r6,Inv C z w' t' j D' m4 r9 l9 γ' tag' f' d0 a' st' sm' r6 fu->LtM C.n (C.big j D' m4 γ' tag',l9,C.low j D' fu f') (C.big j D ls W tag,rk,C.low j D fu f0)->Ends C.P C.Post (qlq z w' sl) t') :∃z w' S,runT C.P (qlq gs w sl) (C.lo+i)=(.next (qlq z w' sl),S)/\Ends C.P C.Post (qlq z w' sl) (t++S):=by
 obtain⟨g₁,hg₁,hs⟩:=h.wk i M;obtain rfl:g=g₁:=by rw[hg] at hg₁;exact qkH hg₁
 have t1:=H.hlo;have hn:=H.hn;have hb:=h.cs.le;have t4:=Vc_le j D;have A:=h.mode;have u:=h.wg;generalize O:(D i).stage=s at hs;generalize q6:(D i).fuel=m at hs;generalize e7:(D i).deaf=dd at hs;have n8:qqe t (C.lo+i)=dd:=by rw[h.wd i M,e7]
 obtain⟨m6,m5⟩:=h.wgc H;have g9:∀{I B l:Nat} {l':X} {r':Rk} {tag':CTag} {f':Nat} {γ':U},(tag'=tag\/(tag=.blk/\tag'=.w3))->f'<=f0+1 ->
   ((I<s/\cnt ⟨I,B,l⟩<=cnt (D i)/\C.m γ'=C.m W/\C.nuD (⟨I,B,l⟩,l')<=C.nuD (D i,ls i))\/(I=s/\B=m/\C.m γ'+C.nuD (⟨I,B,l⟩,l')<C.m W+C.nuD (D i,ls i)) \/
    (I=s/\B=m/\l'=ls i/\γ'=W/\Rk.sub r' (rk i))\/(I=s/\B+1=m/\l'=ls i/\γ'=W/\r'=rk i)) ->
   LtM C.n (C.big j (upd D i ⟨I,B,l⟩) (upd ls i l') γ' tag',upd rk i r',C.low j (upd D i ⟨I,B,l⟩) fu f') (C.big j D ls W tag,rk,C.low j D fu f0):=by
  intro I B l l' r' tag' f' γ' N hf hc;have e1:=qqs D (⟨I,B,l⟩:WD) cnt M;have e2:=qqs D (⟨I,B,l⟩:WD) WD.stage M;have e3:=qqs D (⟨I,B,l⟩:WD) WD.fuel M;have e4:=qbz (C:=C) (D:=D) (ls:=ls) (⟨I,B,l⟩:WD) l' M;have ep:phi C.n (Vc j (upd D i ⟨I,B,l⟩)) tag'=phi C.n (Vc j (upd D i ⟨I,B,l⟩)) tag:=phi_retag _ _ N;have n4:I=s->l'=ls i->C.nuD (⟨I,B,l⟩,l')=C.nuD (D i,ls i):=λx y=>by unfold Cfg.nuD;rw[O,x,y]
  have l6:I=s->cnt (⟨I,B,l⟩:WD)=cnt (D i):=λx=>by simp only[cnt,O,x]
  unfold Cfg.big Cfg.low;rw[ep];simp only[Vc,Ssum,Fsum,O,q6] at *
  rcases hc with⟨c1,c2,c3,c4⟩ | ⟨c1,c2,c3⟩ | ⟨c1,c2,c3,c4,c5⟩ | ⟨c1,c2,c3,c4,c5⟩
  ·refine q23 ?_;have hp:=phi_mono C.n (v':=qnr j λa=>cnt (upd D i ⟨I,B,l⟩ a)) (v:=qnr j λa=>cnt (D a)) (by omega) tag;have:=Nat.mul_le_mul_left (C.nu C.l0+8) hp;omega
  ·refine q23 ?_;have:=l6 c1;rw[show(qnr j λa=>cnt (upd D i ⟨I,B,l⟩ a))=qnr j λa=>cnt (D a) by omega];omega
  ·have h1:=l6 c1;have h2:=n4 c1 c3;refine qh1 ?_ ⟨i,by omega,by rw[ql4];exact c5,λk hk=>qm3 _ _ hk⟩;rw[show(qnr j λa=>cnt (upd D i ⟨I,B,l⟩ a))=qnr j λa=>cnt (D a) by omega,c4];omega
  ·have h1:=l6 c1;have h2:=n4 c1 c3;rw[c5,ZS];refine q80 ?_ (by omega);rw[show(qnr j λa=>cnt (upd D i ⟨I,B,l⟩ a))=qnr j λa=>cnt (D a) by omega,c4];omega
 have g7:∀{Q:qhD} {w':qhy} {es:Array qjs} {I B l:Nat} {st' sm':Int},qjc C.P false g w=.go Q w' es->Aside C.Wg w w'->qo9 C.ty C.Wg w' st' sm'->(∀e∈es,Bk C.Wg e) ->
   (∀jx e,es[jx]?=some e->(qjy e).touch?=none\/0<ql6 dd (es.extract 0 jx))->C.WS I B l (ls i) (Ss i) (rk i) Q w'->ql6 dd es=l->s<=6 ->
   (∀tag',(tag'=tag\/(tag=.blk/\tag'=.w3))->(mayWake C.P g=true->Q.status=.running->tag'≠.blk)->qnk j (upd D i ⟨I,B,l⟩) tag' st' sm')->((I<s/\cnt ⟨I,B,l⟩<=cnt (D i))\/(I=s/\B+1=m)) ->
   ∃z w' S,runT C.P (qlq gs w sl) (C.lo+i)=(.next (qlq z w' sl),S)/\Ends C.P C.Post (qlq z w' sl) (t++S):=by
  intro Q w' es I B l st' sm' c l7 d8 c9 hd d9 l4 h6 Y k8;obtain⟨b6,a9,a8⟩:=h.ef H (C.lo+i) l7;have k9:grow (Ss i) w w'=Ss i:=by
   funext b
   simp only[grow,eq_iff_iff];exact⟨λh=>h.elim id λ⟨a,b⟩=>by omega,.inl⟩
  obtain⟨z,tag',f',a',G,b0,N,V⟩:=h.stepW H M sl hg c b6 (λe o=>by rw[q2h a9,a9];exact qcr H h (c9 e o)) (by rw[k9];exact d9) (by rw[e7];exact l4)
   (λ_=>let ⟨r,hr⟩:=h.rel i M (by omega);⟨r,hr.book n8 _ _ c9 hd⟩) d8 a8 (by rw[ZS];exact h.jj) Y
  refine⟨z,w',_,G,IH _ _ _ _ _ _ _ _ _ _ _ _ _ _ V (g9 N b0 ?_)⟩;rcases k8 with⟨h1,h2⟩ | ⟨h1,h2⟩
  ·refine .inl ⟨h1,h2,rfl,?_⟩;unfold Cfg.nuD;rw[if_neg (by simp only;omega),if_neg (by simp only[O];omega)];exact qhz _
  ·exact .inr (.inr (.inr ⟨h1,h2,rfl,rfl,rfl⟩))
 have R:∀{Q:qhD} {w':qhy} {es:Array qjs} {I B l:Nat} {st' sm':Int},qjc C.P false g w=.go Q w' es->Aside C.Wg w w'->qo9 C.ty C.Wg w' st' sm'->(∀e∈es,Bk C.Wg e) ->
   (∀jx e,es[jx]?=some e->(qjy e).touch?=none\/0<ql6 dd (es.extract 0 jx))->C.WS I B l (ls i) (Ss i) (rk i) Q w'->ql6 dd es=l->s<=6 ->
   qnk j (upd D i ⟨I,B,l⟩) tag st' sm'->((I<s/\cnt ⟨I,B,l⟩<=cnt (D i))\/(I=s/\B+1=m)) ->
   ∃z w' S,runT C.P (qlq gs w sl) (C.lo+i)=(.next (qlq z w' sl),S)/\Ends C.P C.Post (qlq z w' sl) (t++S) :=
  λc l7 d8 c9 hd d9 l4 h6 Y k8=>g7 c l7 d8 c9 hd d9 l4 h6 (λ_ ht _=>Y.retag ht) k8
 have jZ:∀{Q:qhD} {B:Nat},qjc C.P false g w=.go Q w #[]->C.WS s B dd (ls i) (Ss i) (rk i) Q w->B+1=m->s<=6 ->
   ∃z w' S,runT C.P (qlq gs w sl) (C.lo+i)=(.next (qlq z w' sl),S)/\Ends C.P C.Post (qlq z w' sl) (t++S):=by
  intro Q B c d9 hm h6;exact R c (.refl C.Wg w) u (by simp) (by simp) d9 rfl h6 (by have:=A.same (i:=i) B dd;rwa [O] at this) (.inr ⟨rfl,hm⟩)
 have e9:5<=s->cnt (D i)=1:=λh=>by simp[cnt,O,h]
 cases hs with
 | run e8=>
  generalize q1:rk i=r at e8;cases r with
  | leaf=>
   obtain⟨_,hx⟩:=e8 w (RC.refl w);rcases hx with⟨d,Q,c,m₂,hk⟩ | ⟨_,hx⟩
   ·-- it releases
    obtain⟨b6,a9,a8⟩:=h.ef H (C.lo+i) (Aside.refl C.Wg w);obtain⟨z,tag',f',a',G,b0,N,V⟩:=h.stepW H (w':=w) (γ':=W) (st':=st) (sm':=sm) M sl hg c b6 (l':=ls i) (r':=rk i)
     (λe o=>by simp at o;subst o;exact⟨λx hx=>by simp[qkp,qjy,qkj] at hx,λa=>by simp[qkp]⟩) (.k1 d hk) (by rw[e7];rfl) (λ_=>⟨t.size,RelBy.new n8 _ _⟩) u a8
     (by rw[ZS];exact h.jj) (λ_ ht _=>(A.counted M (by omega) (.inl rfl) _ _).retag ht)
    refine⟨z,w,_,G,IH _ _ _ _ _ _ _ _ _ _ _ _ _ _ V (g9 N b0 (.inl ⟨by omega,by rw[e9 (by omega)];simp[cnt],rfl,?_⟩))⟩;unfold Cfg.nuD;rw[if_neg (by simp)];exact qix _
   ·-- a synchronising operation on the data
    obtain⟨Q,w',es,γ',l',c,m8,a9,q3,n2,n7,a8,m7,p9⟩:=hx W h.data ⟨j,ls,by have:=h.cs.le;omega,h.jj⟩;obtain⟨r',q2⟩:=H.hW _ _ _ _ p9;have k9:grow (Ss i) w w'=Ss i:=by
     funext b
     simp only[grow,eq_iff_iff];exact⟨λh=>h.elim id λ⟨a,b⟩=>by omega,.inl⟩
    have b6:Ef cl (C.lo+i) w w':=⟨λb _ _ hb=>m8 b λhs=>hb (h.syc H hs).1,qn5 a9.symm,q3,n2⟩;obtain⟨z,tag',f',a',G,b0,N,V⟩:=h.stepW H (γ':=γ') (st':=st) (sm':=sm) M sl hg c b6 (l':=l') (r':=r')
     (λe o=>by
      obtain⟨ad,wr,rfl,n9⟩:=n7 e o;obtain⟨k1,k2⟩:=h.syc H n9;refine⟨λx hx b hb=>?_,λa=>by simp⟩;simp only[ofEvent_cell,qkj,qj3] at hx;subst hx;simp only[blk,qj3] at hb;subst hb;rw[q2h a9,a9];exact⟨k2,.inr (.inr ⟨k1,by simp,by simp⟩)⟩) (.run (by rw[k9];exact q2)) (by
      rw[e7];refine deafBehind_idle (λe o=>?_) 0;obtain⟨ad,wr,rfl,n9⟩:=n7 e o;exact⟨by simp,by simp,by simp⟩) (λh=>by omega) (u.of_block (m8 _ H.wgc.2.2)) a8
     (H.hJ _ _ _ _ _ _ h.jj M m7) (λ_ ht _=>Go.ConcN.Mode.retag (by have:=A.same (i:=i) 0 0;rwa [O] at this) ht)
    refine⟨z,w',_,G,IH _ _ _ _ _ _ _ _ _ _ _ _ _ _ V (g9 N b0 (.inr (.inl ⟨rfl,rfl,?_⟩)))⟩;have:=H.hm _ _ _ _ m7;unfold Cfg.nuD;rw[if_pos (by simp),if_pos (by simp only[O])];exact this
  | nd f=>
   obtain⟨Q,w',es,c,a6,l5⟩:=e8.2 w (RC.refl w);have b6:Ef cl (C.lo+i) w w':=⟨λb hb hm hs=>a6.keep b hb λhS=>hm (h.clw i M b hS).1,a6.size,a6.os,a6.output⟩;have n3:∀b,cl b=.sync->¬ Ss i b:=λb hb hS=>by rw[(h.clw i M b hS).1] at hb;cases hb
   obtain⟨z,tag',f',a',G,b0,N,V⟩:=h.stepW H (γ':=W) (st':=st) (sm':=sm) M sl hg c b6 (l':=ls i)
    (λe o=>q75 H h M a6.size (a6.evs e o)) (.run l5) (by rw[e7];exact deafBehind_idle (λe o=>(a6.evs e o).1) 0) (λh=>by omega) (u.of_block (a6.keep _ m5 (n3 _ m6)))
    (H.dat W w w' (λb hb=>a6.keep b (h.syc H hb).2 (n3 _ (h.syc H hb).1)) h.data) (by rw[ZS];exact h.jj) (λ_ ht _=>Go.ConcN.Mode.retag (by have:=A.same (i:=i) 0 0;rwa [O] at this) ht)
   exact⟨z,w',_,G,IH _ _ _ _ _ _ _ _ _ _ _ _ _ _ V (g9 N b0 (.inr (.inr (.inl ⟨rfl,rfl,rfl,rfl,by rw[q1];exact⟨_,rfl⟩⟩))))⟩
 | k1 d hh=>
  rcases qlk hh with F | ⟨B,rfl,p⟩
  ·obtain⟨_,Q,c,m₂,hk⟩:=F w (LR.refl w);exact R c (.refl C.Wg w) u (by intro e o;simp at o;subst o;exact .inl rfl) (by intro jx e o;exact .inl (by have:=qk4 o;simp at this;subst this;rfl)) (.d1 d hk) rfl (by omega)
    (A.counted M (by omega) (.inr rfl) _ _) (.inl ⟨by omega,by rw[e9 (by omega)];simp[cnt]⟩)
  ·obtain⟨Q,w',es,c,⟨rfl,rfl⟩,Z⟩:=p w (LR.refl w);exact jZ c (.k1 d Z) rfl (by omega)
 | d1 d hh=>
  rcases qlk hh with F | ⟨B,rfl,p⟩
  ·obtain⟨_,h9⟩:=F w (LR.refl w);have r3:cnt (D i)=1:=e9 (by omega);have t5:1<=Vc j D:=by have:=le_sumTo (f:=λx=>cnt (D x)) M;simp only[Vc];omega
   have bk2:∀e∈#[rd (stA C.Wg),wr (stA C.Wg)],Bk C.Wg e:=by intro e o;simp at o;rcases o with rfl | rfl<;>exact bk_cell _ _ rfl
   have l8:∀jx e,(#[rd (stA C.Wg),wr (stA C.Wg)]:Array qjs)[jx]?=some e->(qjy e).touch?=none\/0<ql6 1 ((#[rd (stA C.Wg),wr (stA C.Wg)]:Array qjs).extract 0 jx):=by
    intro jx e o
    match jx,o with
    | 0,_=>exact .inr (by simp[ql6])
    | 1,_=>exact .inr (by simp[ql6,rd])
    | jx+2,o=>simp at o
   have m9:∀q,cnt (⟨1,q,1⟩:WD)=0:=λ_=>rfl;have m3:∀q,OpenSt j D->OpenSt j (upd D i ⟨1,q,1⟩):=λq h a ha=>by
    by_cases e:a=i
    ·subst e;rw[ql4];simp
    ·rw[qm3 D _ e];exact h a ha
   cases A with
   | opn h1 h2 h3=>
    obtain⟨v,hv⟩:∃v,Vc j D+qqf tag=v+1:=⟨Vc j D+qqf tag - 1,by omega⟩;rw[hv] at u;have k5:qo9 C.ty C.Wg w (((v:Nat)+1)*KK+((0:Nat):Int)) 0:=by simpa using u
    obtain⟨Q,c,_,hq⟩:=h9 v 0 (by omega) (by omega) k5;obtain⟨q,hq⟩:=hq (by omega);have k6:Vc j (upd D i ⟨1,q,1⟩)+qqf tag=v:=by have:=Vc_upd D (⟨1,q,1⟩:WD) M;have:=m9 q;omega
    refine R c (qmB w (stA C.Wg) _) (u.setSt _) bk2 l8 (.quit d hq) rfl (by omega) ?_ (.inl ⟨by omega,by simp[cnt]⟩);have e:((v:Nat):Int)*KK+((0:Nat):Int)=((Vc j (upd D i ⟨1,q,1⟩)+qqf tag:Nat):Int)*KK:=by rw[k6];simp
    rw[e];exact .opn h1 (m3 q h2) (λvs ev=>by have:=h3 vs ev;omega)
   | reg h1 h2 h3=>
    obtain⟨v,hv⟩:∃v,Vc j D=v+1:=⟨Vc j D - 1,by omega⟩;rw[hv] at u;have hp:qqf tag=0:=by cases tag<;>first | rfl | exact h1.elim
    have k5:qo9 C.ty C.Wg w (((v:Nat)+1)*KK+((1:Nat):Int)) 0:=by simpa using u
    obtain⟨Q,c,hl,hq⟩:=h9 v 1 (by omega) (by omega) k5;by_cases q0:v=0
    ·subst q0;obtain⟨m₂,hk⟩:=hl ⟨rfl,rfl⟩;refine R c (qmB w (stA C.Wg) _) (u.setSt _) bk2 l8 (.d2 d hk) rfl (by omega) ?_ (.inl ⟨by omega,by simp[cnt]⟩);have T:∀a,a<j->a≠i->(D a).stage=1:=λa ha e=>by
      have c0:=others_uncounted M hv r3 a ha e;have:=h2 a ha;simp only[cnt] at c0;split at c0<;>omega
     have:=Go.ConcN.Mode.last (j:=j) (D:=upd D i ⟨4,m₂,1⟩) (tag:=tag) i h1 M (by rw[ql4];simp) (λa ha e=>by rw[qm3 D _ e];exact T a ha e);rw[ql4] at this;simpa using this
    ·obtain⟨q,hq⟩:=hq (by omega);have k6:Vc j (upd D i ⟨1,q,1⟩)=v:=by have:=Vc_upd D (⟨1,q,1⟩:WD) M;have:=m9 q;omega
     refine R c (qmB w (stA C.Wg) _) (u.setSt _) bk2 l8 (.quit d hq) rfl (by omega) ?_ (.inl ⟨by omega,by simp[cnt]⟩);have e:((v:Nat):Int)*KK+((1:Nat):Int)=((Vc j (upd D i ⟨1,q,1⟩):Nat):Int)*KK+1:=by rw[k6];simp
     rw[e];exact .reg h1 (m3 q h2) (by omega)
   | last L _ h2 h3 h4=>
    by_cases e:i=L
    ·subst e;omega
    ·have:=h4 i M e;omega
   | sema h2=>have:=h2 i M;omega
   | fin _ h2=>have:=h2 i M;omega
  ·obtain⟨Q,w',es,c,⟨rfl,rfl⟩,Z⟩:=p w (LR.refl w);exact jZ c (.d1 d Z) rfl (by omega)
 | d2 d hh=>
  rcases qlk hh with F | ⟨B,rfl,p⟩
  ·obtain⟨_,hx⟩:=F w (LR.refl w);obtain⟨g5,T,rfl,rfl⟩:=A.isLast M (by omega);simp only[O] at u;obtain⟨Q,c,m₂,hk⟩:=hx (by simpa using u);refine R c (.refl C.Wg w) u (by intro e o;simp at o;subst o;exact bk_cell _ _ rfl) (by intro jx e o;match jx,o with | 0,_=>exact .inr (by simp[ql6]) | jx+1,o=>simp at o) (.d3 d hk) rfl (by omega) ?_ (.inl ⟨by omega,by simp[cnt]⟩);have:=Go.ConcN.Mode.last (j:=j) (D:=upd D i ⟨3,m₂,1⟩) (tag:=tag) i g5 M (by rw[ql4];simp) (λa ha e=>by rw[qm3 D _ e];exact T a ha e);rw[ql4] at this;simpa using this
  ·obtain⟨Q,w',es,c,⟨rfl,rfl⟩,Z⟩:=p w (LR.refl w);exact jZ c (.d2 d Z) rfl (by omega)
 | d3 d hh=>
  rcases qlk hh with F | ⟨B,rfl,p⟩
  ·obtain⟨_,hx⟩:=F w (LR.refl w);obtain⟨g5,T,rfl,rfl⟩:=A.isLast M (by omega);simp only[O] at u;obtain⟨Q,c,m₂,hk⟩:=hx (by simpa using u);refine R c (qmB w (stA C.Wg) _) (u.setSt 0) (by intro e o;simp at o;subst o;exact bk_cell _ _ rfl) (by intro jx e o;match jx,o with | 0,_=>exact .inr (by simp[ql6]) | jx+1,o=>simp at o) (.d4 d hk) rfl (by omega) ?_ (.inl ⟨by omega,by simp[cnt]⟩);have:=Go.ConcN.Mode.last (j:=j) (D:=upd D i ⟨2,m₂,1⟩) (tag:=tag) i g5 M (by rw[ql4];simp) (λa ha e=>by rw[qm3 D _ e];exact T a ha e);rw[ql4] at this;simpa using this
  ·obtain⟨Q,w',es,c,⟨rfl,rfl⟩,Z⟩:=p w (LR.refl w);exact jZ c (.d3 d Z) rfl (by omega)
 | d4 d hh=>
  rcases qlk hh with F | ⟨B,rfl,p⟩
  ·obtain⟨_,q5,hx⟩:=F w (LR.refl w);obtain⟨g5,T,rfl,rfl⟩:=A.isLast M (by omega);simp only[O] at u;obtain⟨Q,c,q,hq⟩:=hx (by simpa using u);have G:Q.status=.running:=by
    cases q with
    | zero=>exact absurd hq.2 (by decide)
    | succ q=>exact hq.elim (λx=>absurd x.2 (by decide)) (λx=>x.1)
   refine g7 c (qmB w (smA C.Wg) _) (u.setSm 1) (es:=qms (smA C.Wg)) ?_ ?_ (.quit d hq) (by simp[ql6,qms]) (by omega) ?_ (.inl ⟨by omega,by simp[cnt]⟩)
   ·intro e o;simp[qms] at o;rcases o with rfl | rfl | rfl | rfl
    ·exact .inl rfl
    ·exact bk_cell _ _ rfl
    ·exact bk_cell _ _ rfl
    ·exact .inr (.inl rfl)
   ·intro jx e o
    match jx,o with
    | 0,o=>simp[qms] at o;subst o;exact .inl rfl
    | 1,_=>exact .inr (by simp[ql6,qms])
    | 2,_=>exact .inr (by simp[ql6,qms])
    | 3,o=>simp[qms] at o;subst o;exact .inl rfl
    | jx+4,o=>simp[qms] at o
   ·intro tag' ht hw;have q4:=hw q5 G;have e3:tag'=.w3:=by
     rcases ht with rfl | ⟨_,rfl⟩
     ·cases tag'<;>first | rfl | exact g5.elim | exact absurd rfl q4
     ·rfl
    subst e3;simp only[if_true];exact .sema λa ha=>by
     by_cases e:a=i
     ·subst e;rw[ql4]
     ·rw[qm3 D _ e];exact T a ha e
  ·obtain⟨Q,w',es,c,⟨rfl,rfl⟩,Z⟩:=p w (LR.refl w);exact jZ c (.d4 d Z) rfl (by omega)
 | quit d hh=>
  cases m with
  | zero=>rw[hh.1] at b9;cases b9
  | succ q=>
   rcases hh with⟨hf,_⟩ | ⟨_,Q,es,e5,p,hq⟩
   ·rw[hf] at b9;cases b9
   ·have c9:∀e∈es,Bk C.Wg e:=λe o=>Go.ConcR.bk_of_mute (e5 e o);exact R (p w) (.refl C.Wg w) u c9 (λjx e o=>.inl (KF (e5 e (qk4 o)))) (.quit d hq) rfl (by omega) (by have:=A.same (i:=i) q (ql6 dd es);rwa [O] at this) (.inr ⟨rfl,rfl⟩)
end
end
section
open Go.Conc Go.ConcN
open Go.ConcR (KK wgBlock WgAt stA smA rd wr DC0 Bk g_of_ofEvents loc_of_ofEvent ofEvent_mk ofEvent_cell)
section
variable{U X:Type}{C:Cfg U X}{gs:Array qhD}{w w':qhy}{t:qpb}{j:Nat}{D:Nat->WD}{ls:Nat->X}{Ss:Nat->Bs}{rk:Nat->Rk}{W γ':U}{tag tag':CTag}{f0 d0:Nat}{a:qhD}{st sm st' sm':Int}{cl:Nat->Cl}{fu:Nat->Nat}
def q2i{c:Nat}:∀e∈#[qkp .disable],Bk c e:=by intro e b;simp at b;subst b;exact .inl rfl
def q5t{c:Nat}:∀e∈#[qkp .enable],Bk c e:=by intro e b;simp at b;subst b;exact .inr (.inl rfl)
def qex{c:Nat}:∀e∈#[rd (stA c)],Bk c e:=by intro e b;simp at b;subst b;exact bk_cell _ _ rfl
def qcE{b:Nat}:∀e∈#[rd (stA b),wr (stA b)],Bk b e:=by intro e c;simp at c;rcases c with rfl | rfl<;>exact bk_cell _ _ rfl
def qew{c:Nat}:∀e∈qms (smA c),Bk c e:=by
 intro e b;simp[qms] at b;rcases b with rfl | rfl | rfl | rfl
 ·exact .inl rfl
 ·exact bk_cell _ _ rfl
 ·exact bk_cell _ _ rfl
 ·exact .inr (.inl rfl)
def JV{c:Nat}{b:Array qjs}(h:∀e∈b,e=qkp (.read (smA c))\/e=qkp (.write (smA c)))(d:Nat):ql6 d b=d :=
 deafBehind_idle (λe f=>by rcases h e f with rfl | rfl<;>simp[jy,qkp]) d
def Inv.spawn(H:C.Ok){r:Nat}(hr:r<C.n)(h:Inv C gs w t (C.n - (r+1)) D ls Ss rk W (.sp r 2) f0 0 a st sm cl fu)(sl:Option (Nat × Nat)){F c:qhD}(Y:qjc C.P true a w=.spawn F c w #[])(a7:C.WA C.l0 (λ_=>False) c w){tag':CTag}{f':Nat}(v:C.CS tag' (C.n - r) f' 0 F w)(ho:isOpen tag')(hp:qqf tag'=0)(V:∀S,tag'≠.w2 S) :∃N G r',runT C.P (qlq gs w sl) 0=(.next (qlq N w sl),G) /\Inv C N w (t++G) (C.n - r) (upd D (C.n - (r+1)) ⟨7,0,0⟩) (upd ls (C.n - (r+1)) C.l0) (upd Ss (C.n - (r+1)) (λ_=>False)) (upd rk (C.n - (r+1)) r') W tag' f' 0 F st sm cl fu:=by
 have d5:=H.hlo;have ej:C.n - r=C.n - (r+1)+1:=by omega
 generalize C.n - (r+1)=j at *
 rw[ej] at v ⊢;have⟨rr,hrr⟩:=H.hW _ _ _ _ a7;have o:=runT_crowd_spawn (P:=C.P) (sl:=sl) (i:=0) h.main Y;have e0:(qkf 0 a.frame.fn a.frame.place #[]:Array qqa)=#[]:=by rw[qn3];simp
 rw[e0] at o;have O:((#[]:Array qqa).push { g:=0,fn:=a.frame.fn,pos:=a.frame.place,act:=.go gs.size } |>.push { g:=gs.size,fn:=c.frame.fn,pos:=a.frame.place,act:=.start })=#[{ g:=0,fn:=a.frame.fn,pos:=a.frame.place,act:=.go gs.size },{ g:=gs.size,fn:=c.frame.fn,pos:=a.frame.place,act:=.start }]:=rfl;rw[O] at o;refine⟨_,_,rr,o,?_⟩;generalize hx:({ g:=0,fn:=a.frame.fn,pos:=a.frame.place,act:=.go gs.size }:qqa)=x;generalize hy:({ g:=gs.size,fn:=c.frame.fn,pos:=a.frame.place,act:=.start }:qqa)=y;have l:x.g=0/\x.act=.go gs.size:=by rw[<- hx];exact⟨rfl,rfl⟩
 have k:y.g=gs.size/\y.act=.start:=by rw[<- hy];exact⟨rfl,rfl⟩
 have I:((gs.setIfInBounds 0 F).push c).size=gs.size+1:=by simp
 have A:=h.size;have q:∀g,qqe (t++#[x,y]) g=qqe t g:=λg=>(h.tr.fork_deaf l k g).2;have u:∀i,1<=i->i<gs.size->((gs.setIfInBounds 0 F).push c)[i]?=gs[i]?:=λi M L=>by
  rw[qq3 (by simpa using L),<- qip,qjj (by omega)]
 have s:∀f∈#[x,y],f.g=0\/f.g=gs.size:=λf d=>by
  simp only[qlh,qjB,qk5,or_false] at d;rcases d with rfl | rfl
  ·exact .inl l.1
  ·exact .inr k.1
 have B:∀f∈#[x,y],f.act=.go gs.size\/f.act=.start:=λf d=>by
  simp only[qlh,qjB,qk5,or_false] at d;rcases d with rfl | rfl
  ·exact .inl l.2
  ·exact .inr k.2
 refine⟨by rw[I,A];omega,?_,v,λi M L=>?_,λi Q=>?_,λi Q=>?_,λi Q p=>?_,?_,λi Q b R=>?_,h.cl0,h.cla,h.cln,?_,?_,?_,h.data,H.hJ0 _ _ _ h.jj,h.ph,h.wg,?_⟩
 ·rw[qq3 (by simp;omega),<- qip,qj2,if_pos rfl,if_pos (by omega)]
 ·have⟨z,T,hq⟩:=h.lv i M L;exact⟨z,by rw[u i M (by omega)];exact T,by rw[q];exact hq⟩
 ·by_cases e:i=j
  ·subst e;refine⟨c,?_,by simp only[ql4];exact .run hrr⟩;rw[<- A,show gs.size=(gs.setIfInBounds 0 F).size by simp];exact Array.getElem?_push_size
  ·have⟨z,T,hs⟩:=h.wk i (by omega);refine⟨z,by rw[u _ (by omega) (by omega)];exact T,?_⟩;rw[qm3 D _ e,qm3 ls _ e,qm3 Ss _ e,qm3 rk _ e];exact hs
 ·rw[q];by_cases e:i=j
  ·subst e;rw[ql4,<- A];have:=(h.tr.fork_deaf l k 0).1;rw[q] at this;exact this
  ·rw[qm3 D _ e];exact h.wd i (by omega)
 ·by_cases e:i=j
  ·subst e;rw[ql4] at p;simp at p
  ·rw[qm3 D _ e] at p;have⟨r,hr⟩:=h.rel i (by omega) p;exact⟨r,hr.appNot λf d=>by rcases s f d with h | h<;>omega⟩
 ·rw[I];exact h.tr.fork (by omega) l k h.deaf0
 ·by_cases e:i=j
  ·subst e;rw[ql4] at R;exact R.elim
  ·rw[qm3 Ss _ e] at R;exact h.clw i (by omega) b R
 ·exact λad=>(h.nor ad).app λf d hm=>by
   rcases B f d with e | e<;>rw[e] at hm<;>cases hm
 ·rw[q];exact h.deaf0
 ·exact h.hd.app λf d=>by rcases s f d with e | e<;>omega
 ·have hm:=h.mode;have⟨Z,M,L,_⟩:=hm.open_inv trivial;have eV:Vc (j+1) (upd D j ⟨7,0,0⟩)=Vc j D+1:=by
   simp only[Vc,qnr,ql4];rw[qr1 D _ cnt (qhz _)];rfl
  have a6:OpenSt (j+1) (upd D j ⟨7,0,0⟩):=λi Q=>by
   by_cases e:i=j
   ·subst e;rw[ql4];simp
   ·rw[qm3 D _ e];exact Z i (by omega)
  rw[M,L];have a8:((Vc j D+qqf (.sp r 2):Nat):Int)*KK=((Vc (j+1) (upd D j ⟨7,0,0⟩)+qqf tag':Nat):Int)*KK:=by rw[eV,hp];simp[qqf]
  rw[a8];exact .opn ho a6 (λS e=>absurd e (V S))
def Inv.starter(H:C.Ok)(h:Inv C gs w t j D ls Ss rk W tag f0 d0 a st sm cl fu)(k7:a.status=.running)(sl:Option (Nat × Nat))(IH:∀l w' t' j' D' h9 p7 g9 tag' f' d' v st' sm',Inv C l w' t' j' D' h9 p7 g9 W tag' f' d' v st' sm' cl fu->LtM C.n (C.big j' D' h9 W tag',g9,C.low j' D' fu f') (C.big j D ls W tag,rk,C.low j D fu f0)->Ends C.P C.Post (qlq l w' sl) t') :∃l w' A,runT C.P (qlq gs w sl) 0=(.next (qlq l w' sl),A)/\Ends C.P C.Post (qlq l w' sl) (t++A):=by
 have hn:=H.hn;have q5:=Vc_le j D;have n3:=h.cs.le;have k:=h.mode;have p:=h.wg;have s:∀{v:qhD} {w':qhy} {R:Array qjs} {tag':CTag} {f':Nat} {st' sm':Int},qjc C.P true a w=.go v w' R->Aside C.Wg w w'->qo9 C.ty C.Wg w' st' sm'->(∀e∈R,Bk C.Wg e)->C.CS tag' j f' (ql6 d0 R) v w' ->
   qnk j D tag' st' sm'->(phi C.n (Vc j D) tag'<phi C.n (Vc j D) tag\/(phi C.n (Vc j D) tag'=phi C.n (Vc j D) tag/\f'<f0)) ->
   ∃l w' A,runT C.P (qlq gs w sl) 0=(.next (qlq l w' sl),A)/\Ends C.P C.Post (qlq l w' sl) (t++A):=by
  intro v w' R tag' f' st' sm' c p4 k0 p3 b9 c9 d5;obtain⟨Z,M,Q⟩:=h.ef H 0 p4;obtain⟨l,I,z⟩:=h.step0 H sl c Z M (λe he=>by rw[M];exact qcr H h (p3 e he)) b9 k0 Q c9;refine⟨l,w',_,I,IH _ _ _ _ _ _ _ _ _ _ _ _ _ _ z ?_⟩;unfold Cfg.big Cfg.low;rcases d5 with T | ⟨T,h2⟩
  ·refine q23 ?_;have:=qns T (show 0<C.nu C.l0+8 by omega);omega
  ·rw[T];exact q80 rfl (by omega)
 have jZ:∀{v:qhD} {w':qhy} {R:Array qjs} {f':Nat},qjc C.P true a w=.go v w' R->DM C.Wg w w' R->C.CS tag j f' d0 v w'->f'<f0 ->
   ∃l w' A,runT C.P (qlq gs w sl) 0=(.next (qlq l w' sl),A)/\Ends C.P C.Post (qlq l w' sl) (t++A):=by
  intro v w' R f' c F b9 hf;obtain⟨rfl,O⟩:=F;have S:=JV O d0;obtain⟨Z,M,Q⟩:=h.ef H 0 (Aside.refl C.Wg w');obtain⟨l,I,z⟩:=h.step0 H sl c Z M (λe he=>⟨(xq H h (O e he)).1,(xq H h (O e he)).2.2.2⟩) (by rw[S];exact b9) p Q k;refine⟨l,w',_,I,IH _ _ _ _ _ _ _ _ _ _ _ _ _ _ z ?_⟩;unfold Cfg.big Cfg.low;exact q80 rfl (by omega)
 have n8:=h.cs;have w1Step:∀{m:Nat},tag=.w1\/tag=.anch->j=C.n->d0=1->f0=m\/tag=.anch->C.GM C.AtW1 m a w ->
   ∃l w' A,runT C.P (qlq gs w sl) 0=(.next (qlq l w' sl),A)/\Ends C.P C.Post (qlq l w' sl) (t++A):=by
  intro m a6 hj hd hf G;have u:isOpen tag:=by rcases a6 with rfl | rfl<;>trivial
  have g5:qqf tag=0:=by rcases a6 with rfl | rfl<;>rfl
  have d8:8*Vc j D+5<=phi C.n (Vc j D) tag:=by rcases a6 with rfl | rfl<;>simp only[phi]<;>omega
  obtain⟨ho,T,h2,_⟩:=k.open_inv u;rcases qlk G with d | ⟨m',rfl,f⟩
  ·obtain⟨_,Y⟩:=d w (.refl w);obtain⟨v,c,h0,k8⟩:=Y (Vc j D) (by omega) (by have:=p;rw[T,h2,g5] at this;simpa using this);subst hj;subst hd;by_cases hv:Vc C.n D=0
   ·obtain⟨m₂,B⟩:=h0 hv;refine s c (.refl C.Wg w) p qex (tag':=.ke) (.ke B) ?_ (.inl (qia (by simp only[phi];omega) d8));have e:st=0:=by rw[T,hv,g5];simp
    rw[e,h2];exact .fin trivial (allQuit_of ho hv)
   ·obtain⟨m₂,B⟩:=k8 hv;refine s c (.refl C.Wg w) p qex (tag':=.w2 (Vc C.n D)) (.w2 B) ?_ (.inl (qia (by simp only[phi];omega) d8));have e:st=((Vc C.n D+qqf (.w2 (Vc C.n D)):Nat):Int)*KK:=by rw[T,g5];rfl
    rw[e,h2];exact .opn trivial ho (λvs e=>by cases e;omega)
  ·obtain⟨v,w',R,c,F,o⟩:=f w (.refl w);rcases hf with hf | hf
   ·rcases a6 with rfl | rfl
    ·subst hj;subst hd;exact jZ c F (.w1 o) (by omega)
    ·subst hj;subst hd;obtain⟨rfl,O⟩:=F;have S:=JV O 1;obtain⟨Z,M,Q⟩:=h.ef H 0 (Aside.refl C.Wg w');obtain⟨l,I,z⟩:=h.step0 H sl c Z M (λe he=>⟨(xq H h (O e he)).1,(xq H h (O e he)).2.2.2⟩) (tag':=.w1) (by rw[S];exact .w1 o) p Q (k.reopen trivial trivial rfl (by simp));refine⟨l,w',_,I,IH _ _ _ _ _ _ _ _ _ _ _ _ _ _ z ?_⟩;unfold Cfg.big Cfg.low;refine q23 ?_;have:=qns (show phi C.n (Vc C.n D) .w1<phi C.n (Vc C.n D) .anch by simp only[phi];omega) (show 0<C.nu C.l0+8 by omega);omega
   ·subst hf;subst hj;subst hd;obtain⟨rfl,O⟩:=F;have S:=JV O 1;obtain⟨Z,M,Q⟩:=h.ef H 0 (Aside.refl C.Wg w');obtain⟨l,I,z⟩:=h.step0 H sl c Z M (λe he=>⟨(xq H h (O e he)).1,(xq H h (O e he)).2.2.2⟩) (tag':=.w1) (by rw[S];exact .w1 o) p Q (k.reopen trivial trivial rfl (by simp));refine⟨l,w',_,I,IH _ _ _ _ _ _ _ _ _ _ _ _ _ _ z ?_⟩;unfold Cfg.big Cfg.low;refine q23 ?_;have:=qns (show phi C.n (Vc C.n D) .w1<phi C.n (Vc C.n D) .anch by simp only[phi];omega) (show 0<C.nu C.l0+8 by omega);omega
 cases n8 with
 | skd I G=>
  rcases qlk G with d | ⟨m',rfl,f⟩
  ·obtain⟨_,v,c,m₂,B⟩:=d w (.refl w);exact s c (.refl C.Wg w) p q2i (.sa1 I B) (k.reopen trivial trivial rfl (by simp)) (.inl (by simp only[phi];omega))
  ·obtain⟨v,w',R,c,F,o⟩:=f w (.refl w);exact jZ c F (.skd I o) (by omega)
 | sa1 I G=>
  rename_i r
  rcases qlk G with d | ⟨m',rfl,f⟩
  ·obtain⟨_,Y⟩:=d w (.refl w);obtain⟨ho,rfl,rfl,_⟩:=k.open_inv trivial;obtain⟨v,c,m₂,B⟩:=Y (Vc (C.n - (r+1)) D) (by omega) (by simpa[qqf] using p);refine s c (qmB w (stA C.Wg) _) (p.setSt _) qcE (.ske I B) ?_ (.inl (by simp only[phi];omega));have e:(((Vc (C.n - (r+1)) D:Nat):Int)+1)*KK=((Vc (C.n - (r+1)) D+qqf (.sp r 3):Nat):Int)*KK:=by simp[qqf]
   rw[e];exact .opn trivial ho (by simp)
  ·obtain⟨v,w',R,c,F,o⟩:=f w (.refl w);exact jZ c F (.sa1 I o) (by omega)
 | ske I G=>
  rcases qlk G with d | ⟨m',rfl,f⟩
  ·obtain⟨_,v,c,m₂,B⟩:=d w (.refl w);exact s c (.refl C.Wg w) p q5t (.sgo I B) (k.reopen trivial trivial rfl (by simp)) (.inl (by simp only[phi];omega))
  ·obtain⟨v,w',R,c,F,o⟩:=f w (.refl w);exact jZ c F (.ske I o) (by omega)
 | sgo I G=>
  rename_i r
  rcases qlk G with d | ⟨m',rfl,f⟩
  ·obtain⟨_,v,p6,k6,m8,b8⟩:=d w (.refl w);have d6:=m8 h.ph ⟨_,h.data⟩;have eV:Vc (C.n - r) (upd D (C.n - (r+1)) ⟨7,0,0⟩)=Vc (C.n - (r+1)) D+1:=by
    rw[show C.n - r=C.n - (r+1)+1 by omega];simp only[Vc,qnr,ql4];rw[qr1 D _ cnt (qhz _)];rfl
   have eS:Ssum (C.n - r) (upd D (C.n - (r+1)) ⟨7,0,0⟩)=Ssum (C.n - (r+1)) D+7:=by
    rw[show C.n - r=C.n - (r+1)+1 by omega];simp only[Ssum,qnr,ql4];rw[qr1 D _ WD.stage (qhz _)]
   have eN:C.Nsum (C.n - r) (upd D (C.n - (r+1)) ⟨7,0,0⟩) (upd ls (C.n - (r+1)) C.l0)=C.Nsum (C.n - (r+1)) D ls+C.nu C.l0:=by
    rw[show C.n - r=C.n - (r+1)+1 by omega];simp only[Cfg.Nsum,qnr,ql4];rw[sumTo_congr (g:=λi=>C.nuD (D i,ls i)) λi hi=>by rw[qm3 _ _ (by omega),qm3 _ _ (by omega)]];simp[Cfg.nuD]
   have h8:∀{tag':CTag} {r':Rk} {f':Nat},(phi C.n (Vc (C.n - (r+1)) D+1) tag'+1<=phi C.n (Vc (C.n - (r+1)) D) (.sp r 2)) ->
     LtM C.n (C.big (C.n - r) (upd D (C.n - (r+1)) ⟨7,0,0⟩) (upd ls (C.n - (r+1)) C.l0) W tag',upd rk (C.n - (r+1)) r',C.low (C.n - r) (upd D (C.n - (r+1)) ⟨7,0,0⟩) fu f') (C.big (C.n - (r+1)) D ls W (.sp r 2),rk,C.low (C.n - (r+1)) D fu f0):=by
    intro tag' r' f' n2;refine q23 ?_;unfold Cfg.big;rw[eV,eS,eN];have:=Nat.mul_le_mul_left (C.nu C.l0+8) n2;rw[Nat.mul_add,Nat.mul_one] at this;omega
   cases r with
   | zero=>
    obtain⟨m₃,B⟩:=b8;obtain⟨l,A,r',N,z⟩:=h.spawn H I sl k6 d6 (tag':=.kd) (f':=m₃) (by rw[Nat.sub_zero];exact .kd B) trivial rfl (by simp);exact⟨l,w,A,N,IH _ _ _ _ _ _ _ _ _ _ _ _ _ _ z (h8 (by simp only[phi];omega))⟩
   | succ r2=>
    obtain⟨m₃,B⟩:=b8;obtain⟨l,A,r',N,z⟩:=h.spawn H I sl k6 d6 (tag':=.sp r2 5) (f':=m₃) (.skd (by omega) B) trivial rfl (by simp);exact⟨l,w,A,N,IH _ _ _ _ _ _ _ _ _ _ _ _ _ _ z (h8 (by simp only[phi];omega))⟩
  ·obtain⟨v,w',R,c,F,o⟩:=f w (.refl w);exact jZ c F (.sgo I o) (by omega)
 | kd G=>
  rcases qlk G with d | ⟨m',rfl,f⟩
  ·obtain⟨_,v,c,m₂,B⟩:=d w (.refl w);exact s c (.refl C.Wg w) p q2i (.anch B) (k.reopen trivial trivial rfl (by simp)) (.inl (by simp only[phi];omega))
  ·obtain⟨v,w',R,c,F,o⟩:=f w (.refl w);exact jZ c F (.kd o) (by omega)
 | anch G=>
  rcases qlk G with d | ⟨m',rfl,f⟩
  ·obtain⟨m₂,B⟩:=H.hAn a w (d w (.refl w));exact w1Step (.inr rfl) rfl rfl (.inr rfl) B
  ·obtain⟨v,w',R,c,F,o⟩:=f w (.refl w);exact jZ c F (.anch o) (by omega)
 | w1 G=>exact w1Step (.inl rfl) rfl rfl (.inl rfl) G
 | w2 G=>
  rename_i vs
  rcases qlk G with d | ⟨m',rfl,f⟩
  ·obtain⟨_,Y⟩:=d w (.refl w);obtain⟨ho,rfl,rfl,m9⟩:=k.open_inv trivial;obtain⟨n3,T⟩:=m9 vs rfl;obtain⟨l4,g6⟩:=Y (Vc C.n D) (by omega) (by simpa[qqf] using p);by_cases e:Vc C.n D=vs
   ·obtain⟨v,c,m₂,B⟩:=l4 e;exact s c (qmB w (stA C.Wg) _) (p.setSt _) qcE (.w3 B) (.reg trivial ho (by omega)) (.inl (by simp only[phi];omega))
   ·obtain⟨v,c,m₂,B⟩:=g6 e;exact s c (.refl C.Wg w) p qex (.anch B) (k.reopen trivial trivial rfl (by simp)) (.inl (by simp only[phi];omega))
  ·obtain⟨v,w',R,c,F,o⟩:=f w (.refl w);exact jZ c F (.w2 o) (by omega)
 | w3 G=>
  rcases qlk G with d | ⟨m',rfl,f⟩
  ·obtain⟨_,q1,e5,e8⟩:=d w (.refl w);cases k with
   | opn T _ _=>exact T.elim
   | reg T h2 h3=>exact s (e5 ⟨_,p⟩) (.refl C.Wg w) p (by simp) (.blk d) (.reg trivial h2 h3) (.inr ⟨rfl,by omega⟩)
   | last L T h2 h3 h4=>exact s (e5 ⟨_,p⟩) (.refl C.Wg w) p (by simp) (.blk d) (.last L trivial h2 h3 h4) (.inr ⟨rfl,by omega⟩)
   | sema h2=>
    obtain⟨v,c,m₂,B⟩:=e8 p;exact s c (qmB w (smA C.Wg) _) (p.setSm 0) qew (.w4 B) (.fin trivial h2) (.inl (by simp only[phi];omega))
   | fin T _=>exact T.elim
  ·obtain⟨v,w',R,c,F,o⟩:=f w (.refl w);exact jZ c F (.w3 o) (by omega)
 | blk G=>simp at k7
 | w4 G=>
  rcases qlk G with d | ⟨m',rfl,f⟩
  ·obtain⟨_,hx⟩:=d w (.refl w);obtain⟨hq,rfl,rfl⟩:=k.fin_inv trivial;obtain⟨v,c,m₂,B⟩:=hx p;exact s c (.refl C.Wg w) p qex (.ke B) (.fin trivial hq) (.inl (by simp only[phi];omega))
  ·obtain⟨v,w',R,c,F,o⟩:=f w (.refl w);exact jZ c F (.w4 o) (by omega)
 | ke G=>
  rcases qlk G with d | ⟨m',rfl,f⟩
  ·obtain⟨_,v,c,m₂,B⟩:=d w (.refl w);obtain⟨hq,rfl,rfl⟩:=k.fin_inv trivial;exact s c (.refl C.Wg w) p q5t (.acq B) (.fin trivial hq) (.inl (by simp only[phi];omega))
  ·obtain⟨v,w',R,c,F,o⟩:=f w (.refl w);exact jZ c F (.ke o) (by omega)
 | acq G=>
  rcases qlk G with d | ⟨m',rfl,f⟩
  ·obtain⟨_,v,c,l6⟩:=d w (.refl w);obtain⟨hq,rfl,rfl⟩:=k.fin_inv trivial;have N:=qni (P:=C.P) (sl:=sl) (i:=0) h.main c;refine⟨_,_,_,N,?_⟩;have n7:∀i,i<C.n->C.fin (ls i):=λi hi=>by
    obtain⟨g,_,hs⟩:=h.wk i hi;exact hs.fin_of (by rw[hq i hi];omega)
   have hE:=H.hFin W ls v w l6 h.jj n7 h.data h.ph;have q4:=H.hlo;have M:((gs.map (qri C.P a v w)).setIfInBounds 0 v).size=gs.size:=by simp
   have d5:0<gs.size:=by rw[h.size];omega
   have e1:qkf 0 a.frame.fn a.frame.place #[qkp (.acquire (stA C.Wg))]=#[{ g:=0,fn:=a.frame.fn,pos:=a.frame.place,act:=.mark (.acquire (stA C.Wg)) }]:=by rw[qn3];simp[ofEvent_mk]
   rw[e1];generalize hy:({ g:=0,fn:=a.frame.fn,pos:=a.frame.place,act:=.mark (.acquire (stA C.Wg)) }:qqa)=y;have c8:y.g=0:=by rw[<- hy]
   have b0:y.act=.mark (.acquire (stA C.Wg)):=by rw[<- hy]
   have d9:∀op∈#[y],op.g=0:=λop u=>by simp at u;rw[u];exact c8
   have e6:(t++#[y])[t.size]?=some y:=by simp
   have S:∀g,qqe (t++#[y]) g=qqe t g:=λg=>Deaf_still t g _ λop u=>by simp at u;rw[u,b0];simp
   have e7:Tr cl gs.size w.heap.size (t++#[y]):=h.tr.step d5 λop u=>by
    simp at u;rw[u];exact⟨c8,λx hx=>by rw[b0] at hx;cases hx⟩
   have l5:∀m,Hd m (t++#[y]):=λm=>by
    refine Hd.join (lo:=C.lo) (q:=t.size) (h.hd.app λop u=>.inl (d9 op u)) (λg hg k8 ⟨i,hi⟩=>?_) ((h.nor _).app λop u hm=>by simp at u;rw[u,b0] at hm;cases hm) (by rw[act?_of e6,b0]) (by rw[q2a e6,c8])
     ⟨0,by rw[q2a e6,c8],by rw[deaf_old (qhz _)];exact h.deaf0⟩ m
    obtain⟨op,ho,rfl⟩:=qmb.1 hi;have V:=e7.gs i op ho;rw[h.size] at V;obtain⟨r,I⟩:=h.rel (op.g - C.lo) (by omega) (by rw[hq _ (by omega)];omega);rw[show C.lo+(op.g - C.lo)=op.g by omega] at I;exact⟨r,I.appOther d9 (by omega),lt_of_act? I.act⟩
   refine hE _ sl _ (λi=>if i<C.lo then fu i else(D (i - C.lo)).fuel) ⟨qmh _ _ _ d5,λi T h2=>?_,?_,λb hb=>?_,?_,l5 _,λad=>?_⟩
   ·rw[M] at h2;by_cases hl:i<C.lo
    ·obtain⟨x,hx,b6⟩:=h.lv i T hl;refine⟨x,by rw[qlu _ _ _ _ (by omega),hx,qjo,qn7 b6],?_⟩;rw[if_pos hl,S];exact b6
    ·have V:i - C.lo<C.n:=by rw[h.size] at h2;omega
     obtain⟨x,hx,m7⟩:=h.wk (i - C.lo) V;have k5:=h.wd (i - C.lo) V;rw[show C.lo+(i - C.lo)=i by omega] at hx k5;have b6:qpl C.P (D (i - C.lo)).fuel (D (i - C.lo)).deaf x:=by
      have T:=hq _ V;generalize D (i - C.lo)=dd at *
      obtain⟨s1,f1,d1⟩:=dd;dsimp only at *
      subst T;cases m7 with
      | quit _ h=>exact h
     refine⟨x,by rw[qlu _ _ _ _ (by omega),hx,qjo,qn7 b6],?_⟩;rw[if_neg hl,S,k5];exact b6
   ·rw[M];refine e7.recl (λb hb=>?_);by_cases hs:cl b=.sync
    ·left;rw[hs];have g7:b<C.W1.heap.size:=qpB λn6=>h.cln b n6 hs;unfold flat;rw[<- h.cla b g7,hs]
    ·right;right;left;refine⟨hs,?_,λi x hx n9=>e7.known0 (l5 gs.size) (qhz _) hx n9 hs⟩;unfold flat;by_cases g7:b<C.W1.heap.size
     ·rw[<- h.cla b g7];cases hc:cl b<;>first | rfl | exact absurd hc hs
     ·cases hc:C.clA b with
      | sync=>rw[H.cla0 b (by omega)] at hc;cases hc
      | _=>rfl
   ·unfold flat;rw[H.cla0 b (qi1 h.ph.size hb)]
   ·rw[S];exact h.deaf0
   ·exact(h.nor ad).app λop u hm=>by simp at u;rw[u,b0] at hm;cases hm
  ·obtain⟨v,w',R,c,F,o⟩:=f w (.refl w);exact jZ c F (.acq o) (by omega)
def q07(H:C.Ok)(h:Inv C gs w t j D ls Ss rk W tag f0 d0 a st sm cl fu)(sl:Option (Nat × Nat)):Ends C.P C.Post (qlq gs w sl) t:=by
 have F:∀(Z:Me) (gs:Array qhD) (w:qhy) (t:qpb) (j:Nat) (D:Nat->WD) (ls:Nat->X) (Ss:Nat->Bs) (rk:Nat->Rk) (W:U) (tag:CTag) (f0 d0:Nat) (a:qhD) (st sm:Int) (cl:Nat->Cl) (fu:Nat->Nat) (sl:Option (Nat × Nat)),
   Inv C gs w t j D ls Ss rk W tag f0 d0 a st sm cl fu->Z=(C.big j D ls W tag,rk,C.low j D fu f0)->Ends C.P C.Post (qlq gs w sl) t:=by
  intro Z;induction Z using(qfG C.n).induction with
  | _ Z G=>
   intro gs w t j D ls Ss rk W tag f0 d0 a st sm cl fu sl h hμ;subst hμ;have⟨i,g,d,f,u,l,b⟩:=qr8 (P:=C.P) (w:=w) (sl:=sl) (h.awake H) (h.someone H);have M:=h.at H d;have o:=(qhB.1 u).1;rw[h.size] at o;by_cases V:i=0
   ·subst V;rw[h.main] at u;cases u;have⟨k,w',v,y,L⟩:=M.starter H l f λk w' B Q O r s p tag' z Y A st' sm' c o=>G _ o k w' B Q O r s p W tag' z Y A st' sm' cl fu f c rfl;exact Ends.next (b.trans y) L
   ·rcases qk2 i C.lo with I | I
    ·have⟨k,v,q,tag',z,A,y,R,hf,x,c⟩:=M.leave H f (by omega) I u l;refine Ends.next (b.trans y) (G _ ?_ _ _ _ _ _ _ _ _ _ _ _ _ _ _ _ _ _ f c rfl)
     have e:=phi_retag C.n (Vc j D) x;unfold Cfg.big Cfg.low;rw[e];have:=q2u I R;exact q80 rfl (by
      have e2:(qnr C.lo λa=>upd fu i q a)=qnr C.lo (upd fu i q):=rfl;omega)
    ·have S:i - C.lo<j:=by omega
     have T:C.lo+(i - C.lo)=i:=by omega
     rw[<- T] at u b;have⟨k,w',v,y,L⟩:=M.worker H S u l f λk w' B O r s p γ' tag' z A st' sm' N c o=>G _ o k w' B j O r s p γ' tag' z d0 A st' sm' N fu f c rfl;exact Ends.next (b.trans y) L
 exact F _ gs w t j D ls Ss rk W tag f0 d0 a st sm cl fu sl h rfl
end
def E.crowd{U X:Type}{P:qi4}{d:qhC->qhy->Prop}{cl:Nat->Cl}{a:qhD}{w:qhy}(L:∀x,1<=x->∃C:Cfg U X,C.P=P/\C.Post=d/\C.lo=x/\C.W1=w/\C.Ok/\(∀b,b<w.heap.size->C.clA b=cl b\/(cl b=.mine 0/\C.clA b=.ro x))/\C.Spawns C.n a w/\qo9 C.ty C.Wg w 0 0/\∃W ls,C.DataAt W w/\C.J W 0 ls):E P d cl a w:=by
 intro gs I t fu g;have M:=(qhB.1 g.main).1;obtain⟨C,rfl,rfl,k,q,H,F,c,y,W,ls,l,hJ⟩:=L gs.size (by omega);have z:Tr C.clA gs.size w.heap.size t:=g.tr.recl λb p=>by
  rcases F b p with e | ⟨O,N⟩
  ·exact .inl e
  ·exact .inr (.inl ⟨O,N⟩)
 have f:∀tag,isOpen tag->qqf tag=0->(∀h,tag≠.w2 h)->qnk 0 (λ_=>(⟨0,0,0⟩:WD)) tag 0 0:=λtag s v G=>by
  have:=Go.ConcN.Mode.opn (j:=0) (D:=λ_=>(⟨0,0,0⟩:WD)) s (λi u=>by omega) (λh e=>absurd e (G h));simpa[Vc,qnr,v] using this
 have base:∀tag f0,C.CS tag 0 f0 0 a w->isOpen tag->qqf tag=0->(∀h,tag≠.w2 h)->Inv C gs w t 0 (λ_=>⟨0,0,0⟩) ls (λ_ _=>False) (λ_=>.leaf) W tag f0 0 a 0 0 C.clA fu:=λtag f0 B s v G=>
  ⟨by rw[k,Nat.add_zero],g.main,B,λi s v=>g.lv i s (by omega),λi u=>by omega,λi u=>by omega,λi u=>by omega,z,λi u=>by omega,λb p=>H.cla0 b (by rw[q];exact p),λb _=>rfl,λb p=>by rw[H.cla0 b p];simp,
   g.nor,g.d0,by rw[k];exact g.hd,l,hJ,⟨λb _=>by rw[q],by rw[q];exact qhz _,by rw[q],by rw[q]⟩,y,f tag s v G⟩
 cases hn:C.n with
 | zero=>
  rw[hn] at c;obtain⟨m,A⟩:=c;have o:C.CS .kd C.n m 0 a w:=.kd A;rw[hn] at o;exact q07 H (base .kd m o trivial rfl (by simp)) I
 | succ r=>
  rw[hn] at c;obtain⟨m,A⟩:=c;have o:C.CS (.sp r 5) (C.n - (r+1)) m 0 a w:=.skd (by omega) A;rw[hn,Nat.sub_self] at o;exact q07 H (base (.sp r 5) m o trivial rfl (by simp)) I
end
section
open Go.Conc Go.ConcN Go.Sim
def q5x(R:Act->qhy->Prop):Exit->Act->qhy->Prop
 | .normal,a,w=>R a w
 | _,_,_=>False
def KA{R:Act->qhy->Prop}:¬ LetsOut (q5x R):=λ⟨_,_,h⟩=>h
def q7z{Q:qi4}{ops:Array qjx}{R:Act->qhy->Prop}(rest:List Nat)(l:List Nat):∀(a:Act) (w:qhy),qrG Q ops (q5x R) l a w->∀(b:qi5) (k:List qm1) (cs:List qi5),∃n q,R n q/\Steps Q (lone (b.at a (.inRegion ops (l++rest)::k)) cs w) (lone (b.at n (.inRegion ops rest::k)) cs q):=by
 induction l with
 | nil=>exact λa w h b k cs=>⟨a,w,h,.refl _ _⟩
 | cons i l y=>
  intro a w h b k cs;simp only[qrG] at h;cases ho:ops[i]? with
  | none=>
   simp only[ho] at h;have⟨n,q,s,c⟩:=y a w h b k cs;have hs:=step_op_skip (P:=Q) (b:=b) (a:=a) (k:=k) (cs:=cs) (w:=w) (ops:=ops) (i:=i) (rest:=l++rest) (by simp[ho]);simp only[ho,Option.bind_none,Act.put] at hs;exact⟨n,q,s,.head hs c⟩
  | some o=>
   simp only[ho] at h;by_cases C:qiy o (qjG ops a.tmps)=true
   ·simp only[C,if_true] at h;rcases h with h | ⟨_,z⟩
    case inr=>exact absurd z KA
    simp only[Oper.wp,Oper.upon] at h;have A:=stepG_op (P:=Q) (b:=b) (k:=k) (cs:=cs) (w:=w) (rest:=l++rest) ho C;have r:∀v,(b.at a (.inRegion ops (i::(l++rest))::k)).finish v=b.at (a.put o.dst v) (.inRegion ops (l++rest)::k):=by
     intro v;rw[qkm,ho];rfl
    split at h
    ·rename_i v q u
     have⟨n,p,s,c⟩:=y _ _ h b k cs;exact⟨n,p,s,.head (qom (by rw[qi9,A,<- r];simp[qjp,u])) c⟩
    ·rename_i q u
     have⟨n,p,s,c⟩:=y _ _ h b k cs;exact⟨n,p,s,.head (qom (by rw[qi9,A,<- r];simp[qjp,u])) c⟩
    ·rename_i d q u
     have⟨n,p,s,c⟩:=y _ _ h b k cs;refine⟨n,p,s,.head (qom ?_) c⟩;have:({ b.at a (.inRegion ops (i::(l++rest))::k) with defers:=d::a.defers }:qi5).finish qhE =
       b.at ({ a with defers:=d::a.defers }.put o.dst qhE) (.inRegion ops (l++rest)::k):=by
      have:=qkm b { a with defers:=d::a.defers } ops i (l++rest) k qhE;rw[ho] at this;exact this
     rw[qi9,A];simp only[qjp,qiE,u,GStep.bare_after];exact congrArg (λH=>qqj { frame:=H,callers:=cs,status:=.running,dying:=none } q) this
    ·rename_i f t q u
     have⟨e,p,H,B,g,_,x⟩:=h (b.at a (.inRegion ops (i::(l++rest))::k)::cs);have j:step Q (lone (b.at a (.inRegion ops (i::(l++rest))::k)) cs w) =
       .next (lone (qj1 Q f t .normal) (b.at a (.inRegion ops (i::(l++rest))::k)::cs) q) :=
      qom (by rw[A];simp[qjp,u,Frame.at])
     cases e with
     | returned v=>
      have⟨n,w₃,s,c⟩:=y _ _ B b k cs;refine⟨n,w₃,s,.head j (Steps.trans g (.head ?_ c))⟩;rw[<- r];exact qqy x
     | panicked G=>exact B.elim
     | outgrown=>exact absurd B KA
    ·rename_i F t q u
     have⟨v,p,B,g⟩:=h (b.at a (.inRegion ops (i::(l++rest))::k)) cs;have j:step Q (lone (b.at a (.inRegion ops (i::(l++rest))::k)) cs w) =
       .next (lone (Frame.ofRow Q F t .normal) (b.at a (.inRegion ops (i::(l++rest))::k)::cs) q) :=
      qom (by rw[A];simp[qjp,u,Frame.at])
     have⟨n,w₃,s,c⟩:=y _ _ B b k cs;refine⟨n,w₃,s,.head j (Steps.trans ?_ c)⟩;rw[<- r];exact g
    ·exact h.elim
    ·exact h.elim
   ·simp only[C,if_false,qiC] at h;have⟨n,q,s,c⟩:=y _ _ h b k cs;have hs:=step_op_skip (P:=Q) (b:=b) (a:=a) (k:=k) (cs:=cs) (w:=w) (ops:=ops) (i:=i) (rest:=l++rest) (by simp[ho];simpa using C);simp only[ho,qnx] at hs;exact⟨n,q,s,.head hs c⟩
def q95{Q:qi4}{o:qjx}{a:Act}{w:qhy}{K i:Act->qhy->Prop}{R:Exit->Act->qhy->Prop}(c:∀a w,K a w->i a w)(h:o.wp Q a w K R):o.wp Q a w i R:=by
 unfold Oper.wp at h ⊢;unfold Oper.upon at h ⊢;generalize (ql0 a.eval o).run Q w=r at h ⊢;cases r with
 | ok x j=>
  cases x with
  | value v=>exact c _ _ h
  | skip=>exact c _ _ h
  | defer d=>exact c _ _ h
  | enter f g=>exact Calls.mono h λe w q=>by cases e<;>first | exact c _ _ q | exact q
  | row r g=>exact Rows.mono h λv w q=>c _ _ q
  | _=>exact h.elim
 | halt x j=>cases x<;>first | exact h | exact h.elim
def Zf{Q:qi4}{c:Array qjx}{R:Exit->Act->qhy->Prop}:∀(l:List Nat) (d:List qjx) (a:Act) (w:qhy),l.map (λi=>c[i]?)=d.map some->wpList Q c R d a w->qrG Q c R l a w
 | [],[],a,w,_,h=>h
 | [],_::_,_,_,e,_=>by simp at e
 | _::_,[],_,_,e,_=>by simp at e
 | i::l,o::d,a,w,e,h=>by
  simp only[qle,ql3] at e;simp only[qrG,e.1];simp only[wpList] at h;have g:∀a w,wpList Q c R d a w->qrG Q c R l a w:=λa w=>Zf l d a w e.2;split
  ·rename_i j
   rw[if_pos j] at h;exact h.imp (λh=>q95 g h) id
  ·rename_i j
   rw[if_neg j] at h;exact g _ _ h
section
variable[JunkSet]{Q P:qi4}{f:qjf}{Post:qhC->qhy->Prop}{W:qhy}
variable{b:qi5}{a:Act}{k:List qm1}{cs:List qi5}{wq:qhy}
def EL.one(D:Two Q P){g c:qi5}{d:List qi5}{fn:qjf}(j:EL Q P f Post W (G c d) wq)(h:∀w,step Q (lone g cs w)=.next (lone c d w))(e:Bot f d)(i:c.fn=fn)(hs:Q.funcs[fn]?=P.funcs[fn]?):EL Q P f Post W (G g cs) wq :=
 EL.of_runs D λT=>⟨c,d,wq.tp T,.one (h _),e,by rw[i];exact hs,j.tape T⟩
section
variable(D:Two Q P)(hb:Bot f cs)(hs:Q.funcs[b.fn]?=P.funcs[b.fn]?)
include D hb hs
theorem EL.seq{x y:qkk}(h:EL Q P f Post W (G (b.at a (.code x::.code y::k)) cs) wq):EL Q P f Post W (G (b.at a (.code (.seq x y)::k)) cs) wq:=EL.one D h (λ_=>step_seq) hb (fn:=b.fn) rfl hs
theorem EL.sp{x y:qkk}(h:∀T,x.wp Q (qgh Q P f Post W b (.code y::k) cs) a (wq.tp T)):EL Q P f Post W (G (b.at a (.code (.seq x y)::k)) cs) wq:=EL.seq D hb hs (EL.piece D hb hs h)
theorem EL.skip(h:EL Q P f Post W (G (b.at a k) cs) wq):EL Q P f Post W (G (b.at a (.code .skip::k)) cs) wq:=EL.one D h (λ_=>step_skip) hb (fn:=b.fn) rfl hs
theorem EL.cond{c:qj0}{x y:qkk}(t:Bool)(d:a.eval c=.bool t)(h:EL Q P f Post W (G (b.at a (.code (if t then x else y)::k)) cs) wq):EL Q P f Post W (G (b.at a (.code (.cond c x y)::k)) cs) wq:=EL.one D h (λ_=>step_cond d) hb (fn:=b.fn) rfl hs
theorem EL.block{id:Nat}{c:qkk}(h:EL Q P f Post W (G (b.at a (.code c::.inBlock id::k)) cs) wq):EL Q P f Post W (G (b.at a (.code (.block id c)::k)) cs) wq:=EL.one D h (λ_=>step_block) hb (fn:=b.fn) rfl hs
theorem EL.inBlock{id:Nat}(h:EL Q P f Post W (G (b.at a k) cs) wq):EL Q P f Post W (G (b.at a (.inBlock id::k)) cs) wq:=EL.one D h (λ_=>step_inBlock) hb (fn:=b.fn) rfl hs
theorem EL.loop{c:qkk}(h:EL Q P f Post W (G (b.at a (.code c::.inLoop c::k)) cs) wq):EL Q P f Post W (G (b.at a (.code (.loop c)::k)) cs) wq:=EL.one D h (λ_=>step_loop) hb (fn:=b.fn) rfl hs
theorem EL.inLoop{c:qkk}(h:EL Q P f Post W (G (b.at a (.code c::.inLoop c::k)) cs) wq):EL Q P f Post W (G (b.at a (.inLoop c::k)) cs) wq:=EL.one D h (λ_=>step_inLoop) hb (fn:=b.fn) rfl hs
theorem EL.exit{id:Nat}{c:List qm1}(d:qnq id k=some c)(h:EL Q P f Post W (G (b.at a c) cs) wq):EL Q P f Post W (G (b.at a (.code (.exit id)::k)) cs) wq:=EL.one D h (λ_=>step_exit d) hb (fn:=b.fn) rfl hs
theorem EL.retS(h:EL Q P f Post W (G { b.at a (.code .ret::k) with mode:=.returning } cs) wq):EL Q P f Post W (G (b.at a (.code .ret::k)) cs) wq:=EL.one D h (λ_=>step_ret) hb (fn:=b.fn) rfl hs
theorem EL.region{id:Nat}{c:Array qjx}(h:EL Q P f Post W (G (b.at a (.inRegion c (qiz c.size)::k)) cs) wq):EL Q P f Post W (G (b.at a (.code (.region id c false)::k)) cs) wq:=EL.one D h (λ_=>step_region) hb (fn:=b.fn) rfl hs
theorem EL.region_end{c:Array qjx}(h:EL Q P f Post W (G (b.at a k) cs) wq):EL Q P f Post W (G (b.at a (.inRegion c []::k)) cs) wq:=EL.one D h (λ_=>step_region_end) hb (fn:=b.fn) rfl hs
theorem EL.list{c:Array qjx}(l:List Nat)(e:List qjx){rest:List Nat}(n:l.map (λi=>c[i]?)=e.map some)(h:∀T,wpList Q c (q5x λj d=>EL Q P f Post W (G (b.at j (.inRegion c rest::k)) cs) d) e a (wq.tp T)) :EL Q P f Post W (G (b.at a (.inRegion c (l++rest)::k)) cs) wq :=
 EL.of_runs D λT=>by
  have⟨j,d,o,g⟩:=q7z rest l a (wq.tp T) (Zf l e a _ n (h T)) b k cs;exact⟨_,cs,d,g,hb,hs,o⟩
theorem EL.enter{c:Array qjx}{i:Nat}{rest:List Nat}{o:qjx}{fk:qjf}{args:Array qhC}(j:c[i]?=some o)(g:qiy o (qjG c a.tmps)=true)(d:∀T,(ql0 a.eval o).run Q (wq.tp T)=.ok (.enter fk args) (wq.tp T))(e:Q.funcs[fk]?=P.funcs[fk]?)(h:EL Q P f Post W (G (qj1 Q fk args .normal) (b.at a (.inRegion c (i::rest)::k)::cs)) wq):EL Q P f Post W (G (b.at a (.inRegion c (i::rest)::k)) cs) wq :=
 EL.of_runs D λT=>by
  have n:=stepG_op (P:=Q) (b:=b) (k:=k) (cs:=cs) (w:=wq.tp T) (rest:=rest) j g;exact⟨_,_,wq.tp T,.one (qom (by rw[n];simp[qjp,d,Frame.at])),hb.cons,e,h.tape T⟩
end
def EL.back(D:Two Q P){d c:qi5}{v:qhC}(hb:Bot f cs)(hs:Q.funcs[c.fn]?=P.funcs[c.fn]?)(e:∀T,d.leaving Q (wq.tp T) (.returned v))(h:EL Q P f Post W (G (c.finish v) cs) wq):EL Q P f Post W (G d (c::cs)) wq :=
 EL.of_runs D λT=>⟨_,cs,wq.tp T,.one (qqy (e T)),hb,by
  have:(c.finish v).fn=c.fn:=by unfold qpH;split<;>rfl
  rw[this];exact hs,h.tape T⟩
def EC(Q P:qi4)(f:qjf)(Post:qhC->qhy->Prop)(W:qhy)(e:qjf)(d:Array qhC)(wq:qhy)(R:qhC->qhy->Prop):Prop :=
 ∀c cs,Bot f cs->Q.funcs[c.fn]?=P.funcs[c.fn]?->(∀v u,R v u->EL Q P f Post W (G (c.finish v) cs) u)->EL Q P f Post W (G (qj1 Q e d .normal) (c::cs)) wq
def EC.of_body(D:Two Q P){j:qjf}{i:Func}{o:qkk}{d:Array qhC}{R:qhC->qhy->Prop}(p:Q.funcs[j]?=some i)(t:P.funcs[j]?=some i)(n:i.body=some o)(h:∀cs,Bot f cs->(∀a g u v,a.defers=[]->(∀T,(qkh i a.tmps).run Q (u.tp T)=.ok v (u.tp T))->R v u->EL Q P f Post W (G { (base j).at a g with mode:=.returning } cs) u) ->EL Q P f Post W (G ((base j).at ⟨d++qj4 (i.ntmps - d.size) qhE,[]⟩ [.code o]) cs) wq):EC Q P f Post W j d wq R:=by
 intro c cs hb hs q;have e:qj1 Q j d .normal=(base j).at ⟨d++qj4 (i.ntmps - d.size) qhE,[]⟩ [.code o]:=by
  simp[qj1,p,n,Frame.at,base]
 rw[e];refine h (c::cs) hb.cons λa g u v r l s=>EL.back D hb hs (λT=>⟨rfl,r,rfl,i,p,l T⟩) (q v u s)
end
end
section
open Go.Conc Go.ConcN Go.Sim
section
variable[J:JunkSet]{Q P:qi4}{f:qjf}{Post:qhC->qhy->Prop}{W:qhy}
structure AtK(Q P:qi4)[JunkSet](W:qhy)(Z:Ren)(tq tp:Array qhC)(c c':qi5)(pre pre':List qi5)(wq w:qhy)(cl:Nat->Cl):Prop where
 wr:WR Q W.heap.size Z wq w
 ln:W.heap.size<=Z.length
 gl:Gl P Z
 tm:AsR Z tq tp
 top:qx Q P Z c c'
 rest:LsR (qx Q P Z) pre pre'
 own:vf cl Z
 c0:∀b,w.heap.size<=b->cl b=.mine 0
 kp:kA W.heap.size W.heap.size W Z w
 om:∀b,b<W.heap.size->cl b=.mine 0
def EL.enterK(D:Two Q P){b:qi5}{a:Act}{k:List qm1}{cs:List qi5}{s:qhy}(hb:Bot f cs)(hs:Q.funcs[b.fn]?=P.funcs[b.fn]?){j:Array qjx}{i:Nat}{rest:List Nat}{o:qjx}{q:qjf}{fq z:Func}{c0:qkk}{l:Array qhC}(ho:j[i]?=some o)(hw:qiy o (qjG j a.tmps)=true)(L:∀T,(ql0 a.eval o).run Q (s.tp T)=.ok (.enter q l) (s.tp T))(N:Q.funcs[q]?≠P.funcs[q]?)(b8:Q.funcs[q]?=some fq)(b9:P.funcs[q]?=some z)(hn:fq.ntmps=z.ntmps)(c8:z.body=some c0)(hK:∀Z tp c' pre p w I,cs=pre++[qk f]->AtK Q P W Z (l++qj4 (z.ntmps - l.size) qhE) tp (b.at a (.inRegion j (i::rest)::k)) c' pre p s w I->E P Post I (G ((base q).at ⟨tp,[]⟩ [.code c0]) (c'::p)) w) :EL Q P f Post W (G (b.at a (.inRegion j (i::rest)::k)) cs) s:=by
 intro Z g' w I h b6 hc hk hm
 let g1:qhD:=G (qj1 Q q l .normal) (b.at a (.inRegion j (i::rest)::k)::cs)
 let F:qhD->qhy->Prop:=λg _=>g.frame.fn=q/\g.callers≠[]
 have A:∀T,∃C,qjc Q true (G (b.at a (.inRegion j (i::rest)::k)) cs) (s.tp T) true=.go g1 (s.tp T) C:=λT=>by
  have U:=stepG_op (P:=Q) (b:=b) (k:=k) (cs:=cs) (w:=s.tp T) (rest:=rest) ho hw;refine⟨?_,?_⟩;rotate_left
  ·refine Eq.trans (b:=qjp Q true (b.at a (.inRegion j (i::rest)::k)) cs none (ql0 a.eval o) (s.tp T)) U ?_;simp only[qjp,qiE,L];rfl
 have R:¬ F (G (b.at a (.inRegion j (i::rest)::k)) cs) s:=λ⟨h1,_⟩=>N (by have e:b.fn=q:=h1;rw[<- e];exact hs);have ht:LT Q F (G (b.at a (.inRegion j (i::rest)::k)) cs) s:=.step R (λT=>by
   have⟨C,e⟩:=A T;exact⟨g1,_,C,e,rfl,rfl⟩) λT g2 u2 l5 e2=>by
   have⟨C,e⟩:=A T;rw[e] at e2;cases e2;exact .done ⟨rfl,by show(_::_:List qi5)≠[];simp⟩
 have v:Sub Q P W.heap.size F f [] Z (G (b.at a (.inRegion j (i::rest)::k)) cs) s g' w:=⟨h.ln,h.wr,h.gl,ht,h.stack,h.rel⟩;refine E.step (vk v) λd=>?_;have⟨O,g2,g6,k8,Y,C,h1,h2,h3,h4,_,n⟩:=(q2v v d).stepK D.H D.hrf Qg R true (λg u U=>U.2);obtain⟨_,T,l6,X⟩:=h2;have⟨l7,e0⟩:=A T;dsimp only at X;rw[e0] at X;cases X;have M:vf I O:=b6.step (w:=w.at d) h3 hc;have c3:∀b,Y.heap.size<=b->I b=.mine 0:=λb hb=>hc b (qi1 h3.size hb);have b7:kA W.heap.size W.heap.size W O Y:=kA.step (w:=w.at d) (hk.at d) h3;rcases n with n | ⟨V,kd,a1,r,c,c',pre,p,n,S,rfl⟩
 ·exfalso;have⟨gv,U,_⟩:=n.rel;have⟨gf,k1,k2⟩:=U.frame.same;exact N (by
   have e:g1.frame.fn=q:=rfl;rw[e] at k1 k2;rw[k1,k2])
 ·refine⟨_,Y,C,h1,h3.size,λe he=>vz M n.wr (h4 e he),?_⟩;have B:qj1 Q q l .normal=qj1 Q V a1 kd:=congrArg (·.frame) S;have t:b.at a (.inRegion j (i::rest)::k)::cs=c::(pre++[qk f]):=congrArg (·.callers) S;have X:q=V:=congrArg (·.fn) B;subst X;have e2:CallKind.normal=kd:=congrArg (·.kind) B;subst e2;have e3:l++qj4 (z.ntmps - l.size) qhE=a1++qj4 (z.ntmps - a1.size) qhE:=by
   have:=congrArg (·.tmps) B;simp only[qj1,b8,qjo,qi0,hn] at this;exact this
  simp only[ql3] at t;obtain⟨rfl,t⟩:=t;have e4:qj1 P q r .normal=(base q).at ⟨r++qj4 (z.ntmps - r.size) qhE,[]⟩ [.code c0]:=enter_at _ b9 c8;have e5:r.size=a1.size:=n.args.1.symm;have:=hK O (r++qj4 (z.ntmps - r.size) qhE) c' pre p Y I t ⟨⟨n.wr.len,n.wr.nodup,n.wr.lt,n.wr.obj,n.wr.low,n.wr.env,n.wr.below,n.wr.gar⟩,n.len,n.gl,?_,n.top,n.rest,M,c3,b7,hm⟩
  ·rw[e4,qo3];exact this
  ·rw[e3,e5];refine AsR.append n.args ⟨rfl,λi x y hx hy=>?_⟩;rw[hx] at hy;cases hy;have:x=qhE:=by
    have:=qhB.1 hx;obtain⟨hl,he⟩:=this;simp at he;exact he.symm
   rw[this];exact kO _
def EL.resume{O Z:Ren}{c i:qi5}{pre a:List qi5}{o w:qhy}{e:Nat->Cl}{v h:qhC}(q:EL Q P f Post W (G (c.finish v) (pre++[qk f])) o)(l:Q.inits.idxOf? f=none)(n:∃g,Q.funcs[f]?=some g/\P.funcs[f]?=some g)(d:Le Z O)(x:qx Q P Z c i)(p:LsR (qx Q P Z) pre a)(u:VR O v h)(t:WR Q W.heap.size O o w)(j:W.heap.size<=O.length)(B:Gl P Z)(y:vf e O)(A:∀b,w.heap.size<=b->e b=.mine 0)(z:kA W.heap.size W.heap.size W O w)(hm:∀b,b<W.heap.size->e b=.mine 0):E P Post e (G (i.finish h) a) w:=by
 refine q O (G (i.finish h) a) w e ⟨t,j,B.mono d,⟨pre,rfl⟩,G (i.finish h) (a++[qk f]),⟨(x.mono d).finish u,?_,rfl,rfl,rfl,rfl⟩,?_⟩ y A z hm
 ·have D:LsR (qx Q P O) pre a:=p.imp λ_ _ k=>k.mono d;have C:qx Q P O (qk f) (qk f):=q3o l n;show LsR (qx Q P O) (pre++[qk f]) (a++[qk f]);clear q p;induction D with
  | nil=>exact .cons C .nil
  | cons s _ r=>exact .cons s r
 ·simp[swap,G]
end
end
section
open Go.Conc Go.ConcN Go.Sim
def Closed(ops:Array qjx)(listed:Array Bool):Prop:=∀(i:Nat) (o:qjx),ops[i]?=some o->listed[i]?.getD false=true->∀e∈o.after,qj8 .any e=true->listed[e.on]?.getD false=true
def jZ(o:qjx):qjx:={ dst:=none,op:=.move (.const (.bool true)),type:=o.type,pos:=o.pos,after:=o.after,guard:=none }
def chainB(ops:Array qjx)(n:Nat):Bool :=
 (qiz ops.size).all (λj=>match ops[j]? with
  | some o=>o.after.all (λe=>!qj8 .any e || decide (e.on<j)) && (decide (j<=n) || o.after.any (λe=>qj8 .any e && e.on+1 == j)) && (decide (n<=j) || (match o.guard with | some (g,_)=>decide (g<j) | none=>true))
  | none=>false) &&
 (qiz n).all (λi=>(qiz (n+1)).any λj=>decide (i<j) && match ops[j]? with | some o=>o.after.any (λe=>qj8 .any e && e.on == i) | none=>false)
section
variable{ops:Array qjx}{n:Nat}(hB:chainB ops n=true)
include hB
theorem q09{j:Nat}{o:qjx}(l:ops[j]?=some o):(∀e∈o.after,qj8 .any e=true->e.on<j)/\(n<j->∃e∈o.after,qj8 .any e=true/\e.on+1=j)/\(j<n->∀g b,o.guard=some (g,b)->g<j):=by
 unfold chainB at hB;simp only[qio,qje,qkg] at hB;have:=hB.1 j (qhB.1 l).1;rw[l] at this;simp only[qjD,qky,qkD,decide_eq_true_eq,qio] at this;obtain⟨⟨s,r⟩,q⟩:=this;refine⟨λe i d=>?_,λh=>?_,λh g b p=>?_⟩
 ·rcases s e i with h | h
  ·rw[d] at h;cases h
  ·exact h
 ·rcases r with c | c
  ·omega
  ·have⟨e,i,d⟩:=qrb.1 c;simp only[qio,beq_iff_eq] at d;exact⟨e,i,d⟩
 ·rcases q with c | c
  ·omega
  ·rw[p] at c;simpa using c
theorem q3r(y:n<ops.size){listed:Array Bool}(x:Closed ops listed)(v:∀o,ops[n]?=some o->∀e∈o.after,qj8 .any e=true->listed[e.on]?.getD false=true):∀i,i<n->listed[i]?.getD false=true:=by
 have c:=hB;unfold chainB at c;simp only[qio,qje (l:=qiz n),qkg] at c;have r:∀d i,i<n->n - i<=d->listed[i]?.getD false=true:=by
  intro d;induction d with
  | zero=>intro i q h;omega
  | succ d u=>
   intro i q h;have:=c.2 i q;simp only[List.any_eq_true,qkg,qio,decide_eq_true_eq] at this;obtain⟨j,z,w,g⟩:=this;cases ho:ops[j]? with
   | none=>rw[ho] at g;cases g
   | some o=>
    rw[ho] at g;simp only at g;have⟨e,t,p⟩:=qrb.1 g;simp only[qio,beq_iff_eq] at p;by_cases s:j=n
    ·subst s;rw[<- p.2];exact v o ho e t p.1
    ·have:=x j o ho (u j (by omega) (by omega)) e t p.1;rw[p.2] at this;exact this
 exact λi q=>r (n - i) i q (qhz _)
theorem vm{m:Nat}(hm:m<ops.size){listed:Array Bool}(j:listed.size=ops.size)(c:listed[m]?.getD false=false):qil .any ops listed≠[]:=by
 intro l;have d:∀i,i<ops.size->listed[i]?.getD false=true:=by
  intro i;induction i using qp9 with
  | _ i h=>
   intro g;refine zY l j (qip g) ?_;simp only[qjD,qky,qkD];intro e o;cases hb:qj8 .any e with
   | false=>exact .inl rfl
   | true=>
    right;have:=(q09 hB (qip g)).1 e o hb;rw[qjn];exact h e.on this (by omega)
 rw[d m hm] at c;cases c
theorem Yg{listed:Array Bool}{i:Nat}(g:i∈qil .any ops listed)(c:n<i):listed[i - 1]?.getD false=true:=by
 obtain⟨p,-⟩:=zy g;have d:=qip p;have⟨e,l,o,j⟩:=(q09 hB d).2.1 c;have:=zx g d;simp only[qjD,qky,qkD] at this;rcases this e l with h | h
 ·rw[o] at h;cases h
 ·rw[<- qjn,show i - 1=e.on by omega];exact h
omit hB in
theorem q85{fuel t:Nat}{listed:Array Bool}(c:qil .any ops listed≠[]):∃i g,i∈qil .any ops listed/\qj6 .any ops (fuel+1) t listed []=i::qj6 .any ops fuel g (listed.setIfInBounds i true) []:=by
 simp only[qj6];change ∃i g,_/\(match (qil .any ops listed)[t % (qil .any ops listed).length]? with
  | some i=>qj6 .any ops fuel (t / (qil .any ops listed).length) (listed.setIfInBounds i true) [i]
  | none=>[].reverse)=_
 cases hi:(qil .any ops listed)[t % (qil .any ops listed).length]? with
 | none=>
  exfalso;cases hr:qil .any ops listed with
  | nil=>exact c hr
  | cons x e=>
   rw[hr] at hi;have d:t % (x::e).length<(x::e).length:=Nat.mod_lt _ (by simp);simp at hi;simp at d;omega
 | some i=>exact⟨i,_,qih hi,by simp only[];rw[linearise_go_acc,qq1];rfl⟩
theorem qc1:∀(fuel t m:Nat) (listed:Array Bool),n<=m->m<=ops.size->listed.size=ops.size->(∀k,k<m->listed[k]?.getD false=true)->(∀k,m<=k->listed[k]?.getD false=false)->unl listed ops.size<=fuel ->qj6 .any ops fuel t listed []=qp2 m (ops.size - m):=by
 intro fuel;induction fuel with
 | zero=>
  intro t m listed p q e o j B;by_cases h:m<ops.size
  ·exfalso;cases g:qil .any ops listed with
   | nil=>exact vm hB h e (j m (qhz _)) g
   | cons i l=>
    have⟨d,c⟩:=zy (md:=.any) (ops:=ops) (listed:=listed) (i:=i) (by rw[g];simp);have:=vj (n:=ops.size) d e c;omega
  ·rw[show ops.size - m=0 by omega];rfl
 | succ fuel y=>
  intro t m listed p q e o j B;by_cases h:m<ops.size
  ·have⟨i,w,s,C⟩:=q85 (fuel:=fuel) (t:=t) (vm hB h e (j m (qhz _)));have r:i=m:=by
    have d:=J8 s;have c:¬ i<m:=λh=>by rw[o i h] at d;cases d
    refine qiG λD=>?_;have v:=Yg hB s (by omega);rw[j (i - 1) (by omega)] at v;cases v
   subst r;have⟨d,c⟩:=zy s;have D:=vj (n:=ops.size) d e c;rw[C,y w (i+1) (listed.setIfInBounds i true) (by omega) (by omega) (by simpa using e) (λk A=>by
    rw[Z1 _ _ _ (by omega)];split
    ·rfl
    ·exact o k (by omega)) (λk A=>by rw[Z1 _ _ _ (by omega),if_neg (by omega)];exact j k (by omega)) (by omega),show ops.size - i=(ops.size - (i+1))+1 by omega,List.range'_succ]
  ·have g:qil .any ops listed=[]:=by
    cases g:qil .any ops listed with
    | nil=>rfl
    | cons x F=>
     exfalso;have u:x∈qil .any ops listed:=by rw[g];simp
     have d:=(zy u).1;have c:=J8 u;rw[o x (by omega)] at c;cases c
   rw[show ops.size - m=0 by omega];simp only[qj6];change (match (qil .any ops listed)[t % (qil .any ops listed).length]? with
    | some z=>qj6 .any ops fuel _ _ [z]
    | none=>[].reverse)=[]
   rw[g];rfl
theorem q9f(u:n<ops.size):∀(fuel t:Nat) (listed:Array Bool),listed.size=ops.size->Closed ops listed->(∀k,n<=k->listed[k]?.getD false=false)->unl listed ops.size<=fuel ->∃L,qj6 .any ops fuel t listed []=L++qp2 n (ops.size - n)/\∀i∈L,i<n:=by
 intro fuel;induction fuel with
 | zero=>
  intro t listed d A g F;exfalso;cases hr:qil .any ops listed with
  | nil=>exact vm hB u d (g n (qhz _)) hr
  | cons i l=>
   have⟨C,B⟩:=zy (md:=.any) (ops:=ops) (listed:=listed) (i:=i) (by rw[hr];simp);have:=vj (n:=ops.size) C d B;omega
 | succ fuel H=>
  intro t listed d A g F;rcases qnB (∀k,k<n->listed[k]?.getD false=true) with c | c
  ·exact⟨[],qc1 hB (fuel+1) t n listed (qhz _) (by omega) d c g F,by simp⟩
  ·have⟨i,G,z,p⟩:=q85 (fuel:=fuel) (t:=t) (vm hB u d (g n (qhz _)));have⟨C,B⟩:=zy z;have M:=vj (n:=ops.size) C d B;have D:∀o,ops[i]?=some o->∀e∈o.after,qj8 .any e=true->listed[e.on]?.getD false=true:=λo r e p s=>by
    have:=zx z r;simp only[qjD,qky,qkD] at this;rcases this e p with h | h
    ·rw[s] at h;cases h
    ·rw[<- qjn];exact h
   have y:i<n:=by
    refine qiG λh=>?_;by_cases e:i=n
    ·subst e;exact c (q3r hB u A D)
    ·have:=Yg hB z (by omega);rw[g (i - 1) (by omega)] at this;cases this
   have⟨L,I,v⟩:=H G (listed.setIfInBounds i true) (by simpa using d) (λj o r x e p s=>by
     rw[Z1 _ _ _ (by omega)] at x ⊢;split at x
     ·rename_i w
      subst w;split
      ·rfl
      ·exact D o r e p s
     ·have:=A j o r x e p s;split
      ·rfl
      ·exact this) (λk q=>by rw[Z1 _ _ _ (by omega),if_neg (by omega)];exact g k q) (by omega)
   exact⟨i::L,by rw[p,I];rfl,λk q=>by
    rcases qjB.1 q with rfl | q
    ·exact y
    ·exact v k q⟩
end
def zQ(ops:Array qjx)(n:Nat):Array qjx:=(ops.toList.take n++(ops.toList.drop n).map jZ).toArray
def ZE(ops:Array qjx)(n i:Nat):(zQ ops n)[i]?=(ops[i]?).map λo=>if i<n then o else jZ o:=by
 unfold zQ;rw[qou,<- qot];by_cases h:i<n
 ·by_cases c:i<ops.toList.length
  ·rw[qiD (by simp at c ⊢;omega),qjC h];cases ops.toList[i]?<;>simp[h]
  ·rw[qjd (by simp at c ⊢;omega),qjd (by omega)];rfl
 ·by_cases c:n<=ops.toList.length
  ·rw[qkb (by simp at c ⊢;omega),qjA,qmn,show n+(i - (ops.toList.take n).length)=i by simp at c ⊢;omega];cases ops.toList[i]?<;>simp[h]
  ·rw[qjd (by simp at c ⊢;omega),qjd (by omega)];rfl
def Yq(ops:Array qjx)(n:Nat):(zQ ops n).size=ops.size:=by
 simp[zQ];omega
def q6F(ops:Array qjx)(n:Nat)(e:qlA):∀(c t:Nat) (listed:Array Bool) (d:List Nat),qj6 e (zQ ops n) c t listed d=qj6 e ops c t listed d:=by
 intro c;have h:∀listed,qil e (zQ ops n) listed=qil e ops listed:=λlisted=>by
  unfold qil;rw[Yq]
  congr 1
  funext i
  rw[ZE];cases ops[i]? with
  | none=>rfl
  | some o=>simp only[qjo];split<;>rfl
 induction c with
 | zero=>intro t listed d;rfl
 | succ c g=>
  intro t listed d;simp only[qj6];change (match (qil e (zQ ops n) listed)[t % (qil e (zQ ops n) listed).length]? with
   | some i=>qj6 e (zQ ops n) c (t / (qil e (zQ ops n) listed).length) (listed.setIfInBounds i true) (i::d)
   | none=>d.reverse)=(match (qil e ops listed)[t % (qil e ops listed).length]? with
   | some i=>qj6 e ops c (t / (qil e ops listed).length) (listed.setIfInBounds i true) (i::d)
   | none=>d.reverse)
  rw[h];cases(qil e ops listed)[t % (qil e ops listed).length]? with
  | none=>rfl
  | some i=>exact g _ _ _
def q4r{Q:qi4}{ops:Array qjx}{n:Nat}{K:Act->qhy->Prop}(hB:chainB ops n=true)(R:List Nat)(s:∀i∈R,n<=i/\i<ops.size):∀(L:List Nat) (a:Act) (w:qhy),(∀i∈L,i<n)->qrG Q (zQ ops n) (q5x K) (L++R) a w->qrG Q ops (q5x K) L a w:=by
 have d:∀(R:List Nat),(∀i∈R,n<=i/\i<ops.size)->∀(a:Act) (w:qhy),qrG Q (zQ ops n) (q5x K) R a w->qrG Q ops (q5x K) [] a w:=by
  intro R;induction R with
  | nil=>exact λ_ _ _ h=>h
  | cons i R t=>
   intro s a w h;rw[wpOps_cons] at h;have⟨B,z⟩:=s i (by simp);unfold wpOp at h;rw[ZE,qip z] at h;simp only[qjo,if_neg (show ¬ i<n by omega)] at h;have u:qiy (jZ ops[i]) (qjG (zQ ops n) a.tmps)=true:=by simp[qiy,jZ]
   rw[if_pos u] at h;rcases h with h | ⟨_,l⟩
   ·unfold Oper.wp at h;have:(ql0 a.eval (jZ ops[i])).run Q w=.ok (.value (.bool true)) w:=rfl;rw[this] at h;simp only[Oper.upon,jZ] at h;exact t (λj r=>s j (by simp[r])) _ _ h
   ·exact absurd l KA
 intro L;induction L with
 | nil=>exact λa w _ h=>d R s a w h
 | cons i L t=>
  intro a w q h;rw[qi9,wpOps_cons] at h;rw[wpOps_cons];have v:=q i (by simp);have e:∀j,j<n->(zQ ops n)[j]?=ops[j]?:=λj r=>by rw[ZE];cases ops[j]?<;>simp[r]
  have c:=wpOp_mono (λA x y=>t A x (λj r=>q j (by simp[r])) y) h;unfold wpOp at c ⊢;rw[e i v] at c;cases ho:ops[i]? with
  | none=>rw[ho] at c;exact c
  | some o=>
   rw[ho] at c;dsimp only at c ⊢;have u:qiy o (qjG (zQ ops n) a.tmps)=qiy o (qjG ops a.tmps):=by
    unfold qiy;cases hg:o.guard with
    | none=>rfl
    | some p=>
     obtain⟨g,b⟩:=p;have:=(q09 hB ho).2.2 v g b hg;simp only[qjG,e g (by omega)]
   rw[u] at c;exact c
section
variable[JunkSet]{Q P:qi4}{f:qjf}{Post:qhC->qhy->Prop}{W:qhy}
variable{b:qi5}{a:Act}{k:List qm1}{cs:List qi5}{wq:qhy}
def EL.region_chain(D:Two Q P)(x:Bot f cs)(w:Q.funcs[b.fn]?=P.funcs[b.fn]?){id:Nat}{ops:Array qjx}(n:Nat)(c:List Nat)(hm:Q.follows .mixedOrders=true)(hB:chainB ops n=true)(r:decide (n<ops.size)=true)(d:decide (c=qp2 n (ops.size - n))=true)(h:∀T,wpAny Q .any (zQ ops n) (q5x λt l=>EL Q P f Post W (G (b.at t (.inRegion ops c::k)) cs) l) (zQ ops n).size (qj4 (zQ ops n).size false) a { wq.tp T with drawn:=wq.drawn+1 }) :EL Q P f Post W (G (b.at a (.code (.region id ops true)::k)) cs) wq:=by
 refine EL.of_runs D λT=>?_;have r:=of_decide_eq_true r;have d:=of_decide_eq_true d;have p:=Yq ops n;have g:∀k:Nat,(qj4 ops.size false)[k]?.getD false=false:=λk=>by
  simp only[Array.getElem?_replicate];split<;>rfl
 have⟨L,u,s⟩:=q9f hB r ops.size ((wq.tp T).tape (wq.tp T).drawn (.order b.fn id)) (qj4 ops.size false) (by simp) (λi o _ j=>by rw[g] at j;cases j) (λk _=>g k) (by
   unfold unl;refine qi1 (qko _ _) (by simp))
 have v:=wpAny_sound _ ((wq.tp T).tape (wq.tp T).drawn (.order b.fn id)) _ _ _ (h T);rw[q6F,p,u,<- d] at v;have z:=q4r hB c (λi j=>by
  rw[d] at j;have:=List.mem_range'.1 j;omega) L _ _ s v
 have⟨t,l,y,q⟩:=q7z c L a _ z b k cs;refine⟨b.at t (.inRegion ops c::k),cs,l,.head (step_region_draw) ?_,x,w,y⟩;have e:qo2 (Q.follows .mixedOrders) ops ((wq.tp T).tape (wq.tp T).drawn (.order b.fn id))=L++c:=by
  simp only[qo2,hm,Bool.true_or,if_true];show qj6 .any ops ops.size _ _ []=_;rw[u,d]
 rw[e];exact q
end
end
section
open Go.Conc Go.ConcN Go.Sim
section
variable[JunkSet]
def KH(Z:Ren)(y:qhC):∃x,VR Z x y/\∀k n,y=.int k n->x=y:=by
 cases y with
 | bool b=>exact⟨_,.bool b,λk n e=>by cases e⟩
 | int k n=>exact⟨_,.int k n,λ_ _ _=>rfl⟩
 | string s=>exact⟨_,.string s,λk n e=>by cases e⟩
 | tuple a=>
  have h:∀i:Fin a.size,∃x,VR Z x a[i]:=λi=>let ⟨x,h,_⟩:=KH Z a[i];⟨x,h⟩;refine⟨.tuple (qrc λi=>ql5 (h i)),.tuple (by simp) λi x y g d=>?_,λk n e=>by cases e⟩;have⟨p,o⟩:=qhB.1 g;have⟨j,l⟩:=qhB.1 d;rw[<- o,<- l,qmo];exact qlo (h ⟨i,j⟩)
 | agg a=>
  have h:∀i:Fin a.size,∃x,VR Z x a[i]:=λi=>let ⟨x,h,_⟩:=KH Z a[i];⟨x,h⟩;refine⟨.agg (qrc λi=>ql5 (h i)),.agg (by simp) λi x y g d=>?_,λk n e=>by cases e⟩;have⟨p,o⟩:=qhB.1 g;have⟨j,l⟩:=qhB.1 d;rw[<- o,<- l,qmo];exact qlo (h ⟨i,j⟩)
 | pointer a=>
  cases a with
  | none=>exact⟨_,.ptrNil,λk n e=>by cases e⟩
  | some a=>exact⟨_,.wild _ rfl,λk n e=>by cases e⟩
 | slice a n c=>
  cases a with
  | none=>exact⟨_,.sliceNil n c,λk n e=>by cases e⟩
  | some a=>exact⟨_,.wild _ rfl,λk n e=>by cases e⟩
 | map r=>
  cases r with
  | none=>exact⟨_,.mapNil,λk n e=>by cases e⟩
  | some a=>exact⟨_,.wild _ rfl,λk n e=>by cases e⟩
 | func f a c=>
  cases f with
  | method n=>exact⟨_,.meth n a c,λk n e=>by cases e⟩
  | _=>exact⟨_,.wild _ rfl,λk n e=>by cases e⟩
 | nilFunc=>exact⟨_,.nilFunc,λk n e=>by cases e⟩
 | nilIface=>exact⟨_,.nilIface,λk n e=>by cases e⟩
 | _=>exact⟨_,.wild _ rfl,λk n e=>by cases e⟩
termination_by SizeOf.sizeOf y
decreasing_by
 all_goals
  subst_vars
  have:=Array.sizeOf_get a i.1 i.2;simp only[Value.agg.sizeOf_spec,Value.tuple.sizeOf_spec];have e:a[i]=a[i.1]:=rfl;rw[e];omega
noncomputable def xZ(Z:Ren)(a:Array qhC):Array qhC:=qrc λi:Fin a.size=>ql5 (KH Z a[i])
def q9c(Z:Ren)(a:Array qhC):AsR Z (xZ Z a) a:=by
 refine⟨by simp[xZ],λi x y c b=>?_⟩;have⟨h,e⟩:=qhB.1 c;have⟨g,d⟩:=qhB.1 b;rw[<- e,<- d];simp only[xZ,qmo];exact(qlo (KH Z a[i])).1
def q22(Z:Ren)(a:Array qhC){i:Nat}{k:IntKind}{n:Int}(h:a[i]?=some (.int k n)):(xZ Z a)[i]?=some (.int k n):=by
 have⟨c,b⟩:=qhB.1 h;have d:i<(xZ Z a).size:=by simp[xZ,c]
 rw[qip d];simp only[xZ,qmo];have:=(qlo (KH Z a[i])).2 k n b;exact congrArg some (this.trans b)
def YE(a:Nat->Bool)(n:Nat):Ren:=(qiz n).map λi=>if a i then some i else none
def xT{b:Nat->Bool}{n i j:Nat}:BR (YE b n) i j↔i<n/\b i=true/\j=i:=by
 unfold BR YE;rw[qjA];by_cases h:i<n
 ·rw[qll h,qjo];by_cases a:b i=true
  ·rw[if_pos a];exact⟨λe=>⟨h,a,by cases e;rfl⟩,λ⟨_,_,e⟩=>by rw[e]⟩
  ·rw[if_neg a];exact⟨λe=>(by cases e),λ⟨_,c,_⟩=>absurd c a⟩
 ·rw[qjd (by rw[List.length_range];omega)];exact⟨λe=>(by cases e),λ⟨d,_,_⟩=>absurd d h⟩
noncomputable def qgH(Z:Ren):Obj->Obj
 | .cells a e f=>.cells (xZ Z a) e (0,a.size+f.2)
 | _=>.cells #[] 0 (0,0)
noncomputable def Qy(a:Nat->Bool)(W:qhy):qhy :=
 { W with heap:=qrc λi:Fin W.heap.size=>if a i then qgH (YE a W.heap.size) W.heap[i] else .cells #[] 0 (0,0) }
def jo(a:Nat->Bool)(W:qhy):(Qy a W).heap.size=W.heap.size:=by simp[Qy]
def xe{kn:Nat->Bool}{W:qhy}{i:Nat}{a:Array qhC}{e:qid}{f:Nat × Nat}(b:kn i=true)(h:W.heap[i]?=some (.cells a e f)) :(Qy kn W).heap[i]?=some (.cells (xZ (YE kn W.heap.size) a) e (0,a.size+f.2)):=by
 have⟨d,g⟩:=qhB.1 h;have c:i<(Qy kn W).heap.size:=by rw[jo];exact d
 rw[qip c];simp only[Qy,qmo,b,if_true,Fin.getElem_fin];rw[g];rfl
def q24{a:Nat->Bool}{W:qhy}{i:Nat}{o:Obj}(b:¬ a i=true)(h:(Qy a W).heap[i]?=some o):o=.cells #[] 0 (0,0):=by
 have⟨d,c⟩:=qhB.1 h;rw[<- c];simp only[Qy,qmo];rw[if_neg b]
def qbG(Q:qi4)(l:∀i,¬ JunkSet.jk i){c:Nat->Bool}{W:qhy}(d:∀i,c i=true->i<W.heap.size->∃k e f,W.heap[i]?=some (.cells k e f)) :WR Q W.heap.size (YE c W.heap.size) (Qy c W) W where
 len:=by rw[jo];simp[YE]
 nodup i i' j h h':=by
  have⟨_,_,e⟩:=xT.1 h;have⟨_,_,q⟩:=xT.1 h';omega
 lt i j h:=by
  have⟨n,_,e⟩:=xT.1 h;omega
 obj i j o h a:=by
  obtain⟨n,b,rfl⟩:=xT.1 h;have⟨k,e,f,g⟩:=d j b n;rw[xe b g] at a;cases a;refine .inr ⟨l j,_,g,.cells e (q9c _ _) λo n p=>?_⟩;simp only;omega
 low i hi:=by
  by_cases b:c i=true
  ·have⟨k,e,f,g⟩:=d i b hi;refine⟨_,_,_,xe b g,λo a=>?_⟩;have:(xZ (YE c W.heap.size) k).size=k.size:=by simp[xZ]
   simp only;omega
  ·have p:i<(Qy c W).heap.size:=by rw[jo];exact hi
   have:=q24 b (qip p);refine⟨#[],0,(0,0),by rw[qip p,this],λo a=>?_⟩;simp at a
 env:=rfl
 below i h:=absurd h (l i)
 gar i o a:=by
  right;by_cases b:c i=true
  ·have n:i<W.heap.size:=by rw[<- jo c W];exact(qhB.1 a).1
   have⟨k,e,f,g⟩:=d i b n;rw[xe b g] at a;cases a;rfl
  ·rw[q24 b a];rfl
end
section
variable[J:JunkSet]{Q P:qi4}{f:qjf}{Post:qhC->qhy->Prop}
def EL.begin(D:Two Q P)(a:JunkSet.okf f)(n:Q.funcs[f]?=P.funcs[f]?)(c:∀i,¬ JunkSet.jk i){kn:Nat->Bool}{W:qhy}(r:P.globals.size<W.heap.size)(g:∀i,i<=P.globals.size->kn i=true)(b:∀i,kn i=true->i<W.heap.size->∃q e f,W.heap[i]?=some (.cells q e f)){aq k:Array qhC}(p:AsR (YE kn W.heap.size) aq k)(h:EL Q P f Post W (G (qj1 Q f aq .normal) [qk f]) (Qy kn W)):Ends P Post (solo (G (qj1 P f k .normal) []) W) #[]:=by
 refine E.solo (cl:=λ_=>.mine 0) ?_ λ_=>rfl;have o:W.heap.size<=(YE kn W.heap.size).length:=by simp[YE]
 refine h (YE kn W.heap.size) _ W (λ_=>.mine 0) ⟨qbG Q c b,o,λi l=>xT.2 ⟨by omega,g i l,rfl⟩,⟨[],rfl⟩,yw P f k [qk f],q02 D.H a n p,rfl⟩ (λi j _=>rfl) (λ_ _=>rfl)
  ⟨λ_ _ _=>rfl,rfl,rfl,qhz _,λi j d l=>?_,qhz _⟩ λ_ _=>rfl
 have⟨s,_,_⟩:=xT.1 d;omega
def q63{a:qi5}{g:qhD}{i:Func}{v:qhC}{w:qhy}(c:g.frame=a)(e:g.callers=[])(b:g.status=.running)(d:g.dying=none)(h:P.inits.idxOf? a.fn=none)(hm:a.mode=.returning)(l:a.kind=.normal)(p:a.defers=[])(n:P.funcs[a.fn]?=some i)(k:(qkh i a.tmps).run P w=.ok v w)(o:(qkh i a.tmps).events P w #[]=#[]) :qjc P true g w=.ended (.done v) w #[]:=by
 obtain⟨q,t,r,s,j⟩:=g;dsimp only at c e b d;subst c e b d;simp[qjc,qmr,qkc,l,p,n,k,o,hm,seen,qjg,h]
def EL.last{W:qhy}{b:qi5}{a:Act}{l:List qm1}{F:Func}{t:Nat}{r:Bool}{u:qhy}(s:P.inits.idxOf? b.fn=none)(S:b.kind=.normal)(hd:a.defers=[])(Y:P.funcs[b.fn]?=some F)(C:F.results=#[.tmp t])(R:a.tmps.getD t qhE=.bool r)(k:∀w,(∀j,j<W.heap.size->w.heap[j]?=W.heap[j]?)->w.os=W.os->w.output=W.output->W.heap.size<=w.heap.size->Post (.bool r) w) :EL Q P f Post W (G { b.at a l with mode:=.returning } [qk f]) u:=by
 intro Z g' w cl ⟨hw,T,X,_,gv,o,e⟩ ho hc n hm;subst e;have x:=o.callers;obtain⟨fr,cs,N,dy,O⟩:=gv;have q:N=.running:=o.st';have v:dy=none:=o.dy';subst q v;cases x with
 | cons p y=>
  cases y;have c:=o.frame;have M:=c.fn;have L:=c.kind;have I:=c.tmps;have A:=c.defers;have H:=c.mode;obtain⟨a9,g,td,b6,mode,B,ro⟩:=fr;simp only[Frame.at,G] at M L I A H;rw[hd] at A;cases A;cases H;subst M;subst L;have p:=I.getD t (kO Z);rw[R] at p;have y:g.getD t qhE=.bool r:=by
   generalize g.getD t qhE=z at p;cases p;rfl
  refine E.done rfl λd=>⟨.bool r,w.at d,#[],?_,by simp,?_⟩
  ·exact q63 rfl rfl rfl rfl s rfl S rfl Y (by rw[results_tmp C _ P _];exact congrArg (λz=>Result.ok z (w.at d)) y) (qo8 C _ _)
  ·exact k _ (λj U=>n.old j U λi V=>qpB λh=>by
    have h3:=n.inn i j V h;omega) n.os n.output n.size
end
end
end Go.Co
