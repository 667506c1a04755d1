/-
  Part 2 of the proof. gladstonelaw04.PileCounts answers true for every yard, parcel and list of numbers that the statement takes, and leaves its arguments as they were. No conditions.
-/
import Derived.Test.YtidgnkmjgioapaaGreatG1
import Derived.Conc.CrowdTrace
import Derived.Conc.CrowdRun
import Derived.Orders
import Derived.WalkKit
import Derived.Conc.WgGenN3
set_option maxRecDepth 100000
set_option maxHeartbeats 8000000
set_option linter.all false
open Array renaming all_eq_true_iff_forall_mem->qju,any_eq_true'->qr5,getD_eq_getD_getElem?->qjg,getElem?_eq_getElem->qih,getElem?_eq_some_iff->qhs,getElem?_push_lt->qq1,getElem?_setIfInBounds->qiC,getElem?_setIfInBounds_ne->qjb,getElem?_toList->qos,getElem_ofFn->qmg,mem_iff_getElem?->qpG,mem_map->qnc,mem_of_getElem?->qjB,ofFn->qr6,replicate->qiE
open Bool renaming and_eq_true->qic,false_eq_true->qiv,not_eq_true'->qkz,not_false->qnn,not_true->qnD,or_eq_true->qkt
open Classical renaming byContradiction->qj6,choose->ql0,choose_spec->qli,em->qlC
open Go renaming Addr->qiG,Calls->qis,Code->qkh,CommCase->ql6,CommShape->qkw,Deferred->qjH,Dying->qn8,Event->qjk,Frame->qhG,FuncId->qj8,GStep->qkq,GoStatus->qkF,Goroutine->qhw,Item->qlG,MapEntry->qlj,MemOp->qq6,Next->qmm,Oper->qjn,Operand->qiy,PanicEntry->qn0,Program->qhF,Question->qk5,Trace->qp6,TypeId->qi4,Value->qhu,World->qhr,callDeferred->qk3,deafBehind->ql2,doReturn->qk7,endFatal->qp0,endThrow->qoh,execOp->qkA,exitTo->qno,gotoIn->qo5,results->qke,stepG->qj5,step_leave_returned->qqu,step_lone_go->qok,tryRecover->qik,undef->qhx,unwind->qmj,wpOps->qrB,yielded->qjt
open Go.Conc renaming Deaf->qqa,Deaf_other->qm3,Deaf_own->qqf,Good->qsb,awake->qs8,woken->qs9,Goes->qnh,QuitsD->qpf,again_running->qqC,aside_setCell->qmv,crowd->qlk,crowd_pick->qr2,events_results_tmp->qo6,getElem?_append_cases->qng,noRace_append->qqB,ofEvents_eq->qmF,runT_crowd_go->qnd,run_call_body->qne,semEvents->qml,stepG_add_atomic->qmb,stepG_block->qoa,stepG_end->qrw,stepG_load_atomic->qmn,stepG_loop->qr3,stepG_mark0->qpm,stepG_markAt->qpa,stepG_region_end->qhy,stepG_ret'->qkx,stepG_seq->qi5,stepG_skip->qjj,stepG_value->qqg,touchAt->qnz,woken->qre,woken_quitsD->qn1
open Go.Conc.Goes renaming cases->qlf,rely->qlu,running->qks,stop->qk9
open Go.ConcN renaming Mode->qnf,WgLive->qkB,get_map_set->qlr,get_map_set_same->qma,pend->qqb,st_waiters->qr4,sumTo->qnp,sumTo_upd->qqo,sumTo_upd_out->qqD,upd_ne->qm0,upd_same->qkH
open Go.ConcN.Gen.WgLive renaming cell0->qq0,cell1->qkC
open Go.ConcR renaming DC0->qoj,mk->qkn,WgAt->qo7,g_of_ofEvents->qoG,loc_of_ofEvent->qoi
open Go.Frame renaming enter->qiz,eval->qmu,finish->qpF,finish_at->qkj,raise->qqd
open Go.GStep renaming after->qj9,go->qqe
open Go.Instr renaming endRound->qkE
open Go.IntKind renaming wrap_i32->qoz,wrap_u64->qoy
open Go.MemAct renaming ofEvent->qjq,touch?->qkg
open Go.MemOp renaming ofEvents->qkf
open Go.Region renaming Mode->qlv,binds->qj0,ready->qia,schedule->qo0,wanted->qip
open Go.Region.linearise renaming go->qiH
open Go.Sem renaming run->qjd,runT_eq->qiw
open Go.stepG renaming apply->qji,exec->ql5,oper->qow
open List renaming all_eq_true->qiB,append_assoc->qk8,cons_append->qi7,filter_cons->qox,foldl_cons->qln,getElem?_append_left->qir,getElem?_append_right->qjv,getElem?_drop->qlA,getElem?_eq_none->qjp,getElem?_map->qjE,getElem?_range->qm5,getElem?_take_of_lt->qk4,getElem?_toArray->qou,length_cons->qhE,length_filter_le->qkb,length_range->qni,map_cons->qll,mem_cons->qjr,mem_filter->qmk,mem_iff_getElem?->qot,mem_of_getElem?->qi9,mem_range->qjC,mem_toArray->qlb,nil_append->qii,not_mem_nil->qjG,range->qil,range'->qmG,reverse_singleton->qpH
open List.cons renaming injEq->qkG
open Nat renaming eq_zero_or_pos->qpg,le_of_eq->qlB,le_refl->qhv,le_trans->qhB,lt_of_lt_of_le->qi0,lt_of_not_le->qpx,lt_or_ge->qjy,lt_succ_self->qny,mul_lt_mul_of_pos_left->qnq,strongRecOn->qp5,zero_add->qi6,zero_le->qiu
open Option renaming bind_some->qnw,elim_none->qrv,getD_some->qhC,map_eq_some_iff->qm7,map_some->qjh
open Option.some renaming inj->qkD,injEq->qiD
namespace Go.Co
section
open Go.Conc Go.ConcN
inductive Cl where
 | mine (g:Nat)
 | ro (lo:Nat)
 | sync
def blk:Loc->Option Nat
 | .cell a=>some a.block
 | .obj r=>some r
 | _=>none
def qei{l:Loc}(h:l.isMemory=true):∃b,blk l=some b:=by
 cases l<;>first | exact⟨_,rfl⟩ | cases h
structure Tr(cl:Nat->Cl)(n size:Nat)(t:qp6):Prop where
 inb:∀i a b,qnz t i=some a->blk a.loc=some b->b<size
 sync:∀i a b,qnz t i=some a->blk a.loc=some b->cl b=.sync->a.kind≠.plain/\(a.kind=.said->t.g? i=some 0)
 plain:∀i a b,qnz t i=some a->blk a.loc=some b->cl b≠.sync->a.kind=.plain
 mine:∀i a b g,qnz t i=some a->blk a.loc=some b->cl b=.mine g->Knows t g i
 ro:∀i a b lo,qnz t i=some a->blk a.loc=some b->cl b=.ro lo->a.write=true->Knows t 0 i/\∀g,lo<=g->g<n->Knows t g i
 nr:∀said,¬ Race said t
 gs:∀(i:Nat) (op:qq6),t[i]?=some op->op.g<n
def qhe(cl:Nat->Cl)(size g:Nat)(x:Touch):Prop:=∀b,blk x.loc=some b->b<size /\
 ((cl b=.mine g/\x.kind=.plain)\/(∃a,cl b=.ro a/\(g=0\/a<=g)/\x.write=false/\x.kind=.plain)\/(cl b=.sync/\x.kind≠.plain/\(x.kind=.said->g=0)))
def qf2(cl:Nat->Cl)(size g:Nat)(a:qq6):Prop:=a.g=g/\∀x,a.act.touch?=some x->qhe cl size g x
section
variable{cl cl':Nat->Cl}{n size size' g:Nat}{t u:qp6}
def kx{i:Nat}{a:Touch}(h:qnz (t++u) i=some a):(i<t.size/\qnz t i=some a)\/(t.size<=i/\∃c,(t++u)[i]?=some c/\c∈u/\c.act.touch?=some a):=by
 have⟨x,j,b⟩:=touch_of h;rcases qng j with⟨f,e⟩ | ⟨f,d⟩
 ·exact .inl ⟨f,by rw[touchAt_of e];exact b⟩
 ·exact .inr ⟨f,x,j,d,b⟩
def q1w{i:Nat}{a:qq6}(h:t[i]?=some a):t.g? i=some a.g:=by simp[Trace.g?,h]
def Tr.fresh'(h:Tr cl n size t){m:Nat}(hm:∀i a b,qnz t i=some a->blk a.loc=some b->b<m)(f:∀b,b<m->cl' b=cl b):Tr cl' n size t :=
 ⟨h.inb,λi a b d c e=>h.sync i a b d c (by rw[<- f b (hm i a b d c)];exact e),λi a b d c e=>h.plain i a b d c (by rw[<- f b (hm i a b d c)];exact e),
  λi a b g d c e=>h.mine i a b g d c (by rw[<- f b (hm i a b d c)];exact e),
  λi a b j d c e=>h.ro i a b j d c (by rw[<- f b (hm i a b d c)];exact e),h.nr,h.gs⟩
def Tr.grow(h:Tr cl n size t)(c:size<=size'):Tr cl n size' t :=
 ⟨λi a b e d=>qi0 (h.inb i a b e d) c,h.sync,h.plain,h.mine,h.ro,h.nr,h.gs⟩
def Tr.step(h:Tr cl n size t)(V:g<n)(o:∀d∈u,qf2 cl size g d):Tr cl n size (t++u):=by
 refine⟨λi a b f l=>?_,λi a b f l j=>?_,λi a b f l j=>?_,λi a b U f l j=>?_,λi a b s f l j W=>?_,λB=>?_,λi d R=>?_⟩
 ·rcases kx f with⟨_,f⟩ | ⟨_,d,_,c,q⟩
  ·exact h.inb i a b f l
  ·exact((o d c).2 a q b l).1
 ·rcases kx f with⟨R,f⟩ | ⟨_,d,C,c,q⟩
  ·have⟨p,x⟩:=h.sync i a b f l j;exact⟨p,λe=>by rw[g?_old R];exact x e⟩
  ·rcases((o d c).2 a q b l).2 with⟨k,_⟩ | ⟨s,k,_⟩ | ⟨_,p,x⟩
   ·rw[j] at k;cases k
   ·rw[j] at k;cases k
   ·exact⟨p,λe=>by rw[q1w C,(o d c).1,x e]⟩
 ·rcases kx f with⟨_,f⟩ | ⟨_,d,C,c,q⟩
  ·exact h.plain i a b f l j
  ·rcases((o d c).2 a q b l).2 with⟨_,k⟩ | ⟨s,_,_,_,k⟩ | ⟨k,_⟩
   ·exact k
   ·exact k
   ·exact absurd k j
 ·rcases kx f with⟨_,f⟩ | ⟨_,d,C,c,q⟩
  ·exact(h.mine i a b U f l j).app u
  ·rcases((o d c).2 a q b l).2 with⟨k,_⟩ | ⟨s,k,_⟩ | ⟨k,_⟩
   ·rw[j] at k;cases k;have:=knows_own C
    rwa [(o d c).1] at this
   ·rw[j] at k;cases k
   ·rw[j] at k;cases k
 ·rcases kx f with⟨_,f⟩ | ⟨_,d,C,c,q⟩
  ·have⟨p,x⟩:=h.ro i a b s f l j W;exact⟨p.app u,λU Z Y=>(x U Z Y).app u⟩
  ·rcases((o d c).2 a q b l).2 with⟨k,_⟩ | ⟨s,_,_,k,_⟩ | ⟨k,_⟩
   ·rw[j] at k;cases k
   ·rw[W] at k;cases k
   ·rw[j] at k;cases k
 ·refine qqB (h.nr B) (λd c=>(o d c).1) (λi a T d c b hb hc=>?_);obtain⟨F,D,N,y⟩:=hc;have⟨H,r⟩:=qei D;have G:blk b.loc=some H:=by rw[<- F];exact r
  rcases((o d c).2 b hb H G).2 with⟨k,_⟩ | ⟨s,k,A,p,_⟩ | ⟨k,p,x⟩
  ·exact h.mine i a H g T r k
  ·have S:a.write=true:=N.resolve_right (by simp[p]);have⟨L,I⟩:=h.ro i a H s T r k S;rcases A with rfl | A
   ·exact L
   ·exact I g A V
  ·have⟨L,I⟩:=h.sync i a H T r k;rcases y with y | y | ⟨_,y,O⟩
   ·exact absurd y L
   ·exact absurd y p
   ·have e:=I y;have e':=x O;have⟨z,X,M⟩:=qm7.1 e;have:=knows_own X
    rwa [M,<- e'] at this
 ·rcases qng R with⟨_,Q⟩ | ⟨_,P⟩
  ·exact h.gs i d Q
  ·rw[(o d P).1];exact V
def vI{x y:qq6}{k:Nat}{p:Nat}(e:x.g=p/\x.act=.go k)(d:y.g=k/\y.act=.start){i:Nat}{a:Touch}(h:qnz (t++#[x,y]) i=some a):i<t.size/\qnz t i=some a:=by
 rcases kx h with h | ⟨_,f,_,b,c⟩
 ·exact h
 ·simp only[qlb,qjr,qjG,or_false] at b;rcases b with rfl | rfl
  ·rw[e.2] at c;cases c
  ·rw[d.2] at c;cases c
def Tr.fork(h:Tr cl n size t)(L:0<n){x y:qq6}(k:x.g=0/\x.act=.go n)(j:y.g=n/\y.act=.start)(H:qqa t 0=0):Tr cl (n+1) size (t++#[x,y]):=by
 have F:qqa t n=0:=Deaf_absent λi d v e=>by have:=h.gs i d v;omega
 refine⟨λi a b f l=>h.inb i a b (vI k j f).2 l,λi a b f l p=>?_,λi a b f l p=>h.plain i a b (vI k j f).2 l p,λi a b g f l p=>(h.mine i a b g (vI k j f).2 l p).app _,
  λi a b C f l p I=>?_,λq=>?_,λi d v=>?_⟩
 ·have⟨v,f⟩:=vI k j f;have⟨w,z⟩:=h.sync i a b f l p;exact⟨w,λe=>by rw[g?_old v];exact z e⟩
 ·have⟨w,z⟩:=h.ro i a b C (vI k j f).2 l p I;refine⟨w.app _,λg D M=>?_⟩;rcases qjy g n with A | G
  ·exact(z g D A).app _
  ·obtain rfl:g=n:=by omega
   exact fork_knows k j H F w
 ·have r:∀d∈#[x,y],∀b,d.act.touch?=some b->False:=by
   intro d c b o;simp only[qlb,qjr,qjG,or_false] at c;rcases c with rfl | rfl
   ·rw[k.2] at o;cases o
   ·rw[j.2] at o;cases o
  have e:t++#[x,y]=(t++#[x])++#[y]:=by apply Array.ext';simp
  rw[e];exact qqB (g:=n) (qqB (g:=0) (h.nr q) (λd c=>by simp at c;rw[c];exact k.1) (λi a _ d c b o _=>(r d (by simp at c ⊢;exact .inl c) b o).elim))
   (λd c=>by simp at c;rw[c];exact j.1) (λi a _ d c b o _=>(r d (by simp at c ⊢;exact .inr c) b o).elim)
 ·rcases qng v with⟨_,B⟩ | ⟨_,s⟩
  ·exact Nat.lt_succ_of_lt (h.gs i d B)
  ·simp only[qlb,qjr,qjG,or_false] at s;rcases s with rfl | rfl
   ·rw[k.1];omega
   ·rw[j.1];exact qny _
def Tr.fork_deaf(h:Tr cl n size t){x y:qq6}(d:x.g=0/\x.act=.go n)(c:y.g=n/\y.act=.start)(g:Nat):qqa (t++#[x,y]) n=0/\qqa (t++#[x,y]) g=qqa t g:=by
 have f:qqa t n=0:=Deaf_absent λi b j e=>by have:=h.gs i b j;omega
 have a:∀g,qqa (t++#[x,y]) g=qqa t g:=λg=>by
  have:=Deaf_append t g [x,y];simp only[qln,List.foldl_nil] at this;rw[show t++#[x,y]=t++[x,y].toArray from rfl,this];simp only[deafStep,d.2,c.2]
 exact⟨by rw[a,f],a g⟩
def Tr.recl(h:Tr cl n size t)(j:∀b,b<size->cl' b=cl b\/(cl b=.mine 0/\cl' b=.ro n)\/(cl b≠.sync/\cl' b=.mine 0/\∀i a,qnz t i=some a->blk a.loc=some b->Knows t 0 i)\/(cl' b=.sync/\∀i a,qnz t i=some a->blk a.loc≠some b)):Tr cl' n size t:=by
 refine⟨h.inb,λi a b f d c=>?_,λi a b f d c=>?_,λi a b g f d c=>?_,λi a b l f d c o=>?_,h.nr,h.gs⟩
 ·rcases j b (h.inb i a b f d) with e | ⟨_,e⟩ | ⟨_,e,_⟩ | ⟨_,e⟩
  ·exact h.sync i a b f d (e ▸ c)
  ·rw[c] at e;cases e
  ·rw[c] at e;cases e
  ·exact absurd d (e i a f)
 ·rcases j b (h.inb i a b f d) with e | ⟨k,_⟩ | ⟨k,_,_⟩ | ⟨e,_⟩
  ·exact h.plain i a b f d (e ▸ c)
  ·exact h.plain i a b f d (by rw[k];simp)
  ·exact h.plain i a b f d k
  ·exact absurd e c
 ·rcases j b (h.inb i a b f d) with e | ⟨_,e⟩ | ⟨_,e,k⟩ | ⟨e,_⟩
  ·exact h.mine i a b g f d (e ▸ c)
  ·rw[c] at e;cases e
  ·rw[c] at e;cases e;exact k i a f d
  ·rw[c] at e;cases e
 ·rcases j b (h.inb i a b f d) with e | ⟨k,e⟩ | ⟨_,e,_⟩ | ⟨e,_⟩
  ·exact h.ro i a b l f d (e ▸ c) o
  ·rw[c] at e;cases e;exact⟨h.mine i a b 0 f d k,λg q p=>by omega⟩
  ·rw[c] at e;cases e
  ·rw[c] at e;cases e
def Hd(a:Nat)(t:qp6):Prop:=∀i g,t.g? i=some g->g≠0->g<a->t.counts i->Knows t 0 i
def Hd.app{f:Nat}(h:Hd f t)(s:∀a∈u,a.g=0\/f<=a.g\/a.act.touch?=none):Hd f (t++u):=by
 intro i g w d l q;have⟨a,p,c⟩:=qm7.1 w;rcases qng p with⟨v,k⟩ | ⟨_,j⟩
 ·exact(h i g (by rw[q1w k,c]) d l ((counts_old v).1 q)).app u
 ·rcases s a j with e | e | e
  ·rw[c] at e;exact absurd e d
  ·omega
  ·obtain⟨x,r,_⟩:=q;have⟨y,o,b⟩:=touch_of r;rw[p] at o;cases o;rw[e] at b;cases b
def Hd.join{lo:Nat}{a:qiG}(h:Hd lo t){q:Nat}(all:∀g,lo<=g->g≠0->(∃i,t.g? i=some g)->∃r,RelBy a t g r/\r<q)(w:NoRelease a t)(v:t.act? q=some (.mark (.acquire a)))(A:t.g? q=some 0)(y:t.heard q)(m:Nat):Hd m t:=by
 intro i g c e _ p;rcases qjy g lo with b | f
 ·exact h i g c e b p
 ·have⟨r,j,o⟩:=all g f e ⟨i,c⟩;have d:HappensBefore t r q:=.single (.inr ⟨.marked o (.inr j.act) v (λk _ _=>w k),j.heard,y⟩);have x:i<=r:=Nat.le_of_not_lt λb=>j.after i b c p;have⟨z,s,l⟩:=qm7.1 A;refine⟨q,z,s,l,.inr ?_⟩;rcases qjy i r with b | f
  ·exact .trans (.single (.inl ⟨b,g,c,j.g⟩)) d
  ·obtain rfl:i=r:=by omega
   exact d
def Tr.known0(h:Tr cl n size t){m:Nat}(k:Hd m t)(hm:n<=m){i:Nat}{a:Touch}{b:Nat}(f:qnz t i=some a)(d:blk a.loc=some b)(l:cl b≠.sync):Knows t 0 i:=by
 have⟨x,c,j⟩:=touch_of f;by_cases e:x.g=0
 ·have:=knows_own c
  rwa [e] at this
 ·refine k i x.g (q1w c) e (qi0 (h.gs i x c) hm) ⟨a,f,?_,.inl ?_⟩
  ·cases hl:a.loc<;>rw[hl] at d<;>first | rfl | cases d
  ·rw[h.plain i a b f d l];decide
def q98{m:Nat}(l:Hd m t)(d:∀(i:Nat) (c:qq6),t[i]?=some c->c.g<m):t.HandedOver:=by
 intro i g j b o;have⟨c,h,a⟩:=qm7.1 j;have⟨q,z,f,k,e⟩:=l i g j b (by rw[<- a];exact d i c h) o;refine⟨q,by rw[q1w f,k],?_⟩;rcases e with rfl | e
 ·rw[h] at f;cases f;exact absurd (a.symm.trans k) b
 ·exact e
end
end
section
open Go.Conc Go.ConcN
open Go.ConcR (loc_of_ofEvent deafBehind_cons deafBehind_one g_of_ofEvents ofEvent_loc_mark)
def Ends(P:qhF)(Post:qhu->qhr->Prop)(m:Machine)(t:qp6):Prop :=
 ∃N a o b c,runNT P (N+1) m t=(.ended o b,c)/\runN P N m=.next a/\step P a=.ended o b/\qsb P Post a o b c
section
variable{P:qhF}{Post:qhu->qhr->Prop}{m m':Machine}{t:qp6}{ops:Array qq6}
def Ends.next(b:stepT P m=(.next m',ops))(h:Ends P Post m' (t++ops)):Ends P Post m t:=by
 obtain⟨N,a,o,w,c,k,j,i,e⟩:=h;exact⟨N+1,a,o,w,c,by rw[runNT_succ_next b];exact k,by rw[runN_succ_next b];exact j,i,e⟩
def Ends.ended{o:Outcome}{w:qhr}(a:stepT P m=(.ended o w,ops))(h:qsb P Post m o w (t++ops)):Ends P Post m t :=
 ⟨0,m,o,w,t++ops,by simp[runNT,a],rfl,by simp[step,a],h⟩
end
def EvG(cl:Nat->Cl)(size g:Nat)(e:qjk):Prop:=(∀x,(qjq e).touch?=some x->qhe cl size g x)
def jA(e:qjk):Prop:=e.loc≠.mark .disable/\e.loc≠.mark .enable/\∀a,e.loc≠.mark (.release a)
section
variable{cl:Nat->Cl}{n size g d:Nat}{t:qp6}{es:Array qjk}{fn:qj8}{pos:String}
def Jo(h:∀e∈es,EvG cl size g e):∀b∈qkf g fn pos es,qf2 cl size g b:=by
 intro b a;rw[qmF] at a;obtain⟨e,c,rfl⟩:=qnc.1 a;exact⟨rfl,h e c⟩
def deafBehind_idle{es:Array qjk}(h:∀e∈es,jA e)(d:Nat):ql2 d es=d:=by
 obtain⟨l⟩:=es;induction l with
 | nil=>rfl
 | cons e l b=>
  rw[deafBehind_cons,deafBehind_one (h e (by simp)).1 (h e (by simp)).2.1];exact b λx a=>h x (by simp at a ⊢;exact .inr a)
def K9{e:qjk}(h:e.mute=true):(qjq e).touch?=none:=by
 obtain⟨a,wr,b⟩:=e;cases a with
 | mark m=>cases m<;>first | rfl | cases h
 | _=>cases h
def Z2{es:Array qjk}(h:∀e∈es,e.mute=true):∀b∈qkf g fn pos es,b.g=g/\b.act.touch?=none:=by
 intro b a;rw[qmF] at a;obtain⟨e,c,rfl⟩:=qnc.1 a;exact⟨rfl,K9 (h e c)⟩
end
section
variable{g:Nat}{es:Array qjk}{fn:qj8}{pos:String}
def qbi{a:qiG}{es:Array qjk}(h:∀e∈es,e.mute=true):∀c∈qkf g fn pos es,c.act≠.mark (.release a):=by
 intro c b hm;rw[qmF] at b;obtain⟨x,j,rfl⟩:=qnc.1 b;have k:=h x j;have f:=qoi hm;obtain⟨i,wr,l⟩:=x;simp only at f;subst f;cases k
def q1f{a:qiG}{es:Array qjk}(h:∀e∈es,jA e):∀c∈qkf g fn pos es,c.act≠.mark (.release a):=by
 intro c b hm;rw[qmF] at b;obtain⟨x,f,rfl⟩:=qnc.1 b;exact(h x f).2.2 a (qoi hm)
end
structure Al(P:qhF)(cl:Nat->Cl)(gs:Array qhw)(w:qhr)(t:qp6)(g0:qhw)(fu:Nat->Nat):Prop where
 main:gs[0]?=some g0
 lv:∀i,1<=i->i<gs.size->∃g,gs[i]?=some g/\qpf P (fu i) (qqa t i) g
 tr:Tr cl gs.size w.heap.size t
 cl0:∀b,w.heap.size<=b->cl b=.mine 0
 d0:qqa t 0=0
 hd:Hd gs.size t
 nor:∀a,NoRelease a t
def E(P:qhF)(Post:qhu->qhr->Prop)(cl:Nat->Cl)(g0:qhw)(w:qhr):Prop :=
 ∀gs sl t fu,Al P cl gs w t g0 fu->Ends P Post (qlk gs w sl) t
section
variable{P:qhF}{Post:qhu->qhr->Prop}{cl:Nat->Cl}{gs:Array qhw}{w:qhr}{t:qp6}{g0:qhw}{fu:Nat->Nat}{sl:Option (Nat × Nat)}
def Al.at(h:Al P cl gs w t g0 fu)(d:Nat):Al P cl gs (w.at d) t g0 fu:=⟨h.main,h.lv,h.tr,h.cl0,h.d0,h.hd,h.nor⟩
def JF{q d:Nat}{g:qhw}(h:qpf P q d g):awake g:=by
 intro a;rcases h.status with e | e<;>rw[e]<;>simp
def Al.awake(h:Al P cl gs w t g0 fu)(f:g0.status=.running):∀g∈gs,qs8 g:=by
 intro g e;have⟨i,b⟩:=qpG.1 e;cases i with
 | zero=>
  rw[h.main] at b;cases b;intro j;rw[f];simp
 | succ i=>
  have⟨k,a,c⟩:=h.lv (i+1) (by omega) (qhs.1 b).1;rw[b] at a;cases a;exact JF c
def Al.leave(h:Al P cl gs w t g0 fu)(H:g0.status=.running){i:Nat}{g:qhw}(G:1<=i)(C:gs[i]?=some g)(z:g.status=.running) :∃r ops q,runT P (qlk gs w sl) i=(.next (qlk r w sl),ops)/\r.size=gs.size/\q<fu i/\Al P cl r w (t++ops) g0 (upd fu i q):=by
 have B:=(qhs.1 C).1;have⟨I,y,s⟩:=h.lv i G B;rw[C] at y;cases y;cases hf:fu i with
 | zero=>rw[hf] at s;rw[s.1] at z;cases z
 | succ q=>
  rw[hf] at s;rcases s with⟨o,_⟩ | ⟨_,D,es,f,p,s⟩
  ·rw[z] at o;cases o
  ·have v:=qnd (P:=P) (sl:=sl) (i:=i) C (by rw[show(i == 0)=false by simp;omega];exact p w);have k:((gs.map (qre P g D w)).setIfInBounds i D).size=gs.size:=by simp
   have b:=Z2 (g:=i) (fn:=g.frame.fn) (pos:=g.frame.place) f;refine⟨_,_,q,v,k,qny q,?_,?_,?_,h.cl0,?_,?_,λa=>(h.nor a).app (qbi f)⟩
   ·rw[qlr _ _ _ _ (by omega),h.main,qjh];unfold qre;split
    ·rw[qqC _ (.inl H)]
    ·rfl
   ·intro j A F;rw[k] at F;by_cases e:j=i
    ·subst e;refine⟨D,qma _ _ _ B,?_⟩;rw[qkH,qqf];exact s
    ·have⟨x,o,u⟩:=h.lv j A F;refine⟨x,?_,?_⟩
     ·rw[qlr _ _ _ _ (by omega),o,qjh,qn1 u]
     ·rw[qm0 _ _ e,qm3 t (Ne.symm e) _ λl c=>(b l c).1];exact u
   ·rw[k];exact h.tr.step B λl c=>⟨(b l c).1,λx o=>by rw[(b l c).2] at o;cases o⟩
   ·rw[qm3 t (by omega:i≠(0:Nat)) _ λl c=>(b l c).1];exact h.d0
   ·rw[k];exact h.hd.app λl c=>.inr (.inr (b l c).2)
def q2c{fu:Nat->Nat}{i q n:Nat}(b:i<n)(h:q<fu i):qnp n (λa=>upd fu i q a)<qnp n fu:=by
 have:=qqo fu q id b;simp only[id] at this;have e:(qnp n λa=>fu a)=qnp n fu:=rfl;omega
def E.stepC(M:g0.status=.running)(h:∀d,∃y p es l,qj5 P true g0 (w.at d)=.go y p es/\w.heap.size<=p.heap.size/\(∀b,b<w.heap.size->l b=cl b)/\(∀b,p.heap.size<=b->l b=.mine 0)/\(∀e∈es,EvG l p.heap.size 0 e/\jA e)/\E P Post l y p):E P Post cl g0 w:=by
 have L:∀(N:Nat) (gs:Array qhw) (sl:Option (Nat × Nat)) (t:qp6) (fu:Nat->Nat) (G:Nat),qnp gs.size fu=N->Al P cl gs (w.at G) t g0 fu->Ends P Post (qlk gs (w.at G) sl) t:=by
  intro N;induction N using qp5 with
  | _ N W=>
   intro gs sl t fu G hN c;have⟨i,g,d,s,H,Y,o⟩:=qr2 (P:=P) (w:=w.at G) (sl:=sl) (c.awake M) ⟨0,g0,c.main,M⟩;have V:=(qhs.1 H).1;cases i with
   | zero=>
    rw[c.main] at H;cases H;have⟨y,p,es,l,R,u,D,F,v,hE⟩:=h d;have B:qj5 P ((0:Nat) == 0) g0 ((w.at G).at d)=.go y p es:=R;have k:=qnd (P:=P) (sl:=s) (i:=0) c.main B;rw[k] at o;refine Ends.next o (hE _ _ _ fu ?_)
    have f:((gs.map (qre P g0 y p)).setIfInBounds 0 y).size=gs.size:=by simp
    have A:0<gs.size:=V;have r:∀I∈qkf 0 g0.frame.fn g0.frame.place es,I.g=0:=qoG;refine⟨qma _ _ _ A,?_,?_,F,?_,?_,λa=>(c.nor a).app (q1f λe C=>(v e C).2)⟩
    ·intro j Q U;rw[f] at U;have⟨x,X,z⟩:=c.lv j Q U;refine⟨x,?_,?_⟩
     ·rw[qlr _ _ _ _ (by omega),X,qjh,qn1 z]
     ·rw[qm3 t (by omega:(0:Nat)≠j) _ r];exact z
    ·rw[f];exact((c.tr.grow u).fresh' (m:=w.heap.size) c.tr.inb D).step A (Jo λe C=>(v e C).1)
    ·rw[qqf,deafBehind_idle λe C=>(v e C).2];exact c.d0
    ·rw[f];exact c.hd.app λI O=>.inl (r I O)
   | succ i=>
    have⟨T,ops,q,k,u,Z,S⟩:=(c.at d).leave (sl:=s) M (by omega) H Y;rw[k] at o;exact Ends.next o (W _ (by rw[<- hN,u];exact q2c V Z) T s _ _ d rfl S)
 intro gs sl t fu c;exact L _ gs sl t fu w.drawn rfl c
def E.step(I:g0.status=.running)(h:∀d,∃y r es,qj5 P true g0 (w.at d)=.go y r es/\w.heap.size<=r.heap.size/\(∀e∈es,EvG cl r.heap.size 0 e/\jA e)/\E P Post cl y r):E P Post cl g0 w:=by
 have H:∀(N:Nat) (gs:Array qhw) (sl:Option (Nat × Nat)) (t:qp6) (fu:Nat->Nat) (D:Nat),qnp gs.size fu=N->Al P cl gs (w.at D) t g0 fu->Ends P Post (qlk gs (w.at D) sl) t:=by
  intro N;induction N using qp5 with
  | _ N U=>
   intro gs sl t fu D Z c;have⟨i,g,d,s,F,W,o⟩:=qr2 (P:=P) (w:=w.at D) (sl:=sl) (c.awake I) ⟨0,g0,c.main,I⟩;have T:=(qhs.1 F).1;cases i with
   | zero=>
    rw[c.main] at F;cases F;have⟨y,r,es,O,l,u,hE⟩:=h d;have B:qj5 P ((0:Nat) == 0) g0 ((w.at D).at d)=.go y r es:=O;have k:=qnd (P:=P) (sl:=s) (i:=0) c.main B;rw[k] at o;refine Ends.next o (hE _ _ _ fu ?_)
    have f:((gs.map (qre P g0 y r)).setIfInBounds 0 y).size=gs.size:=by simp
    have A:0<gs.size:=T;have p:∀G∈qkf 0 g0.frame.fn g0.frame.place es,G.g=0:=qoG;refine⟨qma _ _ _ A,?_,?_,λb Y=>c.cl0 b (qhB l Y),?_,?_,λa=>(c.nor a).app (q1f λe C=>(u e C).2)⟩
    ·intro j M S;rw[f] at S;have⟨x,V,z⟩:=c.lv j M S;refine⟨x,?_,?_⟩
     ·rw[qlr _ _ _ _ (by omega),V,qjh,qn1 z]
     ·rw[qm3 t (by omega:(0:Nat)≠j) _ p];exact z
    ·rw[f];exact(c.tr.grow l).step A (Jo λe C=>(u e C).1)
    ·rw[qqf,deafBehind_idle λe C=>(u e C).2];exact c.d0
    ·rw[f];exact c.hd.app λG L=>.inl (p G L)
   | succ i=>
    have⟨R,ops,q,k,l,X,Q⟩:=(c.at d).leave (sl:=s) I (by omega) F W;rw[k] at o;exact Ends.next o (U _ (by rw[<- Z,l];exact q2c T X) R s _ _ d rfl Q)
 intro gs sl t fu c;exact H _ gs sl t fu w.drawn rfl c
def E.done(O:g0.status=.running)(h:∀d,∃v u es,qj5 P true g0 (w.at d)=.ended (.done v) u es/\(∀e∈es,EvG cl w.heap.size 0 e/\jA e)/\Post v u):E P Post cl g0 w:=by
 have H:∀(N:Nat) (gs:Array qhw) (sl:Option (Nat × Nat)) (t:qp6) (fu:Nat->Nat) (s:Nat),qnp gs.size fu=N->Al P cl gs (w.at s) t g0 fu->Ends P Post (qlk gs (w.at s) sl) t:=by
  intro N;induction N using qp5 with
  | _ N X=>
   intro gs sl t fu s hN a;have⟨i,g,d,k,G,Z,o⟩:=qr2 (P:=P) (w:=w.at s) (sl:=sl) (a.awake O) ⟨0,g0,a.main,O⟩;have F:=(qhs.1 G).1;cases i with
   | zero=>
    rw[a.main] at G;cases G;have⟨v,u,es,S,C,hP⟩:=h d;have B:qj5 P ((0:Nat) == 0) g0 ((w.at s).at d)=.ended (.done v) u es:=S;have r:0<gs.size:=F;have b:runT P (qlk gs ((w.at s).at d) k) 0=(.ended (.done v) u,qkf 0 g0.frame.fn g0.frame.place es):=by
     have V:=a.main;have⟨_,V⟩:=qhs.1 V;subst V;have M:=swapAt_of_lt r { (default:qhw) with status:=.finished };show runT P { world:=(w.at s).at d,gs:=gs,rest:={ timers:=#[],alone:=none,slice:=k } } 0=_;unfold runT;simp only[M,B,GStep.es]
    rw[b] at o;have p:∀z∈qkf 0 g0.frame.fn g0.frame.place es,z.g=0:=qoG;refine Ends.ended o ⟨v,rfl,hP,?_,?_,⟨?_,rfl⟩,?_⟩
    ·exact(a.tr.step r (Jo λe T=>(C e T).1)).nr
    ·exact q98 (a.hd.app λz Q=>.inl (p z Q)) λi z F=>(a.tr.step r (Jo λe T=>(C e T).1)).gs i z F
    ·intro x Y;have⟨j,D⟩:=qot.1 Y;rw[qlA] at D;have f:gs[1+j]?=some x:=by simpa[qlk] using D
     have⟨y,A,l⟩:=a.lv (1+j) (by omega) (qhs.1 f).1;rw[f] at A;cases A;exact⟨_,l.leaves⟩
    ·intro j x D R;have f:gs[j]?=some x:=D;have⟨y,A,l⟩:=a.lv j (by omega) (qhs.1 f).1;rw[f] at A;cases A;refine⟨fu j,?_⟩;have:=qm3 t (Ne.symm R) _ p;unfold qqa at this l;rw[this];exact l.hears _
   | succ i=>
    have⟨W,ops,q,b,I,hq,U⟩:=(a.at d).leave (sl:=k) O (by omega) G Z;rw[b] at o;exact Ends.next o (X _ (by rw[<- hN,I];exact q2c F hq) W k _ _ d rfl U)
 intro gs sl t fu a;exact H _ gs sl t fu w.drawn rfl a
def E.solo(h:E P Post cl g0 w)(j:∀b,cl b=.mine 0):Ends P Post (solo g0 w) #[]:=by
 rw[solo_eq_crowd];refine h #[g0] none #[] (λ_=>0) ⟨rfl,λi o c=>by simp at c;omega,?_,λb _=>j b,rfl,λi g f=>by simp[Trace.g?] at f,λa i c=>by simp[Trace.act?] at c⟩;refine⟨λi a b e=>?_,λi a b e=>?_,λi a b e=>?_,λi a b g e=>?_,λi a b l e=>?_,noRace_nil,λi k c=>by simp at c⟩<;>simp[qnz,Trace.act?] at e
end
end
section
open Go.Conc Go.ConcN Go.Sim
def kX(a:Nat->Cl)(Z:Ren):Prop:=∀i j,BR Z i j->a j=.mine 0
structure kl(M N:Nat)(W:qhr)(Z:Ren)(w:qhr):Prop where
 old:∀j,j<W.heap.size->(∀i,BR Z i j->i<M)->w.heap[j]?=W.heap[j]?
 os:w.os=W.os
 output:w.output=W.output
 size:W.heap.size<=w.heap.size
 inn:∀i j,BR Z i j->M<=i->N<=j
 nsz:N<=w.heap.size
section
variable[JunkSet]{Q P:qhF}{F:qhw->qhr->Prop}{f:qj8}{real:List qhG}{Post:qhu->qhr->Prop}{W:qhr}{M N:Nat}
def kl.step{Z O:Ren}{w k:qhr}(h:kl M N W Z w)(a:Eff M Z O w k):kl M N W O k where
 old j hj hn:=by
  have b:∀i,BR Z i j->i<M:=λi d=>hn i (d.mono a.le);rw[a.keep j (qi0 hj h.size) b,h.old j hj b]
 os:=a.os.trans h.os
 output:=a.output.trans h.output
 size:=qhB h.size a.size
 inn i j hij d:=by
  rcases qjy i Z.length with c | e
  ·exact h.inn i j (BR.back a.le hij c) d
  ·exact qhB h.nsz (a.fresh i j hij e)
 nsz:=qhB h.nsz a.size
def kl.at{Z:Ren}{w:qhr}(h:kl M N W Z w)(d:Nat):kl M N W Z (w.at d):=⟨h.old,h.os,h.output,h.size,h.inn,h.nsz⟩
def kX.step{e:Nat->Cl}{Z O:Ren}{w l:qhr}{base:Nat}(h:kX e Z)(k:Eff base Z O w l)(n:∀b,w.heap.size<=b->e b=.mine 0):kX e O:=by
 intro i j a;rcases qjy i Z.length with c | d
 ·obtain⟨⟨V,rfl⟩,_⟩:=k.le;refine h i j ?_;unfold BR at a ⊢
  rwa [qir c] at a
 ·exact n j (k.fresh i j a d)
def vm{p:Nat->Cl}{O:Ren}{q w:qhr}{base:Nat}(o:kX p O)(n:WR Q base O q w){e:qjk}(h:kY base O e):EvG p w.heap.size 0 e/\jA e:=by
 cases h with
 | @cell i j l g wr k _ _=>
  refine⟨λx c b d=>?_,by simp[jA],by simp,by simp⟩;have a:x=⟨.cell ⟨j,l,g⟩,wr,.plain⟩:=by cases wr<;>(simp[qjq,qkg] at c;exact c.symm)
  subst a;simp only[blk,qiD] at d;subst d;exact⟨n.lt _ _ k,.inl ⟨o _ _ k,rfl⟩⟩
 | @obj i j wr k _=>
  refine⟨λx c b d=>?_,by simp[jA],by simp,by simp⟩;have a:x=⟨.obj j,wr,.plain⟩:=by cases wr<;>(simp[qjq,qkg] at c;exact c.symm)
  subst a;simp only[blk,qiD] at d;subst d;exact⟨n.lt _ _ k,.inl ⟨o _ _ k,rfl⟩⟩
 | noRoom=>exact⟨λx c=>by simp[qjq,qkg] at c,by simp[jA],by simp,by simp⟩
 | env=>
  refine⟨λx c b d=>?_,by simp[jA],by simp,by simp⟩;have a:x=⟨.output,true,.plain⟩:=by simp[qjq,qkg] at c;exact c.symm
  subst a;cases d
def q9G{Z:Ren}{base:Nat}{a w:qhr}(h:WR Q base Z a w)(d:Nat):WR Q base Z a (w.at d):=⟨h.len,h.nodup,h.lt,h.obj,h.low,h.env,h.below,h.gar⟩
def q2d{Z:Ren}{base:Nat}{g b:qhw}{a w:qhr}(h:Sub Q P base F f real Z g a b w)(d:Nat):Sub Q P base F f real Z g a b (w.at d):=⟨h.len,q9G h.wr d,h.gl,h.tree,h.stack,h.rel⟩
def ve{Z:Ren}{base:Nat}{g a:qhw}{b w:qhr}(h:Sub Q P base F f real Z g b a w):a.status=.running:=by
 obtain⟨d,c,rfl⟩:=h.rel;exact c.st'
def E.sub{Cp:(Nat->Cl)->Prop}(H:Duo Q P)(hrf:P.follows .rangeFuncRecover=true)(hR:∀fr,qik fr real=none)(hF:∀g u,F g u->g.callers≠[])(r:∀Z g wq v w i,Sub Q P M F f real Z g wq v w->F g wq->kX i Z->(∀b,w.heap.size<=b->i b=.mine 0)->kl M N W Z w->Cp i->E P Post i v w)(hK:∀Z C k a L c I pre j wq w i,qhg Q P M F f real Z C k a L c I pre j wq w->kX i Z->(∀b,w.heap.size<=b->i b=.mine 0)->kl M N W Z w->Cp i ->(∀O G o t y l,Sub Q P M F f real O G o t y->kX l O->(∀b,y.heap.size<=b->l b=.mine 0)->kl M N W O y->Cp l ->Relation.TransGen (Below Q F) (G,o) ({ frame:=qiz Q C a k,callers:=c::(pre++[ql f]),status:=.running,dying:=none },wq)->E P Post l t y) ->E P Post i { frame:=qiz P C L k,callers:=I::(j++real),status:=.running,dying:=none } w){Z:Ren}{g v:qhw}{wq w:qhr}{i:Nat->Cl}(h:Sub Q P M F f real Z g wq v w)(ho:kX i Z)(hc:∀b,w.heap.size<=b->i b=.mine 0)(hk:kl M N W Z w)(hp:Cp i):E P Post i v w:=by
 have p:Acc (Relation.TransGen (Below Q F)) (g,wq):=h.tree.acc.transGen;generalize hx:(g,wq)=x at p;induction p generalizing Z g wq v w i with
 | intro x _ T=>
  subst hx;by_cases U:F g wq
  ·exact r Z g wq v w i h U ho hc hk hp
  ·refine E.step (ve h) λd=>?_;have⟨O,g1,q,S,z,es,h1,V,D,h4,_,n⟩:=(q2d h d).stepK H hrf hR U true hF;have s:kX i O:=ho.step (w:=w.at d) D hc;have B:∀b,z.heap.size<=b->i b=.mine 0:=λb hb=>hc b (qhB D.size hb);have A:kl M N W O z:=kl.step (w:=w.at d) (hk.at d) D;have R:WR Q M O q z:=by
    rcases n with n | ⟨_,_,_,_,_,_,_,_,n,_⟩
    ·exact n.wr
    ·exact n.wr
   refine⟨S,z,es,h1,D.size,λe he=>vm s R (h4 e he),?_⟩;rcases n with n | ⟨C,k,a,L,c,I,pre,j,n,rfl,rfl⟩
   ·exact T (g1,q) (.single V) n s B A hp rfl
   ·exact hK O C k a L c I pre j q z i n s B A hp λσ2 G o t y l s1 s2 s3 s4 X Y=>T (G,o) (Y.tail V) s1 s2 s3 s4 X rfl
end
end
section
open Go.Conc Go.ConcN Go.Sim
abbrev Bs:=Nat->Prop
structure St where
 S:Bs
 g:qhw
 w:qhr
inductive Rk where
 | leaf
 | nd (f:St->Rk)
def Rk.sub:Rk->Rk->Prop
 | _,.leaf=>False
 | x,.nd f=>∃s,x=f s
def Rk.acc:∀r:Rk,Acc Rk.sub r
 | .leaf=>.intro _ λ_ h=>h.elim
 | .nd f=>.intro _ λ_ ⟨s,e⟩=>e ▸ Rk.acc (f s)
def grow(S:Bs)(w a:qhr):Bs:=λb=>S b\/(w.heap.size<=b/\b<a.heap.size)
structure RC(Fz:Bs)(K:qhr->qhr->Prop)(S:Bs)(w w₁:qhr):Prop where
 own:∀b,S b->w₁.heap[b]?=w.heap[b]?
 fz:∀b,Fz b->w₁.heap[b]?=w.heap[b]?
 size:w.heap.size<=w₁.heap.size
 os:w₁.os=w.os
 output:w₁.output=w.output
 k:K w w₁
def EvC(Fz S:Bs)(a:Nat)(e:qjk):Prop :=
 jA e/\(∀m,e.loc=.mark m->m=.noRoom)/\∀x,(qjq e).touch?=some x->∀b,blk x.loc=some b->b<a/\x.kind=.plain/\(S b\/(Fz b/\x.write=false))
structure DC(Fz:Bs)(S:Bs)(w w':qhr)(es:Array qjk):Prop where
 keep:∀b,b<w.heap.size->¬ S b->w'.heap[b]?=w.heap[b]?
 size:w.heap.size<=w'.heap.size
 os:w'.os=w.os
 output:w'.output=w.output
 evs:∀e∈es,EvC Fz (grow S w w') w'.heap.size e
section
variable(P:qhF)(Fz:Bs)(K:qhr->qhr->Prop)(Stop:Bs->qhw->qhr->Prop)
def Cot:Rk->Bs->qhw->qhr->Prop
 | .leaf,S,g,w=>∀w₁,RC Fz K S w w₁->Stop S g w₁
 | .nd f,S,g,w=>g.status=.running/\∀w₁,RC Fz K S w w₁->∃g' w' es,qj5 P false g w₁=.go g' w' es/\DC Fz S w₁ w' es/\Cot (f ⟨grow S w₁ w',g',w'⟩) (grow S w₁ w') g' w'
def qm(S:Bs)(g:qhw)(w:qhr):Prop:=∃r,Cot P Fz K Stop r S g w
end
section
variable{P:qhF}{Fz:Bs}{K:qhr->qhr->Prop}{Stop:Bs->qhw->qhr->Prop}{S:Bs}{g:qhw}{w w₁ w₂:qhr}
def RC.trans(f:∀a b c,K a b->K b c->K a c)(h:RC Fz K S w w₁)(d:RC Fz K S w₁ w₂):RC Fz K S w w₂ :=
 ⟨λb e=>(d.own b e).trans (h.own b e),λb e=>(d.fz b e).trans (h.fz b e),qhB h.size d.size,d.os.trans h.os,d.output.trans h.output,f _ _ _ h.k d.k⟩
def qm.stop(h:∀w₁,RC Fz K S w w₁->Stop S g w₁):qm P Fz K Stop S g w:=⟨.leaf,h⟩
def qm.step(e:g.status=.running)(h:∀w₁,RC Fz K S w w₁->∃b a d,qj5 P false g w₁=.go b a d/\DC Fz S w₁ a d/\qm P Fz K Stop (grow S w₁ a) b a):qm P Fz K Stop S g w:=by
 classical
 refine⟨.nd λs=>if c:∃r,Cot P Fz K Stop r s.S s.g s.w then ql0 c else .leaf,e,λw₁ h₁=>?_⟩;have⟨b,a,d,j,i,f⟩:=h w₁ h₁;refine⟨b,a,d,j,i,?_⟩;have c:∃r,Cot P Fz K Stop r (grow S w₁ a) b a:=f;dsimp only;rw[dif_pos c];exact qli c
def Cot.rely(e:∀a b c,K a b->K b c->K a c){r:Rk}(h:Cot P Fz K Stop r S g w)(d:RC Fz K S w w₁):Cot P Fz K Stop r S g w₁:=by
 cases r with
 | leaf=>exact λw₂ h₂=>h w₂ (d.trans e h₂)
 | nd f=>exact⟨h.1,λw₂ h₂=>h.2 w₂ (d.trans e h₂)⟩
def qm.rely(e:∀a b c,K a b->K b c->K a c)(h:qm P Fz K Stop S g w)(d:RC Fz K S w w₁):qm P Fz K Stop S g w₁:=let ⟨r,h⟩:=h;⟨r,h.rely e d⟩
def q50(S:Bs)(w:qhr):DC Fz S w w #[]:=⟨λ_ _ _=>rfl,qhv _,rfl,rfl,by simp⟩
def vY(S:Bs)(w:qhr):grow S w w=S:=by
 funext b
 simp only[grow,eq_iff_iff];exact⟨λh=>h.elim id λ⟨a,b⟩=>by omega,.inl⟩
def qm.still{a:qhw}(b:g.status=.running)(h:∀w₁,RC Fz K S w w₁->qj5 P false g w₁=.go a w₁ #[])(c:∀w₁,RC Fz K S w w₁->qm P Fz K Stop S a w₁):qm P Fz K Stop S g w :=
 .step b λw₁ h₁=>⟨a,w₁,#[],h w₁ h₁,q50 S w₁,by rw[vY];exact c w₁ h₁⟩
end
end
end Go.Co
namespace Go.Sim
section
section
variable[JunkSet]{P:qhF}{c1 c2:qhG}{e1 e2:List qhG}
def Und(c1 c2:qhG)(e1 e2:List qhG)(r b:qkq):Prop:=∀g1 u1 a,r=.go g1 u1 a->Live g1->q7F g1 ->
 (∃pre,g1.callers=pre++c1::e1/\b=.go { g1 with callers:=pre++c2::e2 } u1 a) \/
 (∃W:qhG->qhG,((∃v,W=(·.finish v))\/W=id)/\g1.frame=W c1/\g1.callers=e1/\b=.go { g1 with frame:=W c2,callers:=e2 } u1 a) \/
 (∃c,g1.frame=c1.raise c/\g1.callers=e1)
def vH{r c:qkq}{d:Array qjk}(h:Und c1 c2 e1 e2 r c):Und c1 c2 e1 e2 (qj9 d r) (qj9 d c):=λn u1 l e g f=>by
 obtain⟨o,k,rfl⟩:=jc e;rcases h _ _ _ k g f with⟨pre,a,b⟩ | ⟨W,a,b,j,i⟩ | a
 ·exact .inl ⟨pre,a,by rw[b];rfl⟩
 ·exact .inr (.inl ⟨W,a,b,j,by rw[i];rfl⟩)
 ·exact .inr (.inr a)
def qY{o:Outcome}{u:qhr}{b:Array qjk}{a:qkq}:Und c1 c2 e1 e2 (.ended o u b) a:=λ_ _ _ e _ _=>by cases e
def Q6{r b:qkq}(h:∀g u a,r≠.go g u a):Und c1 c2 e1 e2 r b:=λg u a e _ _=>absurd e (h g u a)
def qd0{g:qhw}{u:qhr}{c:Array qjk}{a:qkq}(h:¬ Live g):Und c1 c2 e1 e2 (.go g u c) a:=λ_ _ _ e b _=>by cases e;exact absurd b h
def q3g{c:qhG}{d:List qhG}{m:String}{u:qhr}{a:qkq}:Und c1 c2 e1 e2 (qp0 P c d none m u) a:=λf u1 g e b _=>absurd b.2 (z9 e)
def Yz{b:qhG}{m:String}{u:qhr}{a:qkq}:Und c1 c2 e1 e2 (qoh b m u) a:=qd0 λh=>by cases h.2
def yu{c:qhG}{pre:List qhG}{b:qkF}{f:Option qn8}{a:Option (Array ql6 × qkw)}{u:qhr}{d:Array qjk} :Und c1 c2 e1 e2 (.go { frame:=c,callers:=pre++c1::e1,status:=b,dying:=f,offers:=a } u d) (.go { frame:=c,callers:=pre++c2::e2,status:=b,dying:=f,offers:=a } u d):=λ_ _ _ e _ _=>by
 cases e;exact .inl ⟨pre,rfl,rfl⟩
def q72{d a:qhG}{pre:List qhG}{c:qkF}{f:Option qn8}{b:Option (Array ql6 × qkw)}{u:qhr}{e:Array qjk} :Und c1 c2 e1 e2 (.go { frame:=d,callers:=a::(pre++c1::e1),status:=c,dying:=f,offers:=b } u e) (.go { frame:=d,callers:=a::(pre++c2::e2),status:=c,dying:=f,offers:=b } u e) :=
 yu (pre:=a::pre)
def qf5{d a:qhG}{X pre:List qhG}{c:qkF}{g:Option qn8}{b:Option (Array ql6 × qkw)}{u:qhr}{f:Array qjk} :Und c1 c2 e1 e2 (.go { frame:=d,callers:=X++a::(pre++c1::e1),status:=c,dying:=g,offers:=b } u f) (.go { frame:=d,callers:=X++a::(pre++c2::e2),status:=c,dying:=g,offers:=b } u f):=λ_ _ _ e _ _=>by
 cases e;exact .inl ⟨X++a::pre,by simp,by simp⟩
def qa2{c:qhG}{l:List qhG}{d:qkF}{j:Option qn8}{b:Option (Array ql6 × qkw)}{u:qhr}{i:Array qjk}{f:qkq}{x:String}{a:Array qhu}{k:List qlG}(h:c.todo=.extern x a::k):Und c1 c2 e1 e2 (.go { frame:=c,callers:=l,status:=d,dying:=j,offers:=b } u i) f:=λ_ _ _ e _ g=>by
 cases e;exact absurd h (g _ _ _)
structure Y1(c1 c2:qhG)(e1 e2:List qhG):Prop where
 m1:c1.mode=.run
 m2:c2.mode=.run
 r1:∀fr,qik fr (c1::e1)=none
 r2:∀fr,qik fr (c2::e2)=none
def q49{c:qhG}{e:List qhG}(hm:c.mode=.run)(b:∀a,qik a e=none)(a:qhG):qik a (c::e)=none:=by
 unfold qik;cases a.kind with
 | deferred=>simp[hm]
 | wrapped=>simp[b]
 | _=>rfl
def YA(e:Y1 c1 c2 e1 e2):∀(pre:List qhG) (b:qhG),(qik b (pre++c1::e1)=none/\qik b (pre++c2::e2)=none)\/∃v a,qik b (pre++c1::e1)=some (v,a++c1::e1)/\qik b (pre++c2::e2)=some (v,a++c2::e2):=by
 intro pre;induction pre with
 | nil=>intro b;exact .inl ⟨e.r1 b,e.r2 b⟩
 | cons p pre f=>
  intro b;simp only[qi7];unfold qik;cases hk:b.kind with
  | deferred=>
   dsimp only;split
   ·exact .inr ⟨_,_::pre,rfl,rfl⟩
   ·exact .inl ⟨rfl,rfl⟩
  | wrapped=>
   dsimp only;rcases f p with⟨d,c⟩ | ⟨v,a,d,c⟩
   ·rw[d,c];exact .inl ⟨rfl,rfl⟩
   ·rw[d,c];exact .inr ⟨v,p::a,rfl,rfl⟩
  | _=>exact .inl ⟨rfl,rfl⟩
def J7(c:Y1 c1 c2 e1 e2){a:qhG}{pre:List qhG}(b d:Bool)(v:qhu)(u:qhr):Und c1 c2 e1 e2 (qk7 P b a (pre++c1::e1) none v u) (qk7 P d a (pre++c2::e2) none v u):=by
 unfold qk7;cases pre with
 | nil=>
  simp only[qii,c.m1,c.m2];intro f u1 g e _ _;cases hk:a.kind<;>simp only[hk] at e ⊢<;>cases e
  ·exact .inr (.inl ⟨(·.finish v),.inl ⟨v,rfl⟩,rfl,rfl,rfl⟩)
  ·exact .inr (.inl ⟨id,.inr rfl,rfl,rfl,rfl⟩)
  ·exact .inr (.inl ⟨(·.finish v),.inl ⟨v,rfl⟩,rfl,rfl,rfl⟩)
  ·exact .inr (.inl ⟨id,.inr rfl,rfl,rfl,rfl⟩)
  ·exact .inr (.inl ⟨id,.inr rfl,rfl,rfl,rfl⟩)
 | cons p pre=>
  simp only[qi7];split<;>exact yu
def qa3{a:qhG}{pre:List qhG}(g:Nat)(u:qhr):Und c1 c2 e1 e2 (early P a (pre++c1::e1) none g u) (early P a (pre++c2::e2) none g u):=by
 unfold early;dsimp only
 repeat' split
 all_goals first
  | exact yu
  | exact qY
  | exact qf5
def Q7(hrf:P.follows .rangeFuncRecover=true)(h:Y1 c1 c2 e1 e2){b:qhG}{pre:List qhG}(s:Sem qmm)(u:qhr):Und c1 c2 e1 e2 (qji P true b (pre++c1::e1) none s u) (qji P true b (pre++c2::e2) none s u):=by
 unfold qji;simp only[if_true,qiw,hrf];refine vH ?_;cases s.run P u with
 | ok a w=>
  cases a with
  | recover=>
   rcases YA h pre b with⟨g,f⟩ | ⟨v,c,g,f⟩<;>cases hro:b.roundOf<;>simp only[g,f,hro]<;>exact yu
  | stack r i=>
   dsimp only;split
   ·exact qa2 rfl
   ·exact qa2 rfl
  | spawn d=>
   dsimp only
   repeat' split
   all_goals first
    | exact Yz
    | exact Q6 (λ_ _ _ e=>by cases e)
  | _=>
   dsimp only
   repeat' split
   all_goals first
    | exact yu
    | exact q72
    | exact Q6 (λ_ _ _ e=>by cases e)
 | halt x w=>
  cases x with
  | fatal m=>exact q3g
  | throw m=>exact Yz
  | unsupported x=>cases x<;>first | exact qa3 _ _ | exact qY
  | _=>first | exact yu | exact qY
def q3h(s:Y1 c1 c2 e1 e2){f:qhG}{pre:List qhG}(d:qjH)(u:qhr):Und c1 c2 e1 e2 (qk3 P f (pre++c1::e1) none d u) (qk3 P f (pre++c2::e2) none d u):=by
 unfold qk3;by_cases g:(kJ d.target && kI f.mode)=true
 ·have:∀(a b j:qkq),(∃o u p,a=.ended o u p)->Und c1 c2 e1 e2 (if(kJ d.target && kI f.mode)=true then a else b) j:=λa b j ⟨o,u,p,e⟩=>by
   rw[if_pos g,e];exact qY
  exact this _ _ _ ⟨_,_,_,rfl⟩
 have h:∀(a b q i:qkq),Und c1 c2 e1 e2 b i->Und c1 c2 e1 e2 (if(kJ d.target && kI f.mode)=true then a else b) (if(kJ d.target && kI f.mode)=true then q else i):=λa b q i r=>by rw[if_neg g,if_neg g];exact r
 refine h _ _ _ _ ?_;simp only[qiw];refine vH ?_;cases qjd P (invoke d.target d.args) u with
 | ok a w=>
  cases a with
  | recover=>
   dsimp only;rcases YA s pre f with⟨n,l⟩ | ⟨v,k,n,l⟩<;>rw[n,l]<;>cases f.mode<;>exact yu
  | coroswitch c e=>cases e<;>first | exact qY | exact Q6 (λ_ _ _ e=>by cases e)
  | alone on v=>cases on<;>first | exact qY | exact Q6 (λ_ _ _ e=>by cases e)
  | _=>
   first
    | exact yu
    | exact q72
    | exact qY
    | exact Q6 (λ_ _ _ e=>by cases e)
 | halt x w=>
  cases x with
  | fatal m=>exact q3g
  | throw m=>exact Yz
  | _=>first | exact yu | exact qY
def q0w(a:Y1 c1 c2 e1 e2){c:qhG}{pre:List qhG}(b d:Bool)(u:qhr):Und c1 c2 e1 e2 (qmj P b c (pre++c1::e1) none u) (qmj P d c (pre++c2::e2) none u):=by
 unfold qmj;split
 ·simp only[qiw];refine vH ?_;split
  ·exact yu
  ·exact qY
 ·exact q3h a _ _
 ·split
  ·exact qY
  ·split
   ·exact qY
   ·cases pre with
    | nil=>
     intro f u1 g e _ _;cases e;exact .inr (.inr ⟨_,rfl,rfl⟩)
    | cons p pre=>exact yu
  ·split
   ·exact J7 a _ _ _ _
   ·simp only[qiw];refine vH ?_;split
    ·exact J7 a _ _ _ _
    all_goals exact qY
def qcH(hrf:P.follows .rangeFuncRecover=true)(c:Y1 c1 c2 e1 e2){fr:qhG}{pre:List qhG}(b f:Bool)(u:qhr) :Und c1 c2 e1 e2 (ql5 P b true fr (pre++c1::e1) none u) (ql5 P f true fr (pre++c2::e2) none u):=by
 have a:∀(j:Bool) (e:Option qkh) (s d:String),Und c1 c2 e1 e2 (match fr.roundOf with
   | none=>if j=true then .go { frame:={ fr with mode:=.returning },callers:=pre++c1::e1,status:=.running,dying:=none } u else .ended (.stuck s (fr.pos P)) u
   | some l=>
    let (r,es):=(qkE l e).runT P u #[]
    qj9 (seen P fr.fn es) <| match r with
    | .ok v w=>qk7 P b fr (pre++c1::e1) none v w
    | .halt _ w=>.ended (.stuck d (fr.pos P)) w) (match fr.roundOf with
   | none=>if j=true then .go { frame:={ fr with mode:=.returning },callers:=pre++c2::e2,status:=.running,dying:=none } u else .ended (.stuck s (fr.pos P)) u
   | some l=>
    let (r,es):=(qkE l e).runT P u #[]
    qj9 (seen P fr.fn es) <| match r with
    | .ok v w=>qk7 P f fr (pre++c2::e2) none v w
    | .halt _ w=>.ended (.stuck d (fr.pos P)) w):=λj e s d=>by
  split
  ·split
   ·exact yu
   ·exact qY
  ·simp only[qiw];refine vH ?_;split
   ·exact J7 c _ _ _ _
   ·exact qY
 unfold ql5;dsimp only;split
 ·exact a true _ _ _
 ·exact a true _ _ _
 all_goals first
  | exact yu
  | exact qY
  | exact Q7 hrf c _ _
  | (
    generalize qno _ _=X;cases X
    ·exact a false _ _ _
    ·exact yu)
  | (
    generalize qo5 _ _=X;cases X
    ·exact a false _ _ _
    ·exact yu)
  | (
    unfold qow
    repeat' split
    all_goals first
     | exact yu
     | exact qY
     | exact Q7 hrf c _ _)
  | (
    simp only[qiw];refine vH ?_
    repeat' split
    all_goals first
     | exact yu
     | exact qY
     | exact Q7 hrf c _ _)
  | (
    repeat' split
    all_goals first
     | exact yu
     | exact qY
     | exact Q7 hrf c _ _)
  | (
    generalize Extern.next _=X
    cases X
    ·exact qY
    ·exact Q7 hrf c _ _)
def q5o(hrf:P.follows .rangeFuncRecover=true)(c:Y1 c1 c2 e1 e2){g:qhw}{pre:List qhG}(h:g.callers=pre++c1::e1)(d:g.dying=none)(b a:Bool)(u:qhr) :Und c1 c2 e1 e2 (qj5 P b g u true) (qj5 P a { g with callers:=pre++c2::e2 } u true):=by
 obtain⟨f,k,i,j,e⟩:=g;dsimp only at h d;subst d;subst h;unfold qj5;dsimp only;cases f.mode with
 | run=>exact qcH hrf c b a u
 | returning=>exact q0w c b a u
 | panicking l=>exact q0w c b a u
end
end
section
def tl(k:List qlG)(D:List qjH)(fr:qhG):qhG:={ fr with todo:=fr.todo++k,defers:=fr.defers++D }
def qeH:qlG->Bool
 | .call .. | .extern ..=>false
 | _=>true
structure Pc(fr:qhG):Prop where
 mode:fr.mode=.run
 round:fr.roundOf=none
 todo:∃x l,fr.todo=x::l/\qeH x=true
section
variable[JunkSet]{P:qhF}{k:List qlG}{D:List qjH}{e1 e2:List qhG}
def Top(k:List qlG)(D:List qjH)(e1 e2:List qhG)(r b:qkq):Prop:=∀g1 u1 a,r=.go g1 u1 a->Live g1->q7F g1 ->
 (g1.callers=e1/\g1.frame.mode=.run/\g1.frame.roundOf=none/\b=.go { g1 with frame:=tl k D g1.frame,callers:=e2 } u1 a) \/
 (∃pre c,g1.callers=pre++c::e1/\Pc c/\b=.go { g1 with callers:=pre++tl k D c::e2 } u1 a) \/
 (g1.callers=e1/\g1.frame.mode≠.run)
def YE{r f:qkq}{g:Array qjk}(h:Top k D e1 e2 r f):Top k D e1 e2 (qj9 g r) (qj9 g f):=λp u1 o e j i=>by
 obtain⟨q,n,rfl⟩:=jc e;rcases h _ _ _ n j i with⟨a,d,b,l⟩ | ⟨pre,c,a,d,b⟩ | a
 ·exact .inl ⟨a,d,b,by rw[l];rfl⟩
 ·exact .inr (.inl ⟨pre,c,a,d,by rw[b];rfl⟩)
 ·exact .inr (.inr a)
def j6{o:Outcome}{u:qhr}{b:Array qjk}{a:qkq}:Top k D e1 e2 (.ended o u b) a:=λ_ _ _ e _ _=>by cases e
def q3k{r b:qkq}(h:∀g u a,r≠.go g u a):Top k D e1 e2 r b:=λg u a e _ _=>absurd e (h g u a)
def Yl{g:qhw}{u:qhr}{c:Array qjk}{a:qkq}(h:¬ Live g):Top k D e1 e2 (.go g u c) a:=λ_ _ _ e b _=>by cases e;exact absurd b h
def qab{c:qhG}{d:List qhG}{m:String}{u:qhr}{a:qkq}:Top k D e1 e2 (qp0 P c d none m u) a:=λf u1 g e b _=>absurd b.2 (z9 e)
def q3j{b:qhG}{m:String}{u:qhr}{a:qkq}:Top k D e1 e2 (qoh b m u) a:=Yl λh=>by cases h.2
def qaa{fr:qhG}(hm:fr.mode=.run)(g:fr.roundOf=none){c:qkF}{f:Option qn8}{a:Option (Array ql6 × qkw)}{u:qhr}{d:Array qjk}{b:qhG}(e:b=tl k D fr) :Top k D e1 e2 (.go { frame:=fr,callers:=e1,status:=c,dying:=f,offers:=a } u d) (.go { frame:=b,callers:=e2,status:=c,dying:=f,offers:=a } u d):=λ_ _ _ h _ _=>by
 cases h;exact .inl ⟨rfl,hm,g,by rw[e]⟩
def ZC{d c:qhG}(g:Pc c){X:List qhG}{b:qkF}{f:Option qn8}{a:Option (Array ql6 × qkw)}{u:qhr}{e:Array qjk} :Top k D e1 e2 (.go { frame:=d,callers:=X++c::e1,status:=b,dying:=f,offers:=a } u e) (.go { frame:=d,callers:=X++tl k D c::e2,status:=b,dying:=f,offers:=a } u e):=λ_ _ _ h _ _=>by
 cases h;exact .inr (.inl ⟨X,c,rfl,g,rfl⟩)
def qf7{c:qhG}{n:List qhG}{d:qkF}{j:Option qn8}{b:Option (Array ql6 × qkw)}{u:qhr}{i:Array qjk}{f:qkq}{x:String}{a:Array qhu}{l:List qlG}(h:c.todo=.extern x a::l):Top k D e1 e2 (.go { frame:=c,callers:=n,status:=d,dying:=j,offers:=b } u i) f:=λ_ _ _ e _ g=>by
 cases e;exact absurd h (g _ _ _)
def q29{b:qhG}(hm:b.mode≠.run){c:qkF}{f:Option qn8}{a:Option (Array ql6 × qkw)}{u:qhr}{e:Array qjk}{d:qkq} :Top k D e1 e2 (.go { frame:=b,callers:=e1,status:=c,dying:=f,offers:=a } u e) d:=λ_ _ _ h _ _=>by
 cases h;exact .inr (.inr ⟨rfl,hm⟩)
def kz(a:qhG)(b:List qn0):(a.raise b).mode≠.run:=by
 unfold qqd;split<;>simp
def qd2(a:qhG):(tl k D a).eval=a.eval:=by funext x;cases x<;>rfl
def q0A{a:qhG}(h:Pc a)(v:qhu):(tl k D a).finish v=tl k D (a.finish v):=by
 have⟨x,l,e,i⟩:=h.todo;obtain⟨p,d,c,b,f,g,o⟩:=a;dsimp only at e;subst e;unfold tl qpF;cases x with
 | inRegion j n=>cases n<;>rfl
 | call=>cases i
 | extern=>cases i
 | _=>rfl
def Qw(a:qhG)(v:qhu):(a.finish v).mode=a.mode/\(a.finish v).kind=a.kind/\(a.finish v).roundOf=a.roundOf:=by
 unfold qpF;split<;>exact⟨rfl,rfl,rfl⟩
def YC{b:qhG}(h:Pc b)(v:qhu){c:qkF}{e:Option qn8}{a:Option (Array ql6 × qkw)}{u:qhr}{d:Array qjk} :Top k D e1 e2 (.go { frame:=b.finish v,callers:=e1,status:=c,dying:=e,offers:=a } u d) (.go { frame:=(tl k D b).finish v,callers:=e2,status:=c,dying:=e,offers:=a } u d):=by
 have⟨g,i,f⟩:=Qw b v;exact qaa (g.trans h.mode) (f.trans h.round) (q0A h v)
def qac{a:qhG}(h:Pc a)(g:Nat)(u:qhr):Top k D e1 e2 (early P a e1 none g u) (early P (tl k D a) e2 none g u):=by
 have c:∀{u:qhr} {es:Array qjk},Top k D e1 e2 (.go { frame:=a,callers:=e1,status:=.running,dying:=none } u es) (.go { frame:=tl k D a,callers:=e2,status:=.running,dying:=none } u es):=qaa h.mode h.round rfl;unfold early;have b:(tl k D a).kind=a.kind:=rfl;dsimp only;simp only[b]
 repeat' split
 all_goals first
  | exact c
  | exact j6
  | exact ZC h
def q3l(hrf:P.follows .rangeFuncRecover=true)(p:∀fr,qik fr e1=none)(o:∀fr,qik fr e2=none){fr:qhG}(h:Pc fr)(s:Sem qmm)(u:qhr):Top k D e1 e2 (qji P true fr e1 none s u) (qji P true (tl k D fr) e2 none s u):=by
 obtain⟨fn,tmps,todo,defers,mode,kind,I⟩:=fr;obtain⟨B,A,z⟩:=h;dsimp only at B A;subst B A;obtain⟨fr,c⟩:∃fr:qhG,fr={ fn,tmps,todo,defers,mode:=.run,kind,roundOf:=none }:=⟨_,rfl⟩;have h:Pc { fn,tmps,todo,defers,mode:=.run,kind,roundOf:=none }:=⟨rfl,rfl,z⟩;rw[<- c] at h ⊢;have⟨x,l,e,j⟩:=h.todo;have n:(tl k D fr).roundOf=none:=h.round;have q:(tl k D fr).kind=fr.kind:=rfl;have y:(tl k D fr).fn=fr.fn:=rfl;have i:(tl k D fr).todo=x::(l++k):=by show fr.todo++k=_;rw[e];rfl
 have F:∀d:qjH,({ (tl k D fr) with defers:=d::(tl k D fr).defers }:qhG)=tl k D { fr with defers:=d::fr.defers }:=λd=>rfl;unfold qji;simp only[if_true,qiw,hrf,h.round,n,q,y];refine YE ?_;cases s.run P u with
 | ok a w=>
  cases a with
  | recover=>
   simp only[p,o];exact YC h _
  | stack r C=>
   dsimp only;rw[e,i];cases x<;>first | (cases j;done) | exact qf7 rfl
  | spawn d=>
   dsimp only
   repeat' split
   all_goals first
    | exact q3j
    | exact q3k (λ_ _ _ e=>by cases e)
  | value v=>exact YC h v
  | skip=>exact YC h _
  | defer d=>
   subst c;have G:Pc { fn,tmps,todo,defers:=d::defers,mode:=.run,kind,roundOf:=none }:=⟨rfl,rfl,z⟩;exact YC (k:=k) (D:=D) G qhx
  | enter f g=>
   dsimp only;rw[e,i];cases x<;>first | (cases j;done) | exact(ZC (X:=[]) h)
  | callThen d r C wr=>
   dsimp only;rw[e,i];cases x<;>first | (cases j;done) | exact(ZC (X:=[]) h)
  | row r g=>
   dsimp only;rw[e,i];cases x<;>first | (cases j;done) | exact(ZC (X:=[]) h)
  | round l f H M L=>exact(ZC (X:=[]) h)
  | sleep t=>exact Yl λb=>by cases b.1
  | _=>exact q3k (λ_ _ _ e=>by cases e)
 | halt x w=>
  cases x with
  | fatal m=>exact qab
  | throw m=>exact q3j
  | unsupported x=>cases x<;>first | exact qac h _ _ | exact j6
  | panic v=>exact q29 (kz _ _)
  | goexit=>exact q29 (kz _ _)
  | blocked=>exact Yl λb=>by cases b.1
  | waiting=>exact Yl λb=>by cases b.1
  | _=>exact j6
def Zw{id:Nat}{b:List qlG}:∀{l:List qlG},qno id l=some b->qno id (l++k)=some (b++k)
 | [],h=>by simp[qno] at h
 | x::l,h=>by
  cases x with
  | inBlock c=>
   simp only[qno,qi7] at h ⊢;split
   ·rename_i a;rw[if_pos a] at h;cases h;rfl
   ·rename_i a;rw[if_neg a] at h;exact Zw h
  | _=>simp only[qno,qi7] at h ⊢;exact Zw h
def Zq{id:Nat}{b:List qlG}:∀{l:List qlG},qo5 id l=some b->qo5 id (l++k)=some (b++k)
 | [],h=>by simp[qo5] at h
 | x::l,h=>by
  cases x with
  | inScope a=>
   simp only[qo5,qi7] at h ⊢;cases hf:findLabel a id with
   | none=>rw[hf] at h;exact Zq h
   | some r=>rw[hf] at h;cases h;rfl
  | _=>simp only[qo5,qi7] at h ⊢;exact Zq h
def qad(hrf:P.follows .rangeFuncRecover=true)(B:∀fr,qik fr e1=none)(A:∀fr,qik fr e2=none){g:qhw}(h:Pc g.frame)(Q:g.callers=e1)(O:g.dying=none)(b b':Bool)(u:qhr) :Top k D e1 e2 (qj5 P b g u true) (qj5 P b' { g with frame:=tl k D g.frame,callers:=e2 } u true):=by
 obtain⟨⟨fn,tmps,todo,defers,mode,kind,ro⟩,G,st,dy,off⟩:=g;dsimp only at h Q O;subst O;subst Q;obtain⟨T,S,X⟩:=h;dsimp only at T S;subst T S;obtain⟨fr,C⟩:∃fr:qhG,fr={ fn,tmps,todo,defers,mode:=.run,kind,roundOf:=none }:=⟨_,rfl⟩;have h:Pc { fn,tmps,todo,defers,mode:=.run,kind,roundOf:=none }:=⟨rfl,rfl,X⟩;rw[<- C] at h ⊢;have⟨x,l,e,N⟩:=h.todo;have hm:=h.mode;have p:=h.round;have o:∀(t:List qlG) {st:qkF} {dy:Option qn8} {off:Option (Array ql6 × qkw)} {u:qhr} {es:Array qjk},
   Top k D G e2 (.go { frame:={ fr with todo:=t },callers:=G,status:=st,dying:=dy,offers:=off } u es) (.go { frame:={ (tl k D fr) with todo:=t++k },callers:=e2,status:=st,dying:=dy,offers:=off } u es):=λt=>qaa (fr:={ fr with todo:=t }) h.mode h.round rfl
 have R:∀(s:Sem qmm) (u:qhr),Top k D G e2 (qji P true fr G none s u) (qji P true (tl k D fr) e2 none s u):=λs u=>q3l hrf B A h s u;have M:(tl k D fr).todo=x::(l++k):=by show fr.todo++k=_;rw[e];rfl
 have I:(tl k D fr).mode=.run:=hm;have r:(tl k D fr).roundOf=none:=p;have F:(tl k D fr).eval=fr.eval:=qd2 fr;have v:(tl k D fr).fn=fr.fn:=rfl;have z:(tl k D fr).tmps=fr.tmps:=rfl;unfold qj5;dsimp only;rw[hm,I];dsimp only;unfold ql5;dsimp only;rw[e,M];cases x with
 | code c=>
  cases c with
  | skip=>exact o l
  | label n=>exact o l
  | seq a b=>exact o (.code a::.code b::l)
  | block id f=>exact o (.code f::.inBlock id::l)
  | loop f=>exact o (.code f::.inLoop f::l)
  | scope f=>exact o (.code f::.inScope f::l)
  | refuse w=>exact j6
  | ret=>
   dsimp only;rw[p];exact q29 (by simp)
  | cond c a b=>
   dsimp only;rw[F];split
   ·exact o (_::l)
   ·exact j6
  | exit id=>
   dsimp only;cases hx:qno id l with
   | none=>simp only[qrv,p];exact j6
   | some H=>rw[Zw hx];exact o H
  | goto id=>
   dsimp only;cases hx:qo5 id l with
   | none=>simp only[qrv,p];exact j6
   | some H=>rw[Zq hx];exact o H
  | region id q U=>
   dsimp only;split
   ·exact o (.inRegion q (qil q.size)::l)
   ·rw[v];split
    ·exact o (.inRegion q _::l)
    ·exact j6
  | rangeFunc Y ps as f=>
   dsimp only;rw[v,z,p,r];simp only[qiw];refine YE ?_;split
   ·rename_i y mk w _
    subst C;have W:Pc { fn,tmps,todo:=.inRangeFunc y::l,defers:=mk++defers,mode:=.run,kind,roundOf:=none }:=⟨rfl,rfl,_,_,rfl,rfl⟩;have:=q3l (k:=k) (D:=D) (e1:=G) (e2:=e2) (P:=P) hrf B A W (do let d <- resolve (qmu { fn,tmps,todo:=.inRangeFunc y::l,defers:=mk++defers,mode:=.run,kind,roundOf:=none }) { callee:=.value Y,args:=#[.const (.func (.yield y) #[] #[])],argTypes:=#[] } 0;invoke d.target d.args) w;have Z:tl k D { fn,tmps,todo:=.inRangeFunc y::l,defers:=mk++defers,mode:=.run,kind,roundOf:=none }={ fn,tmps,todo:=.inRangeFunc y::(l++k),defers:=mk++(defers++D),mode:=.run,kind,roundOf:=none }:=by
     simp[tl]
    rw[Z] at this;exact this
   ·exact j6
 | inBlock id=>exact o l
 | inScope c=>exact o l
 | inLoop f=>exact o (.code f::.inLoop f::l)
 | inRangeFunc n=>exact j6
 | beginRound=>
  dsimp only;rw[p,r];exact R _ u
 | endRangeFunc n=>
  dsimp only;rw[v];simp only[qiw];refine YE ?_;split
  ·rename_i j w _
   have:=o ((j.map Item.code).toList++l) (st:=.running) (dy:=none) (off:=none) (u:=w) (es:=#[]);rw[qk8] at this;exact this
  ·exact q29 (kz _ _)
  ·exact j6
 | inRegion q L=>
  cases L with
  | nil=>exact o l
  | cons i L=>
   dsimp only;rw[z];split
   ·unfold qow;have V:(tl k D fr).oper?=fr.oper?:=by unfold Frame.oper?;rw[e,M]
    rw[V];split
    ·exact j6
    ·rw[p,r,F];exact R _ u
   ·exact YC h qhx
 | call=>cases N
 | extern=>cases N
end
end
section
def qes(e1:List qhG)(g:qhw):Prop:=(g.callers=e1/\g.frame.mode≠.run)\/∃pre c,g.callers=pre++c::e1/\c.mode≠.run
section
variable[JunkSet]{P:qhF}{e1:List qhG}
def Dm(e1:List qhG)(r:qkq):Prop:=∀a u1 b,r=.go a u1 b->Live a->qes e1 a\/(∃x,e1=x::a.callers)
def yp{r:qkq}{d:Array qjk}(h:Dm e1 r):Dm e1 (qj9 d r):=λf u1 c e a=>by
 obtain⟨g,b,rfl⟩:=jc e;exact h _ _ _ b a
def qL{o:Outcome}{u:qhr}{a:Array qjk}:Dm e1 (.ended o u a):=λ_ _ _ e _=>by cases e
def yY{r:qkq}(h:∀g u a,r≠.go g u a):Dm e1 r:=λg u a e _=>absurd e (h g u a)
def qe7{g:qhw}{u:qhr}{b:Array qjk}(h:¬ Live g):Dm e1 (.go g u b):=λ_ _ _ e a=>by cases e;exact absurd a h
def KB{b:qhG}{c:List qhG}{m:String}{u:qhr}:Dm e1 (qp0 P b c none m u):=λd u1 f e a=>absurd a.2 (z9 e)
def J0{a:qhG}{m:String}{u:qhr}:Dm e1 (qoh a m u):=qe7 λh=>by cases h.2
def jU{f c:qhG}{pre:List qhG}(d:c.mode≠.run){b:qkF}{h:Option qn8}{a:Option (Array ql6 × qkw)}{u:qhr}{g:Array qjk} :Dm e1 (.go { frame:=f,callers:=pre++c::e1,status:=b,dying:=h,offers:=a } u g):=λ_ _ _ e _=>by
 cases e;exact .inl (.inr ⟨pre,c,rfl,d⟩)
def q7v{f a c:qhG}{pre:List qhG}(e:c.mode≠.run){d:qkF}{h:Option qn8}{b:Option (Array ql6 × qkw)}{u:qhr}{g:Array qjk} :Dm e1 (.go { frame:=f,callers:=a::(pre++c::e1),status:=d,dying:=h,offers:=b } u g):=jU (pre:=a::pre) e
def qfG{g a c:qhG}{X pre:List qhG}(f:c.mode≠.run){d:qkF}{i:Option qn8}{b:Option (Array ql6 × qkw)}{u:qhr}{h:Array qjk} :Dm e1 (.go { frame:=g,callers:=X++a::(pre++c::e1),status:=d,dying:=i,offers:=b } u h):=λ_ _ _ e _=>by
 cases e;exact .inl (.inr ⟨X++a::pre,c,by simp,f⟩)
def vA{b:qhG}(d:b.mode≠.run){c:qkF}{g:Option qn8}{a:Option (Array ql6 × qkw)}{u:qhr}{f:Array qjk} :Dm e1 (.go { frame:=b,callers:=e1,status:=c,dying:=g,offers:=a } u f):=λ_ _ _ e _=>by
 cases e;exact .inl (.inl ⟨rfl,d⟩)
def q6v:∀(pre:List qhG) (b c:qhG) (v:qhu) (d:List qhG),c.mode≠.run->qik b (pre++c::e1)=some (v,d)->(∀b,qik b e1=none)->∃a f,d=a++f::e1/\f.mode≠.run:=by
 intro pre;induction pre with
 | nil=>
  intro b c v d i h hR;simp only[qii] at h;unfold qik at h;cases hk:b.kind with
  | deferred=>
   rw[hk] at h;dsimp only at h;split at h
   ·simp only[qiD,Prod.mk.injEq] at h;exact⟨[],_,h.2.symm,by simp⟩
   ·cases h
  | wrapped=>
   rw[hk] at h;dsimp only at h;rw[hR] at h;cases h
  | _=>rw[hk] at h;cases h
 | cons p pre j=>
  intro b c v d i h hR;simp only[qi7] at h;unfold qik at h;cases hk:b.kind with
  | deferred=>
   rw[hk] at h;dsimp only at h;split at h
   ·simp only[qiD,Prod.mk.injEq] at h;exact⟨_::pre,c,h.2.symm,i⟩
   ·cases h
  | wrapped=>
   rw[hk] at h;dsimp only at h;cases ht:qik p (pre++c::e1) with
   | none=>rw[ht] at h;cases h
   | some x=>
    obtain⟨k,l⟩:=x;rw[ht] at h;simp only[qjh,qiD,Prod.mk.injEq] at h;have⟨a,f,e,g⟩:=j _ _ _ _ i ht hR;exact⟨p::a,f,by rw[<- h.2,e];rfl,g⟩
  | _=>rw[hk] at h;cases h
def q1z(a:qhG)(v:qhu):(a.finish v).mode=a.mode:=(Qw a v).1
def Jt{d c:qhG}{pre:List qhG}(a:c.mode≠.run)(b:Bool)(v:qhu)(u:qhr):Dm e1 (qk7 P b d (pre++c::e1) none v u):=by
 unfold qk7;cases pre with
 | nil=>
  simp only[qii];split
  ·exact vA (by rw[q1z];exact a)
  ·exact vA (by rw[q1z];exact a)
  ·exact vA a
  ·refine vA ?_;split
   ·split<;>simp
   ·exact a
 | cons p pre=>
  simp only[qi7];split<;>exact jU a
def qcf{b c:qhG}{pre:List qhG}(a:c.mode≠.run)(g:Nat)(u:qhr):Dm e1 (early P b (pre++c::e1) none g u):=by
 unfold early;dsimp only
 repeat' split
 all_goals first
  | exact jU a
  | exact qL
  | exact qfG a
variable(hrf:P.follows .rangeFuncRecover=true)(hR:∀fr,qik fr e1=none)
include hR
theorem qcd{g c:qhG}{pre:List qhG}(i:c.mode≠.run){v:qhu}{d:List qhG}(h:qik g (pre++c::e1)=some (v,d)){b:qhG}{u:qhr}{j:Array qjk}:Dm e1 (.go { frame:=b,callers:=d,status:=.running,dying:=none } u j):=by
 have⟨f,k,e,a⟩:=q6v pre g c v d i h hR;rw[e];exact jU a
theorem QA(hrf:P.follows .rangeFuncRecover=true){f c:qhG}{pre:List qhG}(b:c.mode≠.run)(s:Sem qmm)(u:qhr):Dm e1 (qji P true f (pre++c::e1) none s u):=by
 unfold qji;simp only[if_true,qiw,hrf];refine yp ?_;cases s.run P u with
 | ok a w=>
  cases a with
  | recover=>
   rcases hX:qik f (pre++c::e1) with _ | ⟨v,k⟩<;>cases hro:f.roundOf<;>simp only[hX,hro]<;>first | exact qcd hR b hX | exact jU b
  | spawn d=>
   dsimp only
   repeat' split
   all_goals first
    | exact J0
    | exact yY (λ_ _ _ e=>by cases e)
  | _=>
   dsimp only
   repeat' split
   all_goals first
    | exact jU b
    | exact q7v b
    | exact yY (λ_ _ _ e=>by cases e)
 | halt x w=>
  cases x with
  | fatal m=>exact KB
  | throw m=>exact J0
  | unsupported x=>cases x<;>first | exact qcf b _ _ | exact qL
  | _=>first | exact jU b | exact qL
theorem q4H{h c:qhG}{pre:List qhG}(g:c.mode≠.run)(d:qjH)(u:qhr):Dm e1 (qk3 P h (pre++c::e1) none d u):=by
 unfold qk3;by_cases f:(kJ d.target && kI h.mode)=true
 ·have:∀(a b:qkq),(∃o u j,a=.ended o u j)->Dm e1 (if(kJ d.target && kI h.mode)=true then a else b):=λa b ⟨o,u,j,e⟩=>by
   rw[if_pos f,e];exact qL
  exact this _ _ ⟨_,_,_,rfl⟩
 have i:∀(a b:qkq),Dm e1 b->Dm e1 (if(kJ d.target && kI h.mode)=true then a else b):=λa b k=>by rw[if_neg f];exact k
 refine i _ _ ?_;simp only[qiw];refine yp ?_;cases qjd P (invoke d.target d.args) u with
 | ok a w=>
  cases a with
  | recover=>
   dsimp only;split
   ·rename_i l
    exact qcd hR g l
   ·exact jU g
  | coroswitch c e=>cases e<;>first | exact qL | exact yY (λ_ _ _ e=>by cases e)
  | alone on v=>cases on<;>first | exact qL | exact yY (λ_ _ _ e=>by cases e)
  | _=>
   first
    | exact jU g
    | exact q7v g
    | exact qL
    | exact yY (λ_ _ _ e=>by cases e)
 | halt x w=>
  cases x with
  | fatal m=>exact KB
  | throw m=>exact J0
  | _=>first | exact jU g | exact qL
theorem q1C{d c:qhG}{pre:List qhG}(a:c.mode≠.run)(b:Bool)(u:qhr):Dm e1 (qmj P b d (pre++c::e1) none u):=by
 unfold qmj;split
 ·simp only[qiw];refine yp ?_;split
  ·exact jU a
  ·exact qL
 ·exact q4H hR a _ _
 ·split
  ·exact qL
  ·split
   ·exact qL
   ·cases pre with
    | nil=>exact vA (kz _ _)
    | cons p pre=>exact jU a
  ·split
   ·exact Jt a _ _ _
   ·simp only[qiw];refine yp ?_;split
    ·exact Jt a _ _ _
    all_goals exact qL
theorem qe6(hrf:P.follows .rangeFuncRecover=true){fr c:qhG}{pre:List qhG}(d:c.mode≠.run)(b:Bool)(u:qhr):Dm e1 (ql5 P b true fr (pre++c::e1) none u):=by
 have a:∀(j:Bool) (f:Option qkh) (s e:String),Dm e1 (match fr.roundOf with
   | none=>if j=true then .go { frame:={ fr with mode:=.returning },callers:=pre++c::e1,status:=.running,dying:=none } u else .ended (.stuck s (fr.pos P)) u
   | some l=>
    let (r,es):=(qkE l f).runT P u #[]
    qj9 (seen P fr.fn es) <| match r with
    | .ok v w=>qk7 P b fr (pre++c::e1) none v w
    | .halt _ w=>.ended (.stuck e (fr.pos P)) w):=λj f s e=>by
  split
  ·split
   ·exact jU d
   ·exact qL
  ·simp only[qiw];refine yp ?_;split
   ·exact Jt d _ _ _
   ·exact qL
 unfold ql5;dsimp only;split
 ·exact a true _ _ _
 ·exact a true _ _ _
 all_goals first
  | exact jU d
  | exact qL
  | exact QA hR hrf d _ _
  | (
    generalize qno _ _=X;cases X
    ·exact a false _ _ _
    ·exact jU d)
  | (
    generalize qo5 _ _=X;cases X
    ·exact a false _ _ _
    ·exact jU d)
  | (
    unfold qow
    repeat' split
    all_goals first
     | exact jU d
     | exact qL
     | exact QA hR hrf d _ _)
  | (
    simp only[qiw];refine yp ?_
    repeat' split
    all_goals first
     | exact jU d
     | exact qL
     | exact QA hR hrf d _ _)
  | (
    repeat' split
    all_goals first
     | exact jU d
     | exact qL
     | exact QA hR hrf d _ _)
  | (
    generalize Extern.next _=X
    cases X
    ·exact qL
    ·exact QA hR hrf d _ _)
theorem qe5{f x:qhG}(g:f.mode≠.run)(b:Bool)(u:qhr)(s:∀f,qik f (x::e1)=none):Dm (x::e1) (qmj P b f (x::e1) none u):=by
 have k:∀{fr2:qhG} {st:qkF} {dy:Option qn8} {off:Option (Array ql6 × qkw)} {u:qhr} {i:Array qjk} {f:qhG},f.mode≠.run->Dm (x::e1) (.go { frame:=fr2,callers:=f::x::e1,status:=st,dying:=dy,offers:=off } u i):=λh=>jU (pre:=[]) h;have l:∀{fr2:qhG} {st:qkF} {dy:Option qn8} {off:Option (Array ql6 × qkw)} {u:qhr} {i:Array qjk},Dm (x::e1) (.go { frame:=fr2,callers:=e1,status:=st,dying:=dy,offers:=off } u i):=λ_ _ _ e _=>by
  cases e;exact .inr ⟨x,rfl⟩
 have j:∀(v:qhu) (u:qhr),Dm (x::e1) (qk7 P b f (x::e1) none v u):=λv u=>by
  unfold qk7;dsimp only;split<;>exact l
 unfold qmj;split
 ·simp only[qiw];refine yp ?_;split
  ·(refine vA ?_;exact g)
  ·exact qL
 ·rename_i d t _ _
  unfold qk3;by_cases n:(kJ d.target && kI f.mode)=true
  ·have:∀(a b:qkq),(∃o u i,a=.ended o u i)->Dm (x::e1) (if(kJ d.target && kI f.mode)=true then a else b):=λa b ⟨o,u,i,e⟩=>by
    rw[if_pos n,e];exact qL
   exact this _ _ ⟨_,_,_,rfl⟩
  have p:∀(a b:qkq),Dm (x::e1) b->Dm (x::e1) (if(kJ d.target && kI f.mode)=true then a else b):=λa b q=>by rw[if_neg n];exact q
  refine p _ _ ?_;simp only[qiw];refine yp ?_;cases qjd P (invoke d.target d.args) u with
  | ok a w=>
   cases a with
   | recover=>
    dsimp only;rw[s];split
    ·rename_i r;cases r
    ·(refine vA ?_;exact g)
   | coroswitch c e=>cases e<;>first | exact qL | exact yY (λ_ _ _ e=>by cases e)
   | alone on v=>cases on<;>first | exact qL | exact yY (λ_ _ _ e=>by cases e)
   | _=>
    first
     | (refine vA ?_;exact g)
     | (refine k ?_;exact g)
     | exact qL
     | exact yY (λ_ _ _ e=>by cases e)
  | halt y w=>
   cases y with
   | fatal m=>exact KB
   | throw m=>exact J0
   | _=>first | (refine vA ?_;exact g) | exact qL | (refine vA ?_;exact kz _ _)
 ·split
  ·rename_i hm;exact absurd hm g
  ·split
   ·exact qL
   ·exact l
  ·split
   ·exact j _ _
   ·simp only[qiw];refine yp ?_;split
    ·exact j _ _
    all_goals exact qL
end
end
section
inductive Lay (k:List qlG) (D:List qjH) (real:List qhG) (f:qj8) (gv:qhw):qhw->Prop
 | top:gv.callers=[ql f]->gv.frame.mode=.run->gv.frame.roundOf=none->Lay k D real f gv { gv with frame:=tl k D gv.frame,callers:=real }
 | und (pre:List qhG) (c:qhG):gv.callers=pre++[c,ql f]->Pc c->Lay k D real f gv { gv with callers:=pre++tl k D c::real }
section
variable[JunkSet](Q P:qhF)(base:Nat)(F:qhw->qhr->Prop)(f:qj8)(k:List qlG)(D:List qjH)(real:List qhG)
structure KU(Z:Ren)(g:qhw)(wq:qhr)(g':qhw)(w:qhr):Prop where
 len:base<=Z.length
 wr:WR Q base Z wq w
 gl:Gl P Z
 tree:LT Q F g wq
 stack:∃pre,g.callers=pre++[ql f]
 rel:∃gv,kV Q P Z g gv/\Lay k D real f gv g'
structure q5h:Prop where
 cs:∀g u,F g u->g.callers=[ql f]
 md:∀g u,F g u->g.frame.mode=.run
end
section
variable[JunkSet]{Q P:qhF}{base:Nat}{F:qhw->qhr->Prop}{f:qj8}{k:List qlG}{D:List qjH}{real:List qhG}
def q7E{Y:Type}{pre:List Y}{c x:Y}(h:pre++[c,x]=[x]):False:=by
 have:=congrArg List.length h;simp at this
def q19(j:Q.follows .rangeFuncRecover=true)(l:q5h F f){b:qhw}{u1:qhr}(h:LT Q F b u1)(e:Popped f b.frame)(d:b.callers=[])(g:b.dying=none):False:=by
 cases h with
 | done h=>have:=l.cs _ _ h;rw[d] at this;cases this
 | step _ p _=>
  have⟨v,u2,s,i,_,_⟩:=p u1.tape;obtain⟨q,u,c,t,a⟩:=b;dsimp only at d e g;subst d;subst g;have⟨o,u3,r,n⟩:=Qk (Q:=Q) e c a (u1.tp u1.tape);rw[n] at i;cases i
def LT.doom(d:Q.follows .rangeFuncRecover=true)(A:q5h F f){g:qhw}{u:qhr}(h:LT Q F g u)(s:qes [ql f] g)(i:g.dying=none):False:=by
 induction h with
 | done h=>
  rcases s with⟨_,hm⟩ | ⟨pre,c,e,_⟩
  ·exact hm (A.md _ _ h)
  ·rw[A.cs _ _ h] at e;exact q7E e.symm
 | @step g u R N M H=>
  have⟨t,u1,O,e,y,a⟩:=N u.tape;have b:=yf (f:=f);have w:∃pre,g.callers=pre++[ql f]:=by
   rcases s with⟨e,_⟩ | ⟨pre,c,e,_⟩
   ·exact⟨[],e⟩
   ·exact⟨pre++[c],by rw[e];simp⟩
  obtain⟨C,q⟩:=w;have j:qes [ql f] t\/∃x,[ql f]=x::t.callers:=by
   obtain⟨n,T,B,S,p⟩:=g;dsimp only at i s;subst i;rcases s with⟨z,hm⟩ | ⟨pre,c,z,hm⟩
   ·subst z;have:qj5 Q true { frame:=n,callers:=[ql f],status:=B,dying:=none,offers:=p } (u.tp u.tape) true=qmj Q true n [ql f] none (u.tp u.tape):=by
     unfold qj5;dsimp only;cases hmm:n.mode<;>first | exact absurd hmm hm | rfl
    rw[this] at e;exact qe5 (P:=Q) (e1:=[]) (by intro n;unfold qik;cases n.kind<;>rfl) hm true _ b _ _ _ e ⟨y,a⟩
   ·subst z;have v:Dm [ql f] (qj5 Q true { frame:=n,callers:=pre++c::[ql f],status:=B,dying:=none,offers:=p } (u.tp u.tape) true):=by
     unfold qj5;dsimp only;cases n.mode with
     | run=>exact qe6 b d hm true _
     | returning=>exact q1C b hm true _
     | panicking l=>exact q1C b hm true _
    exact v _ _ _ e ⟨y,a⟩
  rcases j with j | ⟨x,I⟩
  ·exact H _ _ _ _ e j a
  ·have r:t.callers=[]:=by simpa using(List.cons.inj I).2.symm
   rcases Qe (f:=f) d q i (u.tp u.tape) t u1 O e y a with⟨o,G⟩ | ⟨_,L⟩
   ·rw[r] at G;cases o<;>simp at G
   ·exact q19 d A (M _ _ _ _ e) L r a
def zp.plain{Z:Ren}{x a:qlG}(h:zp Q Z x a):qeH a=true:=by cases h<;>rfl
def q1j{Z:Ren}{m a:FrameMode}(h:kU Z m a):m=.run↔a=.run:=by cases h<;>simp
def KM{Z:Ren}{b:List qhG}(h:LsR (qw Q P Z) b [ql f])(a:∃pre,b=pre++[ql f]):b=[ql f]:=by
 obtain⟨pre,rfl⟩:=a;have:=h.length;cases pre with
 | nil=>rfl
 | cons x pre=>simp at this
def KU.step(H:Duo Q P)(hrf:P.follows .rangeFuncRecover=true)(hrr:∀fr,qik fr real=none)(hF:q5h F f)(a6:∀fk,Q.funcs[fk]?≠P.funcs[fk]?->∀a k cs u,∃o w t,qj5 Q true { frame:=qiz Q fk a k,callers:=cs,status:=.running,dying:=none } u true=.ended o w t){Z:Ren}{g:qhw}{wq:qhr}{g':qhw}{w:qhr}(h:KU Q P base F f k D real Z g wq g' w)(hn:¬ F g wq)(b:Bool) :∃O I i d r t,qj5 P b g' w true=.go d r t/\KU Q P base F f k D real O I i d r/\Below Q F (I,i) (g,wq)/\Eff base Z O w r/\(∀e∈t,kY base O e)/\Live d:=by
 have R:Q.follows .rangeFuncRecover=true:=H.rfr;have⟨gv,M,hl⟩:=h.rel;have⟨e8,S⟩:=h.stack;have⟨O,I,i,q,r,t,k0,k1,k2,k3,k4,k5,k6,k7,k8,d9,U⟩:=Kf H h.len h.wr h.gl M h.tree hn b;obtain⟨_,T,c8,e1⟩:=k6;dsimp only at e1;have a7:∃y,I.callers=y++[ql f]:=by
  rcases Qe (f:=f) R S M.dy (wq.tp T) I i c8 e1 d9 U with L | ⟨L,hp⟩
  ·exact L
  ·exact(q19 R hF k5 hp L U).elim
 have j:kV Q P O I q:=by
  rcases k1 with⟨_,k1⟩ | ⟨fk,kk,a,a',c,c',cs,n7,e4,m6,rfl,rfl,ha,X,g5,hm⟩
  ·exact k1
  ·exfalso;have⟨o,u,n6,e2⟩:=a6 fk e4 a kk (c::cs) (i.tp i.tape);cases k5 with
   | done L=>
    have C:=hF.cs _ _ L;dsimp only at C;simp only[qkG] at C;rw[C.1] at hm;rcases hm with hm | hm
    ·exact hm rfl
    ·exact hm _ _ rfl
   | step _ p _=>
    have⟨g3,u3,n4,e3,_⟩:=p i.tape;rw[e2] at e3;cases e3
 have B:qes [ql f] I->False:=λhd=>LT.doom R hF k5 hd U;have mk:∀d,Lay k D real f q d->qj5 P b g' w true=.go d r t->Live d->∃O I i d r t,qj5 P b g' w true=.go d r t/\KU Q P base F f k D real O I i d r/\Below Q F (I,i) (g,wq)/\Eff base Z O w r/\(∀e∈t,kY base O e)/\Live d :=
  λd b6 he e5=>⟨O,I,i,d,r,t,he,⟨k4,k2,k3,k5,a7,q,j,b6⟩,⟨hn,T,c8,e1⟩,k7,k8,e5⟩
 have A:q.callers=[ql f]->q.frame.mode≠.run->False:=λX hm=>by
  have b8:=j.callers;rw[X] at b8;exact B (.inl ⟨KM b8 a7,λe=>hm ((q1j j.frame.mode).1 e)⟩)
 cases hl with
 | top X hm a8=>
  have V:=M.callers;rw[X] at V;have N:g.callers=[ql f]:=KM V h.stack;clear V;have n:=M.frame.todo;cases ht:g.frame.todo with
  | nil=>
   exfalso;have b0:g.frame.mode=.run:=(q1j M.frame.mode).2 hm;have a9:g.frame.roundOf=none:=by
    rcases M.frame.round with⟨L,_⟩ | ⟨_,_,_,L,_⟩
    ·exact L
    ·rw[a8] at L;cases L
   have b7:=M.dy;obtain⟨⟨fn,tmps,todo,defers,mode,kind,ro⟩,cs,st,dy,d6⟩:=g;dsimp only at b0 a9 b7 ht N;subst b0 a9 b7 ht;subst N;have e2:qj5 Q true { frame:={ fn:=fn,tmps:=tmps,todo:=[],defers:=defers,mode:=.run,kind:=kind,roundOf:=none },callers:=[ql f],status:=st,dying:=none,offers:=d6 } (wq.tp T) true=.go { frame:={ fn:=fn,tmps:=tmps,todo:=[],defers:=defers,mode:=.returning,kind:=kind,roundOf:=none },callers:=[ql f],status:=.running,dying:=none } (wq.tp T) #[]:=by
    simp[qj5,ql5]
   rw[e2] at e1;cases e1;exact B (.inl ⟨rfl,by simp⟩)
  | cons x l=>
   rw[ht] at n;generalize d8:gv.frame.todo=vt at n;cases n with
   | cons hx m3=>
    rename_i x' l'
    have s:Pc gv.frame:=⟨hm,a8,x',l',d8,zp.plain hx⟩;have z:=qad (k:=k) (D:=D) (e2:=real) hrf yf hrr s X M.dy' b b w;rcases z q r t k0 ⟨j.st',j.dy'⟩ (K8 j) with⟨p,G,Y,h5⟩ | ⟨pre,c,p,G,Y⟩ | ⟨p,G⟩
    ·exact mk _ (.top p G Y) h5 ⟨j.st',j.dy'⟩
    ·exact mk _ (.und pre c p G) Y ⟨j.st',j.dy'⟩
    ·exact(A p G).elim
 | und pre c X s=>
  have hN:Y1 c (tl k D c) [ql f] real:=⟨s.mode,s.mode,λfr=>q49 s.mode yf fr,λfr=>q49 (c:=tl k D c) s.mode hrr fr⟩;have z:=q5o (c1:=c) (c2:=tl k D c) (e1:=[ql f]) (e2:=real) hrf hN (g:=gv) (pre:=pre) X M.dy' b b w;rcases z q r t k0 ⟨j.st',j.dy'⟩ (K8 j) with⟨y,p,G⟩ | ⟨W,hφ,p,G,Y⟩ | ⟨ch,p,G⟩
  ·exact mk _ (.und y c p s) G ⟨j.st',j.dy'⟩
  ·have hφ1:W (tl k D c)=tl k D (W c)/\(W c).mode=.run/\(W c).roundOf=none:=by
    rcases hφ with⟨v,rfl⟩ | rfl
    ·have⟨q1,q2,q3⟩:=Qw c v;exact⟨q0A s v,q1.trans s.mode,q3.trans s.round⟩
    ·exact⟨rfl,s.mode,s.round⟩
   rw[hφ1.1,<- p] at Y;exact mk _ (.top G (by rw[p];exact hφ1.2.1) (by rw[p];exact hφ1.2.2)) Y ⟨j.st',j.dy'⟩
  ·exact(A G (by rw[p];exact kz _ _)).elim
def KU.rely{Z:Ren}{g:qhw}{l:qhr}{n:qhw}{w a:qhr}(h:KU Q P base F f k D real Z g l n w)(d:w.heap.size<=a.heap.size)(b:a.os.env=w.os.env)(o:∀i j,BR Z i j->¬ JunkSet.jk i->a.heap[j]?=w.heap[j]?)(p:∀i j,BR Z i j->JunkSet.jk i->∃c e f,a.heap[j]?=some (.cells c e f)):KU Q P base F f k D real Z g l n a :=
 ⟨h.len,h.wr.rely d b o p,h.gl,h.tree,h.stack,h.rel⟩
end
end
end Go.Sim
namespace Go.Co
section
open Go.Conc Go.ConcN Go.Sim
structure Own(base:Nat)(Z:Ren)(jk:Nat->Prop)(Fz S:Bs):Prop where
 low:∀i j,BR Z i j->i<base->¬ jk i->Fz j
 own:∀i j,BR Z i j->base<=i->S j
section
variable[JunkSet]{Q P:qhF}{base:Nat}{F:qhw->qhr->Prop}{f:qj8}{k:List qlG}{D:List qjH}{real:List qhG}{Fz:Bs}{K:qhr->qhr->Prop}{Stop:Bs->qhw->qhr->Prop}
def q4l{a b:qhw}(h:Lay k D real f a b)(c:a.status=.running):b.status=.running:=by cases h<;>exact c
def Own.step{Z O:Ren}{S:Bs}{w e:qhr}(h:Own base Z JunkSet.jk Fz S)(o:Eff base Z O w e)(q:base<=Z.length)(l:∀i j,BR O i j->j<e.heap.size):Own base O JunkSet.jk Fz (grow S w e):=by
 have b:∀i j,BR O i j->i<Z.length->BR Z i j:=λi j a d=>by
  obtain⟨⟨V,rfl⟩,_⟩:=o.le;unfold BR at a ⊢
  rwa [qir d] at a
 refine⟨λi j a d p=>h.low i j (b i j a (by omega)) d p,λi j a d=>?_⟩;rcases qjy i Z.length with c | n
 ·exact .inl (h.own i j (b i j a c) d)
 ·exact .inr ⟨o.fresh i j a n,l i j a⟩
def q9p{Z O:Ren}{S:Bs}{I w s:qhr}{H:Array qjk}(h:Own base Z JunkSet.jk Fz S)(l:Eff base Z O w s)(L:base<=Z.length)(u:WR Q base O I s)(B:∀e∈H,kY base O e):DC Fz S w s H:=by
 have p:∀i j,BR O i j->i<Z.length->BR Z i j:=λi j r z=>by
  obtain⟨⟨V,rfl⟩,_⟩:=l.le;unfold BR at r ⊢
  rwa [qir z] at r
 have g:∀i j,BR O i j->base<=i->grow S w s j:=(h.step l L u.lt).own;refine⟨λb C M=>l.keep b C λi z=>qpx λy=>M (h.own i b z y),l.size,l.os,l.output,λe q=>?_⟩;cases B e q with
 | @cell i j t o wr n G N=>
  refine⟨⟨by simp,by simp,by simp⟩,λm hm=>by simp at hm,λx d b a=>?_⟩;have c:x=⟨.cell ⟨j,t,o⟩,wr,.plain⟩:=by cases wr<;>(simp[qjq,qkg] at d;exact d.symm)
  subst c;simp only[blk,qiD] at a;subst a;refine⟨u.lt _ _ n,rfl,?_⟩;rcases qjy i base with v | A
  ·refine .inr ⟨h.low i j (p i j n (by omega)) v G,?_⟩;cases wr with
   | false=>rfl
   | true=>exact absurd (N rfl) (by omega)
  ·exact .inl (g i j n A)
 | @obj i j wr n G=>
  refine⟨⟨by simp,by simp,by simp⟩,λm hm=>by simp at hm,λx d b a=>?_⟩;have c:x=⟨.obj j,wr,.plain⟩:=by cases wr<;>(simp[qjq,qkg] at d;exact d.symm)
  subst c;simp only[blk,qiD] at a;subst a;exact⟨u.lt _ _ n,rfl,.inl (g i j n G)⟩
 | noRoom=>exact⟨⟨by simp,by simp,by simp⟩,λm hm=>by simp at hm;exact hm.symm,λx d=>by simp[qjq,qkg] at d⟩
 | env=>
  refine⟨⟨by simp,by simp,by simp⟩,λm hm=>by simp at hm,λx d b a=>?_⟩;have c:x=⟨.output,true,.plain⟩:=by simp[qjq,qkg] at d;exact d.symm
  subst c;cases a
def qm.tsub(H:Duo Q P)(hrf:P.follows .rangeFuncRecover=true)(hrr:∀fr,qik fr real=none)(hF:q5h F f)(z:∀U,Q.funcs[U]?≠P.funcs[U]?->∀a k cs u,∃o w y,qj5 Q true { frame:=qiz Q U a k,callers:=cs,status:=.running,dying:=none } u true=.ended o w y)(Jc Jb:Bs)(Liv:qhr->Prop)(hL1:∀S w w₁,RC Fz K S w w₁->Liv w->Liv w₁)(hL2:∀S w M y,DC Fz S w M y->(∀b,Jb b->M.heap[b]?=w.heap[b]?)->Liv w->Liv M)(hL3:∀w b,Liv w->Jc b->∃c e f,w.heap[b]?=some (.cells c e f))(hL4:∀w b,Liv w->Jb b->b<w.heap.size){ρ0:Ren}(hend:∀O g n r w S,KU Q P base F f k D real O g n r w->F g n->Le ρ0 O->Own base O JunkSet.jk Fz S->(∀i j,BR O i j->JunkSet.jk i->Jc j)->Liv w->(∀j,Jb j->¬ S j)->qm P Fz K Stop S r w){Z:Ren}{g:qhw}{n:qhr}{r:qhw}{w:qhr}{S:Bs}(h:KU Q P base F f k D real Z g n r w)(hle:Le ρ0 Z)(ho:Own base Z JunkSet.jk Fz S)(hj:∀i j,BR Z i j->JunkSet.jk i->Jc j)(hv:Liv w)(hjs:∀j,Jb j->¬ S j):qm P Fz K Stop S r w:=by
 have s:Acc (Below Q F) (g,n):=h.tree.acc;generalize hx:(g,n)=x at s;induction s generalizing Z g n r w S with
 | intro x _ ih=>
  subst hx;by_cases X:F g n
  ·exact hend Z g n r w S h X hle ho hj hv hjs
  ·have A:r.status=.running:=by
    have⟨gv,hg,hl⟩:=h.rel;exact q4l hl hg.st'
   refine qm.step A λw₁ B=>?_;have t:Liv w₁:=hL1 _ w w₁ B hv;have C:KU Q P base F f k D real Z g n r w₁:=h.rely B.size (by rw[B.os]) (λi j d l=>by
     rcases qjy i base with p | R
     ·exact B.fz j (ho.low i j d p l)
     ·exact B.own j (ho.own i j d R)) (λi j d l=>hL3 w₁ j t (hj i j d l))
   have⟨O,g1,L,T,W,y,k1,N,k3,G,k5,_⟩:=C.step H hrf hrr hF z X false;have v:=q9p ho G C.len N.wr k5;have p:∀j,Jb j->j<w₁.heap.size:=λj q=>hL4 w₁ j t q;refine⟨T,W,y,k1,v,ih (g1,L) k3 N (hle.trans G.le) (ho.step G C.len N.wr.lt) (λi j d l=>?_) (hL2 _ w₁ W y v (λb Y=>v.keep b (p b Y) (hjs b Y)) t) (λj q I=>?_) rfl⟩;rotate_left
   ·rcases I with I | ⟨I,_⟩
    ·exact hjs j q I
    ·have:=p j q;omega
   refine hj i j ?_ l;have hi:i<Z.length:=qi0 (C.wr.below i l) C.len;obtain⟨⟨V,rfl⟩,_⟩:=G.le;unfold BR at d ⊢
   rwa [qir hi] at d
def AtEnd(f:qj8)(b:qhG)(R:Act->qhr->Prop)(g:qhw)(u:qhr):Prop:=Live g/\g.callers=[ql f]/\∃a T,g.frame=b.at a []/\R a (u.tp T)
def AtEnd.leafs{b:qhG}{R:Act->qhr->Prop}:q5h (AtEnd f b R) f:=⟨λ_ _ h=>h.2.1,λ_ _ ⟨_,_,a,_,e,_⟩=>by rw[e];rfl⟩
def AtEnd.tape{b:qhG}{R:Act->qhr->Prop}{g:qhw}{u:qhr}(T:Nat->qk5->Nat)(h:AtEnd f b R g u):AtEnd f b R g (u.tp T):=by
 obtain⟨i,e,a,j,d,c⟩:=h;exact⟨i,e,a,j,d,c⟩
def yt(R:Act->qhr->Prop):Exit->Act->qhr->Prop
 | .normal,a,w=>R a w
 | _,_,_=>False
def LT.of_wp(H:Duo Q Q){b:qhG}{a:Act}{c:qkh}{i:qhr}{R:Act->qhr->Prop}(h:∀T,c.wp Q (yt R) a (i.tp T))(p:xQ Q base (G (b.at a [.code c]) [ql f]) i):LT Q (AtEnd f b R) (G (b.at a [.code c]) [ql f]) i:=by
 refine LT.of_all H (λg u T=>AtEnd.tape T) p λT=>?_;have⟨e,q,r,d,j⟩:=h T b [] [ql f];cases e with
 | normal=>
  obtain⟨n,s⟩:=j;exact LP.of_runs H n (g:=G (b.at a [.code c]) [ql f]) (g1:=G (b.at q []) [ql f]) (u:=i.tp T) (pre:=[]) (p.tape T) ⟨rfl,rfl⟩ rfl s ⟨rfl,rfl⟩ ⟨[],rfl⟩ ⟨⟨rfl,rfl⟩,rfl,q,r.tape,rfl,by rw[Yk];exact d⟩
 | exit id=>exact d.elim
 | goto l=>exact d.elim
 | ret=>exact d.elim
 | panic o=>exact d.elim
 | outgrown=>exact d.elim
end
end
end Go.Co
section
namespace Go.Co
open Go
def zz{md:qlv}{ops:Array qjn}{listed:Array Bool}{i:Nat}(h:i∈qia md ops listed):i<ops.size/\listed.getD i true=false:=by
 simp only[qia,qmk,qjC,qic,qkz] at h;exact⟨h.1,h.2.1⟩
def unl(listed:Array Bool)(n:Nat):Nat:=((qil n).filter λi=>!listed.getD i true).length
def vd{listed:Array Bool}{n i:Nat}(f:i<n)(g:listed.size=n)(h:listed.getD i true=false):unl (listed.setIfInBounds i true) n<unl listed n:=by
 unfold unl;have d:∀l:List Nat,i∈l->(l.filter λk=>!(listed.setIfInBounds i true).getD k true).length<(l.filter λk=>!listed.getD k true).length:=by
  intro l;have e:∀l:List Nat,(l.filter λk=>!(listed.setIfInBounds i true).getD k true).length<=(l.filter λk=>!listed.getD k true).length:=by
   intro l;induction l with
   | nil=>simp
   | cons x l c=>
    simp only[qox];by_cases a:x=i
    ·subst a;have:(listed.setIfInBounds x true).getD x true=true:=by simp[qjg,g,f]
     rw[this,h];simp only[qnD,qnn,qiv,if_true,if_false,qhE];omega
    ·have:(listed.setIfInBounds i true).getD x true=listed.getD x true:=by simp[qjg,qiC,Ne.symm a]
     rw[this];split
     ·simp only[qhE];omega
     ·exact c
  induction l with
  | nil=>intro h;cases h
  | cons x l c=>
   intro hm;simp only[qox];by_cases a:x=i
   ·subst a;have:(listed.setIfInBounds x true).getD x true=true:=by simp[qjg,g,f]
    rw[this,h];have:=e l;simp only[qnD,qnn,qiv,if_true,if_false,qhE];omega
   ·have:(listed.setIfInBounds i true).getD x true=listed.getD x true:=by simp[qjg,qiC,Ne.symm a]
    rw[this];have b:i∈l:=by simpa[Ne.symm a] using hm
    split
    ·have:=c b;simp only[qhE];omega
    ·exact c b
 exact d _ (by simp[f])
def q80{P:qhF}{md:qlv}{ops:Array qjn}{Q:Exit->Act->qhr->Prop}(I:Array Bool->Act->qhr->Prop)(d:∀listed a w i,listed.size=ops.size->I listed a w->i∈qia md ops listed->wpOp P ops Q i (I (listed.setIfInBounds i true)) a w)(c:∀listed a w,listed.size=ops.size->I listed a w->qia md ops listed=[]->Q .normal a w) :∀(b:Nat) (listed:Array Bool) (a:Act) (w:qhr),listed.size=ops.size->unl listed ops.size<=b->I listed a w->wpAny P md ops Q b listed a w:=by
 intro b;induction b with
 | zero=>
  intro listed a w e p g;have f:qia md ops listed=[]:=by
   cases f:qia md ops listed with
   | nil=>rfl
   | cons i l=>
    exfalso;have⟨j,h⟩:=zz (md:=md) (ops:=ops) (listed:=listed) (i:=i) (by rw[f];simp);have:=vd j e h;omega
  exact⟨f,c listed a w e g f⟩
 | succ b o=>
  intro listed a w e p g;refine⟨c listed a w e g,λi k=>?_⟩;have⟨j,h⟩:=zz k;have q:=vd j e h;exact wpOp_mono (λs n r=>o _ s n (by simpa using e) (by omega) r) (d listed a w i e g k)
def KX{P:qhF}{id:Nat}{b:Array qjn}{Q:Exit->Act->qhr->Prop}{a:Act}{w:qhr}(hm:P.follows .mixedOrders=true)(I:Array Bool->Act->qhr->Prop)(c:I (qiE b.size false) a { w with drawn:=w.drawn+1 })(hstep:∀listed a w i,listed.size=b.size->I listed a w->i∈qia .any b listed->wpOp P b Q i (I (listed.setIfInBounds i true)) a w)(hend:∀listed a w,listed.size=b.size->I listed a w->qia .any b listed=[]->Q .normal a w):(Code.region id b true).wp P Q a w :=
 wp_region_any hm (q80 I hstep hend b.size _ a _ (by simp) (by
  unfold unl;refine qhB (qkb _ _) (by simp)) c)
def zG{P:qhF}{b:Array qjn}{R K:Act->qhr->Prop}{i:Nat}{o:qjn}{a:Act}{w:qhr}(l:b[i]?=some o)(h:wpList P b (yt K) [o] a w):wpOp P b (yt R) i K a w:=by
 have j:∀X:Act->qhr->Prop,¬ LetsOut (yt X):=λX ⟨_,_,h⟩=>h;unfold wpOp;rw[l];dsimp only;simp only[wpList] at h;split
 ·rename_i g
  rw[if_pos g] at h;rcases h with h | ⟨_,h⟩
  ·refine .inl ?_;unfold Oper.wp at h ⊢;generalize (qkA a.eval o).run P w=r at h ⊢;cases r with
   | ok x k=>
    cases x with
    | enter f c=>exact Calls.mono h λe w q=>by cases e<;>first | exact q | exact q.elim | exact absurd q (j _)
    | row r c=>exact Rows.mono h λv w q=>q
    | value v=>exact h
    | skip=>exact h
    | defer d=>exact h
    | _=>exact h.elim
   | halt x k=>cases x<;>first | exact h | exact h.elim
  ·exact absurd h (j _)
 ·rename_i g
  rw[if_neg g] at h;exact h
end Go.Co
namespace Go.Co
open Go
def zw{b:qlv}{a:Array qjn}{listed:Array Bool}{i:Nat}{o:qjn}(h:i∈qia b a listed)(c:a[i]?=some o):(o.after.all λe=>!qj0 b e || listed.getD e.on false)=true:=by
 simp only[qia,qmk,qjC,qic,qkz] at h;have:=h.2.2;rw[c] at this;simpa using this
end Go.Co
namespace Go.Co
open Go
def zZ{c:qlv}{a:Array qjn}{listed:Array Bool}(g:qia c a listed=[])(k:listed.size=a.size){i:Nat}{o:qjn}(d:a[i]?=some o)(b:(o.after.all λe=>!qj0 c e || listed.getD e.on false)=true):listed[i]?.getD false=true:=by
 have j:i<a.size:=(qhs.1 d).1;refine qj6 λf=>?_;have h:i<listed.size:=by omega
 have:i∈qia c a listed:=by
  simp only[qia,qmk,qjC,qic,qkz];refine⟨j,?_,?_⟩
  ·simp[qjg,qih h] at f ⊢;exact f
  ·rw[d];simpa using b
 rw[g] at this;cases this
def QP(listed:Array Bool)(i j:Nat)(h:i<listed.size):(listed.setIfInBounds i true)[j]?.getD false=if i=j then true else listed[j]?.getD false:=by
 simp only[qiC];split
 ·rename_i e;subst e;simp[h]
 ·rfl
def ZO{c:qlv}{a:Array qjn}{listed:Array Bool}{i:Nat}(h:i∈qia c a listed):listed[i]?.getD false=false:=by
 have:=(zz h).2;simp only[qjg] at this;cases hx:listed[i]? with
 | none=>rfl
 | some b=>rw[hx] at this;exact this
end Go.Co
end
namespace Go.Sim
section
structure Lets where
 f:Nat->Bool
 m:String->Bool
 b:Builtin->Array qi4->Bool
section
variable(Q:qhF)(s:Lets)
def yG:qiy->Bool
 | .tmp _=>true
 | .const v=>qcq v
 | .global g=>decide (g<Q.globals.size)
 | .func f=>s.f f
def xU(l:List qiy):Bool:=l.all (yG Q s)
def q5a:Call->Bool
 | ⟨.value f,a,_⟩=>yG Q s f && xU Q s a.toList
 | ⟨.invoke r n,a,_⟩=>yG Q s r && s.m n && xU Q s a.toList
 | ⟨.builtin b,a,ts⟩=>s.b b ts && xU Q s a.toList
def opC:Op->Bool
 | .move x | .assign x | .nilCheck x | .box _ x | .load _ x | .unOp _ _ x | .makeInterface _ x | .field _ x _ | .extract x _ | .panic x=>yG Q s x
 | .pick c a b=>yG Q s c && yG Q s a && yG Q s b
 | .alloc t=>kZ Q t
 | .build t ps=>kZ Q t && xU Q s (ps.toList.map (·.2))
 | .buildSlice t _ ps=>Qy Q t && xU Q s (ps.toList.map (·.2))
 | .store _ a x=>yG Q s a && yG Q s x
 | .binOp op t x y _=>(if q0e op then q9n Q t x y else q2m Q t) && yG Q s x && yG Q s y
 | .convert a d x=>q7w Q a d && yG Q s x
 | .makeFunc (.func f) a b=>s.f f && xU Q s a.toList && xU Q s b.toList
 | .makeMap _ r=>xU Q s r.toList
 | .makeSlice t l c=>Qy Q t && yG Q s l && yG Q s c
 | .slice _ x l h m=>yG Q s x && xU Q s l.toList && xU Q s h.toList && xU Q s m.toList
 | .fieldAddr t x f=>q2w Q t f && yG Q s x
 | .indexAddr _ x i | .index _ x i=>yG Q s x && yG Q s i
 | .lookup t x i _=>Kd Q t && yG Q s x && yG Q s i
 | .mapUpdate t m k x | .insert t m k x=>Kd Q t && yG Q s m && yG Q s k && yG Q s x
 | .typeAssert x _ a _=>kZ Q a && yG Q s x
 | .call c | .defer c=>q5a Q s c
 | _=>false
def kr:qkh->Bool
 | .skip | .exit _ | .label _ | .goto _ | .ret=>true
 | .region _ d _=>d.toList.all λo=>opC Q s o.op
 | .seq a b=>kr a && kr b
 | .cond c a b=>yG Q s c && kr a && kr b
 | .block _ c | .loop c | .scope c=>kr c
 | .rangeFunc f _ a c=>yG Q s f && kr a && kr c
 | _=>false
end
section
variable[JunkSet]{Q:qhF}{s:Lets}(hf:∀f,s.f f=true->JunkSet.okf f)(hm:∀n,s.m n=true->JunkSet.okm n)(hb:∀b ts,s.b b ts=true->JunkSet.okb b ts)
include hf in
theorem qC{x:qiy}(h:yG Q s x=true):qH Q x:=by
 cases x with
 | tmp t=>exact .tmp t
 | const v=>exact .const (q32 h)
 | global g=>exact .global (of_decide_eq_true h)
 | func f=>exact .func (hf f h)
include hf in
theorem jp{l:List qiy}(h:xU Q s l=true):jt Q l:=λx a=>qC hf (qiB.1 h x a)
include hf hm hb in
theorem q59{c:Call}(h:q5a Q s c=true):km Q c:=by
 obtain⟨d,a,e⟩:=c;cases d with
 | value f=>simp only[q5a,qic] at h;exact .value (qC hf h.1) (jp hf h.2)
 | invoke r n=>simp only[q5a,qic] at h;exact .invoke (qC hf h.1.1) (hm _ h.1.2) (jp hf h.2)
 | builtin b=>simp only[q5a,qic] at h;exact .builtin (hb _ _ h.1) (jp hf h.2)
include hf hm hb in
theorem qft{o:Op}(h:opC Q s o=true):qN Q o:=by
 cases o with
 | makeFunc v a b=>
  cases v with
  | func f=>simp only[opC,qic] at h;exact .makeFunc (hf _ h.1.1) (jp hf h.1.2) (jp hf h.2)
  | _=>cases h
 | binOp w t x y u=>
  simp only[opC,qic] at h;obtain⟨⟨g,p⟩,j⟩:=h;split at g
  ·rename_i e
   exact .eql e g (qC hf p) (qC hf j)
  ·rename_i e
   exact .arith (by simpa using e) g (qC hf p) (qC hf j)
 | move x=>exact .move (qC hf h)
 | assign x=>exact .assign (qC hf h)
 | nilCheck x=>exact .nilCheck (qC hf h)
 | box t x=>exact .box (qC hf h)
 | load t x=>exact .load (qC hf h)
 | unOp o t x=>exact .unOp (qC hf h)
 | makeInterface t x=>exact .makeInterface (qC hf h)
 | field t x f=>exact .field (qC hf h)
 | extract x i=>exact .extract (qC hf h)
 | panic x=>exact .panic (qC hf h)
 | pick c a b=>simp only[opC,qic] at h;exact .pick (qC hf h.1.1) (qC hf h.1.2) (qC hf h.2)
 | alloc t=>exact .alloc h
 | build t q=>simp only[opC,qic] at h;exact .build h.1 (jp hf h.2)
 | buildSlice t n q=>simp only[opC,qic] at h;exact .buildSlice h.1 (jp hf h.2)
 | store t a x=>simp only[opC,qic] at h;exact .store (qC hf h.1) (qC hf h.2)
 | convert a d x=>simp only[opC,qic] at h;exact .convert h.1 (qC hf h.2)
 | makeMap t r=>exact .makeMap (jp hf h)
 | makeSlice t l c=>simp only[opC,qic] at h;exact .makeSlice h.1.1 (qC hf h.1.2) (qC hf h.2)
 | slice t x l z m=>simp only[opC,qic] at h;exact .slice (qC hf h.1.1.1) (jp hf h.1.1.2) (jp hf h.1.2) (jp hf h.2)
 | fieldAddr t x f=>simp only[opC,qic] at h;exact .fieldAddr h.1 (qC hf h.2)
 | indexAddr t x i=>simp only[opC,qic] at h;exact .indexAddr (qC hf h.1) (qC hf h.2)
 | index t x i=>simp only[opC,qic] at h;exact .index (qC hf h.1) (qC hf h.2)
 | lookup t x i c=>simp only[opC,qic] at h;exact .lookup h.1.1 (qC hf h.1.2) (qC hf h.2)
 | mapUpdate t m k x=>simp only[opC,qic] at h;exact .mapUpdate h.1.1.1 (qC hf h.1.1.2) (qC hf h.1.2) (qC hf h.2)
 | insert t m k x=>simp only[opC,qic] at h;exact .insert h.1.1.1 (qC hf h.1.1.2) (qC hf h.1.2) (qC hf h.2)
 | typeAssert x t a c=>simp only[opC,qic] at h;exact .typeAssert h.1 (qC hf h.2)
 | call c=>exact .call (q59 hf hm hb h)
 | defer c=>exact .defer (q59 hf hm hb h)
 | _=>cases h
include hf hm hb in
theorem q54{c:qkh}(h:kr Q s c=true):qB Q c:=by
 induction c with
 | skip=>exact .skip
 | exit id=>exact .exit id
 | label l=>exact .label l
 | goto l=>exact .goto l
 | ret=>exact .ret
 | region id k d=>exact .region λo n=>qft hf hm hb (qiB.1 h o n)
 | seq a b e g=>simp only[kr,qic] at h;exact .seq (e h.1) (g h.2)
 | cond c a b e g=>simp only[kr,qic] at h;exact .cond (qC hf h.1.1) (e h.1.2) (g h.2)
 | block id c i=>exact .block (i h)
 | loop c i=>exact .loop (i h)
 | scope c i=>exact .scope (i h)
 | rangeFunc f p a c e j=>simp only[kr,qic] at h;exact .rangeFunc (qC hf h.1.1) (e h.1.2) (j h.2)
 | _=>cases h
end
section
variable{A B:JunkSet}{Q:qhF}(hf:∀f,A.okf f->B.okf f)(hm:∀n,A.okm n->B.okm n)(hb:∀b ts,A.okb b ts->B.okb b ts)
include hf in
theorem qJ{x:qiy}(h:@qH A Q x):@qH B Q x:=by
 cases h with
 | tmp t=>exact @qH.tmp B Q t
 | const h=>exact @qH.const B Q _ h
 | global h=>exact @qH.global B Q _ h
 | func h=>exact @qH.func B Q _ (hf _ h)
include hf in
theorem yg{l:List qiy}(h:@jt A Q l):@jt B Q l:=λx a=>qJ hf (h x a)
include hf hm hb in
theorem q7B{c:Call}(h:@km A Q c):@km B Q c:=by
 cases h with
 | value b a=>exact @km.value B Q _ _ _ (qJ hf b) (yg hf a)
 | invoke b a d=>exact @km.invoke B Q _ _ _ _ (qJ hf b) (hm _ a) (yg hf d)
 | builtin b a=>exact @km.builtin B Q _ _ _ (hb _ _ b) (yg hf a)
include hf hm hb in
theorem qeu{o:Op}(h:@qN A Q o):@qN B Q o:=by
 cases h with
 | move h=>exact @qN.move B Q _ (qJ hf h)
 | assign h=>exact @qN.assign B Q _ (qJ hf h)
 | pick b a c=>exact @qN.pick B Q _ _ _ (qJ hf b) (qJ hf a) (qJ hf c)
 | alloc h=>exact @qN.alloc B Q _ h
 | box h=>exact @qN.box B Q _ _ (qJ hf h)
 | build b a=>exact @qN.build B Q _ _ b (yg hf a)
 | buildSlice b a=>exact @qN.buildSlice B Q _ _ _ b (yg hf a)
 | load h=>exact @qN.load B Q _ _ (qJ hf h)
 | store b a=>exact @qN.store B Q _ _ _ (qJ hf b) (qJ hf a)
 | nilCheck h=>exact @qN.nilCheck B Q _ (qJ hf h)
 | arith b a c d=>exact @qN.arith B Q _ _ _ _ _ b a (qJ hf c) (qJ hf d)
 | eql b a c d=>exact @qN.eql B Q _ _ _ _ _ b a (qJ hf c) (qJ hf d)
 | unOp h=>exact @qN.unOp B Q _ _ _ (qJ hf h)
 | convert b a=>exact @qN.convert B Q _ _ _ b (qJ hf a)
 | makeInterface h=>exact @qN.makeInterface B Q _ _ (qJ hf h)
 | makeFunc b a c=>exact @qN.makeFunc B Q _ _ _ (hf _ b) (yg hf a) (yg hf c)
 | makeMap h=>exact @qN.makeMap B Q _ _ (yg hf h)
 | makeSlice b a c=>exact @qN.makeSlice B Q _ _ _ b (qJ hf a) (qJ hf c)
 | slice b a c d=>exact @qN.slice B Q _ _ _ _ _ (qJ hf b) (yg hf a) (yg hf c) (yg hf d)
 | fieldAddr b a=>exact @qN.fieldAddr B Q _ _ _ b (qJ hf a)
 | field h=>exact @qN.field B Q _ _ _ (qJ hf h)
 | indexAddr b a=>exact @qN.indexAddr B Q _ _ _ (qJ hf b) (qJ hf a)
 | index b a=>exact @qN.index B Q _ _ _ (qJ hf b) (qJ hf a)
 | lookup b a c=>exact @qN.lookup B Q _ _ _ _ b (qJ hf a) (qJ hf c)
 | mapUpdate b a c d=>exact @qN.mapUpdate B Q _ _ _ _ b (qJ hf a) (qJ hf c) (qJ hf d)
 | insert b a c d=>exact @qN.insert B Q _ _ _ _ b (qJ hf a) (qJ hf c) (qJ hf d)
 | typeAssert b a=>exact @qN.typeAssert B Q _ _ _ _ b (qJ hf a)
 | extract h=>exact @qN.extract B Q _ _ (qJ hf h)
 | call h=>exact @qN.call B Q _ (q7B hf hm hb h)
 | defer h=>exact @qN.defer B Q _ (q7B hf hm hb h)
 | panic h=>exact @qN.panic B Q _ (qJ hf h)
include hf hm hb in
theorem q2C{c:qkh}(h:@qB A Q c):@qB B Q c:=by
 induction h with
 | skip=>exact @qB.skip B Q
 | region h=>exact @qB.region B Q _ _ _ λo d=>qeu hf hm hb (h o d)
 | seq _ _ b a=>exact @qB.seq B Q _ _ b a
 | cond h _ _ b a=>exact @qB.cond B Q _ _ _ (qJ hf h) b a
 | block _ h=>exact @qB.block B Q _ _ h
 | loop _ h=>exact @qB.loop B Q _ h
 | rangeFunc h _ _ b a=>exact @qB.rangeFunc B Q _ _ _ _ (qJ hf h) b a
 | exit id=>exact @qB.exit B Q id
 | scope _ h=>exact @qB.scope B Q _ h
 | label l=>exact @qB.label B Q l
 | goto l=>exact @qB.goto B Q l
 | ret=>exact @qB.ret B Q
end
@[reducible] def JS0(s:Lets)(jk:Nat->Prop):JunkSet:={ jk,okf:=λf=>s.f f=true,okm:=λn=>s.m n=true,okb:=λb a=>s.b b a=true,okc:=λ_=>False,okg:=λ_=>False }
@[reducible] def JS(Q P:qhF)(s:Lets)(jk:Nat->Prop):JunkSet:={ JS0 s jk with okc:=@qB (JS0 s jk) Q,okg:=λf=>(∃g,Q.funcs[f]?=some g/\P.funcs[f]?=some g)/\Q.inits.idxOf? f=none }
def qdH(Q P:qhF)(s:Lets)(f:Nat):Bool :=
 match Q.funcs[f]?,P.funcs[f]? with
 | some a,some b=>!a.body.isNone && !b.body.isNone && !(a.name == "runtime.NumGoroutine") && !(b.name == "runtime.NumGoroutine") && (Q.inits.idxOf? f).isNone
 | _,_=>false
def qcl(Q:qhF)(s:Lets)(f:Nat):Bool :=
 match (Q.funcs[f]?).bind (·.body) with
 | some c=>kr Q s c
 | none=>false
def qcb{Q P:qhF}{s:Lets}{jk:Nat->Prop}(o:P.toTables=Q.toTables)(p:Q.follows .rangeFuncRecover=true)
  (l:(match Q.info? 0 with | some i=>(i.methods.find? (·.name == "")).isNone | none=>true)=true)
  (hb:∀b k,s.b b k=true->biB Q b k=true)
  (hf:∀f,s.f f=true->qdH Q P s f=true) (a:∀f,s.f f=true->Q.funcs[f]?=P.funcs[f]?->qcl Q s f=true)
  (hm:∀n,s.m n=true->∀t i m,Q.info? t=some i->i.methods.find? (·.name == n)=some m->m.path=#[]/\∃f b,m.func=some (f,b)/\s.f f=true/\∀e,Q.underlying t=some (.pointer e)->b=true):@Duo (JS Q P s jk) Q P:=by
 letI:=JS Q P s jk
 have fin:∀f,s.f f=true->∃d fp,Q.funcs[f]?=some d/\P.funcs[f]?=some fp/\d.body.isNone=false/\fp.body.isNone=false/\(d.name == "runtime.NumGoroutine")=false/\(fp.name == "runtime.NumGoroutine")=false/\Q.inits.idxOf? f=none:=by
  intro f h;have:=hf f h;unfold qdH at this;cases h1:Q.funcs[f]? with
  | none=>rw[h1] at this;cases this
  | some d=>
   cases h2:P.funcs[f]? with
   | none=>rw[h1,h2] at this;cases this
   | some fp=>
    rw[h1,h2] at this;simp only[qic,qkz,Option.isNone_iff_eq_none] at this;exact⟨d,fp,rfl,rfl,this.1.1.1.1,this.1.1.1.2,this.1.1.2,this.1.2,this.2⟩
 exact{
  bis:=hb
  tables:=o
  funcs:=λf h=>let ⟨d,fp,h1,h2,h3,h4,h5,h6,_⟩:=fin f h;⟨d,fp,h1,h2,h3,h4,h5,h6⟩
  meths:=hm
  nometh:=λi q=>by rw[q] at l;exact l
  codes:=λc=>⟨q2C (A:=JS0 s jk) (B:=JS Q P s jk) (λ_ h=>h) (λ_ h=>h) (λ_ _ h=>h),q2C (A:=JS Q P s jk) (B:=JS0 s jk) (λ_ h=>h) (λ_ h=>h) (λ_ _ h=>h)⟩
  rfr:=p
  bodies:=λf g j h1 h2 c r=>by
   have:=a f j (by rw[h1,h2]);unfold qcl at this;rw[h1,qnw,r] at this;exact q54 (s:=s) (λ_ h=>h) (λ_ h=>h) (λ_ _ h=>h) this
  inits:=λf h=>let ⟨_,_,_,_,_,_,_,_,h7⟩:=fin f h;h7
  same:=λf=>Iff.rfl }
end
section
structure qg9 where
 j:JunkSet
structure Up(A B:JunkSet):Prop where
 f:∀x,A.okf x->B.okf x
 m:∀x,A.okm x->B.okm x
 b:∀x y,A.okb x y->B.okb x y
 c:∀x,A.okc x->B.okc x
 g:∀x,A.okg x->B.okg x
 j:A.jk=B.jk
section
variable{A B:JunkSet}(U:Up A B){Z:Ren}
include U
theorem FnR.up{x y:Fn}(h:@FnR A Z x y):@FnR B Z x y:=by
 cases h with
 | func f h=>exact @FnR.func B Z f (U.f _ h)
 | yield h=>exact @FnR.yield B Z _ _ h
theorem VR.up{x y:qhu}(h:@VR A Z x y):@VR B Z x y:=by
 induction h with
 | bool b=>exact @VR.bool B Z b
 | int k n=>exact @VR.int B Z k n
 | string s=>exact @VR.string B Z s
 | ptrNil=>exact @VR.ptrNil B Z
 | ptr e d h=>exact @VR.ptr B Z _ _ e d h
 | sliceNil n c=>exact @VR.sliceNil B Z n c
 | slice e d n c h=>exact @VR.slice B Z _ _ e d n c h
 | mapNil=>exact @VR.mapNil B Z
 | map h=>exact @VR.map B Z _ _ h
 | func j o _ l _ i g=>exact @VR.func B Z _ _ _ _ _ _ (FnR.up U j) o i l g
 | nilFunc=>exact @VR.nilFunc B Z
 | iface t _ f=>exact @VR.iface B Z t _ _ f
 | nilIface=>exact @VR.nilIface B Z
 | agg h _ f=>exact @VR.agg B Z _ _ h f
 | tuple h _ f=>exact @VR.tuple B Z _ _ h f
 | wild y h=>exact @VR.wild B Z y h
 | meth n a c=>exact @VR.meth B Z n a c
theorem AsR.up{x y:Array qhu}(h:@AsR A Z x y):@AsR B Z x y:=⟨h.1,λi a b d c=>VR.up U (h.2 i a b d c)⟩
theorem kw.up{x y:qlj}(h:@kw A Z x y):@kw B Z x y:=@kw.mk B Z x y (VR.up U (@kw.key A Z x y h)) (VR.up U (@kw.val A Z x y h)) (@kw.born A Z x y h)
theorem yx.up{x y:Target}(h:@yx A Z x y):@yx B Z x y:=by
 cases h with
 | fn e d=>exact @yx.fn B Z _ _ _ _ (FnR.up U e) (AsR.up U d)
 | meth n h=>exact @yx.meth B Z n (U.m _ h)
 | nil=>exact @yx.nil B Z
 | builtin b a t c h=>exact @yx.builtin B Z b a t c (U.b _ _ h)
 | collected h=>exact @yx.collected B Z _ _ h
theorem kg.up{x y:qjH}(h:@kg A Z x y):@kg B Z x y:=by
 cases h with
 | mk b a=>exact @kg.mk B Z x y (yx.up U b) (AsR.up U a)
 | bound b a c=>exact @kg.bound B Z x y b a c
theorem Zb.up{x y:Loop}(h:@Zb A Z x y):@Zb B Z x y:=by
 obtain⟨q,p,o,n,l,k,j,i,f,d,b,a⟩:=h;exact @Zb.mk B Z x y q p o (AsR.up U n) l k j i (U.g _ f) (U.c _ d) (U.c _ b) λc e=>U.c _ (a c e)
theorem ObR.up{x y:Obj}(h:@ObR A Z x y):@ObR B Z x y:=by
 cases h with
 | cells e f d=>exact @ObR.cells B Z _ _ e _ _ (AsR.up U f) d
 | map c h=>exact @ObR.map B Z _ _ c (h.imp λ_ _ k=>kw.up U k)
 | stringIter s p=>exact @ObR.stringIter B Z s p
 | mapIterNil a s b=>exact @ObR.mapIterNil B Z a s b
 | mapIter a s b h=>exact @ObR.mapIter B Z _ _ a s b h
 | loop h=>exact @ObR.loop B Z _ _ (Zb.up U h)
 | number o s x h=>exact @ObR.number B Z _ _ o s x h
 | deferredNone=>exact @ObR.deferredNone B Z
 | deferred h=>exact @ObR.deferred B Z _ _ (h.imp λ_ _ k=>kg.up U k)
theorem WR.up{Q:qhF}{base:Nat}{a w:qhr}(h:@WR A Q base Z a w):@WR B Q base Z a w:=by
 obtain⟨u,t,s,r,q,p,n,l⟩:=h;refine @WR.mk B Q base Z a w u t s (λi j o k f=>?_) q p (λi g=>n i (by rw[U.j];exact g)) l;rcases r i j o k f with⟨c,b⟩ | ⟨c,d,b,e⟩
 ·exact .inl ⟨by rw[<- U.j];exact c,b⟩
 ·exact .inr ⟨by rw[<- U.j];exact c,d,b,ObR.up U e⟩
theorem qB.up{Q:qhF}{c:qkh}(h:@qB A Q c):@qB B Q c:=q2C (A:=A) (B:=B) U.f U.m U.b h
theorem qN.up{Q:qhF}{o:Op}(h:@qN A Q o):@qN B Q o:=qeu (A:=A) (B:=B) U.f U.m U.b h
theorem zp.up{Q:qhF}{x y:qlG}(h:@zp A Q Z x y):@zp B Q Z x y:=by
 cases h with
 | code h=>exact @zp.code B Q Z _ (qB.up U h)
 | inBlock id=>exact @zp.inBlock B Q Z id
 | inLoop h=>exact @zp.inLoop B Q Z _ (qB.up U h)
 | inScope h=>exact @zp.inScope B Q Z _ (qB.up U h)
 | inRegion l h=>exact @zp.inRegion B Q Z _ l λo a=>qN.up U (h o a)
 | inRangeFunc h=>exact @zp.inRangeFunc B Q Z _ _ h
 | endRangeFunc h=>exact @zp.endRangeFunc B Q Z _ _ h
 | beginRound=>exact @zp.beginRound B Q Z
theorem J3.up{x y:qn0}(h:@J3 A Z x y):@J3 B Z x y:=by
 obtain⟨c,b,a⟩:=h;exact @J3.mk B Z x y (VR.up U c) b a
theorem kU.up{x y:FrameMode}(h:@kU A Z x y):@kU B Z x y:=by
 cases h with
 | run=>exact @kU.run B Z
 | returning=>exact @kU.returning B Z
 | panicking h=>exact @kU.panicking B Z _ _ (h.imp λ_ _ k=>J3.up U k)
theorem qw.up{Q P:qhF}{x y:qhG}(h:@qw A Q P Z x y)(a:∃g,Q.funcs[x.fn]?=some g/\Q.funcs[x.fn]?=some g):@qw B Q Q Z x y:=by
 obtain⟨l,n,j,i,f,e,d,c,b⟩:=h;exact @qw.mk B Q Q Z x y l a j (AsR.up U i) (f.imp λ_ _ k=>zp.up U k) (e.imp λ_ _ k=>kg.up U k) (kU.up U d) c b
theorem kV.up{Q P:qhF}{x y:qhw}(h:@kV A Q P Z x y):@kV B Q Q Z x y:=by
 obtain⟨c,j,i,f,e,d⟩:=h;exact @kV.mk B Q Q Z x y (qw.up U c (let ⟨g,k,_⟩:=@qw.same A Q P Z _ _ c;⟨g,k,k⟩)) (j.imp λa b k=>qw.up U k (let ⟨g,k,_⟩:=@qw.same A Q P Z a b k;⟨g,k,k⟩)) i f e d
end
end
end Go.Sim
namespace Go.Co
section
open Go.Conc Go.ConcN Go.Sim
section
variable[J:JunkSet](Q P:qhF)(f:qj8)(Post:qhu->qhr->Prop)(W:qhr)
structure Rl(Z:Ren)(g:qhw)(wq:qhr)(g':qhw)(w:qhr):Prop where
 wr:WR Q W.heap.size Z wq w
 ln:W.heap.size<=Z.length
 gl:Gl P Z
 stack:∃pre,g.callers=pre++[ql f]
 rel:∃gv,kV Q P Z g gv/\g'=swap [] gv
def EL(g:qhw)(wq:qhr):Prop :=
 ∀Z d w c,Rl Q P f W Z g wq d w->kX c Z->(∀b,w.heap.size<=b->c b=.mine 0)->kl W.heap.size W.heap.size W Z w->(∀b,b<W.heap.size->c b=.mine 0)->E P Post c d w
def LF(g:qhw)(u:qhr):Prop:=Live g/\(∃pre,g.callers=pre++[ql f])/\Q.funcs[g.frame.fn]?=P.funcs[g.frame.fn]?/\EL Q P f Post W g u
structure Two:Prop where
 H:Duo Q P
 HQ:∃B:qg9,Up J B.j/\@Duo B.j Q Q
 hrf:P.follows .rangeFuncRecover=true
 stub:∀fk,Q.funcs[fk]?≠P.funcs[fk]?->∀a k cs u,∃o w es,qj5 Q true { frame:=qiz Q fk a k,callers:=cs,status:=.running,dying:=none } u true=.ended o w es
end
section
variable[J:JunkSet]{Q P:qhF}{f:qj8}{Post:qhu->qhr->Prop}{W:qhr}
def EL.tape{g:qhw}{wq:qhr}(h:EL Q P f Post W g wq)(T:Nat->qk5->Nat):EL Q P f Post W g (wq.tp T):=by
 rintro Z q w r ⟨c,d,p,o,n⟩ e j i hm;exact h Z q w r ⟨⟨c.len,c.nodup,c.lt,c.obj,c.low,c.env,c.below,c.gar⟩,d,p,o,n⟩ e j i hm
def LF.tape{g:qhw}{u:qhr}(T:Nat->qk5->Nat)(h:LF Q P f Post W g u):LF Q P f Post W g (u.tp T):=⟨h.1,h.2.1,h.2.2.1,h.2.2.2.tape T⟩
def Qa(c:qhG):qik c []=none:=by
 unfold qik;simp
def EL.of_tree(D:Two Q P){g:qhw}{wq:qhr}(t:∀Z q w,Rl Q P f W Z g wq q w->LT Q (LF Q P f Post W) g wq):EL Q P f Post W g wq:=by
 intro Z q w j h l p n hm;have y:∀g u,LF Q P f Post W g u->g.callers≠[]:=λg u ⟨_,⟨pre,e⟩,_⟩=>by rw[e];simp
 refine E.sub (Cp:=λj=>∀b,b<W.heap.size->j b=.mine 0) (Q:=Q) (F:=LF Q P f Post W) (f:=f) (real:=[]) (W:=W) D.H D.hrf Qa y ?_ ?_ (Z:=Z) (g:=g) (wq:=wq) ⟨h.ln,h.wr,h.gl,t _ _ _ h,h.stack,h.rel⟩ l p n hm
 ·intro Z g wq q w j i v l p n hm;exact v.2.2.2 Z q w j ⟨i.wr,i.len,i.gl,i.stack,i.rel⟩ l p n hm
 ·intro Z A k a L c I pre r wq w j d l p n _ _;exfalso;have⟨o,u,G,e⟩:=D.stub A d.diff a k (c::(pre++[ql f])) (wq.tp wq.tape);cases d.tree with
  | done x=>exact d.diff x.2.2.1
  | step _ z _=>
   have⟨C,u1,B,s,_⟩:=z wq.tape;rw[e] at s;cases s
def Rl.rel1{B:qg9}(U:Up J B.j){Z:Ren}{g:qhw}{wq:qhr}{l:qhw}{w:qhr}(D:Two Q P)(h:Rl Q P f W Z g wq l w):@xQ B.j Q W.heap.size g wq:=by
 have⟨e,d,_⟩:=h.rel;exact⟨Z,e,w,h.ln,WR.up U h.wr,λi c=>h.gl i (by rw[D.H.gsize];exact c),kV.up U d⟩
def EL.of_runs(D:Two Q P){o:qhG}{cs:List qhG}{wq:qhr}(q:∀T,∃c d u1,Steps Q (lone o cs (wq.tp T)) (lone c d u1)/\(∃pre,d=pre++[ql f])/\Q.funcs[c.fn]?=P.funcs[c.fn]?/\EL Q P f Post W (G c d) u1) :EL Q P f Post W (G o cs) wq:=by
 refine EL.of_tree D λZ v w h=>?_;have⟨pre,l⟩:=h.stack;have⟨B,U,p⟩:=D.HQ;have i:=h.rel1 U D;refine @LT.of_all B.j Q W.heap.size _ p (λg u T=>LF.tape T) _ _ i λT=>?_;have⟨c,d,u1,⟨n,s⟩,e,r,t⟩:=q T;exact @LP.of_runs B.j Q W.heap.size _ p f n (g:=G o cs) (g1:=G c d) (u:=wq.tp T) (u1:=u1) (pre:=pre) (@xQ.tape B.j Q W.heap.size _ _ i T) ⟨rfl,rfl⟩ l s ⟨rfl,rfl⟩ e ⟨⟨rfl,rfl⟩,e,r,t⟩
def Bot(f:qj8)(cs:List qhG):Prop:=∃pre,cs=pre++[ql f]
def Bot.cons{cs:List qhG}{c:qhG}(h:Bot f cs):Bot f (c::cs):=by
 obtain⟨pre,rfl⟩:=h;exact⟨c::pre,rfl⟩
def qg8(Q P:qhF)[J:JunkSet](f:qj8)(Post:qhu->qhr->Prop)(W:qhr)(b:qhG)(k:List qlG)(cs:List qhG):Exit->Act->qhr->Prop
 | .normal,a,w=>EL Q P f Post W (G (b.at a k) cs) w
 | .exit id,a,w=>∃d,qno id k=some d/\EL Q P f Post W (G (b.at a d) cs) w
 | .ret,a,w=>∀c,EL Q P f Post W (G { b.at a c with mode:=.returning } cs) w
 | _,_,_=>False
section
variable{b:qhG}{a:Act}{k:List qlG}{cs:List qhG}{wq:qhr}
def EL.land(D:Two Q P)(j:Bot f cs)(i:Q.funcs[b.fn]?=P.funcs[b.fn]?){p:qhG}(r:∀T,∃e o d,qg8 Q P f Post W b k cs e o d/\Arrives Q (lone p cs (wq.tp T)) b k cs e o d):EL Q P f Post W (G p cs) wq:=by
 refine EL.of_runs D λT=>?_;have⟨e,o,d,g,c⟩:=r T;cases e with
 | normal=>exact⟨_,cs,d,c,j,i,g⟩
 | exit id=>
  obtain⟨q,s,t⟩:=g;exact⟨_,cs,d,c q s,j,i,t⟩
 | goto l=>exact g.elim
 | ret=>
  obtain⟨h,c⟩:=c;exact⟨_,cs,d,c,j,i,g h⟩
 | panic n=>exact g.elim
 | outgrown=>exact g.elim
def EL.piece(D:Two Q P)(e:Bot f cs)(d:Q.funcs[b.fn]?=P.funcs[b.fn]?){c:qkh}(h:∀T,c.wp Q (qg8 Q P f Post W b k cs) a (wq.tp T)):EL Q P f Post W (G (b.at a (.code c::k)) cs) wq :=
 EL.land D e d λT=>h T b k cs
end
end
end
section
open Go.Conc Go.ConcN Go.Sim
def EE(P:qhF)(Post:qhu->qhr->Prop)(cl:Nat->Cl)(g:qhw)(w:qhr):Prop:=∀d,E P Post cl g (w.at d)
section
variable{P:qhF}{Post:qhu->qhr->Prop}{cl:Nat->Cl}
def EE.pure{g g':qhw}{w:qhr}(e:g.status=.running)(h:∀w,qj5 P true g w=.go g' w #[])(f:EE P Post cl g' w):EE P Post cl g w :=
 λd=>E.step e λc=>⟨g',(w.at d).at c,#[],h _,qhv _,by simp,f c⟩
def EE.raw{g o:qhw}{w:qhr}(f:qhr)(c:Nat->Cl)(q:g.status=.running)(h:∀d,∃i,qj5 P true g (w.at d)=.go o (f.at d) i/\∀e∈i,EvG c f.heap.size 0 e/\jA e)(j:w.heap.size<=f.heap.size)(l:∀b,b<w.heap.size->c b=cl b)(n:∀b,f.heap.size<=b->c b=.mine 0)(r:EE P Post c o f):EE P Post cl g w :=
 λd=>E.stepC q λp=>by
  have⟨i,t,s⟩:=h p;exact⟨o,f.at p,i,c,t,j,l,n,s,r p⟩
section
variable{b:qhG}{a:Act}{k:List qlG}{cs:List qhG}{w:qhr}
def EE.seq{x y:qkh}(h:EE P Post cl (G (b.at a (.code x::.code y::k)) cs) w):EE P Post cl (G (b.at a (.code (.seq x y)::k)) cs) w:=.pure rfl (λ_=>qi5) h
def EE.block{id:Nat}{c:qkh}(h:EE P Post cl (G (b.at a (.code c::.inBlock id::k)) cs) w):EE P Post cl (G (b.at a (.code (.block id c)::k)) cs) w:=.pure rfl (λ_=>qoa) h
def EE.loop{c:qkh}(h:EE P Post cl (G (b.at a (.code c::.inLoop c::k)) cs) w):EE P Post cl (G (b.at a (.code (.loop c)::k)) cs) w:=.pure rfl (λ_=>qr3) h
def EE.region{id:Nat}{c:Array qjn}(h:EE P Post cl (G (b.at a (.inRegion c (qil c.size)::k)) cs) w):EE P Post cl (G (b.at a (.code (.region id c false)::k)) cs) w:=.pure rfl (λ_=>stepG_region) h
def EE.region_end{c:Array qjn}(h:EE P Post cl (G (b.at a k) cs) w):EE P Post cl (G (b.at a (.inRegion c []::k)) cs) w:=.pure rfl (λ_=>qhy) h
def EE.retS(h:EE P Post cl (G { b.at a (.code .ret::k) with mode:=.returning } cs) w):EE P Post cl (G (b.at a (.code .ret::k)) cs) w:=.pure rfl (λ_=>qkx) h
def EE.value{c:Array qjn}{i:Nat}{d:List Nat}{o:qjn}(v:qhu)(g:c[i]?=some o)(e:qip o (qjt c a.tmps)=true)(j:b.kind≠.early)(f:∀w,(qkA a.eval o).run P w=.ok (.value v) w)(l:∀w,(qkA a.eval o).events P w #[]=#[])(h:EE P Post cl (G (b.at (a.put o.dst v) (.inRegion c d::k)) cs) w):EE P Post cl (G (b.at a (.inRegion c (i::d)::k)) cs) w :=
 .pure rfl (λw=>by rw[qqg g e j (f w)];unfold listed;rw[l w,seen_none]) h
def EE.op[JunkSet]{f:Array qjn}{i:Nat}{g:List Nat}{o:qjn}(v:qhu)(j:qhr)(c:Nat->Cl)(s:f[i]?=some o)(q:qip o (qjt f a.tmps)=true)(t:b.kind≠.early)(r:∀d,(qkA a.eval o).run P (w.at d)=.ok (.value v) (j.at d))(u:∀d,∀e∈(qkA a.eval o).events P (w.at d) #[],EvG c j.heap.size 0 e/\jA e)(l:w.heap.size<=j.heap.size)(n:∀b,b<w.heap.size->c b=cl b)(p:∀b,j.heap.size<=b->c b=.mine 0)(h:EE P Post c (G (b.at (a.put o.dst v) (.inRegion f g::k)) cs) j):EE P Post cl (G (b.at a (.inRegion f (i::g)::k)) cs) w :=
 .raw j c rfl (λd=>⟨_,qqg s q t (r d),λe hm=>u d e (kG _ _ _ e hm)⟩) l n p h
def q00{e:Bool}{d:Array qjn}{i:Nat}{c:List Nat}{o:qjn}{w h:qhr}(j:d[i]?=some o)(l:qip o (qjt d a.tmps)=true)(p:b.kind≠.early)(n:(qkA a.eval o).run P w=.ok .skip h) :qj5 P e (G (b.at a (.inRegion d (i::c)::k)) cs) w=.go (G (b.at (a.put o.dst qhx) (.inRegion d c::k)) cs) h (listed P b.fn a o w):=by
 have f:(b.at a (.inRegion d (i::c)::k)).finish qhx=b.at (a.put o.dst qhx) (.inRegion d c::k):=by rw[qkj,j];rfl
 have g:(b.kind == CallKind.early)=false:=by simpa using p
 rw[stepG_oper j l,<- f];simp[qji,n,G,Frame.at,g,qj9,listed]
def EE.store[JunkSet]{c:Array qjn}{i:Nat}{f:List Nat}{o:qjn}(g:qhr)(q:c[i]?=some o)(n:qip o (qjt c a.tmps)=true)(r:b.kind≠.early)(p:∀d,(qkA a.eval o).run P (w.at d)=.ok .skip (g.at d))(s:∀d,∀e∈(qkA a.eval o).events P (w.at d) #[],EvG cl g.heap.size 0 e/\jA e)(j:g.heap.size=w.heap.size)(l:∀b,w.heap.size<=b->cl b=.mine 0)(h:EE P Post cl (G (b.at (a.put o.dst qhx) (.inRegion c f::k)) cs) g):EE P Post cl (G (b.at a (.inRegion c (i::f)::k)) cs) w :=
 .raw g cl rfl (λd=>⟨_,q00 q n r (p d),λe hm=>s d e (kG _ _ _ e hm)⟩) (qlB j.symm) (λ_ _=>rfl) (λb t=>l b (by omega)) h
def EE.enter{c:Array qjn}{i:Nat}{d:List Nat}{o:qjn}{f:qj8}{g:Func}{args:Array qiy}{j:Array qi4}(p:c[i]?=some o)(n:qip o (qjt c a.tmps)=true)(q:b.kind≠.early)(e:o.op=.call { callee:=.value (.func f),args,argTypes:=j })(hf:P.funcs[f]?=some g)(hname:(g.name == "runtime.NumGoroutine")=false)(hb:g.body.isNone=false)(h:EE P Post cl (G (qiz P f (args.map a.eval) .normal) (b.at a (.inRegion c (i::d)::k)::cs)) w) :EE P Post cl (G (b.at a (.inRegion c (i::d)::k)) cs) w :=
 .pure rfl (λw=>by
  rw[stepG_enter p n q (qne e hf hname hb)];have:listed P b.fn a o w=#[]:=by unfold listed;rw[events_call_body e hf hname hb];exact seen_none P _
  rw[this]) h
def EE.leave1{b₀:qhG}{a₀:Act}{d:Array qjn}{i:Nat}{c:List Nat}{e:List qlG}{g:Func}{t:Tmp}(j:b.kind=.normal)(n:a.defers=[])(l:P.funcs[b.fn]?=some g)(f:g.results=#[.tmp t])(h:EE P Post cl (G (b₀.at (a₀.put ((d[i]?).bind (·.dst)) (a.tmps.getD t qhx)) (.inRegion d c::k)) cs) w):EE P Post cl (G { b.at a e with mode:=.returning } (b₀.at a₀ (.inRegion d (i::c)::k)::cs)) w :=
 .pure rfl (λw=>by rw[stepG_leave j n l (results_tmp f _ P w) (qo6 f _ _),qkj]) h
end
end
def q2k{c:qhG}{cs:List qhG}(hm:c.mode=.run)(d:c.kind=.normal)(f:qhG):qik f (c::cs)=none:=by
 have e:qik c cs=none:=by
  unfold qik;rw[d]
 unfold qik;split
 ·rename_i h
  cases h;rw[hm]
 ·rename_i h
  cases h;rw[e];rfl
 ·rfl
section
variable[J:JunkSet]{Q P:qhF}{Post:qhu->qhr->Prop}{cl:Nat->Cl}{M N:Nat}
def E.subc(D:Two Q P){F:qhw->qhr->Prop}{f:qj8}{l:List qhG}{W:qhr}{ρ0:Ren}(hR:∀fr,qik fr l=none)(hF:∀g u,F g u->g.callers=[ql f])(r:∀Z g p t w,Sub Q P M F f l Z g p t w->F g p->Le ρ0 Z->(∀i j,BR Z i j->BR ρ0 i j\/W.heap.size<=j)->kX cl Z->(∀b,w.heap.size<=b->cl b=.mine 0)->kl M N W Z w->E P Post cl t w){Z:Ren}{g t:qhw}{p w:qhr}(h:Sub Q P M F f l Z g p t w)(z:Le ρ0 Z)(B:∀i j,BR Z i j->BR ρ0 i j\/W.heap.size<=j)(ho:kX cl Z)(V:∀b,w.heap.size<=b->cl b=.mine 0)(S:kl M N W Z w):E P Post cl t w:=by
 have q:Acc (Below Q F) (g,p):=h.tree.acc;generalize hx:(g,p)=x at q;induction q generalizing Z g p t w with
 | intro x _ ih=>
  subst hx;by_cases hn:F g p
  ·exact r Z g p t w h hn z B ho V S
  ·refine E.step (ve h) λd=>?_;have⟨O,Y,n,G,I,es,X,h2,s,h4,_,v⟩:=(q2d h d).stepK D.H D.hrf hR hn true (λg u hg=>by rw[hF g u hg];simp);have C:Sub Q P M F f l O Y n G I:=by
    rcases v with v | ⟨fk,k,a,a',c,c',pre,a6,v,rfl,rfl⟩
    ·exact v
    ·exfalso;have⟨o,u,es,e⟩:=D.stub fk v.diff a k (c::(pre++[ql f])) (n.tp n.tape);cases v.tree with
     | done hh=>
      have:=hF _ _ hh;simp at this
     | step _ X _=>
      have⟨Y,u1,e4,e1,_⟩:=X n.tape;rw[e] at e1;cases e1
   have y:kX cl O:=ho.step (w:=w.at d) s V;have U:∀b,I.heap.size<=b->cl b=.mine 0:=λb hb=>V b (qhB s.size hb);have R:kl M N W O I:=kl.step (w:=w.at d) (S.at d) s;refine⟨G,I,es,X,s.size,λe he=>vm y C.wr (h4 e he),?_⟩;refine ih (Y,n) h2 C (z.trans s.le) (λi j A=>?_) y U R rfl;rcases qjy i Z.length with L | T
   ·exact B i j (BR.back s.le A L)
   ·exact .inr (qhB S.size (s.fresh i j A T))
def EE.call(D:Two Q P){f:qj8}{aq ap:Array qhu}{R:qhu->qhr->Prop}{c:qhG}{cs:List qhG}{Z:Ren}{wq w:qhr}(t:JunkSet.okf f)(hs:Q.funcs[f]?=P.funcs[f]?)(ha:AsR Z aq ap)(y:M<=Z.length)(hw:WR Q M Z wq w)(hG:Gl P Z)(hc:∀T,qis Q f aq (wq.tp T) λe u=>∃v,e=.returned v/\R v u)(b7:c.mode=.run)(b9:c.kind=.normal)(ho:kX cl Z)(b8:∀b,w.heap.size<=b->cl b=.mine 0)(C:∀O l v I n,R v l->VR O v I->WR Q M O l n->Le Z O->(∀i j,BR O i j->BR Z i j\/w.heap.size<=j)->kX cl O->(∀b,n.heap.size<=b->cl b=.mine 0)->kl M 0 w O n->EE P Post cl (G (c.finish I) cs) n) :EE P Post cl (G (qiz P f ap .normal) (c::cs)) w:=by
 intro d;have⟨B,U,HQ⟩:=D.HQ;have q:=q9G hw d;have S:@xQ B.j Q M (yn Q f aq [ql f]) wq:=⟨Z,_,w.at d,y,WR.up U q,λi hi=>hG i (by rw[D.H.gsize];exact hi),kV.up U (Ky D.H t hs ha)⟩;have ht:=@LT.of_calls B.j Q M HQ f aq wq (λe u=>∃v,e=.returned v/\R v u) hc (λu ⟨v,h,_⟩=>by cases h) S;have r:Sub Q P M (AtRet Q f [ql f] λe u=>∃v,e=.returned v/\R v u) f (c::cs) Z (yn Q f aq [ql f]) wq (G (qiz P f ap .normal) (c::cs)) (w.at d) :=
  Sub.enter D.H t hs ha y q hG ht
 refine E.subc D (W:=w) (N:=0) (q2k b7 b9) (λg u h=>h.2.1) ?_ r (Le.refl _) (λi j h=>.inl h) ho b8 ⟨λ_ _ _=>rfl,rfl,rfl,qhv _,λ_ _ _ _=>qiu _,qiu _⟩;intro O g l g' n s hF a7 b0 X F z;refine E.step (ve s) λL=>?_;obtain⟨hl,b6,g6,T,e,⟨v,rfl,hR⟩,Y⟩:=hF;have⟨V,d8,I,p,es,k1,k2,k3,k4,o,k6⟩:=Sub.ret D.H (q2d s L) b6 Y true;subst k4;have x:kX cl V:=X.step (w:=n.at L) o F;have c3:∀b,p.heap.size<=b->cl b=.mine 0:=λb hb=>F b (qhB o.size hb);have a8:kl M 0 w V p:=kl.step (w:=n.at L) (z.at L) o;refine⟨_,p,es,k1,o.size,λe he=>vm x k3 (k6 e he),?_⟩;have:=C V _ v I p hR k2 k3 (a7.trans o.le) (λi j A=>?_) x c3 a8
 ·exact this p.drawn
 ·rcases qjy i O.length with a6 | a9
  ·exact b0 i j (BR.back o.le A a6)
  ·exact .inr (qhB z.size (o.fresh i j A a9))
end
end
section
open Go.Conc Go.ConcN Go.Sim
section
variable{P:qhF}{Fz:Bs}{K:qhr->qhr->Prop}{Stop:Bs->qhw->qhr->Prop}{S:Bs}
def qm.pure{g g':qhw}{w:qhr}(hK:∀a b c,K a b->K b c->K a c)(d:g.status=.running)(h:∀w,qj5 P false g w=.go g' w #[])(e:qm P Fz K Stop S g' w):qm P Fz K Stop S g w :=
 qm.still d (λw₁ _=>h w₁) λ_ h₁=>e.rely hK h₁
section
variable(hK:∀a b c,K a b->K b c->K a c){b:qhG}{a:Act}{k:List qlG}{cs:List qhG}{w:qhr}
include hK
theorem qm.seq{x y:qkh}(h:qm P Fz K Stop S (G (b.at a (.code x::.code y::k)) cs) w):qm P Fz K Stop S (G (b.at a (.code (.seq x y)::k)) cs) w:=.pure hK rfl (λ_=>qi5) h
theorem qm.skip(h:qm P Fz K Stop S (G (b.at a k) cs) w):qm P Fz K Stop S (G (b.at a (.code .skip::k)) cs) w:=.pure hK rfl (λ_=>qjj) h
theorem qm.cond{c:qiy}{x y:qkh}(t:Bool)(d:a.eval c=.bool t)(h:qm P Fz K Stop S (G (b.at a (.code (if t then x else y)::k)) cs) w):qm P Fz K Stop S (G (b.at a (.code (.cond c x y)::k)) cs) w:=.pure hK rfl (λ_=>stepG_cond d) h
theorem qm.block{id:Nat}{c:qkh}(h:qm P Fz K Stop S (G (b.at a (.code c::.inBlock id::k)) cs) w):qm P Fz K Stop S (G (b.at a (.code (.block id c)::k)) cs) w:=.pure hK rfl (λ_=>qoa) h
theorem qm.inBlock{id:Nat}(h:qm P Fz K Stop S (G (b.at a k) cs) w):qm P Fz K Stop S (G (b.at a (.inBlock id::k)) cs) w:=.pure hK rfl (λ_=>stepG_inBlock) h
theorem qm.loop{c:qkh}(h:qm P Fz K Stop S (G (b.at a (.code c::.inLoop c::k)) cs) w):qm P Fz K Stop S (G (b.at a (.code (.loop c)::k)) cs) w:=.pure hK rfl (λ_=>qr3) h
theorem qm.inLoop{c:qkh}(h:qm P Fz K Stop S (G (b.at a (.code c::.inLoop c::k)) cs) w):qm P Fz K Stop S (G (b.at a (.inLoop c::k)) cs) w:=.pure hK rfl (λ_=>stepG_inLoop) h
theorem qm.region{id:Nat}{c:Array qjn}(h:qm P Fz K Stop S (G (b.at a (.inRegion c (qil c.size)::k)) cs) w):qm P Fz K Stop S (G (b.at a (.code (.region id c false)::k)) cs) w:=.pure hK rfl (λ_=>stepG_region) h
theorem qm.region_end{c:Array qjn}(h:qm P Fz K Stop S (G (b.at a k) cs) w):qm P Fz K Stop S (G (b.at a (.inRegion c []::k)) cs) w:=.pure hK rfl (λ_=>qhy) h
theorem qm.retS(h:qm P Fz K Stop S (G { b.at a (.code .ret::k) with mode:=.returning } cs) w):qm P Fz K Stop S (G (b.at a (.code .ret::k)) cs) w:=.pure hK rfl (λ_=>qkx) h
theorem qm.endS(h:qm P Fz K Stop S (G { b.at a [] with mode:=.returning } cs) w):qm P Fz K Stop S (G (b.at a []) cs) w:=.pure hK rfl (λ_=>qrw) h
theorem qm.value{c:Array qjn}{i:Nat}{d:List Nat}{o:qjn}(v:qhu)(g:c[i]?=some o)(e:qip o (qjt c a.tmps)=true)(j:b.kind≠.early)(f:∀w,(qkA a.eval o).run P w=.ok (.value v) w)(l:∀w,(qkA a.eval o).events P w #[]=#[])(h:qm P Fz K Stop S (G (b.at (a.put o.dst v) (.inRegion c d::k)) cs) w):qm P Fz K Stop S (G (b.at a (.inRegion c (i::d)::k)) cs) w :=
 .pure hK rfl (λw=>by rw[qqg g e j (f w)];unfold listed;rw[l w,seen_none]) h
theorem qm.unwanted{c:Array qjn}{i:Nat}{d:List Nat}{o:qjn}(f:c[i]?=some o)(e:qip o (qjt c a.tmps)=false)(h:qm P Fz K Stop S (G (b.at (a.put o.dst qhx) (.inRegion c d::k)) cs) w):qm P Fz K Stop S (G (b.at a (.inRegion c (i::d)::k)) cs) w :=
 .pure hK rfl (λ_=>stepG_unwanted f e) h
theorem qm.enter{d:Array qjn}{i:Nat}{e:List Nat}{o:qjn}{f:qj8}{n:Func}{c:qkh}{args:Array qiy}{p:Array qi4}(r:d[i]?=some o)(q:qip o (qjt d a.tmps)=true)(s:b.kind≠.early)(g:o.op=.call { callee:=.value (.func f),args,argTypes:=p })(hf:P.funcs[f]?=some n)(hname:(n.name == "runtime.NumGoroutine")=false)(hb:n.body=some c)(h:qm P Fz K Stop S (G ((base f).at { tmps:=args.map a.eval++qiE (n.ntmps - (args.map a.eval).size) qhx,defers:=[] } [.code c]) (b.at a (.inRegion d (i::e)::k)::cs)) w) :qm P Fz K Stop S (G (b.at a (.inRegion d (i::e)::k)) cs) w :=
 .pure hK rfl (λw=>by
  have j:n.body.isNone=false:=by rw[hb];rfl
  rw[stepG_enter r q s (qne g hf hname j),enter_at _ hf hb];have:listed P b.fn a o w=#[]:=by unfold listed;rw[events_call_body g hf hname j];exact seen_none P _
  rw[this]) h
theorem qm.leave1{b₀:qhG}{a₀:Act}{d:Array qjn}{i:Nat}{c:List Nat}{e:List qlG}{g:Func}{t:Tmp}(j:b.kind=.normal)(n:a.defers=[])(l:P.funcs[b.fn]?=some g)(f:g.results=#[.tmp t])(h:qm P Fz K Stop S (G (b₀.at (a₀.put ((d[i]?).bind (·.dst)) (a.tmps.getD t qhx)) (.inRegion d c::k)) cs) w):qm P Fz K Stop S (G { b.at a e with mode:=.returning } (b₀.at a₀ (.inRegion d (i::c)::k)::cs)) w :=
 .pure hK rfl (λw=>by rw[stepG_leave j n l (results_tmp f _ P w) (qo6 f _ _),qkj]) h
theorem qm.leave0{b₀:qhG}{a₀:Act}{d:Array qjn}{i:Nat}{c:List Nat}{e:List qlG}{g:Func}(j:b.kind=.normal)(n:a.defers=[])(l:P.funcs[b.fn]?=some g)(f:g.results=#[])(h:qm P Fz K Stop S (G (b₀.at (a₀.put ((d[i]?).bind (·.dst)) (.tuple #[])) (.inRegion d c::k)) cs) w):qm P Fz K Stop S (G { b.at a e with mode:=.returning } (b₀.at a₀ (.inRegion d (i::c)::k)::cs)) w :=
 .pure hK rfl (λw=>by rw[stepG_leave j n l (results_none f _ P w) (events_results_none f _ _),qkj]) h
theorem qm.load[JunkSet]{c:Array qjn}{i:Nat}{d:List Nat}{o:qjn}(v:qhu)(j:c[i]?=some o)(f:qip o (qjt c a.tmps)=true)(l:b.kind≠.early)(g:∀w₁,RC Fz K S w w₁->(qkA a.eval o).run P w₁=.ok (.value v) w₁/\∀e∈(qkA a.eval o).events P w₁ #[],EvC Fz S w₁.heap.size e)(h:qm P Fz K Stop S (G (b.at (a.put o.dst v) (.inRegion c d::k)) cs) w) :qm P Fz K Stop S (G (b.at a (.inRegion c (i::d)::k)) cs) w :=
 qm.step rfl λw₁ h₁=>by
  have⟨q,p⟩:=g w₁ h₁;refine⟨_,w₁,_,qqg j f l q,⟨λ_ _ _=>rfl,qhv _,rfl,rfl,λe n=>?_⟩,by rw[vY];exact h.rely hK h₁⟩;rw[vY];exact p e (kG _ _ _ e n)
end
def qm.offers{g:qhw}{w:qhr}(hSo:∀S g w c,Stop S g w->Stop S { g with offers:=c } w)(c:Option (Array ql6 × qkw))(h:qm P Fz K Stop S g w):qm P Fz K Stop S { g with offers:=c } w:=by
 obtain⟨r,h⟩:=h;cases r with
 | leaf=>exact⟨.leaf,λw₁ h₁=>hSo _ _ _ _ (h w₁ h₁)⟩
 | nd f=>exact⟨.nd f,h.1,h.2⟩
section
variable[J:JunkSet]{Q:qhF}{base:Nat}
structure qg7(Q P:qhF)(base:Nat)(Fz S Jc Jb:Bs)(Z:Ren)(a:Act)(tm:Array qhu)(wq w:qhr):Prop where
 len:base<=Z.length
 wr:WR Q base Z wq w
 gl:Gl P Z
 tm:AsR Z a.tmps tm
 df:a.defers=[]
 own:Own base Z JunkSet.jk Fz S
 jb:∀i j,BR Z i j->JunkSet.jk i->Jc j
 js:∀j,Jb j->¬ S j
def qm.piece(H:Duo Q P){X:qg9}(U:Up J X.j)(HQ:@Duo X.j Q Q)(hrf:P.follows .rangeFuncRecover=true){real:List qhG}(hrr:∀fr,qik fr real=none)(s:∀fk,Q.funcs[fk]?≠P.funcs[fk]?->∀a k cs u,∃o w es,qj5 Q true { frame:=qiz Q fk a k,callers:=cs,status:=.running,dying:=none } u true=.ended o w es)(Jc Jb:Bs)(Liv:qhr->Prop)(hL1:∀S w w₁,RC Fz K S w w₁->Liv w->Liv w₁)(hL2:∀S w p es,DC Fz S w p es->(∀b,Jb b->p.heap[b]?=w.heap[b]?)->Liv w->Liv p)(hL3:∀w b,Liv w->Jc b->∃c e f,w.heap[b]?=some (.cells c e f))(hL4:∀w b,Liv w->Jb b->b<w.heap.size)(hSo:∀S g w d,Stop S g w->Stop S { g with offers:=d } w){b:qhG}(hfn:∃g,Q.funcs[b.fn]?=some g/\P.funcs[b.fn]?=some g)(hin:Q.inits.idxOf? b.fn=none)(hbr:b.roundOf=none){c:qkh}(hc:qB Q c){Z:Ren}{a:Act}{tm:Array qhu}{D:List qjH}{k:List qlG}{wq w:qhr}{S:Bs}{R:Act->qhr->Prop}(h:qg7 Q P base Fz S Jc Jb Z a tm wq w)(hv:Liv w)(hwp:∀T,c.wp Q (yt R) a (wq.tp T))(hRd:∀a u,R a u->a.defers=[])(hend:∀ρ' Y r n p S',R Y n->Le Z ρ'->qg7 Q P base Fz S' Jc Jb ρ' Y r n p->Liv p->qm P Fz K Stop S' (G (b.at ⟨r,D⟩ k) real) p) :qm P Fz K Stop S (G (b.at ⟨tm,D⟩ (.code c::k)) real) w:=by
 obtain⟨V,B,A⟩:=hfn;have I:∀(X:qhF),(∃g,Q.funcs[b.fn]?=some g/\X.funcs[b.fn]?=some g)->kV Q X Z (G (b.at a [.code c]) [ql b.fn]) (G (b.at ⟨tm,[]⟩ [.code c]) [ql b.fn]):=λX hX=>
  ⟨⟨rfl,hX,hin,h.tm,.cons (.code hc) .nil,by simp only[G,Frame.at];rw[h.df];exact .nil,.run,rfl,.inl ⟨rfl,rfl⟩⟩,.cons (q31 hin hX) .nil,rfl,rfl,rfl,rfl⟩
 have b8:@xQ X.j Q base (G (b.at a [.code c]) [ql b.fn]) wq:=⟨Z,_,w,h.len,WR.up U h.wr,λi hi=>h.gl i (by rw[H.gsize];exact hi),kV.up U (I P ⟨V,B,A⟩)⟩;have ht:=@LT.of_wp X.j Q base b.fn HQ _ _ _ _ _ hwp b8;have a8:KU Q P base (AtEnd b.fn b R) b.fn k D real Z (G (b.at a [.code c]) [ql b.fn]) wq (G (b.at ⟨tm,D⟩ (.code c::k)) real) w :=
  ⟨h.len,h.wr,h.gl,ht,⟨[],rfl⟩,_,I P ⟨V,B,A⟩,by
   have:=Lay.top (k:=k) (D:=D) (real:=real) (f:=b.fn) (gv:=G (b.at ⟨tm,[]⟩ [.code c]) [ql b.fn]) rfl rfl rfl;simpa[tl,G,Frame.at] using this⟩
 refine qm.tsub H hrf hrr AtEnd.leafs s Jc Jb Liv hL1 hL2 hL3 hL4 (ρ0:=Z) ?_ a8 (Le.refl _) h.own h.jb hv h.js;rintro O g n g' p S' l ⟨e9,b7,Y,T,F,hR⟩ x ho b0 a7 z;have⟨gv,W,y⟩:=l.rel;have hd:=hRd _ _ hR;have M:=W.callers;rw[b7] at M;have⟨c9,q,a9⟩:=vM (pre:=[]) M;cases a9;have q:gv.callers=[ql b.fn]:=q;have hf:=W.frame;rw[F] at hf;cases y with
 | und pre c0 N _=>
  rw[q] at N;exact(q7E N.symm).elim
 | top _ hm v=>
  obtain⟨⟨fn,tmps,todo,defers,mode,kind,ro⟩,cs,st,dy,d⟩:=gv;obtain⟨h1,h2,h3,h4,h5,h6,h7,h8,h9⟩:=hf;have t:=W.st';have L:=W.dy';dsimp only[Frame.at] at h1 h4 h5 h6 h8 hm v t L;rw[hd] at h6;cases h5;cases h6;subst h1 h8 hm v t L;have b6:({ frame:=tl k D { fn:=b.fn,tmps:=tmps,todo:=[],defers:=[],mode:=.run,kind:=b.kind,roundOf:=none },callers:=real,status:=.running,dying:=none,offers:=d }:qhw)={ G (b.at ⟨tmps,D⟩ k) real with offers:=d }:=by
   simp[tl,G,Frame.at]
  have C:({ ({ frame:={ fn:=b.fn,tmps:=tmps,todo:=[],defers:=[],mode:=.run,kind:=b.kind,roundOf:=none },callers:=cs,status:=.running,dying:=none,offers:=d }:qhw) with frame:=tl k D { fn:=b.fn,tmps:=tmps,todo:=[],defers:=[],mode:=.run,kind:=b.kind,roundOf:=none },callers:=real }:qhw)={ G (b.at ⟨tmps,D⟩ k) real with offers:=d }:=b6;rw[C];exact qm.offers hSo d (hend O Y tmps (n.tp T) p S' hR x ⟨l.len,⟨l.wr.len,l.wr.nodup,l.wr.lt,l.wr.obj,l.wr.low,l.wr.env,l.wr.below,l.wr.gar⟩,l.gl,h4,hd,ho,b0,z⟩ a7)
end
end
end
section
open Go.Conc Go.ConcN Go.Sim
section
variable{P:qhF}{Fz:Bs}{K:qhr->qhr->Prop}{Stop:Bs->qhw->qhr->Prop}{S:Bs}(hK:∀a b c,K a b->K b c->K a c){b:qhG}{k:List qlG}{cs:List qhG}
include hK
omit hK in
theorem qdw{d:qlv}{c:Array qjn}{a t:Nat}{listed:Array Bool}(e:qia d c listed=[]):qiH d c a t listed []=[]:=by
 cases a with
 | zero=>simp[qiH]
 | succ a=>
  simp only[qiH];change (match (qia d c listed)[t % (qia d c listed).length]? with
   | some i=>qiH d c a (t / (qia d c listed).length) (listed.setIfInBounds i true) [i]
   | none=>[].reverse)=[]
  rw[e];rfl
theorem qm.any{md:qlv}{ops:Array qjn}(I:Array Bool->Act->Prop){w:qhr}(g:∀listed a i,listed.size=ops.size->I listed a->i∈qia md ops listed->∀d,(qia md ops (listed.setIfInBounds i true)=[]->d=[])->(∀p,I (listed.setIfInBounds i true) p->qm P Fz K Stop S (G (b.at p (.inRegion ops d::k)) cs) w)->qm P Fz K Stop S (G (b.at a (.inRegion ops (i::d)::k)) cs) w)(f:∀listed a,listed.size=ops.size->I listed a->qia md ops listed=[]->qm P Fz K Stop S (G (b.at a k) cs) w) :∀(c t:Nat) (listed:Array Bool) (a:Act),listed.size=ops.size->unl listed ops.size<=c->I listed a->qm P Fz K Stop S (G (b.at a (.inRegion ops (qiH md ops c t listed [])::k)) cs) w:=by
 intro c;induction c with
 | zero=>
  intro t listed a h y o;have e:qia md ops listed=[]:=by
   cases e:qia md ops listed with
   | nil=>rfl
   | cons i l=>
    exfalso;have⟨s,r⟩:=zz (md:=md) (ops:=ops) (listed:=listed) (i:=i) (by rw[e];simp);have:=vd s h r;omega
  simp only[qiH,List.reverse_nil];exact qm.region_end hK (f listed a h o e)
 | succ c v=>
  intro t listed a h y o;simp only[qiH];change qm P Fz K Stop S (G (b.at a (.inRegion ops (match (qia md ops listed)[t % (qia md ops listed).length]? with
   | some i=>qiH md ops c (t / (qia md ops listed).length) (listed.setIfInBounds i true) [i]
   | none=>[].reverse)::k)) cs) w
  cases j:(qia md ops listed)[t % (qia md ops listed).length]? with
  | none=>
   have e:qia md ops listed=[]:=by
    cases e:qia md ops listed with
    | nil=>rfl
    | cons x u=>
     rw[e] at j;have n:t % (x::u).length<(x::u).length:=Nat.mod_lt _ (by simp);simp at j;simp at n;omega
   exact qm.region_end hK (f listed a h o e)
  | some i=>
   simp only[];rw[linearise_go_acc,qpH,List.singleton_append];have j:=qi9 j;have⟨s,r⟩:=zz j;have n:=vd s h r;refine g listed a i h o j _ (λe=>?_) λp q=>v _ _ p (by simpa using h) (by omega) q;exact qdw e
theorem qm.region_inv{id:Nat}{c:Array qjn}{a:Act}{w:qhr}(hm:P.follows .mixedOrders=true)(g:∀w n,K w { w with drawn:=n })(I:Array Bool->Act->Prop)(h0:I (qiE c.size false) a)(hstep:∀listed a i,listed.size=c.size->I listed a->i∈qia .any c listed->∀d,(qia .any c (listed.setIfInBounds i true)=[]->d=[])->(∀h,I (listed.setIfInBounds i true) h->qm P Fz K Stop S (G (b.at h (.inRegion c d::k)) cs) w)->qm P Fz K Stop S (G (b.at a (.inRegion c (i::d)::k)) cs) w)(hend:∀listed a,listed.size=c.size->I listed a->qia .any c listed=[]->qm P Fz K Stop S (G (b.at a k) cs) w) :qm P Fz K Stop S (G (b.at a (.code (.region id c true)::k)) cs) w:=by
 refine qm.step rfl λw₁ h₁=>?_;have e:qj5 P false (G (b.at a (.code (.region id c true)::k)) cs) w₁=.go (G (b.at a (.inRegion c (qo0 (P.follows .mixedOrders) c (w₁.tape w₁.drawn (.order b.fn id)))::k)) cs) { w₁ with drawn:=w₁.drawn+1 } #[]:=by
  simp[G,qj5,ql5,Frame.at,choose,qjd,Question.forced,Question.cut]
 refine⟨_,_,_,e,⟨λ_ _ _=>rfl,qhv _,rfl,rfl,by simp⟩,?_⟩;have j:grow S w₁ { w₁ with drawn:=w₁.drawn+1 }=S:=vY S w₁;rw[j];have:=qm.any hK I (w:=w) hstep hend c.size (w₁.tape w₁.drawn (.order b.fn id)) _ a (by simp) (by
  unfold unl;exact qhB (qkb _ _) (by simp)) h0
 have l:qm P Fz K Stop S (G (b.at a (.inRegion c (qo0 (P.follows .mixedOrders) c (w₁.tape w₁.drawn (.order b.fn id)))::k)) cs) w:=by
  simp only[qo0,hm,Bool.true_or,if_true];exact this
 exact l.rely hK ⟨λb f=>h₁.own b f,λb f=>h₁.fz b f,h₁.size,h₁.os,h₁.output,hK _ _ _ h₁.k (g _ _)⟩
omit hK in
theorem qm.of_goes2{R:qhr->qhr->Prop}(c:∀w w₁,RC Fz K S w w₁->R w w₁)(r:∀w,R w w){a:qhw->qhr->Prop}(f:∀g w,a g w->Stop S g w):∀{n:Nat} {g:qhw} {w:qhr},qnh P false R qoj a n g w->qm P Fz K Stop S g w:=by
 intro n;induction n with
 | zero=>exact λh=>qm.stop λw₁ h₁=>f _ _ (h w₁ (c _ _ h₁))
 | succ n i=>
  intro g w h;rcases h with h | ⟨l,h⟩
  ·exact qm.stop λw₁ h₁=>f _ _ (h w₁ (c _ _ h₁))
  ·refine .step l λw₁ h₁=>?_;have⟨o,d,s,e,⟨q,p⟩,j⟩:=goes_elim (h w₁ (c _ _ h₁));subst q;subst p;exact⟨o,d,#[],e,q50 S d,by rw[vY];exact i j⟩
end
end
section
open Go.Conc Go.ConcN
open Go.ConcR (KK wgBlock WgAt stA smA rd wr mk DC0)
def LR(ty:qi4)(Wg:Nat)(w w₁:qhr):Prop:=qkB ty Wg w->qkB ty Wg w₁
def DM(Wg:Nat)(w b:qhr)(c:Array qjk):Prop:=b=w/\∀e∈c,e=mk (.read (smA Wg))\/e=mk (.write (smA Wg))
section
variable(P:qhF)(ty:qi4)(Wg:Nat)
def WG(b:qhw->qhr->Prop)(m:Nat)(g:qhw)(w:qhr):Prop:=qnh P false (LR ty Wg) DC0 b m g w
def WD4(g:qhw)(w:qhr):Prop :=
 g.status=.running/\mayWake P g=true/\(qo7 ty Wg w 0 0->∃b,qj5 P false g w=.go b (w.setCell (smA Wg) (.int .u32 1)) (qml (smA Wg))/\∃q,qpf P q 1 b)
def WD3(g:qhw)(w:qhr):Prop :=
 g.status=.running/\(qo7 ty Wg w 1 0->∃b,qj5 P false g w=.go b (w.setCell (stA Wg) (.int .u64 0)) #[wr (stA Wg)]/\∃m,WG P ty Wg (WD4 P ty Wg) m b (w.setCell (stA Wg) (.int .u64 0)))
def WD2(g:qhw)(w:qhr):Prop :=
 g.status=.running/\(qo7 ty Wg w 1 0->∃b,qj5 P false g w=.go b w #[rd (stA Wg)]/\∃m,WG P ty Wg (WD3 P ty Wg) m b w)
def WD1(g:qhw)(w:qhr):Prop :=
 g.status=.running/\∀v b:Nat,b<=1->v<2147483647->qo7 ty Wg w ((v+1)*KK+b) 0 ->
  ∃c,qj5 P false g w=.go c (w.setCell (stA Wg) (.int .u64 (v*KK+b))) #[rd (stA Wg),wr (stA Wg)] /\
   ((v=0/\b=1)->∃m,WG P ty Wg (WD2 P ty Wg) m c (w.setCell (stA Wg) (.int .u64 (v*KK+b))))/\(¬ (v=0/\b=1)->∃q,qpf P q 1 c)
def WK1(g:qhw)(w:qhr):Prop :=
 g.status=.running/\∃b,qj5 P false g w=.go b w #[qkn .disable]/\∃m,WG P ty Wg (WD1 P ty Wg) m b w
def qh8(g:qhw)(w:qhr):Prop :=
 ∃b,qj5 P false g w=.go b w #[qkn (.releaseMerge (stA Wg))]/\∃m,WG P ty Wg (WK1 P ty Wg) m b w
end
structure Cfg(U X:Type) where
 P:qhF
 ty:qi4
 Wg:Nat
 lo:Nat
 n:Nat
 Fz:Bs
 Sy:Bs
 clA:Nat->Cl
 DataAt:U->qhr->Prop
 WA:X->Bs->qhw->qhr->Prop
 Tr:U->X->U->X->Prop
 J:U->Nat->(Nat->X)->Prop
 m:U->Nat
 nu:X->Nat
 l0:X
 fin:X->Prop
 W1:qhr
 Fin:qhw->qhr->Prop
 AnchW:qhw->qhr->Prop
 Post:qhu->qhr->Prop
section
variable{U X:Type}(C:Cfg U X)
def Cfg.K(w w₁:qhr):Prop:=(qkB C.ty C.Wg w->qkB C.ty C.Wg w₁)/\((∃W,C.DataAt W w)->∃W,C.DataAt W w₁)
structure Cfg.Ph(w:qhr):Prop where
 fz:∀b,C.Fz b->w.heap[b]?=C.W1.heap[b]?
 size:C.W1.heap.size<=w.heap.size
 os:w.os=C.W1.os
 output:w.output=C.W1.output
def flat(c:Nat->Cl)(b:Nat):Cl:=match c b with | .sync=>.sync | _=>.mine 0
def Cfg.GW(b:qhw->qhr->Prop)(m:Nat)(g:qhw)(w:qhr):Prop:=WG C.P C.ty C.Wg b m g w
def Cfg.AtD4:qhw->qhr->Prop:=WD4 C.P C.ty C.Wg
def Cfg.AtD3:qhw->qhr->Prop:=WD3 C.P C.ty C.Wg
def Cfg.AtD2:qhw->qhr->Prop:=WD2 C.P C.ty C.Wg
def Cfg.AtD1:qhw->qhr->Prop:=WD1 C.P C.ty C.Wg
def Cfg.AtK1:qhw->qhr->Prop:=WK1 C.P C.ty C.Wg
def Cfg.AtEnd:qhw->qhr->Prop:=qh8 C.P C.ty C.Wg
def Cfg.AtSync(l:X)(S:Bs)(g:qhw)(w:qhr):Prop :=
 ∀W,C.DataAt W w->(∃j ls,j<=C.n/\C.J W j ls)->∃h c i γ' f,qj5 C.P false g w=.go h c i/\(∀b,¬ C.Sy b->c.heap[b]?=w.heap[b]?)/\c.heap.size=w.heap.size/\c.os=w.os/\c.output=w.output /\
  (∀e∈i,∃a wr,e=⟨.cell a,wr,true⟩/\C.Sy a.block)/\C.DataAt γ' c/\C.Tr W l γ' f/\C.WA f S h c
def Cfg.Stop(l:X)(S:Bs)(g:qhw)(w:qhr):Prop:=g.status=.running/\((C.fin l/\C.AtEnd g w)\/(¬ C.fin l/\C.AtSync l S g w))
def Cfg.GM(b:qhw->qhr->Prop)(m:Nat)(g:qhw)(w:qhr):Prop:=qnh C.P true (LR C.ty C.Wg) (DM C.Wg) b m g w
def Cfg.AtAcq(g:qhw)(w:qhr):Prop :=
 g.status=.running/\∃b,qj5 C.P true g w=.go b w #[qkn (.acquire (stA C.Wg))]/\C.Fin b w
def Cfg.AtKe(g:qhw)(w:qhr):Prop :=
 g.status=.running/\∃b,qj5 C.P true g w=.go b w #[qkn .enable]/\∃m,C.GM C.AtAcq m b w
def Cfg.AtW4(g:qhw)(w:qhr):Prop :=
 g.status=.running/\(qo7 C.ty C.Wg w 0 0->∃b,qj5 C.P true g w=.go b w #[rd (stA C.Wg)]/\∃m,C.GM C.AtKe m b w)
def Cfg.AtW3(g:qhw)(w:qhr):Prop :=
 g.status=.running/\g.offers=none /\
  ((∃c,qo7 C.ty C.Wg w c 0)->qj5 C.P true g w=.go { g with status:=.blocked } w #[]) /\
  (qo7 C.ty C.Wg w 0 1->∃b,qj5 C.P true g w=.go b (w.setCell (smA C.Wg) (.int .u32 0)) (qml (smA C.Wg))/\∃m,C.GM C.AtW4 m b (w.setCell (smA C.Wg) (.int .u32 0)))
def Cfg.AtW2(c:Nat)(g:qhw)(w:qhr):Prop :=
 g.status=.running/\∀v:Nat,v<2147483648->qo7 C.ty C.Wg w (v*KK) 0 ->
  (v=c->∃b,qj5 C.P true g w=.go b (w.setCell (stA C.Wg) (.int .u64 (v*KK+1))) #[rd (stA C.Wg),wr (stA C.Wg)]/\∃m,C.GM C.AtW3 m b (w.setCell (stA C.Wg) (.int .u64 (v*KK+1)))) /\
  (v≠c->∃b,qj5 C.P true g w=.go b w #[rd (stA C.Wg)]/\∃m,C.GM C.AnchW m b w)
def Cfg.AtW1(g:qhw)(w:qhr):Prop :=
 g.status=.running/\∀v:Nat,v<2147483648->qo7 C.ty C.Wg w (v*KK) 0->∃b,qj5 C.P true g w=.go b w #[rd (stA C.Wg)] /\
  (v=0->∃m,C.GM C.AtKe m b w)/\(v≠0->∃m,C.GM (C.AtW2 v) m b w)
def Cfg.AtKd(g:qhw)(w:qhr):Prop :=
 g.status=.running/\∃b,qj5 C.P true g w=.go b w #[qkn .disable]/\∃m,C.GM C.AnchW m b w
def Cfg.FinS(g:qhw)(w:qhr):Prop:=∃m,C.GM C.AtKd m g w
def Cfg.AtGoS(qmm:qhw->qhr->Prop)(g:qhw)(w:qhr):Prop :=
 g.status=.running/\∃c b,qj5 C.P true g w=.spawn c b w #[]/\(C.Ph w->(∃W,C.DataAt W w)->C.WA C.l0 (λ_=>False) b w)/\qmm c w
def Cfg.AtKeS(qmm:qhw->qhr->Prop)(g:qhw)(w:qhr):Prop :=
 g.status=.running/\∃b,qj5 C.P true g w=.go b w #[qkn .enable]/\∃m,C.GM (C.AtGoS qmm) m b w
def Cfg.AtA1(qmm:qhw->qhr->Prop)(g:qhw)(w:qhr):Prop :=
 g.status=.running/\∀v:Nat,v<2147483647->qo7 C.ty C.Wg w (v*KK) 0 ->
  ∃b,qj5 C.P true g w=.go b (w.setCell (stA C.Wg) (.int .u64 ((v+1)*KK))) #[rd (stA C.Wg),wr (stA C.Wg)]/\∃m,C.GM (C.AtKeS qmm) m b (w.setCell (stA C.Wg) (.int .u64 ((v+1)*KK)))
def Cfg.AtKdS(qmm:qhw->qhr->Prop)(g:qhw)(w:qhr):Prop :=
 g.status=.running/\∃b,qj5 C.P true g w=.go b w #[qkn .disable]/\∃m,C.GM (C.AtA1 qmm) m b w
def Cfg.Spawns:Nat->qhw->qhr->Prop
 | 0,g,w=>C.FinS g w
 | r+1,g,w=>∃m,C.GM (C.AtKdS (Cfg.Spawns r)) m g w
structure Cfg.Ok:Prop where
 hn:C.n<2147483648
 hlo:1<=C.lo
 dat:∀W w w',(∀b,C.Sy b->w'.heap[b]?=w.heap[b]?)->C.DataAt W w->C.DataAt W w'
 fzc:∀b,C.Fz b->C.clA b=.ro C.lo/\b<C.W1.heap.size
 syc:∀b,C.Sy b->C.clA b=.sync/\b<C.W1.heap.size
 cla0:∀b,C.W1.heap.size<=b->C.clA b=.mine 0
 wgc:C.clA C.Wg=.sync/\C.Wg<C.W1.heap.size/\¬ C.Sy C.Wg
 hW:∀l S g w,C.WA l S g w->qm C.P C.Fz C.K (C.Stop l) S g w
 hJ0:∀W j ls,C.J W j ls->C.J W (j+1) (upd ls j C.l0)
 hJ:∀W j ls i γ' l',C.J W j ls->i<j->C.Tr W (ls i) γ' l'->C.J γ' j (upd ls i l')
 hm:∀W l γ' l',C.Tr W l γ' l'->C.m γ'+C.nu l'<C.m W+C.nu l
 hAr:∀g w,C.AnchW g w->g.status=.running
 hAn:∀g w,C.AnchW g w->∃m,C.GM C.AtW1 m g w
 hFin:∀W ls g w,C.Fin g w->C.J W C.n ls->(∀i,i<C.n->C.fin (ls i))->C.DataAt W w->C.Ph w->E C.P C.Post (flat C.clA) g w
inductive Cfg.WS:Nat->Nat->Nat->X->Bs->Rk->qhw->qhr->Prop
 | run {l:X} {S:Bs} {r:Rk} {g:qhw} {w:qhr}:Cot C.P C.Fz C.K (C.Stop l) r S g w->Cfg.WS 7 0 0 l S r g w
 | k1 {m:Nat} {l:X} {S:Bs} {r:Rk} {g:qhw} {w:qhr}:C.fin l->C.GW C.AtK1 m g w->Cfg.WS 6 m 0 l S r g w
 | d1 {m:Nat} {l:X} {S:Bs} {r:Rk} {g:qhw} {w:qhr}:C.fin l->C.GW C.AtD1 m g w->Cfg.WS 5 m 1 l S r g w
 | d2 {m:Nat} {l:X} {S:Bs} {r:Rk} {g:qhw} {w:qhr}:C.fin l->C.GW C.AtD2 m g w->Cfg.WS 4 m 1 l S r g w
 | d3 {m:Nat} {l:X} {S:Bs} {r:Rk} {g:qhw} {w:qhr}:C.fin l->C.GW C.AtD3 m g w->Cfg.WS 3 m 1 l S r g w
 | d4 {m:Nat} {l:X} {S:Bs} {r:Rk} {g:qhw} {w:qhr}:C.fin l->C.GW C.AtD4 m g w->Cfg.WS 2 m 1 l S r g w
 | quit {q d:Nat} {l:X} {S:Bs} {r:Rk} {g:qhw} {w:qhr}:C.fin l->qpf C.P q d g->Cfg.WS 1 q d l S r g w
inductive Cfg.CS:CTag->Nat->Nat->Nat->qhw->qhr->Prop
 | skd {r m:Nat} {g:qhw} {w:qhr}:r<C.n->C.GM (C.AtKdS (C.Spawns r)) m g w->Cfg.CS (.sp r 5) (C.n - (r+1)) m 0 g w
 | sa1 {r m:Nat} {g:qhw} {w:qhr}:r<C.n->C.GM (C.AtA1 (C.Spawns r)) m g w->Cfg.CS (.sp r 4) (C.n - (r+1)) m 1 g w
 | ske {r m:Nat} {g:qhw} {w:qhr}:r<C.n->C.GM (C.AtKeS (C.Spawns r)) m g w->Cfg.CS (.sp r 3) (C.n - (r+1)) m 1 g w
 | sgo {r m:Nat} {g:qhw} {w:qhr}:r<C.n->C.GM (C.AtGoS (C.Spawns r)) m g w->Cfg.CS (.sp r 2) (C.n - (r+1)) m 0 g w
 | kd {m:Nat} {g:qhw} {w:qhr}:C.GM C.AtKd m g w->Cfg.CS .kd C.n m 0 g w
 | anch {m:Nat} {g:qhw} {w:qhr}:C.GM C.AnchW m g w->Cfg.CS .anch C.n m 1 g w
 | w1 {m:Nat} {g:qhw} {w:qhr}:C.GM C.AtW1 m g w->Cfg.CS .w1 C.n m 1 g w
 | w2 {vs m:Nat} {g:qhw} {w:qhr}:C.GM (C.AtW2 vs) m g w->Cfg.CS (.w2 vs) C.n m 1 g w
 | w3 {m:Nat} {g:qhw} {w:qhr}:C.GM C.AtW3 m g w->Cfg.CS .w3 C.n (m+1) 1 g w
 | blk {g:qhw} {w:qhr}:(∀w₁,LR C.ty C.Wg w w₁->C.AtW3 g w₁)->Cfg.CS .blk C.n 0 1 { g with status:=.blocked } w
 | w4 {m:Nat} {g:qhw} {w:qhr}:C.GM C.AtW4 m g w->Cfg.CS .w4 C.n m 1 g w
 | ke {m:Nat} {g:qhw} {w:qhr}:C.GM C.AtKe m g w->Cfg.CS .ke C.n m 1 g w
 | acq {m:Nat} {g:qhw} {w:qhr}:C.GM C.AtAcq m g w->Cfg.CS .acq C.n m 0 g w
end
section
variable{ty:qi4}{Wg:Nat}{w w₁ w₂:qhr}
def LR.refl(w:qhr):LR ty Wg w w:=id
def LR.trans(h:LR ty Wg w w₁)(c:LR ty Wg w₁ w₂):LR ty Wg w w₂:=c ∘ h
def z8:∀a b c,LR ty Wg a b->LR ty Wg b c->LR ty Wg a c:=λ_ _ _ h e=>e ∘ h
def LR.to(h:qkB ty Wg w₁):LR ty Wg w w₁:=λ_=>h
end
section
variable{U X:Type}{C:Cfg U X}{S:Bs}{w w₁:qhr}{s m d j f0:Nat}{l:X}{r:Rk}{g a:qhw}{tag:CTag}
def Cfg.K.trans:∀a b c,C.K a b->C.K b c->C.K a c:=λ_ _ _ h e=>⟨e.1 ∘ h.1,e.2 ∘ h.2⟩
def Cfg.K.refl(w:qhr):C.K w w:=⟨id,id⟩
def RC.refl(w:qhr):RC C.Fz C.K S w w:=⟨λ_ _=>rfl,λ_ _=>rfl,qhv _,rfl,rfl,.refl w⟩
def Cfg.WS.rely(h:C.WS s m d l S r g w)(c:RC C.Fz C.K S w w₁):C.WS s m d l S r g w₁:=by
 cases h with
 | run h=>exact .run (h.rely Cfg.K.trans c)
 | k1 b h=>exact .k1 b (qlu z8 h c.k.1)
 | d1 b h=>exact .d1 b (qlu z8 h c.k.1)
 | d2 b h=>exact .d2 b (qlu z8 h c.k.1)
 | d3 b h=>exact .d3 b (qlu z8 h c.k.1)
 | d4 b h=>exact .d4 b (qlu z8 h c.k.1)
 | quit b h=>exact .quit b h
def q52{P:qhF}{Fz:Bs}{K:qhr->qhr->Prop}{b:Bs->qhw->qhr->Prop}(c:∀S g w,b S g w->g.status=.running)(e:∀w,K w w)(h:Cot P Fz K b r S g w):g.status=.running:=by
 cases r with
 | leaf=>exact c _ _ _ (h w ⟨λ_ _=>rfl,λ_ _=>rfl,qhv _,rfl,rfl,e w⟩)
 | nd f=>exact h.1
def Cfg.WS.running_of(h:C.WS s m d l S r g w)(c:s≠1):g.status=.running:=by
 cases h with
 | run h=>exact q52 (λ_ _ _ h=>h.1) .refl h
 | k1 b h=>exact qks (λ_ _ x=>x.1) w (LR.refl w) h
 | d1 b h=>exact qks (λ_ _ x=>x.1) w (LR.refl w) h
 | d2 b h=>exact qks (λ_ _ x=>x.1) w (LR.refl w) h
 | d3 b h=>exact qks (λ_ _ x=>x.1) w (LR.refl w) h
 | d4 b h=>exact qks (λ_ _ x=>x.1) w (LR.refl w) h
 | quit b h=>exact absurd rfl c
def Cfg.WS.status(h:C.WS s m d l S r g w):g.status=.running\/g.status=.finished:=by
 by_cases e:s=1
 ·subst e;cases h with
  | quit _ h=>exact h.status
 ·exact .inl (h.running_of e)
def Cfg.WS.woken(h:C.WS s m d l S r g w)(a c:qhw)(b:qhr):qre C.P a c b g=g:=by
 unfold qs9;split
 ·exact qqC _ h.status
 ·rfl
def Cfg.WS.fin_of(h:C.WS s m d l S r g w)(b:s<=6):C.fin l:=by
 cases h<;>first | assumption | omega
def Cfg.CS.rely(h:C.CS tag j f0 d a w)(c:LR C.ty C.Wg w w₁):C.CS tag j f0 d a w₁:=by
 cases h with
 | skd b h=>exact .skd b (qlu z8 h c)
 | sa1 b h=>exact .sa1 b (qlu z8 h c)
 | ske b h=>exact .ske b (qlu z8 h c)
 | sgo b h=>exact .sgo b (qlu z8 h c)
 | kd h=>exact .kd (qlu z8 h c)
 | anch h=>exact .anch (qlu z8 h c)
 | w1 h=>exact .w1 (qlu z8 h c)
 | w2 h=>exact .w2 (qlu z8 h c)
 | w3 h=>exact .w3 (qlu z8 h c)
 | blk h=>exact .blk λw₂ h₂=>h w₂ (LR.trans c h₂)
 | w4 h=>exact .w4 (qlu z8 h c)
 | ke h=>exact .ke (qlu z8 h c)
 | acq h=>exact .acq (qlu z8 h c)
def Cfg.CS.status(H:C.Ok)(h:C.CS tag j f0 d a w):(a.status=.running/\tag≠.blk)\/(a.status=.blocked/\tag=.blk):=by
 cases h with
 | skd _ h=>exact .inl ⟨qks (λ_ _ x=>x.1) w (LR.refl w) h,by simp⟩
 | sa1 _ h=>exact .inl ⟨qks (λ_ _ x=>x.1) w (LR.refl w) h,by simp⟩
 | ske _ h=>exact .inl ⟨qks (λ_ _ x=>x.1) w (LR.refl w) h,by simp⟩
 | sgo _ h=>exact .inl ⟨qks (λ_ _ x=>x.1) w (LR.refl w) h,by simp⟩
 | kd h=>exact .inl ⟨qks (λ_ _ x=>x.1) w (LR.refl w) h,by simp⟩
 | anch h=>exact .inl ⟨qks H.hAr w (LR.refl w) h,by simp⟩
 | w1 h=>exact .inl ⟨qks (λ_ _ x=>x.1) w (LR.refl w) h,by simp⟩
 | w2 h=>exact .inl ⟨qks (λ_ _ x=>x.1) w (LR.refl w) h,by simp⟩
 | w3 h=>exact .inl ⟨qks (λ_ _ x=>x.1) w (LR.refl w) h,by simp⟩
 | blk h=>exact .inr ⟨rfl,rfl⟩
 | w4 h=>exact .inl ⟨qks (λ_ _ x=>x.1) w (LR.refl w) h,by simp⟩
 | ke h=>exact .inl ⟨qks (λ_ _ x=>x.1) w (LR.refl w) h,by simp⟩
 | acq h=>exact .inl ⟨qks (λ_ _ x=>x.1) w (LR.refl w) h,by simp⟩
def Cfg.CS.le(h:C.CS tag j f0 d a w):j+qqb tag<=C.n:=by
 cases h<;>simp only[qqb]<;>(try simp)<;>omega
open Go.ConcR (again_blocked) in
def Cfg.CS.wokenBy(H:C.Ok)(h:C.CS tag j f0 d a w)(p:LR C.ty C.Wg w w₁)(g k:qhw) :∃b n,C.CS b j n d (qre C.P g k w₁ a) w₁/\n<=f0+1/\(b=tag\/(tag=.blk/\b=.w3))/\(mayWake C.P g=true->k.status=.running->b≠.blk):=by
 have c:=h.rely p;unfold qs9;split
 ·rcases c.status H with⟨o,e⟩ | ⟨_,rfl⟩
  ·exact⟨tag,f0,by rw[qqC _ (.inl o)];exact c,by omega,.inl rfl,λ_ _=>e⟩
  ·cases c with
   | blk f=>
    have i:=f w₁ (LR.refl w₁);exact⟨.w3,0+1,by rw[again_blocked i.1 i.2.1];exact .w3 (qk9 f),by omega,.inr ⟨rfl,rfl⟩,λ_ _=>by simp⟩
 ·rename_i q
  exact⟨tag,f0,c,by omega,.inl rfl,λu t=>absurd (by simp[u,t]) q⟩
end
end
section
open Go.Conc Go.ConcN Go.ConcN.Gen Go.RowKit Go.Conc.Lib Go.ConcR.Gen
open Go.ConcR (KK wgBlock WgAt stA smA rd wr mk DC0)
def qv{P:qhF}{n d:Nat}{b:qhG}{cs:List qhG}{k:List qlG}{a:Act}{c:Array qjn}{i:Nat}{e:List Nat}{o:qjn}{v:qhu}(f:qpf P n d (G (b.at (a.put o.dst v) (.inRegion c e::k)) cs))(g:c[i]?=some o:=by rfl)(hw:qip o (qjt c a.tmps)=true:=by rfl)(hk:b.kind≠.early:=by k_ne)(hr:∀w,(qkA a.eval o).run P w=.ok (.value v) w:=by intro _;go_simp;first | rfl | (w_num;rfl))(he:∀w,(qkA a.eval o).events P w #[]=#[]:=by intro _;simp[go_sem, *]) :qpf P (n+1) d (G (b.at a (.inRegion c (i::e)::k)) cs):=QuitsD.value v g hw hk hr he f
def qd{a:qi4}{Wg:Nat}{w w₁:qhr}(h:qkB a Wg w)(r:LR a Wg w w₁):qkB a Wg w₁:=r h
section
variable{L:WgLink}{Wg:Nat}{b₀:qhG}{a₀:Act}{ops₀:Array qjn}{i₀:Nat}{rest₀:List Nat}{k₀:List qlG}{cs:List qhG}{qt:Nat}
def qga(P:qhF)(a:qi4)(Wg:Nat)(g:qhw)(w:qhr):Prop:=g.status=.running/\qh8 P a Wg g w
def addNeg{P:qhF}(H:WgLib P L)(f:qpf P qt 0 (G (b₀.at (a₀.put ((ops₀[i₀]?).bind (·.dst)) (.tuple #[])) (.inRegion ops₀ rest₀::k₀)) cs))(w:qhr)(a:qkB L.tWg Wg w) :qnh P false (LR L.tWg Wg) DC0 (qga P L.tWg Wg) 20 (G ((base L.add).at ⟨#[.pointer (some ⟨Wg,0,none⟩),.int .i64 (-1),qhx,qhx,qhx,qhx,qhx,qhx,qhx,qhx,qhx,qhx,qhx,qhx,qhx,qhx,qhx,qhx,qhx,qhx,qhx,qhx,qhx,qhx,qhx,qhx,qhx,qhx,qhx,qhx,qhx,qhx,qhx,qhx,qhx,qhx,qhx,qhx,qhx,qhx,qhx,qhx,qhx,qhx,qhx,qhx,qhx,qhx,qhx,qhx,qhx,qhx,qhx,qhx,qhx,qhx,qhx,qhx,qhx,qhx,qhx,qhx,qhx,qhx,qhx,qhx,qhx,qhx,qhx,qhx,qhx,qhx,qhx,qhx,qhx,qhx,qhx,qhx,qhx,qhx,qhx,qhx,qhx,qhx,qhx,qhx,qhx,qhx,qhx,qhx,qhx,qhx,qhx,qhx,qhx,qhx,qhx,qhx,qhx,qhx,qhx,qhx,qhx,qhx,qhx,qhx,qhx,qhx,qhx,qhx,qhx,qhx,qhx,qhx,qhx,qhx,qhx],[]⟩ [.code (body_add L)]) (b₀.at a₀ (.inRegion ops₀ (i₀::rest₀)::k₀)::cs)) w:=by
 lib_facts;simp only[body_add,addFn,qhC];u_c qi5 qd a;u_cond true qd a;(iterate 2 u_c qi5 qd a);u_reg qd a;(iterate 2 u_conv H.underlying_tWgP H.room_tWg (qq0 a).choose_spec qd a);u_c qhy qd a;u_cond true qd a;u_reg qd a;(iterate 2 u_conv H.underlying_tWgP H.room_tWg (qq0 a).choose_spec qd a);refine qk9 (λw₁ h₁=>?_);replace a:=qd a h₁;clear h₁;refine⟨rfl,_,qpa .releaseMerge (by simp) rfl rfl (by k_ne) rfl H.f_relMerge (x_relMerge_n L) (x_relMerge_b L) (x_relMerge_x L) (x_relMerge_f L) (by simp[Act.eval,stA]),10,?_⟩;unfold WG;walk_nrm;u_c qhy qd a;u_c qi5 qd a;u_reg qd a;refine qk9 (λw₁ h₁=>?_);replace a:=qd a h₁;clear h₁;refine⟨rfl,_,qpm .disable (by simp) rfl rfl (by k_ne) rfl H.f_disable (x_disable_n L) (x_disable_b L) (x_disable_x L) (x_disable_f L),50,?_⟩;unfold WG;walk_nrm;u_c qhy qd a;u_reg qd a;u_defer qd a;u_c qhy qd a;u_c qi5 qd a;u_reg qd a;u_op qd a;u_c qhy qd a;(iterate 2 u_c qi5 qd a);u_reg qd a;u_bub qd a;u_c qhy qd a;u_cond false qd a;u_c qjj qd a;u_c qi5 qd a;u_reg qd a;(iterate 6 u_op qd a);u_call H.f_uAdd (nm_uAdd L) uAddFn qd a;u_c qi5 qd a;u_reg qd a;u_op qd a;u_c qhy qd a;u_c qi5 qd a;u_reg qd a;(iterate 4 u_op qd a);refine qk9 (λw₁ h₁=>?_);clear h₁ a;refine⟨rfl,λv h n x b=>?_⟩;have q:IntKind.u64.wrap (KK+18446744069414584320)=0:=by decide
 have p:IntKind.u64.wrap (KK+1+18446744069414584320)=1:=by decide
 rcases qpg v with rfl | o<;>(obtain rfl | rfl:h=0\/h=1:=by omega)
 ·replace b:qo7 L.tWg Wg w₁ KK 0:=by simpa using b
  have z:((0:Nat):Int)*KK+((0:Nat):Int)=0:=by simp
  rw[z];refine⟨_,(qmb rfl rfl (by k_ne) rfl H.f_addU64 (x_addU64_n L) (x_addU64_b L) (x_addU64_x L) .u64 (x_addU64_f L) rfl rfl b.cellSt (b.thaw 0)).trans (by rw[q];rfl),λd=>absurd d.2 (by decide),λ_=>⟨qt+89,?_⟩⟩;clear b;have f1:IntKind.u32.wrap 0=0:=by decide
  have f2:IntKind.u32.wrap (bits .and .u64 0 2147483647)=0:=by decide
  walk_nrm
  (refine qv ?_;walk_nrm)
  q_c qhy;q_c qkx;q_leave1 H.f_uAdd
  (refine qv ?_;walk_nrm)
  q_c qhy;q_c qi5;q_c qi5;q_reg
  iterate 4 (refine qv ?_;walk_nrm)
  q_skip;q_skip
  (refine qv ?_;walk_nrm)
  q_c qhy;q_cond false;q_c qjj;q_c qi5;q_reg
  iterate 4 (refine qv ?_;walk_nrm)
  q_c qhy;q_c qi5;q_reg
  iterate 4 (refine qv ?_;walk_nrm)
  q_c qhy;q_c qi5;q_c qi5;q_reg
  iterate 5 (refine qv ?_;walk_nrm)
  q_skip;q_skip;q_skip;q_skip
  (refine qv ?_;walk_nrm)
  q_c qhy;q_cond false;q_c qjj;q_c qi5;q_c qi5;q_reg
  iterate 2 (refine qv ?_;walk_nrm)
  q_c qhy;q_cond false;q_c qjj;q_c qi5;q_c qi5;q_reg
  iterate 3 (refine qv ?_;walk_nrm)
  q_skip;q_skip
  iterate 2 (refine qv ?_;walk_nrm)
  q_skip;q_skip;q_skip;q_skip
  (refine qv ?_;walk_nrm)
  q_c qhy;q_cond false;q_c qjj;q_c qi5;q_c qi5;q_reg
  iterate 6 (refine qv ?_;walk_nrm)
  q_c qhy;q_cond true;q_c qkx;q_enable;q_leave0 H.f_add;exact f
 ·replace b:qo7 L.tWg Wg w₁ (KK+1) 0:=by simpa using b
  have z:((0:Nat):Int)*KK+((1:Nat):Int)=1:=by simp
  rw[z];refine⟨_,(qmb rfl rfl (by k_ne) rfl H.f_addU64 (x_addU64_n L) (x_addU64_b L) (x_addU64_x L) .u64 (x_addU64_f L) rfl rfl b.cellSt (b.thaw 0)).trans (by rw[p];rfl),λ_=>⟨120,?_⟩,λd=>absurd ⟨rfl,rfl⟩ d⟩;have a:qkB L.tWg Wg (w₁.setCell (stA Wg) (.int .u64 1)):=⟨_,_,b.setSt 1⟩;clear b;unfold WG;walk_nrm;u_op qd a;u_c qhy qd a;u_c qkx qd a;u_leave1 H.f_uAdd qd a;u_op qd a;u_c qhy qd a;(iterate 2 u_c qi5 qd a);u_reg qd a;(iterate 4 u_op qd a);u_skip qd a;u_skip qd a;u_op qd a;u_c qhy qd a;u_cond false qd a;u_c qjj qd a;u_c qi5 qd a;u_reg qd a;(iterate 4 u_op qd a);u_c qhy qd a;u_c qi5 qd a;u_reg qd a;(iterate 4 u_op qd a);u_c qhy qd a;(iterate 2 u_c qi5 qd a);u_reg qd a;(iterate 5 u_op qd a);(iterate 4 u_skip qd a);u_op qd a;u_c qhy qd a;u_cond false qd a;u_c qjj qd a;(iterate 2 u_c qi5 qd a);u_reg qd a;u_op qd a;u_op qd a;u_c qhy qd a;u_cond false qd a;u_c qjj qd a;(iterate 2 u_c qi5 qd a);u_reg qd a;(iterate 7 u_op qd a);(iterate 4 u_skip qd a);u_op qd a;u_c qhy qd a;u_cond false qd a;u_c qjj qd a;(iterate 2 u_c qi5 qd a);u_reg qd a;(iterate 6 u_op qd a);u_c qhy qd a;u_cond false qd a;u_c qjj qd a;(iterate 2 u_c qi5 qd a);u_reg qd a;(iterate 3 u_op qd a);u_call H.f_uLoad (nm_uLoad L) uLoadFn qd a;u_c qi5 qd a;u_reg qd a;u_op qd a;u_c qhy qd a;u_c qi5 qd a;u_reg qd a;(iterate 3 u_op qd a);refine qk9 (λw₂ h₂=>?_);clear h₂ a;refine⟨rfl,λb=>⟨_,qmn rfl rfl (by k_ne) rfl H.f_loadU64 (x_loadU64_n L) (x_loadU64_b L) (x_loadU64_x L) .u64 (x_loadU64_f L) rfl b.cellSt,40,?_⟩⟩;have a:qkB L.tWg Wg w₂:=⟨_,_,b⟩;clear b;unfold WG;walk_nrm;u_op qd a;u_c qhy qd a;u_c qkx qd a;u_leave1 H.f_uLoad qd a;u_op qd a;u_op qd a;u_c qhy qd a;u_cond false qd a;u_c qjj qd a;u_c qi5 qd a;u_reg qd a;(iterate 3 u_op qd a);u_call H.f_uStore (nm_uStore L) uStoreFn qd a;u_reg qd a;(iterate 4 u_op qd a);refine qk9 (λw₃ h₃=>?_);clear h₃ a;refine⟨rfl,λb=>⟨_,stepG_store_atomic rfl rfl (by k_ne) rfl H.f_storeU64 (x_storeU64_n L) (x_storeU64_b L) (x_storeU64_x L) (x_storeU64_f L) rfl rfl b.cellSt (b.thaw 0),50,?_⟩⟩;have a:qkB L.tWg Wg (w₃.setCell (stA Wg) (.int .u64 0)):=⟨_,_,b.setSt 0⟩;clear b;unfold WG;walk_nrm;u_c qhy qd a;u_c qrw qd a;u_leave0 H.f_uStore qd a;u_c qhy qd a;(iterate 2 u_c qi5 qd a);u_reg qd a;u_op qd a;u_c qhy qd a;u_cond false qd a;u_c qjj qd a;u_c qoa qd a;u_c qr3 qd a;(iterate 2 u_c qi5 qd a);u_reg qd a;u_op qd a;u_op qd a;u_c qhy qd a;u_cond true qd a;u_c qjj qd a;u_c qi5 qd a;u_c qoa qd a;u_reg qd a;(iterate 3 u_op qd a);refine qk9 (λw₄ h₄=>?_);clear h₄ a;refine⟨rfl,mayWake_entry rfl rfl H.f_semrelease (x_semrelease_b L),λb=>⟨_,(stepG_semrelease rfl rfl (by k_ne) rfl H.f_semrelease (x_semrelease_n L) (x_semrelease_b L) (x_semrelease_x L) (x_semrelease_f L) (by simp[Act.eval,smA]) b.cellSm (b.thaw 1)).trans (by rfl),qt+19,?_⟩⟩;clear b;walk_nrm;q_c qhy;q_c stepG_inBlock;q_reg
  iterate 3 (refine qv ?_;walk_nrm)
  have f1:IntKind.u32.wrap 0=0:=by decide
  simp only[f1];q_c qhy;q_c stepG_inLoop;q_c qi5;q_c qi5;q_reg
  iterate 2 (refine qv ?_;walk_nrm)
  q_c qhy;q_cond false;q_exit;q_c qrw;q_enable;q_leave0 H.f_add;exact f
 ·replace b:qo7 L.tWg Wg w₁ (((v:Nat)+1)*KK+0) 0:=by simpa using b
  have z:((v:Nat):Int)*KK+((0:Nat):Int)=(v:Int)*KK+0:=by simp
  rw[z];have g:0<v:=by omega
  have e:IntKind.u64.wrap (((v:Nat)+1)*KK+0+18446744069414584320)=(v:Int)*KK+0:=by rw[qoy];simp only[KK];omega
  obtain⟨S,c⟩:∃S:Int,S=(v:Int)*KK+0:=⟨_,rfl⟩;rw[<- c] at e ⊢;have u:S / 4294967296=(v:Int):=by rw[c];simp only[KK];omega
  have t:bits .and .u64 S 2147483648=0:=by rw[c];have:=st_flag v 0 (by omega) (by omega);simpa[KK] using this
  have s:bits .and .u64 S 2147483647=0:=by rw[c];have:=qr4 v 0 (by omega) (by omega);simpa[KK] using this
  have r:IntKind.i32.wrap (v:Int)=(v:Int):=by rw[qoz];omega
  have l:decide ((v:Int)<0)=false:=decide_eq_false (by omega);have k:decide (0<(v:Int))=true:=decide_eq_true (by omega);have j:((v:Int) == 0)=false:=by simp;omega
  have i:decide ((v:Int)=0)=false:=decide_eq_false (by omega);have f1:IntKind.u32.wrap 0=0:=by decide
  refine⟨_,(qmb rfl rfl (by k_ne) rfl H.f_addU64 (x_addU64_n L) (x_addU64_b L) (x_addU64_x L) .u64 (x_addU64_f L) rfl rfl b.cellSt (b.thaw 0)).trans (by rw[e];rfl),λd=>absurd d.1 (by omega),λ_=>⟨qt+89,?_⟩⟩;clear b c z e;walk_nrm
  (refine qv ?_;walk_nrm)
  q_c qhy;q_c qkx;q_leave1 H.f_uAdd
  (refine qv ?_;walk_nrm)
  q_c qhy;q_c qi5;q_c qi5;q_reg
  iterate 4 (refine qv ?_;walk_nrm)
  q_skip;q_skip
  (refine qv ?_;walk_nrm)
  q_c qhy;q_cond false;q_c qjj;q_c qi5;q_reg
  iterate 4 (refine qv ?_;walk_nrm)
  q_c qhy;q_c qi5;q_reg
  iterate 4 (refine qv ?_;walk_nrm)
  q_c qhy;q_c qi5;q_c qi5;q_reg
  iterate 5 (refine qv ?_;walk_nrm)
  q_skip;q_skip;q_skip;q_skip
  (refine qv ?_;walk_nrm)
  q_c qhy;q_cond false;q_c qjj;q_c qi5;q_c qi5;q_reg
  iterate 2 (refine qv ?_;walk_nrm)
  q_c qhy;q_cond false;q_c qjj;q_c qi5;q_c qi5;q_reg
  iterate 3 (refine qv ?_;walk_nrm)
  q_skip;q_skip
  iterate 2 (refine qv ?_;walk_nrm)
  q_skip;q_skip;q_skip;q_skip
  (refine qv ?_;walk_nrm)
  q_c qhy;q_cond false;q_c qjj;q_c qi5;q_c qi5;q_reg
  iterate 3 (refine qv ?_;walk_nrm)
  q_skip;q_skip
  (refine qv ?_;walk_nrm)
  q_c qhy;q_cond true;q_c qkx;q_enable;q_leave0 H.f_add;exact f
 ·replace b:qo7 L.tWg Wg w₁ (((v:Nat)+1)*KK+1) 0:=by simpa using b
  have z:((v:Nat):Int)*KK+((1:Nat):Int)=(v:Int)*KK+1:=by simp
  rw[z];have g:0<v:=by omega
  have e:IntKind.u64.wrap (((v:Nat)+1)*KK+1+18446744069414584320)=(v:Int)*KK+1:=by rw[qoy];simp only[KK];omega
  obtain⟨S,c⟩:∃S:Int,S=(v:Int)*KK+1:=⟨_,rfl⟩;rw[<- c] at e ⊢;have u:S / 4294967296=(v:Int):=by rw[c];simp only[KK];omega
  have t:bits .and .u64 S 2147483648=0:=by rw[c];have:=st_flag v 1 (by omega) (by omega);simpa[KK] using this
  have s:bits .and .u64 S 2147483647=1:=by rw[c];have:=qr4 v 1 (by omega) (by omega);simpa[KK] using this
  have r:IntKind.i32.wrap (v:Int)=(v:Int):=by rw[qoz];omega
  have l:decide ((v:Int)<0)=false:=decide_eq_false (by omega);have k:decide (0<(v:Int))=true:=decide_eq_true (by omega);have j:((v:Int) == 0)=false:=by simp;omega
  have i:decide ((v:Int)=0)=false:=decide_eq_false (by omega);refine⟨_,(qmb rfl rfl (by k_ne) rfl H.f_addU64 (x_addU64_n L) (x_addU64_b L) (x_addU64_x L) .u64 (x_addU64_f L) rfl rfl b.cellSt (b.thaw 0)).trans (by rw[e];rfl),λd=>absurd d.1 (by omega),λ_=>⟨qt+89,?_⟩⟩;clear b c z e;walk_nrm
  (refine qv ?_;walk_nrm)
  q_c qhy;q_c qkx;q_leave1 H.f_uAdd
  (refine qv ?_;walk_nrm)
  q_c qhy;q_c qi5;q_c qi5;q_reg
  iterate 4 (refine qv ?_;walk_nrm)
  q_skip;q_skip
  (refine qv ?_;walk_nrm)
  q_c qhy;q_cond false;q_c qjj;q_c qi5;q_reg
  iterate 4 (refine qv ?_;walk_nrm)
  q_c qhy;q_c qi5;q_reg
  iterate 4 (refine qv ?_;walk_nrm)
  q_c qhy;q_c qi5;q_c qi5;q_reg
  iterate 5 (refine qv ?_;walk_nrm)
  q_skip;q_skip;q_skip;q_skip
  (refine qv ?_;walk_nrm)
  q_c qhy;q_cond false;q_c qjj;q_c qi5;q_c qi5;q_reg
  iterate 2 (refine qv ?_;walk_nrm)
  q_c qhy;q_cond false;q_c qjj;q_c qi5;q_c qi5;q_reg
  iterate 7 (refine qv ?_;walk_nrm)
  q_skip;q_skip;q_skip;q_skip
  (refine qv ?_;walk_nrm)
  q_c qhy;q_cond false;q_c qjj;q_c qi5;q_c qi5;q_reg
  iterate 3 (refine qv ?_;walk_nrm)
  q_skip;q_skip
  (refine qv ?_;walk_nrm)
  q_c qhy;q_cond true;q_c qkx;q_enable;q_leave0 H.f_add;exact f
def done{P:qhF}(H:WgLib P L){c:qhG}(b:c.mode=.returning)(e:qpf P qt 0 (G c cs))(w:qhr)(a:qkB L.tWg Wg w) :qnh P false (LR L.tWg Wg) DC0 (qga P L.tWg Wg) 23 (G ((baseD L.done).at ⟨#[.pointer (some ⟨Wg,0,none⟩),qhx,qhx,qhx],[]⟩ [.code (body_done L)]) (c::cs)) w:=by
 lib_facts;have d:=@addNeg L Wg;simp only[body_done,body_add,doneFn,addFn,qhC] at d ⊢;u_reg qd a;u_op qd a;u_in qd a;refine goes_call rfl rfl (by k_ne) rfl H.f_add (nm_add L) rfl ⟨by u_nil,?_⟩
 walk_nrmf addFn
 refine d (qt:=qt+3) H ?_ _ a;q_c qhy;q_c qrw;exact QuitsD.leaveD rfl rfl H.f_done rfl b e
end
end
section
open Go.Conc Go.ConcN Go.ConcN.Gen Go.RowKit Go.Conc.Lib Go.ConcR.Gen
open Go.ConcR (KK wgBlock WgAt stA smA rd wr mk DC0)
def qa{ty:qi4}{Wg:Nat}{w w₁:qhr}(h:qkB ty Wg w)(r:LR ty Wg w w₁):qkB ty Wg w₁:=r h
section
variable(P:qhF)(b:Bool)(ty:qi4)(Wg:Nat)
def q70(m:Mark)(qmm:qhw->qhr->Prop)(N:Nat)(g:qhw)(w:qhr):Prop :=
 g.status=.running/\∃a,qj5 P b g w=.go a w #[mk m]/\qnh P b (LR ty Wg) DC0 qmm N a w
def qf4(qmm:qhw->qhr->Prop)(g:qhw)(w:qhr):Prop :=
 g.status=.running/\∀v:Nat,v<2147483647->qo7 ty Wg w (v*KK) 0 ->
  ∃a,qj5 P b g w=.go a (w.setCell (stA Wg) (.int .u64 ((v+1)*KK))) #[rd (stA Wg),wr (stA Wg)] /\
   (qnh P b (LR ty Wg) DC0 (q70 P b ty Wg (.read (smA Wg)) (q70 P b ty Wg .enable qmm 2) 60) 110 a (w.setCell (stA Wg) (.int .u64 ((v+1)*KK))) \/
    qnh P b (LR ty Wg) DC0 (q70 P b ty Wg .enable qmm 2) 110 a (w.setCell (stA Wg) (.int .u64 ((v+1)*KK))))
end
section
variable{L:WgLink}{Wg:Nat}{qmm:qhw->qhr->Prop}{b₀:qhG}{a₀:Act}{ops₀:Array qjn}{i₀:Nat}{rest₀:List Nat}{k₀:List qlG}{cs:List qhG}
def addPos{P:qhF}(H:WgLib P L)(f:∀w,qkB L.tWg Wg w->qmm (G (b₀.at (a₀.put ((ops₀[i₀]?).bind (·.dst)) (.tuple #[])) (.inRegion ops₀ rest₀::k₀)) cs) w)(w:qhr)(a:qkB L.tWg Wg w) :qnh P true (LR L.tWg Wg) DC0 (q70 P true L.tWg Wg .disable (qf4 P true L.tWg Wg qmm) 40) 12 (G ((base L.add).at ⟨#[.pointer (some ⟨Wg,0,none⟩),.int .i64 1,qhx,qhx,qhx,qhx,qhx,qhx,qhx,qhx,qhx,qhx,qhx,qhx,qhx,qhx,qhx,qhx,qhx,qhx,qhx,qhx,qhx,qhx,qhx,qhx,qhx,qhx,qhx,qhx,qhx,qhx,qhx,qhx,qhx,qhx,qhx,qhx,qhx,qhx,qhx,qhx,qhx,qhx,qhx,qhx,qhx,qhx,qhx,qhx,qhx,qhx,qhx,qhx,qhx,qhx,qhx,qhx,qhx,qhx,qhx,qhx,qhx,qhx,qhx,qhx,qhx,qhx,qhx,qhx,qhx,qhx,qhx,qhx,qhx,qhx,qhx,qhx,qhx,qhx,qhx,qhx,qhx,qhx,qhx,qhx,qhx,qhx,qhx,qhx,qhx,qhx,qhx,qhx,qhx,qhx,qhx,qhx,qhx,qhx,qhx,qhx,qhx,qhx,qhx,qhx,qhx,qhx,qhx,qhx,qhx,qhx,qhx,qhx,qhx,qhx,qhx],[]⟩ [.code (body_add L)]) (b₀.at a₀ (.inRegion ops₀ (i₀::rest₀)::k₀)::cs)) w:=by
 lib_facts;simp only[body_add,addFn,qhC];u_c qi5 qa a;u_cond true qa a;(iterate 2 u_c qi5 qa a);u_reg qa a;u_op qa a;u_op qa a;u_c qhy qa a;u_cond false qa a;u_c qjj qa a;u_c qi5 qa a;u_reg qa a;refine qk9 (λw₁ h₁=>?_);replace a:=qa a h₁;clear h₁;refine⟨rfl,_,qpm .disable (by simp) rfl rfl (by k_ne) rfl H.f_disable (x_disable_n L) (x_disable_b L) (x_disable_x L) (x_disable_f L),?_⟩;walk_nrm;u_c qhy qa a;u_reg qa a;u_defer qa a;u_c qhy qa a;u_c qi5 qa a;u_reg qa a;u_op qa a;u_c qhy qa a;(iterate 2 u_c qi5 qa a);u_reg qa a;u_bub qa a;u_c qhy qa a;u_cond false qa a;u_c qjj qa a;u_c qi5 qa a;u_reg qa a;(iterate 6 u_op qa a);u_call H.f_uAdd (nm_uAdd L) uAddFn qa a;u_c qi5 qa a;u_reg qa a;u_op qa a;u_c qhy qa a;u_c qi5 qa a;u_reg qa a;(iterate 4 u_op qa a);refine qk9 (λw₂ h₂=>?_);clear h₂ a;refine⟨rfl,λv s c=>?_⟩;rcases qpg v with rfl | h
 ·replace c:qo7 L.tWg Wg w₂ 0 0:=by simpa using c
  have z:(((0:Nat):Int)+1)*KK=KK:=by simp
  rw[z];have k:IntKind.u64.wrap (0+4294967296)=KK:=by decide
  refine⟨_,(qmb rfl rfl (by k_ne) rfl H.f_addU64 (x_addU64_n L) (x_addU64_b L) (x_addU64_x L) .u64 (x_addU64_f L) rfl rfl c.cellSt (c.thaw 0)).trans (by rw[k];rfl),.inl ?_⟩;have a:qkB L.tWg Wg (w₂.setCell (stA Wg) (.int .u64 KK)):=⟨_,_,c.setSt _⟩;clear c;simp only[KK] at a ⊢;walk_nrm;u_conv H.underlying_tPU32 H.room_tU32 (qkC a).choose_spec qa a;u_c qhy qa a;u_c qkx qa a;u_leave1 H.f_uAdd qa a;u_conv H.underlying_tPU32 H.room_tU32 (qkC a).choose_spec qa a;u_c qhy qa a;(iterate 2 u_c qi5 qa a);u_reg qa a;(iterate 4 u_conv H.underlying_tPU32 H.room_tU32 (qkC a).choose_spec qa a);u_skip qa a;u_skip qa a;u_conv H.underlying_tPU32 H.room_tU32 (qkC a).choose_spec qa a;u_c qhy qa a;u_cond false qa a;u_c qjj qa a;u_c qi5 qa a;u_reg qa a;(iterate 2 u_conv H.underlying_tPU32 H.room_tU32 (qkC a).choose_spec qa a);u_op qa a;u_conv H.underlying_tPU32 H.room_tU32 (qkC a).choose_spec qa a;u_c qhy qa a;u_c qi5 qa a;u_reg qa a;(iterate 2 u_conv H.underlying_tPU32 H.room_tU32 (qkC a).choose_spec qa a);u_op qa a;u_conv H.underlying_tPU32 H.room_tU32 (qkC a).choose_spec qa a;u_c qhy qa a;(iterate 2 u_c qi5 qa a);u_reg qa a;(iterate 7 u_conv H.underlying_tPU32 H.room_tU32 (qkC a).choose_spec qa a);u_op qa a;(iterate 2 u_conv H.underlying_tPU32 H.room_tU32 (qkC a).choose_spec qa a);u_c qhy qa a;u_cond true qa a;u_reg qa a;(iterate 2 u_conv H.underlying_tPU32 H.room_tU32 (qkC a).choose_spec qa a);u_op qa a;u_conv H.underlying_tPU32 H.room_tU32 (qkC a).choose_spec qa a;refine qk9 (λw₃ h₃=>?_);replace a:=qa a h₃;clear h₃;refine⟨rfl,_,qpa .read (by simp) rfl rfl (by k_ne) rfl H.f_raceRead (x_raceRead_n L) (x_raceRead_b L) (x_raceRead_x L) (x_raceRead_f L) (ad:=⟨Wg,1,none⟩) (by simp[Act.eval]),?_⟩;walk_nrm;u_c qhy qa a;(iterate 2 u_c qi5 qa a);u_reg qa a;u_op qa a;u_op qa a;u_c qhy qa a;u_cond false qa a;u_c qjj qa a;(iterate 2 u_c qi5 qa a);u_reg qa a;(iterate 3 u_op qa a);u_skip qa a;u_skip qa a;u_op qa a;u_op qa a;(iterate 4 u_skip qa a);u_op qa a;u_c qhy qa a;u_cond false qa a;u_c qjj qa a;(iterate 2 u_c qi5 qa a);u_reg qa a;(iterate 3 u_op qa a);u_skip qa a;u_skip qa a;u_op qa a;u_c qhy qa a;u_cond true qa a;u_c qkx qa a;refine qk9 (λw₃ h₃=>?_);replace a:=qa a h₃;clear h₃;refine⟨rfl,_,stepG_unwind_entry (v:=.tuple #[]) (evs:=#[mk .enable]) rfl H.f_enable (x_enable_n L) (x_enable_b L) (x_enable_x L) (x_enable_f L) (by simp[Extern.Race.none_]) (by simp[mk]) (by simp[mk]),?_⟩;u_leave0 H.f_add qa a;exact qk9 λw₄ h₄=>f _ (qa a h₄)
 ·obtain⟨V,e⟩:∃V:Int,V=(v:Int)+1:=⟨_,rfl⟩;obtain⟨S,d⟩:∃S:Int,S=V*KK:=⟨_,rfl⟩;have g:IntKind.u64.wrap ((v:Int)*KK+4294967296)=S:=by rw[qoy,d,e];simp only[KK];omega
  rw[<- e,<- d];have y:S / 4294967296=V:=by rw[d];simp only[KK];omega
  have x:bits .and .u64 S 2147483648=0:=by rw[d,e];have:=st_flag (v+1) 0 (by omega) (by omega);simpa[KK] using this
  have u:bits .and .u64 S 2147483647=0:=by rw[d,e];have:=qr4 (v+1) 0 (by omega) (by omega);simpa[KK] using this
  have t:IntKind.i32.wrap V=V:=by rw[qoz];omega
  have j:1<V:=by omega
  have i:V<2147483648:=by omega
  have r:(V == 1)=false:=by simp;omega
  have q:decide (V=1)=false:=decide_eq_false (by omega);have p:decide (V<0)=false:=decide_eq_false (by omega);have o:decide (0<V)=true:=decide_eq_true (by omega);have n:(V == 0)=false:=by simp;omega
  have l:decide (V=0)=false:=decide_eq_false (by omega);refine⟨_,(qmb rfl rfl (by k_ne) rfl H.f_addU64 (x_addU64_n L) (x_addU64_b L) (x_addU64_x L) .u64 (x_addU64_f L) rfl rfl c.cellSt (c.thaw 0)).trans (by rw[g];rfl),.inr ?_⟩;have a:qkB L.tWg Wg (w₂.setCell (stA Wg) (.int .u64 S)):=⟨_,_,c.setSt _⟩;clear c d e g;walk_nrm;u_op qa a;u_c qhy qa a;u_c qkx qa a;u_leave1 H.f_uAdd qa a;u_op qa a;u_c qhy qa a;(iterate 2 u_c qi5 qa a);u_reg qa a;(iterate 4 u_op qa a);u_skip qa a;u_skip qa a;u_op qa a;u_c qhy qa a;u_cond false qa a;u_c qjj qa a;u_c qi5 qa a;u_reg qa a;(iterate 4 u_op qa a);u_c qhy qa a;u_c qi5 qa a;u_reg qa a;(iterate 4 u_op qa a);u_c qhy qa a;(iterate 2 u_c qi5 qa a);u_reg qa a;(iterate 10 u_op qa a);u_c qhy qa a;u_cond false qa a;u_c qjj qa a;(iterate 2 u_c qi5 qa a);u_reg qa a;u_op qa a;u_op qa a;u_c qhy qa a;u_cond false qa a;u_c qjj qa a;(iterate 2 u_c qi5 qa a);u_reg qa a;(iterate 3 u_op qa a);u_skip qa a;u_skip qa a;u_op qa a;u_op qa a;(iterate 4 u_skip qa a);u_op qa a;u_c qhy qa a;u_cond false qa a;u_c qjj qa a;(iterate 2 u_c qi5 qa a);u_reg qa a;(iterate 3 u_op qa a);u_skip qa a;u_skip qa a;u_op qa a;u_c qhy qa a;u_cond true qa a;u_c qkx qa a;refine qk9 (λw₃ h₃=>?_);replace a:=qa a h₃;clear h₃;refine⟨rfl,_,stepG_unwind_entry (v:=.tuple #[]) (evs:=#[mk .enable]) rfl H.f_enable (x_enable_n L) (x_enable_b L) (x_enable_x L) (x_enable_f L) (by simp[Extern.Race.none_]) (by simp[mk]) (by simp[mk]),?_⟩;u_leave0 H.f_add qa a;exact qk9 λw₄ h₄=>f _ (qa a h₄)
end
end
section
open Go.Conc Go.ConcN Go.ConcN.Gen Go.RowKit Go.Conc.Lib Go.ConcR.Gen
open Go.ConcR (KK wgBlock WgAt stA smA rd wr mk DC0)
def q9{ty:qi4}{Wg:Nat}{w w₁:qhr}(h:qkB ty Wg w)(r:LR ty Wg w w₁):qkB ty Wg w₁:=r h
section
variable(P:qhF)(ty:qi4)(Wg:Nat)(Fin Anch:qhw->qhr->Prop)
def KV(m:Mark)(qmm:qhw->qhr->Prop)(N:Nat)(g:qhw)(w:qhr):Prop :=
 g.status=.running/\∃a,qj5 P true g w=.go a w #[mk m]/\qnh P true (LR ty Wg) DC0 qmm N a w
def MW4(g:qhw)(w:qhr):Prop :=
 g.status=.running/\(qo7 ty Wg w 0 0->∃a,qj5 P true g w=.go a w #[rd (stA Wg)]/\qnh P true (LR ty Wg) DC0 (KV P ty Wg .enable (KV P ty Wg (.acquire (stA Wg)) Fin 40) 12) 30 a w)
def MW3(g:qhw)(w:qhr):Prop :=
 g.status=.running/\g.offers=none /\
  ((∃b,qo7 ty Wg w b 0)->qj5 P true g w=.go { g with status:=.blocked } w #[]) /\
  (qo7 ty Wg w 0 1->∃a,qj5 P true g w=.go a (w.setCell (smA Wg) (.int .u32 0)) (qml (smA Wg))/\qnh P true (LR ty Wg) DC0 (MW4 P ty Wg Fin) 30 a (w.setCell (smA Wg) (.int .u32 0)))
def MW2(b:Nat)(g:qhw)(w:qhr):Prop :=
 g.status=.running/\∀v:Nat,v<2147483648->qo7 ty Wg w (v*KK) 0 ->
  (v=b->∃a,qj5 P true g w=.go a (w.setCell (stA Wg) (.int .u64 (v*KK+1))) #[rd (stA Wg),wr (stA Wg)]/\qnh P true (LR ty Wg) DC0 (KV P ty Wg (.write (smA Wg)) (MW3 P ty Wg Fin) 40) 70 a (w.setCell (stA Wg) (.int .u64 (v*KK+1)))) /\
  (v≠b->∃a,qj5 P true g w=.go a w #[rd (stA Wg)]/\qnh P true (LR ty Wg) DC0 Anch 20 a w)
def MW1(g:qhw)(w:qhr):Prop :=
 g.status=.running/\∀v:Nat,v<2147483648->qo7 ty Wg w (v*KK) 0->∃a,qj5 P true g w=.go a w #[rd (stA Wg)] /\
  (v=0->qnh P true (LR ty Wg) DC0 (KV P ty Wg .enable (KV P ty Wg (.acquire (stA Wg)) Fin 40) 12) 50 a w)/\(v≠0->qnh P true (LR ty Wg) DC0 (MW2 P ty Wg Fin Anch v) 60 a w)
end
def J6(L:WgLink)(Wg:Nat)(c:qhG)(cs:List qhG)(g:qhw)(w:qhr):Prop :=
 ∃T:Array qhu,g=G ((base L.wait).at ⟨T,[]⟩ [.code (L7 L),.inLoop (L7 L),.inBlock 0]) (c::cs)/\T.size=84/\T[0]?=some (.pointer (some ⟨Wg,0,none⟩))/\qkB L.tWg Wg w
section
variable{L:WgLink}{Wg:Nat}{Fin:qhw->qhr->Prop}{b₀:qhG}{a₀:Act}{ops₀:Array qjn}{i₀:Nat}{rest₀:List Nat}{k₀:List qlG}{cs:List qhG}
def waitRound{P:qhF}(H:WgLib P L)(j:∀w,qkB L.tWg Wg w->Fin (G (b₀.at (a₀.put ((ops₀[i₀]?).bind (·.dst)) (.tuple #[])) (.inRegion ops₀ rest₀::k₀)) cs) w)(g:qhw)(w:qhr)(h:J6 L Wg (b₀.at a₀ (.inRegion ops₀ (i₀::rest₀)::k₀)) cs g w) :qnh P true (LR L.tWg Wg) DC0 (MW1 P L.tWg Wg Fin (J6 L Wg (b₀.at a₀ (.inRegion ops₀ (i₀::rest₀)::k₀)) cs)) 30 g w:=by
 lib_facts;obtain⟨T,rfl,d,i,a⟩:=h;obtain⟨v0,v1,v2,v3,v4,v5,v6,v7,v8,v9,m6,m5,m4,m3,l9,l8,l7,l6,l5,l4,k9,k8,k7,k6,k5,k0,h9,h8,g9,g8,g7,g6,g5,e9,e8,e7,e6,e5,e4,d9,d8,d7,d6,d5,c9,c8,c3,b9,b8,b7,b6,b0,a9,a8,a7,a6,Z,Y,X,W,V,U,R,Q,O,N,M,I,F,D,B,A,z,y,x,u,t,s,r,q,p,o,l,k,rfl⟩:=array84 T d;simp only[qou,List.getElem?_cons_zero,qiD] at i;subst i;simp only[L7,body_wait,waitFn,qhC];u_c qoa q9 a;u_c qi5 q9 a;u_reg q9 a;(iterate 3 u_op q9 a);u_call H.f_uLoad (nm_uLoad L) uLoadFn q9 a;u_c qi5 q9 a;u_reg q9 a;u_op q9 a;u_c qhy q9 a;u_c qi5 q9 a;u_reg q9 a;(iterate 3 u_op q9 a);refine qk9 (λw₁ h₁=>?_);replace a:=q9 a h₁;clear h₁;refine⟨rfl,λv hv b=>?_⟩;rcases qpg v with rfl | m8
 ·replace b:qo7 L.tWg Wg w₁ 0 0:=by simpa using b
  refine⟨_,qmn (v:=0) rfl rfl (by k_ne) rfl H.f_loadU64 (x_loadU64_n L) (x_loadU64_b L) (x_loadU64_x L) .u64 (x_loadU64_f L) rfl b.cellSt,λ_=>?_,λh=>absurd rfl h⟩;clear b;walk_nrm;u_op q9 a;u_c qhy q9 a;u_c qkx q9 a;u_leave1 H.f_uLoad q9 a;u_op q9 a;u_c qhy q9 a;u_c qi5 q9 a;u_reg q9 a;(iterate 4 u_op q9 a);u_c qhy q9 a;u_c qi5 q9 a;u_reg q9 a;(iterate 4 u_op q9 a);u_c qhy q9 a;(iterate 2 u_c qi5 q9 a);u_reg q9 a;u_op q9 a;u_op q9 a;u_c qhy q9 a;u_cond true q9 a;u_c qi5 q9 a;u_cond true q9 a;u_c qi5 q9 a;u_reg q9 a;refine qk9 (λw₅ h₅=>?_);replace a:=q9 a h₅;clear h₅;refine⟨rfl,_,qpm .enable (by simp) rfl rfl (by k_ne) rfl H.f_enable (x_enable_n L) (x_enable_b L) (x_enable_x L) (x_enable_f L),?_⟩;walk_nrm;u_c qhy q9 a;u_reg q9 a;(iterate 2 u_conv H.underlying_tWgP H.room_tWg (qq0 a).choose_spec q9 a);refine qk9 (λw₆ h₆=>?_);replace a:=q9 a h₆;clear h₆;refine⟨rfl,_,qpa .acquire (by simp) rfl rfl (by k_ne) rfl H.f_acquire (x_acquire_n L) (x_acquire_b L) (x_acquire_x L) (x_acquire_f L) (by simp[Act.eval,stA]),?_⟩;walk_nrm;u_c qhy q9 a;(iterate 2 u_c qi5 q9 a);u_reg q9 a;(iterate 8 u_op q9 a);u_skip q9 a;u_skip q9 a;u_op q9 a;u_c qhy q9 a;u_cond false q9 a;u_c qjj q9 a;u_c qkx q9 a;u_leave0 H.f_wait q9 a;exact qk9 λw₇ h₇=>j _ (q9 a h₇)
 ·obtain⟨S,c⟩:∃S:Int,(v:Int)*KK=S:=⟨_,rfl⟩;have a1:S / 4294967296=(v:Int):=by rw[<- c];simp only[KK];omega
  have b1:bits .and .u64 S 2147483648=0:=by rw[<- c];have:=st_flag v 0 (by omega) (by omega);simpa[KK] using this
  have b2:bits .and .u64 S 2147483647=0:=by rw[<- c];have:=qr4 v 0 (by omega) (by omega);simpa[KK] using this
  have c1:IntKind.i32.wrap (v:Int)=(v:Int):=by rw[qoz];omega
  have w1:IntKind.u64.wrap (S+1)=S+1:=by rw[qoy,<- c];simp only[KK];omega
  have q3:decide ((v:Int)<0)=false:=decide_eq_false (by omega);have q4:decide (0<(v:Int))=true:=decide_eq_true (by omega);have q5:((v:Int) == 0)=false:=by simp;omega
  have q6:decide ((v:Int)=0)=false:=decide_eq_false (by omega);rw[c] at b;refine⟨_,qmn (v:=S) rfl rfl (by k_ne) rfl H.f_loadU64 (x_loadU64_n L) (x_loadU64_b L) (x_loadU64_x L) .u64 (x_loadU64_f L) rfl b.cellSt,λh0=>absurd h0 (by omega),λ_=>?_⟩;clear b;walk_nrm;u_op q9 a;u_c qhy q9 a;u_c qkx q9 a;u_leave1 H.f_uLoad q9 a;u_op q9 a;u_c qhy q9 a;u_c qi5 q9 a;u_reg q9 a;(iterate 4 u_op q9 a);u_c qhy q9 a;u_c qi5 q9 a;u_reg q9 a;(iterate 4 u_op q9 a);u_c qhy q9 a;(iterate 2 u_c qi5 q9 a);u_reg q9 a;u_op q9 a;u_op q9 a;u_c qhy q9 a;u_cond false q9 a;u_c qjj q9 a;u_c qi5 q9 a;u_reg q9 a;(iterate 6 u_op q9 a);u_call H.f_uCas (nm_uCas L) uCasFn q9 a;u_c qi5 q9 a;u_reg q9 a;u_op q9 a;u_c qhy q9 a;u_c qi5 q9 a;u_reg q9 a;(iterate 5 u_op q9 a);refine qk9 (λw₂ h₂=>?_);replace a:=q9 a h₂;clear h₂;refine⟨rfl,λv' m9 b=>⟨λe=>?_,λe=>?_⟩⟩
  ·subst e;rw[c] at b ⊢;refine⟨_,(stepG_cas_hit (v:=S) (n:=S+1) rfl rfl (by k_ne) rfl H.f_casU64 (x_casU64_n L) (x_casU64_b L) (x_casU64_x L) .u64 (x_casU64_f L) rfl rfl rfl b.cellSt (b.thaw 0)).trans (by rfl),?_⟩;replace a:qkB L.tWg Wg (w₂.setCell (stA Wg) (.int .u64 (S+1))):=⟨_,_,b.setSt _⟩;clear b;walk_nrm;u_conv H.underlying_tPU32 H.room_tU32 (qkC a).choose_spec q9 a;u_c qhy q9 a;u_c qkx q9 a;u_leave1 H.f_uCas q9 a;u_c qhy q9 a;u_cond true q9 a;(iterate 2 u_c qi5 q9 a);u_reg q9 a;(iterate 4 u_conv H.underlying_tPU32 H.room_tU32 (qkC a).choose_spec q9 a);u_c qhy q9 a;u_cond true q9 a;u_reg q9 a;(iterate 2 u_conv H.underlying_tPU32 H.room_tU32 (qkC a).choose_spec q9 a);u_op q9 a;u_conv H.underlying_tPU32 H.room_tU32 (qkC a).choose_spec q9 a;refine qk9 (λw₃ h₃=>?_);replace a:=q9 a h₃;clear h₃;refine⟨rfl,_,qpa .write (by simp) rfl rfl (by k_ne) rfl H.f_raceWrite (x_raceWrite_n L) (x_raceWrite_b L) (x_raceWrite_x L) (x_raceWrite_f L) (ad:=⟨_,1,none⟩) (by simp[Act.eval]<;>rfl),?_⟩;walk_nrm;u_c qhy q9 a;u_c qi5 q9 a;u_reg q9 a;u_op q9 a;u_c qhy q9 a;(iterate 2 u_c qi5 q9 a);u_reg q9 a;(iterate 4 u_op q9 a);u_skip q9 a;u_op q9 a;u_c qhy q9 a;u_cond false q9 a;u_c qjj q9 a;u_c qi5 q9 a;u_reg q9 a;(iterate 4 u_op q9 a);refine qk9 (λw₃ h₃=>?_);replace a:=q9 a h₃;clear h₃;refine⟨rfl,rfl,λ⟨st,b⟩=>stepG_semacquire_wait rfl rfl rfl H.f_semacquire (x_semacquire_n L) (x_semacquire_b L) (x_semacquire_x L) (x_semacquire_f L) (by simp[Act.eval,smA]) b.cellSm,λf=>?_⟩;refine⟨_,(stepG_semacquire (n:=1) rfl rfl (by k_ne) rfl H.f_semacquire (x_semacquire_n L) (x_semacquire_b L) (x_semacquire_x L) (x_semacquire_f L) (by simp[Act.eval,smA]) f.cellSm (by k_ne) (f.thaw 1)).trans (by rfl),?_⟩;replace a:qkB L.tWg Wg (w₃.setCell (smA Wg) (.int .u32 0)):=⟨_,_,f.setSm 0⟩;clear f;walk_nrm;u_c qhy q9 a;u_c qi5 q9 a;u_reg q9 a;(iterate 3 u_op q9 a);u_call H.f_uLoad (nm_uLoad L) uLoadFn q9 a;u_c qi5 q9 a;u_reg q9 a;u_op q9 a;u_c qhy q9 a;u_c qi5 q9 a;u_reg q9 a;(iterate 3 u_op q9 a);refine qk9 (λw₄ h₄=>?_);replace a:=q9 a h₄;clear h₄;refine⟨rfl,λb=>⟨_,qmn (v:=0) rfl rfl (by k_ne) rfl H.f_loadU64 (x_loadU64_n L) (x_loadU64_b L) (x_loadU64_x L) .u64 (x_loadU64_f L) rfl b.cellSt,?_⟩⟩;clear b;walk_nrm;u_op q9 a;u_c qhy q9 a;u_c qkx q9 a;u_leave1 H.f_uLoad q9 a;u_op q9 a;u_op q9 a;u_c qhy q9 a;u_c qi5 q9 a;u_cond true q9 a;u_c qi5 q9 a;u_reg q9 a;refine qk9 (λw₅ h₅=>?_);replace a:=q9 a h₅;clear h₅;refine⟨rfl,_,qpm .enable (by simp) rfl rfl (by k_ne) rfl H.f_enable (x_enable_n L) (x_enable_b L) (x_enable_x L) (x_enable_f L),?_⟩;walk_nrm;u_c qhy q9 a;u_reg q9 a;(iterate 2 u_conv H.underlying_tWgP H.room_tWg (qq0 a).choose_spec q9 a);refine qk9 (λw₆ h₆=>?_);replace a:=q9 a h₆;clear h₆;refine⟨rfl,_,qpa .acquire (by simp) rfl rfl (by k_ne) rfl H.f_acquire (x_acquire_n L) (x_acquire_b L) (x_acquire_x L) (x_acquire_f L) (by simp[Act.eval,stA]),?_⟩;walk_nrm;u_c qhy q9 a;(iterate 2 u_c qi5 q9 a);u_reg q9 a;u_op q9 a;u_c qhy q9 a;u_cond false q9 a;u_c qjj q9 a;u_c qkx q9 a;u_leave0 H.f_wait q9 a;exact qk9 λw₇ h₇=>j _ (q9 a h₇)
  ·refine⟨_,stepG_cas_miss (v:=(v':Int)*KK) (old:=S) (n:=S+1) rfl rfl (by k_ne) rfl H.f_casU64 (x_casU64_n L) (x_casU64_b L) (x_casU64_x L) .u64 (x_casU64_f L) rfl rfl rfl b.cellSt (b.thaw 0) (by rw[<- c];simp only[KK];omega),?_⟩;clear b;walk_nrm;u_op q9 a;u_c qhy q9 a;u_c qkx q9 a;u_leave1 H.f_uCas q9 a;u_c qhy q9 a;u_cond false q9 a;u_c qjj q9 a;u_c stepG_inBlock q9 a;u_c stepG_inLoop q9 a;refine qk9 (λw₃ h₃=>?_);replace a:=q9 a h₃;exact⟨_,rfl,by simp,by simp,a⟩
def waitStart{P:qhF}(H:WgLib P L)(w:qhr)(a:qkB L.tWg Wg w) :qnh P true (LR L.tWg Wg) DC0 (KV P L.tWg Wg .disable (J6 L Wg (b₀.at a₀ (.inRegion ops₀ (i₀::rest₀)::k₀)) cs) 3) 3 (G ((base L.wait).at ⟨#[.pointer (some ⟨Wg,0,none⟩),qhx,qhx,qhx,qhx,qhx,qhx,qhx,qhx,qhx,qhx,qhx,qhx,qhx,qhx,qhx,qhx,qhx,qhx,qhx,qhx,qhx,qhx,qhx,qhx,qhx,qhx,qhx,qhx,qhx,qhx,qhx,qhx,qhx,qhx,qhx,qhx,qhx,qhx,qhx,qhx,qhx,qhx,qhx,qhx,qhx,qhx,qhx,qhx,qhx,qhx,qhx,qhx,qhx,qhx,qhx,qhx,qhx,qhx,qhx,qhx,qhx,qhx,qhx,qhx,qhx,qhx,qhx,qhx,qhx,qhx,qhx,qhx,qhx,qhx,qhx,qhx,qhx,qhx,qhx,qhx,qhx,qhx,qhx],[]⟩ [.code (body_wait L)]) (b₀.at a₀ (.inRegion ops₀ (i₀::rest₀)::k₀)::cs)) w:=by
 lib_facts;simp only[body_wait,waitFn,qhC];u_c qi5 q9 a;u_cond true q9 a;u_reg q9 a;refine qk9 (λw₁ h₁=>?_);replace a:=q9 a h₁;clear h₁;refine⟨rfl,_,qpm .disable (by simp) rfl rfl (by k_ne) rfl H.f_disable (x_disable_n L) (x_disable_b L) (x_disable_x L) (x_disable_f L),?_⟩;walk_nrm;u_c qhy q9 a;u_c qoa q9 a;u_c qr3 q9 a;exact qk9 (λw₂ h₂=>⟨_,rfl,by simp,by simp,q9 a h₂⟩)
end
end
section
open Go.Conc Go.ConcN Go.ConcN.Gen Go.RowKit Go.Conc.Lib Go.ConcR.Gen
open Go.ConcR (KK wgBlock WgAt stA smA rd wr mk DC0)
section
variable{P:qhF}{b:Bool}{ty:qi4}{Wg:Nat}{R:qhr->qhr->Prop}{D D':qhr->qhr->Array qjk->Prop}{Stop Stop' qmm:qhw->qhr->Prop}
def vZ(i:∀w c f,D w c f->D' w c f)(d:∀g w,Stop g w->Stop' g w) :∀{n:Nat} {g:qhw} {w:qhr},qnh P b R D Stop n g w->qnh P b R D' Stop' n g w
 | 0,_,_,h=>λw₁ a=>d _ _ (h w₁ a)
 | n+1,_,_,.inl h=>.inl λw₁ a=>d _ _ (h w₁ a)
 | n+1,g,w,.inr ⟨j,h⟩=>.inr ⟨j,λw₁ a=>by
   have⟨o,c,f,e,l,k⟩:=goes_elim (h w₁ a);rw[e];exact⟨i _ _ _ l,vZ i d k⟩⟩
def q7r{n:Nat}{g:qhw}{w:qhr}:∀r,qnh P b R D Stop n g w->qnh P b R D Stop (n+r) g w
 | 0,h=>h
 | r+1,h=>(q7r r h).more
def Zr(a:∀w,R w w){N:Nat}:∀{n:Nat} {g:qhw} {w:qhr},qnh P b R D (λg w=>qnh P b R D Stop N g w) n g w->qnh P b R D Stop (n+N) g w
 | 0,_,w,h=>by rw[qi6];exact h w (a w)
 | n+1,_,w,.inl h=>by rw[Nat.add_comm];exact q7r (n+1) (h w (a w))
 | n+1,g,w,.inr ⟨c,h⟩=>by
   rw[Nat.add_right_comm];refine .inr ⟨c,λw₁ d=>?_⟩;have⟨k,j,l,e,i,f⟩:=goes_elim (h w₁ d);rw[e];exact⟨i,Zr a f⟩
def ZY(s:∀w,R w w)(r:∀a b c,R a b->R b c->R a c){N:Nat}(o:∀g w,Stop g w->g.status=.running/\∃i j,qj5 P b g w=.go i w j/\D w w j/\qnh P b R D qmm N i w){n:Nat}{g:qhw}{w:qhr}(h:qnh P b R D Stop n g w):qnh P b R D qmm (n+(N+1)) g w:=by
 have d:∀{g:qhw} {w:qhr},(∀w₁,R w w₁->Stop g w₁)->∀w₁,R w w₁->qnh P b R D qmm (N+1) g w₁:=λ{g w} h w₁ f=>
  .inr ⟨(o _ _ (h w₁ f)).1,λw₂ hr₂=>by
   have⟨i,j,e,l,k⟩:=(o _ _ (h w₂ (r _ _ _ f hr₂))).2;rw[e];exact⟨l,k⟩⟩
 refine Zr s ?_;induction n generalizing g w with
 | zero=>exact d h
 | succ n p=>
  rcases h with h | ⟨q,h⟩
  ·exact .inl (d h)
  ·refine .inr ⟨q,λw₁ f=>?_⟩;have⟨i,t,j,e,l,k⟩:=goes_elim (h w₁ f);rw[e];exact⟨l,p k⟩
end
section
variable{U X:Type}(C:Cfg U X)
def qce{Wg:Nat}:∀w a c,DC0 w a c->DM Wg w a c:=λ_ _ _ h=>⟨h.1,by rw[h.2];simp⟩
variable{C}
def Cfg.GM.of{Stop Stop':qhw->qhr->Prop}{m:Nat}{g:qhw}{w:qhr}(h:qnh C.P true (LR C.ty C.Wg) DC0 Stop m g w)(a:∀g w,Stop g w->Stop' g w):C.GM Stop' m g w :=
 vZ qce a h
def Cfg.GM.trans{Stop:qhw->qhr->Prop}{N n:Nat}{g:qhw}{w:qhr}(h:C.GM (λg w=>C.GM Stop N g w) n g w):C.GM Stop (n+N) g w:=Zr LR.refl h
def Cfg.GM.swallow{m:Mark}{qmm:qhw->qhr->Prop}{N n:Nat}{g:qhw}{w:qhr}(hm:m=.read (smA C.Wg)\/m=.write (smA C.Wg))(h:C.GM (q70 C.P true C.ty C.Wg m qmm N) n g w):C.GM qmm (n+(N+1)) g w :=
 ZY LR.refl z8 (λg w ⟨a,d,e,c⟩=>⟨a,d,_,e,⟨rfl,by rcases hm with rfl | rfl<;>simp⟩,vZ qce (λ_ _ h=>h) c⟩) h
def Cfg.add_spawn{S:qhw->qhr->Prop}{N n:Nat}{g:qhw}{w:qhr}(h:qnh C.P true (LR C.ty C.Wg) DC0 (q70 C.P true C.ty C.Wg .disable (qf4 C.P true C.ty C.Wg (λg w=>C.GM (C.AtGoS S) N g w)) 40) n g w) :C.GM (C.AtKdS S) n g w:=by
 refine Cfg.GM.of h λg w ⟨c,d,e,a⟩=>⟨c,d,e,40,Cfg.GM.of a λg w ⟨c,i⟩=>⟨c,λv k j=>?_⟩⟩;have⟨d,e,a⟩:=i v k j;have f:∀g w,q70 C.P true C.ty C.Wg .enable (λg w=>C.GM (C.AtGoS S) N g w) 2 g w->C.AtKeS S g w :=
  λg w ⟨c,d,e,a⟩=>⟨c,d,e,2+N,Cfg.GM.trans (Cfg.GM.of a λ_ _ h=>h)⟩
 refine⟨d,e,?_⟩;rcases a with a | a
 ·exact⟨_,vZ (λ_ _ _ h=>h) f (Cfg.GM.swallow (.inl rfl) (Cfg.GM.of a λ_ _ h=>h))⟩
 ·exact⟨_,Cfg.GM.of a f⟩
def Cfg.GM.sayC{m:Mark}{qmm:qhw->qhr->Prop}{N n:Nat}{g:qhw}{w:qhr}(hm:m=.read (smA C.Wg)\/m=.write (smA C.Wg))(h:C.GM (KV C.P C.ty C.Wg m qmm N) n g w):C.GM qmm (n+(N+1)) g w :=
 ZY LR.refl z8 (λg w ⟨a,d,e,c⟩=>⟨a,d,_,e,⟨rfl,by rcases hm with rfl | rfl<;>simp⟩,vZ qce (λ_ _ h=>h) c⟩) h
section
variable{F0:qhw->qhr->Prop}(hF:∀g w,qnh C.P true (LR C.ty C.Wg) DC0 F0 40 g w->C.Fin g w)
include hF
theorem Cfg.acq_of{g:qhw}{w:qhr}(h:KV C.P C.ty C.Wg (.acquire (stA C.Wg)) F0 40 g w):C.AtAcq g w:=by
 obtain⟨a,d,e,c⟩:=h;exact⟨a,d,e,hF _ _ c⟩
theorem Cfg.ke_of{g:qhw}{w:qhr}(h:KV C.P C.ty C.Wg .enable (KV C.P C.ty C.Wg (.acquire (stA C.Wg)) F0 40) 12 g w):C.AtKe g w:=by
 obtain⟨a,d,e,c⟩:=h;exact⟨a,d,e,12,Cfg.GM.of c λ_ _ h=>Cfg.acq_of hF h⟩
theorem Cfg.w4_of{g:qhw}{w:qhr}(h:MW4 C.P C.ty C.Wg F0 g w):C.AtW4 g w:=by
 obtain⟨c,h⟩:=h;refine⟨c,λa=>?_⟩;have⟨f,e,d⟩:=h a;exact⟨f,e,30,Cfg.GM.of d λ_ _ h=>Cfg.ke_of hF h⟩
theorem Cfg.w3_of{g:qhw}{w:qhr}(h:MW3 C.P C.ty C.Wg F0 g w):C.AtW3 g w:=by
 obtain⟨c,d,i,h⟩:=h;refine⟨c,d,i,λa=>?_⟩;have⟨j,e,f⟩:=h a;exact⟨j,e,30,Cfg.GM.of f λ_ _ h=>Cfg.w4_of hF h⟩
theorem Cfg.w2_of{f:Nat}{g:qhw}{w:qhr}(h:MW2 C.P C.ty C.Wg F0 C.AnchW f g w):C.AtW2 f g w:=by
 obtain⟨k,h⟩:=h;refine⟨k,λv j i=>⟨λe=>?_,λe=>?_⟩⟩
 ·have⟨c,d,a⟩:=(h v j i).1 e;exact⟨c,d,_,vZ (λ_ _ _ h=>h) (λ_ _ h=>Cfg.w3_of hF h) (Cfg.GM.sayC (.inr rfl) (Cfg.GM.of a λ_ _ h=>h))⟩
 ·have⟨c,d,a⟩:=(h v j i).2 e;exact⟨c,d,20,Cfg.GM.of a λ_ _ h=>h⟩
theorem Cfg.w1_of{g:qhw}{w:qhr}(h:MW1 C.P C.ty C.Wg F0 C.AnchW g w):C.AtW1 g w:=by
 obtain⟨d,h⟩:=h;refine⟨d,λv c a=>?_⟩;have⟨j,e,i,f⟩:=h v c a;exact⟨j,e,λe=>⟨50,Cfg.GM.of (i e) λ_ _ h=>Cfg.ke_of hF h⟩,λe=>⟨60,Cfg.GM.of (f e) λ_ _ h=>Cfg.w2_of hF h⟩⟩
end
def Cfg.kd_of{n:Nat}{g:qhw}{w:qhr}(h:qnh C.P true (LR C.ty C.Wg) DC0 (KV C.P C.ty C.Wg .disable C.AnchW 3) n g w):C.GM C.AtKd n g w :=
 Cfg.GM.of h λ_ _ ⟨a,d,e,c⟩=>⟨a,d,e,3,Cfg.GM.of c λ_ _ h=>h⟩
end
end
section
open Go.Conc Go.ConcN
open Go.ConcR (KK wgBlock WgAt stA smA rd wr DC0 Bk g_of_ofEvents loc_of_ofEvent)
structure Inv{U X:Type}(C:Cfg U X)(gs:Array qhw)(w:qhr)(t:qp6)(j:Nat)(D:Nat->WD)(ls:Nat->X)(Ss:Nat->Bs)(rk:Nat->Rk)(W:U)(tag:CTag)(f0 d0:Nat)(a:qhw)(st sm:Int)(cl:Nat->Cl)(fu:Nat->Nat):Prop where
 size:gs.size=C.lo+j
 main:gs[0]?=some a
 cs:C.CS tag j f0 d0 a w
 lv:∀i,1<=i->i<C.lo->∃g,gs[i]?=some g/\qpf C.P (fu i) (qqa t i) g
 wk:∀i,i<j->∃g,gs[C.lo+i]?=some g/\C.WS (D i).stage (D i).fuel (D i).deaf (ls i) (Ss i) (rk i) g w
 wd:∀i,i<j->qqa t (C.lo+i)=(D i).deaf
 rel:∀i,i<j->(D i).stage<=6->∃r,RelBy (stA C.Wg) t (C.lo+i) r
 tr:Tr cl gs.size w.heap.size t
 clw:∀i,i<j->∀b,Ss i b->cl b=.mine (C.lo+i)/\b<w.heap.size
 cl0:∀b,w.heap.size<=b->cl b=.mine 0
 cla:∀b,b<C.W1.heap.size->cl b=C.clA b
 cln:∀b,C.W1.heap.size<=b->cl b≠.sync
 nor:∀ad,NoRelease ad t
 deaf0:qqa t 0=d0
 hd:Hd C.lo t
 data:C.DataAt W w
 jj:C.J W j ls
 ph:C.Ph w
 wg:qo7 C.ty C.Wg w st sm
 mode:qnf j D tag st sm
section
variable{U X:Type}{C:Cfg U X}{gs:Array qhw}{w w':qhr}{t:qp6}{j:Nat}{D:Nat->WD}{ls:Nat->X}{Ss:Nat->Bs}{rk:Nat->Rk}{W γ':U}{tag:CTag}{f0 d0:Nat}{a:qhw}{st sm st' sm':Int}{cl:Nat->Cl}{fu:Nat->Nat}
structure Ef(cl:Nat->Cl)(x:Nat)(w w':qhr):Prop where
 keep:∀b,b<w.heap.size->cl b≠.mine x->cl b≠.sync->w'.heap[b]?=w.heap[b]?
 size:w.heap.size<=w'.heap.size
 os:w'.os=w.os
 output:w'.output=w.output
def Yg(cl:Nat->Cl)(x:Nat)(w w':qhr)(b:Nat):Cl:=if w.heap.size<=b/\b<w'.heap.size then .mine x else cl b
def xe{x b:Nat}(h:b<w.heap.size):Yg cl x w w' b=cl b:=by unfold Yg;rw[if_neg (by omega)]
def q1E{x:Nat}(h:w'.heap.size=w.heap.size):Yg cl x w w'=cl:=by
 funext b
 unfold Yg;rw[if_neg (by omega)]
def Inv.fzc(H:C.Ok)(h:Inv C gs w t j D ls Ss rk W tag f0 d0 a st sm cl fu){b:Nat}(d:C.Fz b):cl b=.ro C.lo/\b<w.heap.size:=by
 have⟨e,c⟩:=H.fzc b d;exact⟨(h.cla b c).trans e,qi0 c h.ph.size⟩
def Inv.syc(H:C.Ok)(h:Inv C gs w t j D ls Ss rk W tag f0 d0 a st sm cl fu){b:Nat}(d:C.Sy b):cl b=.sync/\b<w.heap.size:=by
 have⟨e,c⟩:=H.syc b d;exact⟨(h.cla b c).trans e,qi0 c h.ph.size⟩
def Inv.wgc(H:C.Ok)(h:Inv C gs w t j D ls Ss rk W tag f0 d0 a st sm cl fu):cl C.Wg=.sync/\C.Wg<w.heap.size:=by
 have⟨c,b,_⟩:=H.wgc;exact⟨(h.cla _ b).trans c,qi0 b h.ph.size⟩
def Inv.ph'(H:C.Ok)(h:Inv C gs w t j D ls Ss rk W tag f0 d0 a st sm cl fu){x:Nat}(e:Ef cl x w w'):C.Ph w' where
 fz b hb:=by
  have⟨c,d⟩:=h.fzc H hb;rw[e.keep b d (by rw[c];simp) (by rw[c];simp)];exact h.ph.fz b hb
 size:=qhB h.ph.size e.size
 os:=e.os.trans h.ph.os
 output:=e.output.trans h.ph.output
def Inv.rc(H:C.Ok)(h:Inv C gs w t j D ls Ss rk W tag f0 d0 a st sm cl fu){x i:Nat}(e:Ef cl x w w')(n:i<j)(l:x≠C.lo+i)(f:qo7 C.ty C.Wg w' st' sm')(c:C.DataAt γ' w'):RC C.Fz C.K (Ss i) w w' where
 own b hb:=by
  have⟨d,g⟩:=h.clw i n b hb;exact e.keep b g (by rw[d];intro o;cases o;exact l rfl) (by rw[d];simp)
 fz b hb:=by
  have⟨d,g⟩:=h.fzc H hb;exact e.keep b g (by rw[d];simp) (by rw[d];simp)
 size:=e.size
 os:=e.os
 output:=e.output
 k:=⟨λ_=>⟨_,_,f⟩,λ_=>⟨_,c⟩⟩
def Inv.stepW(H:C.Ok)(h:Inv C gs w t j D ls Ss rk W tag f0 d0 a st sm cl fu){i:Nat}(hi:i<j){g A:qhw}{B:Array qjk}(sl:Option (Nat × Nat))(hg:gs[C.lo+i]?=some g)(b0:qj5 C.P false g w=.go A w' B)(e:Ef cl (C.lo+i) w w')(N:∀e∈B,EvG (Yg cl (C.lo+i) w w') w'.heap.size (C.lo+i) e/\∀a,e.loc≠.mark (.release a)){S Y p:Nat}{l':X}{r':Rk}(a9:C.WS S Y p l' (grow (Ss i) w w') r' A w')(z:ql2 (D i).deaf B=p)(hrel:S<=6->∃r,RelBy (stA C.Wg) (t++qkf (C.lo+i) g.frame.fn g.frame.place B) (C.lo+i) r)(u:qo7 C.ty C.Wg w' st' sm')(s:C.DataAt γ' w')(hJ:C.J γ' j (upd ls i l'))(v:∀c,(c=tag\/(tag=.blk/\c=.w3))->(mayWake C.P g=true->A.status=.running->c≠.blk)->qnf j (upd D i ⟨S,Y,p⟩) c st' sm') :∃R c V a',runT C.P (qlk gs w sl) (C.lo+i)=(.next (qlk R w' sl),qkf (C.lo+i) g.frame.fn g.frame.place B)/\V<=f0+1/\(c=tag\/(tag=.blk/\c=.w3)) /\Inv C R w' (t++qkf (C.lo+i) g.frame.fn g.frame.place B) j (upd D i ⟨S,Y,p⟩) (upd ls i l') (upd Ss i (grow (Ss i) w w')) (upd rk i r') γ' c V d0 a' st' sm' (Yg cl (C.lo+i) w w') fu:=by
 have b9:=H.hlo;have⟨c,V,O,b6,q,a8⟩:=h.cs.wokenBy H (LR.to (w:=w) ⟨_,_,u⟩) g A;have L:=qnd (P:=C.P) (sl:=sl) (i:=C.lo+i) hg (by rw[show(C.lo+i == 0)=false by simp;omega];exact b0);have I:((gs.map (qre C.P g A w')).setIfInBounds (C.lo+i) A).size=gs.size:=by simp
 have M:C.lo+i<gs.size:=by rw[h.size];omega
 have f:∀T∈qkf (C.lo+i) g.frame.fn g.frame.place B,T.g=C.lo+i:=qoG;refine⟨_,c,V,_,L,b6,q,⟨by rw[I];exact h.size,by rw[qlr _ _ _ _ (by omega),h.main];rfl,O,λx a7 a6=>?_,λx l=>?_,λx l=>?_,λx l n=>?_,?_,λx l b d=>?_,λb d=>?_,λb d=>?_,λb d=>?_,?_,?_,?_,s,hJ,h.ph' H e,u,v c q a8⟩⟩
 ·have⟨y,Z,G⟩:=h.lv x a7 a6;exact⟨y,by rw[qlr _ _ _ _ (by omega),Z,qjh,qn1 G],by rw[qm3 t (by omega:C.lo+i≠x) _ f];exact G⟩
 ·by_cases k:x=i
  ·subst k;exact⟨A,qma _ _ _ M,by simp only[qkH];exact a9⟩
  ·have⟨y,Z,F⟩:=h.wk x l;refine⟨y,by rw[qlr _ _ _ _ (by omega),Z,qjh,F.woken],?_⟩;rw[qm0 D _ k,qm0 ls _ k,qm0 Ss _ k,qm0 rk _ k];exact F.rely (h.rc H e l (by omega) u s)
 ·by_cases k:x=i
  ·subst k;rw[qqf,h.wd x l,qkH];exact z
  ·rw[qm3 t (by omega) _ f,h.wd x l,qm0 D _ k]
 ·by_cases k:x=i
  ·subst k;rw[qkH] at n;exact hrel n
  ·rw[qm0 D _ k] at n;have⟨r,hr⟩:=h.rel x l n;exact⟨r,hr.appOther f (by omega)⟩
 ·rw[I];exact(((h.tr.grow e.size).fresh' (cl':=Yg cl (C.lo+i) w w') (m:=w.heap.size) h.tr.inb λb d=>xe d)).step M (Jo λe he=>(N e he).1)
 ·by_cases k:x=i
  ·subst k;rw[qkH] at d;rcases d with d | d
   ·have⟨h1,Q⟩:=h.clw x hi b d;exact⟨by rw[xe Q];exact h1,qi0 Q e.size⟩
   ·exact⟨by unfold Yg;rw[if_pos d],d.2⟩
  ·rw[qm0 Ss _ k] at d;have⟨h1,Q⟩:=h.clw x l b d;exact⟨by rw[xe Q];exact h1,qi0 Q e.size⟩
 ·unfold Yg;rw[if_neg (by omega)];exact h.cl0 b (qhB e.size d)
 ·rw[xe (qi0 d h.ph.size)];exact h.cla b d
 ·unfold Yg;split
  ·simp
  ·exact h.cln b d
 ·exact λad=>(h.nor ad).app λT o hm=>by
   rw[qmF] at o;obtain⟨x,l,rfl⟩:=qnc.1 o;exact(N x l).2 _ (qoi hm)
 ·rw[qm3 t (by omega) _ f];exact h.deaf0
 ·exact h.hd.app λT o=>.inr (.inl (by rw[f T o];omega))
def Inv.step0(H:C.Ok)(h:Inv C gs w t j D ls Ss rk W tag f0 d0 a st sm cl fu){F:qhw}{n:Array qjk}(sl:Option (Nat × Nat))(O:qj5 C.P true a w=.go F w' n)(e:Ef cl 0 w w')(Q:w'.heap.size=w.heap.size)(z:∀e∈n,EvG cl w'.heap.size 0 e/\∀a,e.loc≠.mark (.release a)){tag':CTag}{S:Nat}(A:C.CS tag' j S (ql2 d0 n) F w')(q:qo7 C.ty C.Wg w' st' sm')(k:C.DataAt W w')(l:qnf j D tag' st' sm') :∃B,runT C.P (qlk gs w sl) 0=(.next (qlk B w' sl),qkf 0 a.frame.fn a.frame.place n) /\Inv C B w' (t++qkf 0 a.frame.fn a.frame.place n) j D ls Ss rk W tag' S (ql2 d0 n) F st' sm' cl fu:=by
 have V:=H.hlo;have u:=qnd (P:=C.P) (sl:=sl) (i:=0) h.main O;have s:((gs.map (qre C.P a F w')).setIfInBounds 0 F).size=gs.size:=by simp
 have v:0<gs.size:=by rw[h.size];omega
 have c:∀G∈qkf 0 a.frame.fn a.frame.place n,G.g=0:=qoG;refine⟨_,u,⟨by rw[s];exact h.size,qma _ _ _ v,A,λx M L=>?_,λx d=>?_,λx d=>?_,λx d N=>?_,?_,λx d b R=>?_,λb R=>h.cl0 b (by omega),h.cla,h.cln,?_,?_,?_,k,h.jj,h.ph' H e,q,l⟩⟩
 ·have⟨y,I,p⟩:=h.lv x M L;exact⟨y,by rw[qlr _ _ _ _ (by omega),I,qjh,qn1 p],by rw[qm3 t (by omega:0≠x) _ c];exact p⟩
 ·have⟨y,I,o⟩:=h.wk x d;exact⟨y,by rw[qlr _ _ _ _ (by omega),I,qjh,o.woken],o.rely (h.rc H e d (by omega) q k)⟩
 ·rw[qm3 t (by omega) _ c];exact h.wd x d
 ·have⟨r,T⟩:=h.rel x d N;exact⟨r,T.appOther c (by omega)⟩
 ·rw[s];exact(h.tr.grow e.size).step v (Jo λe Y=>(z e Y).1)
 ·have⟨h1,Z⟩:=h.clw x d b R;exact⟨h1,qi0 Z e.size⟩
 ·exact λad=>(h.nor ad).app λG f hm=>by
   rw[qmF] at f;obtain⟨x,d,rfl⟩:=qnc.1 f;exact(z x d).2 _ (qoi hm)
 ·rw[qqf,h.deaf0]
 ·exact h.hd.app λG f=>.inl (c G f)
def Inv.leave(H:C.Ok)(h:Inv C gs w t j D ls Ss rk W tag f0 d0 a st sm cl fu)(sl:Option (Nat × Nat)){i:Nat}{g:qhw}(Y:1<=i)(M:i<C.lo)(Z:gs[i]?=some g)(B:g.status=.running) :∃L s q d O a',runT C.P (qlk gs w sl) i=(.next (qlk L w sl),s)/\q<fu i/\O<=f0+1/\(d=tag\/(tag=.blk/\d=.w3)) /\Inv C L w (t++s) j D ls Ss rk W d O d0 a' st sm cl (upd fu i q):=by
 have a8:=H.hlo;have⟨g0,G,p⟩:=h.lv i Y M;rw[Z] at G;cases G;cases hf:fu i with
 | zero=>rw[hf] at p;rw[p.1] at B;cases B
 | succ q=>
  rw[hf] at p;rcases p with⟨k,_⟩ | ⟨_,N,es,l,o,p⟩
  ·rw[B] at k;cases k
  ·have⟨d,O,I,V,n,a7⟩:=h.cs.wokenBy H (LR.refl w) g N;have A:=qnd (P:=C.P) (sl:=sl) (i:=i) Z (by rw[show(i == 0)=false by simp;omega];exact o w);have z:((gs.map (qre C.P g N w)).setIfInBounds i N).size=gs.size:=by simp
   have F:i<gs.size:=by rw[h.size];omega
   have c:=Z2 (g:=i) (fn:=g.frame.fn) (pos:=g.frame.place) l;refine⟨_,_,q,d,O,_,A,qny q,V,n,⟨by rw[z];exact h.size,by rw[qlr _ _ _ _ (by omega),h.main];rfl,I,λx S R=>?_,λx k=>?_,λx k=>?_,λx k T=>?_,?_,h.clw,h.cl0,h.cla,h.cln,?_,?_,?_,h.data,h.jj,h.ph,h.wg,h.mode.retag n⟩⟩
   ·by_cases e:x=i
    ·subst e;exact⟨N,qma _ _ _ F,by rw[qkH,qqf];exact p⟩
    ·have⟨y,Q,v⟩:=h.lv x S R;exact⟨y,by rw[qlr _ _ _ _ (by omega),Q,qjh,qn1 v],by rw[qm0 _ _ e,qm3 t (Ne.symm e) _ λf b=>(c f b).1];exact v⟩
   ·have⟨y,Q,u⟩:=h.wk x k;exact⟨y,by rw[qlr _ _ _ _ (by omega),Q,qjh,u.woken],u⟩
   ·rw[qm3 t (by omega) _ λf b=>(c f b).1];exact h.wd x k
   ·have⟨r,B⟩:=h.rel x k T;exact⟨r,B.appOther (λf b=>(c f b).1) (by omega)⟩
   ·rw[z];exact h.tr.step F λf b=>⟨(c f b).1,λx k=>by rw[(c f b).2] at k;cases k⟩
   ·exact λad=>(h.nor ad).app λf b hm=>by
     rw[qmF] at b;obtain⟨x,k,rfl⟩:=qnc.1 b;have Y:=l x k;have M:=qoi hm;obtain⟨a6,wr,sy⟩:=x;simp only at M;subst M;cases Y
   ·rw[qm3 t (by omega) _ λf b=>(c f b).1];exact h.deaf0
   ·exact h.hd.app λf b=>.inr (.inr (c f b).2)
end
end
section
open Go.Conc Go.ConcN
open Go.ConcR (KK wgBlock WgAt stA smA rd wr DC0 Bk g_of_ofEvents loc_of_ofEvent ofEvent_mk ofEvent_cell)
def qcA(n:Nat)(b f:Nat->Rk):Prop:=∃i,i<n/\Rk.sub (b i) (f i)/\∀k,k≠i->b k=f k
def q3f:∀(n:Nat) (f:Nat->Rk),Acc (qcA n) f
 | 0,f=>.intro _ λ_ ⟨_,h,_⟩=>absurd h (Nat.not_lt_zero _)
 | n+1,f=>by
  have c:∀x:Rk,Acc Rk.sub x->∀f:Nat->Rk,f n=x->Acc (qcA (n+1)) f:=by
   intro x q;induction q with
   | intro x _ d=>
    intro f p;have b:=q3f n f;induction b with
    | intro f _ g=>
     refine .intro _ λk ⟨i,r,l,o⟩=>?_;by_cases e:i=n
     ·subst e;exact d (k i) (by rw[<- p];exact l) k rfl
     ·exact g k ⟨i,by omega,l,o⟩ (by rw[o n (Ne.symm e)];exact p)
  exact c (f n) (Rk.acc _) f rfl
abbrev Me:=Nat × (Nat->Rk) × Nat
def LtM(n:Nat):Me->Me->Prop:=Prod.Lex (·<·) (Prod.Lex (qcA n) (·<·))
def qfv(n:Nat):WellFounded (LtM n):=(Prod.lex ⟨_,Nat.lt_wfRel.wf⟩ (Prod.lex ⟨qcA n,⟨q3f n⟩⟩ ⟨_,Nat.lt_wfRel.wf⟩)).wf
def q1p{n x b:Nat}{y c:(Nat->Rk) × Nat}(h:b<x):LtM n (b,c) (x,y):=Prod.Lex.left _ _ h
def qgC{n x c z d:Nat}{y b:Nat->Rk}(e:c=x)(h:qcA n b y):LtM n (c,b,d) (x,y,z):=by
 subst e;exact Prod.Lex.right _ (Prod.Lex.left _ _ h)
def q7n{n x c z b:Nat}{y:Nat->Rk}(d:c=x)(h:b<z):LtM n (c,y,b) (x,y,z):=by
 subst d;exact Prod.Lex.right _ (Prod.Lex.right _ h)
section
variable{U X:Type}(C:Cfg U X)
def Cfg.nuD(x:WD × X):Nat:=if x.1.stage=7 then C.nu x.2 else 0
def Cfg.Nsum(j:Nat)(D:Nat->WD)(ls:Nat->X):Nat:=qnp j λi=>C.nuD (D i,ls i)
def Cfg.big(j:Nat)(D:Nat->WD)(ls:Nat->X)(W:U)(tag:CTag):Nat:=(C.nu C.l0+8)*phi C.n (Vc j D) tag+(Ssum j D+(C.m W+C.Nsum j D ls))
def Cfg.low(j:Nat)(D:Nat->WD)(fu:Nat->Nat)(f0:Nat):Nat:=f0+2*(Fsum j D+qnp C.lo fu)
end
section
variable{U X:Type}{C:Cfg U X}{gs:Array qhw}{w w':qhr}{t:qp6}{j:Nat}{D:Nat->WD}{ls:Nat->X}{Ss:Nat->Bs}{rk:Nat->Rk}{W γ':U}{tag tag':CTag}{f0 d0:Nat}{a:qhw}{st sm st' sm':Int}{cl:Nat->Cl}{fu:Nat->Nat}
def qbh{i:Nat}(x:WD)(l:X)(b:i<j):C.Nsum j (upd D i x) (upd ls i l)+C.nuD (D i,ls i)=C.Nsum j D ls+C.nuD (x,l):=by
 have e:(λa=>C.nuD (upd D i x a,upd ls i l a))=λa=>C.nuD (upd (λa=>(D a,ls a)) i (x,l) a):=by
  funext a
  by_cases h:a=i
  ·subst h;simp only[qkH]
  ·simp only[qm0 _ _ h]
 have:=qqo (λa=>(D a,ls a)) (x,l) C.nuD b;unfold Cfg.Nsum;rw[e];exact this
def ZB{Y:Type}(f:Nat->Y)(i:Nat):upd f i (f i)=f:=by
 funext a
 by_cases h:a=i
 ·subst h;rw[qkH]
 ·rw[qm0 _ _ h]
def Inv.at(H:C.Ok)(h:Inv C gs w t j D ls Ss rk W tag f0 d0 a st sm cl fu)(d:Nat):Inv C gs (w.at d) t j D ls Ss rk W tag f0 d0 a st sm cl fu :=
 ⟨h.size,h.main,h.cs.rely (LR.to ⟨_,_,h.wg⟩),h.lv,λi b=>let ⟨g,hg,hs⟩:=h.wk i b;⟨g,hg,hs.rely ⟨λ_ _=>rfl,λ_ _=>rfl,qhv _,rfl,rfl,id,λ⟨W,x⟩=>⟨W,H.dat W w _ (λ_ _=>rfl) x⟩⟩⟩,h.wd,h.rel,h.tr,h.clw,h.cl0,h.cla,h.cln,h.nor,h.deaf0,h.hd,
  H.dat W w _ (λ_ _=>rfl) h.data,h.jj,⟨h.ph.fz,h.ph.size,h.ph.os,h.ph.output⟩,h.wg,h.mode⟩
def Inv.awake(H:C.Ok)(h:Inv C gs w t j D ls Ss rk W tag f0 d0 a st sm cl fu):∀g∈gs,qs8 g:=by
 intro g o;have⟨i,c⟩:=qpG.1 o;have e:=(qhs.1 c).1;rw[h.size] at e;by_cases p:i=0
 ·subst p;rw[h.main] at c;cases c;intro l;rcases h.cs.status H with⟨d,_⟩ | ⟨d,_⟩<;>rw[d]<;>simp
 ·rcases qjy i C.lo with f | f
  ·have⟨x,b,n⟩:=h.lv i (by omega) f;rw[c] at b;cases b;exact JF n
  ·have⟨x,b,d⟩:=h.wk (i - C.lo) (by omega);rw[show C.lo+(i - C.lo)=i by omega,c] at b;cases b;intro l;rcases d.status with k | k<;>rw[k]<;>simp
def Inv.someone(H:C.Ok)(h:Inv C gs w t j D ls Ss rk W tag f0 d0 a st sm cl fu):∃(i:Nat) (g:qhw),gs[i]?=some g/\g.status=.running:=by
 rcases h.cs.status H with⟨b,_⟩ | ⟨_,rfl⟩
 ·exact⟨0,a,h.main,b⟩
 ·have hm:=h.mode;cases hm with
  | opn d _ _=>exact d.elim
  | reg _ _ e=>
   have⟨i,f,l⟩:=exists_counted e;have⟨g,c,b⟩:=h.wk i f;exact⟨C.lo+i,g,c,b.running_of (by omega)⟩
  | last L _ k e _=>
   have⟨g,c,b⟩:=h.wk L k;exact⟨C.lo+L,g,c,b.running_of (by omega)⟩
  | fin d _=>exact d.elim
def qc9(H:C.Ok)(h:Inv C gs w t j D ls Ss rk W tag f0 d0 a st sm cl fu){x:Nat}{e:qjk}(c:Bk C.Wg e):EvG cl w.heap.size x e/\∀a,e.loc≠.mark (.release a):=by
 have⟨l,k⟩:=h.wgc H;rcases c with c | c | ⟨n,wr,rfl,i⟩
 ·refine⟨λy d=>?_,λa=>by rw[c];simp⟩;obtain⟨f,wr,g⟩:=e;simp only at c;subst c;simp[qjq,qkg] at d
 ·refine⟨λy d=>?_,λa=>by rw[c];simp⟩;obtain⟨f,wr,g⟩:=e;simp only at c;subst c;simp[qjq,qkg] at d
 ·refine⟨λy d=>?_,λa=>by simp⟩;simp only[ofEvent_cell,qkg,qiD] at d;subst d;intro b c;simp only[blk,qiD] at c;subst c;rw[i];exact⟨k,.inr (.inr ⟨l,by simp,by simp⟩)⟩
def xd(H:C.Ok)(h:Inv C gs w t j D ls Ss rk W tag f0 d0 a st sm cl fu){e:qjk}(c:e=qkn (.read (smA C.Wg))\/e=qkn (.write (smA C.Wg))):EvG cl w.heap.size 0 e/\jA e:=by
 have⟨g,f⟩:=h.wgc H;rcases c with rfl | rfl
 ·refine⟨λy d=>?_,by simp[jA,qkn]⟩;simp only[qkn,qjq,qkg,qiD] at d;subst d;intro b c;simp only[blk,smA,qiD] at c;subst c;exact⟨f,.inr (.inr ⟨g,by simp,λ_=>rfl⟩)⟩
 ·refine⟨λy d=>?_,by simp[jA,qkn]⟩;simp only[qkn,qjq,qkg,qiD] at d;subst d;intro b c;simp only[blk,smA,qiD] at c;subst c;exact⟨f,.inr (.inr ⟨g,by simp,λ_=>rfl⟩)⟩
def Inv.ef(H:C.Ok)(h:Inv C gs w t j D ls Ss rk W tag f0 d0 a st sm cl fu)(x:Nat)(c:Aside C.Wg w w'):Ef cl x w w'/\w'.heap.size=w.heap.size/\C.DataAt W w':=by
 have⟨f,g⟩:=h.wgc H;refine⟨⟨λb _ _ d=>c.block b λe=>d (e ▸ f),qlB c.size.symm,c.os,c.output⟩,c.size,H.dat W w w' (λb d=>c.block b λe=>?_) h.data⟩;exact H.wgc.2.2 (e ▸ d)
end
end
section
open Go.Conc Go.ConcN
open Go.ConcR (KK wgBlock WgAt stA smA rd wr DC0 Bk g_of_ofEvents loc_of_ofEvent ofEvent_mk ofEvent_cell)
section
variable{U X:Type}{C:Cfg U X}{gs:Array qhw}{w w':qhr}{t:qp6}{j:Nat}{D:Nat->WD}{ls:Nat->X}{Ss:Nat->Bs}{rk:Nat->Rk}{W γ':U}{tag tag':CTag}{f0 d0:Nat}{a:qhw}{st sm st' sm':Int}{cl:Nat->Cl}{fu:Nat->Nat}
def q6s(H:C.Ok)(h:Inv C gs w t j D ls Ss rk W tag f0 d0 a st sm cl fu){i:Nat}(p:i<j)(o:w.heap.size<=w'.heap.size){e:qjk}(q:EvC C.Fz (grow (Ss i) w w') w'.heap.size e):EvG (Yg cl (C.lo+i) w w') w'.heap.size (C.lo+i) e/\∀a,e.loc≠.mark (.release a):=by
 obtain⟨u,_,s⟩:=q;refine⟨λx n b r=>?_,u.2.2⟩;have⟨l,g,c⟩:=s x n b r;refine⟨l,?_⟩;rcases c with(c | c) | ⟨c,k⟩
 ·have⟨f,d⟩:=h.clw i p b c;exact .inl ⟨by rw[xe d];exact f,g⟩
 ·exact .inl ⟨by unfold Yg;rw[if_pos c],g⟩
 ·have⟨f,d⟩:=h.fzc H c;exact .inr (.inl ⟨C.lo,by rw[xe d];exact f,.inr (by omega),k,g⟩)
def Inv.worker(H:C.Ok)(h:Inv C gs w t j D ls Ss rk W tag f0 d0 a st sm cl fu){i:Nat}(M:i<j){g:qhw}(hg:gs[C.lo+i]?=some g)(b9:g.status=.running)(sl:Option (Nat × Nat))(IH:∀z w' t' D' m4 r9 l9 γ' tag' f' a' st' sm' r6,Inv C z w' t' j D' m4 r9 l9 γ' tag' f' d0 a' st' sm' r6 fu->LtM C.n (C.big j D' m4 γ' tag',l9,C.low j D' fu f') (C.big j D ls W tag,rk,C.low j D fu f0)->Ends C.P C.Post (qlk z w' sl) t') :∃z w' S,runT C.P (qlk gs w sl) (C.lo+i)=(.next (qlk z w' sl),S)/\Ends C.P C.Post (qlk z w' sl) (t++S):=by
 obtain⟨g₁,hg₁,hs⟩:=h.wk i M;obtain rfl:g=g₁:=by rw[hg] at hg₁;exact qkD hg₁
 have t1:=H.hlo;have hn:=H.hn;have hb:=h.cs.le;have t4:=Vc_le j D;have A:=h.mode;have u:=h.wg;generalize O:(D i).stage=s at hs;generalize q6:(D i).fuel=m at hs;generalize e7:(D i).deaf=dd at hs;have n8:qqa t (C.lo+i)=dd:=by rw[h.wd i M,e7]
 obtain⟨m6,m5⟩:=h.wgc H;have g9:∀{I B l:Nat} {l':X} {r':Rk} {tag':CTag} {f':Nat} {γ':U},(tag'=tag\/(tag=.blk/\tag'=.w3))->f'<=f0+1 ->
   ((I<s/\cnt ⟨I,B,l⟩<=cnt (D i)/\C.m γ'=C.m W/\C.nuD (⟨I,B,l⟩,l')<=C.nuD (D i,ls i))\/(I=s/\B=m/\C.m γ'+C.nuD (⟨I,B,l⟩,l')<C.m W+C.nuD (D i,ls i)) \/
    (I=s/\B=m/\l'=ls i/\γ'=W/\Rk.sub r' (rk i))\/(I=s/\B+1=m/\l'=ls i/\γ'=W/\r'=rk i)) ->
   LtM C.n (C.big j (upd D i ⟨I,B,l⟩) (upd ls i l') γ' tag',upd rk i r',C.low j (upd D i ⟨I,B,l⟩) fu f') (C.big j D ls W tag,rk,C.low j D fu f0):=by
  intro I B l l' r' tag' f' γ' N hf hc;have e1:=qqo D (⟨I,B,l⟩:WD) cnt M;have e2:=qqo D (⟨I,B,l⟩:WD) WD.stage M;have e3:=qqo D (⟨I,B,l⟩:WD) WD.fuel M;have e4:=qbh (C:=C) (D:=D) (ls:=ls) (⟨I,B,l⟩:WD) l' M;have ep:phi C.n (Vc j (upd D i ⟨I,B,l⟩)) tag'=phi C.n (Vc j (upd D i ⟨I,B,l⟩)) tag:=phi_retag _ _ N;have n4:I=s->l'=ls i->C.nuD (⟨I,B,l⟩,l')=C.nuD (D i,ls i):=λx y=>by unfold Cfg.nuD;rw[O,x,y]
  have l6:I=s->cnt (⟨I,B,l⟩:WD)=cnt (D i):=λx=>by simp only[cnt,O,x]
  unfold Cfg.big Cfg.low;rw[ep];simp only[Vc,Ssum,Fsum,O,q6] at *
  rcases hc with⟨c1,c2,c3,c4⟩ | ⟨c1,c2,c3⟩ | ⟨c1,c2,c3,c4,c5⟩ | ⟨c1,c2,c3,c4,c5⟩
  ·refine q1p ?_;have hp:=phi_mono C.n (v':=qnp j λa=>cnt (upd D i ⟨I,B,l⟩ a)) (v:=qnp j λa=>cnt (D a)) (by omega) tag;have:=Nat.mul_le_mul_left (C.nu C.l0+8) hp;omega
  ·refine q1p ?_;have:=l6 c1;rw[show(qnp j λa=>cnt (upd D i ⟨I,B,l⟩ a))=qnp j λa=>cnt (D a) by omega];omega
  ·have h1:=l6 c1;have h2:=n4 c1 c3;refine qgC ?_ ⟨i,by omega,by rw[qkH];exact c5,λk hk=>qm0 _ _ hk⟩;rw[show(qnp j λa=>cnt (upd D i ⟨I,B,l⟩ a))=qnp j λa=>cnt (D a) by omega,c4];omega
  ·have h1:=l6 c1;have h2:=n4 c1 c3;rw[c5,ZB];refine q7n ?_ (by omega);rw[show(qnp j λa=>cnt (upd D i ⟨I,B,l⟩ a))=qnp j λa=>cnt (D a) by omega,c4];omega
 have g7:∀{Q:qhw} {w':qhr} {es:Array qjk} {I B l:Nat} {st' sm':Int},qj5 C.P false g w=.go Q w' es->Aside C.Wg w w'->qo7 C.ty C.Wg w' st' sm'->(∀e∈es,Bk C.Wg e) ->
   (∀jx e,es[jx]?=some e->(qjq e).touch?=none\/0<ql2 dd (es.extract 0 jx))->C.WS I B l (ls i) (Ss i) (rk i) Q w'->ql2 dd es=l->s<=6 ->
   (∀tag',(tag'=tag\/(tag=.blk/\tag'=.w3))->(mayWake C.P g=true->Q.status=.running->tag'≠.blk)->qnf j (upd D i ⟨I,B,l⟩) tag' st' sm')->((I<s/\cnt ⟨I,B,l⟩<=cnt (D i))\/(I=s/\B+1=m)) ->
   ∃z w' S,runT C.P (qlk gs w sl) (C.lo+i)=(.next (qlk z w' sl),S)/\Ends C.P C.Post (qlk z w' sl) (t++S):=by
  intro Q w' es I B l st' sm' c l7 d8 c9 hd d9 l4 h6 Y k8;obtain⟨b6,a9,a8⟩:=h.ef H (C.lo+i) l7;have k9:grow (Ss i) w w'=Ss i:=by
   funext b
   simp only[grow,eq_iff_iff];exact⟨λh=>h.elim id λ⟨a,b⟩=>by omega,.inl⟩
  obtain⟨z,tag',f',a',G,b0,N,V⟩:=h.stepW H M sl hg c b6 (λe o=>by rw[q1E a9,a9];exact qc9 H h (c9 e o)) (by rw[k9];exact d9) (by rw[e7];exact l4)
   (λ_=>let ⟨r,hr⟩:=h.rel i M (by omega);⟨r,hr.book n8 _ _ c9 hd⟩) d8 a8 (by rw[ZB];exact h.jj) Y
  refine⟨z,w',_,G,IH _ _ _ _ _ _ _ _ _ _ _ _ _ _ V (g9 N b0 ?_)⟩;rcases k8 with⟨h1,h2⟩ | ⟨h1,h2⟩
  ·refine .inl ⟨h1,h2,rfl,?_⟩;unfold Cfg.nuD;rw[if_neg (by simp only;omega),if_neg (by simp only[O];omega)];exact qhv _
  ·exact .inr (.inr (.inr ⟨h1,h2,rfl,rfl,rfl⟩))
 have R:∀{Q:qhw} {w':qhr} {es:Array qjk} {I B l:Nat} {st' sm':Int},qj5 C.P false g w=.go Q w' es->Aside C.Wg w w'->qo7 C.ty C.Wg w' st' sm'->(∀e∈es,Bk C.Wg e) ->
   (∀jx e,es[jx]?=some e->(qjq e).touch?=none\/0<ql2 dd (es.extract 0 jx))->C.WS I B l (ls i) (Ss i) (rk i) Q w'->ql2 dd es=l->s<=6 ->
   qnf j (upd D i ⟨I,B,l⟩) tag st' sm'->((I<s/\cnt ⟨I,B,l⟩<=cnt (D i))\/(I=s/\B+1=m)) ->
   ∃z w' S,runT C.P (qlk gs w sl) (C.lo+i)=(.next (qlk z w' sl),S)/\Ends C.P C.Post (qlk z w' sl) (t++S) :=
  λc l7 d8 c9 hd d9 l4 h6 Y k8=>g7 c l7 d8 c9 hd d9 l4 h6 (λ_ ht _=>Y.retag ht) k8
 have jX:∀{Q:qhw} {B:Nat},qj5 C.P false g w=.go Q w #[]->C.WS s B dd (ls i) (Ss i) (rk i) Q w->B+1=m->s<=6 ->
   ∃z w' S,runT C.P (qlk gs w sl) (C.lo+i)=(.next (qlk z w' sl),S)/\Ends C.P C.Post (qlk z w' sl) (t++S):=by
  intro Q B c d9 hm h6;exact R c (.refl C.Wg w) u (by simp) (by simp) d9 rfl h6 (by have:=A.same (i:=i) B dd;rwa [O] at this) (.inr ⟨rfl,hm⟩)
 have e9:5<=s->cnt (D i)=1:=λh=>by simp[cnt,O,h]
 cases hs with
 | run e8=>
  generalize q1:rk i=r at e8;cases r with
  | leaf=>
   obtain⟨_,hx⟩:=e8 w (RC.refl w);rcases hx with⟨d,Q,c,m₂,hk⟩ | ⟨_,hx⟩
   ·-- it releases
    obtain⟨b6,a9,a8⟩:=h.ef H (C.lo+i) (Aside.refl C.Wg w);obtain⟨z,tag',f',a',G,b0,N,V⟩:=h.stepW H (w':=w) (γ':=W) (st':=st) (sm':=sm) M sl hg c b6 (l':=ls i) (r':=rk i)
     (λe o=>by simp at o;subst o;exact⟨λx hx=>by simp[qkn,qjq,qkg] at hx,λa=>by simp[qkn]⟩) (.k1 d hk) (by rw[e7];rfl) (λ_=>⟨t.size,RelBy.new n8 _ _⟩) u a8
     (by rw[ZB];exact h.jj) (λ_ ht _=>(A.counted M (by omega) (.inl rfl) _ _).retag ht)
    refine⟨z,w,_,G,IH _ _ _ _ _ _ _ _ _ _ _ _ _ _ V (g9 N b0 (.inl ⟨by omega,by rw[e9 (by omega)];simp[cnt],rfl,?_⟩))⟩;unfold Cfg.nuD;rw[if_neg (by simp)];exact qiu _
   ·-- a synchronising operation on the data
    obtain⟨Q,w',es,γ',l',c,m8,a9,q3,n2,n7,a8,m7,p9⟩:=hx W h.data ⟨j,ls,by have:=h.cs.le;omega,h.jj⟩;obtain⟨r',q2⟩:=H.hW _ _ _ _ p9;have k9:grow (Ss i) w w'=Ss i:=by
     funext b
     simp only[grow,eq_iff_iff];exact⟨λh=>h.elim id λ⟨a,b⟩=>by omega,.inl⟩
    have b6:Ef cl (C.lo+i) w w':=⟨λb _ _ hb=>m8 b λhs=>hb (h.syc H hs).1,qlB a9.symm,q3,n2⟩;obtain⟨z,tag',f',a',G,b0,N,V⟩:=h.stepW H (γ':=γ') (st':=st) (sm':=sm) M sl hg c b6 (l':=l') (r':=r')
     (λe o=>by
      obtain⟨ad,wr,rfl,n9⟩:=n7 e o;obtain⟨k1,k2⟩:=h.syc H n9;refine⟨λx hx b hb=>?_,λa=>by simp⟩;simp only[ofEvent_cell,qkg,qiD] at hx;subst hx;simp only[blk,qiD] at hb;subst hb;rw[q1E a9,a9];exact⟨k2,.inr (.inr ⟨k1,by simp,by simp⟩)⟩) (.run (by rw[k9];exact q2)) (by
      rw[e7];refine deafBehind_idle (λe o=>?_) 0;obtain⟨ad,wr,rfl,n9⟩:=n7 e o;exact⟨by simp,by simp,by simp⟩) (λh=>by omega) (u.of_block (m8 _ H.wgc.2.2)) a8
     (H.hJ _ _ _ _ _ _ h.jj M m7) (λ_ ht _=>Go.ConcN.Mode.retag (by have:=A.same (i:=i) 0 0;rwa [O] at this) ht)
    refine⟨z,w',_,G,IH _ _ _ _ _ _ _ _ _ _ _ _ _ _ V (g9 N b0 (.inr (.inl ⟨rfl,rfl,?_⟩)))⟩;have:=H.hm _ _ _ _ m7;unfold Cfg.nuD;rw[if_pos (by simp),if_pos (by simp only[O])];exact this
  | nd f=>
   obtain⟨Q,w',es,c,a6,l5⟩:=e8.2 w (RC.refl w);have b6:Ef cl (C.lo+i) w w':=⟨λb hb hm hs=>a6.keep b hb λhS=>hm (h.clw i M b hS).1,a6.size,a6.os,a6.output⟩;have n3:∀b,cl b=.sync->¬ Ss i b:=λb hb hS=>by rw[(h.clw i M b hS).1] at hb;cases hb
   obtain⟨z,tag',f',a',G,b0,N,V⟩:=h.stepW H (γ':=W) (st':=st) (sm':=sm) M sl hg c b6 (l':=ls i)
    (λe o=>q6s H h M a6.size (a6.evs e o)) (.run l5) (by rw[e7];exact deafBehind_idle (λe o=>(a6.evs e o).1) 0) (λh=>by omega) (u.of_block (a6.keep _ m5 (n3 _ m6)))
    (H.dat W w w' (λb hb=>a6.keep b (h.syc H hb).2 (n3 _ (h.syc H hb).1)) h.data) (by rw[ZB];exact h.jj) (λ_ ht _=>Go.ConcN.Mode.retag (by have:=A.same (i:=i) 0 0;rwa [O] at this) ht)
   exact⟨z,w',_,G,IH _ _ _ _ _ _ _ _ _ _ _ _ _ _ V (g9 N b0 (.inr (.inr (.inl ⟨rfl,rfl,rfl,rfl,by rw[q1];exact⟨_,rfl⟩⟩))))⟩
 | k1 d hh=>
  rcases qlf hh with F | ⟨B,rfl,p⟩
  ·obtain⟨_,Q,c,m₂,hk⟩:=F w (LR.refl w);exact R c (.refl C.Wg w) u (by intro e o;simp at o;subst o;exact .inl rfl) (by intro jx e o;exact .inl (by have:=qjB o;simp at this;subst this;rfl)) (.d1 d hk) rfl (by omega)
    (A.counted M (by omega) (.inr rfl) _ _) (.inl ⟨by omega,by rw[e9 (by omega)];simp[cnt]⟩)
  ·obtain⟨Q,w',es,c,⟨rfl,rfl⟩,Z⟩:=p w (LR.refl w);exact jX c (.k1 d Z) rfl (by omega)
 | d1 d hh=>
  rcases qlf hh with F | ⟨B,rfl,p⟩
  ·obtain⟨_,h9⟩:=F w (LR.refl w);have r3:cnt (D i)=1:=e9 (by omega);have t5:1<=Vc j D:=by have:=le_sumTo (f:=λx=>cnt (D x)) M;simp only[Vc];omega
   have bk2:∀e∈#[rd (stA C.Wg),wr (stA C.Wg)],Bk C.Wg e:=by intro e o;simp at o;rcases o with rfl | rfl<;>exact bk_cell _ _ rfl
   have l8:∀jx e,(#[rd (stA C.Wg),wr (stA C.Wg)]:Array qjk)[jx]?=some e->(qjq e).touch?=none\/0<ql2 1 ((#[rd (stA C.Wg),wr (stA C.Wg)]:Array qjk).extract 0 jx):=by
    intro jx e o
    match jx,o with
    | 0,_=>exact .inr (by simp[ql2])
    | 1,_=>exact .inr (by simp[ql2,rd])
    | jx+2,o=>simp at o
   have m9:∀q,cnt (⟨1,q,1⟩:WD)=0:=λ_=>rfl;have m3:∀q,OpenSt j D->OpenSt j (upd D i ⟨1,q,1⟩):=λq h a ha=>by
    by_cases e:a=i
    ·subst e;rw[qkH];simp
    ·rw[qm0 D _ e];exact h a ha
   cases A with
   | opn h1 h2 h3=>
    obtain⟨v,hv⟩:∃v,Vc j D+qqb tag=v+1:=⟨Vc j D+qqb tag - 1,by omega⟩;rw[hv] at u;have k5:qo7 C.ty C.Wg w (((v:Nat)+1)*KK+((0:Nat):Int)) 0:=by simpa using u
    obtain⟨Q,c,_,hq⟩:=h9 v 0 (by omega) (by omega) k5;obtain⟨q,hq⟩:=hq (by omega);have k6:Vc j (upd D i ⟨1,q,1⟩)+qqb tag=v:=by have:=Vc_upd D (⟨1,q,1⟩:WD) M;have:=m9 q;omega
    refine R c (qmv w (stA C.Wg) _) (u.setSt _) bk2 l8 (.quit d hq) rfl (by omega) ?_ (.inl ⟨by omega,by simp[cnt]⟩);have e:((v:Nat):Int)*KK+((0:Nat):Int)=((Vc j (upd D i ⟨1,q,1⟩)+qqb tag:Nat):Int)*KK:=by rw[k6];simp
    rw[e];exact .opn h1 (m3 q h2) (λvs ev=>by have:=h3 vs ev;omega)
   | reg h1 h2 h3=>
    obtain⟨v,hv⟩:∃v,Vc j D=v+1:=⟨Vc j D - 1,by omega⟩;rw[hv] at u;have hp:qqb tag=0:=by cases tag<;>first | rfl | exact h1.elim
    have k5:qo7 C.ty C.Wg w (((v:Nat)+1)*KK+((1:Nat):Int)) 0:=by simpa using u
    obtain⟨Q,c,hl,hq⟩:=h9 v 1 (by omega) (by omega) k5;by_cases q0:v=0
    ·subst q0;obtain⟨m₂,hk⟩:=hl ⟨rfl,rfl⟩;refine R c (qmv w (stA C.Wg) _) (u.setSt _) bk2 l8 (.d2 d hk) rfl (by omega) ?_ (.inl ⟨by omega,by simp[cnt]⟩);have T:∀a,a<j->a≠i->(D a).stage=1:=λa ha e=>by
      have c0:=others_uncounted M hv r3 a ha e;have:=h2 a ha;simp only[cnt] at c0;split at c0<;>omega
     have:=Go.ConcN.Mode.last (j:=j) (D:=upd D i ⟨4,m₂,1⟩) (tag:=tag) i h1 M (by rw[qkH];simp) (λa ha e=>by rw[qm0 D _ e];exact T a ha e);rw[qkH] at this;simpa using this
    ·obtain⟨q,hq⟩:=hq (by omega);have k6:Vc j (upd D i ⟨1,q,1⟩)=v:=by have:=Vc_upd D (⟨1,q,1⟩:WD) M;have:=m9 q;omega
     refine R c (qmv w (stA C.Wg) _) (u.setSt _) bk2 l8 (.quit d hq) rfl (by omega) ?_ (.inl ⟨by omega,by simp[cnt]⟩);have e:((v:Nat):Int)*KK+((1:Nat):Int)=((Vc j (upd D i ⟨1,q,1⟩):Nat):Int)*KK+1:=by rw[k6];simp
     rw[e];exact .reg h1 (m3 q h2) (by omega)
   | last L _ h2 h3 h4=>
    by_cases e:i=L
    ·subst e;omega
    ·have:=h4 i M e;omega
   | sema h2=>have:=h2 i M;omega
   | fin _ h2=>have:=h2 i M;omega
  ·obtain⟨Q,w',es,c,⟨rfl,rfl⟩,Z⟩:=p w (LR.refl w);exact jX c (.d1 d Z) rfl (by omega)
 | d2 d hh=>
  rcases qlf hh with F | ⟨B,rfl,p⟩
  ·obtain⟨_,hx⟩:=F w (LR.refl w);obtain⟨g5,T,rfl,rfl⟩:=A.isLast M (by omega);simp only[O] at u;obtain⟨Q,c,m₂,hk⟩:=hx (by simpa using u);refine R c (.refl C.Wg w) u (by intro e o;simp at o;subst o;exact bk_cell _ _ rfl) (by intro jx e o;match jx,o with | 0,_=>exact .inr (by simp[ql2]) | jx+1,o=>simp at o) (.d3 d hk) rfl (by omega) ?_ (.inl ⟨by omega,by simp[cnt]⟩);have:=Go.ConcN.Mode.last (j:=j) (D:=upd D i ⟨3,m₂,1⟩) (tag:=tag) i g5 M (by rw[qkH];simp) (λa ha e=>by rw[qm0 D _ e];exact T a ha e);rw[qkH] at this;simpa using this
  ·obtain⟨Q,w',es,c,⟨rfl,rfl⟩,Z⟩:=p w (LR.refl w);exact jX c (.d2 d Z) rfl (by omega)
 | d3 d hh=>
  rcases qlf hh with F | ⟨B,rfl,p⟩
  ·obtain⟨_,hx⟩:=F w (LR.refl w);obtain⟨g5,T,rfl,rfl⟩:=A.isLast M (by omega);simp only[O] at u;obtain⟨Q,c,m₂,hk⟩:=hx (by simpa using u);refine R c (qmv w (stA C.Wg) _) (u.setSt 0) (by intro e o;simp at o;subst o;exact bk_cell _ _ rfl) (by intro jx e o;match jx,o with | 0,_=>exact .inr (by simp[ql2]) | jx+1,o=>simp at o) (.d4 d hk) rfl (by omega) ?_ (.inl ⟨by omega,by simp[cnt]⟩);have:=Go.ConcN.Mode.last (j:=j) (D:=upd D i ⟨2,m₂,1⟩) (tag:=tag) i g5 M (by rw[qkH];simp) (λa ha e=>by rw[qm0 D _ e];exact T a ha e);rw[qkH] at this;simpa using this
  ·obtain⟨Q,w',es,c,⟨rfl,rfl⟩,Z⟩:=p w (LR.refl w);exact jX c (.d3 d Z) rfl (by omega)
 | d4 d hh=>
  rcases qlf hh with F | ⟨B,rfl,p⟩
  ·obtain⟨_,q5,hx⟩:=F w (LR.refl w);obtain⟨g5,T,rfl,rfl⟩:=A.isLast M (by omega);simp only[O] at u;obtain⟨Q,c,q,hq⟩:=hx (by simpa using u);have G:Q.status=.running:=by
    cases q with
    | zero=>exact absurd hq.2 (by decide)
    | succ q=>exact hq.elim (λx=>absurd x.2 (by decide)) (λx=>x.1)
   refine g7 c (qmv w (smA C.Wg) _) (u.setSm 1) (es:=qml (smA C.Wg)) ?_ ?_ (.quit d hq) (by simp[ql2,qml]) (by omega) ?_ (.inl ⟨by omega,by simp[cnt]⟩)
   ·intro e o;simp[qml] at o;rcases o with rfl | rfl | rfl | rfl
    ·exact .inl rfl
    ·exact bk_cell _ _ rfl
    ·exact bk_cell _ _ rfl
    ·exact .inr (.inl rfl)
   ·intro jx e o
    match jx,o with
    | 0,o=>simp[qml] at o;subst o;exact .inl rfl
    | 1,_=>exact .inr (by simp[ql2,qml])
    | 2,_=>exact .inr (by simp[ql2,qml])
    | 3,o=>simp[qml] at o;subst o;exact .inl rfl
    | jx+4,o=>simp[qml] at o
   ·intro tag' ht hw;have q4:=hw q5 G;have e3:tag'=.w3:=by
     rcases ht with rfl | ⟨_,rfl⟩
     ·cases tag'<;>first | rfl | exact g5.elim | exact absurd rfl q4
     ·rfl
    subst e3;simp only[if_true];exact .sema λa ha=>by
     by_cases e:a=i
     ·subst e;rw[qkH]
     ·rw[qm0 D _ e];exact T a ha e
  ·obtain⟨Q,w',es,c,⟨rfl,rfl⟩,Z⟩:=p w (LR.refl w);exact jX c (.d4 d Z) rfl (by omega)
 | quit d hh=>
  cases m with
  | zero=>rw[hh.1] at b9;cases b9
  | succ q=>
   rcases hh with⟨hf,_⟩ | ⟨_,Q,es,e5,p,hq⟩
   ·rw[hf] at b9;cases b9
   ·have c9:∀e∈es,Bk C.Wg e:=λe o=>Go.ConcR.bk_of_mute (e5 e o);exact R (p w) (.refl C.Wg w) u c9 (λjx e o=>.inl (K9 (e5 e (qjB o)))) (.quit d hq) rfl (by omega) (by have:=A.same (i:=i) q (ql2 dd es);rwa [O] at this) (.inr ⟨rfl,rfl⟩)
end
end
section
open Go.Conc Go.ConcN
open Go.ConcR (KK wgBlock WgAt stA smA rd wr DC0 Bk g_of_ofEvents loc_of_ofEvent ofEvent_mk ofEvent_cell)
section
variable{U X:Type}{C:Cfg U X}{gs:Array qhw}{w w':qhr}{t:qp6}{j:Nat}{D:Nat->WD}{ls:Nat->X}{Ss:Nat->Bs}{rk:Nat->Rk}{W γ':U}{tag tag':CTag}{f0 d0:Nat}{a:qhw}{st sm st' sm':Int}{cl:Nat->Cl}{fu:Nat->Nat}
def q1F{c:Nat}:∀e∈#[qkn .disable],Bk c e:=by intro e b;simp at b;subst b;exact .inl rfl
def q5b{c:Nat}:∀e∈#[qkn .enable],Bk c e:=by intro e b;simp at b;subst b;exact .inr (.inl rfl)
def qek{c:Nat}:∀e∈#[rd (stA c)],Bk c e:=by intro e b;simp at b;subst b;exact bk_cell _ _ rfl
def qcm{b:Nat}:∀e∈#[rd (stA b),wr (stA b)],Bk b e:=by intro e c;simp at c;rcases c with rfl | rfl<;>exact bk_cell _ _ rfl
def qej{c:Nat}:∀e∈qml (smA c),Bk c e:=by
 intro e b;simp[qml] at b;rcases b with rfl | rfl | rfl | rfl
 ·exact .inl rfl
 ·exact bk_cell _ _ rfl
 ·exact bk_cell _ _ rfl
 ·exact .inr (.inl rfl)
def Ju{c:Nat}{b:Array qjk}(h:∀e∈b,e=qkn (.read (smA c))\/e=qkn (.write (smA c)))(d:Nat):ql2 d b=d :=
 deafBehind_idle (λe f=>by rcases h e f with rfl | rfl<;>simp[jA,qkn]) d
def Inv.spawn(H:C.Ok){r:Nat}(hr:r<C.n)(h:Inv C gs w t (C.n - (r+1)) D ls Ss rk W (.sp r 2) f0 0 a st sm cl fu)(sl:Option (Nat × Nat)){F c:qhw}(Y:qj5 C.P true a w=.spawn F c w #[])(a7:C.WA C.l0 (λ_=>False) c w){tag':CTag}{f':Nat}(v:C.CS tag' (C.n - r) f' 0 F w)(ho:isOpen tag')(hp:qqb tag'=0)(V:∀S,tag'≠.w2 S) :∃N G r',runT C.P (qlk gs w sl) 0=(.next (qlk N w sl),G) /\Inv C N w (t++G) (C.n - r) (upd D (C.n - (r+1)) ⟨7,0,0⟩) (upd ls (C.n - (r+1)) C.l0) (upd Ss (C.n - (r+1)) (λ_=>False)) (upd rk (C.n - (r+1)) r') W tag' f' 0 F st sm cl fu:=by
 have d5:=H.hlo;have ej:C.n - r=C.n - (r+1)+1:=by omega
 generalize C.n - (r+1)=j at *
 rw[ej] at v ⊢;have⟨rr,hrr⟩:=H.hW _ _ _ _ a7;have o:=runT_crowd_spawn (P:=C.P) (sl:=sl) (i:=0) h.main Y;have e0:(qkf 0 a.frame.fn a.frame.place #[]:Array qq6)=#[]:=by rw[qmF];simp
 rw[e0] at o;have O:((#[]:Array qq6).push { g:=0,fn:=a.frame.fn,pos:=a.frame.place,act:=.go gs.size } |>.push { g:=gs.size,fn:=c.frame.fn,pos:=a.frame.place,act:=.start })=#[{ g:=0,fn:=a.frame.fn,pos:=a.frame.place,act:=.go gs.size },{ g:=gs.size,fn:=c.frame.fn,pos:=a.frame.place,act:=.start }]:=rfl;rw[O] at o;refine⟨_,_,rr,o,?_⟩;generalize hx:({ g:=0,fn:=a.frame.fn,pos:=a.frame.place,act:=.go gs.size }:qq6)=x;generalize hy:({ g:=gs.size,fn:=c.frame.fn,pos:=a.frame.place,act:=.start }:qq6)=y;have l:x.g=0/\x.act=.go gs.size:=by rw[<- hx];exact⟨rfl,rfl⟩
 have k:y.g=gs.size/\y.act=.start:=by rw[<- hy];exact⟨rfl,rfl⟩
 have I:((gs.setIfInBounds 0 F).push c).size=gs.size+1:=by simp
 have A:=h.size;have q:∀g,qqa (t++#[x,y]) g=qqa t g:=λg=>(h.tr.fork_deaf l k g).2;have u:∀i,1<=i->i<gs.size->((gs.setIfInBounds 0 F).push c)[i]?=gs[i]?:=λi M L=>by
  rw[qq1 (by simpa using L),<- qih,qjb (by omega)]
 have s:∀f∈#[x,y],f.g=0\/f.g=gs.size:=λf d=>by
  simp only[qlb,qjr,qjG,or_false] at d;rcases d with rfl | rfl
  ·exact .inl l.1
  ·exact .inr k.1
 have B:∀f∈#[x,y],f.act=.go gs.size\/f.act=.start:=λf d=>by
  simp only[qlb,qjr,qjG,or_false] at d;rcases d with rfl | rfl
  ·exact .inl l.2
  ·exact .inr k.2
 refine⟨by rw[I,A];omega,?_,v,λi M L=>?_,λi Q=>?_,λi Q=>?_,λi Q p=>?_,?_,λi Q b R=>?_,h.cl0,h.cla,h.cln,?_,?_,?_,h.data,H.hJ0 _ _ _ h.jj,h.ph,h.wg,?_⟩
 ·rw[qq1 (by simp;omega),<- qih,qiC,if_pos rfl,if_pos (by omega)]
 ·have⟨z,T,hq⟩:=h.lv i M L;exact⟨z,by rw[u i M (by omega)];exact T,by rw[q];exact hq⟩
 ·by_cases e:i=j
  ·subst e;refine⟨c,?_,by simp only[qkH];exact .run hrr⟩;rw[<- A,show gs.size=(gs.setIfInBounds 0 F).size by simp];exact Array.getElem?_push_size
  ·have⟨z,T,hs⟩:=h.wk i (by omega);refine⟨z,by rw[u _ (by omega) (by omega)];exact T,?_⟩;rw[qm0 D _ e,qm0 ls _ e,qm0 Ss _ e,qm0 rk _ e];exact hs
 ·rw[q];by_cases e:i=j
  ·subst e;rw[qkH,<- A];have:=(h.tr.fork_deaf l k 0).1;rw[q] at this;exact this
  ·rw[qm0 D _ e];exact h.wd i (by omega)
 ·by_cases e:i=j
  ·subst e;rw[qkH] at p;simp at p
  ·rw[qm0 D _ e] at p;have⟨r,hr⟩:=h.rel i (by omega) p;exact⟨r,hr.appNot λf d=>by rcases s f d with h | h<;>omega⟩
 ·rw[I];exact h.tr.fork (by omega) l k h.deaf0
 ·by_cases e:i=j
  ·subst e;rw[qkH] at R;exact R.elim
  ·rw[qm0 Ss _ e] at R;exact h.clw i (by omega) b R
 ·exact λad=>(h.nor ad).app λf d hm=>by
   rcases B f d with e | e<;>rw[e] at hm<;>cases hm
 ·rw[q];exact h.deaf0
 ·exact h.hd.app λf d=>by rcases s f d with e | e<;>omega
 ·have hm:=h.mode;have⟨Z,M,L,_⟩:=hm.open_inv trivial;have eV:Vc (j+1) (upd D j ⟨7,0,0⟩)=Vc j D+1:=by
   simp only[Vc,qnp,qkH];rw[qqD D _ cnt (qhv _)];rfl
  have a6:OpenSt (j+1) (upd D j ⟨7,0,0⟩):=λi Q=>by
   by_cases e:i=j
   ·subst e;rw[qkH];simp
   ·rw[qm0 D _ e];exact Z i (by omega)
  rw[M,L];have a8:((Vc j D+qqb (.sp r 2):Nat):Int)*KK=((Vc (j+1) (upd D j ⟨7,0,0⟩)+qqb tag':Nat):Int)*KK:=by rw[eV,hp];simp[qqb]
  rw[a8];exact .opn ho a6 (λS e=>absurd e (V S))
def Inv.starter(H:C.Ok)(h:Inv C gs w t j D ls Ss rk W tag f0 d0 a st sm cl fu)(k7:a.status=.running)(sl:Option (Nat × Nat))(IH:∀l w' t' j' D' h9 p7 g9 tag' f' d' v st' sm',Inv C l w' t' j' D' h9 p7 g9 W tag' f' d' v st' sm' cl fu->LtM C.n (C.big j' D' h9 W tag',g9,C.low j' D' fu f') (C.big j D ls W tag,rk,C.low j D fu f0)->Ends C.P C.Post (qlk l w' sl) t') :∃l w' A,runT C.P (qlk gs w sl) 0=(.next (qlk l w' sl),A)/\Ends C.P C.Post (qlk l w' sl) (t++A):=by
 have hn:=H.hn;have q5:=Vc_le j D;have n3:=h.cs.le;have k:=h.mode;have p:=h.wg;have s:∀{v:qhw} {w':qhr} {R:Array qjk} {tag':CTag} {f':Nat} {st' sm':Int},qj5 C.P true a w=.go v w' R->Aside C.Wg w w'->qo7 C.ty C.Wg w' st' sm'->(∀e∈R,Bk C.Wg e)->C.CS tag' j f' (ql2 d0 R) v w' ->
   qnf j D tag' st' sm'->(phi C.n (Vc j D) tag'<phi C.n (Vc j D) tag\/(phi C.n (Vc j D) tag'=phi C.n (Vc j D) tag/\f'<f0)) ->
   ∃l w' A,runT C.P (qlk gs w sl) 0=(.next (qlk l w' sl),A)/\Ends C.P C.Post (qlk l w' sl) (t++A):=by
  intro v w' R tag' f' st' sm' c p4 k0 p3 b9 c9 d5;obtain⟨Z,M,Q⟩:=h.ef H 0 p4;obtain⟨l,I,z⟩:=h.step0 H sl c Z M (λe he=>by rw[M];exact qc9 H h (p3 e he)) b9 k0 Q c9;refine⟨l,w',_,I,IH _ _ _ _ _ _ _ _ _ _ _ _ _ _ z ?_⟩;unfold Cfg.big Cfg.low;rcases d5 with T | ⟨T,h2⟩
  ·refine q1p ?_;have:=qnq T (show 0<C.nu C.l0+8 by omega);omega
  ·rw[T];exact q7n rfl (by omega)
 have jX:∀{v:qhw} {w':qhr} {R:Array qjk} {f':Nat},qj5 C.P true a w=.go v w' R->DM C.Wg w w' R->C.CS tag j f' d0 v w'->f'<f0 ->
   ∃l w' A,runT C.P (qlk gs w sl) 0=(.next (qlk l w' sl),A)/\Ends C.P C.Post (qlk l w' sl) (t++A):=by
  intro v w' R f' c F b9 hf;obtain⟨rfl,O⟩:=F;have S:=Ju O d0;obtain⟨Z,M,Q⟩:=h.ef H 0 (Aside.refl C.Wg w');obtain⟨l,I,z⟩:=h.step0 H sl c Z M (λe he=>⟨(xd H h (O e he)).1,(xd H h (O e he)).2.2.2⟩) (by rw[S];exact b9) p Q k;refine⟨l,w',_,I,IH _ _ _ _ _ _ _ _ _ _ _ _ _ _ z ?_⟩;unfold Cfg.big Cfg.low;exact q7n rfl (by omega)
 have n8:=h.cs;have w1Step:∀{m:Nat},tag=.w1\/tag=.anch->j=C.n->d0=1->f0=m\/tag=.anch->C.GM C.AtW1 m a w ->
   ∃l w' A,runT C.P (qlk gs w sl) 0=(.next (qlk l w' sl),A)/\Ends C.P C.Post (qlk l w' sl) (t++A):=by
  intro m a6 hj hd hf G;have u:isOpen tag:=by rcases a6 with rfl | rfl<;>trivial
  have g5:qqb tag=0:=by rcases a6 with rfl | rfl<;>rfl
  have d8:8*Vc j D+5<=phi C.n (Vc j D) tag:=by rcases a6 with rfl | rfl<;>simp only[phi]<;>omega
  obtain⟨ho,T,h2,_⟩:=k.open_inv u;rcases qlf G with d | ⟨m',rfl,f⟩
  ·obtain⟨_,Y⟩:=d w (.refl w);obtain⟨v,c,h0,k8⟩:=Y (Vc j D) (by omega) (by have:=p;rw[T,h2,g5] at this;simpa using this);subst hj;subst hd;by_cases hv:Vc C.n D=0
   ·obtain⟨m₂,B⟩:=h0 hv;refine s c (.refl C.Wg w) p qek (tag':=.ke) (.ke B) ?_ (.inl (qi0 (by simp only[phi];omega) d8));have e:st=0:=by rw[T,hv,g5];simp
    rw[e,h2];exact .fin trivial (allQuit_of ho hv)
   ·obtain⟨m₂,B⟩:=k8 hv;refine s c (.refl C.Wg w) p qek (tag':=.w2 (Vc C.n D)) (.w2 B) ?_ (.inl (qi0 (by simp only[phi];omega) d8));have e:st=((Vc C.n D+qqb (.w2 (Vc C.n D)):Nat):Int)*KK:=by rw[T,g5];rfl
    rw[e,h2];exact .opn trivial ho (λvs e=>by cases e;omega)
  ·obtain⟨v,w',R,c,F,o⟩:=f w (.refl w);rcases hf with hf | hf
   ·rcases a6 with rfl | rfl
    ·subst hj;subst hd;exact jX c F (.w1 o) (by omega)
    ·subst hj;subst hd;obtain⟨rfl,O⟩:=F;have S:=Ju O 1;obtain⟨Z,M,Q⟩:=h.ef H 0 (Aside.refl C.Wg w');obtain⟨l,I,z⟩:=h.step0 H sl c Z M (λe he=>⟨(xd H h (O e he)).1,(xd H h (O e he)).2.2.2⟩) (tag':=.w1) (by rw[S];exact .w1 o) p Q (k.reopen trivial trivial rfl (by simp));refine⟨l,w',_,I,IH _ _ _ _ _ _ _ _ _ _ _ _ _ _ z ?_⟩;unfold Cfg.big Cfg.low;refine q1p ?_;have:=qnq (show phi C.n (Vc C.n D) .w1<phi C.n (Vc C.n D) .anch by simp only[phi];omega) (show 0<C.nu C.l0+8 by omega);omega
   ·subst hf;subst hj;subst hd;obtain⟨rfl,O⟩:=F;have S:=Ju O 1;obtain⟨Z,M,Q⟩:=h.ef H 0 (Aside.refl C.Wg w');obtain⟨l,I,z⟩:=h.step0 H sl c Z M (λe he=>⟨(xd H h (O e he)).1,(xd H h (O e he)).2.2.2⟩) (tag':=.w1) (by rw[S];exact .w1 o) p Q (k.reopen trivial trivial rfl (by simp));refine⟨l,w',_,I,IH _ _ _ _ _ _ _ _ _ _ _ _ _ _ z ?_⟩;unfold Cfg.big Cfg.low;refine q1p ?_;have:=qnq (show phi C.n (Vc C.n D) .w1<phi C.n (Vc C.n D) .anch by simp only[phi];omega) (show 0<C.nu C.l0+8 by omega);omega
 cases n8 with
 | skd I G=>
  rcases qlf G with d | ⟨m',rfl,f⟩
  ·obtain⟨_,v,c,m₂,B⟩:=d w (.refl w);exact s c (.refl C.Wg w) p q1F (.sa1 I B) (k.reopen trivial trivial rfl (by simp)) (.inl (by simp only[phi];omega))
  ·obtain⟨v,w',R,c,F,o⟩:=f w (.refl w);exact jX c F (.skd I o) (by omega)
 | sa1 I G=>
  rename_i r
  rcases qlf G with d | ⟨m',rfl,f⟩
  ·obtain⟨_,Y⟩:=d w (.refl w);obtain⟨ho,rfl,rfl,_⟩:=k.open_inv trivial;obtain⟨v,c,m₂,B⟩:=Y (Vc (C.n - (r+1)) D) (by omega) (by simpa[qqb] using p);refine s c (qmv w (stA C.Wg) _) (p.setSt _) qcm (.ske I B) ?_ (.inl (by simp only[phi];omega));have e:(((Vc (C.n - (r+1)) D:Nat):Int)+1)*KK=((Vc (C.n - (r+1)) D+qqb (.sp r 3):Nat):Int)*KK:=by simp[qqb]
   rw[e];exact .opn trivial ho (by simp)
  ·obtain⟨v,w',R,c,F,o⟩:=f w (.refl w);exact jX c F (.sa1 I o) (by omega)
 | ske I G=>
  rcases qlf G with d | ⟨m',rfl,f⟩
  ·obtain⟨_,v,c,m₂,B⟩:=d w (.refl w);exact s c (.refl C.Wg w) p q5b (.sgo I B) (k.reopen trivial trivial rfl (by simp)) (.inl (by simp only[phi];omega))
  ·obtain⟨v,w',R,c,F,o⟩:=f w (.refl w);exact jX c F (.ske I o) (by omega)
 | sgo I G=>
  rename_i r
  rcases qlf G with d | ⟨m',rfl,f⟩
  ·obtain⟨_,v,p6,k6,m8,b8⟩:=d w (.refl w);have d6:=m8 h.ph ⟨_,h.data⟩;have eV:Vc (C.n - r) (upd D (C.n - (r+1)) ⟨7,0,0⟩)=Vc (C.n - (r+1)) D+1:=by
    rw[show C.n - r=C.n - (r+1)+1 by omega];simp only[Vc,qnp,qkH];rw[qqD D _ cnt (qhv _)];rfl
   have eS:Ssum (C.n - r) (upd D (C.n - (r+1)) ⟨7,0,0⟩)=Ssum (C.n - (r+1)) D+7:=by
    rw[show C.n - r=C.n - (r+1)+1 by omega];simp only[Ssum,qnp,qkH];rw[qqD D _ WD.stage (qhv _)]
   have eN:C.Nsum (C.n - r) (upd D (C.n - (r+1)) ⟨7,0,0⟩) (upd ls (C.n - (r+1)) C.l0)=C.Nsum (C.n - (r+1)) D ls+C.nu C.l0:=by
    rw[show C.n - r=C.n - (r+1)+1 by omega];simp only[Cfg.Nsum,qnp,qkH];rw[sumTo_congr (g:=λi=>C.nuD (D i,ls i)) λi hi=>by rw[qm0 _ _ (by omega),qm0 _ _ (by omega)]];simp[Cfg.nuD]
   have h8:∀{tag':CTag} {r':Rk} {f':Nat},(phi C.n (Vc (C.n - (r+1)) D+1) tag'+1<=phi C.n (Vc (C.n - (r+1)) D) (.sp r 2)) ->
     LtM C.n (C.big (C.n - r) (upd D (C.n - (r+1)) ⟨7,0,0⟩) (upd ls (C.n - (r+1)) C.l0) W tag',upd rk (C.n - (r+1)) r',C.low (C.n - r) (upd D (C.n - (r+1)) ⟨7,0,0⟩) fu f') (C.big (C.n - (r+1)) D ls W (.sp r 2),rk,C.low (C.n - (r+1)) D fu f0):=by
    intro tag' r' f' n2;refine q1p ?_;unfold Cfg.big;rw[eV,eS,eN];have:=Nat.mul_le_mul_left (C.nu C.l0+8) n2;rw[Nat.mul_add,Nat.mul_one] at this;omega
   cases r with
   | zero=>
    obtain⟨m₃,B⟩:=b8;obtain⟨l,A,r',N,z⟩:=h.spawn H I sl k6 d6 (tag':=.kd) (f':=m₃) (by rw[Nat.sub_zero];exact .kd B) trivial rfl (by simp);exact⟨l,w,A,N,IH _ _ _ _ _ _ _ _ _ _ _ _ _ _ z (h8 (by simp only[phi];omega))⟩
   | succ r2=>
    obtain⟨m₃,B⟩:=b8;obtain⟨l,A,r',N,z⟩:=h.spawn H I sl k6 d6 (tag':=.sp r2 5) (f':=m₃) (.skd (by omega) B) trivial rfl (by simp);exact⟨l,w,A,N,IH _ _ _ _ _ _ _ _ _ _ _ _ _ _ z (h8 (by simp only[phi];omega))⟩
  ·obtain⟨v,w',R,c,F,o⟩:=f w (.refl w);exact jX c F (.sgo I o) (by omega)
 | kd G=>
  rcases qlf G with d | ⟨m',rfl,f⟩
  ·obtain⟨_,v,c,m₂,B⟩:=d w (.refl w);exact s c (.refl C.Wg w) p q1F (.anch B) (k.reopen trivial trivial rfl (by simp)) (.inl (by simp only[phi];omega))
  ·obtain⟨v,w',R,c,F,o⟩:=f w (.refl w);exact jX c F (.kd o) (by omega)
 | anch G=>
  rcases qlf G with d | ⟨m',rfl,f⟩
  ·obtain⟨m₂,B⟩:=H.hAn a w (d w (.refl w));exact w1Step (.inr rfl) rfl rfl (.inr rfl) B
  ·obtain⟨v,w',R,c,F,o⟩:=f w (.refl w);exact jX c F (.anch o) (by omega)
 | w1 G=>exact w1Step (.inl rfl) rfl rfl (.inl rfl) G
 | w2 G=>
  rename_i vs
  rcases qlf G with d | ⟨m',rfl,f⟩
  ·obtain⟨_,Y⟩:=d w (.refl w);obtain⟨ho,rfl,rfl,m9⟩:=k.open_inv trivial;obtain⟨n3,T⟩:=m9 vs rfl;obtain⟨l4,g6⟩:=Y (Vc C.n D) (by omega) (by simpa[qqb] using p);by_cases e:Vc C.n D=vs
   ·obtain⟨v,c,m₂,B⟩:=l4 e;exact s c (qmv w (stA C.Wg) _) (p.setSt _) qcm (.w3 B) (.reg trivial ho (by omega)) (.inl (by simp only[phi];omega))
   ·obtain⟨v,c,m₂,B⟩:=g6 e;exact s c (.refl C.Wg w) p qek (.anch B) (k.reopen trivial trivial rfl (by simp)) (.inl (by simp only[phi];omega))
  ·obtain⟨v,w',R,c,F,o⟩:=f w (.refl w);exact jX c F (.w2 o) (by omega)
 | w3 G=>
  rcases qlf G with d | ⟨m',rfl,f⟩
  ·obtain⟨_,q1,e5,e8⟩:=d w (.refl w);cases k with
   | opn T _ _=>exact T.elim
   | reg T h2 h3=>exact s (e5 ⟨_,p⟩) (.refl C.Wg w) p (by simp) (.blk d) (.reg trivial h2 h3) (.inr ⟨rfl,by omega⟩)
   | last L T h2 h3 h4=>exact s (e5 ⟨_,p⟩) (.refl C.Wg w) p (by simp) (.blk d) (.last L trivial h2 h3 h4) (.inr ⟨rfl,by omega⟩)
   | sema h2=>
    obtain⟨v,c,m₂,B⟩:=e8 p;exact s c (qmv w (smA C.Wg) _) (p.setSm 0) qej (.w4 B) (.fin trivial h2) (.inl (by simp only[phi];omega))
   | fin T _=>exact T.elim
  ·obtain⟨v,w',R,c,F,o⟩:=f w (.refl w);exact jX c F (.w3 o) (by omega)
 | blk G=>simp at k7
 | w4 G=>
  rcases qlf G with d | ⟨m',rfl,f⟩
  ·obtain⟨_,hx⟩:=d w (.refl w);obtain⟨hq,rfl,rfl⟩:=k.fin_inv trivial;obtain⟨v,c,m₂,B⟩:=hx p;exact s c (.refl C.Wg w) p qek (.ke B) (.fin trivial hq) (.inl (by simp only[phi];omega))
  ·obtain⟨v,w',R,c,F,o⟩:=f w (.refl w);exact jX c F (.w4 o) (by omega)
 | ke G=>
  rcases qlf G with d | ⟨m',rfl,f⟩
  ·obtain⟨_,v,c,m₂,B⟩:=d w (.refl w);obtain⟨hq,rfl,rfl⟩:=k.fin_inv trivial;exact s c (.refl C.Wg w) p q5b (.acq B) (.fin trivial hq) (.inl (by simp only[phi];omega))
  ·obtain⟨v,w',R,c,F,o⟩:=f w (.refl w);exact jX c F (.ke o) (by omega)
 | acq G=>
  rcases qlf G with d | ⟨m',rfl,f⟩
  ·obtain⟨_,v,c,l6⟩:=d w (.refl w);obtain⟨hq,rfl,rfl⟩:=k.fin_inv trivial;have N:=qnd (P:=C.P) (sl:=sl) (i:=0) h.main c;refine⟨_,_,_,N,?_⟩;have n7:∀i,i<C.n->C.fin (ls i):=λi hi=>by
    obtain⟨g,_,hs⟩:=h.wk i hi;exact hs.fin_of (by rw[hq i hi];omega)
   have hE:=H.hFin W ls v w l6 h.jj n7 h.data h.ph;have q4:=H.hlo;have M:((gs.map (qre C.P a v w)).setIfInBounds 0 v).size=gs.size:=by simp
   have d5:0<gs.size:=by rw[h.size];omega
   have e1:qkf 0 a.frame.fn a.frame.place #[qkn (.acquire (stA C.Wg))]=#[{ g:=0,fn:=a.frame.fn,pos:=a.frame.place,act:=.mark (.acquire (stA C.Wg)) }]:=by rw[qmF];simp[ofEvent_mk]
   rw[e1];generalize hy:({ g:=0,fn:=a.frame.fn,pos:=a.frame.place,act:=.mark (.acquire (stA C.Wg)) }:qq6)=y;have c8:y.g=0:=by rw[<- hy]
   have b0:y.act=.mark (.acquire (stA C.Wg)):=by rw[<- hy]
   have d9:∀op∈#[y],op.g=0:=λop u=>by simp at u;rw[u];exact c8
   have e6:(t++#[y])[t.size]?=some y:=by simp
   have S:∀g,qqa (t++#[y]) g=qqa t g:=λg=>Deaf_still t g _ λop u=>by simp at u;rw[u,b0];simp
   have e7:Tr cl gs.size w.heap.size (t++#[y]):=h.tr.step d5 λop u=>by
    simp at u;rw[u];exact⟨c8,λx hx=>by rw[b0] at hx;cases hx⟩
   have l5:∀m,Hd m (t++#[y]):=λm=>by
    refine Hd.join (lo:=C.lo) (q:=t.size) (h.hd.app λop u=>.inl (d9 op u)) (λg hg k8 ⟨i,hi⟩=>?_) ((h.nor _).app λop u hm=>by simp at u;rw[u,b0] at hm;cases hm) (by rw[act?_of e6,b0]) (by rw[q1w e6,c8])
     ⟨0,by rw[q1w e6,c8],by rw[deaf_old (qhv _)];exact h.deaf0⟩ m
    obtain⟨op,ho,rfl⟩:=qm7.1 hi;have V:=e7.gs i op ho;rw[h.size] at V;obtain⟨r,I⟩:=h.rel (op.g - C.lo) (by omega) (by rw[hq _ (by omega)];omega);rw[show C.lo+(op.g - C.lo)=op.g by omega] at I;exact⟨r,I.appOther d9 (by omega),lt_of_act? I.act⟩
   refine hE _ sl _ (λi=>if i<C.lo then fu i else(D (i - C.lo)).fuel) ⟨qma _ _ _ d5,λi T h2=>?_,?_,λb hb=>?_,?_,l5 _,λad=>?_⟩
   ·rw[M] at h2;by_cases hl:i<C.lo
    ·obtain⟨x,hx,b6⟩:=h.lv i T hl;refine⟨x,by rw[qlr _ _ _ _ (by omega),hx,qjh,qn1 b6],?_⟩;rw[if_pos hl,S];exact b6
    ·have V:i - C.lo<C.n:=by rw[h.size] at h2;omega
     obtain⟨x,hx,m7⟩:=h.wk (i - C.lo) V;have k5:=h.wd (i - C.lo) V;rw[show C.lo+(i - C.lo)=i by omega] at hx k5;have b6:qpf C.P (D (i - C.lo)).fuel (D (i - C.lo)).deaf x:=by
      have T:=hq _ V;generalize D (i - C.lo)=dd at *
      obtain⟨s1,f1,d1⟩:=dd;dsimp only at *
      subst T;cases m7 with
      | quit _ h=>exact h
     refine⟨x,by rw[qlr _ _ _ _ (by omega),hx,qjh,qn1 b6],?_⟩;rw[if_neg hl,S,k5];exact b6
   ·rw[M];refine e7.recl (λb hb=>?_);by_cases hs:cl b=.sync
    ·left;rw[hs];have g7:b<C.W1.heap.size:=qpx λn6=>h.cln b n6 hs;unfold flat;rw[<- h.cla b g7,hs]
    ·right;right;left;refine⟨hs,?_,λi x hx n9=>e7.known0 (l5 gs.size) (qhv _) hx n9 hs⟩;unfold flat;by_cases g7:b<C.W1.heap.size
     ·rw[<- h.cla b g7];cases hc:cl b<;>first | rfl | exact absurd hc hs
     ·cases hc:C.clA b with
      | sync=>rw[H.cla0 b (by omega)] at hc;cases hc
      | _=>rfl
   ·unfold flat;rw[H.cla0 b (qhB h.ph.size hb)]
   ·rw[S];exact h.deaf0
   ·exact(h.nor ad).app λop u hm=>by simp at u;rw[u,b0] at hm;cases hm
  ·obtain⟨v,w',R,c,F,o⟩:=f w (.refl w);exact jX c F (.acq o) (by omega)
def KC(H:C.Ok)(h:Inv C gs w t j D ls Ss rk W tag f0 d0 a st sm cl fu)(sl:Option (Nat × Nat)):Ends C.P C.Post (qlk gs w sl) t:=by
 have F:∀(Z:Me) (gs:Array qhw) (w:qhr) (t:qp6) (j:Nat) (D:Nat->WD) (ls:Nat->X) (Ss:Nat->Bs) (rk:Nat->Rk) (W:U) (tag:CTag) (f0 d0:Nat) (a:qhw) (st sm:Int) (cl:Nat->Cl) (fu:Nat->Nat) (sl:Option (Nat × Nat)),
   Inv C gs w t j D ls Ss rk W tag f0 d0 a st sm cl fu->Z=(C.big j D ls W tag,rk,C.low j D fu f0)->Ends C.P C.Post (qlk gs w sl) t:=by
  intro Z;induction Z using(qfv C.n).induction with
  | _ Z G=>
   intro gs w t j D ls Ss rk W tag f0 d0 a st sm cl fu sl h hμ;subst hμ;have⟨i,g,d,f,u,l,b⟩:=qr2 (P:=C.P) (w:=w) (sl:=sl) (h.awake H) (h.someone H);have M:=h.at H d;have o:=(qhs.1 u).1;rw[h.size] at o;by_cases V:i=0
   ·subst V;rw[h.main] at u;cases u;have⟨k,w',v,y,L⟩:=M.starter H l f λk w' B Q O r s p tag' z Y A st' sm' c o=>G _ o k w' B Q O r s p W tag' z Y A st' sm' cl fu f c rfl;exact Ends.next (b.trans y) L
   ·rcases qjy i C.lo with I | I
    ·have⟨k,v,q,tag',z,A,y,R,hf,x,c⟩:=M.leave H f (by omega) I u l;refine Ends.next (b.trans y) (G _ ?_ _ _ _ _ _ _ _ _ _ _ _ _ _ _ _ _ _ f c rfl)
     have e:=phi_retag C.n (Vc j D) x;unfold Cfg.big Cfg.low;rw[e];have:=q2c I R;exact q7n rfl (by
      have e2:(qnp C.lo λa=>upd fu i q a)=qnp C.lo (upd fu i q):=rfl;omega)
    ·have S:i - C.lo<j:=by omega
     have T:C.lo+(i - C.lo)=i:=by omega
     rw[<- T] at u b;have⟨k,w',v,y,L⟩:=M.worker H S u l f λk w' B O r s p γ' tag' z A st' sm' N c o=>G _ o k w' B j O r s p γ' tag' z d0 A st' sm' N fu f c rfl;exact Ends.next (b.trans y) L
 exact F _ gs w t j D ls Ss rk W tag f0 d0 a st sm cl fu sl h rfl
end
def E.crowd{U X:Type}{P:qhF}{d:qhu->qhr->Prop}{cl:Nat->Cl}{a:qhw}{w:qhr}(L:∀x,1<=x->∃C:Cfg U X,C.P=P/\C.Post=d/\C.lo=x/\C.W1=w/\C.Ok/\(∀b,b<w.heap.size->C.clA b=cl b\/(cl b=.mine 0/\C.clA b=.ro x))/\C.Spawns C.n a w/\qo7 C.ty C.Wg w 0 0/\∃W ls,C.DataAt W w/\C.J W 0 ls):E P d cl a w:=by
 intro gs I t fu g;have M:=(qhs.1 g.main).1;obtain⟨C,rfl,rfl,k,q,H,F,c,y,W,ls,l,hJ⟩:=L gs.size (by omega);have z:Tr C.clA gs.size w.heap.size t:=g.tr.recl λb p=>by
  rcases F b p with e | ⟨O,N⟩
  ·exact .inl e
  ·exact .inr (.inl ⟨O,N⟩)
 have f:∀tag,isOpen tag->qqb tag=0->(∀h,tag≠.w2 h)->qnf 0 (λ_=>(⟨0,0,0⟩:WD)) tag 0 0:=λtag s v G=>by
  have:=Go.ConcN.Mode.opn (j:=0) (D:=λ_=>(⟨0,0,0⟩:WD)) s (λi u=>by omega) (λh e=>absurd e (G h));simpa[Vc,qnp,v] using this
 have base:∀tag f0,C.CS tag 0 f0 0 a w->isOpen tag->qqb tag=0->(∀h,tag≠.w2 h)->Inv C gs w t 0 (λ_=>⟨0,0,0⟩) ls (λ_ _=>False) (λ_=>.leaf) W tag f0 0 a 0 0 C.clA fu:=λtag f0 B s v G=>
  ⟨by rw[k,Nat.add_zero],g.main,B,λi s v=>g.lv i s (by omega),λi u=>by omega,λi u=>by omega,λi u=>by omega,z,λi u=>by omega,λb p=>H.cla0 b (by rw[q];exact p),λb _=>rfl,λb p=>by rw[H.cla0 b p];simp,
   g.nor,g.d0,by rw[k];exact g.hd,l,hJ,⟨λb _=>by rw[q],by rw[q];exact qhv _,by rw[q],by rw[q]⟩,y,f tag s v G⟩
 cases hn:C.n with
 | zero=>
  rw[hn] at c;obtain⟨m,A⟩:=c;have o:C.CS .kd C.n m 0 a w:=.kd A;rw[hn] at o;exact KC H (base .kd m o trivial rfl (by simp)) I
 | succ r=>
  rw[hn] at c;obtain⟨m,A⟩:=c;have o:C.CS (.sp r 5) (C.n - (r+1)) m 0 a w:=.skd (by omega) A;rw[hn,Nat.sub_self] at o;exact KC H (base (.sp r 5) m o trivial rfl (by simp)) I
end
section
open Go.Conc Go.ConcN Go.Sim
def q5g(R:Act->qhr->Prop):Exit->Act->qhr->Prop
 | .normal,a,w=>R a w
 | _,_,_=>False
def K5{R:Act->qhr->Prop}:¬ LetsOut (q5g R):=λ⟨_,_,h⟩=>h
def q7e{Q:qhF}{ops:Array qjn}{R:Act->qhr->Prop}(rest:List Nat)(l:List Nat):∀(a:Act) (w:qhr),qrB Q ops (q5g R) l a w->∀(b:qhG) (k:List qlG) (cs:List qhG),∃n q,R n q/\Steps Q (lone (b.at a (.inRegion ops (l++rest)::k)) cs w) (lone (b.at n (.inRegion ops rest::k)) cs q):=by
 induction l with
 | nil=>exact λa w h b k cs=>⟨a,w,h,.refl _ _⟩
 | cons i l y=>
  intro a w h b k cs;simp only[qrB] at h;cases ho:ops[i]? with
  | none=>
   simp only[ho] at h;have⟨n,q,s,c⟩:=y a w h b k cs;have hs:=step_op_skip (P:=Q) (b:=b) (a:=a) (k:=k) (cs:=cs) (w:=w) (ops:=ops) (i:=i) (rest:=l++rest) (by simp[ho]);simp only[ho,Option.bind_none,Act.put] at hs;exact⟨n,q,s,.head hs c⟩
  | some o=>
   simp only[ho] at h;by_cases C:qip o (qjt ops a.tmps)=true
   ·simp only[C,if_true] at h;rcases h with h | ⟨_,z⟩
    case inr=>exact absurd z K5
    simp only[Oper.wp,Oper.upon] at h;have A:=stepG_op (P:=Q) (b:=b) (k:=k) (cs:=cs) (w:=w) (rest:=l++rest) ho C;have r:∀v,(b.at a (.inRegion ops (i::(l++rest))::k)).finish v=b.at (a.put o.dst v) (.inRegion ops (l++rest)::k):=by
     intro v;rw[qkj,ho];rfl
    split at h
    ·rename_i v q u
     have⟨n,p,s,c⟩:=y _ _ h b k cs;exact⟨n,p,s,.head (qok (by rw[qi7,A,<- r];simp[qji,u])) c⟩
    ·rename_i q u
     have⟨n,p,s,c⟩:=y _ _ h b k cs;exact⟨n,p,s,.head (qok (by rw[qi7,A,<- r];simp[qji,u])) c⟩
    ·rename_i d q u
     have⟨n,p,s,c⟩:=y _ _ h b k cs;refine⟨n,p,s,.head (qok ?_) c⟩;have:({ b.at a (.inRegion ops (i::(l++rest))::k) with defers:=d::a.defers }:qhG).finish qhx =
       b.at ({ a with defers:=d::a.defers }.put o.dst qhx) (.inRegion ops (l++rest)::k):=by
      have:=qkj b { a with defers:=d::a.defers } ops i (l++rest) k qhx;rw[ho] at this;exact this
     rw[qi7,A];simp only[qji,qiw,u,GStep.bare_after];exact congrArg (λH=>qqe { frame:=H,callers:=cs,status:=.running,dying:=none } q) this
    ·rename_i f t q u
     have⟨e,p,H,B,g,_,x⟩:=h (b.at a (.inRegion ops (i::(l++rest))::k)::cs);have j:step Q (lone (b.at a (.inRegion ops (i::(l++rest))::k)) cs w) =
       .next (lone (qiz Q f t .normal) (b.at a (.inRegion ops (i::(l++rest))::k)::cs) q) :=
      qok (by rw[A];simp[qji,u,Frame.at])
     cases e with
     | returned v=>
      have⟨n,w₃,s,c⟩:=y _ _ B b k cs;refine⟨n,w₃,s,.head j (Steps.trans g (.head ?_ c))⟩;rw[<- r];exact qqu x
     | panicked G=>exact B.elim
     | outgrown=>exact absurd B K5
    ·rename_i F t q u
     have⟨v,p,B,g⟩:=h (b.at a (.inRegion ops (i::(l++rest))::k)) cs;have j:step Q (lone (b.at a (.inRegion ops (i::(l++rest))::k)) cs w) =
       .next (lone (Frame.ofRow Q F t .normal) (b.at a (.inRegion ops (i::(l++rest))::k)::cs) q) :=
      qok (by rw[A];simp[qji,u,Frame.at])
     have⟨n,w₃,s,c⟩:=y _ _ B b k cs;refine⟨n,w₃,s,.head j (Steps.trans ?_ c)⟩;rw[<- r];exact g
    ·exact h.elim
    ·exact h.elim
   ·simp only[C,if_false,qiv] at h;have⟨n,q,s,c⟩:=y _ _ h b k cs;have hs:=step_op_skip (P:=Q) (b:=b) (a:=a) (k:=k) (cs:=cs) (w:=w) (ops:=ops) (i:=i) (rest:=l++rest) (by simp[ho];simpa using C);simp only[ho,qnw] at hs;exact⟨n,q,s,.head hs c⟩
def q8v{Q:qhF}{o:qjn}{a:Act}{w:qhr}{K i:Act->qhr->Prop}{R:Exit->Act->qhr->Prop}(c:∀a w,K a w->i a w)(h:o.wp Q a w K R):o.wp Q a w i R:=by
 unfold Oper.wp at h ⊢;unfold Oper.upon at h ⊢;generalize (qkA a.eval o).run Q w=r at h ⊢;cases r with
 | ok x j=>
  cases x with
  | value v=>exact c _ _ h
  | skip=>exact c _ _ h
  | defer d=>exact c _ _ h
  | enter f g=>exact Calls.mono h λe w q=>by cases e<;>first | exact c _ _ q | exact q
  | row r g=>exact Rows.mono h λv w q=>c _ _ q
  | _=>exact h.elim
 | halt x j=>cases x<;>first | exact h | exact h.elim
def QW{Q:qhF}{c:Array qjn}{R:Exit->Act->qhr->Prop}:∀(l:List Nat) (d:List qjn) (a:Act) (w:qhr),l.map (λi=>c[i]?)=d.map some->wpList Q c R d a w->qrB Q c R l a w
 | [],[],a,w,_,h=>h
 | [],_::_,_,_,e,_=>by simp at e
 | _::_,[],_,_,e,_=>by simp at e
 | i::l,o::d,a,w,e,h=>by
  simp only[qll,qkG] at e;simp only[qrB,e.1];simp only[wpList] at h;have g:∀a w,wpList Q c R d a w->qrB Q c R l a w:=λa w=>QW l d a w e.2;split
  ·rename_i j
   rw[if_pos j] at h;exact h.imp (λh=>q8v g h) id
  ·rename_i j
   rw[if_neg j] at h;exact g _ _ h
section
variable[JunkSet]{Q P:qhF}{f:qj8}{Post:qhu->qhr->Prop}{W:qhr}
variable{b:qhG}{a:Act}{k:List qlG}{cs:List qhG}{wq:qhr}
def EL.one(D:Two Q P){g c:qhG}{d:List qhG}{fn:qj8}(j:EL Q P f Post W (G c d) wq)(h:∀w,step Q (lone g cs w)=.next (lone c d w))(e:Bot f d)(i:c.fn=fn)(hs:Q.funcs[fn]?=P.funcs[fn]?):EL Q P f Post W (G g cs) wq :=
 EL.of_runs D λT=>⟨c,d,wq.tp T,.one (h _),e,by rw[i];exact hs,j.tape T⟩
section
variable(D:Two Q P)(hb:Bot f cs)(hs:Q.funcs[b.fn]?=P.funcs[b.fn]?)
include D hb hs
theorem EL.seq{x y:qkh}(h:EL Q P f Post W (G (b.at a (.code x::.code y::k)) cs) wq):EL Q P f Post W (G (b.at a (.code (.seq x y)::k)) cs) wq:=EL.one D h (λ_=>step_seq) hb (fn:=b.fn) rfl hs
theorem EL.sp{x y:qkh}(h:∀T,x.wp Q (qg8 Q P f Post W b (.code y::k) cs) a (wq.tp T)):EL Q P f Post W (G (b.at a (.code (.seq x y)::k)) cs) wq:=EL.seq D hb hs (EL.piece D hb hs h)
theorem EL.skip(h:EL Q P f Post W (G (b.at a k) cs) wq):EL Q P f Post W (G (b.at a (.code .skip::k)) cs) wq:=EL.one D h (λ_=>step_skip) hb (fn:=b.fn) rfl hs
theorem EL.cond{c:qiy}{x y:qkh}(t:Bool)(d:a.eval c=.bool t)(h:EL Q P f Post W (G (b.at a (.code (if t then x else y)::k)) cs) wq):EL Q P f Post W (G (b.at a (.code (.cond c x y)::k)) cs) wq:=EL.one D h (λ_=>step_cond d) hb (fn:=b.fn) rfl hs
theorem EL.block{id:Nat}{c:qkh}(h:EL Q P f Post W (G (b.at a (.code c::.inBlock id::k)) cs) wq):EL Q P f Post W (G (b.at a (.code (.block id c)::k)) cs) wq:=EL.one D h (λ_=>step_block) hb (fn:=b.fn) rfl hs
theorem EL.inBlock{id:Nat}(h:EL Q P f Post W (G (b.at a k) cs) wq):EL Q P f Post W (G (b.at a (.inBlock id::k)) cs) wq:=EL.one D h (λ_=>step_inBlock) hb (fn:=b.fn) rfl hs
theorem EL.loop{c:qkh}(h:EL Q P f Post W (G (b.at a (.code c::.inLoop c::k)) cs) wq):EL Q P f Post W (G (b.at a (.code (.loop c)::k)) cs) wq:=EL.one D h (λ_=>step_loop) hb (fn:=b.fn) rfl hs
theorem EL.inLoop{c:qkh}(h:EL Q P f Post W (G (b.at a (.code c::.inLoop c::k)) cs) wq):EL Q P f Post W (G (b.at a (.inLoop c::k)) cs) wq:=EL.one D h (λ_=>step_inLoop) hb (fn:=b.fn) rfl hs
theorem EL.exit{id:Nat}{c:List qlG}(d:qno id k=some c)(h:EL Q P f Post W (G (b.at a c) cs) wq):EL Q P f Post W (G (b.at a (.code (.exit id)::k)) cs) wq:=EL.one D h (λ_=>step_exit d) hb (fn:=b.fn) rfl hs
theorem EL.retS(h:EL Q P f Post W (G { b.at a (.code .ret::k) with mode:=.returning } cs) wq):EL Q P f Post W (G (b.at a (.code .ret::k)) cs) wq:=EL.one D h (λ_=>step_ret) hb (fn:=b.fn) rfl hs
theorem EL.region{id:Nat}{c:Array qjn}(h:EL Q P f Post W (G (b.at a (.inRegion c (qil c.size)::k)) cs) wq):EL Q P f Post W (G (b.at a (.code (.region id c false)::k)) cs) wq:=EL.one D h (λ_=>step_region) hb (fn:=b.fn) rfl hs
theorem EL.region_end{c:Array qjn}(h:EL Q P f Post W (G (b.at a k) cs) wq):EL Q P f Post W (G (b.at a (.inRegion c []::k)) cs) wq:=EL.one D h (λ_=>step_region_end) hb (fn:=b.fn) rfl hs
theorem EL.list{c:Array qjn}(l:List Nat)(e:List qjn){rest:List Nat}(n:l.map (λi=>c[i]?)=e.map some)(h:∀T,wpList Q c (q5g λj d=>EL Q P f Post W (G (b.at j (.inRegion c rest::k)) cs) d) e a (wq.tp T)) :EL Q P f Post W (G (b.at a (.inRegion c (l++rest)::k)) cs) wq :=
 EL.of_runs D λT=>by
  have⟨j,d,o,g⟩:=q7e rest l a (wq.tp T) (QW l e a _ n (h T)) b k cs;exact⟨_,cs,d,g,hb,hs,o⟩
theorem EL.enter{c:Array qjn}{i:Nat}{rest:List Nat}{o:qjn}{fk:qj8}{args:Array qhu}(j:c[i]?=some o)(g:qip o (qjt c a.tmps)=true)(d:∀T,(qkA a.eval o).run Q (wq.tp T)=.ok (.enter fk args) (wq.tp T))(e:Q.funcs[fk]?=P.funcs[fk]?)(h:EL Q P f Post W (G (qiz Q fk args .normal) (b.at a (.inRegion c (i::rest)::k)::cs)) wq):EL Q P f Post W (G (b.at a (.inRegion c (i::rest)::k)) cs) wq :=
 EL.of_runs D λT=>by
  have n:=stepG_op (P:=Q) (b:=b) (k:=k) (cs:=cs) (w:=wq.tp T) (rest:=rest) j g;exact⟨_,_,wq.tp T,.one (qok (by rw[n];simp[qji,d,Frame.at])),hb.cons,e,h.tape T⟩
end
def EL.back(D:Two Q P){d c:qhG}{v:qhu}(hb:Bot f cs)(hs:Q.funcs[c.fn]?=P.funcs[c.fn]?)(e:∀T,d.leaving Q (wq.tp T) (.returned v))(h:EL Q P f Post W (G (c.finish v) cs) wq):EL Q P f Post W (G d (c::cs)) wq :=
 EL.of_runs D λT=>⟨_,cs,wq.tp T,.one (qqu (e T)),hb,by
  have:(c.finish v).fn=c.fn:=by unfold qpF;split<;>rfl
  rw[this];exact hs,h.tape T⟩
def EC(Q P:qhF)(f:qj8)(Post:qhu->qhr->Prop)(W:qhr)(e:qj8)(d:Array qhu)(wq:qhr)(R:qhu->qhr->Prop):Prop :=
 ∀c cs,Bot f cs->Q.funcs[c.fn]?=P.funcs[c.fn]?->(∀v u,R v u->EL Q P f Post W (G (c.finish v) cs) u)->EL Q P f Post W (G (qiz Q e d .normal) (c::cs)) wq
def EC.of_body(D:Two Q P){j:qj8}{i:Func}{o:qkh}{d:Array qhu}{R:qhu->qhr->Prop}(p:Q.funcs[j]?=some i)(t:P.funcs[j]?=some i)(n:i.body=some o)(h:∀cs,Bot f cs->(∀a g u v,a.defers=[]->(∀T,(qke i a.tmps).run Q (u.tp T)=.ok v (u.tp T))->R v u->EL Q P f Post W (G { (base j).at a g with mode:=.returning } cs) u) ->EL Q P f Post W (G ((base j).at ⟨d++qiE (i.ntmps - d.size) qhx,[]⟩ [.code o]) cs) wq):EC Q P f Post W j d wq R:=by
 intro c cs hb hs q;have e:qiz Q j d .normal=(base j).at ⟨d++qiE (i.ntmps - d.size) qhx,[]⟩ [.code o]:=by
  simp[qiz,p,n,Frame.at,base]
 rw[e];refine h (c::cs) hb.cons λa g u v r l s=>EL.back D hb hs (λT=>⟨rfl,r,rfl,i,p,l T⟩) (q v u s)
end
end
section
open Go.Conc Go.ConcN Go.Sim
section
variable[J:JunkSet]{Q P:qhF}{f:qj8}{Post:qhu->qhr->Prop}{W:qhr}
structure AtK(Q P:qhF)[JunkSet](W:qhr)(Z:Ren)(tq tp:Array qhu)(c c':qhG)(pre pre':List qhG)(wq w:qhr)(cl:Nat->Cl):Prop where
 wr:WR Q W.heap.size Z wq w
 ln:W.heap.size<=Z.length
 gl:Gl P Z
 tm:AsR Z tq tp
 top:qw Q P Z c c'
 rest:LsR (qw Q P Z) pre pre'
 own:kX cl Z
 c0:∀b,w.heap.size<=b->cl b=.mine 0
 kp:kl W.heap.size W.heap.size W Z w
 om:∀b,b<W.heap.size->cl b=.mine 0
def EL.enterK(D:Two Q P){b:qhG}{a:Act}{k:List qlG}{cs:List qhG}{s:qhr}(hb:Bot f cs)(hs:Q.funcs[b.fn]?=P.funcs[b.fn]?){j:Array qjn}{i:Nat}{rest:List Nat}{o:qjn}{q:qj8}{fq z:Func}{c0:qkh}{l:Array qhu}(ho:j[i]?=some o)(hw:qip o (qjt j a.tmps)=true)(L:∀T,(qkA a.eval o).run Q (s.tp T)=.ok (.enter q l) (s.tp T))(N:Q.funcs[q]?≠P.funcs[q]?)(b8:Q.funcs[q]?=some fq)(b9:P.funcs[q]?=some z)(hn:fq.ntmps=z.ntmps)(c8:z.body=some c0)(hK:∀Z tp c' pre p w I,cs=pre++[ql f]->AtK Q P W Z (l++qiE (z.ntmps - l.size) qhx) tp (b.at a (.inRegion j (i::rest)::k)) c' pre p s w I->E P Post I (G ((base q).at ⟨tp,[]⟩ [.code c0]) (c'::p)) w) :EL Q P f Post W (G (b.at a (.inRegion j (i::rest)::k)) cs) s:=by
 intro Z g' w I h b6 hc hk hm
 let g1:qhw:=G (qiz Q q l .normal) (b.at a (.inRegion j (i::rest)::k)::cs)
 let F:qhw->qhr->Prop:=λg _=>g.frame.fn=q/\g.callers≠[]
 have A:∀T,∃C,qj5 Q true (G (b.at a (.inRegion j (i::rest)::k)) cs) (s.tp T) true=.go g1 (s.tp T) C:=λT=>by
  have U:=stepG_op (P:=Q) (b:=b) (k:=k) (cs:=cs) (w:=s.tp T) (rest:=rest) ho hw;refine⟨?_,?_⟩;rotate_left
  ·refine Eq.trans (b:=qji Q true (b.at a (.inRegion j (i::rest)::k)) cs none (qkA a.eval o) (s.tp T)) U ?_;simp only[qji,qiw,L];rfl
 have R:¬ F (G (b.at a (.inRegion j (i::rest)::k)) cs) s:=λ⟨h1,_⟩=>N (by have e:b.fn=q:=h1;rw[<- e];exact hs);have ht:LT Q F (G (b.at a (.inRegion j (i::rest)::k)) cs) s:=.step R (λT=>by
   have⟨C,e⟩:=A T;exact⟨g1,_,C,e,rfl,rfl⟩) λT g2 u2 l5 e2=>by
   have⟨C,e⟩:=A T;rw[e] at e2;cases e2;exact .done ⟨rfl,by show(_::_:List qhG)≠[];simp⟩
 have v:Sub Q P W.heap.size F f [] Z (G (b.at a (.inRegion j (i::rest)::k)) cs) s g' w:=⟨h.ln,h.wr,h.gl,ht,h.stack,h.rel⟩;refine E.step (ve v) λd=>?_;have⟨O,g2,g6,k8,Y,C,h1,h2,h3,h4,_,n⟩:=(q2d v d).stepK D.H D.hrf Qa R true (λg u U=>U.2);obtain⟨_,T,l6,X⟩:=h2;have⟨l7,e0⟩:=A T;dsimp only at X;rw[e0] at X;cases X;have M:kX I O:=b6.step (w:=w.at d) h3 hc;have c3:∀b,Y.heap.size<=b->I b=.mine 0:=λb hb=>hc b (qhB h3.size hb);have b7:kl W.heap.size W.heap.size W O Y:=kl.step (w:=w.at d) (hk.at d) h3;rcases n with n | ⟨V,kd,a1,r,c,c',pre,p,n,S,rfl⟩
 ·exfalso;have⟨gv,U,_⟩:=n.rel;have⟨gf,k1,k2⟩:=U.frame.same;exact N (by
   have e:g1.frame.fn=q:=rfl;rw[e] at k1 k2;rw[k1,k2])
 ·refine⟨_,Y,C,h1,h3.size,λe he=>vm M n.wr (h4 e he),?_⟩;have B:qiz Q q l .normal=qiz Q V a1 kd:=congrArg (·.frame) S;have t:b.at a (.inRegion j (i::rest)::k)::cs=c::(pre++[ql f]):=congrArg (·.callers) S;have X:q=V:=congrArg (·.fn) B;subst X;have e2:CallKind.normal=kd:=congrArg (·.kind) B;subst e2;have e3:l++qiE (z.ntmps - l.size) qhx=a1++qiE (z.ntmps - a1.size) qhx:=by
   have:=congrArg (·.tmps) B;simp only[qiz,b8,qjh,qhC,hn] at this;exact this
  simp only[qkG] at t;obtain⟨rfl,t⟩:=t;have e4:qiz P q r .normal=(base q).at ⟨r++qiE (z.ntmps - r.size) qhx,[]⟩ [.code c0]:=enter_at _ b9 c8;have e5:r.size=a1.size:=n.args.1.symm;have:=hK O (r++qiE (z.ntmps - r.size) qhx) c' pre p Y I t ⟨⟨n.wr.len,n.wr.nodup,n.wr.lt,n.wr.obj,n.wr.low,n.wr.env,n.wr.below,n.wr.gar⟩,n.len,n.gl,?_,n.top,n.rest,M,c3,b7,hm⟩
  ·rw[e4,List.append_nil];exact this
  ·rw[e3,e5];refine AsR.append n.args ⟨rfl,λi x y hx hy=>?_⟩;rw[hx] at hy;cases hy;have:x=qhx:=by
    have:=qhs.1 hx;obtain⟨hl,he⟩:=this;simp at he;exact he.symm
   rw[this];exact kC _
def EL.resume{O Z:Ren}{c i:qhG}{pre a:List qhG}{o w:qhr}{e:Nat->Cl}{v h:qhu}(q:EL Q P f Post W (G (c.finish v) (pre++[ql f])) o)(l:Q.inits.idxOf? f=none)(n:∃g,Q.funcs[f]?=some g/\P.funcs[f]?=some g)(d:Le Z O)(x:qw Q P Z c i)(p:LsR (qw Q P Z) pre a)(u:VR O v h)(t:WR Q W.heap.size O o w)(j:W.heap.size<=O.length)(B:Gl P Z)(y:kX e O)(A:∀b,w.heap.size<=b->e b=.mine 0)(z:kl W.heap.size W.heap.size W O w)(hm:∀b,b<W.heap.size->e b=.mine 0):E P Post e (G (i.finish h) a) w:=by
 refine q O (G (i.finish h) a) w e ⟨t,j,B.mono d,⟨pre,rfl⟩,G (i.finish h) (a++[ql f]),⟨(x.mono d).finish u,?_,rfl,rfl,rfl,rfl⟩,?_⟩ y A z hm
 ·have D:LsR (qw Q P O) pre a:=p.imp λ_ _ k=>k.mono d;have C:qw Q P O (ql f) (ql f):=q31 l n;show LsR (qw Q P O) (pre++[ql f]) (a++[ql f]);clear q p;induction D with
  | nil=>exact .cons C .nil
  | cons s _ r=>exact .cons s r
 ·simp[swap,G]
end
end
section
open Go.Conc Go.ConcN Go.Sim
def Closed(ops:Array qjn)(listed:Array Bool):Prop:=∀(i:Nat) (o:qjn),ops[i]?=some o->listed[i]?.getD false=true->∀e∈o.after,qj0 .any e=true->listed[e.on]?.getD false=true
def jX(o:qjn):qjn:={ dst:=none,op:=.move (.const (.bool true)),type:=o.type,pos:=o.pos,after:=o.after,guard:=none }
def chainB(ops:Array qjn)(n:Nat):Bool :=
 (qil ops.size).all (λj=>match ops[j]? with
  | some o=>o.after.all (λe=>!qj0 .any e || decide (e.on<j)) && (decide (j<=n) || o.after.any (λe=>qj0 .any e && e.on+1 == j)) && (decide (n<=j) || (match o.guard with | some (g,_)=>decide (g<j) | none=>true))
  | none=>false) &&
 (qil n).all (λi=>(qil (n+1)).any λj=>decide (i<j) && match ops[j]? with | some o=>o.after.any (λe=>qj0 .any e && e.on == i) | none=>false)
section
variable{ops:Array qjn}{n:Nat}(hB:chainB ops n=true)
include hB
theorem KG{j:Nat}{o:qjn}(l:ops[j]?=some o):(∀e∈o.after,qj0 .any e=true->e.on<j)/\(n<j->∃e∈o.after,qj0 .any e=true/\e.on+1=j)/\(j<n->∀g b,o.guard=some (g,b)->g<j):=by
 unfold chainB at hB;simp only[qic,qiB,qjC] at hB;have:=hB.1 j (qhs.1 l).1;rw[l] at this;simp only[qju,qkt,qkz,decide_eq_true_eq,qic] at this;obtain⟨⟨s,r⟩,q⟩:=this;refine⟨λe i d=>?_,λh=>?_,λh g b p=>?_⟩
 ·rcases s e i with h | h
  ·rw[d] at h;cases h
  ·exact h
 ·rcases r with c | c
  ·omega
  ·have⟨e,i,d⟩:=qr5.1 c;simp only[qic,beq_iff_eq] at d;exact⟨e,i,d⟩
 ·rcases q with c | c
  ·omega
  ·rw[p] at c;simpa using c
theorem q34(y:n<ops.size){listed:Array Bool}(x:Closed ops listed)(v:∀o,ops[n]?=some o->∀e∈o.after,qj0 .any e=true->listed[e.on]?.getD false=true):∀i,i<n->listed[i]?.getD false=true:=by
 have c:=hB;unfold chainB at c;simp only[qic,qiB (l:=qil n),qjC] at c;have r:∀d i,i<n->n - i<=d->listed[i]?.getD false=true:=by
  intro d;induction d with
  | zero=>intro i q h;omega
  | succ d u=>
   intro i q h;have:=c.2 i q;simp only[List.any_eq_true,qjC,qic,decide_eq_true_eq] at this;obtain⟨j,z,w,g⟩:=this;cases ho:ops[j]? with
   | none=>rw[ho] at g;cases g
   | some o=>
    rw[ho] at g;simp only at g;have⟨e,t,p⟩:=qr5.1 g;simp only[qic,beq_iff_eq] at p;by_cases s:j=n
    ·subst s;rw[<- p.2];exact v o ho e t p.1
    ·have:=x j o ho (u j (by omega) (by omega)) e t p.1;rw[p.2] at this;exact this
 exact λi q=>r (n - i) i q (qhv _)
theorem vf{m:Nat}(hm:m<ops.size){listed:Array Bool}(j:listed.size=ops.size)(c:listed[m]?.getD false=false):qia .any ops listed≠[]:=by
 intro l;have d:∀i,i<ops.size->listed[i]?.getD false=true:=by
  intro i;induction i using qp5 with
  | _ i h=>
   intro g;refine zZ l j (qih g) ?_;simp only[qju,qkt,qkz];intro e o;cases hb:qj0 .any e with
   | false=>exact .inl rfl
   | true=>
    right;have:=(KG hB (qih g)).1 e o hb;rw[qjg];exact h e.on this (by omega)
 rw[d m hm] at c;cases c
theorem JE{listed:Array Bool}{i:Nat}(g:i∈qia .any ops listed)(c:n<i):listed[i - 1]?.getD false=true:=by
 obtain⟨p,-⟩:=zz g;have d:=qih p;have⟨e,l,o,j⟩:=(KG hB d).2.1 c;have:=zw g d;simp only[qju,qkt,qkz] at this;rcases this e l with h | h
 ·rw[o] at h;cases h
 ·rw[<- qjg,show i - 1=e.on by omega];exact h
omit hB in
theorem q7s{fuel t:Nat}{listed:Array Bool}(c:qia .any ops listed≠[]):∃i g,i∈qia .any ops listed/\qiH .any ops (fuel+1) t listed []=i::qiH .any ops fuel g (listed.setIfInBounds i true) []:=by
 simp only[qiH];change ∃i g,_/\(match (qia .any ops listed)[t % (qia .any ops listed).length]? with
  | some i=>qiH .any ops fuel (t / (qia .any ops listed).length) (listed.setIfInBounds i true) [i]
  | none=>[].reverse)=_
 cases hi:(qia .any ops listed)[t % (qia .any ops listed).length]? with
 | none=>
  exfalso;cases hr:qia .any ops listed with
  | nil=>exact c hr
  | cons x e=>
   rw[hr] at hi;have d:t % (x::e).length<(x::e).length:=Nat.mod_lt _ (by simp);simp at hi;simp at d;omega
 | some i=>exact⟨i,_,qi9 hi,by simp only[];rw[linearise_go_acc,qpH];rfl⟩
theorem qbt:∀(fuel t m:Nat) (listed:Array Bool),n<=m->m<=ops.size->listed.size=ops.size->(∀k,k<m->listed[k]?.getD false=true)->(∀k,m<=k->listed[k]?.getD false=false)->unl listed ops.size<=fuel ->qiH .any ops fuel t listed []=qmG m (ops.size - m):=by
 intro fuel;induction fuel with
 | zero=>
  intro t m listed p q e o j B;by_cases h:m<ops.size
  ·exfalso;cases g:qia .any ops listed with
   | nil=>exact vf hB h e (j m (qhv _)) g
   | cons i l=>
    have⟨d,c⟩:=zz (md:=.any) (ops:=ops) (listed:=listed) (i:=i) (by rw[g];simp);have:=vd (n:=ops.size) d e c;omega
  ·rw[show ops.size - m=0 by omega];rfl
 | succ fuel y=>
  intro t m listed p q e o j B;by_cases h:m<ops.size
  ·have⟨i,w,s,C⟩:=q7s (fuel:=fuel) (t:=t) (vf hB h e (j m (qhv _)));have r:i=m:=by
    have d:=ZO s;have c:¬ i<m:=λh=>by rw[o i h] at d;cases d
    refine qj6 λD=>?_;have v:=JE hB s (by omega);rw[j (i - 1) (by omega)] at v;cases v
   subst r;have⟨d,c⟩:=zz s;have D:=vd (n:=ops.size) d e c;rw[C,y w (i+1) (listed.setIfInBounds i true) (by omega) (by omega) (by simpa using e) (λk A=>by
    rw[QP _ _ _ (by omega)];split
    ·rfl
    ·exact o k (by omega)) (λk A=>by rw[QP _ _ _ (by omega),if_neg (by omega)];exact j k (by omega)) (by omega),show ops.size - i=(ops.size - (i+1))+1 by omega,List.range'_succ]
  ·have g:qia .any ops listed=[]:=by
    cases g:qia .any ops listed with
    | nil=>rfl
    | cons x F=>
     exfalso;have u:x∈qia .any ops listed:=by rw[g];simp
     have d:=(zz u).1;have c:=ZO u;rw[o x (by omega)] at c;cases c
   rw[show ops.size - m=0 by omega];simp only[qiH];change (match (qia .any ops listed)[t % (qia .any ops listed).length]? with
    | some z=>qiH .any ops fuel _ _ [z]
    | none=>[].reverse)=[]
   rw[g];rfl
theorem q8G(u:n<ops.size):∀(fuel t:Nat) (listed:Array Bool),listed.size=ops.size->Closed ops listed->(∀k,n<=k->listed[k]?.getD false=false)->unl listed ops.size<=fuel ->∃L,qiH .any ops fuel t listed []=L++qmG n (ops.size - n)/\∀i∈L,i<n:=by
 intro fuel;induction fuel with
 | zero=>
  intro t listed d A g F;exfalso;cases hr:qia .any ops listed with
  | nil=>exact vf hB u d (g n (qhv _)) hr
  | cons i l=>
   have⟨C,B⟩:=zz (md:=.any) (ops:=ops) (listed:=listed) (i:=i) (by rw[hr];simp);have:=vd (n:=ops.size) C d B;omega
 | succ fuel H=>
  intro t listed d A g F;rcases qlC (∀k,k<n->listed[k]?.getD false=true) with c | c
  ·exact⟨[],qbt hB (fuel+1) t n listed (qhv _) (by omega) d c g F,by simp⟩
  ·have⟨i,G,z,p⟩:=q7s (fuel:=fuel) (t:=t) (vf hB u d (g n (qhv _)));have⟨C,B⟩:=zz z;have M:=vd (n:=ops.size) C d B;have D:∀o,ops[i]?=some o->∀e∈o.after,qj0 .any e=true->listed[e.on]?.getD false=true:=λo r e p s=>by
    have:=zw z r;simp only[qju,qkt,qkz] at this;rcases this e p with h | h
    ·rw[s] at h;cases h
    ·rw[<- qjg];exact h
   have y:i<n:=by
    refine qj6 λh=>?_;by_cases e:i=n
    ·subst e;exact c (q34 hB u A D)
    ·have:=JE hB z (by omega);rw[g (i - 1) (by omega)] at this;cases this
   have⟨L,I,v⟩:=H G (listed.setIfInBounds i true) (by simpa using d) (λj o r x e p s=>by
     rw[QP _ _ _ (by omega)] at x ⊢;split at x
     ·rename_i w
      subst w;split
      ·rfl
      ·exact D o r e p s
     ·have:=A j o r x e p s;split
      ·rfl
      ·exact this) (λk q=>by rw[QP _ _ _ (by omega),if_neg (by omega)];exact g k q) (by omega)
   exact⟨i::L,by rw[p,I];rfl,λk q=>by
    rcases qjr.1 q with rfl | q
    ·exact y
    ·exact v k q⟩
end
def zR(ops:Array qjn)(n:Nat):Array qjn:=(ops.toList.take n++(ops.toList.drop n).map jX).toArray
def Zo(ops:Array qjn)(n i:Nat):(zR ops n)[i]?=(ops[i]?).map λo=>if i<n then o else jX o:=by
 unfold zR;rw[qou,<- qos];by_cases h:i<n
 ·by_cases c:i<ops.toList.length
  ·rw[qir (by simp at c ⊢;omega),qk4 h];cases ops.toList[i]?<;>simp[h]
  ·rw[qjp (by simp at c ⊢;omega),qjp (by omega)];rfl
 ·by_cases c:n<=ops.toList.length
  ·rw[qjv (by simp at c ⊢;omega),qjE,qlA,show n+(i - (ops.toList.take n).length)=i by simp at c ⊢;omega];cases ops.toList[i]?<;>simp[h]
  ·rw[qjp (by simp at c ⊢;omega),qjp (by omega)];rfl
def JP(ops:Array qjn)(n:Nat):(zR ops n).size=ops.size:=by
 simp[zR];omega
def q6l(ops:Array qjn)(n:Nat)(e:qlv):∀(c t:Nat) (listed:Array Bool) (d:List Nat),qiH e (zR ops n) c t listed d=qiH e ops c t listed d:=by
 intro c;have h:∀listed,qia e (zR ops n) listed=qia e ops listed:=λlisted=>by
  unfold qia;rw[JP]
  congr 1
  funext i
  rw[Zo];cases ops[i]? with
  | none=>rfl
  | some o=>simp only[qjh];split<;>rfl
 induction c with
 | zero=>intro t listed d;rfl
 | succ c g=>
  intro t listed d;simp only[qiH];change (match (qia e (zR ops n) listed)[t % (qia e (zR ops n) listed).length]? with
   | some i=>qiH e (zR ops n) c (t / (qia e (zR ops n) listed).length) (listed.setIfInBounds i true) (i::d)
   | none=>d.reverse)=(match (qia e ops listed)[t % (qia e ops listed).length]? with
   | some i=>qiH e ops c (t / (qia e ops listed).length) (listed.setIfInBounds i true) (i::d)
   | none=>d.reverse)
  rw[h];cases(qia e ops listed)[t % (qia e ops listed).length]? with
  | none=>rfl
  | some i=>exact g _ _ _
def q45{Q:qhF}{ops:Array qjn}{n:Nat}{K:Act->qhr->Prop}(hB:chainB ops n=true)(R:List Nat)(s:∀i∈R,n<=i/\i<ops.size):∀(L:List Nat) (a:Act) (w:qhr),(∀i∈L,i<n)->qrB Q (zR ops n) (q5g K) (L++R) a w->qrB Q ops (q5g K) L a w:=by
 have d:∀(R:List Nat),(∀i∈R,n<=i/\i<ops.size)->∀(a:Act) (w:qhr),qrB Q (zR ops n) (q5g K) R a w->qrB Q ops (q5g K) [] a w:=by
  intro R;induction R with
  | nil=>exact λ_ _ _ h=>h
  | cons i R t=>
   intro s a w h;rw[wpOps_cons] at h;have⟨B,z⟩:=s i (by simp);unfold wpOp at h;rw[Zo,qih z] at h;simp only[qjh,if_neg (show ¬ i<n by omega)] at h;have u:qip (jX ops[i]) (qjt (zR ops n) a.tmps)=true:=by simp[qip,jX]
   rw[if_pos u] at h;rcases h with h | ⟨_,l⟩
   ·unfold Oper.wp at h;have:(qkA a.eval (jX ops[i])).run Q w=.ok (.value (.bool true)) w:=rfl;rw[this] at h;simp only[Oper.upon,jX] at h;exact t (λj r=>s j (by simp[r])) _ _ h
   ·exact absurd l K5
 intro L;induction L with
 | nil=>exact λa w _ h=>d R s a w h
 | cons i L t=>
  intro a w q h;rw[qi7,wpOps_cons] at h;rw[wpOps_cons];have v:=q i (by simp);have e:∀j,j<n->(zR ops n)[j]?=ops[j]?:=λj r=>by rw[Zo];cases ops[j]?<;>simp[r]
  have c:=wpOp_mono (λA x y=>t A x (λj r=>q j (by simp[r])) y) h;unfold wpOp at c ⊢;rw[e i v] at c;cases ho:ops[i]? with
  | none=>rw[ho] at c;exact c
  | some o=>
   rw[ho] at c;dsimp only at c ⊢;have u:qip o (qjt (zR ops n) a.tmps)=qip o (qjt ops a.tmps):=by
    unfold qip;cases hg:o.guard with
    | none=>rfl
    | some p=>
     obtain⟨g,b⟩:=p;have:=(KG hB ho).2.2 v g b hg;simp only[qjt,e g (by omega)]
   rw[u] at c;exact c
section
variable[JunkSet]{Q P:qhF}{f:qj8}{Post:qhu->qhr->Prop}{W:qhr}
variable{b:qhG}{a:Act}{k:List qlG}{cs:List qhG}{wq:qhr}
def EL.region_chain(D:Two Q P)(x:Bot f cs)(w:Q.funcs[b.fn]?=P.funcs[b.fn]?){id:Nat}{ops:Array qjn}(n:Nat)(c:List Nat)(hm:Q.follows .mixedOrders=true)(hB:chainB ops n=true)(r:decide (n<ops.size)=true)(d:decide (c=qmG n (ops.size - n))=true)(h:∀T,wpAny Q .any (zR ops n) (q5g λt l=>EL Q P f Post W (G (b.at t (.inRegion ops c::k)) cs) l) (zR ops n).size (qiE (zR ops n).size false) a { wq.tp T with drawn:=wq.drawn+1 }) :EL Q P f Post W (G (b.at a (.code (.region id ops true)::k)) cs) wq:=by
 refine EL.of_runs D λT=>?_;have r:=of_decide_eq_true r;have d:=of_decide_eq_true d;have p:=JP ops n;have g:∀k:Nat,(qiE ops.size false)[k]?.getD false=false:=λk=>by
  simp only[Array.getElem?_replicate];split<;>rfl
 have⟨L,u,s⟩:=q8G hB r ops.size ((wq.tp T).tape (wq.tp T).drawn (.order b.fn id)) (qiE ops.size false) (by simp) (λi o _ j=>by rw[g] at j;cases j) (λk _=>g k) (by
   unfold unl;refine qhB (qkb _ _) (by simp))
 have v:=wpAny_sound _ ((wq.tp T).tape (wq.tp T).drawn (.order b.fn id)) _ _ _ (h T);rw[q6l,p,u,<- d] at v;have z:=q45 hB c (λi j=>by
  rw[d] at j;have:=List.mem_range'.1 j;omega) L _ _ s v
 have⟨t,l,y,q⟩:=q7e c L a _ z b k cs;refine⟨b.at t (.inRegion ops c::k),cs,l,.head (step_region_draw) ?_,x,w,y⟩;have e:qo0 (Q.follows .mixedOrders) ops ((wq.tp T).tape (wq.tp T).drawn (.order b.fn id))=L++c:=by
  simp only[qo0,hm,Bool.true_or,if_true];show qiH .any ops ops.size _ _ []=_;rw[u,d]
 rw[e];exact q
end
end
section
open Go.Conc Go.ConcN Go.Sim
section
variable[JunkSet]
def Kc(Z:Ren)(y:qhu):∃x,VR Z x y/\∀k n,y=.int k n->x=y:=by
 cases y with
 | bool b=>exact⟨_,.bool b,λk n e=>by cases e⟩
 | int k n=>exact⟨_,.int k n,λ_ _ _=>rfl⟩
 | string s=>exact⟨_,.string s,λk n e=>by cases e⟩
 | tuple a=>
  have h:∀i:Fin a.size,∃x,VR Z x a[i]:=λi=>let ⟨x,h,_⟩:=Kc Z a[i];⟨x,h⟩;refine⟨.tuple (qr6 λi=>ql0 (h i)),.tuple (by simp) λi x y g d=>?_,λk n e=>by cases e⟩;have⟨p,o⟩:=qhs.1 g;have⟨j,l⟩:=qhs.1 d;rw[<- o,<- l,qmg];exact qli (h ⟨i,j⟩)
 | agg a=>
  have h:∀i:Fin a.size,∃x,VR Z x a[i]:=λi=>let ⟨x,h,_⟩:=Kc Z a[i];⟨x,h⟩;refine⟨.agg (qr6 λi=>ql0 (h i)),.agg (by simp) λi x y g d=>?_,λk n e=>by cases e⟩;have⟨p,o⟩:=qhs.1 g;have⟨j,l⟩:=qhs.1 d;rw[<- o,<- l,qmg];exact qli (h ⟨i,j⟩)
 | pointer a=>
  cases a with
  | none=>exact⟨_,.ptrNil,λk n e=>by cases e⟩
  | some a=>exact⟨_,.wild _ rfl,λk n e=>by cases e⟩
 | slice a n c=>
  cases a with
  | none=>exact⟨_,.sliceNil n c,λk n e=>by cases e⟩
  | some a=>exact⟨_,.wild _ rfl,λk n e=>by cases e⟩
 | map r=>
  cases r with
  | none=>exact⟨_,.mapNil,λk n e=>by cases e⟩
  | some a=>exact⟨_,.wild _ rfl,λk n e=>by cases e⟩
 | func f a c=>
  cases f with
  | method n=>exact⟨_,.meth n a c,λk n e=>by cases e⟩
  | _=>exact⟨_,.wild _ rfl,λk n e=>by cases e⟩
 | nilFunc=>exact⟨_,.nilFunc,λk n e=>by cases e⟩
 | nilIface=>exact⟨_,.nilIface,λk n e=>by cases e⟩
 | _=>exact⟨_,.wild _ rfl,λk n e=>by cases e⟩
termination_by SizeOf.sizeOf y
decreasing_by
 all_goals
  subst_vars
  have:=Array.sizeOf_get a i.1 i.2;simp only[Value.agg.sizeOf_spec,Value.tuple.sizeOf_spec];have e:a[i]=a[i.1]:=rfl;rw[e];omega
noncomputable def xV(Z:Ren)(a:Array qhu):Array qhu:=qr6 λi:Fin a.size=>ql0 (Kc Z a[i])
def q8C(Z:Ren)(a:Array qhu):AsR Z (xV Z a) a:=by
 refine⟨by simp[xV],λi x y c b=>?_⟩;have⟨h,e⟩:=qhs.1 c;have⟨g,d⟩:=qhs.1 b;rw[<- e,<- d];simp only[xV,qmg];exact(qli (Kc Z a[i])).1
def q1o(Z:Ren)(a:Array qhu){i:Nat}{k:IntKind}{n:Int}(h:a[i]?=some (.int k n)):(xV Z a)[i]?=some (.int k n):=by
 have⟨c,b⟩:=qhs.1 h;have d:i<(xV Z a).size:=by simp[xV,c]
 rw[qih d];simp only[xV,qmg];have:=(qli (Kc Z a[i])).2 k n b;exact congrArg some (this.trans b)
def Y5(a:Nat->Bool)(n:Nat):Ren:=(qil n).map λi=>if a i then some i else none
def xN{b:Nat->Bool}{n i j:Nat}:BR (Y5 b n) i j↔i<n/\b i=true/\j=i:=by
 unfold BR Y5;rw[qjE];by_cases h:i<n
 ·rw[qm5 h,qjh];by_cases a:b i=true
  ·rw[if_pos a];exact⟨λe=>⟨h,a,by cases e;rfl⟩,λ⟨_,_,e⟩=>by rw[e]⟩
  ·rw[if_neg a];exact⟨λe=>(by cases e),λ⟨_,c,_⟩=>absurd c a⟩
 ·rw[qjp (by rw[qni];omega)];exact⟨λe=>(by cases e),λ⟨d,_,_⟩=>absurd d h⟩
noncomputable def qgA(Z:Ren):Obj->Obj
 | .cells a e f=>.cells (xV Z a) e (0,a.size+f.2)
 | _=>.cells #[] 0 (0,0)
noncomputable def Qr(a:Nat->Bool)(W:qhr):qhr :=
 { W with heap:=qr6 λi:Fin W.heap.size=>if a i then qgA (Y5 a W.heap.size) W.heap[i] else .cells #[] 0 (0,0) }
def yI(a:Nat->Bool)(W:qhr):(Qr a W).heap.size=W.heap.size:=by simp[Qr]
def vV{kn:Nat->Bool}{W:qhr}{i:Nat}{a:Array qhu}{e:qi4}{f:Nat × Nat}(b:kn i=true)(h:W.heap[i]?=some (.cells a e f)) :(Qr kn W).heap[i]?=some (.cells (xV (Y5 kn W.heap.size) a) e (0,a.size+f.2)):=by
 have⟨d,g⟩:=qhs.1 h;have c:i<(Qr kn W).heap.size:=by rw[yI];exact d
 rw[qih c];simp only[Qr,qmg,b,if_true,Fin.getElem_fin];rw[g];rfl
def q1q{a:Nat->Bool}{W:qhr}{i:Nat}{o:Obj}(b:¬ a i=true)(h:(Qr a W).heap[i]?=some o):o=.cells #[] 0 (0,0):=by
 have⟨d,c⟩:=qhs.1 h;rw[<- c];simp only[Qr,qmg];rw[if_neg b]
def qbp(Q:qhF)(l:∀i,¬ JunkSet.jk i){c:Nat->Bool}{W:qhr}(d:∀i,c i=true->i<W.heap.size->∃k e f,W.heap[i]?=some (.cells k e f)) :WR Q W.heap.size (Y5 c W.heap.size) (Qr c W) W where
 len:=by rw[yI];simp[Y5]
 nodup i i' j h h':=by
  have⟨_,_,e⟩:=xN.1 h;have⟨_,_,q⟩:=xN.1 h';omega
 lt i j h:=by
  have⟨n,_,e⟩:=xN.1 h;omega
 obj i j o h a:=by
  obtain⟨n,b,rfl⟩:=xN.1 h;have⟨k,e,f,g⟩:=d j b n;rw[vV b g] at a;cases a;refine .inr ⟨l j,_,g,.cells e (q8C _ _) λo n p=>?_⟩;simp only;omega
 low i hi:=by
  by_cases b:c i=true
  ·have⟨k,e,f,g⟩:=d i b hi;refine⟨_,_,_,vV b g,λo a=>?_⟩;have:(xV (Y5 c W.heap.size) k).size=k.size:=by simp[xV]
   simp only;omega
  ·have p:i<(Qr c W).heap.size:=by rw[yI];exact hi
   have:=q1q b (qih p);refine⟨#[],0,(0,0),by rw[qih p,this],λo a=>?_⟩;simp at a
 env:=rfl
 below i h:=absurd h (l i)
 gar i o a:=by
  right;by_cases b:c i=true
  ·have n:i<W.heap.size:=by rw[<- yI c W];exact(qhs.1 a).1
   have⟨k,e,f,g⟩:=d i b n;rw[vV b g] at a;cases a;rfl
  ·rw[q1q b a];rfl
end
section
variable[J:JunkSet]{Q P:qhF}{f:qj8}{Post:qhu->qhr->Prop}
def EL.begin(D:Two Q P)(a:JunkSet.okf f)(n:Q.funcs[f]?=P.funcs[f]?)(c:∀i,¬ JunkSet.jk i){kn:Nat->Bool}{W:qhr}(r:P.globals.size<W.heap.size)(g:∀i,i<=P.globals.size->kn i=true)(b:∀i,kn i=true->i<W.heap.size->∃q e f,W.heap[i]?=some (.cells q e f)){aq k:Array qhu}(p:AsR (Y5 kn W.heap.size) aq k)(h:EL Q P f Post W (G (qiz Q f aq .normal) [ql f]) (Qr kn W)):Ends P Post (solo (G (qiz P f k .normal) []) W) #[]:=by
 refine E.solo (cl:=λ_=>.mine 0) ?_ λ_=>rfl;have o:W.heap.size<=(Y5 kn W.heap.size).length:=by simp[Y5]
 refine h (Y5 kn W.heap.size) _ W (λ_=>.mine 0) ⟨qbp Q c b,o,λi l=>xN.2 ⟨by omega,g i l,rfl⟩,⟨[],rfl⟩,yn P f k [ql f],Ky D.H a n p,rfl⟩ (λi j _=>rfl) (λ_ _=>rfl)
  ⟨λ_ _ _=>rfl,rfl,rfl,qhv _,λi j d l=>?_,qhv _⟩ λ_ _=>rfl
 have⟨s,_,_⟩:=xN.1 d;omega
def q5u{a:qhG}{g:qhw}{i:Func}{v:qhu}{w:qhr}(c:g.frame=a)(e:g.callers=[])(b:g.status=.running)(d:g.dying=none)(h:P.inits.idxOf? a.fn=none)(hm:a.mode=.returning)(l:a.kind=.normal)(p:a.defers=[])(n:P.funcs[a.fn]?=some i)(k:(qke i a.tmps).run P w=.ok v w)(o:(qke i a.tmps).events P w #[]=#[]) :qj5 P true g w=.ended (.done v) w #[]:=by
 obtain⟨q,t,r,s,j⟩:=g;dsimp only at c e b d;subst c e b d;simp[qj5,qmj,qk7,l,p,n,k,o,hm,seen,qj9,h]
def EL.last{W:qhr}{b:qhG}{a:Act}{l:List qlG}{F:Func}{t:Nat}{r:Bool}{u:qhr}(s:P.inits.idxOf? b.fn=none)(S:b.kind=.normal)(hd:a.defers=[])(Y:P.funcs[b.fn]?=some F)(C:F.results=#[.tmp t])(R:a.tmps.getD t qhx=.bool r)(k:∀w,(∀j,j<W.heap.size->w.heap[j]?=W.heap[j]?)->w.os=W.os->w.output=W.output->W.heap.size<=w.heap.size->Post (.bool r) w) :EL Q P f Post W (G { b.at a l with mode:=.returning } [ql f]) u:=by
 intro Z g' w cl ⟨hw,T,X,_,gv,o,e⟩ ho hc n hm;subst e;have x:=o.callers;obtain⟨fr,cs,N,dy,O⟩:=gv;have q:N=.running:=o.st';have v:dy=none:=o.dy';subst q v;cases x with
 | cons p y=>
  cases y;have c:=o.frame;have M:=c.fn;have L:=c.kind;have I:=c.tmps;have A:=c.defers;have H:=c.mode;obtain⟨a9,g,td,b6,mode,B,ro⟩:=fr;simp only[Frame.at,G] at M L I A H;rw[hd] at A;cases A;cases H;subst M;subst L;have p:=I.getD t (kC Z);rw[R] at p;have y:g.getD t qhx=.bool r:=by
   generalize g.getD t qhx=z at p;cases p;rfl
  refine E.done rfl λd=>⟨.bool r,w.at d,#[],?_,by simp,?_⟩
  ·exact q5u rfl rfl rfl rfl s rfl S rfl Y (by rw[results_tmp C _ P _];exact congrArg (λz=>Result.ok z (w.at d)) y) (qo6 C _ _)
  ·exact k _ (λj U=>n.old j U λi V=>qpx λh=>by
    have h3:=n.inn i j V h;omega) n.os n.output n.size
end
end
end Go.Co
