/-
  Part 2 of the proof. gladstonelaw04.PileNumbered answers true for every list of numbers, and leaves its argument as it was. No conditions.
-/
import Derived.Test.YtidgnkmjgioapaaGreatG1
import Derived.Conc.CrowdRun
import Derived.Orders
import Derived.WalkKit
import Derived.Conc.WgGenN3
set_option maxRecDepth 100000
set_option maxHeartbeats 8000000
set_option linter.all false
open Array renaming all_eq_true_iff_forall_mem->NG,any_eq_true'->VG,getD_eq_getD_getElem?->No,getElem?_eq_getElem->Ml,getElem?_eq_some_iff->Lz,getElem?_push_lt->Uu,getElem?_setIfInBounds->My,getElem?_setIfInBounds_ne->ML,getElem?_toList->Qu,getElem_ofFn->Qs,mem_iff_getElem?->Uq,mem_map->Rj,mem_of_getElem?->NN,ofFn->VH,replicate->MR
open Bool renaming and_eq_true->Mg,false_eq_true->Mx,not_eq_true'->OM,not_false->Ry,not_true->Ri,or_eq_true->OH,true_or->XG,false->LH,true->LG
open Classical renaming byContradiction->MX,choose->ND,choose_spec->Nk,em->VU
open Go renaming Act->ON,Addr->MN,Calls->MH,Code->Og,CommCase->Pg,CommShape->OK,Deferred->NR,Dying->Re,Event->Ns,Exit->SS,Frame->LW,FuncId->Nh,GStep->OA,GoStatus->OS,Goroutine->LD,IntKind->Tf,Item->PW,MapEntry->Pv,MemOp->UC,Next->Qz,Obj->SQ,Oper->NB,Operand->MS,Outcome->Uo,PanicEntry->QU,Program->LV,Question->NU,Sem->Ps,Trace->Ty,TypeId->LZ,Value->LA,World->Lt,bits->Ut,callDeferred->NT,deafBehind->Pa,doReturn->NX,endFatal->To,endThrow->SF,execOp->OZ,exitTo->Rz,gotoIn->Sl,mayWake->XH,results->Om,results_tmp->Sv,runT->UP,stepG->Nb,step_leave_returned->Vl,step_lone_go->SI,tryRecover->Mq,undef->LI,unwind->Qw,wpList->Ua,wpOps->WC,wpOps_cons->Xa,yielded->Od
open Go.Conc renaming Deaf->UG,Deaf_other->Qd,Deaf_own->UQ,Good->XF,awake->Xm,woken->Xn,Goes->Rq,QuitsD->TJ,again_running->Vu,aside_setCell->QI,crowd->Px,crowd_pick->VC,events_results_tmp->Sm,ofEvents_eq->QR,runT_crowd_go->Rm,run_call_body->RZ,semEvents->Qy,stepG_add_atomic->Qm,stepG_block->Su,stepG_end->Wt,stepG_load_atomic->QA,stepG_loop->VD,stepG_mark0->TU,stepG_markAt->TD,stepG_region_end->LK,stepG_ret'->OL,stepG_seq->Mb,stepG_skip->Nr,stepG_unwind_entry->VF,stepG_value->UR,touchAt->RN,woken->VQ,woken_quitsD->QX
open Go.Conc.Goes renaming cases->Pq,rely->PH,running->OG,stop->NY
open Go.ConcN renaming CTag->Wu,Mode->Rn,WgLive->OO,cnt->Vj,get_map_set->PE,get_map_set_same->Ql,pend->UH,phi->VT,st_flag->XI,st_waiters->VE,sumTo->RD,sumTo_upd->Ve,sumTo_upd_out->Vv,upd->QW,upd_ne->PY,upd_same->OU
open Go.ConcN.Gen.WgLive renaming cell0->Us,cell1->OP
open Go.ConcN.Mode renaming last->TL,retag->Vk
open Go.ConcR renaming DC0->XA,DC0->SH,mk->Ou,WgAt->Sn,g_of_ofEvents->Tk,loc_of_ofEvent->SG,smA->VS,stA->Sa
open Go.Frame renaming enter->MO,eval->QH,finish->Un,finish_at->Ow,raise->UN
open Go.GStep renaming after->Ni,go->UO
open Go.Instr renaming endRound->OR
open Go.IntKind renaming wrap_i32->Tc,wrap_u64->Tb
open Go.MemAct renaming ofEvent->Ny,touch?->Oh
open Go.MemOp renaming ofEvents->Oe
open Go.Region renaming Mode->PL,binds->MW,ready->Mi,schedule->Si,wanted->MA
open Go.Region.linearise renaming go->MV
open Go.Sem renaming run->Nm,runT_eq->ME
open Go.stepG renaming apply->Nq,exec->Pf,oper->Ta
open List renaming all_eq_true->MD,append_assoc->OE,cons_append->Mk,filter_cons->Uh,getElem?_append_left->Mv,getElem?_append_right->Nz,getElem?_drop->QY,getElem?_eq_none->Nc,getElem?_map->NO,getElem?_range->Qh,getElem?_take_of_lt->Oi,getElem?_toArray->SU,length_cons->LX,length_filter_le->Oq,map_cons->PS,mem_cons->MK,mem_filter->Oa,mem_iff_getElem?->Qv,mem_of_getElem?->Mh,mem_range->Nj,mem_toArray->Pl,nil_append->Mu,not_mem_nil->NQ,range->Mr,range'->QS,reverse_singleton->Ur
open List.cons renaming injEq->OT
open Nat renaming eq_zero_or_pos->TK,le_of_eq->Py,le_refl->LC,le_trans->LN,lt_of_lt_of_le->LY,lt_of_not_le->Ug,lt_or_ge->NK,lt_succ_self->QM,mul_le_mul_left->Tz,mul_lt_mul_of_pos_left->RE,strongRecOn->Tv,zero_add->Mn,zero_le->Mw
open Option renaming bind_some->RK,elim_none->Ws,getD_some->LQ,map_eq_some_iff->Qi,map_some->Ng,none->Lw,some->Lq
open Option.some renaming inj->OQ,injEq->MM
open _root_ renaming Array->LM,Bool->MC,False->PC,Int->LJ,List->Lx,Nat->Ly,Option->LU
namespace Go.Co
section
open Go.Conc Go.ConcN
open Go.ConcR (loc_of_ofEvent deafBehind_cons deafBehind_one g_of_ofEvents ofEvent_loc_mark)
def Ends(P:LV)(Post:LA->Lt->Prop)(m:Machine)(t:Ty):Prop :=
 ∃N a o b c,runNT P (N+1) m t=(.ended o b,c)/\runN P N m=.next a/\step P a=.ended o b/\XF P Post a o b c
section
variable{P:LV}{Post:LA->Lt->Prop}{m m':Machine}{t:Ty}{ops:LM UC}
def Ends.next(b:stepT P m=(.next m',ops))(h:Ends P Post m' (t++ops)):Ends P Post m t:=by
 obtain⟨N,a,o,w,c,k,j,i,e⟩:=h;exact⟨N+1,a,o,w,c,by rw[runNT_succ_next b];exact k,by rw[runN_succ_next b];exact j,i,e⟩
def Ends.ended{o:Uo}{w:Lt}(a:stepT P m=(.ended o w,ops))(h:XF P Post m o w (t++ops)):Ends P Post m t :=
 ⟨0,m,o,w,t++ops,by simp[runNT,a],rfl,by simp[step,a],h⟩
end
def EvG(cl:Ly->Cl)(size g:Ly)(e:Ns):Prop:=(∀x,(Ny e).touch?=Lq x->KC cl size g x)
def dH(e:Ns):Prop:=e.loc≠.mark .disable/\e.loc≠.mark .enable/\∀a,e.loc≠.mark (.release a)
section
variable{cl:Ly->Cl}{n size g d:Ly}{t:Ty}{es:LM Ns}{fn:Nh}{pos:String}
def oy(h:∀e∈es,EvG cl size g e):∀b∈Oe g fn pos es,Iq cl size g b:=by
 intro b a;rw[QR] at a;obtain⟨e,c,rfl⟩:=Rj.1 a;exact⟨rfl,h e c⟩
def deafBehind_idle{es:LM Ns}(h:∀e∈es,dH e)(d:Ly):Pa d es=d:=by
 obtain⟨l⟩:=es;induction l with
 | nil=>rfl
 | cons e l b=>
  rw[deafBehind_cons,deafBehind_one (h e (by simp)).1 (h e (by simp)).2.1];exact b λx a=>h x (by simp at a ⊢;exact .inr a)
def qN{e:Ns}(h:e.mute=LG):(Ny e).touch?=Lw:=by
 obtain⟨a,wr,b⟩:=e;cases a with
 | mark m=>cases m<;>first | rfl | cases h
 | _=>cases h
def lG{es:LM Ns}(h:∀e∈es,e.mute=LG):∀b∈Oe g fn pos es,b.g=g/\b.act.touch?=Lw:=by
 intro b a;rw[QR] at a;obtain⟨e,c,rfl⟩:=Rj.1 a;exact⟨rfl,qN (h e c)⟩
end
section
variable{g:Ly}{es:LM Ns}{fn:Nh}{pos:String}
def Ed{a:MN}{es:LM Ns}(h:∀e∈es,e.mute=LG):∀c∈Oe g fn pos es,c.act≠.mark (.release a):=by
 intro c b hm;rw[QR] at b;obtain⟨x,j,rfl⟩:=Rj.1 b;have k:=h x j;have f:=SG hm;obtain⟨i,wr,l⟩:=x;simp only at f;subst f;cases k
def tw{a:MN}{es:LM Ns}(h:∀e∈es,dH e):∀c∈Oe g fn pos es,c.act≠.mark (.release a):=by
 intro c b hm;rw[QR] at b;obtain⟨x,f,rfl⟩:=Rj.1 b;exact(h x f).2.2 a (SG hm)
end
structure Al(P:LV)(cl:Ly->Cl)(gs:LM LD)(w:Lt)(t:Ty)(g0:LD)(fu:Ly->Ly):Prop where
 main:gs[0]?=Lq g0
 lv:∀i,1<=i->i<gs.size->∃g,gs[i]?=Lq g/\TJ P (fu i) (UG t i) g
 tr:Tr cl gs.size w.heap.size t
 cl0:∀b,w.heap.size<=b->cl b=.mine 0
 d0:UG t 0=0
 hd:Hd gs.size t
 nor:∀a,NoRelease a t
def E(P:LV)(Post:LA->Lt->Prop)(cl:Ly->Cl)(g0:LD)(w:Lt):Prop :=
 ∀gs sl t fu,Al P cl gs w t g0 fu->Ends P Post (Px gs w sl) t
section
variable{P:LV}{Post:LA->Lt->Prop}{cl:Ly->Cl}{gs:LM LD}{w:Lt}{t:Ty}{g0:LD}{fu:Ly->Ly}{sl:LU (Ly × Ly)}
def Al.at(h:Al P cl gs w t g0 fu)(d:Ly):Al P cl gs (w.at d) t g0 fu:=⟨h.main,h.lv,h.tr,h.cl0,h.d0,h.hd,h.nor⟩
def oU{q d:Ly}{g:LD}(h:TJ P q d g):awake g:=by
 intro a;rcases h.status with e | e<;>rw[e]<;>simp
def Al.awake(h:Al P cl gs w t g0 fu)(f:g0.status=.running):∀g∈gs,Xm g:=by
 intro g e;have⟨i,b⟩:=Uq.1 e;cases i with
 | zero=>
  rw[h.main] at b;cases b;intro j;rw[f];simp
 | succ i=>
  have⟨k,a,c⟩:=h.lv (i+1) (by omega) (Lz.1 b).1;rw[b] at a;cases a;exact oU c
def Al.leave(h:Al P cl gs w t g0 fu)(H:g0.status=.running){i:Ly}{g:LD}(G:1<=i)(C:gs[i]?=Lq g)(z:g.status=.running) :∃r ops q,UP P (Px gs w sl) i=(.next (Px r w sl),ops)/\r.size=gs.size/\q<fu i/\Al P cl r w (t++ops) g0 (QW fu i q):=by
 have B:=(Lz.1 C).1;have⟨I,y,s⟩:=h.lv i G B;rw[C] at y;cases y;cases hf:fu i with
 | zero=>rw[hf] at s;rw[s.1] at z;cases z
 | succ q=>
  rw[hf] at s;rcases s with⟨o,_⟩ | ⟨_,D,es,f,p,s⟩
  ·rw[z] at o;cases o
  ·have v:=Rm (P:=P) (sl:=sl) (i:=i) C (by rw[show(i == 0)=LH by simp;omega];exact p w);have k:((gs.map (VQ P g D w)).setIfInBounds i D).size=gs.size:=by simp
   have b:=lG (g:=i) (fn:=g.frame.fn) (pos:=g.frame.place) f;refine⟨_,_,q,v,k,QM q,?_,?_,?_,h.cl0,?_,?_,λa=>(h.nor a).app (Ed f)⟩
   ·rw[PE _ _ _ _ (by omega),h.main,Ng];unfold VQ;split
    ·rw[Vu _ (.inl H)]
    ·rfl
   ·intro j A F;rw[k] at F;by_cases e:j=i
    ·subst e;refine⟨D,Ql _ _ _ B,?_⟩;rw[OU,UQ];exact s
    ·have⟨x,o,u⟩:=h.lv j A F;refine⟨x,?_,?_⟩
     ·rw[PE _ _ _ _ (by omega),o,Ng,QX u]
     ·rw[PY _ _ e,Qd t (Ne.symm e) _ λl c=>(b l c).1];exact u
   ·rw[k];exact h.tr.step B λl c=>⟨(b l c).1,λx o=>by rw[(b l c).2] at o;cases o⟩
   ·rw[Qd t (by omega:i≠(0:Ly)) _ λl c=>(b l c).1];exact h.d0
   ·rw[k];exact h.hd.app λl c=>.inr (.inr (b l c).2)
def uj{fu:Ly->Ly}{i q n:Ly}(b:i<n)(h:q<fu i):RD n (λa=>QW fu i q a)<RD n fu:=by
 have:=Ve fu q id b;simp only[id] at this;have e:(RD n λa=>fu a)=RD n fu:=rfl;omega
def E.stepC(M:g0.status=.running)(h:∀d,∃y p es l,Nb P LG g0 (w.at d)=.go y p es/\w.heap.size<=p.heap.size/\(∀b,b<w.heap.size->l b=cl b)/\(∀b,p.heap.size<=b->l b=.mine 0)/\(∀e∈es,EvG l p.heap.size 0 e/\dH e)/\E P Post l y p):E P Post cl g0 w:=by
 have L:∀(N:Ly) (gs:LM LD) (sl:LU (Ly × Ly)) (t:Ty) (fu:Ly->Ly) (G:Ly),RD gs.size fu=N->Al P cl gs (w.at G) t g0 fu->Ends P Post (Px gs (w.at G) sl) t:=by
  intro N;induction N using Tv with
  | _ N W=>
   intro gs sl t fu G hN c;have⟨i,g,d,s,H,Y,o⟩:=VC (P:=P) (w:=w.at G) (sl:=sl) (c.awake M) ⟨0,g0,c.main,M⟩;have V:=(Lz.1 H).1;cases i with
   | zero=>
    rw[c.main] at H;cases H;have⟨y,p,es,l,R,u,D,F,v,hE⟩:=h d;have B:Nb P ((0:Ly) == 0) g0 ((w.at G).at d)=.go y p es:=R;have k:=Rm (P:=P) (sl:=s) (i:=0) c.main B;rw[k] at o;refine Ends.next o (hE _ _ _ fu ?_)
    have f:((gs.map (VQ P g0 y p)).setIfInBounds 0 y).size=gs.size:=by simp
    have A:0<gs.size:=V;have r:∀I∈Oe 0 g0.frame.fn g0.frame.place es,I.g=0:=Tk;refine⟨Ql _ _ _ A,?_,?_,F,?_,?_,λa=>(c.nor a).app (tw λe C=>(v e C).2)⟩
    ·intro j Q U;rw[f] at U;have⟨x,X,z⟩:=c.lv j Q U;refine⟨x,?_,?_⟩
     ·rw[PE _ _ _ _ (by omega),X,Ng,QX z]
     ·rw[Qd t (by omega:(0:Ly)≠j) _ r];exact z
    ·rw[f];exact((c.tr.grow u).fresh' (m:=w.heap.size) c.tr.inb D).step A (oy λe C=>(v e C).1)
    ·rw[UQ,deafBehind_idle λe C=>(v e C).2];exact c.d0
    ·rw[f];exact c.hd.app λI O=>.inl (r I O)
   | succ i=>
    have⟨T,ops,q,k,u,Z,S⟩:=(c.at d).leave (sl:=s) M (by omega) H Y;rw[k] at o;exact Ends.next o (W _ (by rw[<- hN,u];exact uj V Z) T s _ _ d rfl S)
 intro gs sl t fu c;exact L _ gs sl t fu w.drawn rfl c
def E.step(I:g0.status=.running)(h:∀d,∃y r es,Nb P LG g0 (w.at d)=.go y r es/\w.heap.size<=r.heap.size/\(∀e∈es,EvG cl r.heap.size 0 e/\dH e)/\E P Post cl y r):E P Post cl g0 w:=by
 have H:∀(N:Ly) (gs:LM LD) (sl:LU (Ly × Ly)) (t:Ty) (fu:Ly->Ly) (D:Ly),RD gs.size fu=N->Al P cl gs (w.at D) t g0 fu->Ends P Post (Px gs (w.at D) sl) t:=by
  intro N;induction N using Tv with
  | _ N U=>
   intro gs sl t fu D Z c;have⟨i,g,d,s,F,W,o⟩:=VC (P:=P) (w:=w.at D) (sl:=sl) (c.awake I) ⟨0,g0,c.main,I⟩;have T:=(Lz.1 F).1;cases i with
   | zero=>
    rw[c.main] at F;cases F;have⟨y,r,es,O,l,u,hE⟩:=h d;have B:Nb P ((0:Ly) == 0) g0 ((w.at D).at d)=.go y r es:=O;have k:=Rm (P:=P) (sl:=s) (i:=0) c.main B;rw[k] at o;refine Ends.next o (hE _ _ _ fu ?_)
    have f:((gs.map (VQ P g0 y r)).setIfInBounds 0 y).size=gs.size:=by simp
    have A:0<gs.size:=T;have p:∀G∈Oe 0 g0.frame.fn g0.frame.place es,G.g=0:=Tk;refine⟨Ql _ _ _ A,?_,?_,λb Y=>c.cl0 b (LN l Y),?_,?_,λa=>(c.nor a).app (tw λe C=>(u e C).2)⟩
    ·intro j M S;rw[f] at S;have⟨x,V,z⟩:=c.lv j M S;refine⟨x,?_,?_⟩
     ·rw[PE _ _ _ _ (by omega),V,Ng,QX z]
     ·rw[Qd t (by omega:(0:Ly)≠j) _ p];exact z
    ·rw[f];exact(c.tr.grow l).step A (oy λe C=>(u e C).1)
    ·rw[UQ,deafBehind_idle λe C=>(u e C).2];exact c.d0
    ·rw[f];exact c.hd.app λG L=>.inl (p G L)
   | succ i=>
    have⟨R,ops,q,k,l,X,Q⟩:=(c.at d).leave (sl:=s) I (by omega) F W;rw[k] at o;exact Ends.next o (U _ (by rw[<- Z,l];exact uj T X) R s _ _ d rfl Q)
 intro gs sl t fu c;exact H _ gs sl t fu w.drawn rfl c
def E.done(O:g0.status=.running)(h:∀d,∃v u es,Nb P LG g0 (w.at d)=.ended (.done v) u es/\(∀e∈es,EvG cl w.heap.size 0 e/\dH e)/\Post v u):E P Post cl g0 w:=by
 have H:∀(N:Ly) (gs:LM LD) (sl:LU (Ly × Ly)) (t:Ty) (fu:Ly->Ly) (s:Ly),RD gs.size fu=N->Al P cl gs (w.at s) t g0 fu->Ends P Post (Px gs (w.at s) sl) t:=by
  intro N;induction N using Tv with
  | _ N X=>
   intro gs sl t fu s hN a;have⟨i,g,d,k,G,Z,o⟩:=VC (P:=P) (w:=w.at s) (sl:=sl) (a.awake O) ⟨0,g0,a.main,O⟩;have F:=(Lz.1 G).1;cases i with
   | zero=>
    rw[a.main] at G;cases G;have⟨v,u,es,S,C,hP⟩:=h d;have B:Nb P ((0:Ly) == 0) g0 ((w.at s).at d)=.ended (.done v) u es:=S;have r:0<gs.size:=F;have b:UP P (Px gs ((w.at s).at d) k) 0=(.ended (.done v) u,Oe 0 g0.frame.fn g0.frame.place es):=by
     have V:=a.main;have⟨_,V⟩:=Lz.1 V;subst V;have M:=swapAt_of_lt r { (default:LD) with status:=.finished };show UP P { world:=(w.at s).at d,gs:=gs,rest:={ timers:=#[],alone:=Lw,slice:=k } } 0=_;unfold UP;simp only[M,B,GStep.es]
    rw[b] at o;have p:∀z∈Oe 0 g0.frame.fn g0.frame.place es,z.g=0:=Tk;refine Ends.ended o ⟨v,rfl,hP,?_,?_,⟨?_,rfl⟩,?_⟩
    ·exact(a.tr.step r (oy λe T=>(C e T).1)).nr
    ·exact BS (a.hd.app λz Q=>.inl (p z Q)) λi z F=>(a.tr.step r (oy λe T=>(C e T).1)).gs i z F
    ·intro x Y;have⟨j,D⟩:=Qv.1 Y;rw[QY] at D;have f:gs[1+j]?=Lq x:=by simpa[Px] using D
     have⟨y,A,l⟩:=a.lv (1+j) (by omega) (Lz.1 f).1;rw[f] at A;cases A;exact⟨_,l.leaves⟩
    ·intro j x D R;have f:gs[j]?=Lq x:=D;have⟨y,A,l⟩:=a.lv j (by omega) (Lz.1 f).1;rw[f] at A;cases A;refine⟨fu j,?_⟩;have:=Qd t (Ne.symm R) _ p;unfold UG at this l;rw[this];exact l.hears _
   | succ i=>
    have⟨W,ops,q,b,I,hq,U⟩:=(a.at d).leave (sl:=k) O (by omega) G Z;rw[b] at o;exact Ends.next o (X _ (by rw[<- hN,I];exact uj F hq) W k _ _ d rfl U)
 intro gs sl t fu a;exact H _ gs sl t fu w.drawn rfl a
def E.solo(h:E P Post cl g0 w)(j:∀b,cl b=.mine 0):Ends P Post (solo g0 w) #[]:=by
 rw[solo_eq_crowd];refine h #[g0] Lw #[] (λ_=>0) ⟨rfl,λi o c=>by simp at c;omega,?_,λb _=>j b,rfl,λi g f=>by simp[Trace.g?] at f,λa i c=>by simp[Trace.act?] at c⟩;refine⟨λi a b e=>?_,λi a b e=>?_,λi a b e=>?_,λi a b g e=>?_,λi a b l e=>?_,noRace_nil,λi k c=>by simp at c⟩<;>simp[RN,Trace.act?] at e
end
end
section
open Go.Conc Go.ConcN Go.Sim
def ie(a:Ly->Cl)(Z:Ren):Prop:=∀i j,BR Z i j->a j=.mine 0
structure fQ(M N:Ly)(W:Lt)(Z:Ren)(w:Lt):Prop where
 old:∀j,j<W.heap.size->(∀i,BR Z i j->i<M)->w.heap[j]?=W.heap[j]?
 os:w.os=W.os
 output:w.output=W.output
 size:W.heap.size<=w.heap.size
 inn:∀i j,BR Z i j->M<=i->N<=j
 nsz:N<=w.heap.size
section
variable[JunkSet]{Q P:LV}{F:LD->Lt->Prop}{f:Nh}{real:Lx LW}{Post:LA->Lt->Prop}{W:Lt}{M N:Ly}
def fQ.step{Z O:Ren}{w k:Lt}(h:fQ M N W Z w)(a:Eff M Z O w k):fQ M N W O k where
 old j hj hn:=by
  have b:∀i,BR Z i j->i<M:=λi d=>hn i (d.mono a.le);rw[a.keep j (LY hj h.size) b,h.old j hj b]
 os:=a.os.trans h.os
 output:=a.output.trans h.output
 size:=LN h.size a.size
 inn i j hij d:=by
  rcases NK i Z.length with c | e
  ·exact h.inn i j (BR.back a.le hij c) d
  ·exact LN h.nsz (a.fresh i j hij e)
 nsz:=LN h.nsz a.size
def fQ.at{Z:Ren}{w:Lt}(h:fQ M N W Z w)(d:Ly):fQ M N W Z (w.at d):=⟨h.old,h.os,h.output,h.size,h.inn,h.nsz⟩
def ie.step{e:Ly->Cl}{Z O:Ren}{w l:Lt}{base:Ly}(h:ie e Z)(k:Eff base Z O w l)(n:∀b,w.heap.size<=b->e b=.mine 0):ie e O:=by
 intro i j a;rcases NK i Z.length with c | d
 ·obtain⟨⟨V,rfl⟩,_⟩:=k.le;refine h i j ?_;unfold BR at a ⊢
  rwa [Mv c] at a
 ·exact n j (k.fresh i j a d)
def iw{p:Ly->Cl}{O:Ren}{q w:Lt}{base:Ly}(o:ie p O)(n:WR Q base O q w){e:Ns}(h:ig base O e):EvG p w.heap.size 0 e/\dH e:=by
 cases h with
 | @cell i j l g wr k _ _=>
  refine⟨λx c b d=>?_,by simp[dH],by simp,by simp⟩;have a:x=⟨.cell ⟨j,l,g⟩,wr,.plain⟩:=by cases wr<;>(simp[Ny,Oh] at c;exact c.symm)
  subst a;simp only[blk,MM] at d;subst d;exact⟨n.lt _ _ k,.inl ⟨o _ _ k,rfl⟩⟩
 | @obj i j wr k _=>
  refine⟨λx c b d=>?_,by simp[dH],by simp,by simp⟩;have a:x=⟨.obj j,wr,.plain⟩:=by cases wr<;>(simp[Ny,Oh] at c;exact c.symm)
  subst a;simp only[blk,MM] at d;subst d;exact⟨n.lt _ _ k,.inl ⟨o _ _ k,rfl⟩⟩
 | noRoom=>exact⟨λx c=>by simp[Ny,Oh] at c,by simp[dH],by simp,by simp⟩
 | env=>
  refine⟨λx c b d=>?_,by simp[dH],by simp,by simp⟩;have a:x=⟨.output,LG,.plain⟩:=by simp[Ny,Oh] at c;exact c.symm
  subst a;cases d
def CB{Z:Ren}{base:Ly}{a w:Lt}(h:WR Q base Z a w)(d:Ly):WR Q base Z a (w.at d):=⟨h.len,h.nodup,h.lt,h.obj,h.low,h.env,h.below,h.gar⟩
def um{Z:Ren}{base:Ly}{g b:LD}{a w:Lt}(h:Sub Q P base F f real Z g a b w)(d:Ly):Sub Q P base F f real Z g a b (w.at d):=⟨h.len,CB h.wr d,h.gl,h.tree,h.stack,h.rel⟩
def il{Z:Ren}{base:Ly}{g a:LD}{b w:Lt}(h:Sub Q P base F f real Z g b a w):a.status=.running:=by
 obtain⟨d,c,rfl⟩:=h.rel;exact c.st'
def E.sub{Cp:(Ly->Cl)->Prop}(H:Duo Q P)(hrf:P.follows .rangeFuncRecover=LG)(hR:∀fr,Mq fr real=Lw)(hF:∀g u,F g u->g.callers≠[])(r:∀Z g wq v w i,Sub Q P M F f real Z g wq v w->F g wq->ie i Z->(∀b,w.heap.size<=b->i b=.mine 0)->fQ M N W Z w->Cp i->E P Post i v w)(hK:∀Z C k a L c I pre j wq w i,KE Q P M F f real Z C k a L c I pre j wq w->ie i Z->(∀b,w.heap.size<=b->i b=.mine 0)->fQ M N W Z w->Cp i ->(∀O G o t y l,Sub Q P M F f real O G o t y->ie l O->(∀b,y.heap.size<=b->l b=.mine 0)->fQ M N W O y->Cp l ->Relation.TransGen (Below Q F) (G,o) ({ frame:=MO Q C a k,callers:=c::(pre++[ax f]),status:=.running,dying:=Lw },wq)->E P Post l t y) ->E P Post i { frame:=MO P C L k,callers:=I::(j++real),status:=.running,dying:=Lw } w){Z:Ren}{g v:LD}{wq w:Lt}{i:Ly->Cl}(h:Sub Q P M F f real Z g wq v w)(ho:ie i Z)(hc:∀b,w.heap.size<=b->i b=.mine 0)(hk:fQ M N W Z w)(hp:Cp i):E P Post i v w:=by
 have p:Acc (Relation.TransGen (Below Q F)) (g,wq):=h.tree.acc.transGen;generalize hx:(g,wq)=x at p;induction p generalizing Z g wq v w i with
 | intro x _ T=>
  subst hx;by_cases U:F g wq
  ·exact r Z g wq v w i h U ho hc hk hp
  ·refine E.step (il h) λd=>?_;have⟨O,g1,q,S,z,es,h1,V,D,h4,_,n⟩:=(um h d).stepK H hrf hR U LG hF;have s:ie i O:=ho.step (w:=w.at d) D hc;have B:∀b,z.heap.size<=b->i b=.mine 0:=λb hb=>hc b (LN D.size hb);have A:fQ M N W O z:=fQ.step (w:=w.at d) (hk.at d) D;have R:WR Q M O q z:=by
    rcases n with n | ⟨_,_,_,_,_,_,_,_,n,_⟩
    ·exact n.wr
    ·exact n.wr
   refine⟨S,z,es,h1,D.size,λe he=>iw s R (h4 e he),?_⟩;rcases n with n | ⟨C,k,a,L,c,I,pre,j,n,rfl,rfl⟩
   ·exact T (g1,q) (.single V) n s B A hp rfl
   ·exact hK O C k a L c I pre j q z i n s B A hp λσ2 G o t y l s1 s2 s3 s4 X Y=>T (G,o) (Y.tail V) s1 s2 s3 s4 X rfl
end
end
section
open Go.Conc Go.ConcN Go.Sim
abbrev Bs:=Ly->Prop
structure St where
 S:Bs
 g:LD
 w:Lt
inductive Rk where
 | leaf
 | nd (f:St->Rk)
def Rk.sub:Rk->Rk->Prop
 | _,.leaf=>PC
 | x,.nd f=>∃s,x=f s
def Rk.acc:∀r:Rk,Acc Rk.sub r
 | .leaf=>.intro _ λ_ h=>h.elim
 | .nd f=>.intro _ λ_ ⟨s,e⟩=>e ▸ Rk.acc (f s)
def grow(S:Bs)(w a:Lt):Bs:=λb=>S b\/(w.heap.size<=b/\b<a.heap.size)
structure RC(Fz:Bs)(K:Lt->Lt->Prop)(S:Bs)(w w₁:Lt):Prop where
 own:∀b,S b->w₁.heap[b]?=w.heap[b]?
 fz:∀b,Fz b->w₁.heap[b]?=w.heap[b]?
 size:w.heap.size<=w₁.heap.size
 os:w₁.os=w.os
 output:w₁.output=w.output
 k:K w w₁
def EvC(Fz S:Bs)(a:Ly)(e:Ns):Prop :=
 dH e/\(∀m,e.loc=.mark m->m=.noRoom)/\∀x,(Ny e).touch?=Lq x->∀b,blk x.loc=Lq b->b<a/\x.kind=.plain/\(S b\/(Fz b/\x.write=LH))
structure DC(Fz:Bs)(S:Bs)(w w':Lt)(es:LM Ns):Prop where
 keep:∀b,b<w.heap.size->¬ S b->w'.heap[b]?=w.heap[b]?
 size:w.heap.size<=w'.heap.size
 os:w'.os=w.os
 output:w'.output=w.output
 evs:∀e∈es,EvC Fz (grow S w w') w'.heap.size e
section
variable(P:LV)(Fz:Bs)(K:Lt->Lt->Prop)(Stop:Bs->LD->Lt->Prop)
def Cot:Rk->Bs->LD->Lt->Prop
 | .leaf,S,g,w=>∀w₁,RC Fz K S w w₁->Stop S g w₁
 | .nd f,S,g,w=>g.status=.running/\∀w₁,RC Fz K S w w₁->∃g' w' es,Nb P LH g w₁=.go g' w' es/\DC Fz S w₁ w' es/\Cot (f ⟨grow S w₁ w',g',w'⟩) (grow S w₁ w') g' w'
def az(S:Bs)(g:LD)(w:Lt):Prop:=∃r,Cot P Fz K Stop r S g w
end
section
variable{P:LV}{Fz:Bs}{K:Lt->Lt->Prop}{Stop:Bs->LD->Lt->Prop}{S:Bs}{g:LD}{w w₁ w₂:Lt}
def RC.trans(f:∀a b c,K a b->K b c->K a c)(h:RC Fz K S w w₁)(d:RC Fz K S w₁ w₂):RC Fz K S w w₂ :=
 ⟨λb e=>(d.own b e).trans (h.own b e),λb e=>(d.fz b e).trans (h.fz b e),LN h.size d.size,d.os.trans h.os,d.output.trans h.output,f _ _ _ h.k d.k⟩
def az.stop(h:∀w₁,RC Fz K S w w₁->Stop S g w₁):az P Fz K Stop S g w:=⟨.leaf,h⟩
def az.step(e:g.status=.running)(h:∀w₁,RC Fz K S w w₁->∃b a d,Nb P LH g w₁=.go b a d/\DC Fz S w₁ a d/\az P Fz K Stop (grow S w₁ a) b a):az P Fz K Stop S g w:=by
 classical
 refine⟨.nd λs=>if c:∃r,Cot P Fz K Stop r s.S s.g s.w then ND c else .leaf,e,λw₁ h₁=>?_⟩;have⟨b,a,d,j,i,f⟩:=h w₁ h₁;refine⟨b,a,d,j,i,?_⟩;have c:∃r,Cot P Fz K Stop r (grow S w₁ a) b a:=f;dsimp only;rw[dif_pos c];exact Nk c
def Cot.rely(e:∀a b c,K a b->K b c->K a c){r:Rk}(h:Cot P Fz K Stop r S g w)(d:RC Fz K S w w₁):Cot P Fz K Stop r S g w₁:=by
 cases r with
 | leaf=>exact λw₂ h₂=>h w₂ (d.trans e h₂)
 | nd f=>exact⟨h.1,λw₂ h₂=>h.2 w₂ (d.trans e h₂)⟩
def az.rely(e:∀a b c,K a b->K b c->K a c)(h:az P Fz K Stop S g w)(d:RC Fz K S w w₁):az P Fz K Stop S g w₁:=let ⟨r,h⟩:=h;⟨r,h.rely e d⟩
def xM(S:Bs)(w:Lt):DC Fz S w w #[]:=⟨λ_ _ _=>rfl,LC _,rfl,rfl,by simp⟩
def iY(S:Bs)(w:Lt):grow S w w=S:=by
 funext b
 simp only[grow,eq_iff_iff];exact⟨λh=>h.elim id λ⟨a,b⟩=>by omega,.inl⟩
def az.still{a:LD}(b:g.status=.running)(h:∀w₁,RC Fz K S w w₁->Nb P LH g w₁=.go a w₁ #[])(c:∀w₁,RC Fz K S w w₁->az P Fz K Stop S a w₁):az P Fz K Stop S g w :=
 .step b λw₁ h₁=>⟨a,w₁,#[],h w₁ h₁,xM S w₁,by rw[iY];exact c w₁ h₁⟩
end
end
end Go.Co
namespace Go.Sim
section
section
variable[JunkSet]{P:LV}{c1 c2:LW}{e1 e2:Lx LW}
def Und(c1 c2:LW)(e1 e2:Lx LW)(r b:OA):Prop:=∀g1 u1 a,r=.go g1 u1 a->Live g1->AG g1 ->
 (∃pre,g1.callers=pre++c1::e1/\b=.go { g1 with callers:=pre++c2::e2 } u1 a) \/
 (∃W:LW->LW,((∃v,W=(·.finish v))\/W=id)/\g1.frame=W c1/\g1.callers=e1/\b=.go { g1 with frame:=W c2,callers:=e2 } u1 a) \/
 (∃c,g1.frame=c1.raise c/\g1.callers=e1)
def iJ{r c:OA}{d:LM Ns}(h:Und c1 c2 e1 e2 r c):Und c1 c2 e1 e2 (Ni d r) (Ni d c):=λn u1 l e g f=>by
 obtain⟨o,k,rfl⟩:=dc e;rcases h _ _ _ k g f with⟨pre,a,b⟩ | ⟨W,a,b,j,i⟩ | a
 ·exact .inl ⟨pre,a,by rw[b];rfl⟩
 ·exact .inr (.inl ⟨W,a,b,j,by rw[i];rfl⟩)
 ·exact .inr (.inr a)
def bt{o:Uo}{u:Lt}{b:LM Ns}{a:OA}:Und c1 c2 e1 e2 (.ended o u b) a:=λ_ _ _ e _ _=>by cases e
def kj{r b:OA}(h:∀g u a,r≠.go g u a):Und c1 c2 e1 e2 r b:=λg u a e _ _=>absurd e (h g u a)
def FM{g:LD}{u:Lt}{c:LM Ns}{a:OA}(h:¬ Live g):Und c1 c2 e1 e2 (.go g u c) a:=λ_ _ _ e b _=>by cases e;exact absurd b h
def vF{c:LW}{d:Lx LW}{m:String}{u:Lt}{a:OA}:Und c1 c2 e1 e2 (To P c d Lw m u) a:=λf u1 g e b _=>absurd b.2 (bz e)
def qe{b:LW}{m:String}{u:Lt}{a:OA}:Und c1 c2 e1 e2 (SF b m u) a:=FM λh=>by cases h.2
def eM{c:LW}{pre:Lx LW}{b:OS}{f:LU Re}{a:LU (LM Pg × OK)}{u:Lt}{d:LM Ns} :Und c1 c2 e1 e2 (.go { frame:=c,callers:=pre++c1::e1,status:=b,dying:=f,offers:=a } u d) (.go { frame:=c,callers:=pre++c2::e2,status:=b,dying:=f,offers:=a } u d):=λ_ _ _ e _ _=>by
 cases e;exact .inl ⟨pre,rfl,rfl⟩
def zP{d a:LW}{pre:Lx LW}{c:OS}{f:LU Re}{b:LU (LM Pg × OK)}{u:Lt}{e:LM Ns} :Und c1 c2 e1 e2 (.go { frame:=d,callers:=a::(pre++c1::e1),status:=c,dying:=f,offers:=b } u e) (.go { frame:=d,callers:=a::(pre++c2::e2),status:=c,dying:=f,offers:=b } u e) :=
 eM (pre:=a::pre)
def It{d a:LW}{X pre:Lx LW}{c:OS}{g:LU Re}{b:LU (LM Pg × OK)}{u:Lt}{f:LM Ns} :Und c1 c2 e1 e2 (.go { frame:=d,callers:=X++a::(pre++c1::e1),status:=c,dying:=g,offers:=b } u f) (.go { frame:=d,callers:=X++a::(pre++c2::e2),status:=c,dying:=g,offers:=b } u f):=λ_ _ _ e _ _=>by
 cases e;exact .inl ⟨X++a::pre,by simp,by simp⟩
def CG{c:LW}{l:Lx LW}{d:OS}{j:LU Re}{b:LU (LM Pg × OK)}{u:Lt}{i:LM Ns}{f:OA}{x:String}{a:LM LA}{k:Lx PW}(h:c.todo=.extern x a::k):Und c1 c2 e1 e2 (.go { frame:=c,callers:=l,status:=d,dying:=j,offers:=b } u i) f:=λ_ _ _ e _ g=>by
 cases e;exact absurd h (g _ _ _)
structure pA(c1 c2:LW)(e1 e2:Lx LW):Prop where
 m1:c1.mode=.run
 m2:c2.mode=.run
 r1:∀fr,Mq fr (c1::e1)=Lw
 r2:∀fr,Mq fr (c2::e2)=Lw
def wP{c:LW}{e:Lx LW}(hm:c.mode=.run)(b:∀a,Mq a e=Lw)(a:LW):Mq a (c::e)=Lw:=by
 unfold Mq;cases a.kind with
 | deferred=>simp[hm]
 | wrapped=>simp[b]
 | _=>rfl
def qf(e:pA c1 c2 e1 e2):∀(pre:Lx LW) (b:LW),(Mq b (pre++c1::e1)=Lw/\Mq b (pre++c2::e2)=Lw)\/∃v a,Mq b (pre++c1::e1)=Lq (v,a++c1::e1)/\Mq b (pre++c2::e2)=Lq (v,a++c2::e2):=by
 intro pre;induction pre with
 | nil=>intro b;exact .inl ⟨e.r1 b,e.r2 b⟩
 | cons p pre f=>
  intro b;simp only[Mk];unfold Mq;cases hk:b.kind with
  | deferred=>
   dsimp only;split
   ·exact .inr ⟨_,_::pre,rfl,rfl⟩
   ·exact .inl ⟨rfl,rfl⟩
  | wrapped=>
   dsimp only;rcases f p with⟨d,c⟩ | ⟨v,a,d,c⟩
   ·rw[d,c];exact .inl ⟨rfl,rfl⟩
   ·rw[d,c];exact .inr ⟨v,p::a,rfl,rfl⟩
  | _=>exact .inl ⟨rfl,rfl⟩
def nL(c:pA c1 c2 e1 e2){a:LW}{pre:Lx LW}(b d:MC)(v:LA)(u:Lt):Und c1 c2 e1 e2 (NX P b a (pre++c1::e1) Lw v u) (NX P d a (pre++c2::e2) Lw v u):=by
 unfold NX;cases pre with
 | nil=>
  simp only[Mu,c.m1,c.m2];intro f u1 g e _ _;cases hk:a.kind<;>simp only[hk] at e ⊢<;>cases e
  ·exact .inr (.inl ⟨(·.finish v),.inl ⟨v,rfl⟩,rfl,rfl,rfl⟩)
  ·exact .inr (.inl ⟨id,.inr rfl,rfl,rfl,rfl⟩)
  ·exact .inr (.inl ⟨(·.finish v),.inl ⟨v,rfl⟩,rfl,rfl,rfl⟩)
  ·exact .inr (.inl ⟨id,.inr rfl,rfl,rfl,rfl⟩)
  ·exact .inr (.inl ⟨id,.inr rfl,rfl,rfl,rfl⟩)
 | cons p pre=>
  simp only[Mk];split<;>exact eM
def CH{a:LW}{pre:Lx LW}(g:Ly)(u:Lt):Und c1 c2 e1 e2 (early P a (pre++c1::e1) Lw g u) (early P a (pre++c2::e2) Lw g u):=by
 unfold early;dsimp only
 repeat' split
 all_goals first
  | exact eM
  | exact bt
  | exact It
def kl(hrf:P.follows .rangeFuncRecover=LG)(h:pA c1 c2 e1 e2){b:LW}{pre:Lx LW}(s:Ps Qz)(u:Lt):Und c1 c2 e1 e2 (Nq P LG b (pre++c1::e1) Lw s u) (Nq P LG b (pre++c2::e2) Lw s u):=by
 unfold Nq;simp only[if_true,ME,hrf];refine iJ ?_;cases s.run P u with
 | ok a w=>
  cases a with
  | recover=>
   rcases qf h pre b with⟨g,f⟩ | ⟨v,c,g,f⟩<;>cases hro:b.roundOf<;>simp only[g,f,hro]<;>exact eM
  | stack r i=>
   dsimp only;split
   ·exact CG rfl
   ·exact CG rfl
  | spawn d=>
   dsimp only
   repeat' split
   all_goals first
    | exact qe
    | exact kj (λ_ _ _ e=>by cases e)
  | _=>
   dsimp only
   repeat' split
   all_goals first
    | exact eM
    | exact zP
    | exact kj (λ_ _ _ e=>by cases e)
 | halt x w=>
  cases x with
  | fatal m=>exact vF
  | throw m=>exact qe
  | unsupported x=>cases x<;>first | exact CH _ _ | exact bt
  | _=>first | exact eM | exact bt
def vG(s:pA c1 c2 e1 e2){f:LW}{pre:Lx LW}(d:NR)(u:Lt):Und c1 c2 e1 e2 (NT P f (pre++c1::e1) Lw d u) (NT P f (pre++c2::e2) Lw d u):=by
 unfold NT;by_cases g:(gK d.target && gJ f.mode)=LG
 ·have:∀(a b j:OA),(∃o u p,a=.ended o u p)->Und c1 c2 e1 e2 (if(gK d.target && gJ f.mode)=LG then a else b) j:=λa b j ⟨o,u,p,e⟩=>by
   rw[if_pos g,e];exact bt
  exact this _ _ _ ⟨_,_,_,rfl⟩
 have h:∀(a b q i:OA),Und c1 c2 e1 e2 b i->Und c1 c2 e1 e2 (if(gK d.target && gJ f.mode)=LG then a else b) (if(gK d.target && gJ f.mode)=LG then q else i):=λa b q i r=>by rw[if_neg g,if_neg g];exact r
 refine h _ _ _ _ ?_;simp only[ME];refine iJ ?_;cases Nm P (invoke d.target d.args) u with
 | ok a w=>
  cases a with
  | recover=>
   dsimp only;rcases qf s pre f with⟨n,l⟩ | ⟨v,k,n,l⟩<;>rw[n,l]<;>cases f.mode<;>exact eM
  | coroswitch c e=>cases e<;>first | exact bt | exact kj (λ_ _ _ e=>by cases e)
  | alone on v=>cases on<;>first | exact bt | exact kj (λ_ _ _ e=>by cases e)
  | _=>
   first
    | exact eM
    | exact zP
    | exact bt
    | exact kj (λ_ _ _ e=>by cases e)
 | halt x w=>
  cases x with
  | fatal m=>exact vF
  | throw m=>exact qe
  | _=>first | exact eM | exact bt
def sK(a:pA c1 c2 e1 e2){c:LW}{pre:Lx LW}(b d:MC)(u:Lt):Und c1 c2 e1 e2 (Qw P b c (pre++c1::e1) Lw u) (Qw P d c (pre++c2::e2) Lw u):=by
 unfold Qw;split
 ·simp only[ME];refine iJ ?_;split
  ·exact eM
  ·exact bt
 ·exact vG a _ _
 ·split
  ·exact bt
  ·split
   ·exact bt
   ·cases pre with
    | nil=>
     intro f u1 g e _ _;cases e;exact .inr (.inr ⟨_,rfl,rfl⟩)
    | cons p pre=>exact eM
  ·split
   ·exact nL a _ _ _ _
   ·simp only[ME];refine iJ ?_;split
    ·exact nL a _ _ _ _
    all_goals exact bt
def FL(hrf:P.follows .rangeFuncRecover=LG)(c:pA c1 c2 e1 e2){fr:LW}{pre:Lx LW}(b f:MC)(u:Lt) :Und c1 c2 e1 e2 (Pf P b LG fr (pre++c1::e1) Lw u) (Pf P f LG fr (pre++c2::e2) Lw u):=by
 have a:∀(j:MC) (e:LU Og) (s d:String),Und c1 c2 e1 e2 (match fr.roundOf with
   | none=>if j=LG then .go { frame:={ fr with mode:=.returning },callers:=pre++c1::e1,status:=.running,dying:=Lw } u else .ended (.stuck s (fr.pos P)) u
   | some l=>
    let (r,es):=(OR l e).runT P u #[]
    Ni (seen P fr.fn es) <| match r with
    | .ok v w=>NX P b fr (pre++c1::e1) Lw v w
    | .halt _ w=>.ended (.stuck d (fr.pos P)) w) (match fr.roundOf with
   | none=>if j=LG then .go { frame:={ fr with mode:=.returning },callers:=pre++c2::e2,status:=.running,dying:=Lw } u else .ended (.stuck s (fr.pos P)) u
   | some l=>
    let (r,es):=(OR l e).runT P u #[]
    Ni (seen P fr.fn es) <| match r with
    | .ok v w=>NX P f fr (pre++c2::e2) Lw v w
    | .halt _ w=>.ended (.stuck d (fr.pos P)) w):=λj e s d=>by
  split
  ·split
   ·exact eM
   ·exact bt
  ·simp only[ME];refine iJ ?_;split
   ·exact nL c _ _ _ _
   ·exact bt
 unfold Pf;dsimp only;split
 ·exact a LG _ _ _
 ·exact a LG _ _ _
 all_goals first
  | exact eM
  | exact bt
  | exact kl hrf c _ _
  | (
    generalize Rz _ _=X;cases X
    ·exact a LH _ _ _
    ·exact eM)
  | (
    generalize Sl _ _=X;cases X
    ·exact a LH _ _ _
    ·exact eM)
  | (
    unfold Ta
    repeat' split
    all_goals first
     | exact eM
     | exact bt
     | exact kl hrf c _ _)
  | (
    simp only[ME];refine iJ ?_
    repeat' split
    all_goals first
     | exact eM
     | exact bt
     | exact kl hrf c _ _)
  | (
    repeat' split
    all_goals first
     | exact eM
     | exact bt
     | exact kl hrf c _ _)
  | (
    generalize Extern.next _=X
    cases X
    ·exact bt
    ·exact kl hrf c _ _)
def yj(hrf:P.follows .rangeFuncRecover=LG)(c:pA c1 c2 e1 e2){g:LD}{pre:Lx LW}(h:g.callers=pre++c1::e1)(d:g.dying=Lw)(b a:MC)(u:Lt) :Und c1 c2 e1 e2 (Nb P b g u LG) (Nb P a { g with callers:=pre++c2::e2 } u LG):=by
 obtain⟨f,k,i,j,e⟩:=g;dsimp only at h d;subst d;subst h;unfold Nb;dsimp only;cases f.mode with
 | run=>exact FL hrf c b a u
 | returning=>exact sK c b a u
 | panicking l=>exact sK c b a u
end
end
section
def tl(k:Lx PW)(D:Lx NR)(fr:LW):LW:={ fr with todo:=fr.todo++k,defers:=fr.defers++D }
def Im:PW->MC
 | .call .. | .extern ..=>LH
 | _=>LG
structure Pc(fr:LW):Prop where
 mode:fr.mode=.run
 round:fr.roundOf=Lw
 todo:∃x l,fr.todo=x::l/\Im x=LG
section
variable[JunkSet]{P:LV}{k:Lx PW}{D:Lx NR}{e1 e2:Lx LW}
def Top(k:Lx PW)(D:Lx NR)(e1 e2:Lx LW)(r b:OA):Prop:=∀g1 u1 a,r=.go g1 u1 a->Live g1->AG g1 ->
 (g1.callers=e1/\g1.frame.mode=.run/\g1.frame.roundOf=Lw/\b=.go { g1 with frame:=tl k D g1.frame,callers:=e2 } u1 a) \/
 (∃pre c,g1.callers=pre++c::e1/\Pc c/\b=.go { g1 with callers:=pre++tl k D c::e2 } u1 a) \/
 (g1.callers=e1/\g1.frame.mode≠.run)
def qh{r f:OA}{g:LM Ns}(h:Top k D e1 e2 r f):Top k D e1 e2 (Ni g r) (Ni g f):=λp u1 o e j i=>by
 obtain⟨q,n,rfl⟩:=dc e;rcases h _ _ _ n j i with⟨a,d,b,l⟩ | ⟨pre,c,a,d,b⟩ | a
 ·exact .inl ⟨a,d,b,by rw[l];rfl⟩
 ·exact .inr (.inl ⟨pre,c,a,d,by rw[b];rfl⟩)
 ·exact .inr (.inr a)
def cX{o:Uo}{u:Lt}{b:LM Ns}{a:OA}:Top k D e1 e2 (.ended o u b) a:=λ_ _ _ e _ _=>by cases e
def vK{r b:OA}(h:∀g u a,r≠.go g u a):Top k D e1 e2 r b:=λg u a e _ _=>absurd e (h g u a)
def pQ{g:LD}{u:Lt}{c:LM Ns}{a:OA}(h:¬ Live g):Top k D e1 e2 (.go g u c) a:=λ_ _ _ e b _=>by cases e;exact absurd b h
def CO{c:LW}{d:Lx LW}{m:String}{u:Lt}{a:OA}:Top k D e1 e2 (To P c d Lw m u) a:=λf u1 g e b _=>absurd b.2 (bz e)
def vJ{b:LW}{m:String}{u:Lt}{a:OA}:Top k D e1 e2 (SF b m u) a:=pQ λh=>by cases h.2
def CN{fr:LW}(hm:fr.mode=.run)(g:fr.roundOf=Lw){c:OS}{f:LU Re}{a:LU (LM Pg × OK)}{u:Lt}{d:LM Ns}{b:LW}(e:b=tl k D fr) :Top k D e1 e2 (.go { frame:=fr,callers:=e1,status:=c,dying:=f,offers:=a } u d) (.go { frame:=b,callers:=e2,status:=c,dying:=f,offers:=a } u d):=λ_ _ _ h _ _=>by
 cases h;exact .inl ⟨rfl,hm,g,by rw[e]⟩
def mH{d c:LW}(g:Pc c){X:Lx LW}{b:OS}{f:LU Re}{a:LU (LM Pg × OK)}{u:Lt}{e:LM Ns} :Top k D e1 e2 (.go { frame:=d,callers:=X++c::e1,status:=b,dying:=f,offers:=a } u e) (.go { frame:=d,callers:=X++tl k D c::e2,status:=b,dying:=f,offers:=a } u e):=λ_ _ _ h _ _=>by
 cases h;exact .inr (.inl ⟨X,c,rfl,g,rfl⟩)
def Iv{c:LW}{n:Lx LW}{d:OS}{j:LU Re}{b:LU (LM Pg × OK)}{u:Lt}{i:LM Ns}{f:OA}{x:String}{a:LM LA}{l:Lx PW}(h:c.todo=.extern x a::l):Top k D e1 e2 (.go { frame:=c,callers:=n,status:=d,dying:=j,offers:=b } u i) f:=λ_ _ _ e _ g=>by
 cases e;exact absurd h (g _ _ _)
def uh{b:LW}(hm:b.mode≠.run){c:OS}{f:LU Re}{a:LU (LM Pg × OK)}{u:Lt}{e:LM Ns}{d:OA} :Top k D e1 e2 (.go { frame:=b,callers:=e1,status:=c,dying:=f,offers:=a } u e) d:=λ_ _ _ h _ _=>by
 cases h;exact .inr (.inr ⟨rfl,hm⟩)
def gp(a:LW)(b:Lx QU):(a.raise b).mode≠.run:=by
 unfold UN;split<;>simp
def FO(a:LW):(tl k D a).eval=a.eval:=by funext x;cases x<;>rfl
def sO{a:LW}(h:Pc a)(v:LA):(tl k D a).finish v=tl k D (a.finish v):=by
 have⟨x,l,e,i⟩:=h.todo;obtain⟨p,d,c,b,f,g,o⟩:=a;dsimp only at e;subst e;unfold tl Un;cases x with
 | inRegion j n=>cases n<;>rfl
 | call=>cases i
 | extern=>cases i
 | _=>rfl
def kL(a:LW)(v:LA):(a.finish v).mode=a.mode/\(a.finish v).kind=a.kind/\(a.finish v).roundOf=a.roundOf:=by
 unfold Un;split<;>exact⟨rfl,rfl,rfl⟩
def qg{b:LW}(h:Pc b)(v:LA){c:OS}{e:LU Re}{a:LU (LM Pg × OK)}{u:Lt}{d:LM Ns} :Top k D e1 e2 (.go { frame:=b.finish v,callers:=e1,status:=c,dying:=e,offers:=a } u d) (.go { frame:=(tl k D b).finish v,callers:=e2,status:=c,dying:=e,offers:=a } u d):=by
 have⟨g,i,f⟩:=kL b v;exact CN (g.trans h.mode) (f.trans h.round) (sO h v)
def CP{a:LW}(h:Pc a)(g:Ly)(u:Lt):Top k D e1 e2 (early P a e1 Lw g u) (early P (tl k D a) e2 Lw g u):=by
 have c:∀{u:Lt} {es:LM Ns},Top k D e1 e2 (.go { frame:=a,callers:=e1,status:=.running,dying:=Lw } u es) (.go { frame:=tl k D a,callers:=e2,status:=.running,dying:=Lw } u es):=CN h.mode h.round rfl;unfold early;have b:(tl k D a).kind=a.kind:=rfl;dsimp only;simp only[b]
 repeat' split
 all_goals first
  | exact c
  | exact cX
  | exact mH h
def vL(hrf:P.follows .rangeFuncRecover=LG)(p:∀fr,Mq fr e1=Lw)(o:∀fr,Mq fr e2=Lw){fr:LW}(h:Pc fr)(s:Ps Qz)(u:Lt):Top k D e1 e2 (Nq P LG fr e1 Lw s u) (Nq P LG (tl k D fr) e2 Lw s u):=by
 obtain⟨fn,tmps,todo,defers,mode,kind,I⟩:=fr;obtain⟨B,A,z⟩:=h;dsimp only at B A;subst B A;obtain⟨fr,c⟩:∃fr:LW,fr={ fn,tmps,todo,defers,mode:=.run,kind,roundOf:=Lw }:=⟨_,rfl⟩;have h:Pc { fn,tmps,todo,defers,mode:=.run,kind,roundOf:=Lw }:=⟨rfl,rfl,z⟩;rw[<- c] at h ⊢;have⟨x,l,e,j⟩:=h.todo;have n:(tl k D fr).roundOf=Lw:=h.round;have q:(tl k D fr).kind=fr.kind:=rfl;have y:(tl k D fr).fn=fr.fn:=rfl;have i:(tl k D fr).todo=x::(l++k):=by show fr.todo++k=_;rw[e];rfl
 have F:∀d:NR,({ (tl k D fr) with defers:=d::(tl k D fr).defers }:LW)=tl k D { fr with defers:=d::fr.defers }:=λd=>rfl;unfold Nq;simp only[if_true,ME,hrf,h.round,n,q,y];refine qh ?_;cases s.run P u with
 | ok a w=>
  cases a with
  | recover=>
   simp only[p,o];exact qg h _
  | stack r C=>
   dsimp only;rw[e,i];cases x<;>first | (cases j;done) | exact Iv rfl
  | spawn d=>
   dsimp only
   repeat' split
   all_goals first
    | exact vJ
    | exact vK (λ_ _ _ e=>by cases e)
  | value v=>exact qg h v
  | skip=>exact qg h _
  | defer d=>
   subst c;have G:Pc { fn,tmps,todo,defers:=d::defers,mode:=.run,kind,roundOf:=Lw }:=⟨rfl,rfl,z⟩;exact qg (k:=k) (D:=D) G LI
  | enter f g=>
   dsimp only;rw[e,i];cases x<;>first | (cases j;done) | exact(mH (X:=[]) h)
  | callThen d r C wr=>
   dsimp only;rw[e,i];cases x<;>first | (cases j;done) | exact(mH (X:=[]) h)
  | row r g=>
   dsimp only;rw[e,i];cases x<;>first | (cases j;done) | exact(mH (X:=[]) h)
  | round l f H M L=>exact(mH (X:=[]) h)
  | sleep t=>exact pQ λb=>by cases b.1
  | _=>exact vK (λ_ _ _ e=>by cases e)
 | halt x w=>
  cases x with
  | fatal m=>exact CO
  | throw m=>exact vJ
  | unsupported x=>cases x<;>first | exact CP h _ _ | exact cX
  | panic v=>exact uh (gp _ _)
  | goexit=>exact uh (gp _ _)
  | blocked=>exact pQ λb=>by cases b.1
  | waiting=>exact pQ λb=>by cases b.1
  | _=>exact cX
def mB{id:Ly}{b:Lx PW}:∀{l:Lx PW},Rz id l=Lq b->Rz id (l++k)=Lq (b++k)
 | [],h=>by simp[Rz] at h
 | x::l,h=>by
  cases x with
  | inBlock c=>
   simp only[Rz,Mk] at h ⊢;split
   ·rename_i a;rw[if_pos a] at h;cases h;rfl
   ·rename_i a;rw[if_neg a] at h;exact mB h
  | _=>simp only[Rz,Mk] at h ⊢;exact mB h
def mq{id:Ly}{b:Lx PW}:∀{l:Lx PW},Sl id l=Lq b->Sl id (l++k)=Lq (b++k)
 | [],h=>by simp[Sl] at h
 | x::l,h=>by
  cases x with
  | inScope a=>
   simp only[Sl,Mk] at h ⊢;cases hf:findLabel a id with
   | none=>rw[hf] at h;exact mq h
   | some r=>rw[hf] at h;cases h;rfl
  | _=>simp only[Sl,Mk] at h ⊢;exact mq h
def CQ(hrf:P.follows .rangeFuncRecover=LG)(B:∀fr,Mq fr e1=Lw)(A:∀fr,Mq fr e2=Lw){g:LD}(h:Pc g.frame)(Q:g.callers=e1)(O:g.dying=Lw)(b b':MC)(u:Lt) :Top k D e1 e2 (Nb P b g u LG) (Nb P b' { g with frame:=tl k D g.frame,callers:=e2 } u LG):=by
 obtain⟨⟨fn,tmps,todo,defers,mode,kind,ro⟩,G,st,dy,off⟩:=g;dsimp only at h Q O;subst O;subst Q;obtain⟨T,S,X⟩:=h;dsimp only at T S;subst T S;obtain⟨fr,C⟩:∃fr:LW,fr={ fn,tmps,todo,defers,mode:=.run,kind,roundOf:=Lw }:=⟨_,rfl⟩;have h:Pc { fn,tmps,todo,defers,mode:=.run,kind,roundOf:=Lw }:=⟨rfl,rfl,X⟩;rw[<- C] at h ⊢;have⟨x,l,e,N⟩:=h.todo;have hm:=h.mode;have p:=h.round;have o:∀(t:Lx PW) {st:OS} {dy:LU Re} {off:LU (LM Pg × OK)} {u:Lt} {es:LM Ns},
   Top k D G e2 (.go { frame:={ fr with todo:=t },callers:=G,status:=st,dying:=dy,offers:=off } u es) (.go { frame:={ (tl k D fr) with todo:=t++k },callers:=e2,status:=st,dying:=dy,offers:=off } u es):=λt=>CN (fr:={ fr with todo:=t }) h.mode h.round rfl
 have R:∀(s:Ps Qz) (u:Lt),Top k D G e2 (Nq P LG fr G Lw s u) (Nq P LG (tl k D fr) e2 Lw s u):=λs u=>vL hrf B A h s u;have M:(tl k D fr).todo=x::(l++k):=by show fr.todo++k=_;rw[e];rfl
 have I:(tl k D fr).mode=.run:=hm;have r:(tl k D fr).roundOf=Lw:=p;have F:(tl k D fr).eval=fr.eval:=FO fr;have v:(tl k D fr).fn=fr.fn:=rfl;have z:(tl k D fr).tmps=fr.tmps:=rfl;unfold Nb;dsimp only;rw[hm,I];dsimp only;unfold Pf;dsimp only;rw[e,M];cases x with
 | code c=>
  cases c with
  | skip=>exact o l
  | label n=>exact o l
  | seq a b=>exact o (.code a::.code b::l)
  | block id f=>exact o (.code f::.inBlock id::l)
  | loop f=>exact o (.code f::.inLoop f::l)
  | scope f=>exact o (.code f::.inScope f::l)
  | refuse w=>exact cX
  | ret=>
   dsimp only;rw[p];exact uh (by simp)
  | cond c a b=>
   dsimp only;rw[F];split
   ·exact o (_::l)
   ·exact cX
  | exit id=>
   dsimp only;cases hx:Rz id l with
   | none=>simp only[Ws,p];exact cX
   | some H=>rw[mB hx];exact o H
  | goto id=>
   dsimp only;cases hx:Sl id l with
   | none=>simp only[Ws,p];exact cX
   | some H=>rw[mq hx];exact o H
  | region id q U=>
   dsimp only;split
   ·exact o (.inRegion q (Mr q.size)::l)
   ·rw[v];split
    ·exact o (.inRegion q _::l)
    ·exact cX
  | rangeFunc Y ps as f=>
   dsimp only;rw[v,z,p,r];simp only[ME];refine qh ?_;split
   ·rename_i y mk w _
    subst C;have W:Pc { fn,tmps,todo:=.inRangeFunc y::l,defers:=mk++defers,mode:=.run,kind,roundOf:=Lw }:=⟨rfl,rfl,_,_,rfl,rfl⟩;have:=vL (k:=k) (D:=D) (e1:=G) (e2:=e2) (P:=P) hrf B A W (do let d <- resolve (QH { fn,tmps,todo:=.inRangeFunc y::l,defers:=mk++defers,mode:=.run,kind,roundOf:=Lw }) { callee:=.value Y,args:=#[.const (.func (.yield y) #[] #[])],argTypes:=#[] } 0;invoke d.target d.args) w;have Z:tl k D { fn,tmps,todo:=.inRangeFunc y::l,defers:=mk++defers,mode:=.run,kind,roundOf:=Lw }={ fn,tmps,todo:=.inRangeFunc y::(l++k),defers:=mk++(defers++D),mode:=.run,kind,roundOf:=Lw }:=by
     simp[tl]
    rw[Z] at this;exact this
   ·exact cX
 | inBlock id=>exact o l
 | inScope c=>exact o l
 | inLoop f=>exact o (.code f::.inLoop f::l)
 | inRangeFunc n=>exact cX
 | beginRound=>
  dsimp only;rw[p,r];exact R _ u
 | endRangeFunc n=>
  dsimp only;rw[v];simp only[ME];refine qh ?_;split
  ·rename_i j w _
   have:=o ((j.map Item.code).toList++l) (st:=.running) (dy:=Lw) (off:=Lw) (u:=w) (es:=#[]);rw[OE] at this;exact this
  ·exact uh (gp _ _)
  ·exact cX
 | inRegion q L=>
  cases L with
  | nil=>exact o l
  | cons i L=>
   dsimp only;rw[z];split
   ·unfold Ta;have V:(tl k D fr).oper?=fr.oper?:=by unfold Frame.oper?;rw[e,M]
    rw[V];split
    ·exact cX
    ·rw[p,r,F];exact R _ u
   ·exact qg h LI
 | call=>cases N
 | extern=>cases N
end
end
section
def Hx(e1:Lx LW)(g:LD):Prop:=(g.callers=e1/\g.frame.mode≠.run)\/∃pre c,g.callers=pre++c::e1/\c.mode≠.run
section
variable[JunkSet]{P:LV}{e1:Lx LW}
def Dm(e1:Lx LW)(r:OA):Prop:=∀a u1 b,r=.go a u1 b->Live a->Hx e1 a\/(∃x,e1=x::a.callers)
def eK{r:OA}{d:LM Ns}(h:Dm e1 r):Dm e1 (Ni d r):=λf u1 c e a=>by
 obtain⟨g,b,rfl⟩:=dc e;exact h _ _ _ b a
def aU{o:Uo}{u:Lt}{a:LM Ns}:Dm e1 (.ended o u a):=λ_ _ _ e _=>by cases e
def fK{r:OA}(h:∀g u a,r≠.go g u a):Dm e1 r:=λg u a e _=>absurd e (h g u a)
def He{g:LD}{u:Lt}{b:LM Ns}(h:¬ Live g):Dm e1 (.go g u b):=λ_ _ _ e a=>by cases e;exact absurd a h
def rE{b:LW}{c:Lx LW}{m:String}{u:Lt}:Dm e1 (To P b c Lw m u):=λd u1 f e a=>absurd a.2 (bz e)
def nD{a:LW}{m:String}{u:Lt}:Dm e1 (SF a m u):=He λh=>by cases h.2
def ee{f c:LW}{pre:Lx LW}(d:c.mode≠.run){b:OS}{h:LU Re}{a:LU (LM Pg × OK)}{u:Lt}{g:LM Ns} :Dm e1 (.go { frame:=f,callers:=pre++c::e1,status:=b,dying:=h,offers:=a } u g):=λ_ _ _ e _=>by
 cases e;exact .inl (.inr ⟨pre,c,rfl,d⟩)
def Aw{f a c:LW}{pre:Lx LW}(e:c.mode≠.run){d:OS}{h:LU Re}{b:LU (LM Pg × OK)}{u:Lt}{g:LM Ns} :Dm e1 (.go { frame:=f,callers:=a::(pre++c::e1),status:=d,dying:=h,offers:=b } u g):=ee (pre:=a::pre) e
def Jl{g a c:LW}{X pre:Lx LW}(f:c.mode≠.run){d:OS}{i:LU Re}{b:LU (LM Pg × OK)}{u:Lt}{h:LM Ns} :Dm e1 (.go { frame:=g,callers:=X++a::(pre++c::e1),status:=d,dying:=i,offers:=b } u h):=λ_ _ _ e _=>by
 cases e;exact .inl (.inr ⟨X++a::pre,c,by simp,f⟩)
def iB{b:LW}(d:b.mode≠.run){c:OS}{g:LU Re}{a:LU (LM Pg × OK)}{u:Lt}{f:LM Ns} :Dm e1 (.go { frame:=b,callers:=e1,status:=c,dying:=g,offers:=a } u f):=λ_ _ _ e _=>by
 cases e;exact .inl (.inl ⟨rfl,d⟩)
def zB:∀(pre:Lx LW) (b c:LW) (v:LA) (d:Lx LW),c.mode≠.run->Mq b (pre++c::e1)=Lq (v,d)->(∀b,Mq b e1=Lw)->∃a f,d=a++f::e1/\f.mode≠.run:=by
 intro pre;induction pre with
 | nil=>
  intro b c v d i h hR;simp only[Mu] at h;unfold Mq at h;cases hk:b.kind with
  | deferred=>
   rw[hk] at h;dsimp only at h;split at h
   ·simp only[MM,Prod.mk.injEq] at h;exact⟨[],_,h.2.symm,by simp⟩
   ·cases h
  | wrapped=>
   rw[hk] at h;dsimp only at h;rw[hR] at h;cases h
  | _=>rw[hk] at h;cases h
 | cons p pre j=>
  intro b c v d i h hR;simp only[Mk] at h;unfold Mq at h;cases hk:b.kind with
  | deferred=>
   rw[hk] at h;dsimp only at h;split at h
   ·simp only[MM,Prod.mk.injEq] at h;exact⟨_::pre,c,h.2.symm,i⟩
   ·cases h
  | wrapped=>
   rw[hk] at h;dsimp only at h;cases ht:Mq p (pre++c::e1) with
   | none=>rw[ht] at h;cases h
   | some x=>
    obtain⟨k,l⟩:=x;rw[ht] at h;simp only[Ng,MM,Prod.mk.injEq] at h;have⟨a,f,e,g⟩:=j _ _ _ _ i ht hR;exact⟨p::a,f,by rw[<- h.2,e];rfl,g⟩
  | _=>rw[hk] at h;cases h
def tP(a:LW)(v:LA):(a.finish v).mode=a.mode:=(kL a v).1
def oH{d c:LW}{pre:Lx LW}(a:c.mode≠.run)(b:MC)(v:LA)(u:Lt):Dm e1 (NX P b d (pre++c::e1) Lw v u):=by
 unfold NX;cases pre with
 | nil=>
  simp only[Mu];split
  ·exact iB (by rw[tP];exact a)
  ·exact iB (by rw[tP];exact a)
  ·exact iB a
  ·refine iB ?_;split
   ·split<;>simp
   ·exact a
 | cons p pre=>
  simp only[Mk];split<;>exact ee a
def EV{b c:LW}{pre:Lx LW}(a:c.mode≠.run)(g:Ly)(u:Lt):Dm e1 (early P b (pre++c::e1) Lw g u):=by
 unfold early;dsimp only
 repeat' split
 all_goals first
  | exact ee a
  | exact aU
  | exact Jl a
variable(hrf:P.follows .rangeFuncRecover=LG)(hR:∀fr,Mq fr e1=Lw)
include hR
theorem ET{g c:LW}{pre:Lx LW}(i:c.mode≠.run){v:LA}{d:Lx LW}(h:Mq g (pre++c::e1)=Lq (v,d)){b:LW}{u:Lt}{j:LM Ns}:Dm e1 (.go { frame:=b,callers:=d,status:=.running,dying:=Lw } u j):=by
 have⟨f,k,e,a⟩:=zB pre g c v d i h hR;rw[e];exact ee a
theorem kP(hrf:P.follows .rangeFuncRecover=LG){f c:LW}{pre:Lx LW}(b:c.mode≠.run)(s:Ps Qz)(u:Lt):Dm e1 (Nq P LG f (pre++c::e1) Lw s u):=by
 unfold Nq;simp only[if_true,ME,hrf];refine eK ?_;cases s.run P u with
 | ok a w=>
  cases a with
  | recover=>
   rcases hX:Mq f (pre++c::e1) with _ | ⟨v,k⟩<;>cases hro:f.roundOf<;>simp only[hX,hro]<;>first | exact ET hR b hX | exact ee b
  | spawn d=>
   dsimp only
   repeat' split
   all_goals first
    | exact nD
    | exact fK (λ_ _ _ e=>by cases e)
  | _=>
   dsimp only
   repeat' split
   all_goals first
    | exact ee b
    | exact Aw b
    | exact fK (λ_ _ _ e=>by cases e)
 | halt x w=>
  cases x with
  | fatal m=>exact rE
  | throw m=>exact nD
  | unsupported x=>cases x<;>first | exact EV b _ _ | exact aU
  | _=>first | exact ee b | exact aU
theorem xL{h c:LW}{pre:Lx LW}(g:c.mode≠.run)(d:NR)(u:Lt):Dm e1 (NT P h (pre++c::e1) Lw d u):=by
 unfold NT;by_cases f:(gK d.target && gJ h.mode)=LG
 ·have:∀(a b:OA),(∃o u j,a=.ended o u j)->Dm e1 (if(gK d.target && gJ h.mode)=LG then a else b):=λa b ⟨o,u,j,e⟩=>by
   rw[if_pos f,e];exact aU
  exact this _ _ ⟨_,_,_,rfl⟩
 have i:∀(a b:OA),Dm e1 b->Dm e1 (if(gK d.target && gJ h.mode)=LG then a else b):=λa b k=>by rw[if_neg f];exact k
 refine i _ _ ?_;simp only[ME];refine eK ?_;cases Nm P (invoke d.target d.args) u with
 | ok a w=>
  cases a with
  | recover=>
   dsimp only;split
   ·rename_i l
    exact ET hR g l
   ·exact ee g
  | coroswitch c e=>cases e<;>first | exact aU | exact fK (λ_ _ _ e=>by cases e)
  | alone on v=>cases on<;>first | exact aU | exact fK (λ_ _ _ e=>by cases e)
  | _=>
   first
    | exact ee g
    | exact Aw g
    | exact aU
    | exact fK (λ_ _ _ e=>by cases e)
 | halt x w=>
  cases x with
  | fatal m=>exact rE
  | throw m=>exact nD
  | _=>first | exact ee g | exact aU
theorem tR{d c:LW}{pre:Lx LW}(a:c.mode≠.run)(b:MC)(u:Lt):Dm e1 (Qw P b d (pre++c::e1) Lw u):=by
 unfold Qw;split
 ·simp only[ME];refine eK ?_;split
  ·exact ee a
  ·exact aU
 ·exact xL hR a _ _
 ·split
  ·exact aU
  ·split
   ·exact aU
   ·cases pre with
    | nil=>exact iB (gp _ _)
    | cons p pre=>exact ee a
  ·split
   ·exact oH a _ _ _
   ·simp only[ME];refine eK ?_;split
    ·exact oH a _ _ _
    all_goals exact aU
theorem Hc(hrf:P.follows .rangeFuncRecover=LG){fr c:LW}{pre:Lx LW}(d:c.mode≠.run)(b:MC)(u:Lt):Dm e1 (Pf P b LG fr (pre++c::e1) Lw u):=by
 have a:∀(j:MC) (f:LU Og) (s e:String),Dm e1 (match fr.roundOf with
   | none=>if j=LG then .go { frame:={ fr with mode:=.returning },callers:=pre++c::e1,status:=.running,dying:=Lw } u else .ended (.stuck s (fr.pos P)) u
   | some l=>
    let (r,es):=(OR l f).runT P u #[]
    Ni (seen P fr.fn es) <| match r with
    | .ok v w=>NX P b fr (pre++c::e1) Lw v w
    | .halt _ w=>.ended (.stuck e (fr.pos P)) w):=λj f s e=>by
  split
  ·split
   ·exact ee d
   ·exact aU
  ·simp only[ME];refine eK ?_;split
   ·exact oH d _ _ _
   ·exact aU
 unfold Pf;dsimp only;split
 ·exact a LG _ _ _
 ·exact a LG _ _ _
 all_goals first
  | exact ee d
  | exact aU
  | exact kP hR hrf d _ _
  | (
    generalize Rz _ _=X;cases X
    ·exact a LH _ _ _
    ·exact ee d)
  | (
    generalize Sl _ _=X;cases X
    ·exact a LH _ _ _
    ·exact ee d)
  | (
    unfold Ta
    repeat' split
    all_goals first
     | exact ee d
     | exact aU
     | exact kP hR hrf d _ _)
  | (
    simp only[ME];refine eK ?_
    repeat' split
    all_goals first
     | exact ee d
     | exact aU
     | exact kP hR hrf d _ _)
  | (
    repeat' split
    all_goals first
     | exact ee d
     | exact aU
     | exact kP hR hrf d _ _)
  | (
    generalize Extern.next _=X
    cases X
    ·exact aU
    ·exact kP hR hrf d _ _)
theorem Hb{f x:LW}(g:f.mode≠.run)(b:MC)(u:Lt)(s:∀f,Mq f (x::e1)=Lw):Dm (x::e1) (Qw P b f (x::e1) Lw u):=by
 have k:∀{fr2:LW} {st:OS} {dy:LU Re} {off:LU (LM Pg × OK)} {u:Lt} {i:LM Ns} {f:LW},f.mode≠.run->Dm (x::e1) (.go { frame:=fr2,callers:=f::x::e1,status:=st,dying:=dy,offers:=off } u i):=λh=>ee (pre:=[]) h;have l:∀{fr2:LW} {st:OS} {dy:LU Re} {off:LU (LM Pg × OK)} {u:Lt} {i:LM Ns},Dm (x::e1) (.go { frame:=fr2,callers:=e1,status:=st,dying:=dy,offers:=off } u i):=λ_ _ _ e _=>by
  cases e;exact .inr ⟨x,rfl⟩
 have j:∀(v:LA) (u:Lt),Dm (x::e1) (NX P b f (x::e1) Lw v u):=λv u=>by
  unfold NX;dsimp only;split<;>exact l
 unfold Qw;split
 ·simp only[ME];refine eK ?_;split
  ·(refine iB ?_;exact g)
  ·exact aU
 ·rename_i d t _ _
  unfold NT;by_cases n:(gK d.target && gJ f.mode)=LG
  ·have:∀(a b:OA),(∃o u i,a=.ended o u i)->Dm (x::e1) (if(gK d.target && gJ f.mode)=LG then a else b):=λa b ⟨o,u,i,e⟩=>by
    rw[if_pos n,e];exact aU
   exact this _ _ ⟨_,_,_,rfl⟩
  have p:∀(a b:OA),Dm (x::e1) b->Dm (x::e1) (if(gK d.target && gJ f.mode)=LG then a else b):=λa b q=>by rw[if_neg n];exact q
  refine p _ _ ?_;simp only[ME];refine eK ?_;cases Nm P (invoke d.target d.args) u with
  | ok a w=>
   cases a with
   | recover=>
    dsimp only;rw[s];split
    ·rename_i r;cases r
    ·(refine iB ?_;exact g)
   | coroswitch c e=>cases e<;>first | exact aU | exact fK (λ_ _ _ e=>by cases e)
   | alone on v=>cases on<;>first | exact aU | exact fK (λ_ _ _ e=>by cases e)
   | _=>
    first
     | (refine iB ?_;exact g)
     | (refine k ?_;exact g)
     | exact aU
     | exact fK (λ_ _ _ e=>by cases e)
  | halt y w=>
   cases y with
   | fatal m=>exact rE
   | throw m=>exact nD
   | _=>first | (refine iB ?_;exact g) | exact aU | (refine iB ?_;exact gp _ _)
 ·split
  ·rename_i hm;exact absurd hm g
  ·split
   ·exact aU
   ·exact l
  ·split
   ·exact j _ _
   ·simp only[ME];refine eK ?_;split
    ·exact j _ _
    all_goals exact aU
end
end
section
inductive Lay (k:Lx PW) (D:Lx NR) (real:Lx LW) (f:Nh) (gv:LD):LD->Prop
 | top:gv.callers=[ax f]->gv.frame.mode=.run->gv.frame.roundOf=Lw->Lay k D real f gv { gv with frame:=tl k D gv.frame,callers:=real }
 | und (pre:Lx LW) (c:LW):gv.callers=pre++[c,ax f]->Pc c->Lay k D real f gv { gv with callers:=pre++tl k D c::real }
section
variable[JunkSet](Q P:LV)(base:Ly)(F:LD->Lt->Prop)(f:Nh)(k:Lx PW)(D:Lx NR)(real:Lx LW)
structure rT(Z:Ren)(g:LD)(wq:Lt)(g':LD)(w:Lt):Prop where
 len:base<=Z.length
 wr:WR Q base Z wq w
 gl:Gl P Z
 tree:LT Q F g wq
 stack:∃pre,g.callers=pre++[ax f]
 rel:∃gv,hU Q P Z g gv/\Lay k D real f gv g'
structure xY:Prop where
 cs:∀g u,F g u->g.callers=[ax f]
 md:∀g u,F g u->g.frame.mode=.run
end
section
variable[JunkSet]{Q P:LV}{base:Ly}{F:LD->Lt->Prop}{f:Nh}{k:Lx PW}{D:Lx NR}{real:Lx LW}
def AF{Y:Type}{pre:Lx Y}{c x:Y}(h:pre++[c,x]=[x]):PC:=by
 have:=congrArg List.length h;simp at this
def tj(j:Q.follows .rangeFuncRecover=LG)(l:xY F f){b:LD}{u1:Lt}(h:LT Q F b u1)(e:Popped f b.frame)(d:b.callers=[])(g:b.dying=Lw):PC:=by
 cases h with
 | done h=>have:=l.cs _ _ h;rw[d] at this;cases this
 | step _ p _=>
  have⟨v,u2,s,i,_,_⟩:=p u1.tape;obtain⟨q,u,c,t,a⟩:=b;dsimp only at d e g;subst d;subst g;have⟨o,u3,r,n⟩:=kB (Q:=Q) e c a (u1.tp u1.tape);rw[n] at i;cases i
def LT.doom(d:Q.follows .rangeFuncRecover=LG)(A:xY F f){g:LD}{u:Lt}(h:LT Q F g u)(s:Hx [ax f] g)(i:g.dying=Lw):PC:=by
 induction h with
 | done h=>
  rcases s with⟨_,hm⟩ | ⟨pre,c,e,_⟩
  ·exact hm (A.md _ _ h)
  ·rw[A.cs _ _ h] at e;exact AF e.symm
 | @step g u R N M H=>
  have⟨t,u1,O,e,y,a⟩:=N u.tape;have b:=eD (f:=f);have w:∃pre,g.callers=pre++[ax f]:=by
   rcases s with⟨e,_⟩ | ⟨pre,c,e,_⟩
   ·exact⟨[],e⟩
   ·exact⟨pre++[c],by rw[e];simp⟩
  obtain⟨C,q⟩:=w;have j:Hx [ax f] t\/∃x,[ax f]=x::t.callers:=by
   obtain⟨n,T,B,S,p⟩:=g;dsimp only at i s;subst i;rcases s with⟨z,hm⟩ | ⟨pre,c,z,hm⟩
   ·subst z;have:Nb Q LG { frame:=n,callers:=[ax f],status:=B,dying:=Lw,offers:=p } (u.tp u.tape) LG=Qw Q LG n [ax f] Lw (u.tp u.tape):=by
     unfold Nb;dsimp only;cases hmm:n.mode<;>first | exact absurd hmm hm | rfl
    rw[this] at e;exact Hb (P:=Q) (e1:=[]) (by intro n;unfold Mq;cases n.kind<;>rfl) hm LG _ b _ _ _ e ⟨y,a⟩
   ·subst z;have v:Dm [ax f] (Nb Q LG { frame:=n,callers:=pre++c::[ax f],status:=B,dying:=Lw,offers:=p } (u.tp u.tape) LG):=by
     unfold Nb;dsimp only;cases n.mode with
     | run=>exact Hc b d hm LG _
     | returning=>exact tR b hm LG _
     | panicking l=>exact tR b hm LG _
    exact v _ _ _ e ⟨y,a⟩
  rcases j with j | ⟨x,I⟩
  ·exact H _ _ _ _ e j a
  ·have r:t.callers=[]:=by simpa using(List.cons.inj I).2.symm
   rcases ky (f:=f) d q i (u.tp u.tape) t u1 O e y a with⟨o,G⟩ | ⟨_,L⟩
   ·rw[r] at G;cases o<;>simp at G
   ·exact tj d A (M _ _ _ _ e) L r a
def bJ.plain{Z:Ren}{x a:PW}(h:bJ Q Z x a):Im a=LG:=by cases h<;>rfl
def tB{Z:Ren}{m a:FrameMode}(h:gZ Z m a):m=.run↔a=.run:=by cases h<;>simp
def rM{Z:Ren}{b:Lx LW}(h:LsR (aF Q P Z) b [ax f])(a:∃pre,b=pre++[ax f]):b=[ax f]:=by
 obtain⟨pre,rfl⟩:=a;have:=h.length;cases pre with
 | nil=>rfl
 | cons x pre=>simp at this
def rT.step(H:Duo Q P)(hrf:P.follows .rangeFuncRecover=LG)(hrr:∀fr,Mq fr real=Lw)(hF:xY F f)(a6:∀fk,Q.funcs[fk]?≠P.funcs[fk]?->∀a k cs u,∃o w t,Nb Q LG { frame:=MO Q fk a k,callers:=cs,status:=.running,dying:=Lw } u LG=.ended o w t){Z:Ren}{g:LD}{wq:Lt}{g':LD}{w:Lt}(h:rT Q P base F f k D real Z g wq g' w)(hn:¬ F g wq)(b:MC) :∃O I i d r t,Nb P b g' w LG=.go d r t/\rT Q P base F f k D real O I i d r/\Below Q F (I,i) (g,wq)/\Eff base Z O w r/\(∀e∈t,ig base O e)/\Live d:=by
 have R:Q.follows .rangeFuncRecover=LG:=H.rfr;have⟨gv,M,hl⟩:=h.rel;have⟨e9,S⟩:=h.stack;have⟨O,I,i,q,r,t,k0,k1,k2,k3,k4,k5,k6,k7,k8,e4,U⟩:=qT H h.len h.wr h.gl M h.tree hn b;obtain⟨_,T,c9,e1⟩:=k6;dsimp only at e1;have a7:∃y,I.callers=y++[ax f]:=by
  rcases ky (f:=f) R S M.dy (wq.tp T) I i c9 e1 e4 U with L | ⟨L,hp⟩
  ·exact L
  ·exact(tj R hF k5 hp L U).elim
 have j:hU Q P O I q:=by
  rcases k1 with⟨_,k1⟩ | ⟨fk,kk,a,a',c,c',cs,n8,e5,m7,rfl,rfl,ha,X,g6,hm⟩
  ·exact k1
  ·exfalso;have⟨o,u,n7,e2⟩:=a6 fk e5 a kk (c::cs) (i.tp i.tape);cases k5 with
   | done L=>
    have C:=hF.cs _ _ L;dsimp only at C;simp only[OT] at C;rw[C.1] at hm;rcases hm with hm | hm
    ·exact hm rfl
    ·exact hm _ _ rfl
   | step _ p _=>
    have⟨g3,u3,n6,e3,_⟩:=p i.tape;rw[e2] at e3;cases e3
 have B:Hx [ax f] I->PC:=λhd=>LT.doom R hF k5 hd U;have mk:∀d,Lay k D real f q d->Nb P b g' w LG=.go d r t->Live d->∃O I i d r t,Nb P b g' w LG=.go d r t/\rT Q P base F f k D real O I i d r/\Below Q F (I,i) (g,wq)/\Eff base Z O w r/\(∀e∈t,ig base O e)/\Live d :=
  λd b7 he e6=>⟨O,I,i,d,r,t,he,⟨k4,k2,k3,k5,a7,q,j,b7⟩,⟨hn,T,c9,e1⟩,k7,k8,e6⟩
 have A:q.callers=[ax f]->q.frame.mode≠.run->PC:=λX hm=>by
  have b9:=j.callers;rw[X] at b9;exact B (.inl ⟨rM b9 a7,λe=>hm ((tB j.frame.mode).1 e)⟩)
 cases hl with
 | top X hm a8=>
  have V:=M.callers;rw[X] at V;have N:g.callers=[ax f]:=rM V h.stack;clear V;have n:=M.frame.todo;cases ht:g.frame.todo with
  | nil=>
   exfalso;have b6:g.frame.mode=.run:=(tB M.frame.mode).2 hm;have b0:g.frame.roundOf=Lw:=by
    rcases M.frame.round with⟨L,_⟩ | ⟨_,_,_,L,_⟩
    ·exact L
    ·rw[a8] at L;cases L
   have b8:=M.dy;obtain⟨⟨fn,tmps,todo,defers,mode,kind,ro⟩,cs,st,dy,d7⟩:=g;dsimp only at b6 b0 b8 ht N;subst b6 b0 b8 ht;subst N;have e2:Nb Q LG { frame:={ fn:=fn,tmps:=tmps,todo:=[],defers:=defers,mode:=.run,kind:=kind,roundOf:=Lw },callers:=[ax f],status:=st,dying:=Lw,offers:=d7 } (wq.tp T) LG=.go { frame:={ fn:=fn,tmps:=tmps,todo:=[],defers:=defers,mode:=.returning,kind:=kind,roundOf:=Lw },callers:=[ax f],status:=.running,dying:=Lw } (wq.tp T) #[]:=by
    simp[Nb,Pf]
   rw[e2] at e1;cases e1;exact B (.inl ⟨rfl,by simp⟩)
  | cons x l=>
   rw[ht] at n;generalize d9:gv.frame.todo=vt at n;cases n with
   | cons hx m4=>
    rename_i x' l'
    have s:Pc gv.frame:=⟨hm,a8,x',l',d9,bJ.plain hx⟩;have z:=CQ (k:=k) (D:=D) (e2:=real) hrf eD hrr s X M.dy' b b w;rcases z q r t k0 ⟨j.st',j.dy'⟩ (qM j) with⟨p,G,Y,h5⟩ | ⟨pre,c,p,G,Y⟩ | ⟨p,G⟩
    ·exact mk _ (.top p G Y) h5 ⟨j.st',j.dy'⟩
    ·exact mk _ (.und pre c p G) Y ⟨j.st',j.dy'⟩
    ·exact(A p G).elim
 | und pre c X s=>
  have hN:pA c (tl k D c) [ax f] real:=⟨s.mode,s.mode,λfr=>wP s.mode eD fr,λfr=>wP (c:=tl k D c) s.mode hrr fr⟩;have z:=yj (c1:=c) (c2:=tl k D c) (e1:=[ax f]) (e2:=real) hrf hN (g:=gv) (pre:=pre) X M.dy' b b w;rcases z q r t k0 ⟨j.st',j.dy'⟩ (qM j) with⟨y,p,G⟩ | ⟨W,hφ,p,G,Y⟩ | ⟨ch,p,G⟩
  ·exact mk _ (.und y c p s) G ⟨j.st',j.dy'⟩
  ·have hφ1:W (tl k D c)=tl k D (W c)/\(W c).mode=.run/\(W c).roundOf=Lw:=by
    rcases hφ with⟨v,rfl⟩ | rfl
    ·have⟨q1,q2,q3⟩:=kL c v;exact⟨sO s v,q1.trans s.mode,q3.trans s.round⟩
    ·exact⟨rfl,s.mode,s.round⟩
   rw[hφ1.1,<- p] at Y;exact mk _ (.top G (by rw[p];exact hφ1.2.1) (by rw[p];exact hφ1.2.2)) Y ⟨j.st',j.dy'⟩
  ·exact(A G (by rw[p];exact gp _ _)).elim
def rT.rely{Z:Ren}{g:LD}{l:Lt}{n:LD}{w a:Lt}(h:rT Q P base F f k D real Z g l n w)(d:w.heap.size<=a.heap.size)(b:a.os.env=w.os.env)(o:∀i j,BR Z i j->¬ JunkSet.jk i->a.heap[j]?=w.heap[j]?)(p:∀i j,BR Z i j->JunkSet.jk i->∃c e f,a.heap[j]?=Lq (.cells c e f)):rT Q P base F f k D real Z g l n a :=
 ⟨h.len,h.wr.rely d b o p,h.gl,h.tree,h.stack,h.rel⟩
end
end
end Go.Sim
namespace Go.Co
section
open Go.Conc Go.ConcN Go.Sim
structure Own(base:Ly)(Z:Ren)(jk:Ly->Prop)(Fz S:Bs):Prop where
 low:∀i j,BR Z i j->i<base->¬ jk i->Fz j
 own:∀i j,BR Z i j->base<=i->S j
section
variable[JunkSet]{Q P:LV}{base:Ly}{F:LD->Lt->Prop}{f:Nh}{k:Lx PW}{D:Lx NR}{real:Lx LW}{Fz:Bs}{K:Lt->Lt->Prop}{Stop:Bs->LD->Lt->Prop}
def xf{a b:LD}(h:Lay k D real f a b)(c:a.status=.running):b.status=.running:=by cases h<;>exact c
def Own.step{Z O:Ren}{S:Bs}{w e:Lt}(h:Own base Z JunkSet.jk Fz S)(o:Eff base Z O w e)(q:base<=Z.length)(l:∀i j,BR O i j->j<e.heap.size):Own base O JunkSet.jk Fz (grow S w e):=by
 have b:∀i j,BR O i j->i<Z.length->BR Z i j:=λi j a d=>by
  obtain⟨⟨V,rfl⟩,_⟩:=o.le;unfold BR at a ⊢
  rwa [Mv d] at a
 refine⟨λi j a d p=>h.low i j (b i j a (by omega)) d p,λi j a d=>?_⟩;rcases NK i Z.length with c | n
 ·exact .inl (h.own i j (b i j a c) d)
 ·exact .inr ⟨o.fresh i j a n,l i j a⟩
def Ch{Z O:Ren}{S:Bs}{I w s:Lt}{H:LM Ns}(h:Own base Z JunkSet.jk Fz S)(l:Eff base Z O w s)(L:base<=Z.length)(u:WR Q base O I s)(B:∀e∈H,ig base O e):DC Fz S w s H:=by
 have p:∀i j,BR O i j->i<Z.length->BR Z i j:=λi j r z=>by
  obtain⟨⟨V,rfl⟩,_⟩:=l.le;unfold BR at r ⊢
  rwa [Mv z] at r
 have g:∀i j,BR O i j->base<=i->grow S w s j:=(h.step l L u.lt).own;refine⟨λb C M=>l.keep b C λi z=>Ug λy=>M (h.own i b z y),l.size,l.os,l.output,λe q=>?_⟩;cases B e q with
 | @cell i j t o wr n G N=>
  refine⟨⟨by simp,by simp,by simp⟩,λm hm=>by simp at hm,λx d b a=>?_⟩;have c:x=⟨.cell ⟨j,t,o⟩,wr,.plain⟩:=by cases wr<;>(simp[Ny,Oh] at d;exact d.symm)
  subst c;simp only[blk,MM] at a;subst a;refine⟨u.lt _ _ n,rfl,?_⟩;rcases NK i base with v | A
  ·refine .inr ⟨h.low i j (p i j n (by omega)) v G,?_⟩;cases wr with
   | false=>rfl
   | true=>exact absurd (N rfl) (by omega)
  ·exact .inl (g i j n A)
 | @obj i j wr n G=>
  refine⟨⟨by simp,by simp,by simp⟩,λm hm=>by simp at hm,λx d b a=>?_⟩;have c:x=⟨.obj j,wr,.plain⟩:=by cases wr<;>(simp[Ny,Oh] at d;exact d.symm)
  subst c;simp only[blk,MM] at a;subst a;exact⟨u.lt _ _ n,rfl,.inl (g i j n G)⟩
 | noRoom=>exact⟨⟨by simp,by simp,by simp⟩,λm hm=>by simp at hm;exact hm.symm,λx d=>by simp[Ny,Oh] at d⟩
 | env=>
  refine⟨⟨by simp,by simp,by simp⟩,λm hm=>by simp at hm,λx d b a=>?_⟩;have c:x=⟨.output,LG,.plain⟩:=by simp[Ny,Oh] at d;exact d.symm
  subst c;cases a
def az.tsub(H:Duo Q P)(hrf:P.follows .rangeFuncRecover=LG)(hrr:∀fr,Mq fr real=Lw)(hF:xY F f)(z:∀U,Q.funcs[U]?≠P.funcs[U]?->∀a k cs u,∃o w y,Nb Q LG { frame:=MO Q U a k,callers:=cs,status:=.running,dying:=Lw } u LG=.ended o w y)(Jc Jb:Bs)(Liv:Lt->Prop)(hL1:∀S w w₁,RC Fz K S w w₁->Liv w->Liv w₁)(hL2:∀S w M y,DC Fz S w M y->(∀b,Jb b->M.heap[b]?=w.heap[b]?)->Liv w->Liv M)(hL3:∀w b,Liv w->Jc b->∃c e f,w.heap[b]?=Lq (.cells c e f))(hL4:∀w b,Liv w->Jb b->b<w.heap.size){ρ0:Ren}(hend:∀O g n r w S,rT Q P base F f k D real O g n r w->F g n->Le ρ0 O->Own base O JunkSet.jk Fz S->(∀i j,BR O i j->JunkSet.jk i->Jc j)->Liv w->(∀j,Jb j->¬ S j)->az P Fz K Stop S r w){Z:Ren}{g:LD}{n:Lt}{r:LD}{w:Lt}{S:Bs}(h:rT Q P base F f k D real Z g n r w)(hle:Le ρ0 Z)(ho:Own base Z JunkSet.jk Fz S)(hj:∀i j,BR Z i j->JunkSet.jk i->Jc j)(hv:Liv w)(hjs:∀j,Jb j->¬ S j):az P Fz K Stop S r w:=by
 have s:Acc (Below Q F) (g,n):=h.tree.acc;generalize hx:(g,n)=x at s;induction s generalizing Z g n r w S with
 | intro x _ ih=>
  subst hx;by_cases X:F g n
  ·exact hend Z g n r w S h X hle ho hj hv hjs
  ·have A:r.status=.running:=by
    have⟨gv,hg,hl⟩:=h.rel;exact xf hl hg.st'
   refine az.step A λw₁ B=>?_;have t:Liv w₁:=hL1 _ w w₁ B hv;have C:rT Q P base F f k D real Z g n r w₁:=h.rely B.size (by rw[B.os]) (λi j d l=>by
     rcases NK i base with p | R
     ·exact B.fz j (ho.low i j d p l)
     ·exact B.own j (ho.own i j d R)) (λi j d l=>hL3 w₁ j t (hj i j d l))
   have⟨O,g1,L,T,W,y,k1,N,k3,G,k5,_⟩:=C.step H hrf hrr hF z X LH;have v:=Ch ho G C.len N.wr k5;have p:∀j,Jb j->j<w₁.heap.size:=λj q=>hL4 w₁ j t q;refine⟨T,W,y,k1,v,ih (g1,L) k3 N (hle.trans G.le) (ho.step G C.len N.wr.lt) (λi j d l=>?_) (hL2 _ w₁ W y v (λb Y=>v.keep b (p b Y) (hjs b Y)) t) (λj q I=>?_) rfl⟩;rotate_left
   ·rcases I with I | ⟨I,_⟩
    ·exact hjs j q I
    ·have:=p j q;omega
   refine hj i j ?_ l;have hi:i<Z.length:=LY (C.wr.below i l) C.len;obtain⟨⟨V,rfl⟩,_⟩:=G.le;unfold BR at d ⊢
   rwa [Mv hi] at d
def AtEnd(f:Nh)(b:LW)(R:ON->Lt->Prop)(g:LD)(u:Lt):Prop:=Live g/\g.callers=[ax f]/\∃a T,g.frame=b.at a []/\R a (u.tp T)
def AtEnd.leafs{b:LW}{R:ON->Lt->Prop}:xY (AtEnd f b R) f:=⟨λ_ _ h=>h.2.1,λ_ _ ⟨_,_,a,_,e,_⟩=>by rw[e];rfl⟩
def AtEnd.tape{b:LW}{R:ON->Lt->Prop}{g:LD}{u:Lt}(T:Ly->NU->Ly)(h:AtEnd f b R g u):AtEnd f b R g (u.tp T):=by
 obtain⟨i,e,a,j,d,c⟩:=h;exact⟨i,e,a,j,d,c⟩
def eL(R:ON->Lt->Prop):SS->ON->Lt->Prop
 | .normal,a,w=>R a w
 | _,_,_=>PC
def LT.of_wp(H:Duo Q Q){b:LW}{a:ON}{c:Og}{i:Lt}{R:ON->Lt->Prop}(h:∀T,c.wp Q (eL R) a (i.tp T))(p:jP Q base (G (b.at a [.code c]) [ax f]) i):LT Q (AtEnd f b R) (G (b.at a [.code c]) [ax f]) i:=by
 refine LT.of_all H (λg u T=>AtEnd.tape T) p λT=>?_;have⟨e,q,r,d,j⟩:=h T b [] [ax f];cases e with
 | normal=>
  obtain⟨n,s⟩:=j;exact LP.of_runs H n (g:=G (b.at a [.code c]) [ax f]) (g1:=G (b.at q []) [ax f]) (u:=i.tp T) (pre:=[]) (p.tape T) ⟨rfl,rfl⟩ rfl s ⟨rfl,rfl⟩ ⟨[],rfl⟩ ⟨⟨rfl,rfl⟩,rfl,q,r.tape,rfl,by rw[pP];exact d⟩
 | exit id=>exact d.elim
 | goto l=>exact d.elim
 | ret=>exact d.elim
 | panic o=>exact d.elim
 | outgrown=>exact d.elim
end
end
end Go.Co
section
namespace Go.Co
open Go
def bT{md:PL}{ops:LM NB}{listed:LM MC}{i:Ly}(h:i∈Mi md ops listed):i<ops.size/\listed.getD i LG=LH:=by
 simp only[Mi,Oa,Nj,Mg,OM] at h;exact⟨h.1,h.2.1⟩
def unl(listed:LM MC)(n:Ly):Ly:=((Mr n).filter λi=>!listed.getD i LG).length
def ik{listed:LM MC}{n i:Ly}(f:i<n)(g:listed.size=n)(h:listed.getD i LG=LH):unl (listed.setIfInBounds i LG) n<unl listed n:=by
 unfold unl;have d:∀l:Lx Ly,i∈l->(l.filter λk=>!(listed.setIfInBounds i LG).getD k LG).length<(l.filter λk=>!listed.getD k LG).length:=by
  intro l;have e:∀l:Lx Ly,(l.filter λk=>!(listed.setIfInBounds i LG).getD k LG).length<=(l.filter λk=>!listed.getD k LG).length:=by
   intro l;induction l with
   | nil=>simp
   | cons x l c=>
    simp only[Uh];by_cases a:x=i
    ·subst a;have:(listed.setIfInBounds x LG).getD x LG=LG:=by simp[No,g,f]
     rw[this,h];simp only[Ri,Ry,Mx,if_true,if_false,LX];omega
    ·have:(listed.setIfInBounds i LG).getD x LG=listed.getD x LG:=by simp[No,My,Ne.symm a]
     rw[this];split
     ·simp only[LX];omega
     ·exact c
  induction l with
  | nil=>intro h;cases h
  | cons x l c=>
   intro hm;simp only[Uh];by_cases a:x=i
   ·subst a;have:(listed.setIfInBounds x LG).getD x LG=LG:=by simp[No,g,f]
    rw[this,h];have:=e l;simp only[Ri,Ry,Mx,if_true,if_false,LX];omega
   ·have:(listed.setIfInBounds i LG).getD x LG=listed.getD x LG:=by simp[No,My,Ne.symm a]
    rw[this];have b:i∈l:=by simpa[Ne.symm a] using hm
    split
    ·have:=c b;simp only[LX];omega
    ·exact c b
 exact d _ (by simp[f])
def AJ{P:LV}{md:PL}{ops:LM NB}{Q:SS->ON->Lt->Prop}(I:LM MC->ON->Lt->Prop)(d:∀listed a w i,listed.size=ops.size->I listed a w->i∈Mi md ops listed->wpOp P ops Q i (I (listed.setIfInBounds i LG)) a w)(c:∀listed a w,listed.size=ops.size->I listed a w->Mi md ops listed=[]->Q .normal a w) :∀(b:Ly) (listed:LM MC) (a:ON) (w:Lt),listed.size=ops.size->unl listed ops.size<=b->I listed a w->wpAny P md ops Q b listed a w:=by
 intro b;induction b with
 | zero=>
  intro listed a w e p g;have f:Mi md ops listed=[]:=by
   cases f:Mi md ops listed with
   | nil=>rfl
   | cons i l=>
    exfalso;have⟨j,h⟩:=bT (md:=md) (ops:=ops) (listed:=listed) (i:=i) (by rw[f];simp);have:=ik j e h;omega
  exact⟨f,c listed a w e g f⟩
 | succ b o=>
  intro listed a w e p g;refine⟨c listed a w e g,λi k=>?_⟩;have⟨j,h⟩:=bT k;have q:=ik j e h;exact wpOp_mono (λs n r=>o _ s n (by simpa using e) (by omega) r) (d listed a w i e g k)
def rX{P:LV}{id:Ly}{b:LM NB}{Q:SS->ON->Lt->Prop}{a:ON}{w:Lt}(hm:P.follows .mixedOrders=LG)(I:LM MC->ON->Lt->Prop)(c:I (MR b.size LH) a { w with drawn:=w.drawn+1 })(hstep:∀listed a w i,listed.size=b.size->I listed a w->i∈Mi .any b listed->wpOp P b Q i (I (listed.setIfInBounds i LG)) a w)(hend:∀listed a w,listed.size=b.size->I listed a w->Mi .any b listed=[]->Q .normal a w):(Code.region id b LG).wp P Q a w :=
 wp_region_any hm (AJ I hstep hend b.size _ a _ (by simp) (by
  unfold unl;refine LN (Oq _ _) (by simp)) c)
def bZ{P:LV}{b:LM NB}{R K:ON->Lt->Prop}{i:Ly}{o:NB}{a:ON}{w:Lt}(l:b[i]?=Lq o)(h:Ua P b (eL K) [o] a w):wpOp P b (eL R) i K a w:=by
 have j:∀X:ON->Lt->Prop,¬ LetsOut (eL X):=λX ⟨_,_,h⟩=>h;unfold wpOp;rw[l];dsimp only;simp only[Ua] at h;split
 ·rename_i g
  rw[if_pos g] at h;rcases h with h | ⟨_,h⟩
  ·refine .inl ?_;unfold Oper.wp at h ⊢;generalize (OZ a.eval o).run P w=r at h ⊢;cases r with
   | ok x k=>
    cases x with
    | enter f c=>exact Calls.mono h λe w q=>by cases e<;>first | exact q | exact q.elim | exact absurd q (j _)
    | row r c=>exact Rows.mono h λv w q=>q
    | value v=>exact h
    | skip=>exact h
    | defer d=>exact h
    | _=>exact h.elim
   | halt x k=>cases x<;>first | exact h | exact h.elim
  ·exact absurd h (j _)
 ·rename_i g
  rw[if_neg g] at h;exact h
end Go.Co
namespace Go.Co
open Go
def bS{b:PL}{a:LM NB}{listed:LM MC}{i:Ly}{o:NB}(h:i∈Mi b a listed)(c:a[i]?=Lq o):(o.after.all λe=>!MW b e || listed.getD e.on LH)=LG:=by
 simp only[Mi,Oa,Nj,Mg,OM] at h;have:=h.2.2;rw[c] at this;simpa using this
end Go.Co
namespace Go.Co
open Go
def cS{c:PL}{a:LM NB}{listed:LM MC}(g:Mi c a listed=[])(k:listed.size=a.size){i:Ly}{o:NB}(d:a[i]?=Lq o)(b:(o.after.all λe=>!MW c e || listed.getD e.on LH)=LG):listed[i]?.getD LH=LG:=by
 have j:i<a.size:=(Lz.1 d).1;refine MX λf=>?_;have h:i<listed.size:=by omega
 have:i∈Mi c a listed:=by
  simp only[Mi,Oa,Nj,Mg,OM];refine⟨j,?_,?_⟩
  ·simp[No,Ml h] at f ⊢;exact f
  ·rw[d];simpa using b
 rw[g] at this;cases this
def lp(listed:LM MC)(i j:Ly)(h:i<listed.size):(listed.setIfInBounds i LG)[j]?.getD LH=if i=j then LG else listed[j]?.getD LH:=by
 simp only[My];split
 ·rename_i e;subst e;simp[h]
 ·rfl
def mV{c:PL}{a:LM NB}{listed:LM MC}{i:Ly}(h:i∈Mi c a listed):listed[i]?.getD LH=LH:=by
 have:=(bT h).2;simp only[No] at this;cases hx:listed[i]? with
 | none=>rfl
 | some b=>rw[hx] at this;exact this
end Go.Co
end
namespace Go.Sim
section
structure Lets where
 f:Ly->MC
 m:String->MC
 b:Builtin->LM LZ->MC
section
variable(Q:LV)(s:Lets)
def fe:MS->MC
 | .tmp _=>LG
 | .const v=>Fo v
 | .global g=>decide (g<Q.globals.size)
 | .func f=>s.f f
def jT(l:Lx MS):MC:=l.all (fe Q s)
def xV:Call->MC
 | ⟨.value f,a,_⟩=>fe Q s f && jT Q s a.toList
 | ⟨.invoke r n,a,_⟩=>fe Q s r && s.m n && jT Q s a.toList
 | ⟨.builtin b,a,ts⟩=>s.b b ts && jT Q s a.toList
def opC:Op->MC
 | .move x | .assign x | .nilCheck x | .box _ x | .load _ x | .unOp _ _ x | .makeInterface _ x | .field _ x _ | .extract x _ | .panic x=>fe Q s x
 | .pick c a b=>fe Q s c && fe Q s a && fe Q s b
 | .alloc t=>ij Q t
 | .build t ps=>ij Q t && jT Q s (ps.toList.map (·.2))
 | .buildSlice t _ ps=>kN Q t && jT Q s (ps.toList.map (·.2))
 | .store _ a x=>fe Q s a && fe Q s x
 | .binOp op t x y _=>(if sk op then Cf Q t x y else uE Q t) && fe Q s x && fe Q s y
 | .convert a d x=>Ax Q a d && fe Q s x
 | .makeFunc (.func f) a b=>s.f f && jT Q s a.toList && jT Q s b.toList
 | .makeMap _ r=>jT Q s r.toList
 | .makeSlice t l c=>kN Q t && fe Q s l && fe Q s c
 | .slice _ x l h m=>fe Q s x && jT Q s l.toList && jT Q s h.toList && jT Q s m.toList
 | .fieldAddr t x f=>uR Q t f && fe Q s x
 | .indexAddr _ x i | .index _ x i=>fe Q s x && fe Q s i
 | .lookup t x i _=>qR Q t && fe Q s x && fe Q s i
 | .mapUpdate t m k x | .insert t m k x=>qR Q t && fe Q s m && fe Q s k && fe Q s x
 | .typeAssert x _ a _=>ij Q a && fe Q s x
 | .call c | .defer c=>xV Q s c
 | _=>LH
def fU:Og->MC
 | .skip | .exit _ | .label _ | .goto _ | .ret=>LG
 | .region _ d _=>d.toList.all λo=>opC Q s o.op
 | .seq a b=>fU a && fU b
 | .cond c a b=>fe Q s c && fU a && fU b
 | .block _ c | .loop c | .scope c=>fU c
 | .rangeFunc f _ a c=>fe Q s f && fU a && fU c
 | _=>LH
end
section
variable[JunkSet]{Q:LV}{s:Lets}(hf:∀f,s.f f=LG->JunkSet.okf f)(hm:∀n,s.m n=LG->JunkSet.okm n)(hb:∀b ts,s.b b ts=LG->JunkSet.okb b ts)
include hf in
theorem aK{x:MS}(h:fe Q s x=LG):aQ Q x:=by
 cases x with
 | tmp t=>exact .tmp t
 | const v=>exact .const (vk h)
 | global g=>exact .global (of_decide_eq_true h)
 | func f=>exact .func (hf f h)
include hf in
theorem dw{l:Lx MS}(h:jT Q s l=LG):dB Q l:=λx a=>aK hf (MD.1 h x a)
include hf hm hb in
theorem xU{c:Call}(h:xV Q s c=LG):fR Q c:=by
 obtain⟨d,a,e⟩:=c;cases d with
 | value f=>simp only[xV,Mg] at h;exact .value (aK hf h.1) (dw hf h.2)
 | invoke r n=>simp only[xV,Mg] at h;exact .invoke (aK hf h.1.1) (hm _ h.1.2) (dw hf h.2)
 | builtin b=>simp only[xV,Mg] at h;exact .builtin (hb _ _ h.1) (dw hf h.2)
include hf hm hb in
theorem IU{o:Op}(h:opC Q s o=LG):aX Q o:=by
 cases o with
 | makeFunc v a b=>
  cases v with
  | func f=>simp only[opC,Mg] at h;exact .makeFunc (hf _ h.1.1) (dw hf h.1.2) (dw hf h.2)
  | _=>cases h
 | binOp w t x y u=>
  simp only[opC,Mg] at h;obtain⟨⟨g,p⟩,j⟩:=h;split at g
  ·rename_i e
   exact .eql e g (aK hf p) (aK hf j)
  ·rename_i e
   exact .arith (by simpa using e) g (aK hf p) (aK hf j)
 | move x=>exact .move (aK hf h)
 | assign x=>exact .assign (aK hf h)
 | nilCheck x=>exact .nilCheck (aK hf h)
 | box t x=>exact .box (aK hf h)
 | load t x=>exact .load (aK hf h)
 | unOp o t x=>exact .unOp (aK hf h)
 | makeInterface t x=>exact .makeInterface (aK hf h)
 | field t x f=>exact .field (aK hf h)
 | extract x i=>exact .extract (aK hf h)
 | panic x=>exact .panic (aK hf h)
 | pick c a b=>simp only[opC,Mg] at h;exact .pick (aK hf h.1.1) (aK hf h.1.2) (aK hf h.2)
 | alloc t=>exact .alloc h
 | build t q=>simp only[opC,Mg] at h;exact .build h.1 (dw hf h.2)
 | buildSlice t n q=>simp only[opC,Mg] at h;exact .buildSlice h.1 (dw hf h.2)
 | store t a x=>simp only[opC,Mg] at h;exact .store (aK hf h.1) (aK hf h.2)
 | convert a d x=>simp only[opC,Mg] at h;exact .convert h.1 (aK hf h.2)
 | makeMap t r=>exact .makeMap (dw hf h)
 | makeSlice t l c=>simp only[opC,Mg] at h;exact .makeSlice h.1.1 (aK hf h.1.2) (aK hf h.2)
 | slice t x l z m=>simp only[opC,Mg] at h;exact .slice (aK hf h.1.1.1) (dw hf h.1.1.2) (dw hf h.1.2) (dw hf h.2)
 | fieldAddr t x f=>simp only[opC,Mg] at h;exact .fieldAddr h.1 (aK hf h.2)
 | indexAddr t x i=>simp only[opC,Mg] at h;exact .indexAddr (aK hf h.1) (aK hf h.2)
 | index t x i=>simp only[opC,Mg] at h;exact .index (aK hf h.1) (aK hf h.2)
 | lookup t x i c=>simp only[opC,Mg] at h;exact .lookup h.1.1 (aK hf h.1.2) (aK hf h.2)
 | mapUpdate t m k x=>simp only[opC,Mg] at h;exact .mapUpdate h.1.1.1 (aK hf h.1.1.2) (aK hf h.1.2) (aK hf h.2)
 | insert t m k x=>simp only[opC,Mg] at h;exact .insert h.1.1.1 (aK hf h.1.1.2) (aK hf h.1.2) (aK hf h.2)
 | typeAssert x t a c=>simp only[opC,Mg] at h;exact .typeAssert h.1 (aK hf h.2)
 | call c=>exact .call (xU hf hm hb h)
 | defer c=>exact .defer (xU hf hm hb h)
 | _=>cases h
include hf hm hb in
theorem xP{c:Og}(h:fU Q s c=LG):aI Q c:=by
 induction c with
 | skip=>exact .skip
 | exit id=>exact .exit id
 | label l=>exact .label l
 | goto l=>exact .goto l
 | ret=>exact .ret
 | region id k d=>exact .region λo n=>IU hf hm hb (MD.1 h o n)
 | seq a b e g=>simp only[fU,Mg] at h;exact .seq (e h.1) (g h.2)
 | cond c a b e g=>simp only[fU,Mg] at h;exact .cond (aK hf h.1.1) (e h.1.2) (g h.2)
 | block id c i=>exact .block (i h)
 | loop c i=>exact .loop (i h)
 | scope c i=>exact .scope (i h)
 | rangeFunc f p a c e j=>simp only[fU,Mg] at h;exact .rangeFunc (aK hf h.1.1) (e h.1.2) (j h.2)
 | _=>cases h
end
section
variable{A B:JunkSet}{Q:LV}(hf:∀f,A.okf f->B.okf f)(hm:∀n,A.okm n->B.okm n)(hb:∀b ts,A.okb b ts->B.okb b ts)
include hf in
theorem aT{x:MS}(h:@aQ A Q x):@aQ B Q x:=by
 cases h with
 | tmp t=>exact @aQ.tmp B Q t
 | const h=>exact @aQ.const B Q _ h
 | global h=>exact @aQ.global B Q _ h
 | func h=>exact @aQ.func B Q _ (hf _ h)
include hf in
theorem eF{l:Lx MS}(h:@dB A Q l):@dB B Q l:=λx a=>aT hf (h x a)
include hf hm hb in
theorem Az{c:Call}(h:@fR A Q c):@fR B Q c:=by
 cases h with
 | value b a=>exact @fR.value B Q _ _ _ (aT hf b) (eF hf a)
 | invoke b a d=>exact @fR.invoke B Q _ _ _ _ (aT hf b) (hm _ a) (eF hf d)
 | builtin b a=>exact @fR.builtin B Q _ _ _ (hb _ _ b) (eF hf a)
include hf hm hb in
theorem Hz{o:Op}(h:@aX A Q o):@aX B Q o:=by
 cases h with
 | move h=>exact @aX.move B Q _ (aT hf h)
 | assign h=>exact @aX.assign B Q _ (aT hf h)
 | pick b a c=>exact @aX.pick B Q _ _ _ (aT hf b) (aT hf a) (aT hf c)
 | alloc h=>exact @aX.alloc B Q _ h
 | box h=>exact @aX.box B Q _ _ (aT hf h)
 | build b a=>exact @aX.build B Q _ _ b (eF hf a)
 | buildSlice b a=>exact @aX.buildSlice B Q _ _ _ b (eF hf a)
 | load h=>exact @aX.load B Q _ _ (aT hf h)
 | store b a=>exact @aX.store B Q _ _ _ (aT hf b) (aT hf a)
 | nilCheck h=>exact @aX.nilCheck B Q _ (aT hf h)
 | arith b a c d=>exact @aX.arith B Q _ _ _ _ _ b a (aT hf c) (aT hf d)
 | eql b a c d=>exact @aX.eql B Q _ _ _ _ _ b a (aT hf c) (aT hf d)
 | unOp h=>exact @aX.unOp B Q _ _ _ (aT hf h)
 | convert b a=>exact @aX.convert B Q _ _ _ b (aT hf a)
 | makeInterface h=>exact @aX.makeInterface B Q _ _ (aT hf h)
 | makeFunc b a c=>exact @aX.makeFunc B Q _ _ _ (hf _ b) (eF hf a) (eF hf c)
 | makeMap h=>exact @aX.makeMap B Q _ _ (eF hf h)
 | makeSlice b a c=>exact @aX.makeSlice B Q _ _ _ b (aT hf a) (aT hf c)
 | slice b a c d=>exact @aX.slice B Q _ _ _ _ _ (aT hf b) (eF hf a) (eF hf c) (eF hf d)
 | fieldAddr b a=>exact @aX.fieldAddr B Q _ _ _ b (aT hf a)
 | field h=>exact @aX.field B Q _ _ _ (aT hf h)
 | indexAddr b a=>exact @aX.indexAddr B Q _ _ _ (aT hf b) (aT hf a)
 | index b a=>exact @aX.index B Q _ _ _ (aT hf b) (aT hf a)
 | lookup b a c=>exact @aX.lookup B Q _ _ _ _ b (aT hf a) (aT hf c)
 | mapUpdate b a c d=>exact @aX.mapUpdate B Q _ _ _ _ b (aT hf a) (aT hf c) (aT hf d)
 | insert b a c d=>exact @aX.insert B Q _ _ _ _ b (aT hf a) (aT hf c) (aT hf d)
 | typeAssert b a=>exact @aX.typeAssert B Q _ _ _ _ b (aT hf a)
 | extract h=>exact @aX.extract B Q _ _ (aT hf h)
 | call h=>exact @aX.call B Q _ (Az hf hm hb h)
 | defer h=>exact @aX.defer B Q _ (Az hf hm hb h)
 | panic h=>exact @aX.panic B Q _ (aT hf h)
include hf hm hb in
theorem uX{c:Og}(h:@aI A Q c):@aI B Q c:=by
 induction h with
 | skip=>exact @aI.skip B Q
 | region h=>exact @aI.region B Q _ _ _ λo d=>Hz hf hm hb (h o d)
 | seq _ _ b a=>exact @aI.seq B Q _ _ b a
 | cond h _ _ b a=>exact @aI.cond B Q _ _ _ (aT hf h) b a
 | block _ h=>exact @aI.block B Q _ _ h
 | loop _ h=>exact @aI.loop B Q _ h
 | rangeFunc h _ _ b a=>exact @aI.rangeFunc B Q _ _ _ _ (aT hf h) b a
 | exit id=>exact @aI.exit B Q id
 | scope _ h=>exact @aI.scope B Q _ h
 | label l=>exact @aI.label B Q l
 | goto l=>exact @aI.goto B Q l
 | ret=>exact @aI.ret B Q
end
@[reducible] def JS0(s:Lets)(jk:Ly->Prop):JunkSet:={ jk,okf:=λf=>s.f f=LG,okm:=λn=>s.m n=LG,okb:=λb a=>s.b b a=LG,okc:=λ_=>PC,okg:=λ_=>PC }
@[reducible] def JS(Q P:LV)(s:Lets)(jk:Ly->Prop):JunkSet:={ JS0 s jk with okc:=@aI (JS0 s jk) Q,okg:=λf=>(∃g,Q.funcs[f]?=Lq g/\P.funcs[f]?=Lq g)/\Q.inits.idxOf? f=Lw }
def GR(Q P:LV)(s:Lets)(f:Ly):MC :=
 match Q.funcs[f]?,P.funcs[f]? with
 | some a,Lq b=>!a.body.isNone && !b.body.isNone && !(a.name == "runtime.NumGoroutine") && !(b.name == "runtime.NumGoroutine") && (Q.inits.idxOf? f).isNone
 | _,_=>LH
def Fe(Q:LV)(s:Lets)(f:Ly):MC :=
 match (Q.funcs[f]?).bind (·.body) with
 | some c=>fU Q s c
 | none=>LH
def ER{Q P:LV}{s:Lets}{jk:Ly->Prop}(o:P.toTables=Q.toTables)(p:Q.follows .rangeFuncRecover=LG)
  (l:(match Q.info? 0 with | some i=>(i.methods.find? (·.name == "")).isNone | none=>LG)=LG)
  (hb:∀b k,s.b b k=LG->biB Q b k=LG)
  (hf:∀f,s.f f=LG->GR Q P s f=LG) (a:∀f,s.f f=LG->Q.funcs[f]?=P.funcs[f]?->Fe Q s f=LG)
  (hm:∀n,s.m n=LG->∀t i m,Q.info? t=Lq i->i.methods.find? (·.name == n)=Lq m->m.path=#[]/\∃f b,m.func=Lq (f,b)/\s.f f=LG/\∀e,Q.underlying t=Lq (.pointer e)->b=LG):@Duo (JS Q P s jk) Q P:=by
 letI:=JS Q P s jk
 have fin:∀f,s.f f=LG->∃d fp,Q.funcs[f]?=Lq d/\P.funcs[f]?=Lq fp/\d.body.isNone=LH/\fp.body.isNone=LH/\(d.name == "runtime.NumGoroutine")=LH/\(fp.name == "runtime.NumGoroutine")=LH/\Q.inits.idxOf? f=Lw:=by
  intro f h;have:=hf f h;unfold GR at this;cases h1:Q.funcs[f]? with
  | none=>rw[h1] at this;cases this
  | some d=>
   cases h2:P.funcs[f]? with
   | none=>rw[h1,h2] at this;cases this
   | some fp=>
    rw[h1,h2] at this;simp only[Mg,OM,Option.isNone_iff_eq_none] at this;exact⟨d,fp,rfl,rfl,this.1.1.1.1,this.1.1.1.2,this.1.1.2,this.1.2,this.2⟩
 exact{
  bis:=hb
  tables:=o
  funcs:=λf h=>let ⟨d,fp,h1,h2,h3,h4,h5,h6,_⟩:=fin f h;⟨d,fp,h1,h2,h3,h4,h5,h6⟩
  meths:=hm
  nometh:=λi q=>by rw[q] at l;exact l
  codes:=λc=>⟨uX (A:=JS0 s jk) (B:=JS Q P s jk) (λ_ h=>h) (λ_ h=>h) (λ_ _ h=>h),uX (A:=JS Q P s jk) (B:=JS0 s jk) (λ_ h=>h) (λ_ h=>h) (λ_ _ h=>h)⟩
  rfr:=p
  bodies:=λf g j h1 h2 c r=>by
   have:=a f j (by rw[h1,h2]);unfold Fe at this;rw[h1,RK,r] at this;exact xP (s:=s) (λ_ h=>h) (λ_ h=>h) (λ_ _ h=>h) this
  inits:=λf h=>let ⟨_,_,_,_,_,_,_,_,h7⟩:=fin f h;h7
  same:=λf=>Iff.rfl }
end
section
structure Jy where
 j:JunkSet
structure Up(A B:JunkSet):Prop where
 f:∀x,A.okf x->B.okf x
 m:∀x,A.okm x->B.okm x
 b:∀x y,A.okb x y->B.okb x y
 c:∀x,A.okc x->B.okc x
 g:∀x,A.okg x->B.okg x
 j:A.jk=B.jk
section
variable{A B:JunkSet}(U:Up A B){Z:Ren}
include U
theorem FnR.up{x y:Fn}(h:@FnR A Z x y):@FnR B Z x y:=by
 cases h with
 | func f h=>exact @FnR.func B Z f (U.f _ h)
 | yield h=>exact @FnR.yield B Z _ _ h
theorem VR.up{x y:LA}(h:@VR A Z x y):@VR B Z x y:=by
 induction h with
 | bool b=>exact @VR.bool B Z b
 | int k n=>exact @VR.int B Z k n
 | string s=>exact @VR.string B Z s
 | ptrNil=>exact @VR.ptrNil B Z
 | ptr e d h=>exact @VR.ptr B Z _ _ e d h
 | sliceNil n c=>exact @VR.sliceNil B Z n c
 | slice e d n c h=>exact @VR.slice B Z _ _ e d n c h
 | mapNil=>exact @VR.mapNil B Z
 | map h=>exact @VR.map B Z _ _ h
 | func j o _ l _ i g=>exact @VR.func B Z _ _ _ _ _ _ (FnR.up U j) o i l g
 | nilFunc=>exact @VR.nilFunc B Z
 | iface t _ f=>exact @VR.iface B Z t _ _ f
 | nilIface=>exact @VR.nilIface B Z
 | agg h _ f=>exact @VR.agg B Z _ _ h f
 | tuple h _ f=>exact @VR.tuple B Z _ _ h f
 | wild y h=>exact @VR.wild B Z y h
 | meth n a c=>exact @VR.meth B Z n a c
theorem AsR.up{x y:LM LA}(h:@AsR A Z x y):@AsR B Z x y:=⟨h.1,λi a b d c=>VR.up U (h.2 i a b d c)⟩
theorem gh.up{x y:Pv}(h:@gh A Z x y):@gh B Z x y:=@gh.mk B Z x y (VR.up U (@gh.key A Z x y h)) (VR.up U (@gh.val A Z x y h)) (@gh.born A Z x y h)
theorem eR.up{x y:Target}(h:@eR A Z x y):@eR B Z x y:=by
 cases h with
 | fn e d=>exact @eR.fn B Z _ _ _ _ (FnR.up U e) (AsR.up U d)
 | meth n h=>exact @eR.meth B Z n (U.m _ h)
 | nil=>exact @eR.nil B Z
 | builtin b a t c h=>exact @eR.builtin B Z b a t c (U.b _ _ h)
 | collected h=>exact @eR.collected B Z _ _ h
theorem fM.up{x y:NR}(h:@fM A Z x y):@fM B Z x y:=by
 cases h with
 | mk b a=>exact @fM.mk B Z x y (eR.up U b) (AsR.up U a)
 | bound b a c=>exact @fM.bound B Z x y b a c
theorem lO.up{x y:Loop}(h:@lO A Z x y):@lO B Z x y:=by
 obtain⟨q,p,o,n,l,k,j,i,f,d,b,a⟩:=h;exact @lO.mk B Z x y q p o (AsR.up U n) l k j i (U.g _ f) (U.c _ d) (U.c _ b) λc e=>U.c _ (a c e)
theorem ObR.up{x y:SQ}(h:@ObR A Z x y):@ObR B Z x y:=by
 cases h with
 | cells e f d=>exact @ObR.cells B Z _ _ e _ _ (AsR.up U f) d
 | map c h=>exact @ObR.map B Z _ _ c (h.imp λ_ _ k=>gh.up U k)
 | stringIter s p=>exact @ObR.stringIter B Z s p
 | mapIterNil a s b=>exact @ObR.mapIterNil B Z a s b
 | mapIter a s b h=>exact @ObR.mapIter B Z _ _ a s b h
 | loop h=>exact @ObR.loop B Z _ _ (lO.up U h)
 | number o s x h=>exact @ObR.number B Z _ _ o s x h
 | deferredNone=>exact @ObR.deferredNone B Z
 | deferred h=>exact @ObR.deferred B Z _ _ (h.imp λ_ _ k=>fM.up U k)
theorem WR.up{Q:LV}{base:Ly}{a w:Lt}(h:@WR A Q base Z a w):@WR B Q base Z a w:=by
 obtain⟨u,t,s,r,q,p,n,l⟩:=h;refine @WR.mk B Q base Z a w u t s (λi j o k f=>?_) q p (λi g=>n i (by rw[U.j];exact g)) l;rcases r i j o k f with⟨c,b⟩ | ⟨c,d,b,e⟩
 ·exact .inl ⟨by rw[<- U.j];exact c,b⟩
 ·exact .inr ⟨by rw[<- U.j];exact c,d,b,ObR.up U e⟩
theorem aI.up{Q:LV}{c:Og}(h:@aI A Q c):@aI B Q c:=uX (A:=A) (B:=B) U.f U.m U.b h
theorem aX.up{Q:LV}{o:Op}(h:@aX A Q o):@aX B Q o:=Hz (A:=A) (B:=B) U.f U.m U.b h
theorem bJ.up{Q:LV}{x y:PW}(h:@bJ A Q Z x y):@bJ B Q Z x y:=by
 cases h with
 | code h=>exact @bJ.code B Q Z _ (aI.up U h)
 | inBlock id=>exact @bJ.inBlock B Q Z id
 | inLoop h=>exact @bJ.inLoop B Q Z _ (aI.up U h)
 | inScope h=>exact @bJ.inScope B Q Z _ (aI.up U h)
 | inRegion l h=>exact @bJ.inRegion B Q Z _ l λo a=>aX.up U (h o a)
 | inRangeFunc h=>exact @bJ.inRangeFunc B Q Z _ _ h
 | endRangeFunc h=>exact @bJ.endRangeFunc B Q Z _ _ h
 | beginRound=>exact @bJ.beginRound B Q Z
theorem nI.up{x y:QU}(h:@nI A Z x y):@nI B Z x y:=by
 obtain⟨c,b,a⟩:=h;exact @nI.mk B Z x y (VR.up U c) b a
theorem gZ.up{x y:FrameMode}(h:@gZ A Z x y):@gZ B Z x y:=by
 cases h with
 | run=>exact @gZ.run B Z
 | returning=>exact @gZ.returning B Z
 | panicking h=>exact @gZ.panicking B Z _ _ (h.imp λ_ _ k=>nI.up U k)
theorem aF.up{Q P:LV}{x y:LW}(h:@aF A Q P Z x y)(a:∃g,Q.funcs[x.fn]?=Lq g/\Q.funcs[x.fn]?=Lq g):@aF B Q Q Z x y:=by
 obtain⟨l,n,j,i,f,e,d,c,b⟩:=h;exact @aF.mk B Q Q Z x y l a j (AsR.up U i) (f.imp λ_ _ k=>bJ.up U k) (e.imp λ_ _ k=>fM.up U k) (gZ.up U d) c b
theorem hU.up{Q P:LV}{x y:LD}(h:@hU A Q P Z x y):@hU B Q Q Z x y:=by
 obtain⟨c,j,i,f,e,d⟩:=h;exact @hU.mk B Q Q Z x y (aF.up U c (let ⟨g,k,_⟩:=@aF.same A Q P Z _ _ c;⟨g,k,k⟩)) (j.imp λa b k=>aF.up U k (let ⟨g,k,_⟩:=@aF.same A Q P Z a b k;⟨g,k,k⟩)) i f e d
end
end
end Go.Sim
namespace Go.Co
section
open Go.Conc Go.ConcN Go.Sim
section
variable[J:JunkSet](Q P:LV)(f:Nh)(Post:LA->Lt->Prop)(W:Lt)
structure Rl(Z:Ren)(g:LD)(wq:Lt)(g':LD)(w:Lt):Prop where
 wr:WR Q W.heap.size Z wq w
 ln:W.heap.size<=Z.length
 gl:Gl P Z
 stack:∃pre,g.callers=pre++[ax f]
 rel:∃gv,hU Q P Z g gv/\g'=swap [] gv
def EL(g:LD)(wq:Lt):Prop :=
 ∀Z d w c,Rl Q P f W Z g wq d w->ie c Z->(∀b,w.heap.size<=b->c b=.mine 0)->fQ W.heap.size W.heap.size W Z w->(∀b,b<W.heap.size->c b=.mine 0)->E P Post c d w
def LF(g:LD)(u:Lt):Prop:=Live g/\(∃pre,g.callers=pre++[ax f])/\Q.funcs[g.frame.fn]?=P.funcs[g.frame.fn]?/\EL Q P f Post W g u
structure Two:Prop where
 H:Duo Q P
 HQ:∃B:Jy,Up J B.j/\@Duo B.j Q Q
 hrf:P.follows .rangeFuncRecover=LG
 stub:∀fk,Q.funcs[fk]?≠P.funcs[fk]?->∀a k cs u,∃o w es,Nb Q LG { frame:=MO Q fk a k,callers:=cs,status:=.running,dying:=Lw } u LG=.ended o w es
end
section
variable[J:JunkSet]{Q P:LV}{f:Nh}{Post:LA->Lt->Prop}{W:Lt}
def EL.tape{g:LD}{wq:Lt}(h:EL Q P f Post W g wq)(T:Ly->NU->Ly):EL Q P f Post W g (wq.tp T):=by
 rintro Z q w r ⟨c,d,p,o,n⟩ e j i hm;exact h Z q w r ⟨⟨c.len,c.nodup,c.lt,c.obj,c.low,c.env,c.below,c.gar⟩,d,p,o,n⟩ e j i hm
def LF.tape{g:LD}{u:Lt}(T:Ly->NU->Ly)(h:LF Q P f Post W g u):LF Q P f Post W g (u.tp T):=⟨h.1,h.2.1,h.2.2.1,h.2.2.2.tape T⟩
def kq(c:LW):Mq c []=Lw:=by
 unfold Mq;simp
def EL.of_tree(D:Two Q P){g:LD}{wq:Lt}(t:∀Z q w,Rl Q P f W Z g wq q w->LT Q (LF Q P f Post W) g wq):EL Q P f Post W g wq:=by
 intro Z q w j h l p n hm;have y:∀g u,LF Q P f Post W g u->g.callers≠[]:=λg u ⟨_,⟨pre,e⟩,_⟩=>by rw[e];simp
 refine E.sub (Cp:=λj=>∀b,b<W.heap.size->j b=.mine 0) (Q:=Q) (F:=LF Q P f Post W) (f:=f) (real:=[]) (W:=W) D.H D.hrf kq y ?_ ?_ (Z:=Z) (g:=g) (wq:=wq) ⟨h.ln,h.wr,h.gl,t _ _ _ h,h.stack,h.rel⟩ l p n hm
 ·intro Z g wq q w j i v l p n hm;exact v.2.2.2 Z q w j ⟨i.wr,i.len,i.gl,i.stack,i.rel⟩ l p n hm
 ·intro Z A k a L c I pre r wq w j d l p n _ _;exfalso;have⟨o,u,G,e⟩:=D.stub A d.diff a k (c::(pre++[ax f])) (wq.tp wq.tape);cases d.tree with
  | done x=>exact d.diff x.2.2.1
  | step _ z _=>
   have⟨C,u1,B,s,_⟩:=z wq.tape;rw[e] at s;cases s
def Rl.rel1{B:Jy}(U:Up J B.j){Z:Ren}{g:LD}{wq:Lt}{l:LD}{w:Lt}(D:Two Q P)(h:Rl Q P f W Z g wq l w):@jP B.j Q W.heap.size g wq:=by
 have⟨e,d,_⟩:=h.rel;exact⟨Z,e,w,h.ln,WR.up U h.wr,λi c=>h.gl i (by rw[D.H.gsize];exact c),hU.up U d⟩
def EL.of_runs(D:Two Q P){o:LW}{cs:Lx LW}{wq:Lt}(q:∀T,∃c d u1,Steps Q (lone o cs (wq.tp T)) (lone c d u1)/\(∃pre,d=pre++[ax f])/\Q.funcs[c.fn]?=P.funcs[c.fn]?/\EL Q P f Post W (G c d) u1) :EL Q P f Post W (G o cs) wq:=by
 refine EL.of_tree D λZ v w h=>?_;have⟨pre,l⟩:=h.stack;have⟨B,U,p⟩:=D.HQ;have i:=h.rel1 U D;refine @LT.of_all B.j Q W.heap.size _ p (λg u T=>LF.tape T) _ _ i λT=>?_;have⟨c,d,u1,⟨n,s⟩,e,r,t⟩:=q T;exact @LP.of_runs B.j Q W.heap.size _ p f n (g:=G o cs) (g1:=G c d) (u:=wq.tp T) (u1:=u1) (pre:=pre) (@jP.tape B.j Q W.heap.size _ _ i T) ⟨rfl,rfl⟩ l s ⟨rfl,rfl⟩ e ⟨⟨rfl,rfl⟩,e,r,t⟩
def Bot(f:Nh)(cs:Lx LW):Prop:=∃pre,cs=pre++[ax f]
def Bot.cons{cs:Lx LW}{c:LW}(h:Bot f cs):Bot f (c::cs):=by
 obtain⟨pre,rfl⟩:=h;exact⟨c::pre,rfl⟩
def Jw(Q P:LV)[J:JunkSet](f:Nh)(Post:LA->Lt->Prop)(W:Lt)(b:LW)(k:Lx PW)(cs:Lx LW):SS->ON->Lt->Prop
 | .normal,a,w=>EL Q P f Post W (G (b.at a k) cs) w
 | .exit id,a,w=>∃d,Rz id k=Lq d/\EL Q P f Post W (G (b.at a d) cs) w
 | .ret,a,w=>∀c,EL Q P f Post W (G { b.at a c with mode:=.returning } cs) w
 | _,_,_=>PC
section
variable{b:LW}{a:ON}{k:Lx PW}{cs:Lx LW}{wq:Lt}
def EL.land(D:Two Q P)(j:Bot f cs)(i:Q.funcs[b.fn]?=P.funcs[b.fn]?){p:LW}(r:∀T,∃e o d,Jw Q P f Post W b k cs e o d/\Arrives Q (lone p cs (wq.tp T)) b k cs e o d):EL Q P f Post W (G p cs) wq:=by
 refine EL.of_runs D λT=>?_;have⟨e,o,d,g,c⟩:=r T;cases e with
 | normal=>exact⟨_,cs,d,c,j,i,g⟩
 | exit id=>
  obtain⟨q,s,t⟩:=g;exact⟨_,cs,d,c q s,j,i,t⟩
 | goto l=>exact g.elim
 | ret=>
  obtain⟨h,c⟩:=c;exact⟨_,cs,d,c,j,i,g h⟩
 | panic n=>exact g.elim
 | outgrown=>exact g.elim
def EL.piece(D:Two Q P)(e:Bot f cs)(d:Q.funcs[b.fn]?=P.funcs[b.fn]?){c:Og}(h:∀T,c.wp Q (Jw Q P f Post W b k cs) a (wq.tp T)):EL Q P f Post W (G (b.at a (.code c::k)) cs) wq :=
 EL.land D e d λT=>h T b k cs
end
end
end
section
open Go.Conc Go.ConcN Go.Sim
def EE(P:LV)(Post:LA->Lt->Prop)(cl:Ly->Cl)(g:LD)(w:Lt):Prop:=∀d,E P Post cl g (w.at d)
section
variable{P:LV}{Post:LA->Lt->Prop}{cl:Ly->Cl}
def EE.pure{g g':LD}{w:Lt}(e:g.status=.running)(h:∀w,Nb P LG g w=.go g' w #[])(f:EE P Post cl g' w):EE P Post cl g w :=
 λd=>E.step e λc=>⟨g',(w.at d).at c,#[],h _,LC _,by simp,f c⟩
def EE.raw{g o:LD}{w:Lt}(f:Lt)(c:Ly->Cl)(q:g.status=.running)(h:∀d,∃i,Nb P LG g (w.at d)=.go o (f.at d) i/\∀e∈i,EvG c f.heap.size 0 e/\dH e)(j:w.heap.size<=f.heap.size)(l:∀b,b<w.heap.size->c b=cl b)(n:∀b,f.heap.size<=b->c b=.mine 0)(r:EE P Post c o f):EE P Post cl g w :=
 λd=>E.stepC q λp=>by
  have⟨i,t,s⟩:=h p;exact⟨o,f.at p,i,c,t,j,l,n,s,r p⟩
section
variable{b:LW}{a:ON}{k:Lx PW}{cs:Lx LW}{w:Lt}
def EE.seq{x y:Og}(h:EE P Post cl (G (b.at a (.code x::.code y::k)) cs) w):EE P Post cl (G (b.at a (.code (.seq x y)::k)) cs) w:=.pure rfl (λ_=>Mb) h
def EE.block{id:Ly}{c:Og}(h:EE P Post cl (G (b.at a (.code c::.inBlock id::k)) cs) w):EE P Post cl (G (b.at a (.code (.block id c)::k)) cs) w:=.pure rfl (λ_=>Su) h
def EE.loop{c:Og}(h:EE P Post cl (G (b.at a (.code c::.inLoop c::k)) cs) w):EE P Post cl (G (b.at a (.code (.loop c)::k)) cs) w:=.pure rfl (λ_=>VD) h
def EE.region{id:Ly}{c:LM NB}(h:EE P Post cl (G (b.at a (.inRegion c (Mr c.size)::k)) cs) w):EE P Post cl (G (b.at a (.code (.region id c LH)::k)) cs) w:=.pure rfl (λ_=>stepG_region) h
def EE.region_end{c:LM NB}(h:EE P Post cl (G (b.at a k) cs) w):EE P Post cl (G (b.at a (.inRegion c []::k)) cs) w:=.pure rfl (λ_=>LK) h
def EE.retS(h:EE P Post cl (G { b.at a (.code .ret::k) with mode:=.returning } cs) w):EE P Post cl (G (b.at a (.code .ret::k)) cs) w:=.pure rfl (λ_=>OL) h
def EE.value{c:LM NB}{i:Ly}{d:Lx Ly}{o:NB}(v:LA)(g:c[i]?=Lq o)(e:MA o (Od c a.tmps)=LG)(j:b.kind≠.early)(f:∀w,(OZ a.eval o).run P w=.ok (.value v) w)(l:∀w,(OZ a.eval o).events P w #[]=#[])(h:EE P Post cl (G (b.at (a.put o.dst v) (.inRegion c d::k)) cs) w):EE P Post cl (G (b.at a (.inRegion c (i::d)::k)) cs) w :=
 .pure rfl (λw=>by rw[UR g e j (f w)];unfold listed;rw[l w,seen_none]) h
def EE.op[JunkSet]{f:LM NB}{i:Ly}{g:Lx Ly}{o:NB}(v:LA)(j:Lt)(c:Ly->Cl)(s:f[i]?=Lq o)(q:MA o (Od f a.tmps)=LG)(t:b.kind≠.early)(r:∀d,(OZ a.eval o).run P (w.at d)=.ok (.value v) (j.at d))(u:∀d,∀e∈(OZ a.eval o).events P (w.at d) #[],EvG c j.heap.size 0 e/\dH e)(l:w.heap.size<=j.heap.size)(n:∀b,b<w.heap.size->c b=cl b)(p:∀b,j.heap.size<=b->c b=.mine 0)(h:EE P Post c (G (b.at (a.put o.dst v) (.inRegion f g::k)) cs) j):EE P Post cl (G (b.at a (.inRegion f (i::g)::k)) cs) w :=
 .raw j c rfl (λd=>⟨_,UR s q t (r d),λe hm=>u d e (gH _ _ _ e hm)⟩) l n p h
def sb{e:MC}{d:LM NB}{i:Ly}{c:Lx Ly}{o:NB}{w h:Lt}(j:d[i]?=Lq o)(l:MA o (Od d a.tmps)=LG)(p:b.kind≠.early)(n:(OZ a.eval o).run P w=.ok .skip h) :Nb P e (G (b.at a (.inRegion d (i::c)::k)) cs) w=.go (G (b.at (a.put o.dst LI) (.inRegion d c::k)) cs) h (listed P b.fn a o w):=by
 have f:(b.at a (.inRegion d (i::c)::k)).finish LI=b.at (a.put o.dst LI) (.inRegion d c::k):=by rw[Ow,j];rfl
 have g:(b.kind == CallKind.early)=LH:=by simpa using p
 rw[stepG_oper j l,<- f];simp[Nq,n,G,Frame.at,g,Ni,listed]
def EE.store[JunkSet]{c:LM NB}{i:Ly}{f:Lx Ly}{o:NB}(g:Lt)(q:c[i]?=Lq o)(n:MA o (Od c a.tmps)=LG)(r:b.kind≠.early)(p:∀d,(OZ a.eval o).run P (w.at d)=.ok .skip (g.at d))(s:∀d,∀e∈(OZ a.eval o).events P (w.at d) #[],EvG cl g.heap.size 0 e/\dH e)(j:g.heap.size=w.heap.size)(l:∀b,w.heap.size<=b->cl b=.mine 0)(h:EE P Post cl (G (b.at (a.put o.dst LI) (.inRegion c f::k)) cs) g):EE P Post cl (G (b.at a (.inRegion c (i::f)::k)) cs) w :=
 .raw g cl rfl (λd=>⟨_,sb q n r (p d),λe hm=>s d e (gH _ _ _ e hm)⟩) (Py j.symm) (λ_ _=>rfl) (λb t=>l b (by omega)) h
def EE.enter{c:LM NB}{i:Ly}{d:Lx Ly}{o:NB}{f:Nh}{g:Func}{args:LM MS}{j:LM LZ}(p:c[i]?=Lq o)(n:MA o (Od c a.tmps)=LG)(q:b.kind≠.early)(e:o.op=.call { callee:=.value (.func f),args,argTypes:=j })(hf:P.funcs[f]?=Lq g)(hname:(g.name == "runtime.NumGoroutine")=LH)(hb:g.body.isNone=LH)(h:EE P Post cl (G (MO P f (args.map a.eval) .normal) (b.at a (.inRegion c (i::d)::k)::cs)) w) :EE P Post cl (G (b.at a (.inRegion c (i::d)::k)) cs) w :=
 .pure rfl (λw=>by
  rw[stepG_enter p n q (RZ e hf hname hb)];have:listed P b.fn a o w=#[]:=by unfold listed;rw[events_call_body e hf hname hb];exact seen_none P _
  rw[this]) h
def EE.leave1{b₀:LW}{a₀:ON}{d:LM NB}{i:Ly}{c:Lx Ly}{e:Lx PW}{g:Func}{t:Tmp}(j:b.kind=.normal)(n:a.defers=[])(l:P.funcs[b.fn]?=Lq g)(f:g.results=#[.tmp t])(h:EE P Post cl (G (b₀.at (a₀.put ((d[i]?).bind (·.dst)) (a.tmps.getD t LI)) (.inRegion d c::k)) cs) w):EE P Post cl (G { b.at a e with mode:=.returning } (b₀.at a₀ (.inRegion d (i::c)::k)::cs)) w :=
 .pure rfl (λw=>by rw[stepG_leave j n l (Sv f _ P w) (Sm f _ _),Ow]) h
end
end
def uz{c:LW}{cs:Lx LW}(hm:c.mode=.run)(d:c.kind=.normal)(f:LW):Mq f (c::cs)=Lw:=by
 have e:Mq c cs=Lw:=by
  unfold Mq;rw[d]
 unfold Mq;split
 ·rename_i h
  cases h;rw[hm]
 ·rename_i h
  cases h;rw[e];rfl
 ·rfl
section
variable[J:JunkSet]{Q P:LV}{Post:LA->Lt->Prop}{cl:Ly->Cl}{M N:Ly}
def E.subc(D:Two Q P){F:LD->Lt->Prop}{f:Nh}{l:Lx LW}{W:Lt}{ρ0:Ren}(hR:∀fr,Mq fr l=Lw)(hF:∀g u,F g u->g.callers=[ax f])(r:∀Z g p t w,Sub Q P M F f l Z g p t w->F g p->Le ρ0 Z->(∀i j,BR Z i j->BR ρ0 i j\/W.heap.size<=j)->ie cl Z->(∀b,w.heap.size<=b->cl b=.mine 0)->fQ M N W Z w->E P Post cl t w){Z:Ren}{g t:LD}{p w:Lt}(h:Sub Q P M F f l Z g p t w)(z:Le ρ0 Z)(B:∀i j,BR Z i j->BR ρ0 i j\/W.heap.size<=j)(ho:ie cl Z)(V:∀b,w.heap.size<=b->cl b=.mine 0)(S:fQ M N W Z w):E P Post cl t w:=by
 have q:Acc (Below Q F) (g,p):=h.tree.acc;generalize hx:(g,p)=x at q;induction q generalizing Z g p t w with
 | intro x _ ih=>
  subst hx;by_cases hn:F g p
  ·exact r Z g p t w h hn z B ho V S
  ·refine E.step (il h) λd=>?_;have⟨O,Y,n,G,I,es,X,h2,s,h4,_,v⟩:=(um h d).stepK D.H D.hrf hR hn LG (λg u hg=>by rw[hF g u hg];simp);have C:Sub Q P M F f l O Y n G I:=by
    rcases v with v | ⟨fk,k,a,a',c,c',pre,a6,v,rfl,rfl⟩
    ·exact v
    ·exfalso;have⟨o,u,es,e⟩:=D.stub fk v.diff a k (c::(pre++[ax f])) (n.tp n.tape);cases v.tree with
     | done hh=>
      have:=hF _ _ hh;simp at this
     | step _ X _=>
      have⟨Y,u1,e5,e1,_⟩:=X n.tape;rw[e] at e1;cases e1
   have y:ie cl O:=ho.step (w:=w.at d) s V;have U:∀b,I.heap.size<=b->cl b=.mine 0:=λb hb=>V b (LN s.size hb);have R:fQ M N W O I:=fQ.step (w:=w.at d) (S.at d) s;refine⟨G,I,es,X,s.size,λe he=>iw y C.wr (h4 e he),?_⟩;refine ih (Y,n) h2 C (z.trans s.le) (λi j A=>?_) y U R rfl;rcases NK i Z.length with L | T
   ·exact B i j (BR.back s.le A L)
   ·exact .inr (LN S.size (s.fresh i j A T))
def EE.call(D:Two Q P){f:Nh}{aq ap:LM LA}{R:LA->Lt->Prop}{c:LW}{cs:Lx LW}{Z:Ren}{wq w:Lt}(t:JunkSet.okf f)(hs:Q.funcs[f]?=P.funcs[f]?)(ha:AsR Z aq ap)(y:M<=Z.length)(hw:WR Q M Z wq w)(hG:Gl P Z)(hc:∀T,MH Q f aq (wq.tp T) λe u=>∃v,e=.returned v/\R v u)(b8:c.mode=.run)(c3:c.kind=.normal)(ho:ie cl Z)(b9:∀b,w.heap.size<=b->cl b=.mine 0)(C:∀O l v I n,R v l->VR O v I->WR Q M O l n->Le Z O->(∀i j,BR O i j->BR Z i j\/w.heap.size<=j)->ie cl O->(∀b,n.heap.size<=b->cl b=.mine 0)->fQ M 0 w O n->EE P Post cl (G (c.finish I) cs) n) :EE P Post cl (G (MO P f ap .normal) (c::cs)) w:=by
 intro d;have⟨B,U,HQ⟩:=D.HQ;have q:=CB hw d;have S:@jP B.j Q M (eJ Q f aq [ax f]) wq:=⟨Z,_,w.at d,y,WR.up U q,λi hi=>hG i (by rw[D.H.gsize];exact hi),hU.up U (rA D.H t hs ha)⟩;have ht:=@LT.of_calls B.j Q M HQ f aq wq (λe u=>∃v,e=.returned v/\R v u) hc (λu ⟨v,h,_⟩=>by cases h) S;have r:Sub Q P M (AtRet Q f [ax f] λe u=>∃v,e=.returned v/\R v u) f (c::cs) Z (eJ Q f aq [ax f]) wq (G (MO P f ap .normal) (c::cs)) (w.at d) :=
  Sub.enter D.H t hs ha y q hG ht
 refine E.subc D (W:=w) (N:=0) (uz b8 c3) (λg u h=>h.2.1) ?_ r (Le.refl _) (λi j h=>.inl h) ho b9 ⟨λ_ _ _=>rfl,rfl,rfl,LC _,λ_ _ _ _=>Mw _,Mw _⟩;intro O g l g' n s hF a7 b6 X F z;refine E.step (il s) λL=>?_;obtain⟨hl,b7,g7,T,e,⟨v,rfl,hR⟩,Y⟩:=hF;have⟨V,d9,I,p,es,k1,k2,k3,k4,o,k6⟩:=Sub.ret D.H (um s L) b7 Y LG;subst k4;have x:ie cl V:=X.step (w:=n.at L) o F;have c8:∀b,p.heap.size<=b->cl b=.mine 0:=λb hb=>F b (LN o.size hb);have a8:fQ M 0 w V p:=fQ.step (w:=n.at L) (z.at L) o;refine⟨_,p,es,k1,o.size,λe he=>iw x k3 (k6 e he),?_⟩;have:=C V _ v I p hR k2 k3 (a7.trans o.le) (λi j A=>?_) x c8 a8
 ·exact this p.drawn
 ·rcases NK i O.length with a6 | b0
  ·exact b6 i j (BR.back o.le A a6)
  ·exact .inr (LN z.size (o.fresh i j A b0))
end
end
section
open Go.Conc Go.ConcN Go.Sim
section
variable{P:LV}{Fz:Bs}{K:Lt->Lt->Prop}{Stop:Bs->LD->Lt->Prop}{S:Bs}
def az.pure{g g':LD}{w:Lt}(hK:∀a b c,K a b->K b c->K a c)(d:g.status=.running)(h:∀w,Nb P LH g w=.go g' w #[])(e:az P Fz K Stop S g' w):az P Fz K Stop S g w :=
 az.still d (λw₁ _=>h w₁) λ_ h₁=>e.rely hK h₁
section
variable(hK:∀a b c,K a b->K b c->K a c){b:LW}{a:ON}{k:Lx PW}{cs:Lx LW}{w:Lt}
include hK
theorem az.seq{x y:Og}(h:az P Fz K Stop S (G (b.at a (.code x::.code y::k)) cs) w):az P Fz K Stop S (G (b.at a (.code (.seq x y)::k)) cs) w:=.pure hK rfl (λ_=>Mb) h
theorem az.skip(h:az P Fz K Stop S (G (b.at a k) cs) w):az P Fz K Stop S (G (b.at a (.code .skip::k)) cs) w:=.pure hK rfl (λ_=>Nr) h
theorem az.cond{c:MS}{x y:Og}(t:MC)(d:a.eval c=.bool t)(h:az P Fz K Stop S (G (b.at a (.code (if t then x else y)::k)) cs) w):az P Fz K Stop S (G (b.at a (.code (.cond c x y)::k)) cs) w:=.pure hK rfl (λ_=>stepG_cond d) h
theorem az.block{id:Ly}{c:Og}(h:az P Fz K Stop S (G (b.at a (.code c::.inBlock id::k)) cs) w):az P Fz K Stop S (G (b.at a (.code (.block id c)::k)) cs) w:=.pure hK rfl (λ_=>Su) h
theorem az.inBlock{id:Ly}(h:az P Fz K Stop S (G (b.at a k) cs) w):az P Fz K Stop S (G (b.at a (.inBlock id::k)) cs) w:=.pure hK rfl (λ_=>stepG_inBlock) h
theorem az.loop{c:Og}(h:az P Fz K Stop S (G (b.at a (.code c::.inLoop c::k)) cs) w):az P Fz K Stop S (G (b.at a (.code (.loop c)::k)) cs) w:=.pure hK rfl (λ_=>VD) h
theorem az.inLoop{c:Og}(h:az P Fz K Stop S (G (b.at a (.code c::.inLoop c::k)) cs) w):az P Fz K Stop S (G (b.at a (.inLoop c::k)) cs) w:=.pure hK rfl (λ_=>stepG_inLoop) h
theorem az.region{id:Ly}{c:LM NB}(h:az P Fz K Stop S (G (b.at a (.inRegion c (Mr c.size)::k)) cs) w):az P Fz K Stop S (G (b.at a (.code (.region id c LH)::k)) cs) w:=.pure hK rfl (λ_=>stepG_region) h
theorem az.region_end{c:LM NB}(h:az P Fz K Stop S (G (b.at a k) cs) w):az P Fz K Stop S (G (b.at a (.inRegion c []::k)) cs) w:=.pure hK rfl (λ_=>LK) h
theorem az.retS(h:az P Fz K Stop S (G { b.at a (.code .ret::k) with mode:=.returning } cs) w):az P Fz K Stop S (G (b.at a (.code .ret::k)) cs) w:=.pure hK rfl (λ_=>OL) h
theorem az.endS(h:az P Fz K Stop S (G { b.at a [] with mode:=.returning } cs) w):az P Fz K Stop S (G (b.at a []) cs) w:=.pure hK rfl (λ_=>Wt) h
theorem az.value{c:LM NB}{i:Ly}{d:Lx Ly}{o:NB}(v:LA)(g:c[i]?=Lq o)(e:MA o (Od c a.tmps)=LG)(j:b.kind≠.early)(f:∀w,(OZ a.eval o).run P w=.ok (.value v) w)(l:∀w,(OZ a.eval o).events P w #[]=#[])(h:az P Fz K Stop S (G (b.at (a.put o.dst v) (.inRegion c d::k)) cs) w):az P Fz K Stop S (G (b.at a (.inRegion c (i::d)::k)) cs) w :=
 .pure hK rfl (λw=>by rw[UR g e j (f w)];unfold listed;rw[l w,seen_none]) h
theorem az.unwanted{c:LM NB}{i:Ly}{d:Lx Ly}{o:NB}(f:c[i]?=Lq o)(e:MA o (Od c a.tmps)=LH)(h:az P Fz K Stop S (G (b.at (a.put o.dst LI) (.inRegion c d::k)) cs) w):az P Fz K Stop S (G (b.at a (.inRegion c (i::d)::k)) cs) w :=
 .pure hK rfl (λ_=>stepG_unwanted f e) h
theorem az.enter{d:LM NB}{i:Ly}{e:Lx Ly}{o:NB}{f:Nh}{n:Func}{c:Og}{args:LM MS}{p:LM LZ}(r:d[i]?=Lq o)(q:MA o (Od d a.tmps)=LG)(s:b.kind≠.early)(g:o.op=.call { callee:=.value (.func f),args,argTypes:=p })(hf:P.funcs[f]?=Lq n)(hname:(n.name == "runtime.NumGoroutine")=LH)(hb:n.body=Lq c)(h:az P Fz K Stop S (G ((base f).at { tmps:=args.map a.eval++MR (n.ntmps - (args.map a.eval).size) LI,defers:=[] } [.code c]) (b.at a (.inRegion d (i::e)::k)::cs)) w) :az P Fz K Stop S (G (b.at a (.inRegion d (i::e)::k)) cs) w :=
 .pure hK rfl (λw=>by
  have j:n.body.isNone=LH:=by rw[hb];rfl
  rw[stepG_enter r q s (RZ g hf hname j),enter_at _ hf hb];have:listed P b.fn a o w=#[]:=by unfold listed;rw[events_call_body g hf hname j];exact seen_none P _
  rw[this]) h
theorem az.leave1{b₀:LW}{a₀:ON}{d:LM NB}{i:Ly}{c:Lx Ly}{e:Lx PW}{g:Func}{t:Tmp}(j:b.kind=.normal)(n:a.defers=[])(l:P.funcs[b.fn]?=Lq g)(f:g.results=#[.tmp t])(h:az P Fz K Stop S (G (b₀.at (a₀.put ((d[i]?).bind (·.dst)) (a.tmps.getD t LI)) (.inRegion d c::k)) cs) w):az P Fz K Stop S (G { b.at a e with mode:=.returning } (b₀.at a₀ (.inRegion d (i::c)::k)::cs)) w :=
 .pure hK rfl (λw=>by rw[stepG_leave j n l (Sv f _ P w) (Sm f _ _),Ow]) h
theorem az.leave0{b₀:LW}{a₀:ON}{d:LM NB}{i:Ly}{c:Lx Ly}{e:Lx PW}{g:Func}(j:b.kind=.normal)(n:a.defers=[])(l:P.funcs[b.fn]?=Lq g)(f:g.results=#[])(h:az P Fz K Stop S (G (b₀.at (a₀.put ((d[i]?).bind (·.dst)) (.tuple #[])) (.inRegion d c::k)) cs) w):az P Fz K Stop S (G { b.at a e with mode:=.returning } (b₀.at a₀ (.inRegion d (i::c)::k)::cs)) w :=
 .pure hK rfl (λw=>by rw[stepG_leave j n l (results_none f _ P w) (events_results_none f _ _),Ow]) h
theorem az.load[JunkSet]{c:LM NB}{i:Ly}{d:Lx Ly}{o:NB}(v:LA)(j:c[i]?=Lq o)(f:MA o (Od c a.tmps)=LG)(l:b.kind≠.early)(g:∀w₁,RC Fz K S w w₁->(OZ a.eval o).run P w₁=.ok (.value v) w₁/\∀e∈(OZ a.eval o).events P w₁ #[],EvC Fz S w₁.heap.size e)(h:az P Fz K Stop S (G (b.at (a.put o.dst v) (.inRegion c d::k)) cs) w) :az P Fz K Stop S (G (b.at a (.inRegion c (i::d)::k)) cs) w :=
 az.step rfl λw₁ h₁=>by
  have⟨q,p⟩:=g w₁ h₁;refine⟨_,w₁,_,UR j f l q,⟨λ_ _ _=>rfl,LC _,rfl,rfl,λe n=>?_⟩,by rw[iY];exact h.rely hK h₁⟩;rw[iY];exact p e (gH _ _ _ e n)
end
def az.offers{g:LD}{w:Lt}(hSo:∀S g w c,Stop S g w->Stop S { g with offers:=c } w)(c:LU (LM Pg × OK))(h:az P Fz K Stop S g w):az P Fz K Stop S { g with offers:=c } w:=by
 obtain⟨r,h⟩:=h;cases r with
 | leaf=>exact⟨.leaf,λw₁ h₁=>hSo _ _ _ _ (h w₁ h₁)⟩
 | nd f=>exact⟨.nd f,h.1,h.2⟩
section
variable[J:JunkSet]{Q:LV}{base:Ly}
structure Jv(Q P:LV)(base:Ly)(Fz S Jc Jb:Bs)(Z:Ren)(a:ON)(tm:LM LA)(wq w:Lt):Prop where
 len:base<=Z.length
 wr:WR Q base Z wq w
 gl:Gl P Z
 tm:AsR Z a.tmps tm
 df:a.defers=[]
 own:Own base Z JunkSet.jk Fz S
 jb:∀i j,BR Z i j->JunkSet.jk i->Jc j
 js:∀j,Jb j->¬ S j
def az.piece(H:Duo Q P){X:Jy}(U:Up J X.j)(HQ:@Duo X.j Q Q)(hrf:P.follows .rangeFuncRecover=LG){real:Lx LW}(hrr:∀fr,Mq fr real=Lw)(s:∀fk,Q.funcs[fk]?≠P.funcs[fk]?->∀a k cs u,∃o w es,Nb Q LG { frame:=MO Q fk a k,callers:=cs,status:=.running,dying:=Lw } u LG=.ended o w es)(Jc Jb:Bs)(Liv:Lt->Prop)(hL1:∀S w w₁,RC Fz K S w w₁->Liv w->Liv w₁)(hL2:∀S w p es,DC Fz S w p es->(∀b,Jb b->p.heap[b]?=w.heap[b]?)->Liv w->Liv p)(hL3:∀w b,Liv w->Jc b->∃c e f,w.heap[b]?=Lq (.cells c e f))(hL4:∀w b,Liv w->Jb b->b<w.heap.size)(hSo:∀S g w d,Stop S g w->Stop S { g with offers:=d } w){b:LW}(hfn:∃g,Q.funcs[b.fn]?=Lq g/\P.funcs[b.fn]?=Lq g)(hin:Q.inits.idxOf? b.fn=Lw)(hbr:b.roundOf=Lw){c:Og}(hc:aI Q c){Z:Ren}{a:ON}{tm:LM LA}{D:Lx NR}{k:Lx PW}{wq w:Lt}{S:Bs}{R:ON->Lt->Prop}(h:Jv Q P base Fz S Jc Jb Z a tm wq w)(hv:Liv w)(hwp:∀T,c.wp Q (eL R) a (wq.tp T))(hRd:∀a u,R a u->a.defers=[])(hend:∀ρ' Y r n p S',R Y n->Le Z ρ'->Jv Q P base Fz S' Jc Jb ρ' Y r n p->Liv p->az P Fz K Stop S' (G (b.at ⟨r,D⟩ k) real) p) :az P Fz K Stop S (G (b.at ⟨tm,D⟩ (.code c::k)) real) w:=by
 obtain⟨V,B,A⟩:=hfn;have I:∀(X:LV),(∃g,Q.funcs[b.fn]?=Lq g/\X.funcs[b.fn]?=Lq g)->hU Q X Z (G (b.at a [.code c]) [ax b.fn]) (G (b.at ⟨tm,[]⟩ [.code c]) [ax b.fn]):=λX hX=>
  ⟨⟨rfl,hX,hin,h.tm,.cons (.code hc) .nil,by simp only[G,Frame.at];rw[h.df];exact .nil,.run,rfl,.inl ⟨rfl,rfl⟩⟩,.cons (vh hin hX) .nil,rfl,rfl,rfl,rfl⟩
 have b9:@jP X.j Q base (G (b.at a [.code c]) [ax b.fn]) wq:=⟨Z,_,w,h.len,WR.up U h.wr,λi hi=>h.gl i (by rw[H.gsize];exact hi),hU.up U (I P ⟨V,B,A⟩)⟩;have ht:=@LT.of_wp X.j Q base b.fn HQ _ _ _ _ _ hwp b9;have a8:rT Q P base (AtEnd b.fn b R) b.fn k D real Z (G (b.at a [.code c]) [ax b.fn]) wq (G (b.at ⟨tm,D⟩ (.code c::k)) real) w :=
  ⟨h.len,h.wr,h.gl,ht,⟨[],rfl⟩,_,I P ⟨V,B,A⟩,by
   have:=Lay.top (k:=k) (D:=D) (real:=real) (f:=b.fn) (gv:=G (b.at ⟨tm,[]⟩ [.code c]) [ax b.fn]) rfl rfl rfl;simpa[tl,G,Frame.at] using this⟩
 refine az.tsub H hrf hrr AtEnd.leafs s Jc Jb Liv hL1 hL2 hL3 hL4 (ρ0:=Z) ?_ a8 (Le.refl _) h.own h.jb hv h.js;rintro O g n g' p S' l ⟨g5,b8,Y,T,F,hR⟩ x ho b6 a7 z;have⟨gv,W,y⟩:=l.rel;have hd:=hRd _ _ hR;have M:=W.callers;rw[b8] at M;have⟨d5,q,b0⟩:=iO (pre:=[]) M;cases b0;have q:gv.callers=[ax b.fn]:=q;have hf:=W.frame;rw[F] at hf;cases y with
 | und pre c0 N _=>
  rw[q] at N;exact(AF N.symm).elim
 | top _ hm v=>
  obtain⟨⟨fn,tmps,todo,defers,mode,kind,ro⟩,cs,st,dy,d⟩:=gv;obtain⟨h1,h2,h3,h4,h5,h6,h7,h8,h9⟩:=hf;have t:=W.st';have L:=W.dy';dsimp only[Frame.at] at h1 h4 h5 h6 h8 hm v t L;rw[hd] at h6;cases h5;cases h6;subst h1 h8 hm v t L;have b7:({ frame:=tl k D { fn:=b.fn,tmps:=tmps,todo:=[],defers:=[],mode:=.run,kind:=b.kind,roundOf:=Lw },callers:=real,status:=.running,dying:=Lw,offers:=d }:LD)={ G (b.at ⟨tmps,D⟩ k) real with offers:=d }:=by
   simp[tl,G,Frame.at]
  have C:({ ({ frame:={ fn:=b.fn,tmps:=tmps,todo:=[],defers:=[],mode:=.run,kind:=b.kind,roundOf:=Lw },callers:=cs,status:=.running,dying:=Lw,offers:=d }:LD) with frame:=tl k D { fn:=b.fn,tmps:=tmps,todo:=[],defers:=[],mode:=.run,kind:=b.kind,roundOf:=Lw },callers:=real }:LD)={ G (b.at ⟨tmps,D⟩ k) real with offers:=d }:=b7;rw[C];exact az.offers hSo d (hend O Y tmps (n.tp T) p S' hR x ⟨l.len,⟨l.wr.len,l.wr.nodup,l.wr.lt,l.wr.obj,l.wr.low,l.wr.env,l.wr.below,l.wr.gar⟩,l.gl,h4,hd,ho,b6,z⟩ a7)
end
end
end
section
open Go.Conc Go.ConcN Go.Sim
section
variable{P:LV}{Fz:Bs}{K:Lt->Lt->Prop}{Stop:Bs->LD->Lt->Prop}{S:Bs}(hK:∀a b c,K a b->K b c->K a c){b:LW}{k:Lx PW}{cs:Lx LW}
include hK
omit hK in
theorem GF{d:PL}{c:LM NB}{a t:Ly}{listed:LM MC}(e:Mi d c listed=[]):MV d c a t listed []=[]:=by
 cases a with
 | zero=>simp[MV]
 | succ a=>
  simp only[MV];change (match (Mi d c listed)[t % (Mi d c listed).length]? with
   | some i=>MV d c a (t / (Mi d c listed).length) (listed.setIfInBounds i LG) [i]
   | none=>[].reverse)=[]
  rw[e];rfl
theorem az.any{md:PL}{ops:LM NB}(I:LM MC->ON->Prop){w:Lt}(g:∀listed a i,listed.size=ops.size->I listed a->i∈Mi md ops listed->∀d,(Mi md ops (listed.setIfInBounds i LG)=[]->d=[])->(∀p,I (listed.setIfInBounds i LG) p->az P Fz K Stop S (G (b.at p (.inRegion ops d::k)) cs) w)->az P Fz K Stop S (G (b.at a (.inRegion ops (i::d)::k)) cs) w)(f:∀listed a,listed.size=ops.size->I listed a->Mi md ops listed=[]->az P Fz K Stop S (G (b.at a k) cs) w) :∀(c t:Ly) (listed:LM MC) (a:ON),listed.size=ops.size->unl listed ops.size<=c->I listed a->az P Fz K Stop S (G (b.at a (.inRegion ops (MV md ops c t listed [])::k)) cs) w:=by
 intro c;induction c with
 | zero=>
  intro t listed a h y o;have e:Mi md ops listed=[]:=by
   cases e:Mi md ops listed with
   | nil=>rfl
   | cons i l=>
    exfalso;have⟨s,r⟩:=bT (md:=md) (ops:=ops) (listed:=listed) (i:=i) (by rw[e];simp);have:=ik s h r;omega
  simp only[MV,List.reverse_nil];exact az.region_end hK (f listed a h o e)
 | succ c v=>
  intro t listed a h y o;simp only[MV];change az P Fz K Stop S (G (b.at a (.inRegion ops (match (Mi md ops listed)[t % (Mi md ops listed).length]? with
   | some i=>MV md ops c (t / (Mi md ops listed).length) (listed.setIfInBounds i LG) [i]
   | none=>[].reverse)::k)) cs) w
  cases j:(Mi md ops listed)[t % (Mi md ops listed).length]? with
  | none=>
   have e:Mi md ops listed=[]:=by
    cases e:Mi md ops listed with
    | nil=>rfl
    | cons x u=>
     rw[e] at j;have n:t % (x::u).length<(x::u).length:=Nat.mod_lt _ (by simp);simp at j;simp at n;omega
   exact az.region_end hK (f listed a h o e)
  | some i=>
   simp only[];rw[linearise_go_acc,Ur,List.singleton_append];have j:=Mh j;have⟨s,r⟩:=bT j;have n:=ik s h r;refine g listed a i h o j _ (λe=>?_) λp q=>v _ _ p (by simpa using h) (by omega) q;exact GF e
theorem az.region_inv{id:Ly}{c:LM NB}{a:ON}{w:Lt}(hm:P.follows .mixedOrders=LG)(g:∀w n,K w { w with drawn:=n })(I:LM MC->ON->Prop)(h0:I (MR c.size LH) a)(hstep:∀listed a i,listed.size=c.size->I listed a->i∈Mi .any c listed->∀d,(Mi .any c (listed.setIfInBounds i LG)=[]->d=[])->(∀h,I (listed.setIfInBounds i LG) h->az P Fz K Stop S (G (b.at h (.inRegion c d::k)) cs) w)->az P Fz K Stop S (G (b.at a (.inRegion c (i::d)::k)) cs) w)(hend:∀listed a,listed.size=c.size->I listed a->Mi .any c listed=[]->az P Fz K Stop S (G (b.at a k) cs) w) :az P Fz K Stop S (G (b.at a (.code (.region id c LG)::k)) cs) w:=by
 refine az.step rfl λw₁ h₁=>?_;have e:Nb P LH (G (b.at a (.code (.region id c LG)::k)) cs) w₁=.go (G (b.at a (.inRegion c (Si (P.follows .mixedOrders) c (w₁.tape w₁.drawn (.order b.fn id)))::k)) cs) { w₁ with drawn:=w₁.drawn+1 } #[]:=by
  simp[G,Nb,Pf,Frame.at,choose,Nm,Question.forced,Question.cut]
 refine⟨_,_,_,e,⟨λ_ _ _=>rfl,LC _,rfl,rfl,by simp⟩,?_⟩;have j:grow S w₁ { w₁ with drawn:=w₁.drawn+1 }=S:=iY S w₁;rw[j];have:=az.any hK I (w:=w) hstep hend c.size (w₁.tape w₁.drawn (.order b.fn id)) _ a (by simp) (by
  unfold unl;exact LN (Oq _ _) (by simp)) h0
 have l:az P Fz K Stop S (G (b.at a (.inRegion c (Si (P.follows .mixedOrders) c (w₁.tape w₁.drawn (.order b.fn id)))::k)) cs) w:=by
  simp only[Si,hm,XG,if_true];exact this
 exact l.rely hK ⟨λb f=>h₁.own b f,λb f=>h₁.fz b f,h₁.size,h₁.os,h₁.output,hK _ _ _ h₁.k (g _ _)⟩
omit hK in
theorem az.of_goes2{R:Lt->Lt->Prop}(c:∀w w₁,RC Fz K S w w₁->R w w₁)(r:∀w,R w w){a:LD->Lt->Prop}(f:∀g w,a g w->Stop S g w):∀{n:Ly} {g:LD} {w:Lt},Rq P LH R SH a n g w->az P Fz K Stop S g w:=by
 intro n;induction n with
 | zero=>exact λh=>az.stop λw₁ h₁=>f _ _ (h w₁ (c _ _ h₁))
 | succ n i=>
  intro g w h;rcases h with h | ⟨l,h⟩
  ·exact az.stop λw₁ h₁=>f _ _ (h w₁ (c _ _ h₁))
  ·refine .step l λw₁ h₁=>?_;have⟨o,d,s,e,⟨q,p⟩,j⟩:=goes_elim (h w₁ (c _ _ h₁));subst q;subst p;exact⟨o,d,#[],e,xM S d,by rw[iY];exact i j⟩
end
end
section
open Go.Conc Go.ConcN
open Go.ConcR (KK wgBlock WgAt stA smA rd wr mk DC0)
def LR(ty:LZ)(Wg:Ly)(w w₁:Lt):Prop:=OO ty Wg w->OO ty Wg w₁
def DM(Wg:Ly)(w b:Lt)(c:LM Ns):Prop:=b=w/\∀e∈c,e=mk (.read (VS Wg))\/e=mk (.write (VS Wg))
section
variable(P:LV)(ty:LZ)(Wg:Ly)
def WG(b:LD->Lt->Prop)(m:Ly)(g:LD)(w:Lt):Prop:=Rq P LH (LR ty Wg) XA b m g w
def WD4(g:LD)(w:Lt):Prop :=
 g.status=.running/\XH P g=LG/\(Sn ty Wg w 0 0->∃b,Nb P LH g w=.go b (w.setCell (VS Wg) (.int .u32 1)) (Qy (VS Wg))/\∃q,TJ P q 1 b)
def WD3(g:LD)(w:Lt):Prop :=
 g.status=.running/\(Sn ty Wg w 1 0->∃b,Nb P LH g w=.go b (w.setCell (Sa Wg) (.int .u64 0)) #[wr (Sa Wg)]/\∃m,WG P ty Wg (WD4 P ty Wg) m b (w.setCell (Sa Wg) (.int .u64 0)))
def WD2(g:LD)(w:Lt):Prop :=
 g.status=.running/\(Sn ty Wg w 1 0->∃b,Nb P LH g w=.go b w #[rd (Sa Wg)]/\∃m,WG P ty Wg (WD3 P ty Wg) m b w)
def WD1(g:LD)(w:Lt):Prop :=
 g.status=.running/\∀v b:Ly,b<=1->v<2147483647->Sn ty Wg w ((v+1)*KK+b) 0 ->
  ∃c,Nb P LH g w=.go c (w.setCell (Sa Wg) (.int .u64 (v*KK+b))) #[rd (Sa Wg),wr (Sa Wg)] /\
   ((v=0/\b=1)->∃m,WG P ty Wg (WD2 P ty Wg) m c (w.setCell (Sa Wg) (.int .u64 (v*KK+b))))/\(¬ (v=0/\b=1)->∃q,TJ P q 1 c)
def WK1(g:LD)(w:Lt):Prop :=
 g.status=.running/\∃b,Nb P LH g w=.go b w #[Ou .disable]/\∃m,WG P ty Wg (WD1 P ty Wg) m b w
def Ku(g:LD)(w:Lt):Prop :=
 ∃b,Nb P LH g w=.go b w #[Ou (.releaseMerge (Sa Wg))]/\∃m,WG P ty Wg (WK1 P ty Wg) m b w
end
structure Cfg(U X:Type) where
 P:LV
 ty:LZ
 Wg:Ly
 lo:Ly
 n:Ly
 Fz:Bs
 Sy:Bs
 clA:Ly->Cl
 DataAt:U->Lt->Prop
 WA:X->Bs->LD->Lt->Prop
 Tr:U->X->U->X->Prop
 J:U->Ly->(Ly->X)->Prop
 m:U->Ly
 nu:X->Ly
 l0:X
 fin:X->Prop
 W1:Lt
 Fin:LD->Lt->Prop
 AnchW:LD->Lt->Prop
 Post:LA->Lt->Prop
section
variable{U X:Type}(C:Cfg U X)
def Cfg.K(w w₁:Lt):Prop:=(OO C.ty C.Wg w->OO C.ty C.Wg w₁)/\((∃W,C.DataAt W w)->∃W,C.DataAt W w₁)
structure Cfg.Ph(w:Lt):Prop where
 fz:∀b,C.Fz b->w.heap[b]?=C.W1.heap[b]?
 size:C.W1.heap.size<=w.heap.size
 os:w.os=C.W1.os
 output:w.output=C.W1.output
def flat(c:Ly->Cl)(b:Ly):Cl:=match c b with | .sync=>.sync | _=>.mine 0
def Cfg.GW(b:LD->Lt->Prop)(m:Ly)(g:LD)(w:Lt):Prop:=WG C.P C.ty C.Wg b m g w
def Cfg.AtD4:LD->Lt->Prop:=WD4 C.P C.ty C.Wg
def Cfg.AtD3:LD->Lt->Prop:=WD3 C.P C.ty C.Wg
def Cfg.AtD2:LD->Lt->Prop:=WD2 C.P C.ty C.Wg
def Cfg.AtD1:LD->Lt->Prop:=WD1 C.P C.ty C.Wg
def Cfg.AtK1:LD->Lt->Prop:=WK1 C.P C.ty C.Wg
def Cfg.AtEnd:LD->Lt->Prop:=Ku C.P C.ty C.Wg
def Cfg.AtSync(l:X)(S:Bs)(g:LD)(w:Lt):Prop :=
 ∀W,C.DataAt W w->(∃j ls,j<=C.n/\C.J W j ls)->∃h c i γ' f,Nb C.P LH g w=.go h c i/\(∀b,¬ C.Sy b->c.heap[b]?=w.heap[b]?)/\c.heap.size=w.heap.size/\c.os=w.os/\c.output=w.output /\
  (∀e∈i,∃a wr,e=⟨.cell a,wr,LG⟩/\C.Sy a.block)/\C.DataAt γ' c/\C.Tr W l γ' f/\C.WA f S h c
def Cfg.Stop(l:X)(S:Bs)(g:LD)(w:Lt):Prop:=g.status=.running/\((C.fin l/\C.AtEnd g w)\/(¬ C.fin l/\C.AtSync l S g w))
def Cfg.GM(b:LD->Lt->Prop)(m:Ly)(g:LD)(w:Lt):Prop:=Rq C.P LG (LR C.ty C.Wg) (DM C.Wg) b m g w
def Cfg.AtAcq(g:LD)(w:Lt):Prop :=
 g.status=.running/\∃b,Nb C.P LG g w=.go b w #[Ou (.acquire (Sa C.Wg))]/\C.Fin b w
def Cfg.AtKe(g:LD)(w:Lt):Prop :=
 g.status=.running/\∃b,Nb C.P LG g w=.go b w #[Ou .enable]/\∃m,C.GM C.AtAcq m b w
def Cfg.AtW4(g:LD)(w:Lt):Prop :=
 g.status=.running/\(Sn C.ty C.Wg w 0 0->∃b,Nb C.P LG g w=.go b w #[rd (Sa C.Wg)]/\∃m,C.GM C.AtKe m b w)
def Cfg.AtW3(g:LD)(w:Lt):Prop :=
 g.status=.running/\g.offers=Lw /\
  ((∃c,Sn C.ty C.Wg w c 0)->Nb C.P LG g w=.go { g with status:=.blocked } w #[]) /\
  (Sn C.ty C.Wg w 0 1->∃b,Nb C.P LG g w=.go b (w.setCell (VS C.Wg) (.int .u32 0)) (Qy (VS C.Wg))/\∃m,C.GM C.AtW4 m b (w.setCell (VS C.Wg) (.int .u32 0)))
def Cfg.AtW2(c:Ly)(g:LD)(w:Lt):Prop :=
 g.status=.running/\∀v:Ly,v<2147483648->Sn C.ty C.Wg w (v*KK) 0 ->
  (v=c->∃b,Nb C.P LG g w=.go b (w.setCell (Sa C.Wg) (.int .u64 (v*KK+1))) #[rd (Sa C.Wg),wr (Sa C.Wg)]/\∃m,C.GM C.AtW3 m b (w.setCell (Sa C.Wg) (.int .u64 (v*KK+1)))) /\
  (v≠c->∃b,Nb C.P LG g w=.go b w #[rd (Sa C.Wg)]/\∃m,C.GM C.AnchW m b w)
def Cfg.AtW1(g:LD)(w:Lt):Prop :=
 g.status=.running/\∀v:Ly,v<2147483648->Sn C.ty C.Wg w (v*KK) 0->∃b,Nb C.P LG g w=.go b w #[rd (Sa C.Wg)] /\
  (v=0->∃m,C.GM C.AtKe m b w)/\(v≠0->∃m,C.GM (C.AtW2 v) m b w)
def Cfg.AtKd(g:LD)(w:Lt):Prop :=
 g.status=.running/\∃b,Nb C.P LG g w=.go b w #[Ou .disable]/\∃m,C.GM C.AnchW m b w
def Cfg.FinS(g:LD)(w:Lt):Prop:=∃m,C.GM C.AtKd m g w
def Cfg.AtGoS(Qz:LD->Lt->Prop)(g:LD)(w:Lt):Prop :=
 g.status=.running/\∃c b,Nb C.P LG g w=.spawn c b w #[]/\(C.Ph w->(∃W,C.DataAt W w)->C.WA C.l0 (λ_=>PC) b w)/\Qz c w
def Cfg.AtKeS(Qz:LD->Lt->Prop)(g:LD)(w:Lt):Prop :=
 g.status=.running/\∃b,Nb C.P LG g w=.go b w #[Ou .enable]/\∃m,C.GM (C.AtGoS Qz) m b w
def Cfg.AtA1(Qz:LD->Lt->Prop)(g:LD)(w:Lt):Prop :=
 g.status=.running/\∀v:Ly,v<2147483647->Sn C.ty C.Wg w (v*KK) 0 ->
  ∃b,Nb C.P LG g w=.go b (w.setCell (Sa C.Wg) (.int .u64 ((v+1)*KK))) #[rd (Sa C.Wg),wr (Sa C.Wg)]/\∃m,C.GM (C.AtKeS Qz) m b (w.setCell (Sa C.Wg) (.int .u64 ((v+1)*KK)))
def Cfg.AtKdS(Qz:LD->Lt->Prop)(g:LD)(w:Lt):Prop :=
 g.status=.running/\∃b,Nb C.P LG g w=.go b w #[Ou .disable]/\∃m,C.GM (C.AtA1 Qz) m b w
def Cfg.Spawns:Ly->LD->Lt->Prop
 | 0,g,w=>C.FinS g w
 | r+1,g,w=>∃m,C.GM (C.AtKdS (Cfg.Spawns r)) m g w
structure Cfg.Ok:Prop where
 hn:C.n<2147483648
 hlo:1<=C.lo
 dat:∀W w w',(∀b,C.Sy b->w'.heap[b]?=w.heap[b]?)->C.DataAt W w->C.DataAt W w'
 fzc:∀b,C.Fz b->C.clA b=.ro C.lo/\b<C.W1.heap.size
 syc:∀b,C.Sy b->C.clA b=.sync/\b<C.W1.heap.size
 cla0:∀b,C.W1.heap.size<=b->C.clA b=.mine 0
 wgc:C.clA C.Wg=.sync/\C.Wg<C.W1.heap.size/\¬ C.Sy C.Wg
 hW:∀l S g w,C.WA l S g w->az C.P C.Fz C.K (C.Stop l) S g w
 hJ0:∀W j ls,C.J W j ls->C.J W (j+1) (QW ls j C.l0)
 hJ:∀W j ls i γ' l',C.J W j ls->i<j->C.Tr W (ls i) γ' l'->C.J γ' j (QW ls i l')
 hm:∀W l γ' l',C.Tr W l γ' l'->C.m γ'+C.nu l'<C.m W+C.nu l
 hAr:∀g w,C.AnchW g w->g.status=.running
 hAn:∀g w,C.AnchW g w->∃m,C.GM C.AtW1 m g w
 hFin:∀W ls g w,C.Fin g w->C.J W C.n ls->(∀i,i<C.n->C.fin (ls i))->C.DataAt W w->C.Ph w->E C.P C.Post (flat C.clA) g w
inductive Cfg.WS:Ly->Ly->Ly->X->Bs->Rk->LD->Lt->Prop
 | run {l:X} {S:Bs} {r:Rk} {g:LD} {w:Lt}:Cot C.P C.Fz C.K (C.Stop l) r S g w->Cfg.WS 7 0 0 l S r g w
 | k1 {m:Ly} {l:X} {S:Bs} {r:Rk} {g:LD} {w:Lt}:C.fin l->C.GW C.AtK1 m g w->Cfg.WS 6 m 0 l S r g w
 | d1 {m:Ly} {l:X} {S:Bs} {r:Rk} {g:LD} {w:Lt}:C.fin l->C.GW C.AtD1 m g w->Cfg.WS 5 m 1 l S r g w
 | d2 {m:Ly} {l:X} {S:Bs} {r:Rk} {g:LD} {w:Lt}:C.fin l->C.GW C.AtD2 m g w->Cfg.WS 4 m 1 l S r g w
 | d3 {m:Ly} {l:X} {S:Bs} {r:Rk} {g:LD} {w:Lt}:C.fin l->C.GW C.AtD3 m g w->Cfg.WS 3 m 1 l S r g w
 | d4 {m:Ly} {l:X} {S:Bs} {r:Rk} {g:LD} {w:Lt}:C.fin l->C.GW C.AtD4 m g w->Cfg.WS 2 m 1 l S r g w
 | quit {q d:Ly} {l:X} {S:Bs} {r:Rk} {g:LD} {w:Lt}:C.fin l->TJ C.P q d g->Cfg.WS 1 q d l S r g w
inductive Cfg.CS:Wu->Ly->Ly->Ly->LD->Lt->Prop
 | skd {r m:Ly} {g:LD} {w:Lt}:r<C.n->C.GM (C.AtKdS (C.Spawns r)) m g w->Cfg.CS (.sp r 5) (C.n - (r+1)) m 0 g w
 | sa1 {r m:Ly} {g:LD} {w:Lt}:r<C.n->C.GM (C.AtA1 (C.Spawns r)) m g w->Cfg.CS (.sp r 4) (C.n - (r+1)) m 1 g w
 | ske {r m:Ly} {g:LD} {w:Lt}:r<C.n->C.GM (C.AtKeS (C.Spawns r)) m g w->Cfg.CS (.sp r 3) (C.n - (r+1)) m 1 g w
 | sgo {r m:Ly} {g:LD} {w:Lt}:r<C.n->C.GM (C.AtGoS (C.Spawns r)) m g w->Cfg.CS (.sp r 2) (C.n - (r+1)) m 0 g w
 | kd {m:Ly} {g:LD} {w:Lt}:C.GM C.AtKd m g w->Cfg.CS .kd C.n m 0 g w
 | anch {m:Ly} {g:LD} {w:Lt}:C.GM C.AnchW m g w->Cfg.CS .anch C.n m 1 g w
 | w1 {m:Ly} {g:LD} {w:Lt}:C.GM C.AtW1 m g w->Cfg.CS .w1 C.n m 1 g w
 | w2 {vs m:Ly} {g:LD} {w:Lt}:C.GM (C.AtW2 vs) m g w->Cfg.CS (.w2 vs) C.n m 1 g w
 | w3 {m:Ly} {g:LD} {w:Lt}:C.GM C.AtW3 m g w->Cfg.CS .w3 C.n (m+1) 1 g w
 | blk {g:LD} {w:Lt}:(∀w₁,LR C.ty C.Wg w w₁->C.AtW3 g w₁)->Cfg.CS .blk C.n 0 1 { g with status:=.blocked } w
 | w4 {m:Ly} {g:LD} {w:Lt}:C.GM C.AtW4 m g w->Cfg.CS .w4 C.n m 1 g w
 | ke {m:Ly} {g:LD} {w:Lt}:C.GM C.AtKe m g w->Cfg.CS .ke C.n m 1 g w
 | acq {m:Ly} {g:LD} {w:Lt}:C.GM C.AtAcq m g w->Cfg.CS .acq C.n m 0 g w
end
section
variable{ty:LZ}{Wg:Ly}{w w₁ w₂:Lt}
def LR.refl(w:Lt):LR ty Wg w w:=id
def LR.trans(h:LR ty Wg w w₁)(c:LR ty Wg w₁ w₂):LR ty Wg w w₂:=c ∘ h
def bx:∀a b c,LR ty Wg a b->LR ty Wg b c->LR ty Wg a c:=λ_ _ _ h e=>e ∘ h
def LR.to(h:OO ty Wg w₁):LR ty Wg w w₁:=λ_=>h
end
section
variable{U X:Type}{C:Cfg U X}{S:Bs}{w w₁:Lt}{s m d j f0:Ly}{l:X}{r:Rk}{g a:LD}{tag:Wu}
def Cfg.K.trans:∀a b c,C.K a b->C.K b c->C.K a c:=λ_ _ _ h e=>⟨e.1 ∘ h.1,e.2 ∘ h.2⟩
def Cfg.K.refl(w:Lt):C.K w w:=⟨id,id⟩
def RC.refl(w:Lt):RC C.Fz C.K S w w:=⟨λ_ _=>rfl,λ_ _=>rfl,LC _,rfl,rfl,.refl w⟩
def Cfg.WS.rely(h:C.WS s m d l S r g w)(c:RC C.Fz C.K S w w₁):C.WS s m d l S r g w₁:=by
 cases h with
 | run h=>exact .run (h.rely Cfg.K.trans c)
 | k1 b h=>exact .k1 b (PH bx h c.k.1)
 | d1 b h=>exact .d1 b (PH bx h c.k.1)
 | d2 b h=>exact .d2 b (PH bx h c.k.1)
 | d3 b h=>exact .d3 b (PH bx h c.k.1)
 | d4 b h=>exact .d4 b (PH bx h c.k.1)
 | quit b h=>exact .quit b h
def xN{P:LV}{Fz:Bs}{K:Lt->Lt->Prop}{b:Bs->LD->Lt->Prop}(c:∀S g w,b S g w->g.status=.running)(e:∀w,K w w)(h:Cot P Fz K b r S g w):g.status=.running:=by
 cases r with
 | leaf=>exact c _ _ _ (h w ⟨λ_ _=>rfl,λ_ _=>rfl,LC _,rfl,rfl,e w⟩)
 | nd f=>exact h.1
def Cfg.WS.running_of(h:C.WS s m d l S r g w)(c:s≠1):g.status=.running:=by
 cases h with
 | run h=>exact xN (λ_ _ _ h=>h.1) .refl h
 | k1 b h=>exact OG (λ_ _ x=>x.1) w (LR.refl w) h
 | d1 b h=>exact OG (λ_ _ x=>x.1) w (LR.refl w) h
 | d2 b h=>exact OG (λ_ _ x=>x.1) w (LR.refl w) h
 | d3 b h=>exact OG (λ_ _ x=>x.1) w (LR.refl w) h
 | d4 b h=>exact OG (λ_ _ x=>x.1) w (LR.refl w) h
 | quit b h=>exact absurd rfl c
def Cfg.WS.status(h:C.WS s m d l S r g w):g.status=.running\/g.status=.finished:=by
 by_cases e:s=1
 ·subst e;cases h with
  | quit _ h=>exact h.status
 ·exact .inl (h.running_of e)
def Cfg.WS.woken(h:C.WS s m d l S r g w)(a c:LD)(b:Lt):VQ C.P a c b g=g:=by
 unfold Xn;split
 ·exact Vu _ h.status
 ·rfl
def Cfg.WS.fin_of(h:C.WS s m d l S r g w)(b:s<=6):C.fin l:=by
 cases h<;>first | assumption | omega
def Cfg.CS.rely(h:C.CS tag j f0 d a w)(c:LR C.ty C.Wg w w₁):C.CS tag j f0 d a w₁:=by
 cases h with
 | skd b h=>exact .skd b (PH bx h c)
 | sa1 b h=>exact .sa1 b (PH bx h c)
 | ske b h=>exact .ske b (PH bx h c)
 | sgo b h=>exact .sgo b (PH bx h c)
 | kd h=>exact .kd (PH bx h c)
 | anch h=>exact .anch (PH bx h c)
 | w1 h=>exact .w1 (PH bx h c)
 | w2 h=>exact .w2 (PH bx h c)
 | w3 h=>exact .w3 (PH bx h c)
 | blk h=>exact .blk λw₂ h₂=>h w₂ (LR.trans c h₂)
 | w4 h=>exact .w4 (PH bx h c)
 | ke h=>exact .ke (PH bx h c)
 | acq h=>exact .acq (PH bx h c)
def Cfg.CS.status(H:C.Ok)(h:C.CS tag j f0 d a w):(a.status=.running/\tag≠.blk)\/(a.status=.blocked/\tag=.blk):=by
 cases h with
 | skd _ h=>exact .inl ⟨OG (λ_ _ x=>x.1) w (LR.refl w) h,by simp⟩
 | sa1 _ h=>exact .inl ⟨OG (λ_ _ x=>x.1) w (LR.refl w) h,by simp⟩
 | ske _ h=>exact .inl ⟨OG (λ_ _ x=>x.1) w (LR.refl w) h,by simp⟩
 | sgo _ h=>exact .inl ⟨OG (λ_ _ x=>x.1) w (LR.refl w) h,by simp⟩
 | kd h=>exact .inl ⟨OG (λ_ _ x=>x.1) w (LR.refl w) h,by simp⟩
 | anch h=>exact .inl ⟨OG H.hAr w (LR.refl w) h,by simp⟩
 | w1 h=>exact .inl ⟨OG (λ_ _ x=>x.1) w (LR.refl w) h,by simp⟩
 | w2 h=>exact .inl ⟨OG (λ_ _ x=>x.1) w (LR.refl w) h,by simp⟩
 | w3 h=>exact .inl ⟨OG (λ_ _ x=>x.1) w (LR.refl w) h,by simp⟩
 | blk h=>exact .inr ⟨rfl,rfl⟩
 | w4 h=>exact .inl ⟨OG (λ_ _ x=>x.1) w (LR.refl w) h,by simp⟩
 | ke h=>exact .inl ⟨OG (λ_ _ x=>x.1) w (LR.refl w) h,by simp⟩
 | acq h=>exact .inl ⟨OG (λ_ _ x=>x.1) w (LR.refl w) h,by simp⟩
def Cfg.CS.le(h:C.CS tag j f0 d a w):j+UH tag<=C.n:=by
 cases h<;>simp only[UH]<;>(try simp)<;>omega
open Go.ConcR (again_blocked) in
def Cfg.CS.wokenBy(H:C.Ok)(h:C.CS tag j f0 d a w)(p:LR C.ty C.Wg w w₁)(g k:LD) :∃b n,C.CS b j n d (VQ C.P g k w₁ a) w₁/\n<=f0+1/\(b=tag\/(tag=.blk/\b=.w3))/\(XH C.P g=LG->k.status=.running->b≠.blk):=by
 have c:=h.rely p;unfold Xn;split
 ·rcases c.status H with⟨o,e⟩ | ⟨_,rfl⟩
  ·exact⟨tag,f0,by rw[Vu _ (.inl o)];exact c,by omega,.inl rfl,λ_ _=>e⟩
  ·cases c with
   | blk f=>
    have i:=f w₁ (LR.refl w₁);exact⟨.w3,0+1,by rw[again_blocked i.1 i.2.1];exact .w3 (NY f),by omega,.inr ⟨rfl,rfl⟩,λ_ _=>by simp⟩
 ·rename_i q
  exact⟨tag,f0,c,by omega,.inl rfl,λu t=>absurd (by simp[u,t]) q⟩
end
end
section
open Go.Conc Go.ConcN Go.ConcN.Gen Go.RowKit Go.Conc.Lib Go.ConcR.Gen
open Go.ConcR (KK wgBlock WgAt stA smA rd wr mk DC0)
def qv{P:LV}{n d:Ly}{b:LW}{cs:Lx LW}{k:Lx PW}{a:ON}{c:LM NB}{i:Ly}{e:Lx Ly}{o:NB}{v:LA}(f:TJ P n d (G (b.at (a.put o.dst v) (.inRegion c e::k)) cs))(g:c[i]?=Lq o:=by rfl)(hw:MA o (Od c a.tmps)=LG:=by rfl)(hk:b.kind≠.early:=by k_ne)(hr:∀w,(OZ a.eval o).run P w=.ok (.value v) w:=by intro _;go_simp;first | rfl | (w_num;rfl))(he:∀w,(OZ a.eval o).events P w #[]=#[]:=by intro _;simp[go_sem, *]) :TJ P (n+1) d (G (b.at a (.inRegion c (i::e)::k)) cs):=QuitsD.value v g hw hk hr he f
def ah{a:LZ}{Wg:Ly}{w w₁:Lt}(h:OO a Wg w)(r:LR a Wg w w₁):OO a Wg w₁:=r h
section
variable{L:WgLink}{Wg:Ly}{b₀:LW}{a₀:ON}{ops₀:LM NB}{i₀:Ly}{rest₀:Lx Ly}{k₀:Lx PW}{cs:Lx LW}{qt:Ly}
def Jz(P:LV)(a:LZ)(Wg:Ly)(g:LD)(w:Lt):Prop:=g.status=.running/\Ku P a Wg g w
def addNeg{P:LV}(H:WgLib P L)(f:TJ P qt 0 (G (b₀.at (a₀.put ((ops₀[i₀]?).bind (·.dst)) (.tuple #[])) (.inRegion ops₀ rest₀::k₀)) cs))(w:Lt)(a:OO L.tWg Wg w) :Rq P LH (LR L.tWg Wg) XA (Jz P L.tWg Wg) 20 (G ((base L.add).at ⟨#[.pointer (Lq ⟨Wg,0,Lw⟩),.int .i64 (-1),LI,LI,LI,LI,LI,LI,LI,LI,LI,LI,LI,LI,LI,LI,LI,LI,LI,LI,LI,LI,LI,LI,LI,LI,LI,LI,LI,LI,LI,LI,LI,LI,LI,LI,LI,LI,LI,LI,LI,LI,LI,LI,LI,LI,LI,LI,LI,LI,LI,LI,LI,LI,LI,LI,LI,LI,LI,LI,LI,LI,LI,LI,LI,LI,LI,LI,LI,LI,LI,LI,LI,LI,LI,LI,LI,LI,LI,LI,LI,LI,LI,LI,LI,LI,LI,LI,LI,LI,LI,LI,LI,LI,LI,LI,LI,LI,LI,LI,LI,LI,LI,LI,LI,LI,LI,LI,LI,LI,LI,LI,LI,LI,LI,LI,LI],[]⟩ [.code (body_add L)]) (b₀.at a₀ (.inRegion ops₀ (i₀::rest₀)::k₀)::cs)) w:=by
 lib_facts;simp only[body_add,addFn,LQ];u_c Mb ah a;u_cond LG ah a;(iterate 2 u_c Mb ah a);u_reg ah a;(iterate 2 u_conv H.underlying_tWgP H.room_tWg (Us a).choose_spec ah a);u_c LK ah a;u_cond LG ah a;u_reg ah a;(iterate 2 u_conv H.underlying_tWgP H.room_tWg (Us a).choose_spec ah a);refine NY (λw₁ h₁=>?_);replace a:=ah a h₁;clear h₁;refine⟨rfl,_,TD .releaseMerge (by simp) rfl rfl (by k_ne) rfl H.f_relMerge (x_relMerge_n L) (x_relMerge_b L) (x_relMerge_x L) (x_relMerge_f L) (by simp[Act.eval,Sa]),10,?_⟩;unfold WG;walk_nrm;u_c LK ah a;u_c Mb ah a;u_reg ah a;refine NY (λw₁ h₁=>?_);replace a:=ah a h₁;clear h₁;refine⟨rfl,_,TU .disable (by simp) rfl rfl (by k_ne) rfl H.f_disable (x_disable_n L) (x_disable_b L) (x_disable_x L) (x_disable_f L),50,?_⟩;unfold WG;walk_nrm;u_c LK ah a;u_reg ah a;u_defer ah a;u_c LK ah a;u_c Mb ah a;u_reg ah a;u_op ah a;u_c LK ah a;(iterate 2 u_c Mb ah a);u_reg ah a;u_bub ah a;u_c LK ah a;u_cond LH ah a;u_c Nr ah a;u_c Mb ah a;u_reg ah a;(iterate 6 u_op ah a);u_call H.f_uAdd (nm_uAdd L) uAddFn ah a;u_c Mb ah a;u_reg ah a;u_op ah a;u_c LK ah a;u_c Mb ah a;u_reg ah a;(iterate 4 u_op ah a);refine NY (λw₁ h₁=>?_);clear h₁ a;refine⟨rfl,λv h n x b=>?_⟩;have q:IntKind.u64.wrap (KK+18446744069414584320)=0:=by decide
 have p:IntKind.u64.wrap (KK+1+18446744069414584320)=1:=by decide
 rcases TK v with rfl | o<;>(obtain rfl | rfl:h=0\/h=1:=by omega)
 ·replace b:Sn L.tWg Wg w₁ KK 0:=by simpa using b
  have z:((0:Ly):LJ)*KK+((0:Ly):LJ)=0:=by simp
  rw[z];refine⟨_,(Qm rfl rfl (by k_ne) rfl H.f_addU64 (x_addU64_n L) (x_addU64_b L) (x_addU64_x L) .u64 (x_addU64_f L) rfl rfl b.cellSt (b.thaw 0)).trans (by rw[q];rfl),λd=>absurd d.2 (by decide),λ_=>⟨qt+89,?_⟩⟩;clear b;have f1:IntKind.u32.wrap 0=0:=by decide
  have f2:IntKind.u32.wrap (Ut .and .u64 0 2147483647)=0:=by decide
  walk_nrm
  (refine qv ?_;walk_nrm)
  q_c LK;q_c OL;q_leave1 H.f_uAdd
  (refine qv ?_;walk_nrm)
  q_c LK;q_c Mb;q_c Mb;q_reg
  iterate 4 (refine qv ?_;walk_nrm)
  q_skip;q_skip
  (refine qv ?_;walk_nrm)
  q_c LK;q_cond LH;q_c Nr;q_c Mb;q_reg
  iterate 4 (refine qv ?_;walk_nrm)
  q_c LK;q_c Mb;q_reg
  iterate 4 (refine qv ?_;walk_nrm)
  q_c LK;q_c Mb;q_c Mb;q_reg
  iterate 5 (refine qv ?_;walk_nrm)
  q_skip;q_skip;q_skip;q_skip
  (refine qv ?_;walk_nrm)
  q_c LK;q_cond LH;q_c Nr;q_c Mb;q_c Mb;q_reg
  iterate 2 (refine qv ?_;walk_nrm)
  q_c LK;q_cond LH;q_c Nr;q_c Mb;q_c Mb;q_reg
  iterate 3 (refine qv ?_;walk_nrm)
  q_skip;q_skip
  iterate 2 (refine qv ?_;walk_nrm)
  q_skip;q_skip;q_skip;q_skip
  (refine qv ?_;walk_nrm)
  q_c LK;q_cond LH;q_c Nr;q_c Mb;q_c Mb;q_reg
  iterate 6 (refine qv ?_;walk_nrm)
  q_c LK;q_cond LG;q_c OL;q_enable;q_leave0 H.f_add;exact f
 ·replace b:Sn L.tWg Wg w₁ (KK+1) 0:=by simpa using b
  have z:((0:Ly):LJ)*KK+((1:Ly):LJ)=1:=by simp
  rw[z];refine⟨_,(Qm rfl rfl (by k_ne) rfl H.f_addU64 (x_addU64_n L) (x_addU64_b L) (x_addU64_x L) .u64 (x_addU64_f L) rfl rfl b.cellSt (b.thaw 0)).trans (by rw[p];rfl),λ_=>⟨120,?_⟩,λd=>absurd ⟨rfl,rfl⟩ d⟩;have a:OO L.tWg Wg (w₁.setCell (Sa Wg) (.int .u64 1)):=⟨_,_,b.setSt 1⟩;clear b;unfold WG;walk_nrm;u_op ah a;u_c LK ah a;u_c OL ah a;u_leave1 H.f_uAdd ah a;u_op ah a;u_c LK ah a;(iterate 2 u_c Mb ah a);u_reg ah a;(iterate 4 u_op ah a);u_skip ah a;u_skip ah a;u_op ah a;u_c LK ah a;u_cond LH ah a;u_c Nr ah a;u_c Mb ah a;u_reg ah a;(iterate 4 u_op ah a);u_c LK ah a;u_c Mb ah a;u_reg ah a;(iterate 4 u_op ah a);u_c LK ah a;(iterate 2 u_c Mb ah a);u_reg ah a;(iterate 5 u_op ah a);(iterate 4 u_skip ah a);u_op ah a;u_c LK ah a;u_cond LH ah a;u_c Nr ah a;(iterate 2 u_c Mb ah a);u_reg ah a;u_op ah a;u_op ah a;u_c LK ah a;u_cond LH ah a;u_c Nr ah a;(iterate 2 u_c Mb ah a);u_reg ah a;(iterate 7 u_op ah a);(iterate 4 u_skip ah a);u_op ah a;u_c LK ah a;u_cond LH ah a;u_c Nr ah a;(iterate 2 u_c Mb ah a);u_reg ah a;(iterate 6 u_op ah a);u_c LK ah a;u_cond LH ah a;u_c Nr ah a;(iterate 2 u_c Mb ah a);u_reg ah a;(iterate 3 u_op ah a);u_call H.f_uLoad (nm_uLoad L) uLoadFn ah a;u_c Mb ah a;u_reg ah a;u_op ah a;u_c LK ah a;u_c Mb ah a;u_reg ah a;(iterate 3 u_op ah a);refine NY (λw₂ h₂=>?_);clear h₂ a;refine⟨rfl,λb=>⟨_,QA rfl rfl (by k_ne) rfl H.f_loadU64 (x_loadU64_n L) (x_loadU64_b L) (x_loadU64_x L) .u64 (x_loadU64_f L) rfl b.cellSt,40,?_⟩⟩;have a:OO L.tWg Wg w₂:=⟨_,_,b⟩;clear b;unfold WG;walk_nrm;u_op ah a;u_c LK ah a;u_c OL ah a;u_leave1 H.f_uLoad ah a;u_op ah a;u_op ah a;u_c LK ah a;u_cond LH ah a;u_c Nr ah a;u_c Mb ah a;u_reg ah a;(iterate 3 u_op ah a);u_call H.f_uStore (nm_uStore L) uStoreFn ah a;u_reg ah a;(iterate 4 u_op ah a);refine NY (λw₃ h₃=>?_);clear h₃ a;refine⟨rfl,λb=>⟨_,stepG_store_atomic rfl rfl (by k_ne) rfl H.f_storeU64 (x_storeU64_n L) (x_storeU64_b L) (x_storeU64_x L) (x_storeU64_f L) rfl rfl b.cellSt (b.thaw 0),50,?_⟩⟩;have a:OO L.tWg Wg (w₃.setCell (Sa Wg) (.int .u64 0)):=⟨_,_,b.setSt 0⟩;clear b;unfold WG;walk_nrm;u_c LK ah a;u_c Wt ah a;u_leave0 H.f_uStore ah a;u_c LK ah a;(iterate 2 u_c Mb ah a);u_reg ah a;u_op ah a;u_c LK ah a;u_cond LH ah a;u_c Nr ah a;u_c Su ah a;u_c VD ah a;(iterate 2 u_c Mb ah a);u_reg ah a;u_op ah a;u_op ah a;u_c LK ah a;u_cond LG ah a;u_c Nr ah a;u_c Mb ah a;u_c Su ah a;u_reg ah a;(iterate 3 u_op ah a);refine NY (λw₄ h₄=>?_);clear h₄ a;refine⟨rfl,mayWake_entry rfl rfl H.f_semrelease (x_semrelease_b L),λb=>⟨_,(stepG_semrelease rfl rfl (by k_ne) rfl H.f_semrelease (x_semrelease_n L) (x_semrelease_b L) (x_semrelease_x L) (x_semrelease_f L) (by simp[Act.eval,VS]) b.cellSm (b.thaw 1)).trans (by rfl),qt+19,?_⟩⟩;clear b;walk_nrm;q_c LK;q_c stepG_inBlock;q_reg
  iterate 3 (refine qv ?_;walk_nrm)
  have f1:IntKind.u32.wrap 0=0:=by decide
  simp only[f1];q_c LK;q_c stepG_inLoop;q_c Mb;q_c Mb;q_reg
  iterate 2 (refine qv ?_;walk_nrm)
  q_c LK;q_cond LH;q_exit;q_c Wt;q_enable;q_leave0 H.f_add;exact f
 ·replace b:Sn L.tWg Wg w₁ (((v:Ly)+1)*KK+0) 0:=by simpa using b
  have z:((v:Ly):LJ)*KK+((0:Ly):LJ)=(v:LJ)*KK+0:=by simp
  rw[z];have g:0<v:=by omega
  have e:IntKind.u64.wrap (((v:Ly)+1)*KK+0+18446744069414584320)=(v:LJ)*KK+0:=by rw[Tb];simp only[KK];omega
  obtain⟨S,c⟩:∃S:LJ,S=(v:LJ)*KK+0:=⟨_,rfl⟩;rw[<- c] at e ⊢;have u:S / 4294967296=(v:LJ):=by rw[c];simp only[KK];omega
  have t:Ut .and .u64 S 2147483648=0:=by rw[c];have:=XI v 0 (by omega) (by omega);simpa[KK] using this
  have s:Ut .and .u64 S 2147483647=0:=by rw[c];have:=VE v 0 (by omega) (by omega);simpa[KK] using this
  have r:IntKind.i32.wrap (v:LJ)=(v:LJ):=by rw[Tc];omega
  have l:decide ((v:LJ)<0)=LH:=decide_eq_false (by omega);have k:decide (0<(v:LJ))=LG:=decide_eq_true (by omega);have j:((v:LJ) == 0)=LH:=by simp;omega
  have i:decide ((v:LJ)=0)=LH:=decide_eq_false (by omega);have f1:IntKind.u32.wrap 0=0:=by decide
  refine⟨_,(Qm rfl rfl (by k_ne) rfl H.f_addU64 (x_addU64_n L) (x_addU64_b L) (x_addU64_x L) .u64 (x_addU64_f L) rfl rfl b.cellSt (b.thaw 0)).trans (by rw[e];rfl),λd=>absurd d.1 (by omega),λ_=>⟨qt+89,?_⟩⟩;clear b c z e;walk_nrm
  (refine qv ?_;walk_nrm)
  q_c LK;q_c OL;q_leave1 H.f_uAdd
  (refine qv ?_;walk_nrm)
  q_c LK;q_c Mb;q_c Mb;q_reg
  iterate 4 (refine qv ?_;walk_nrm)
  q_skip;q_skip
  (refine qv ?_;walk_nrm)
  q_c LK;q_cond LH;q_c Nr;q_c Mb;q_reg
  iterate 4 (refine qv ?_;walk_nrm)
  q_c LK;q_c Mb;q_reg
  iterate 4 (refine qv ?_;walk_nrm)
  q_c LK;q_c Mb;q_c Mb;q_reg
  iterate 5 (refine qv ?_;walk_nrm)
  q_skip;q_skip;q_skip;q_skip
  (refine qv ?_;walk_nrm)
  q_c LK;q_cond LH;q_c Nr;q_c Mb;q_c Mb;q_reg
  iterate 2 (refine qv ?_;walk_nrm)
  q_c LK;q_cond LH;q_c Nr;q_c Mb;q_c Mb;q_reg
  iterate 3 (refine qv ?_;walk_nrm)
  q_skip;q_skip
  iterate 2 (refine qv ?_;walk_nrm)
  q_skip;q_skip;q_skip;q_skip
  (refine qv ?_;walk_nrm)
  q_c LK;q_cond LH;q_c Nr;q_c Mb;q_c Mb;q_reg
  iterate 3 (refine qv ?_;walk_nrm)
  q_skip;q_skip
  (refine qv ?_;walk_nrm)
  q_c LK;q_cond LG;q_c OL;q_enable;q_leave0 H.f_add;exact f
 ·replace b:Sn L.tWg Wg w₁ (((v:Ly)+1)*KK+1) 0:=by simpa using b
  have z:((v:Ly):LJ)*KK+((1:Ly):LJ)=(v:LJ)*KK+1:=by simp
  rw[z];have g:0<v:=by omega
  have e:IntKind.u64.wrap (((v:Ly)+1)*KK+1+18446744069414584320)=(v:LJ)*KK+1:=by rw[Tb];simp only[KK];omega
  obtain⟨S,c⟩:∃S:LJ,S=(v:LJ)*KK+1:=⟨_,rfl⟩;rw[<- c] at e ⊢;have u:S / 4294967296=(v:LJ):=by rw[c];simp only[KK];omega
  have t:Ut .and .u64 S 2147483648=0:=by rw[c];have:=XI v 1 (by omega) (by omega);simpa[KK] using this
  have s:Ut .and .u64 S 2147483647=1:=by rw[c];have:=VE v 1 (by omega) (by omega);simpa[KK] using this
  have r:IntKind.i32.wrap (v:LJ)=(v:LJ):=by rw[Tc];omega
  have l:decide ((v:LJ)<0)=LH:=decide_eq_false (by omega);have k:decide (0<(v:LJ))=LG:=decide_eq_true (by omega);have j:((v:LJ) == 0)=LH:=by simp;omega
  have i:decide ((v:LJ)=0)=LH:=decide_eq_false (by omega);refine⟨_,(Qm rfl rfl (by k_ne) rfl H.f_addU64 (x_addU64_n L) (x_addU64_b L) (x_addU64_x L) .u64 (x_addU64_f L) rfl rfl b.cellSt (b.thaw 0)).trans (by rw[e];rfl),λd=>absurd d.1 (by omega),λ_=>⟨qt+89,?_⟩⟩;clear b c z e;walk_nrm
  (refine qv ?_;walk_nrm)
  q_c LK;q_c OL;q_leave1 H.f_uAdd
  (refine qv ?_;walk_nrm)
  q_c LK;q_c Mb;q_c Mb;q_reg
  iterate 4 (refine qv ?_;walk_nrm)
  q_skip;q_skip
  (refine qv ?_;walk_nrm)
  q_c LK;q_cond LH;q_c Nr;q_c Mb;q_reg
  iterate 4 (refine qv ?_;walk_nrm)
  q_c LK;q_c Mb;q_reg
  iterate 4 (refine qv ?_;walk_nrm)
  q_c LK;q_c Mb;q_c Mb;q_reg
  iterate 5 (refine qv ?_;walk_nrm)
  q_skip;q_skip;q_skip;q_skip
  (refine qv ?_;walk_nrm)
  q_c LK;q_cond LH;q_c Nr;q_c Mb;q_c Mb;q_reg
  iterate 2 (refine qv ?_;walk_nrm)
  q_c LK;q_cond LH;q_c Nr;q_c Mb;q_c Mb;q_reg
  iterate 7 (refine qv ?_;walk_nrm)
  q_skip;q_skip;q_skip;q_skip
  (refine qv ?_;walk_nrm)
  q_c LK;q_cond LH;q_c Nr;q_c Mb;q_c Mb;q_reg
  iterate 3 (refine qv ?_;walk_nrm)
  q_skip;q_skip
  (refine qv ?_;walk_nrm)
  q_c LK;q_cond LG;q_c OL;q_enable;q_leave0 H.f_add;exact f
def done{P:LV}(H:WgLib P L){c:LW}(b:c.mode=.returning)(e:TJ P qt 0 (G c cs))(w:Lt)(a:OO L.tWg Wg w) :Rq P LH (LR L.tWg Wg) XA (Jz P L.tWg Wg) 23 (G ((baseD L.done).at ⟨#[.pointer (Lq ⟨Wg,0,Lw⟩),LI,LI,LI],[]⟩ [.code (body_done L)]) (c::cs)) w:=by
 lib_facts;have d:=@addNeg L Wg;simp only[body_done,body_add,doneFn,addFn,LQ] at d ⊢;u_reg ah a;u_op ah a;u_in ah a;refine goes_call rfl rfl (by k_ne) rfl H.f_add (nm_add L) rfl ⟨by u_nil,?_⟩
 walk_nrmf addFn
 refine d (qt:=qt+3) H ?_ _ a;q_c LK;q_c Wt;exact QuitsD.leaveD rfl rfl H.f_done rfl b e
end
end
section
open Go.Conc Go.ConcN Go.ConcN.Gen Go.RowKit Go.Conc.Lib Go.ConcR.Gen
open Go.ConcR (KK wgBlock WgAt stA smA rd wr mk DC0)
def af{ty:LZ}{Wg:Ly}{w w₁:Lt}(h:OO ty Wg w)(r:LR ty Wg w w₁):OO ty Wg w₁:=r h
section
variable(P:LV)(b:MC)(ty:LZ)(Wg:Ly)
def zO(m:Mark)(Qz:LD->Lt->Prop)(N:Ly)(g:LD)(w:Lt):Prop :=
 g.status=.running/\∃a,Nb P b g w=.go a w #[mk m]/\Rq P b (LR ty Wg) XA Qz N a w
def Is(Qz:LD->Lt->Prop)(g:LD)(w:Lt):Prop :=
 g.status=.running/\∀v:Ly,v<2147483647->Sn ty Wg w (v*KK) 0 ->
  ∃a,Nb P b g w=.go a (w.setCell (Sa Wg) (.int .u64 ((v+1)*KK))) #[rd (Sa Wg),wr (Sa Wg)] /\
   (Rq P b (LR ty Wg) XA (zO P b ty Wg (.read (VS Wg)) (zO P b ty Wg .enable Qz 2) 60) 110 a (w.setCell (Sa Wg) (.int .u64 ((v+1)*KK))) \/
    Rq P b (LR ty Wg) XA (zO P b ty Wg .enable Qz 2) 110 a (w.setCell (Sa Wg) (.int .u64 ((v+1)*KK))))
end
section
variable{L:WgLink}{Wg:Ly}{Qz:LD->Lt->Prop}{b₀:LW}{a₀:ON}{ops₀:LM NB}{i₀:Ly}{rest₀:Lx Ly}{k₀:Lx PW}{cs:Lx LW}
def addPos{P:LV}(H:WgLib P L)(f:∀w,OO L.tWg Wg w->Qz (G (b₀.at (a₀.put ((ops₀[i₀]?).bind (·.dst)) (.tuple #[])) (.inRegion ops₀ rest₀::k₀)) cs) w)(w:Lt)(a:OO L.tWg Wg w) :Rq P LG (LR L.tWg Wg) XA (zO P LG L.tWg Wg .disable (Is P LG L.tWg Wg Qz) 40) 12 (G ((base L.add).at ⟨#[.pointer (Lq ⟨Wg,0,Lw⟩),.int .i64 1,LI,LI,LI,LI,LI,LI,LI,LI,LI,LI,LI,LI,LI,LI,LI,LI,LI,LI,LI,LI,LI,LI,LI,LI,LI,LI,LI,LI,LI,LI,LI,LI,LI,LI,LI,LI,LI,LI,LI,LI,LI,LI,LI,LI,LI,LI,LI,LI,LI,LI,LI,LI,LI,LI,LI,LI,LI,LI,LI,LI,LI,LI,LI,LI,LI,LI,LI,LI,LI,LI,LI,LI,LI,LI,LI,LI,LI,LI,LI,LI,LI,LI,LI,LI,LI,LI,LI,LI,LI,LI,LI,LI,LI,LI,LI,LI,LI,LI,LI,LI,LI,LI,LI,LI,LI,LI,LI,LI,LI,LI,LI,LI,LI,LI,LI],[]⟩ [.code (body_add L)]) (b₀.at a₀ (.inRegion ops₀ (i₀::rest₀)::k₀)::cs)) w:=by
 lib_facts;simp only[body_add,addFn,LQ];u_c Mb af a;u_cond LG af a;(iterate 2 u_c Mb af a);u_reg af a;u_op af a;u_op af a;u_c LK af a;u_cond LH af a;u_c Nr af a;u_c Mb af a;u_reg af a;refine NY (λw₁ h₁=>?_);replace a:=af a h₁;clear h₁;refine⟨rfl,_,TU .disable (by simp) rfl rfl (by k_ne) rfl H.f_disable (x_disable_n L) (x_disable_b L) (x_disable_x L) (x_disable_f L),?_⟩;walk_nrm;u_c LK af a;u_reg af a;u_defer af a;u_c LK af a;u_c Mb af a;u_reg af a;u_op af a;u_c LK af a;(iterate 2 u_c Mb af a);u_reg af a;u_bub af a;u_c LK af a;u_cond LH af a;u_c Nr af a;u_c Mb af a;u_reg af a;(iterate 6 u_op af a);u_call H.f_uAdd (nm_uAdd L) uAddFn af a;u_c Mb af a;u_reg af a;u_op af a;u_c LK af a;u_c Mb af a;u_reg af a;(iterate 4 u_op af a);refine NY (λw₂ h₂=>?_);clear h₂ a;refine⟨rfl,λv s c=>?_⟩;rcases TK v with rfl | h
 ·replace c:Sn L.tWg Wg w₂ 0 0:=by simpa using c
  have z:(((0:Ly):LJ)+1)*KK=KK:=by simp
  rw[z];have k:IntKind.u64.wrap (0+4294967296)=KK:=by decide
  refine⟨_,(Qm rfl rfl (by k_ne) rfl H.f_addU64 (x_addU64_n L) (x_addU64_b L) (x_addU64_x L) .u64 (x_addU64_f L) rfl rfl c.cellSt (c.thaw 0)).trans (by rw[k];rfl),.inl ?_⟩;have a:OO L.tWg Wg (w₂.setCell (Sa Wg) (.int .u64 KK)):=⟨_,_,c.setSt _⟩;clear c;simp only[KK] at a ⊢;walk_nrm;u_conv H.underlying_tPU32 H.room_tU32 (OP a).choose_spec af a;u_c LK af a;u_c OL af a;u_leave1 H.f_uAdd af a;u_conv H.underlying_tPU32 H.room_tU32 (OP a).choose_spec af a;u_c LK af a;(iterate 2 u_c Mb af a);u_reg af a;(iterate 4 u_conv H.underlying_tPU32 H.room_tU32 (OP a).choose_spec af a);u_skip af a;u_skip af a;u_conv H.underlying_tPU32 H.room_tU32 (OP a).choose_spec af a;u_c LK af a;u_cond LH af a;u_c Nr af a;u_c Mb af a;u_reg af a;(iterate 2 u_conv H.underlying_tPU32 H.room_tU32 (OP a).choose_spec af a);u_op af a;u_conv H.underlying_tPU32 H.room_tU32 (OP a).choose_spec af a;u_c LK af a;u_c Mb af a;u_reg af a;(iterate 2 u_conv H.underlying_tPU32 H.room_tU32 (OP a).choose_spec af a);u_op af a;u_conv H.underlying_tPU32 H.room_tU32 (OP a).choose_spec af a;u_c LK af a;(iterate 2 u_c Mb af a);u_reg af a;(iterate 7 u_conv H.underlying_tPU32 H.room_tU32 (OP a).choose_spec af a);u_op af a;(iterate 2 u_conv H.underlying_tPU32 H.room_tU32 (OP a).choose_spec af a);u_c LK af a;u_cond LG af a;u_reg af a;(iterate 2 u_conv H.underlying_tPU32 H.room_tU32 (OP a).choose_spec af a);u_op af a;u_conv H.underlying_tPU32 H.room_tU32 (OP a).choose_spec af a;refine NY (λw₃ h₃=>?_);replace a:=af a h₃;clear h₃;refine⟨rfl,_,TD .read (by simp) rfl rfl (by k_ne) rfl H.f_raceRead (x_raceRead_n L) (x_raceRead_b L) (x_raceRead_x L) (x_raceRead_f L) (ad:=⟨Wg,1,Lw⟩) (by simp[Act.eval]),?_⟩;walk_nrm;u_c LK af a;(iterate 2 u_c Mb af a);u_reg af a;u_op af a;u_op af a;u_c LK af a;u_cond LH af a;u_c Nr af a;(iterate 2 u_c Mb af a);u_reg af a;(iterate 3 u_op af a);u_skip af a;u_skip af a;u_op af a;u_op af a;(iterate 4 u_skip af a);u_op af a;u_c LK af a;u_cond LH af a;u_c Nr af a;(iterate 2 u_c Mb af a);u_reg af a;(iterate 3 u_op af a);u_skip af a;u_skip af a;u_op af a;u_c LK af a;u_cond LG af a;u_c OL af a;refine NY (λw₃ h₃=>?_);replace a:=af a h₃;clear h₃;refine⟨rfl,_,VF (v:=.tuple #[]) (evs:=#[mk .enable]) rfl H.f_enable (x_enable_n L) (x_enable_b L) (x_enable_x L) (x_enable_f L) (by simp[Extern.Race.none_]) (by simp[mk]) (by simp[mk]),?_⟩;u_leave0 H.f_add af a;exact NY λw₄ h₄=>f _ (af a h₄)
 ·obtain⟨V,e⟩:∃V:LJ,V=(v:LJ)+1:=⟨_,rfl⟩;obtain⟨S,d⟩:∃S:LJ,S=V*KK:=⟨_,rfl⟩;have g:IntKind.u64.wrap ((v:LJ)*KK+4294967296)=S:=by rw[Tb,d,e];simp only[KK];omega
  rw[<- e,<- d];have y:S / 4294967296=V:=by rw[d];simp only[KK];omega
  have x:Ut .and .u64 S 2147483648=0:=by rw[d,e];have:=XI (v+1) 0 (by omega) (by omega);simpa[KK] using this
  have u:Ut .and .u64 S 2147483647=0:=by rw[d,e];have:=VE (v+1) 0 (by omega) (by omega);simpa[KK] using this
  have t:IntKind.i32.wrap V=V:=by rw[Tc];omega
  have j:1<V:=by omega
  have i:V<2147483648:=by omega
  have r:(V == 1)=LH:=by simp;omega
  have q:decide (V=1)=LH:=decide_eq_false (by omega);have p:decide (V<0)=LH:=decide_eq_false (by omega);have o:decide (0<V)=LG:=decide_eq_true (by omega);have n:(V == 0)=LH:=by simp;omega
  have l:decide (V=0)=LH:=decide_eq_false (by omega);refine⟨_,(Qm rfl rfl (by k_ne) rfl H.f_addU64 (x_addU64_n L) (x_addU64_b L) (x_addU64_x L) .u64 (x_addU64_f L) rfl rfl c.cellSt (c.thaw 0)).trans (by rw[g];rfl),.inr ?_⟩;have a:OO L.tWg Wg (w₂.setCell (Sa Wg) (.int .u64 S)):=⟨_,_,c.setSt _⟩;clear c d e g;walk_nrm;u_op af a;u_c LK af a;u_c OL af a;u_leave1 H.f_uAdd af a;u_op af a;u_c LK af a;(iterate 2 u_c Mb af a);u_reg af a;(iterate 4 u_op af a);u_skip af a;u_skip af a;u_op af a;u_c LK af a;u_cond LH af a;u_c Nr af a;u_c Mb af a;u_reg af a;(iterate 4 u_op af a);u_c LK af a;u_c Mb af a;u_reg af a;(iterate 4 u_op af a);u_c LK af a;(iterate 2 u_c Mb af a);u_reg af a;(iterate 10 u_op af a);u_c LK af a;u_cond LH af a;u_c Nr af a;(iterate 2 u_c Mb af a);u_reg af a;u_op af a;u_op af a;u_c LK af a;u_cond LH af a;u_c Nr af a;(iterate 2 u_c Mb af a);u_reg af a;(iterate 3 u_op af a);u_skip af a;u_skip af a;u_op af a;u_op af a;(iterate 4 u_skip af a);u_op af a;u_c LK af a;u_cond LH af a;u_c Nr af a;(iterate 2 u_c Mb af a);u_reg af a;(iterate 3 u_op af a);u_skip af a;u_skip af a;u_op af a;u_c LK af a;u_cond LG af a;u_c OL af a;refine NY (λw₃ h₃=>?_);replace a:=af a h₃;clear h₃;refine⟨rfl,_,VF (v:=.tuple #[]) (evs:=#[mk .enable]) rfl H.f_enable (x_enable_n L) (x_enable_b L) (x_enable_x L) (x_enable_f L) (by simp[Extern.Race.none_]) (by simp[mk]) (by simp[mk]),?_⟩;u_leave0 H.f_add af a;exact NY λw₄ h₄=>f _ (af a h₄)
end
end
section
open Go.Conc Go.ConcN Go.ConcN.Gen Go.RowKit Go.Conc.Lib Go.ConcR.Gen
open Go.ConcR (KK wgBlock WgAt stA smA rd wr mk DC0)
def ae{ty:LZ}{Wg:Ly}{w w₁:Lt}(h:OO ty Wg w)(r:LR ty Wg w w₁):OO ty Wg w₁:=r h
section
variable(P:LV)(ty:LZ)(Wg:Ly)(Fin Anch:LD->Lt->Prop)
def rU(m:Mark)(Qz:LD->Lt->Prop)(N:Ly)(g:LD)(w:Lt):Prop :=
 g.status=.running/\∃a,Nb P LG g w=.go a w #[mk m]/\Rq P LG (LR ty Wg) XA Qz N a w
def MW4(g:LD)(w:Lt):Prop :=
 g.status=.running/\(Sn ty Wg w 0 0->∃a,Nb P LG g w=.go a w #[rd (Sa Wg)]/\Rq P LG (LR ty Wg) XA (rU P ty Wg .enable (rU P ty Wg (.acquire (Sa Wg)) Fin 40) 12) 30 a w)
def MW3(g:LD)(w:Lt):Prop :=
 g.status=.running/\g.offers=Lw /\
  ((∃b,Sn ty Wg w b 0)->Nb P LG g w=.go { g with status:=.blocked } w #[]) /\
  (Sn ty Wg w 0 1->∃a,Nb P LG g w=.go a (w.setCell (VS Wg) (.int .u32 0)) (Qy (VS Wg))/\Rq P LG (LR ty Wg) XA (MW4 P ty Wg Fin) 30 a (w.setCell (VS Wg) (.int .u32 0)))
def MW2(b:Ly)(g:LD)(w:Lt):Prop :=
 g.status=.running/\∀v:Ly,v<2147483648->Sn ty Wg w (v*KK) 0 ->
  (v=b->∃a,Nb P LG g w=.go a (w.setCell (Sa Wg) (.int .u64 (v*KK+1))) #[rd (Sa Wg),wr (Sa Wg)]/\Rq P LG (LR ty Wg) XA (rU P ty Wg (.write (VS Wg)) (MW3 P ty Wg Fin) 40) 70 a (w.setCell (Sa Wg) (.int .u64 (v*KK+1)))) /\
  (v≠b->∃a,Nb P LG g w=.go a w #[rd (Sa Wg)]/\Rq P LG (LR ty Wg) XA Anch 20 a w)
def MW1(g:LD)(w:Lt):Prop :=
 g.status=.running/\∀v:Ly,v<2147483648->Sn ty Wg w (v*KK) 0->∃a,Nb P LG g w=.go a w #[rd (Sa Wg)] /\
  (v=0->Rq P LG (LR ty Wg) XA (rU P ty Wg .enable (rU P ty Wg (.acquire (Sa Wg)) Fin 40) 12) 50 a w)/\(v≠0->Rq P LG (LR ty Wg) XA (MW2 P ty Wg Fin Anch v) 60 a w)
end
def nK(L:WgLink)(Wg:Ly)(c:LW)(cs:Lx LW)(g:LD)(w:Lt):Prop :=
 ∃T:LM LA,g=G ((base L.wait).at ⟨T,[]⟩ [.code (L7 L),.inLoop (L7 L),.inBlock 0]) (c::cs)/\T.size=84/\T[0]?=Lq (.pointer (Lq ⟨Wg,0,Lw⟩))/\OO L.tWg Wg w
section
variable{L:WgLink}{Wg:Ly}{Fin:LD->Lt->Prop}{b₀:LW}{a₀:ON}{ops₀:LM NB}{i₀:Ly}{rest₀:Lx Ly}{k₀:Lx PW}{cs:Lx LW}
def waitRound{P:LV}(H:WgLib P L)(j:∀w,OO L.tWg Wg w->Fin (G (b₀.at (a₀.put ((ops₀[i₀]?).bind (·.dst)) (.tuple #[])) (.inRegion ops₀ rest₀::k₀)) cs) w)(g:LD)(w:Lt)(h:nK L Wg (b₀.at a₀ (.inRegion ops₀ (i₀::rest₀)::k₀)) cs g w) :Rq P LG (LR L.tWg Wg) XA (MW1 P L.tWg Wg Fin (nK L Wg (b₀.at a₀ (.inRegion ops₀ (i₀::rest₀)::k₀)) cs)) 30 g w:=by
 lib_facts;obtain⟨T,rfl,d,i,a⟩:=h;obtain⟨v0,v1,v2,v3,v4,v5,v6,v7,v8,v9,m7,m6,m5,m4,m3,l9,l8,l7,l6,l5,l4,k9,k8,k7,k6,k5,k0,h9,h8,g9,g8,g7,g6,g5,e9,e8,e7,e6,e5,e4,d9,d8,d7,d6,d5,c9,c8,c3,b9,b8,b7,b6,b0,a8,a7,a6,Z,Y,X,W,V,U,R,Q,O,N,M,I,F,D,B,A,z,y,x,u,t,s,r,q,p,o,l,k,rfl⟩:=array84 T d;simp only[SU,List.getElem?_cons_zero,MM] at i;subst i;simp only[L7,body_wait,waitFn,LQ];u_c Su ae a;u_c Mb ae a;u_reg ae a;(iterate 3 u_op ae a);u_call H.f_uLoad (nm_uLoad L) uLoadFn ae a;u_c Mb ae a;u_reg ae a;u_op ae a;u_c LK ae a;u_c Mb ae a;u_reg ae a;(iterate 3 u_op ae a);refine NY (λw₁ h₁=>?_);replace a:=ae a h₁;clear h₁;refine⟨rfl,λv hv b=>?_⟩;rcases TK v with rfl | m9
 ·replace b:Sn L.tWg Wg w₁ 0 0:=by simpa using b
  refine⟨_,QA (v:=0) rfl rfl (by k_ne) rfl H.f_loadU64 (x_loadU64_n L) (x_loadU64_b L) (x_loadU64_x L) .u64 (x_loadU64_f L) rfl b.cellSt,λ_=>?_,λh=>absurd rfl h⟩;clear b;walk_nrm;u_op ae a;u_c LK ae a;u_c OL ae a;u_leave1 H.f_uLoad ae a;u_op ae a;u_c LK ae a;u_c Mb ae a;u_reg ae a;(iterate 4 u_op ae a);u_c LK ae a;u_c Mb ae a;u_reg ae a;(iterate 4 u_op ae a);u_c LK ae a;(iterate 2 u_c Mb ae a);u_reg ae a;u_op ae a;u_op ae a;u_c LK ae a;u_cond LG ae a;u_c Mb ae a;u_cond LG ae a;u_c Mb ae a;u_reg ae a;refine NY (λw₅ h₅=>?_);replace a:=ae a h₅;clear h₅;refine⟨rfl,_,TU .enable (by simp) rfl rfl (by k_ne) rfl H.f_enable (x_enable_n L) (x_enable_b L) (x_enable_x L) (x_enable_f L),?_⟩;walk_nrm;u_c LK ae a;u_reg ae a;(iterate 2 u_conv H.underlying_tWgP H.room_tWg (Us a).choose_spec ae a);refine NY (λw₆ h₆=>?_);replace a:=ae a h₆;clear h₆;refine⟨rfl,_,TD .acquire (by simp) rfl rfl (by k_ne) rfl H.f_acquire (x_acquire_n L) (x_acquire_b L) (x_acquire_x L) (x_acquire_f L) (by simp[Act.eval,Sa]),?_⟩;walk_nrm;u_c LK ae a;(iterate 2 u_c Mb ae a);u_reg ae a;(iterate 8 u_op ae a);u_skip ae a;u_skip ae a;u_op ae a;u_c LK ae a;u_cond LH ae a;u_c Nr ae a;u_c OL ae a;u_leave0 H.f_wait ae a;exact NY λw₇ h₇=>j _ (ae a h₇)
 ·obtain⟨S,c⟩:∃S:LJ,(v:LJ)*KK=S:=⟨_,rfl⟩;have a1:S / 4294967296=(v:LJ):=by rw[<- c];simp only[KK];omega
  have b1:Ut .and .u64 S 2147483648=0:=by rw[<- c];have:=XI v 0 (by omega) (by omega);simpa[KK] using this
  have b2:Ut .and .u64 S 2147483647=0:=by rw[<- c];have:=VE v 0 (by omega) (by omega);simpa[KK] using this
  have c1:IntKind.i32.wrap (v:LJ)=(v:LJ):=by rw[Tc];omega
  have w1:IntKind.u64.wrap (S+1)=S+1:=by rw[Tb,<- c];simp only[KK];omega
  have q3:decide ((v:LJ)<0)=LH:=decide_eq_false (by omega);have q4:decide (0<(v:LJ))=LG:=decide_eq_true (by omega);have q5:((v:LJ) == 0)=LH:=by simp;omega
  have q6:decide ((v:LJ)=0)=LH:=decide_eq_false (by omega);rw[c] at b;refine⟨_,QA (v:=S) rfl rfl (by k_ne) rfl H.f_loadU64 (x_loadU64_n L) (x_loadU64_b L) (x_loadU64_x L) .u64 (x_loadU64_f L) rfl b.cellSt,λh0=>absurd h0 (by omega),λ_=>?_⟩;clear b;walk_nrm;u_op ae a;u_c LK ae a;u_c OL ae a;u_leave1 H.f_uLoad ae a;u_op ae a;u_c LK ae a;u_c Mb ae a;u_reg ae a;(iterate 4 u_op ae a);u_c LK ae a;u_c Mb ae a;u_reg ae a;(iterate 4 u_op ae a);u_c LK ae a;(iterate 2 u_c Mb ae a);u_reg ae a;u_op ae a;u_op ae a;u_c LK ae a;u_cond LH ae a;u_c Nr ae a;u_c Mb ae a;u_reg ae a;(iterate 6 u_op ae a);u_call H.f_uCas (nm_uCas L) uCasFn ae a;u_c Mb ae a;u_reg ae a;u_op ae a;u_c LK ae a;u_c Mb ae a;u_reg ae a;(iterate 5 u_op ae a);refine NY (λw₂ h₂=>?_);replace a:=ae a h₂;clear h₂;refine⟨rfl,λv' n2 b=>⟨λe=>?_,λe=>?_⟩⟩
  ·subst e;rw[c] at b ⊢;refine⟨_,(stepG_cas_hit (v:=S) (n:=S+1) rfl rfl (by k_ne) rfl H.f_casU64 (x_casU64_n L) (x_casU64_b L) (x_casU64_x L) .u64 (x_casU64_f L) rfl rfl rfl b.cellSt (b.thaw 0)).trans (by rfl),?_⟩;replace a:OO L.tWg Wg (w₂.setCell (Sa Wg) (.int .u64 (S+1))):=⟨_,_,b.setSt _⟩;clear b;walk_nrm;u_conv H.underlying_tPU32 H.room_tU32 (OP a).choose_spec ae a;u_c LK ae a;u_c OL ae a;u_leave1 H.f_uCas ae a;u_c LK ae a;u_cond LG ae a;(iterate 2 u_c Mb ae a);u_reg ae a;(iterate 4 u_conv H.underlying_tPU32 H.room_tU32 (OP a).choose_spec ae a);u_c LK ae a;u_cond LG ae a;u_reg ae a;(iterate 2 u_conv H.underlying_tPU32 H.room_tU32 (OP a).choose_spec ae a);u_op ae a;u_conv H.underlying_tPU32 H.room_tU32 (OP a).choose_spec ae a;refine NY (λw₃ h₃=>?_);replace a:=ae a h₃;clear h₃;refine⟨rfl,_,TD .write (by simp) rfl rfl (by k_ne) rfl H.f_raceWrite (x_raceWrite_n L) (x_raceWrite_b L) (x_raceWrite_x L) (x_raceWrite_f L) (ad:=⟨_,1,Lw⟩) (by simp[Act.eval]<;>rfl),?_⟩;walk_nrm;u_c LK ae a;u_c Mb ae a;u_reg ae a;u_op ae a;u_c LK ae a;(iterate 2 u_c Mb ae a);u_reg ae a;(iterate 4 u_op ae a);u_skip ae a;u_op ae a;u_c LK ae a;u_cond LH ae a;u_c Nr ae a;u_c Mb ae a;u_reg ae a;(iterate 4 u_op ae a);refine NY (λw₃ h₃=>?_);replace a:=ae a h₃;clear h₃;refine⟨rfl,rfl,λ⟨st,b⟩=>stepG_semacquire_wait rfl rfl rfl H.f_semacquire (x_semacquire_n L) (x_semacquire_b L) (x_semacquire_x L) (x_semacquire_f L) (by simp[Act.eval,VS]) b.cellSm,λf=>?_⟩;refine⟨_,(stepG_semacquire (n:=1) rfl rfl (by k_ne) rfl H.f_semacquire (x_semacquire_n L) (x_semacquire_b L) (x_semacquire_x L) (x_semacquire_f L) (by simp[Act.eval,VS]) f.cellSm (by k_ne) (f.thaw 1)).trans (by rfl),?_⟩;replace a:OO L.tWg Wg (w₃.setCell (VS Wg) (.int .u32 0)):=⟨_,_,f.setSm 0⟩;clear f;walk_nrm;u_c LK ae a;u_c Mb ae a;u_reg ae a;(iterate 3 u_op ae a);u_call H.f_uLoad (nm_uLoad L) uLoadFn ae a;u_c Mb ae a;u_reg ae a;u_op ae a;u_c LK ae a;u_c Mb ae a;u_reg ae a;(iterate 3 u_op ae a);refine NY (λw₄ h₄=>?_);replace a:=ae a h₄;clear h₄;refine⟨rfl,λb=>⟨_,QA (v:=0) rfl rfl (by k_ne) rfl H.f_loadU64 (x_loadU64_n L) (x_loadU64_b L) (x_loadU64_x L) .u64 (x_loadU64_f L) rfl b.cellSt,?_⟩⟩;clear b;walk_nrm;u_op ae a;u_c LK ae a;u_c OL ae a;u_leave1 H.f_uLoad ae a;u_op ae a;u_op ae a;u_c LK ae a;u_c Mb ae a;u_cond LG ae a;u_c Mb ae a;u_reg ae a;refine NY (λw₅ h₅=>?_);replace a:=ae a h₅;clear h₅;refine⟨rfl,_,TU .enable (by simp) rfl rfl (by k_ne) rfl H.f_enable (x_enable_n L) (x_enable_b L) (x_enable_x L) (x_enable_f L),?_⟩;walk_nrm;u_c LK ae a;u_reg ae a;(iterate 2 u_conv H.underlying_tWgP H.room_tWg (Us a).choose_spec ae a);refine NY (λw₆ h₆=>?_);replace a:=ae a h₆;clear h₆;refine⟨rfl,_,TD .acquire (by simp) rfl rfl (by k_ne) rfl H.f_acquire (x_acquire_n L) (x_acquire_b L) (x_acquire_x L) (x_acquire_f L) (by simp[Act.eval,Sa]),?_⟩;walk_nrm;u_c LK ae a;(iterate 2 u_c Mb ae a);u_reg ae a;u_op ae a;u_c LK ae a;u_cond LH ae a;u_c Nr ae a;u_c OL ae a;u_leave0 H.f_wait ae a;exact NY λw₇ h₇=>j _ (ae a h₇)
  ·refine⟨_,stepG_cas_miss (v:=(v':LJ)*KK) (old:=S) (n:=S+1) rfl rfl (by k_ne) rfl H.f_casU64 (x_casU64_n L) (x_casU64_b L) (x_casU64_x L) .u64 (x_casU64_f L) rfl rfl rfl b.cellSt (b.thaw 0) (by rw[<- c];simp only[KK];omega),?_⟩;clear b;walk_nrm;u_op ae a;u_c LK ae a;u_c OL ae a;u_leave1 H.f_uCas ae a;u_c LK ae a;u_cond LH ae a;u_c Nr ae a;u_c stepG_inBlock ae a;u_c stepG_inLoop ae a;refine NY (λw₃ h₃=>?_);replace a:=ae a h₃;exact⟨_,rfl,by simp,by simp,a⟩
def waitStart{P:LV}(H:WgLib P L)(w:Lt)(a:OO L.tWg Wg w) :Rq P LG (LR L.tWg Wg) XA (rU P L.tWg Wg .disable (nK L Wg (b₀.at a₀ (.inRegion ops₀ (i₀::rest₀)::k₀)) cs) 3) 3 (G ((base L.wait).at ⟨#[.pointer (Lq ⟨Wg,0,Lw⟩),LI,LI,LI,LI,LI,LI,LI,LI,LI,LI,LI,LI,LI,LI,LI,LI,LI,LI,LI,LI,LI,LI,LI,LI,LI,LI,LI,LI,LI,LI,LI,LI,LI,LI,LI,LI,LI,LI,LI,LI,LI,LI,LI,LI,LI,LI,LI,LI,LI,LI,LI,LI,LI,LI,LI,LI,LI,LI,LI,LI,LI,LI,LI,LI,LI,LI,LI,LI,LI,LI,LI,LI,LI,LI,LI,LI,LI,LI,LI,LI,LI,LI,LI],[]⟩ [.code (body_wait L)]) (b₀.at a₀ (.inRegion ops₀ (i₀::rest₀)::k₀)::cs)) w:=by
 lib_facts;simp only[body_wait,waitFn,LQ];u_c Mb ae a;u_cond LG ae a;u_reg ae a;refine NY (λw₁ h₁=>?_);replace a:=ae a h₁;clear h₁;refine⟨rfl,_,TU .disable (by simp) rfl rfl (by k_ne) rfl H.f_disable (x_disable_n L) (x_disable_b L) (x_disable_x L) (x_disable_f L),?_⟩;walk_nrm;u_c LK ae a;u_c Su ae a;u_c VD ae a;exact NY (λw₂ h₂=>⟨_,rfl,by simp,by simp,ae a h₂⟩)
end
end
section
open Go.Conc Go.ConcN Go.ConcN.Gen Go.RowKit Go.Conc.Lib Go.ConcR.Gen
open Go.ConcR (KK wgBlock WgAt stA smA rd wr mk DC0)
section
variable{P:LV}{b:MC}{ty:LZ}{Wg:Ly}{R:Lt->Lt->Prop}{D D':Lt->Lt->LM Ns->Prop}{Stop Stop' Qz:LD->Lt->Prop}
def iZ(i:∀w c f,D w c f->D' w c f)(d:∀g w,Stop g w->Stop' g w) :∀{n:Ly} {g:LD} {w:Lt},Rq P b R D Stop n g w->Rq P b R D' Stop' n g w
 | 0,_,_,h=>λw₁ a=>d _ _ (h w₁ a)
 | n+1,_,_,.inl h=>.inl λw₁ a=>d _ _ (h w₁ a)
 | n+1,g,w,.inr ⟨j,h⟩=>.inr ⟨j,λw₁ a=>by
   have⟨o,c,f,e,l,k⟩:=goes_elim (h w₁ a);rw[e];exact⟨i _ _ _ l,iZ i d k⟩⟩
def Ap{n:Ly}{g:LD}{w:Lt}:∀r,Rq P b R D Stop n g w->Rq P b R D Stop (n+r) g w
 | 0,h=>h
 | r+1,h=>(Ap r h).more
def mr(a:∀w,R w w){N:Ly}:∀{n:Ly} {g:LD} {w:Lt},Rq P b R D (λg w=>Rq P b R D Stop N g w) n g w->Rq P b R D Stop (n+N) g w
 | 0,_,w,h=>by rw[Mn];exact h w (a w)
 | n+1,_,w,.inl h=>by rw[Nat.add_comm];exact Ap (n+1) (h w (a w))
 | n+1,g,w,.inr ⟨c,h⟩=>by
   rw[Nat.add_right_comm];refine .inr ⟨c,λw₁ d=>?_⟩;have⟨k,j,l,e,i,f⟩:=goes_elim (h w₁ d);rw[e];exact⟨i,mr a f⟩
def ny(s:∀w,R w w)(r:∀a b c,R a b->R b c->R a c){N:Ly}(o:∀g w,Stop g w->g.status=.running/\∃i j,Nb P b g w=.go i w j/\D w w j/\Rq P b R D Qz N i w){n:Ly}{g:LD}{w:Lt}(h:Rq P b R D Stop n g w):Rq P b R D Qz (n+(N+1)) g w:=by
 have d:∀{g:LD} {w:Lt},(∀w₁,R w w₁->Stop g w₁)->∀w₁,R w w₁->Rq P b R D Qz (N+1) g w₁:=λ{g w} h w₁ f=>
  .inr ⟨(o _ _ (h w₁ f)).1,λw₂ hr₂=>by
   have⟨i,j,e,l,k⟩:=(o _ _ (h w₂ (r _ _ _ f hr₂))).2;rw[e];exact⟨l,k⟩⟩
 refine mr s ?_;induction n generalizing g w with
 | zero=>exact d h
 | succ n p=>
  rcases h with h | ⟨q,h⟩
  ·exact .inl (d h)
  ·refine .inr ⟨q,λw₁ f=>?_⟩;have⟨i,t,j,e,l,k⟩:=goes_elim (h w₁ f);rw[e];exact⟨l,p k⟩
end
section
variable{U X:Type}(C:Cfg U X)
def EU{Wg:Ly}:∀w a c,XA w a c->DM Wg w a c:=λ_ _ _ h=>⟨h.1,by rw[h.2];simp⟩
variable{C}
def Cfg.GM.of{Stop Stop':LD->Lt->Prop}{m:Ly}{g:LD}{w:Lt}(h:Rq C.P LG (LR C.ty C.Wg) XA Stop m g w)(a:∀g w,Stop g w->Stop' g w):C.GM Stop' m g w :=
 iZ EU a h
def Cfg.GM.trans{Stop:LD->Lt->Prop}{N n:Ly}{g:LD}{w:Lt}(h:C.GM (λg w=>C.GM Stop N g w) n g w):C.GM Stop (n+N) g w:=mr LR.refl h
def Cfg.GM.swallow{m:Mark}{Qz:LD->Lt->Prop}{N n:Ly}{g:LD}{w:Lt}(hm:m=.read (VS C.Wg)\/m=.write (VS C.Wg))(h:C.GM (zO C.P LG C.ty C.Wg m Qz N) n g w):C.GM Qz (n+(N+1)) g w :=
 ny LR.refl bx (λg w ⟨a,d,e,c⟩=>⟨a,d,_,e,⟨rfl,by rcases hm with rfl | rfl<;>simp⟩,iZ EU (λ_ _ h=>h) c⟩) h
def Cfg.add_spawn{S:LD->Lt->Prop}{N n:Ly}{g:LD}{w:Lt}(h:Rq C.P LG (LR C.ty C.Wg) XA (zO C.P LG C.ty C.Wg .disable (Is C.P LG C.ty C.Wg (λg w=>C.GM (C.AtGoS S) N g w)) 40) n g w) :C.GM (C.AtKdS S) n g w:=by
 refine Cfg.GM.of h λg w ⟨c,d,e,a⟩=>⟨c,d,e,40,Cfg.GM.of a λg w ⟨c,i⟩=>⟨c,λv k j=>?_⟩⟩;have⟨d,e,a⟩:=i v k j;have f:∀g w,zO C.P LG C.ty C.Wg .enable (λg w=>C.GM (C.AtGoS S) N g w) 2 g w->C.AtKeS S g w :=
  λg w ⟨c,d,e,a⟩=>⟨c,d,e,2+N,Cfg.GM.trans (Cfg.GM.of a λ_ _ h=>h)⟩
 refine⟨d,e,?_⟩;rcases a with a | a
 ·exact⟨_,iZ (λ_ _ _ h=>h) f (Cfg.GM.swallow (.inl rfl) (Cfg.GM.of a λ_ _ h=>h))⟩
 ·exact⟨_,Cfg.GM.of a f⟩
def Cfg.GM.sayC{m:Mark}{Qz:LD->Lt->Prop}{N n:Ly}{g:LD}{w:Lt}(hm:m=.read (VS C.Wg)\/m=.write (VS C.Wg))(h:C.GM (rU C.P C.ty C.Wg m Qz N) n g w):C.GM Qz (n+(N+1)) g w :=
 ny LR.refl bx (λg w ⟨a,d,e,c⟩=>⟨a,d,_,e,⟨rfl,by rcases hm with rfl | rfl<;>simp⟩,iZ EU (λ_ _ h=>h) c⟩) h
section
variable{F0:LD->Lt->Prop}(hF:∀g w,Rq C.P LG (LR C.ty C.Wg) XA F0 40 g w->C.Fin g w)
include hF
theorem Cfg.acq_of{g:LD}{w:Lt}(h:rU C.P C.ty C.Wg (.acquire (Sa C.Wg)) F0 40 g w):C.AtAcq g w:=by
 obtain⟨a,d,e,c⟩:=h;exact⟨a,d,e,hF _ _ c⟩
theorem Cfg.ke_of{g:LD}{w:Lt}(h:rU C.P C.ty C.Wg .enable (rU C.P C.ty C.Wg (.acquire (Sa C.Wg)) F0 40) 12 g w):C.AtKe g w:=by
 obtain⟨a,d,e,c⟩:=h;exact⟨a,d,e,12,Cfg.GM.of c λ_ _ h=>Cfg.acq_of hF h⟩
theorem Cfg.w4_of{g:LD}{w:Lt}(h:MW4 C.P C.ty C.Wg F0 g w):C.AtW4 g w:=by
 obtain⟨c,h⟩:=h;refine⟨c,λa=>?_⟩;have⟨f,e,d⟩:=h a;exact⟨f,e,30,Cfg.GM.of d λ_ _ h=>Cfg.ke_of hF h⟩
theorem Cfg.w3_of{g:LD}{w:Lt}(h:MW3 C.P C.ty C.Wg F0 g w):C.AtW3 g w:=by
 obtain⟨c,d,i,h⟩:=h;refine⟨c,d,i,λa=>?_⟩;have⟨j,e,f⟩:=h a;exact⟨j,e,30,Cfg.GM.of f λ_ _ h=>Cfg.w4_of hF h⟩
theorem Cfg.w2_of{f:Ly}{g:LD}{w:Lt}(h:MW2 C.P C.ty C.Wg F0 C.AnchW f g w):C.AtW2 f g w:=by
 obtain⟨k,h⟩:=h;refine⟨k,λv j i=>⟨λe=>?_,λe=>?_⟩⟩
 ·have⟨c,d,a⟩:=(h v j i).1 e;exact⟨c,d,_,iZ (λ_ _ _ h=>h) (λ_ _ h=>Cfg.w3_of hF h) (Cfg.GM.sayC (.inr rfl) (Cfg.GM.of a λ_ _ h=>h))⟩
 ·have⟨c,d,a⟩:=(h v j i).2 e;exact⟨c,d,20,Cfg.GM.of a λ_ _ h=>h⟩
theorem Cfg.w1_of{g:LD}{w:Lt}(h:MW1 C.P C.ty C.Wg F0 C.AnchW g w):C.AtW1 g w:=by
 obtain⟨d,h⟩:=h;refine⟨d,λv c a=>?_⟩;have⟨j,e,i,f⟩:=h v c a;exact⟨j,e,λe=>⟨50,Cfg.GM.of (i e) λ_ _ h=>Cfg.ke_of hF h⟩,λe=>⟨60,Cfg.GM.of (f e) λ_ _ h=>Cfg.w2_of hF h⟩⟩
end
def Cfg.kd_of{n:Ly}{g:LD}{w:Lt}(h:Rq C.P LG (LR C.ty C.Wg) XA (rU C.P C.ty C.Wg .disable C.AnchW 3) n g w):C.GM C.AtKd n g w :=
 Cfg.GM.of h λ_ _ ⟨a,d,e,c⟩=>⟨a,d,e,3,Cfg.GM.of c λ_ _ h=>h⟩
end
end
section
open Go.Conc Go.ConcN
open Go.ConcR (KK wgBlock WgAt stA smA rd wr DC0 Bk g_of_ofEvents loc_of_ofEvent)
structure Inv{U X:Type}(C:Cfg U X)(gs:LM LD)(w:Lt)(t:Ty)(j:Ly)(D:Ly->WD)(ls:Ly->X)(Ss:Ly->Bs)(rk:Ly->Rk)(W:U)(tag:Wu)(f0 d0:Ly)(a:LD)(st sm:LJ)(cl:Ly->Cl)(fu:Ly->Ly):Prop where
 size:gs.size=C.lo+j
 main:gs[0]?=Lq a
 cs:C.CS tag j f0 d0 a w
 lv:∀i,1<=i->i<C.lo->∃g,gs[i]?=Lq g/\TJ C.P (fu i) (UG t i) g
 wk:∀i,i<j->∃g,gs[C.lo+i]?=Lq g/\C.WS (D i).stage (D i).fuel (D i).deaf (ls i) (Ss i) (rk i) g w
 wd:∀i,i<j->UG t (C.lo+i)=(D i).deaf
 rel:∀i,i<j->(D i).stage<=6->∃r,RelBy (Sa C.Wg) t (C.lo+i) r
 tr:Tr cl gs.size w.heap.size t
 clw:∀i,i<j->∀b,Ss i b->cl b=.mine (C.lo+i)/\b<w.heap.size
 cl0:∀b,w.heap.size<=b->cl b=.mine 0
 cla:∀b,b<C.W1.heap.size->cl b=C.clA b
 cln:∀b,C.W1.heap.size<=b->cl b≠.sync
 nor:∀ad,NoRelease ad t
 deaf0:UG t 0=d0
 hd:Hd C.lo t
 data:C.DataAt W w
 jj:C.J W j ls
 ph:C.Ph w
 wg:Sn C.ty C.Wg w st sm
 mode:Rn j D tag st sm
section
variable{U X:Type}{C:Cfg U X}{gs:LM LD}{w w':Lt}{t:Ty}{j:Ly}{D:Ly->WD}{ls:Ly->X}{Ss:Ly->Bs}{rk:Ly->Rk}{W γ':U}{tag:Wu}{f0 d0:Ly}{a:LD}{st sm st' sm':LJ}{cl:Ly->Cl}{fu:Ly->Ly}
structure Ef(cl:Ly->Cl)(x:Ly)(w w':Lt):Prop where
 keep:∀b,b<w.heap.size->cl b≠.mine x->cl b≠.sync->w'.heap[b]?=w.heap[b]?
 size:w.heap.size<=w'.heap.size
 os:w'.os=w.os
 output:w'.output=w.output
def pK(cl:Ly->Cl)(x:Ly)(w w':Lt)(b:Ly):Cl:=if w.heap.size<=b/\b<w'.heap.size then .mine x else cl b
def jf{x b:Ly}(h:b<w.heap.size):pK cl x w w' b=cl b:=by unfold pK;rw[if_neg (by omega)]
def tT{x:Ly}(h:w'.heap.size=w.heap.size):pK cl x w w'=cl:=by
 funext b
 unfold pK;rw[if_neg (by omega)]
def Inv.fzc(H:C.Ok)(h:Inv C gs w t j D ls Ss rk W tag f0 d0 a st sm cl fu){b:Ly}(d:C.Fz b):cl b=.ro C.lo/\b<w.heap.size:=by
 have⟨e,c⟩:=H.fzc b d;exact⟨(h.cla b c).trans e,LY c h.ph.size⟩
def Inv.syc(H:C.Ok)(h:Inv C gs w t j D ls Ss rk W tag f0 d0 a st sm cl fu){b:Ly}(d:C.Sy b):cl b=.sync/\b<w.heap.size:=by
 have⟨e,c⟩:=H.syc b d;exact⟨(h.cla b c).trans e,LY c h.ph.size⟩
def Inv.wgc(H:C.Ok)(h:Inv C gs w t j D ls Ss rk W tag f0 d0 a st sm cl fu):cl C.Wg=.sync/\C.Wg<w.heap.size:=by
 have⟨c,b,_⟩:=H.wgc;exact⟨(h.cla _ b).trans c,LY b h.ph.size⟩
def Inv.ph'(H:C.Ok)(h:Inv C gs w t j D ls Ss rk W tag f0 d0 a st sm cl fu){x:Ly}(e:Ef cl x w w'):C.Ph w' where
 fz b hb:=by
  have⟨c,d⟩:=h.fzc H hb;rw[e.keep b d (by rw[c];simp) (by rw[c];simp)];exact h.ph.fz b hb
 size:=LN h.ph.size e.size
 os:=e.os.trans h.ph.os
 output:=e.output.trans h.ph.output
def Inv.rc(H:C.Ok)(h:Inv C gs w t j D ls Ss rk W tag f0 d0 a st sm cl fu){x i:Ly}(e:Ef cl x w w')(n:i<j)(l:x≠C.lo+i)(f:Sn C.ty C.Wg w' st' sm')(c:C.DataAt γ' w'):RC C.Fz C.K (Ss i) w w' where
 own b hb:=by
  have⟨d,g⟩:=h.clw i n b hb;exact e.keep b g (by rw[d];intro o;cases o;exact l rfl) (by rw[d];simp)
 fz b hb:=by
  have⟨d,g⟩:=h.fzc H hb;exact e.keep b g (by rw[d];simp) (by rw[d];simp)
 size:=e.size
 os:=e.os
 output:=e.output
 k:=⟨λ_=>⟨_,_,f⟩,λ_=>⟨_,c⟩⟩
def Inv.stepW(H:C.Ok)(h:Inv C gs w t j D ls Ss rk W tag f0 d0 a st sm cl fu){i:Ly}(hi:i<j){g A:LD}{B:LM Ns}(sl:LU (Ly × Ly))(hg:gs[C.lo+i]?=Lq g)(b6:Nb C.P LH g w=.go A w' B)(e:Ef cl (C.lo+i) w w')(N:∀e∈B,EvG (pK cl (C.lo+i) w w') w'.heap.size (C.lo+i) e/\∀a,e.loc≠.mark (.release a)){S Y p:Ly}{l':X}{r':Rk}(b0:C.WS S Y p l' (grow (Ss i) w w') r' A w')(z:Pa (D i).deaf B=p)(hrel:S<=6->∃r,RelBy (Sa C.Wg) (t++Oe (C.lo+i) g.frame.fn g.frame.place B) (C.lo+i) r)(u:Sn C.ty C.Wg w' st' sm')(s:C.DataAt γ' w')(hJ:C.J γ' j (QW ls i l'))(v:∀c,(c=tag\/(tag=.blk/\c=.w3))->(XH C.P g=LG->A.status=.running->c≠.blk)->Rn j (QW D i ⟨S,Y,p⟩) c st' sm') :∃R c V a',UP C.P (Px gs w sl) (C.lo+i)=(.next (Px R w' sl),Oe (C.lo+i) g.frame.fn g.frame.place B)/\V<=f0+1/\(c=tag\/(tag=.blk/\c=.w3)) /\Inv C R w' (t++Oe (C.lo+i) g.frame.fn g.frame.place B) j (QW D i ⟨S,Y,p⟩) (QW ls i l') (QW Ss i (grow (Ss i) w w')) (QW rk i r') γ' c V d0 a' st' sm' (pK cl (C.lo+i) w w') fu:=by
 have c3:=H.hlo;have⟨c,V,O,b7,q,a8⟩:=h.cs.wokenBy H (LR.to (w:=w) ⟨_,_,u⟩) g A;have L:=Rm (P:=C.P) (sl:=sl) (i:=C.lo+i) hg (by rw[show(C.lo+i == 0)=LH by simp;omega];exact b6);have I:((gs.map (VQ C.P g A w')).setIfInBounds (C.lo+i) A).size=gs.size:=by simp
 have M:C.lo+i<gs.size:=by rw[h.size];omega
 have f:∀T∈Oe (C.lo+i) g.frame.fn g.frame.place B,T.g=C.lo+i:=Tk;refine⟨_,c,V,_,L,b7,q,⟨by rw[I];exact h.size,by rw[PE _ _ _ _ (by omega),h.main];rfl,O,λx a7 a6=>?_,λx l=>?_,λx l=>?_,λx l n=>?_,?_,λx l b d=>?_,λb d=>?_,λb d=>?_,λb d=>?_,?_,?_,?_,s,hJ,h.ph' H e,u,v c q a8⟩⟩
 ·have⟨y,Z,G⟩:=h.lv x a7 a6;exact⟨y,by rw[PE _ _ _ _ (by omega),Z,Ng,QX G],by rw[Qd t (by omega:C.lo+i≠x) _ f];exact G⟩
 ·by_cases k:x=i
  ·subst k;exact⟨A,Ql _ _ _ M,by simp only[OU];exact b0⟩
  ·have⟨y,Z,F⟩:=h.wk x l;refine⟨y,by rw[PE _ _ _ _ (by omega),Z,Ng,F.woken],?_⟩;rw[PY D _ k,PY ls _ k,PY Ss _ k,PY rk _ k];exact F.rely (h.rc H e l (by omega) u s)
 ·by_cases k:x=i
  ·subst k;rw[UQ,h.wd x l,OU];exact z
  ·rw[Qd t (by omega) _ f,h.wd x l,PY D _ k]
 ·by_cases k:x=i
  ·subst k;rw[OU] at n;exact hrel n
  ·rw[PY D _ k] at n;have⟨r,hr⟩:=h.rel x l n;exact⟨r,hr.appOther f (by omega)⟩
 ·rw[I];exact(((h.tr.grow e.size).fresh' (cl':=pK cl (C.lo+i) w w') (m:=w.heap.size) h.tr.inb λb d=>jf d)).step M (oy λe he=>(N e he).1)
 ·by_cases k:x=i
  ·subst k;rw[OU] at d;rcases d with d | d
   ·have⟨h1,Q⟩:=h.clw x hi b d;exact⟨by rw[jf Q];exact h1,LY Q e.size⟩
   ·exact⟨by unfold pK;rw[if_pos d],d.2⟩
  ·rw[PY Ss _ k] at d;have⟨h1,Q⟩:=h.clw x l b d;exact⟨by rw[jf Q];exact h1,LY Q e.size⟩
 ·unfold pK;rw[if_neg (by omega)];exact h.cl0 b (LN e.size d)
 ·rw[jf (LY d h.ph.size)];exact h.cla b d
 ·unfold pK;split
  ·simp
  ·exact h.cln b d
 ·exact λad=>(h.nor ad).app λT o hm=>by
   rw[QR] at o;obtain⟨x,l,rfl⟩:=Rj.1 o;exact(N x l).2 _ (SG hm)
 ·rw[Qd t (by omega) _ f];exact h.deaf0
 ·exact h.hd.app λT o=>.inr (.inl (by rw[f T o];omega))
def Inv.step0(H:C.Ok)(h:Inv C gs w t j D ls Ss rk W tag f0 d0 a st sm cl fu){F:LD}{n:LM Ns}(sl:LU (Ly × Ly))(O:Nb C.P LG a w=.go F w' n)(e:Ef cl 0 w w')(Q:w'.heap.size=w.heap.size)(z:∀e∈n,EvG cl w'.heap.size 0 e/\∀a,e.loc≠.mark (.release a)){tag':Wu}{S:Ly}(A:C.CS tag' j S (Pa d0 n) F w')(q:Sn C.ty C.Wg w' st' sm')(k:C.DataAt W w')(l:Rn j D tag' st' sm') :∃B,UP C.P (Px gs w sl) 0=(.next (Px B w' sl),Oe 0 a.frame.fn a.frame.place n) /\Inv C B w' (t++Oe 0 a.frame.fn a.frame.place n) j D ls Ss rk W tag' S (Pa d0 n) F st' sm' cl fu:=by
 have V:=H.hlo;have u:=Rm (P:=C.P) (sl:=sl) (i:=0) h.main O;have s:((gs.map (VQ C.P a F w')).setIfInBounds 0 F).size=gs.size:=by simp
 have v:0<gs.size:=by rw[h.size];omega
 have c:∀G∈Oe 0 a.frame.fn a.frame.place n,G.g=0:=Tk;refine⟨_,u,⟨by rw[s];exact h.size,Ql _ _ _ v,A,λx M L=>?_,λx d=>?_,λx d=>?_,λx d N=>?_,?_,λx d b R=>?_,λb R=>h.cl0 b (by omega),h.cla,h.cln,?_,?_,?_,k,h.jj,h.ph' H e,q,l⟩⟩
 ·have⟨y,I,p⟩:=h.lv x M L;exact⟨y,by rw[PE _ _ _ _ (by omega),I,Ng,QX p],by rw[Qd t (by omega:0≠x) _ c];exact p⟩
 ·have⟨y,I,o⟩:=h.wk x d;exact⟨y,by rw[PE _ _ _ _ (by omega),I,Ng,o.woken],o.rely (h.rc H e d (by omega) q k)⟩
 ·rw[Qd t (by omega) _ c];exact h.wd x d
 ·have⟨r,T⟩:=h.rel x d N;exact⟨r,T.appOther c (by omega)⟩
 ·rw[s];exact(h.tr.grow e.size).step v (oy λe Y=>(z e Y).1)
 ·have⟨h1,Z⟩:=h.clw x d b R;exact⟨h1,LY Z e.size⟩
 ·exact λad=>(h.nor ad).app λG f hm=>by
   rw[QR] at f;obtain⟨x,d,rfl⟩:=Rj.1 f;exact(z x d).2 _ (SG hm)
 ·rw[UQ,h.deaf0]
 ·exact h.hd.app λG f=>.inl (c G f)
def Inv.leave(H:C.Ok)(h:Inv C gs w t j D ls Ss rk W tag f0 d0 a st sm cl fu)(sl:LU (Ly × Ly)){i:Ly}{g:LD}(Y:1<=i)(M:i<C.lo)(Z:gs[i]?=Lq g)(B:g.status=.running) :∃L s q d O a',UP C.P (Px gs w sl) i=(.next (Px L w sl),s)/\q<fu i/\O<=f0+1/\(d=tag\/(tag=.blk/\d=.w3)) /\Inv C L w (t++s) j D ls Ss rk W d O d0 a' st sm cl (QW fu i q):=by
 have a8:=H.hlo;have⟨g0,G,p⟩:=h.lv i Y M;rw[Z] at G;cases G;cases hf:fu i with
 | zero=>rw[hf] at p;rw[p.1] at B;cases B
 | succ q=>
  rw[hf] at p;rcases p with⟨k,_⟩ | ⟨_,N,es,l,o,p⟩
  ·rw[B] at k;cases k
  ·have⟨d,O,I,V,n,a7⟩:=h.cs.wokenBy H (LR.refl w) g N;have A:=Rm (P:=C.P) (sl:=sl) (i:=i) Z (by rw[show(i == 0)=LH by simp;omega];exact o w);have z:((gs.map (VQ C.P g N w)).setIfInBounds i N).size=gs.size:=by simp
   have F:i<gs.size:=by rw[h.size];omega
   have c:=lG (g:=i) (fn:=g.frame.fn) (pos:=g.frame.place) l;refine⟨_,_,q,d,O,_,A,QM q,V,n,⟨by rw[z];exact h.size,by rw[PE _ _ _ _ (by omega),h.main];rfl,I,λx S R=>?_,λx k=>?_,λx k=>?_,λx k T=>?_,?_,h.clw,h.cl0,h.cla,h.cln,?_,?_,?_,h.data,h.jj,h.ph,h.wg,h.mode.retag n⟩⟩
   ·by_cases e:x=i
    ·subst e;exact⟨N,Ql _ _ _ F,by rw[OU,UQ];exact p⟩
    ·have⟨y,Q,v⟩:=h.lv x S R;exact⟨y,by rw[PE _ _ _ _ (by omega),Q,Ng,QX v],by rw[PY _ _ e,Qd t (Ne.symm e) _ λf b=>(c f b).1];exact v⟩
   ·have⟨y,Q,u⟩:=h.wk x k;exact⟨y,by rw[PE _ _ _ _ (by omega),Q,Ng,u.woken],u⟩
   ·rw[Qd t (by omega) _ λf b=>(c f b).1];exact h.wd x k
   ·have⟨r,B⟩:=h.rel x k T;exact⟨r,B.appOther (λf b=>(c f b).1) (by omega)⟩
   ·rw[z];exact h.tr.step F λf b=>⟨(c f b).1,λx k=>by rw[(c f b).2] at k;cases k⟩
   ·exact λad=>(h.nor ad).app λf b hm=>by
     rw[QR] at b;obtain⟨x,k,rfl⟩:=Rj.1 b;have Y:=l x k;have M:=SG hm;obtain⟨a6,wr,sy⟩:=x;simp only at M;subst M;cases Y
   ·rw[Qd t (by omega) _ λf b=>(c f b).1];exact h.deaf0
   ·exact h.hd.app λf b=>.inr (.inr (c f b).2)
end
end
section
open Go.Conc Go.ConcN
open Go.ConcR (KK wgBlock WgAt stA smA rd wr DC0 Bk g_of_ofEvents loc_of_ofEvent ofEvent_mk ofEvent_cell)
def FA(n:Ly)(b f:Ly->Rk):Prop:=∃i,i<n/\Rk.sub (b i) (f i)/\∀k,k≠i->b k=f k
def vE:∀(n:Ly) (f:Ly->Rk),Acc (FA n) f
 | 0,f=>.intro _ λ_ ⟨_,h,_⟩=>absurd h (Nat.not_lt_zero _)
 | n+1,f=>by
  have c:∀x:Rk,Acc Rk.sub x->∀f:Ly->Rk,f n=x->Acc (FA (n+1)) f:=by
   intro x q;induction q with
   | intro x _ d=>
    intro f p;have b:=vE n f;induction b with
    | intro f _ g=>
     refine .intro _ λk ⟨i,r,l,o⟩=>?_;by_cases e:i=n
     ·subst e;exact d (k i) (by rw[<- p];exact l) k rfl
     ·exact g k ⟨i,by omega,l,o⟩ (by rw[o n (Ne.symm e)];exact p)
  exact c (f n) (Rk.acc _) f rfl
abbrev Me:=Ly × (Ly->Rk) × Ly
def LtM(n:Ly):Me->Me->Prop:=Prod.Lex (·<·) (Prod.Lex (FA n) (·<·))
def IW(n:Ly):WellFounded (LtM n):=(Prod.lex ⟨_,Nat.lt_wfRel.wf⟩ (Prod.lex ⟨FA n,⟨vE n⟩⟩ ⟨_,Nat.lt_wfRel.wf⟩)).wf
def tF{n x b:Ly}{y c:(Ly->Rk) × Ly}(h:b<x):LtM n (b,c) (x,y):=Prod.Lex.left _ _ h
def Kd{n x c z d:Ly}{y b:Ly->Rk}(e:c=x)(h:FA n b y):LtM n (c,b,d) (x,y,z):=by
 subst e;exact Prod.Lex.right _ (Prod.Lex.left _ _ h)
def Ak{n x c z b:Ly}{y:Ly->Rk}(d:c=x)(h:b<z):LtM n (c,y,b) (x,y,z):=by
 subst d;exact Prod.Lex.right _ (Prod.Lex.right _ h)
section
variable{U X:Type}(C:Cfg U X)
def Cfg.nuD(x:WD × X):Ly:=if x.1.stage=7 then C.nu x.2 else 0
def Cfg.Nsum(j:Ly)(D:Ly->WD)(ls:Ly->X):Ly:=RD j λi=>C.nuD (D i,ls i)
def Cfg.big(j:Ly)(D:Ly->WD)(ls:Ly->X)(W:U)(tag:Wu):Ly:=(C.nu C.l0+8)*VT C.n (Vc j D) tag+(Ssum j D+(C.m W+C.Nsum j D ls))
def Cfg.low(j:Ly)(D:Ly->WD)(fu:Ly->Ly)(f0:Ly):Ly:=f0+2*(Fsum j D+RD C.lo fu)
end
section
variable{U X:Type}{C:Cfg U X}{gs:LM LD}{w w':Lt}{t:Ty}{j:Ly}{D:Ly->WD}{ls:Ly->X}{Ss:Ly->Bs}{rk:Ly->Rk}{W γ':U}{tag tag':Wu}{f0 d0:Ly}{a:LD}{st sm st' sm':LJ}{cl:Ly->Cl}{fu:Ly->Ly}
def Ec{i:Ly}(x:WD)(l:X)(b:i<j):C.Nsum j (QW D i x) (QW ls i l)+C.nuD (D i,ls i)=C.Nsum j D ls+C.nuD (x,l):=by
 have e:(λa=>C.nuD (QW D i x a,QW ls i l a))=λa=>C.nuD (QW (λa=>(D a,ls a)) i (x,l) a):=by
  funext a
  by_cases h:a=i
  ·subst h;simp only[OU]
  ·simp only[PY _ _ h]
 have:=Ve (λa=>(D a,ls a)) (x,l) C.nuD b;unfold Cfg.Nsum;rw[e];exact this
def mG{Y:Type}(f:Ly->Y)(i:Ly):QW f i (f i)=f:=by
 funext a
 by_cases h:a=i
 ·subst h;rw[OU]
 ·rw[PY _ _ h]
def Inv.at(H:C.Ok)(h:Inv C gs w t j D ls Ss rk W tag f0 d0 a st sm cl fu)(d:Ly):Inv C gs (w.at d) t j D ls Ss rk W tag f0 d0 a st sm cl fu :=
 ⟨h.size,h.main,h.cs.rely (LR.to ⟨_,_,h.wg⟩),h.lv,λi b=>let ⟨g,hg,hs⟩:=h.wk i b;⟨g,hg,hs.rely ⟨λ_ _=>rfl,λ_ _=>rfl,LC _,rfl,rfl,id,λ⟨W,x⟩=>⟨W,H.dat W w _ (λ_ _=>rfl) x⟩⟩⟩,h.wd,h.rel,h.tr,h.clw,h.cl0,h.cla,h.cln,h.nor,h.deaf0,h.hd,
  H.dat W w _ (λ_ _=>rfl) h.data,h.jj,⟨h.ph.fz,h.ph.size,h.ph.os,h.ph.output⟩,h.wg,h.mode⟩
def Inv.awake(H:C.Ok)(h:Inv C gs w t j D ls Ss rk W tag f0 d0 a st sm cl fu):∀g∈gs,Xm g:=by
 intro g o;have⟨i,c⟩:=Uq.1 o;have e:=(Lz.1 c).1;rw[h.size] at e;by_cases p:i=0
 ·subst p;rw[h.main] at c;cases c;intro l;rcases h.cs.status H with⟨d,_⟩ | ⟨d,_⟩<;>rw[d]<;>simp
 ·rcases NK i C.lo with f | f
  ·have⟨x,b,n⟩:=h.lv i (by omega) f;rw[c] at b;cases b;exact oU n
  ·have⟨x,b,d⟩:=h.wk (i - C.lo) (by omega);rw[show C.lo+(i - C.lo)=i by omega,c] at b;cases b;intro l;rcases d.status with k | k<;>rw[k]<;>simp
def Inv.someone(H:C.Ok)(h:Inv C gs w t j D ls Ss rk W tag f0 d0 a st sm cl fu):∃(i:Ly) (g:LD),gs[i]?=Lq g/\g.status=.running:=by
 rcases h.cs.status H with⟨b,_⟩ | ⟨_,rfl⟩
 ·exact⟨0,a,h.main,b⟩
 ·have hm:=h.mode;cases hm with
  | opn d _ _=>exact d.elim
  | reg _ _ e=>
   have⟨i,f,l⟩:=exists_counted e;have⟨g,c,b⟩:=h.wk i f;exact⟨C.lo+i,g,c,b.running_of (by omega)⟩
  | last L _ k e _=>
   have⟨g,c,b⟩:=h.wk L k;exact⟨C.lo+L,g,c,b.running_of (by omega)⟩
  | fin d _=>exact d.elim
def EO(H:C.Ok)(h:Inv C gs w t j D ls Ss rk W tag f0 d0 a st sm cl fu){x:Ly}{e:Ns}(c:Bk C.Wg e):EvG cl w.heap.size x e/\∀a,e.loc≠.mark (.release a):=by
 have⟨l,k⟩:=h.wgc H;rcases c with c | c | ⟨n,wr,rfl,i⟩
 ·refine⟨λy d=>?_,λa=>by rw[c];simp⟩;obtain⟨f,wr,g⟩:=e;simp only at c;subst c;simp[Ny,Oh] at d
 ·refine⟨λy d=>?_,λa=>by rw[c];simp⟩;obtain⟨f,wr,g⟩:=e;simp only at c;subst c;simp[Ny,Oh] at d
 ·refine⟨λy d=>?_,λa=>by simp⟩;simp only[ofEvent_cell,Oh,MM] at d;subst d;intro b c;simp only[blk,MM] at c;subst c;rw[i];exact⟨k,.inr (.inr ⟨l,by simp,by simp⟩)⟩
def je(H:C.Ok)(h:Inv C gs w t j D ls Ss rk W tag f0 d0 a st sm cl fu){e:Ns}(c:e=Ou (.read (VS C.Wg))\/e=Ou (.write (VS C.Wg))):EvG cl w.heap.size 0 e/\dH e:=by
 have⟨g,f⟩:=h.wgc H;rcases c with rfl | rfl
 ·refine⟨λy d=>?_,by simp[dH,Ou]⟩;simp only[Ou,Ny,Oh,MM] at d;subst d;intro b c;simp only[blk,VS,MM] at c;subst c;exact⟨f,.inr (.inr ⟨g,by simp,λ_=>rfl⟩)⟩
 ·refine⟨λy d=>?_,by simp[dH,Ou]⟩;simp only[Ou,Ny,Oh,MM] at d;subst d;intro b c;simp only[blk,VS,MM] at c;subst c;exact⟨f,.inr (.inr ⟨g,by simp,λ_=>rfl⟩)⟩
def Inv.ef(H:C.Ok)(h:Inv C gs w t j D ls Ss rk W tag f0 d0 a st sm cl fu)(x:Ly)(c:Aside C.Wg w w'):Ef cl x w w'/\w'.heap.size=w.heap.size/\C.DataAt W w':=by
 have⟨f,g⟩:=h.wgc H;refine⟨⟨λb _ _ d=>c.block b λe=>d (e ▸ f),Py c.size.symm,c.os,c.output⟩,c.size,H.dat W w w' (λb d=>c.block b λe=>?_) h.data⟩;exact H.wgc.2.2 (e ▸ d)
end
end
section
open Go.Conc Go.ConcN
open Go.ConcR (KK wgBlock WgAt stA smA rd wr DC0 Bk g_of_ofEvents loc_of_ofEvent ofEvent_mk ofEvent_cell)
section
variable{U X:Type}{C:Cfg U X}{gs:LM LD}{w w':Lt}{t:Ty}{j:Ly}{D:Ly->WD}{ls:Ly->X}{Ss:Ly->Bs}{rk:Ly->Rk}{W γ':U}{tag tag':Wu}{f0 d0:Ly}{a:LD}{st sm st' sm':LJ}{cl:Ly->Cl}{fu:Ly->Ly}
def zz(H:C.Ok)(h:Inv C gs w t j D ls Ss rk W tag f0 d0 a st sm cl fu){i:Ly}(p:i<j)(o:w.heap.size<=w'.heap.size){e:Ns}(q:EvC C.Fz (grow (Ss i) w w') w'.heap.size e):EvG (pK cl (C.lo+i) w w') w'.heap.size (C.lo+i) e/\∀a,e.loc≠.mark (.release a):=by
 obtain⟨u,_,s⟩:=q;refine⟨λx n b r=>?_,u.2.2⟩;have⟨l,g,c⟩:=s x n b r;refine⟨l,?_⟩;rcases c with(c | c) | ⟨c,k⟩
 ·have⟨f,d⟩:=h.clw i p b c;exact .inl ⟨by rw[jf d];exact f,g⟩
 ·exact .inl ⟨by unfold pK;rw[if_pos c],g⟩
 ·have⟨f,d⟩:=h.fzc H c;exact .inr (.inl ⟨C.lo,by rw[jf d];exact f,.inr (by omega),k,g⟩)
def Inv.worker(H:C.Ok)(h:Inv C gs w t j D ls Ss rk W tag f0 d0 a st sm cl fu){i:Ly}(M:i<j){g:LD}(hg:gs[C.lo+i]?=Lq g)(c8:g.status=.running)(sl:LU (Ly × Ly))(IH:∀z w' t' D' m5 r8 m3 γ' tag' f' a' st' sm' r5,Inv C z w' t' j D' m5 r8 m3 γ' tag' f' d0 a' st' sm' r5 fu->LtM C.n (C.big j D' m5 γ' tag',m3,C.low j D' fu f') (C.big j D ls W tag,rk,C.low j D fu f0)->Ends C.P C.Post (Px z w' sl) t') :∃z w' S,UP C.P (Px gs w sl) (C.lo+i)=(.next (Px z w' sl),S)/\Ends C.P C.Post (Px z w' sl) (t++S):=by
 obtain⟨g₁,hg₁,hs⟩:=h.wk i M;obtain rfl:g=g₁:=by rw[hg] at hg₁;exact OQ hg₁
 have s9:=H.hlo;have hn:=H.hn;have hb:=h.cs.le;have t6:=Vc_le j D;have A:=h.mode;have u:=h.wg;generalize O:(D i).stage=s at hs;generalize q7:(D i).fuel=m at hs;generalize e8:(D i).deaf=dd at hs;have n9:UG t (C.lo+i)=dd:=by rw[h.wd i M,e8]
 obtain⟨m7,m6⟩:=h.wgc H;have h8:∀{I B l:Ly} {l':X} {r':Rk} {tag':Wu} {f':Ly} {γ':U},(tag'=tag\/(tag=.blk/\tag'=.w3))->f'<=f0+1 ->
   ((I<s/\Vj ⟨I,B,l⟩<=Vj (D i)/\C.m γ'=C.m W/\C.nuD (⟨I,B,l⟩,l')<=C.nuD (D i,ls i))\/(I=s/\B=m/\C.m γ'+C.nuD (⟨I,B,l⟩,l')<C.m W+C.nuD (D i,ls i)) \/
    (I=s/\B=m/\l'=ls i/\γ'=W/\Rk.sub r' (rk i))\/(I=s/\B+1=m/\l'=ls i/\γ'=W/\r'=rk i)) ->
   LtM C.n (C.big j (QW D i ⟨I,B,l⟩) (QW ls i l') γ' tag',QW rk i r',C.low j (QW D i ⟨I,B,l⟩) fu f') (C.big j D ls W tag,rk,C.low j D fu f0):=by
  intro I B l l' r' tag' f' γ' N hf hc;have e1:=Ve D (⟨I,B,l⟩:WD) Vj M;have e2:=Ve D (⟨I,B,l⟩:WD) WD.stage M;have e3:=Ve D (⟨I,B,l⟩:WD) WD.fuel M;have e4:=Ec (C:=C) (D:=D) (ls:=ls) (⟨I,B,l⟩:WD) l' M;have ep:VT C.n (Vc j (QW D i ⟨I,B,l⟩)) tag'=VT C.n (Vc j (QW D i ⟨I,B,l⟩)) tag:=phi_retag _ _ N;have n6:I=s->l'=ls i->C.nuD (⟨I,B,l⟩,l')=C.nuD (D i,ls i):=λx y=>by unfold Cfg.nuD;rw[O,x,y]
  have l7:I=s->Vj (⟨I,B,l⟩:WD)=Vj (D i):=λx=>by simp only[Vj,O,x]
  unfold Cfg.big Cfg.low;rw[ep];simp only[Vc,Ssum,Fsum,O,q7] at *
  rcases hc with⟨c1,c2,c3,c4⟩ | ⟨c1,c2,c3⟩ | ⟨c1,c2,c3,c4,c5⟩ | ⟨c1,c2,c3,c4,c5⟩
  ·refine tF ?_;have hp:=phi_mono C.n (v':=RD j λa=>Vj (QW D i ⟨I,B,l⟩ a)) (v:=RD j λa=>Vj (D a)) (by omega) tag;have:=Tz (C.nu C.l0+8) hp;omega
  ·refine tF ?_;have:=l7 c1;rw[show(RD j λa=>Vj (QW D i ⟨I,B,l⟩ a))=RD j λa=>Vj (D a) by omega];omega
  ·have h1:=l7 c1;have h2:=n6 c1 c3;refine Kd ?_ ⟨i,by omega,by rw[OU];exact c5,λk hk=>PY _ _ hk⟩;rw[show(RD j λa=>Vj (QW D i ⟨I,B,l⟩ a))=RD j λa=>Vj (D a) by omega,c4];omega
  ·have h1:=l7 c1;have h2:=n6 c1 c3;rw[c5,mG];refine Ak ?_ (by omega);rw[show(RD j λa=>Vj (QW D i ⟨I,B,l⟩ a))=RD j λa=>Vj (D a) by omega,c4];omega
 have g8:∀{Q:LD} {w':Lt} {es:LM Ns} {I B l:Ly} {st' sm':LJ},Nb C.P LH g w=.go Q w' es->Aside C.Wg w w'->Sn C.ty C.Wg w' st' sm'->(∀e∈es,Bk C.Wg e) ->
   (∀jx e,es[jx]?=Lq e->(Ny e).touch?=Lw\/0<Pa dd (es.extract 0 jx))->C.WS I B l (ls i) (Ss i) (rk i) Q w'->Pa dd es=l->s<=6 ->
   (∀tag',(tag'=tag\/(tag=.blk/\tag'=.w3))->(XH C.P g=LG->Q.status=.running->tag'≠.blk)->Rn j (QW D i ⟨I,B,l⟩) tag' st' sm')->((I<s/\Vj ⟨I,B,l⟩<=Vj (D i))\/(I=s/\B+1=m)) ->
   ∃z w' S,UP C.P (Px gs w sl) (C.lo+i)=(.next (Px z w' sl),S)/\Ends C.P C.Post (Px z w' sl) (t++S):=by
  intro Q w' es I B l st' sm' c l8 d9 d5 hd e5 l5 h6 Y k9;obtain⟨b7,b0,a8⟩:=h.ef H (C.lo+i) l8;have l4:grow (Ss i) w w'=Ss i:=by
   funext b
   simp only[grow,eq_iff_iff];exact⟨λh=>h.elim id λ⟨a,b⟩=>by omega,.inl⟩
  obtain⟨z,tag',f',a',G,b6,N,V⟩:=h.stepW H M sl hg c b7 (λe o=>by rw[tT b0,b0];exact EO H h (d5 e o)) (by rw[l4];exact e5) (by rw[e8];exact l5)
   (λ_=>let ⟨r,hr⟩:=h.rel i M (by omega);⟨r,hr.book n9 _ _ d5 hd⟩) d9 a8 (by rw[mG];exact h.jj) Y
  refine⟨z,w',_,G,IH _ _ _ _ _ _ _ _ _ _ _ _ _ _ V (h8 N b6 ?_)⟩;rcases k9 with⟨h1,h2⟩ | ⟨h1,h2⟩
  ·refine .inl ⟨h1,h2,rfl,?_⟩;unfold Cfg.nuD;rw[if_neg (by simp only;omega),if_neg (by simp only[O];omega)];exact LC _
  ·exact .inr (.inr (.inr ⟨h1,h2,rfl,rfl,rfl⟩))
 have R:∀{Q:LD} {w':Lt} {es:LM Ns} {I B l:Ly} {st' sm':LJ},Nb C.P LH g w=.go Q w' es->Aside C.Wg w w'->Sn C.ty C.Wg w' st' sm'->(∀e∈es,Bk C.Wg e) ->
   (∀jx e,es[jx]?=Lq e->(Ny e).touch?=Lw\/0<Pa dd (es.extract 0 jx))->C.WS I B l (ls i) (Ss i) (rk i) Q w'->Pa dd es=l->s<=6 ->
   Rn j (QW D i ⟨I,B,l⟩) tag st' sm'->((I<s/\Vj ⟨I,B,l⟩<=Vj (D i))\/(I=s/\B+1=m)) ->
   ∃z w' S,UP C.P (Px gs w sl) (C.lo+i)=(.next (Px z w' sl),S)/\Ends C.P C.Post (Px z w' sl) (t++S) :=
  λc l8 d9 d5 hd e5 l5 h6 Y k9=>g8 c l8 d9 d5 hd e5 l5 h6 (λ_ ht _=>Y.retag ht) k9
 have ew:∀{Q:LD} {B:Ly},Nb C.P LH g w=.go Q w #[]->C.WS s B dd (ls i) (Ss i) (rk i) Q w->B+1=m->s<=6 ->
   ∃z w' S,UP C.P (Px gs w sl) (C.lo+i)=(.next (Px z w' sl),S)/\Ends C.P C.Post (Px z w' sl) (t++S):=by
  intro Q B c e5 hm h6;exact R c (.refl C.Wg w) u (by simp) (by simp) e5 rfl h6 (by have:=A.same (i:=i) B dd;rwa [O] at this) (.inr ⟨rfl,hm⟩)
 have g5:5<=s->Vj (D i)=1:=λh=>by simp[Vj,O,h]
 cases hs with
 | run e9=>
  generalize q2:rk i=r at e9;cases r with
  | leaf=>
   obtain⟨_,hx⟩:=e9 w (RC.refl w);rcases hx with⟨d,Q,c,m₂,hk⟩ | ⟨_,hx⟩
   ·-- it releases
    obtain⟨b7,b0,a8⟩:=h.ef H (C.lo+i) (Aside.refl C.Wg w);obtain⟨z,tag',f',a',G,b6,N,V⟩:=h.stepW H (w':=w) (γ':=W) (st':=st) (sm':=sm) M sl hg c b7 (l':=ls i) (r':=rk i)
     (λe o=>by simp at o;subst o;exact⟨λx hx=>by simp[Ou,Ny,Oh] at hx,λa=>by simp[Ou]⟩) (.k1 d hk) (by rw[e8];rfl) (λ_=>⟨t.size,RelBy.new n9 _ _⟩) u a8
     (by rw[mG];exact h.jj) (λ_ ht _=>(A.counted M (by omega) (.inl rfl) _ _).retag ht)
    refine⟨z,w,_,G,IH _ _ _ _ _ _ _ _ _ _ _ _ _ _ V (h8 N b6 (.inl ⟨by omega,by rw[g5 (by omega)];simp[Vj],rfl,?_⟩))⟩;unfold Cfg.nuD;rw[if_neg (by simp)];exact Mw _
   ·-- a synchronising operation on the data
    obtain⟨Q,w',es,γ',l',c,m9,b0,q4,n3,n8,a8,m8,q0⟩:=hx W h.data ⟨j,ls,by have:=h.cs.le;omega,h.jj⟩;obtain⟨r',q3⟩:=H.hW _ _ _ _ q0;have l4:grow (Ss i) w w'=Ss i:=by
     funext b
     simp only[grow,eq_iff_iff];exact⟨λh=>h.elim id λ⟨a,b⟩=>by omega,.inl⟩
    have b7:Ef cl (C.lo+i) w w':=⟨λb _ _ hb=>m9 b λhs=>hb (h.syc H hs).1,Py b0.symm,q4,n3⟩;obtain⟨z,tag',f',a',G,b6,N,V⟩:=h.stepW H (γ':=γ') (st':=st) (sm':=sm) M sl hg c b7 (l':=l') (r':=r')
     (λe o=>by
      obtain⟨ad,wr,rfl,p3⟩:=n8 e o;obtain⟨k1,k2⟩:=h.syc H p3;refine⟨λx hx b hb=>?_,λa=>by simp⟩;simp only[ofEvent_cell,Oh,MM] at hx;subst hx;simp only[blk,MM] at hb;subst hb;rw[tT b0,b0];exact⟨k2,.inr (.inr ⟨k1,by simp,by simp⟩)⟩) (.run (by rw[l4];exact q3)) (by
      rw[e8];refine deafBehind_idle (λe o=>?_) 0;obtain⟨ad,wr,rfl,p3⟩:=n8 e o;exact⟨by simp,by simp,by simp⟩) (λh=>by omega) (u.of_block (m9 _ H.wgc.2.2)) a8
     (H.hJ _ _ _ _ _ _ h.jj M m8) (λ_ ht _=>Vk (by have:=A.same (i:=i) 0 0;rwa [O] at this) ht)
    refine⟨z,w',_,G,IH _ _ _ _ _ _ _ _ _ _ _ _ _ _ V (h8 N b6 (.inr (.inl ⟨rfl,rfl,?_⟩)))⟩;have:=H.hm _ _ _ _ m8;unfold Cfg.nuD;rw[if_pos (by simp),if_pos (by simp only[O])];exact this
  | nd f=>
   obtain⟨Q,w',es,c,a6,l6⟩:=e9.2 w (RC.refl w);have b7:Ef cl (C.lo+i) w w':=⟨λb hb hm hs=>a6.keep b hb λhS=>hm (h.clw i M b hS).1,a6.size,a6.os,a6.output⟩;have n4:∀b,cl b=.sync->¬ Ss i b:=λb hb hS=>by rw[(h.clw i M b hS).1] at hb;cases hb
   obtain⟨z,tag',f',a',G,b6,N,V⟩:=h.stepW H (γ':=W) (st':=st) (sm':=sm) M sl hg c b7 (l':=ls i)
    (λe o=>zz H h M a6.size (a6.evs e o)) (.run l6) (by rw[e8];exact deafBehind_idle (λe o=>(a6.evs e o).1) 0) (λh=>by omega) (u.of_block (a6.keep _ m6 (n4 _ m7)))
    (H.dat W w w' (λb hb=>a6.keep b (h.syc H hb).2 (n4 _ (h.syc H hb).1)) h.data) (by rw[mG];exact h.jj) (λ_ ht _=>Vk (by have:=A.same (i:=i) 0 0;rwa [O] at this) ht)
   exact⟨z,w',_,G,IH _ _ _ _ _ _ _ _ _ _ _ _ _ _ V (h8 N b6 (.inr (.inr (.inl ⟨rfl,rfl,rfl,rfl,by rw[q2];exact⟨_,rfl⟩⟩))))⟩
 | k1 d hh=>
  rcases Pq hh with F | ⟨B,rfl,p⟩
  ·obtain⟨_,Q,c,m₂,hk⟩:=F w (LR.refl w);exact R c (.refl C.Wg w) u (by intro e o;simp at o;subst o;exact .inl rfl) (by intro jx e o;exact .inl (by have:=NN o;simp at this;subst this;rfl)) (.d1 d hk) rfl (by omega)
    (A.counted M (by omega) (.inr rfl) _ _) (.inl ⟨by omega,by rw[g5 (by omega)];simp[Vj]⟩)
  ·obtain⟨Q,w',es,c,⟨rfl,rfl⟩,Z⟩:=p w (LR.refl w);exact ew c (.k1 d Z) rfl (by omega)
 | d1 d hh=>
  rcases Pq hh with F | ⟨B,rfl,p⟩
  ·obtain⟨_,k0⟩:=F w (LR.refl w);have q9:Vj (D i)=1:=g5 (by omega);have t7:1<=Vc j D:=by have:=le_sumTo (f:=λx=>Vj (D x)) M;simp only[Vc];omega
   have bk2:∀e∈#[rd (Sa C.Wg),wr (Sa C.Wg)],Bk C.Wg e:=by intro e o;simp at o;rcases o with rfl | rfl<;>exact bk_cell _ _ rfl
   have l9:∀jx e,(#[rd (Sa C.Wg),wr (Sa C.Wg)]:LM Ns)[jx]?=Lq e->(Ny e).touch?=Lw\/0<Pa 1 ((#[rd (Sa C.Wg),wr (Sa C.Wg)]:LM Ns).extract 0 jx):=by
    intro jx e o
    match jx,o with
    | 0,_=>exact .inr (by simp[Pa])
    | 1,_=>exact .inr (by simp[Pa,rd])
    | jx+2,o=>simp at o
   have n2:∀q,Vj (⟨1,q,1⟩:WD)=0:=λ_=>rfl;have m4:∀q,OpenSt j D->OpenSt j (QW D i ⟨1,q,1⟩):=λq h a ha=>by
    by_cases e:a=i
    ·subst e;rw[OU];simp
    ·rw[PY D _ e];exact h a ha
   cases A with
   | opn h1 h2 h3=>
    obtain⟨v,hv⟩:∃v,Vc j D+UH tag=v+1:=⟨Vc j D+UH tag - 1,by omega⟩;rw[hv] at u;have k6:Sn C.ty C.Wg w (((v:Ly)+1)*KK+((0:Ly):LJ)) 0:=by simpa using u
    obtain⟨Q,c,_,hq⟩:=k0 v 0 (by omega) (by omega) k6;obtain⟨q,hq⟩:=hq (by omega);have k7:Vc j (QW D i ⟨1,q,1⟩)+UH tag=v:=by have:=Vc_upd D (⟨1,q,1⟩:WD) M;have:=n2 q;omega
    refine R c (QI w (Sa C.Wg) _) (u.setSt _) bk2 l9 (.quit d hq) rfl (by omega) ?_ (.inl ⟨by omega,by simp[Vj]⟩);have e:((v:Ly):LJ)*KK+((0:Ly):LJ)=((Vc j (QW D i ⟨1,q,1⟩)+UH tag:Ly):LJ)*KK:=by rw[k7];simp
    rw[e];exact .opn h1 (m4 q h2) (λvs ev=>by have:=h3 vs ev;omega)
   | reg h1 h2 h3=>
    obtain⟨v,hv⟩:∃v,Vc j D=v+1:=⟨Vc j D - 1,by omega⟩;rw[hv] at u;have hp:UH tag=0:=by cases tag<;>first | rfl | exact h1.elim
    have k6:Sn C.ty C.Wg w (((v:Ly)+1)*KK+((1:Ly):LJ)) 0:=by simpa using u
    obtain⟨Q,c,hl,hq⟩:=k0 v 1 (by omega) (by omega) k6;by_cases q1:v=0
    ·subst q1;obtain⟨m₂,hk⟩:=hl ⟨rfl,rfl⟩;refine R c (QI w (Sa C.Wg) _) (u.setSt _) bk2 l9 (.d2 d hk) rfl (by omega) ?_ (.inl ⟨by omega,by simp[Vj]⟩);have T:∀a,a<j->a≠i->(D a).stage=1:=λa ha e=>by
      have c0:=others_uncounted M hv q9 a ha e;have:=h2 a ha;simp only[Vj] at c0;split at c0<;>omega
     have:=TL (j:=j) (D:=QW D i ⟨4,m₂,1⟩) (tag:=tag) i h1 M (by rw[OU];simp) (λa ha e=>by rw[PY D _ e];exact T a ha e);rw[OU] at this;simpa using this
    ·obtain⟨q,hq⟩:=hq (by omega);have k7:Vc j (QW D i ⟨1,q,1⟩)=v:=by have:=Vc_upd D (⟨1,q,1⟩:WD) M;have:=n2 q;omega
     refine R c (QI w (Sa C.Wg) _) (u.setSt _) bk2 l9 (.quit d hq) rfl (by omega) ?_ (.inl ⟨by omega,by simp[Vj]⟩);have e:((v:Ly):LJ)*KK+((1:Ly):LJ)=((Vc j (QW D i ⟨1,q,1⟩):Ly):LJ)*KK+1:=by rw[k7];simp
     rw[e];exact .reg h1 (m4 q h2) (by omega)
   | last L _ h2 h3 h4=>
    by_cases e:i=L
    ·subst e;omega
    ·have:=h4 i M e;omega
   | sema h2=>have:=h2 i M;omega
   | fin _ h2=>have:=h2 i M;omega
  ·obtain⟨Q,w',es,c,⟨rfl,rfl⟩,Z⟩:=p w (LR.refl w);exact ew c (.d1 d Z) rfl (by omega)
 | d2 d hh=>
  rcases Pq hh with F | ⟨B,rfl,p⟩
  ·obtain⟨_,hx⟩:=F w (LR.refl w);obtain⟨g6,T,rfl,rfl⟩:=A.isLast M (by omega);simp only[O] at u;obtain⟨Q,c,m₂,hk⟩:=hx (by simpa using u);refine R c (.refl C.Wg w) u (by intro e o;simp at o;subst o;exact bk_cell _ _ rfl) (by intro jx e o;match jx,o with | 0,_=>exact .inr (by simp[Pa]) | jx+1,o=>simp at o) (.d3 d hk) rfl (by omega) ?_ (.inl ⟨by omega,by simp[Vj]⟩);have:=TL (j:=j) (D:=QW D i ⟨3,m₂,1⟩) (tag:=tag) i g6 M (by rw[OU];simp) (λa ha e=>by rw[PY D _ e];exact T a ha e);rw[OU] at this;simpa using this
  ·obtain⟨Q,w',es,c,⟨rfl,rfl⟩,Z⟩:=p w (LR.refl w);exact ew c (.d2 d Z) rfl (by omega)
 | d3 d hh=>
  rcases Pq hh with F | ⟨B,rfl,p⟩
  ·obtain⟨_,hx⟩:=F w (LR.refl w);obtain⟨g6,T,rfl,rfl⟩:=A.isLast M (by omega);simp only[O] at u;obtain⟨Q,c,m₂,hk⟩:=hx (by simpa using u);refine R c (QI w (Sa C.Wg) _) (u.setSt 0) (by intro e o;simp at o;subst o;exact bk_cell _ _ rfl) (by intro jx e o;match jx,o with | 0,_=>exact .inr (by simp[Pa]) | jx+1,o=>simp at o) (.d4 d hk) rfl (by omega) ?_ (.inl ⟨by omega,by simp[Vj]⟩);have:=TL (j:=j) (D:=QW D i ⟨2,m₂,1⟩) (tag:=tag) i g6 M (by rw[OU];simp) (λa ha e=>by rw[PY D _ e];exact T a ha e);rw[OU] at this;simpa using this
  ·obtain⟨Q,w',es,c,⟨rfl,rfl⟩,Z⟩:=p w (LR.refl w);exact ew c (.d3 d Z) rfl (by omega)
 | d4 d hh=>
  rcases Pq hh with F | ⟨B,rfl,p⟩
  ·obtain⟨_,q6,hx⟩:=F w (LR.refl w);obtain⟨g6,T,rfl,rfl⟩:=A.isLast M (by omega);simp only[O] at u;obtain⟨Q,c,q,hq⟩:=hx (by simpa using u);have G:Q.status=.running:=by
    cases q with
    | zero=>exact absurd hq.2 (by decide)
    | succ q=>exact hq.elim (λx=>absurd x.2 (by decide)) (λx=>x.1)
   refine g8 c (QI w (VS C.Wg) _) (u.setSm 1) (es:=Qy (VS C.Wg)) ?_ ?_ (.quit d hq) (by simp[Pa,Qy]) (by omega) ?_ (.inl ⟨by omega,by simp[Vj]⟩)
   ·intro e o;simp[Qy] at o;rcases o with rfl | rfl | rfl | rfl
    ·exact .inl rfl
    ·exact bk_cell _ _ rfl
    ·exact bk_cell _ _ rfl
    ·exact .inr (.inl rfl)
   ·intro jx e o
    match jx,o with
    | 0,o=>simp[Qy] at o;subst o;exact .inl rfl
    | 1,_=>exact .inr (by simp[Pa,Qy])
    | 2,_=>exact .inr (by simp[Pa,Qy])
    | 3,o=>simp[Qy] at o;subst o;exact .inl rfl
    | jx+4,o=>simp[Qy] at o
   ·intro tag' ht hw;have q5:=hw q6 G;have e3:tag'=.w3:=by
     rcases ht with rfl | ⟨_,rfl⟩
     ·cases tag'<;>first | rfl | exact g6.elim | exact absurd rfl q5
     ·rfl
    subst e3;simp only[if_true];exact .sema λa ha=>by
     by_cases e:a=i
     ·subst e;rw[OU]
     ·rw[PY D _ e];exact T a ha e
  ·obtain⟨Q,w',es,c,⟨rfl,rfl⟩,Z⟩:=p w (LR.refl w);exact ew c (.d4 d Z) rfl (by omega)
 | quit d hh=>
  cases m with
  | zero=>rw[hh.1] at c8;cases c8
  | succ q=>
   rcases hh with⟨hf,_⟩ | ⟨_,Q,es,e6,p,hq⟩
   ·rw[hf] at c8;cases c8
   ·have d5:∀e∈es,Bk C.Wg e:=λe o=>Go.ConcR.bk_of_mute (e6 e o);exact R (p w) (.refl C.Wg w) u d5 (λjx e o=>.inl (qN (e6 e (NN o)))) (.quit d hq) rfl (by omega) (by have:=A.same (i:=i) q (Pa dd es);rwa [O] at this) (.inr ⟨rfl,rfl⟩)
end
end
section
open Go.Conc Go.ConcN
open Go.ConcR (KK wgBlock WgAt stA smA rd wr DC0 Bk g_of_ofEvents loc_of_ofEvent ofEvent_mk ofEvent_cell)
section
variable{U X:Type}{C:Cfg U X}{gs:LM LD}{w w':Lt}{t:Ty}{j:Ly}{D:Ly->WD}{ls:Ly->X}{Ss:Ly->Bs}{rk:Ly->Rk}{W γ':U}{tag tag':Wu}{f0 d0:Ly}{a:LD}{st sm st' sm':LJ}{cl:Ly->Cl}{fu:Ly->Ly}
def tU{c:Ly}:∀e∈#[Ou .disable],Bk c e:=by intro e b;simp at b;subst b;exact .inl rfl
def xW{c:Ly}:∀e∈#[Ou .enable],Bk c e:=by intro e b;simp at b;subst b;exact .inr (.inl rfl)
def Ho{c:Ly}:∀e∈#[rd (Sa c)],Bk c e:=by intro e b;simp at b;subst b;exact bk_cell _ _ rfl
def Ff{b:Ly}:∀e∈#[rd (Sa b),wr (Sa b)],Bk b e:=by intro e c;simp at c;rcases c with rfl | rfl<;>exact bk_cell _ _ rfl
def Hn{c:Ly}:∀e∈Qy (VS c),Bk c e:=by
 intro e b;simp[Qy] at b;rcases b with rfl | rfl | rfl | rfl
 ·exact .inl rfl
 ·exact bk_cell _ _ rfl
 ·exact bk_cell _ _ rfl
 ·exact .inr (.inl rfl)
def oI{c:Ly}{b:LM Ns}(h:∀e∈b,e=Ou (.read (VS c))\/e=Ou (.write (VS c)))(d:Ly):Pa d b=d :=
 deafBehind_idle (λe f=>by rcases h e f with rfl | rfl<;>simp[dH,Ou]) d
def Inv.spawn(H:C.Ok){r:Ly}(hr:r<C.n)(h:Inv C gs w t (C.n - (r+1)) D ls Ss rk W (.sp r 2) f0 0 a st sm cl fu)(sl:LU (Ly × Ly)){F c:LD}(Y:Nb C.P LG a w=.spawn F c w #[])(a7:C.WA C.l0 (λ_=>PC) c w){tag':Wu}{f':Ly}(v:C.CS tag' (C.n - r) f' 0 F w)(ho:isOpen tag')(hp:UH tag'=0)(V:∀S,tag'≠.w2 S) :∃N G r',UP C.P (Px gs w sl) 0=(.next (Px N w sl),G) /\Inv C N w (t++G) (C.n - r) (QW D (C.n - (r+1)) ⟨7,0,0⟩) (QW ls (C.n - (r+1)) C.l0) (QW Ss (C.n - (r+1)) (λ_=>PC)) (QW rk (C.n - (r+1)) r') W tag' f' 0 F st sm cl fu:=by
 have d6:=H.hlo;have ej:C.n - r=C.n - (r+1)+1:=by omega
 generalize C.n - (r+1)=j at *
 rw[ej] at v ⊢;have⟨rr,hrr⟩:=H.hW _ _ _ _ a7;have o:=runT_crowd_spawn (P:=C.P) (sl:=sl) (i:=0) h.main Y;have e0:(Oe 0 a.frame.fn a.frame.place #[]:LM UC)=#[]:=by rw[QR];simp
 rw[e0] at o;have O:((#[]:LM UC).push { g:=0,fn:=a.frame.fn,pos:=a.frame.place,act:=.go gs.size } |>.push { g:=gs.size,fn:=c.frame.fn,pos:=a.frame.place,act:=.start })=#[{ g:=0,fn:=a.frame.fn,pos:=a.frame.place,act:=.go gs.size },{ g:=gs.size,fn:=c.frame.fn,pos:=a.frame.place,act:=.start }]:=rfl;rw[O] at o;refine⟨_,_,rr,o,?_⟩;generalize hx:({ g:=0,fn:=a.frame.fn,pos:=a.frame.place,act:=.go gs.size }:UC)=x;generalize hy:({ g:=gs.size,fn:=c.frame.fn,pos:=a.frame.place,act:=.start }:UC)=y;have l:x.g=0/\x.act=.go gs.size:=by rw[<- hx];exact⟨rfl,rfl⟩
 have k:y.g=gs.size/\y.act=.start:=by rw[<- hy];exact⟨rfl,rfl⟩
 have I:((gs.setIfInBounds 0 F).push c).size=gs.size+1:=by simp
 have A:=h.size;have q:∀g,UG (t++#[x,y]) g=UG t g:=λg=>(h.tr.fork_deaf l k g).2;have u:∀i,1<=i->i<gs.size->((gs.setIfInBounds 0 F).push c)[i]?=gs[i]?:=λi M L=>by
  rw[Uu (by simpa using L),<- Ml,ML (by omega)]
 have s:∀f∈#[x,y],f.g=0\/f.g=gs.size:=λf d=>by
  simp only[Pl,MK,NQ,or_false] at d;rcases d with rfl | rfl
  ·exact .inl l.1
  ·exact .inr k.1
 have B:∀f∈#[x,y],f.act=.go gs.size\/f.act=.start:=λf d=>by
  simp only[Pl,MK,NQ,or_false] at d;rcases d with rfl | rfl
  ·exact .inl l.2
  ·exact .inr k.2
 refine⟨by rw[I,A];omega,?_,v,λi M L=>?_,λi Q=>?_,λi Q=>?_,λi Q p=>?_,?_,λi Q b R=>?_,h.cl0,h.cla,h.cln,?_,?_,?_,h.data,H.hJ0 _ _ _ h.jj,h.ph,h.wg,?_⟩
 ·rw[Uu (by simp;omega),<- Ml,My,if_pos rfl,if_pos (by omega)]
 ·have⟨z,T,hq⟩:=h.lv i M L;exact⟨z,by rw[u i M (by omega)];exact T,by rw[q];exact hq⟩
 ·by_cases e:i=j
  ·subst e;refine⟨c,?_,by simp only[OU];exact .run hrr⟩;rw[<- A,show gs.size=(gs.setIfInBounds 0 F).size by simp];exact Array.getElem?_push_size
  ·have⟨z,T,hs⟩:=h.wk i (by omega);refine⟨z,by rw[u _ (by omega) (by omega)];exact T,?_⟩;rw[PY D _ e,PY ls _ e,PY Ss _ e,PY rk _ e];exact hs
 ·rw[q];by_cases e:i=j
  ·subst e;rw[OU,<- A];have:=(h.tr.fork_deaf l k 0).1;rw[q] at this;exact this
  ·rw[PY D _ e];exact h.wd i (by omega)
 ·by_cases e:i=j
  ·subst e;rw[OU] at p;simp at p
  ·rw[PY D _ e] at p;have⟨r,hr⟩:=h.rel i (by omega) p;exact⟨r,hr.appNot λf d=>by rcases s f d with h | h<;>omega⟩
 ·rw[I];exact h.tr.fork (by omega) l k h.deaf0
 ·by_cases e:i=j
  ·subst e;rw[OU] at R;exact R.elim
  ·rw[PY Ss _ e] at R;exact h.clw i (by omega) b R
 ·exact λad=>(h.nor ad).app λf d hm=>by
   rcases B f d with e | e<;>rw[e] at hm<;>cases hm
 ·rw[q];exact h.deaf0
 ·exact h.hd.app λf d=>by rcases s f d with e | e<;>omega
 ·have hm:=h.mode;have⟨Z,M,L,_⟩:=hm.open_inv trivial;have eV:Vc (j+1) (QW D j ⟨7,0,0⟩)=Vc j D+1:=by
   simp only[Vc,RD,OU];rw[Vv D _ Vj (LC _)];rfl
  have a6:OpenSt (j+1) (QW D j ⟨7,0,0⟩):=λi Q=>by
   by_cases e:i=j
   ·subst e;rw[OU];simp
   ·rw[PY D _ e];exact Z i (by omega)
  rw[M,L];have a8:((Vc j D+UH (.sp r 2):Ly):LJ)*KK=((Vc (j+1) (QW D j ⟨7,0,0⟩)+UH tag':Ly):LJ)*KK:=by rw[eV,hp];simp[UH]
  rw[a8];exact .opn ho a6 (λS e=>absurd e (V S))
def Inv.starter(H:C.Ok)(h:Inv C gs w t j D ls Ss rk W tag f0 d0 a st sm cl fu)(k8:a.status=.running)(sl:LU (Ly × Ly))(IH:∀l w' t' j' D' k0 p8 h8 tag' f' d' v st' sm',Inv C l w' t' j' D' k0 p8 h8 W tag' f' d' v st' sm' cl fu->LtM C.n (C.big j' D' k0 W tag',h8,C.low j' D' fu f') (C.big j D ls W tag,rk,C.low j D fu f0)->Ends C.P C.Post (Px l w' sl) t') :∃l w' A,UP C.P (Px gs w sl) 0=(.next (Px l w' sl),A)/\Ends C.P C.Post (Px l w' sl) (t++A):=by
 have hn:=H.hn;have q6:=Vc_le j D;have n4:=h.cs.le;have k:=h.mode;have p:=h.wg;have s:∀{v:LD} {w':Lt} {R:LM Ns} {tag':Wu} {f':Ly} {st' sm':LJ},Nb C.P LG a w=.go v w' R->Aside C.Wg w w'->Sn C.ty C.Wg w' st' sm'->(∀e∈R,Bk C.Wg e)->C.CS tag' j f' (Pa d0 R) v w' ->
   Rn j D tag' st' sm'->(VT C.n (Vc j D) tag'<VT C.n (Vc j D) tag\/(VT C.n (Vc j D) tag'=VT C.n (Vc j D) tag/\f'<f0)) ->
   ∃l w' A,UP C.P (Px gs w sl) 0=(.next (Px l w' sl),A)/\Ends C.P C.Post (Px l w' sl) (t++A):=by
  intro v w' R tag' f' st' sm' c p5 k5 p4 c3 d5 d6;obtain⟨Z,M,Q⟩:=h.ef H 0 p5;obtain⟨l,I,z⟩:=h.step0 H sl c Z M (λe he=>by rw[M];exact EO H h (p4 e he)) c3 k5 Q d5;refine⟨l,w',_,I,IH _ _ _ _ _ _ _ _ _ _ _ _ _ _ z ?_⟩;unfold Cfg.big Cfg.low;rcases d6 with T | ⟨T,h2⟩
  ·refine tF ?_;have:=RE T (show 0<C.nu C.l0+8 by omega);omega
  ·rw[T];exact Ak rfl (by omega)
 have ew:∀{v:LD} {w':Lt} {R:LM Ns} {f':Ly},Nb C.P LG a w=.go v w' R->DM C.Wg w w' R->C.CS tag j f' d0 v w'->f'<f0 ->
   ∃l w' A,UP C.P (Px gs w sl) 0=(.next (Px l w' sl),A)/\Ends C.P C.Post (Px l w' sl) (t++A):=by
  intro v w' R f' c F c3 hf;obtain⟨rfl,O⟩:=F;have S:=oI O d0;obtain⟨Z,M,Q⟩:=h.ef H 0 (Aside.refl C.Wg w');obtain⟨l,I,z⟩:=h.step0 H sl c Z M (λe he=>⟨(je H h (O e he)).1,(je H h (O e he)).2.2.2⟩) (by rw[S];exact c3) p Q k;refine⟨l,w',_,I,IH _ _ _ _ _ _ _ _ _ _ _ _ _ _ z ?_⟩;unfold Cfg.big Cfg.low;exact Ak rfl (by omega)
 have n9:=h.cs;have w1Step:∀{m:Ly},tag=.w1\/tag=.anch->j=C.n->d0=1->f0=m\/tag=.anch->C.GM C.AtW1 m a w ->
   ∃l w' A,UP C.P (Px gs w sl) 0=(.next (Px l w' sl),A)/\Ends C.P C.Post (Px l w' sl) (t++A):=by
  intro m a6 hj hd hf G;have u:isOpen tag:=by rcases a6 with rfl | rfl<;>trivial
  have g6:UH tag=0:=by rcases a6 with rfl | rfl<;>rfl
  have d9:8*Vc j D+5<=VT C.n (Vc j D) tag:=by rcases a6 with rfl | rfl<;>simp only[VT]<;>omega
  obtain⟨ho,T,h2,_⟩:=k.open_inv u;rcases Pq G with d | ⟨m',rfl,f⟩
  ·obtain⟨_,Y⟩:=d w (.refl w);obtain⟨v,c,h0,k9⟩:=Y (Vc j D) (by omega) (by have:=p;rw[T,h2,g6] at this;simpa using this);subst hj;subst hd;by_cases hv:Vc C.n D=0
   ·obtain⟨m₂,B⟩:=h0 hv;refine s c (.refl C.Wg w) p Ho (tag':=.ke) (.ke B) ?_ (.inl (LY (by simp only[VT];omega) d9));have e:st=0:=by rw[T,hv,g6];simp
    rw[e,h2];exact .fin trivial (allQuit_of ho hv)
   ·obtain⟨m₂,B⟩:=k9 hv;refine s c (.refl C.Wg w) p Ho (tag':=.w2 (Vc C.n D)) (.w2 B) ?_ (.inl (LY (by simp only[VT];omega) d9));have e:st=((Vc C.n D+UH (.w2 (Vc C.n D)):Ly):LJ)*KK:=by rw[T,g6];rfl
    rw[e,h2];exact .opn trivial ho (λvs e=>by cases e;omega)
  ·obtain⟨v,w',R,c,F,o⟩:=f w (.refl w);rcases hf with hf | hf
   ·rcases a6 with rfl | rfl
    ·subst hj;subst hd;exact ew c F (.w1 o) (by omega)
    ·subst hj;subst hd;obtain⟨rfl,O⟩:=F;have S:=oI O 1;obtain⟨Z,M,Q⟩:=h.ef H 0 (Aside.refl C.Wg w');obtain⟨l,I,z⟩:=h.step0 H sl c Z M (λe he=>⟨(je H h (O e he)).1,(je H h (O e he)).2.2.2⟩) (tag':=.w1) (by rw[S];exact .w1 o) p Q (k.reopen trivial trivial rfl (by simp));refine⟨l,w',_,I,IH _ _ _ _ _ _ _ _ _ _ _ _ _ _ z ?_⟩;unfold Cfg.big Cfg.low;refine tF ?_;have:=RE (show VT C.n (Vc C.n D) .w1<VT C.n (Vc C.n D) .anch by simp only[VT];omega) (show 0<C.nu C.l0+8 by omega);omega
   ·subst hf;subst hj;subst hd;obtain⟨rfl,O⟩:=F;have S:=oI O 1;obtain⟨Z,M,Q⟩:=h.ef H 0 (Aside.refl C.Wg w');obtain⟨l,I,z⟩:=h.step0 H sl c Z M (λe he=>⟨(je H h (O e he)).1,(je H h (O e he)).2.2.2⟩) (tag':=.w1) (by rw[S];exact .w1 o) p Q (k.reopen trivial trivial rfl (by simp));refine⟨l,w',_,I,IH _ _ _ _ _ _ _ _ _ _ _ _ _ _ z ?_⟩;unfold Cfg.big Cfg.low;refine tF ?_;have:=RE (show VT C.n (Vc C.n D) .w1<VT C.n (Vc C.n D) .anch by simp only[VT];omega) (show 0<C.nu C.l0+8 by omega);omega
 cases n9 with
 | skd I G=>
  rcases Pq G with d | ⟨m',rfl,f⟩
  ·obtain⟨_,v,c,m₂,B⟩:=d w (.refl w);exact s c (.refl C.Wg w) p tU (.sa1 I B) (k.reopen trivial trivial rfl (by simp)) (.inl (by simp only[VT];omega))
  ·obtain⟨v,w',R,c,F,o⟩:=f w (.refl w);exact ew c F (.skd I o) (by omega)
 | sa1 I G=>
  rename_i r
  rcases Pq G with d | ⟨m',rfl,f⟩
  ·obtain⟨_,Y⟩:=d w (.refl w);obtain⟨ho,rfl,rfl,_⟩:=k.open_inv trivial;obtain⟨v,c,m₂,B⟩:=Y (Vc (C.n - (r+1)) D) (by omega) (by simpa[UH] using p);refine s c (QI w (Sa C.Wg) _) (p.setSt _) Ff (.ske I B) ?_ (.inl (by simp only[VT];omega));have e:(((Vc (C.n - (r+1)) D:Ly):LJ)+1)*KK=((Vc (C.n - (r+1)) D+UH (.sp r 3):Ly):LJ)*KK:=by simp[UH]
   rw[e];exact .opn trivial ho (by simp)
  ·obtain⟨v,w',R,c,F,o⟩:=f w (.refl w);exact ew c F (.sa1 I o) (by omega)
 | ske I G=>
  rcases Pq G with d | ⟨m',rfl,f⟩
  ·obtain⟨_,v,c,m₂,B⟩:=d w (.refl w);exact s c (.refl C.Wg w) p xW (.sgo I B) (k.reopen trivial trivial rfl (by simp)) (.inl (by simp only[VT];omega))
  ·obtain⟨v,w',R,c,F,o⟩:=f w (.refl w);exact ew c F (.ske I o) (by omega)
 | sgo I G=>
  rename_i r
  rcases Pq G with d | ⟨m',rfl,f⟩
  ·obtain⟨_,v,p7,k7,m9,b9⟩:=d w (.refl w);have d7:=m9 h.ph ⟨_,h.data⟩;have eV:Vc (C.n - r) (QW D (C.n - (r+1)) ⟨7,0,0⟩)=Vc (C.n - (r+1)) D+1:=by
    rw[show C.n - r=C.n - (r+1)+1 by omega];simp only[Vc,RD,OU];rw[Vv D _ Vj (LC _)];rfl
   have eS:Ssum (C.n - r) (QW D (C.n - (r+1)) ⟨7,0,0⟩)=Ssum (C.n - (r+1)) D+7:=by
    rw[show C.n - r=C.n - (r+1)+1 by omega];simp only[Ssum,RD,OU];rw[Vv D _ WD.stage (LC _)]
   have eN:C.Nsum (C.n - r) (QW D (C.n - (r+1)) ⟨7,0,0⟩) (QW ls (C.n - (r+1)) C.l0)=C.Nsum (C.n - (r+1)) D ls+C.nu C.l0:=by
    rw[show C.n - r=C.n - (r+1)+1 by omega];simp only[Cfg.Nsum,RD,OU];rw[sumTo_congr (g:=λi=>C.nuD (D i,ls i)) λi hi=>by rw[PY _ _ (by omega),PY _ _ (by omega)]];simp[Cfg.nuD]
   have h9:∀{tag':Wu} {r':Rk} {f':Ly},(VT C.n (Vc (C.n - (r+1)) D+1) tag'+1<=VT C.n (Vc (C.n - (r+1)) D) (.sp r 2)) ->
     LtM C.n (C.big (C.n - r) (QW D (C.n - (r+1)) ⟨7,0,0⟩) (QW ls (C.n - (r+1)) C.l0) W tag',QW rk (C.n - (r+1)) r',C.low (C.n - r) (QW D (C.n - (r+1)) ⟨7,0,0⟩) fu f') (C.big (C.n - (r+1)) D ls W (.sp r 2),rk,C.low (C.n - (r+1)) D fu f0):=by
    intro tag' r' f' n3;refine tF ?_;unfold Cfg.big;rw[eV,eS,eN];have:=Tz (C.nu C.l0+8) n3;rw[Nat.mul_add,Nat.mul_one] at this;omega
   cases r with
   | zero=>
    obtain⟨m₃,B⟩:=b9;obtain⟨l,A,r',N,z⟩:=h.spawn H I sl k7 d7 (tag':=.kd) (f':=m₃) (by rw[Nat.sub_zero];exact .kd B) trivial rfl (by simp);exact⟨l,w,A,N,IH _ _ _ _ _ _ _ _ _ _ _ _ _ _ z (h9 (by simp only[VT];omega))⟩
   | succ r2=>
    obtain⟨m₃,B⟩:=b9;obtain⟨l,A,r',N,z⟩:=h.spawn H I sl k7 d7 (tag':=.sp r2 5) (f':=m₃) (.skd (by omega) B) trivial rfl (by simp);exact⟨l,w,A,N,IH _ _ _ _ _ _ _ _ _ _ _ _ _ _ z (h9 (by simp only[VT];omega))⟩
  ·obtain⟨v,w',R,c,F,o⟩:=f w (.refl w);exact ew c F (.sgo I o) (by omega)
 | kd G=>
  rcases Pq G with d | ⟨m',rfl,f⟩
  ·obtain⟨_,v,c,m₂,B⟩:=d w (.refl w);exact s c (.refl C.Wg w) p tU (.anch B) (k.reopen trivial trivial rfl (by simp)) (.inl (by simp only[VT];omega))
  ·obtain⟨v,w',R,c,F,o⟩:=f w (.refl w);exact ew c F (.kd o) (by omega)
 | anch G=>
  rcases Pq G with d | ⟨m',rfl,f⟩
  ·obtain⟨m₂,B⟩:=H.hAn a w (d w (.refl w));exact w1Step (.inr rfl) rfl rfl (.inr rfl) B
  ·obtain⟨v,w',R,c,F,o⟩:=f w (.refl w);exact ew c F (.anch o) (by omega)
 | w1 G=>exact w1Step (.inl rfl) rfl rfl (.inl rfl) G
 | w2 G=>
  rename_i vs
  rcases Pq G with d | ⟨m',rfl,f⟩
  ·obtain⟨_,Y⟩:=d w (.refl w);obtain⟨ho,rfl,rfl,n2⟩:=k.open_inv trivial;obtain⟨n4,T⟩:=n2 vs rfl;obtain⟨l5,g7⟩:=Y (Vc C.n D) (by omega) (by simpa[UH] using p);by_cases e:Vc C.n D=vs
   ·obtain⟨v,c,m₂,B⟩:=l5 e;exact s c (QI w (Sa C.Wg) _) (p.setSt _) Ff (.w3 B) (.reg trivial ho (by omega)) (.inl (by simp only[VT];omega))
   ·obtain⟨v,c,m₂,B⟩:=g7 e;exact s c (.refl C.Wg w) p Ho (.anch B) (k.reopen trivial trivial rfl (by simp)) (.inl (by simp only[VT];omega))
  ·obtain⟨v,w',R,c,F,o⟩:=f w (.refl w);exact ew c F (.w2 o) (by omega)
 | w3 G=>
  rcases Pq G with d | ⟨m',rfl,f⟩
  ·obtain⟨_,q2,e6,e9⟩:=d w (.refl w);cases k with
   | opn T _ _=>exact T.elim
   | reg T h2 h3=>exact s (e6 ⟨_,p⟩) (.refl C.Wg w) p (by simp) (.blk d) (.reg trivial h2 h3) (.inr ⟨rfl,by omega⟩)
   | last L T h2 h3 h4=>exact s (e6 ⟨_,p⟩) (.refl C.Wg w) p (by simp) (.blk d) (.last L trivial h2 h3 h4) (.inr ⟨rfl,by omega⟩)
   | sema h2=>
    obtain⟨v,c,m₂,B⟩:=e9 p;exact s c (QI w (VS C.Wg) _) (p.setSm 0) Hn (.w4 B) (.fin trivial h2) (.inl (by simp only[VT];omega))
   | fin T _=>exact T.elim
  ·obtain⟨v,w',R,c,F,o⟩:=f w (.refl w);exact ew c F (.w3 o) (by omega)
 | blk G=>simp at k8
 | w4 G=>
  rcases Pq G with d | ⟨m',rfl,f⟩
  ·obtain⟨_,hx⟩:=d w (.refl w);obtain⟨hq,rfl,rfl⟩:=k.fin_inv trivial;obtain⟨v,c,m₂,B⟩:=hx p;exact s c (.refl C.Wg w) p Ho (.ke B) (.fin trivial hq) (.inl (by simp only[VT];omega))
  ·obtain⟨v,w',R,c,F,o⟩:=f w (.refl w);exact ew c F (.w4 o) (by omega)
 | ke G=>
  rcases Pq G with d | ⟨m',rfl,f⟩
  ·obtain⟨_,v,c,m₂,B⟩:=d w (.refl w);obtain⟨hq,rfl,rfl⟩:=k.fin_inv trivial;exact s c (.refl C.Wg w) p xW (.acq B) (.fin trivial hq) (.inl (by simp only[VT];omega))
  ·obtain⟨v,w',R,c,F,o⟩:=f w (.refl w);exact ew c F (.ke o) (by omega)
 | acq G=>
  rcases Pq G with d | ⟨m',rfl,f⟩
  ·obtain⟨_,v,c,l7⟩:=d w (.refl w);obtain⟨hq,rfl,rfl⟩:=k.fin_inv trivial;have N:=Rm (P:=C.P) (sl:=sl) (i:=0) h.main c;refine⟨_,_,_,N,?_⟩;have n8:∀i,i<C.n->C.fin (ls i):=λi hi=>by
    obtain⟨g,_,hs⟩:=h.wk i hi;exact hs.fin_of (by rw[hq i hi];omega)
   have hE:=H.hFin W ls v w l7 h.jj n8 h.data h.ph;have q5:=H.hlo;have M:((gs.map (VQ C.P a v w)).setIfInBounds 0 v).size=gs.size:=by simp
   have d6:0<gs.size:=by rw[h.size];omega
   have e1:Oe 0 a.frame.fn a.frame.place #[Ou (.acquire (Sa C.Wg))]=#[{ g:=0,fn:=a.frame.fn,pos:=a.frame.place,act:=.mark (.acquire (Sa C.Wg)) }]:=by rw[QR];simp[ofEvent_mk]
   rw[e1];generalize hy:({ g:=0,fn:=a.frame.fn,pos:=a.frame.place,act:=.mark (.acquire (Sa C.Wg)) }:UC)=y;have c9:y.g=0:=by rw[<- hy]
   have b6:y.act=.mark (.acquire (Sa C.Wg)):=by rw[<- hy]
   have e4:∀op∈#[y],op.g=0:=λop u=>by simp at u;rw[u];exact c9
   have e7:(t++#[y])[t.size]?=Lq y:=by simp
   have S:∀g,UG (t++#[y]) g=UG t g:=λg=>Deaf_still t g _ λop u=>by simp at u;rw[u,b6];simp
   have e8:Tr cl gs.size w.heap.size (t++#[y]):=h.tr.step d6 λop u=>by
    simp at u;rw[u];exact⟨c9,λx hx=>by rw[b6] at hx;cases hx⟩
   have l6:∀m,Hd m (t++#[y]):=λm=>by
    refine Hd.join (lo:=C.lo) (q:=t.size) (h.hd.app λop u=>.inl (e4 op u)) (λg hg k9 ⟨i,hi⟩=>?_) ((h.nor _).app λop u hm=>by simp at u;rw[u,b6] at hm;cases hm) (by rw[act?_of e7,b6]) (by rw[tM e7,c9])
     ⟨0,by rw[tM e7,c9],by rw[deaf_old (LC _)];exact h.deaf0⟩ m
    obtain⟨op,ho,rfl⟩:=Qi.1 hi;have V:=e8.gs i op ho;rw[h.size] at V;obtain⟨r,I⟩:=h.rel (op.g - C.lo) (by omega) (by rw[hq _ (by omega)];omega);rw[show C.lo+(op.g - C.lo)=op.g by omega] at I;exact⟨r,I.appOther e4 (by omega),lt_of_act? I.act⟩
   refine hE _ sl _ (λi=>if i<C.lo then fu i else(D (i - C.lo)).fuel) ⟨Ql _ _ _ d6,λi T h2=>?_,?_,λb hb=>?_,?_,l6 _,λad=>?_⟩
   ·rw[M] at h2;by_cases hl:i<C.lo
    ·obtain⟨x,hx,b7⟩:=h.lv i T hl;refine⟨x,by rw[PE _ _ _ _ (by omega),hx,Ng,QX b7],?_⟩;rw[if_pos hl,S];exact b7
    ·have V:i - C.lo<C.n:=by rw[h.size] at h2;omega
     obtain⟨x,hx,m8⟩:=h.wk (i - C.lo) V;have k6:=h.wd (i - C.lo) V;rw[show C.lo+(i - C.lo)=i by omega] at hx k6;have b7:TJ C.P (D (i - C.lo)).fuel (D (i - C.lo)).deaf x:=by
      have T:=hq _ V;generalize D (i - C.lo)=dd at *
      obtain⟨s1,f1,d1⟩:=dd;dsimp only at *
      subst T;cases m8 with
      | quit _ h=>exact h
     refine⟨x,by rw[PE _ _ _ _ (by omega),hx,Ng,QX b7],?_⟩;rw[if_neg hl,S,k6];exact b7
   ·rw[M];refine e8.recl (λb hb=>?_);by_cases hs:cl b=.sync
    ·left;rw[hs];have g8:b<C.W1.heap.size:=Ug λn7=>h.cln b n7 hs;unfold flat;rw[<- h.cla b g8,hs]
    ·right;right;left;refine⟨hs,?_,λi x hx p3=>e8.known0 (l6 gs.size) (LC _) hx p3 hs⟩;unfold flat;by_cases g8:b<C.W1.heap.size
     ·rw[<- h.cla b g8];cases hc:cl b<;>first | rfl | exact absurd hc hs
     ·cases hc:C.clA b with
      | sync=>rw[H.cla0 b (by omega)] at hc;cases hc
      | _=>rfl
   ·unfold flat;rw[H.cla0 b (LN h.ph.size hb)]
   ·rw[S];exact h.deaf0
   ·exact(h.nor ad).app λop u hm=>by simp at u;rw[u,b6] at hm;cases hm
  ·obtain⟨v,w',R,c,F,o⟩:=f w (.refl w);exact ew c F (.acq o) (by omega)
def rF(H:C.Ok)(h:Inv C gs w t j D ls Ss rk W tag f0 d0 a st sm cl fu)(sl:LU (Ly × Ly)):Ends C.P C.Post (Px gs w sl) t:=by
 have F:∀(Z:Me) (gs:LM LD) (w:Lt) (t:Ty) (j:Ly) (D:Ly->WD) (ls:Ly->X) (Ss:Ly->Bs) (rk:Ly->Rk) (W:U) (tag:Wu) (f0 d0:Ly) (a:LD) (st sm:LJ) (cl:Ly->Cl) (fu:Ly->Ly) (sl:LU (Ly × Ly)),
   Inv C gs w t j D ls Ss rk W tag f0 d0 a st sm cl fu->Z=(C.big j D ls W tag,rk,C.low j D fu f0)->Ends C.P C.Post (Px gs w sl) t:=by
  intro Z;induction Z using(IW C.n).induction with
  | _ Z G=>
   intro gs w t j D ls Ss rk W tag f0 d0 a st sm cl fu sl h hμ;subst hμ;have⟨i,g,d,f,u,l,b⟩:=VC (P:=C.P) (w:=w) (sl:=sl) (h.awake H) (h.someone H);have M:=h.at H d;have o:=(Lz.1 u).1;rw[h.size] at o;by_cases V:i=0
   ·subst V;rw[h.main] at u;cases u;have⟨k,w',v,y,L⟩:=M.starter H l f λk w' B Q O r s p tag' z Y A st' sm' c o=>G _ o k w' B Q O r s p W tag' z Y A st' sm' cl fu f c rfl;exact Ends.next (b.trans y) L
   ·rcases NK i C.lo with I | I
    ·have⟨k,v,q,tag',z,A,y,R,hf,x,c⟩:=M.leave H f (by omega) I u l;refine Ends.next (b.trans y) (G _ ?_ _ _ _ _ _ _ _ _ _ _ _ _ _ _ _ _ _ f c rfl)
     have e:=phi_retag C.n (Vc j D) x;unfold Cfg.big Cfg.low;rw[e];have:=uj I R;exact Ak rfl (by
      have e2:(RD C.lo λa=>QW fu i q a)=RD C.lo (QW fu i q):=rfl;omega)
    ·have S:i - C.lo<j:=by omega
     have T:C.lo+(i - C.lo)=i:=by omega
     rw[<- T] at u b;have⟨k,w',v,y,L⟩:=M.worker H S u l f λk w' B O r s p γ' tag' z A st' sm' N c o=>G _ o k w' B j O r s p γ' tag' z d0 A st' sm' N fu f c rfl;exact Ends.next (b.trans y) L
 exact F _ gs w t j D ls Ss rk W tag f0 d0 a st sm cl fu sl h rfl
end
def E.crowd{U X:Type}{P:LV}{d:LA->Lt->Prop}{cl:Ly->Cl}{a:LD}{w:Lt}(L:∀x,1<=x->∃C:Cfg U X,C.P=P/\C.Post=d/\C.lo=x/\C.W1=w/\C.Ok/\(∀b,b<w.heap.size->C.clA b=cl b\/(cl b=.mine 0/\C.clA b=.ro x))/\C.Spawns C.n a w/\Sn C.ty C.Wg w 0 0/\∃W ls,C.DataAt W w/\C.J W 0 ls):E P d cl a w:=by
 intro gs I t fu g;have M:=(Lz.1 g.main).1;obtain⟨C,rfl,rfl,k,q,H,F,c,y,W,ls,l,hJ⟩:=L gs.size (by omega);have z:Tr C.clA gs.size w.heap.size t:=g.tr.recl λb p=>by
  rcases F b p with e | ⟨O,N⟩
  ·exact .inl e
  ·exact .inr (.inl ⟨O,N⟩)
 have f:∀tag,isOpen tag->UH tag=0->(∀h,tag≠.w2 h)->Rn 0 (λ_=>(⟨0,0,0⟩:WD)) tag 0 0:=λtag s v G=>by
  have:=Go.ConcN.Mode.opn (j:=0) (D:=λ_=>(⟨0,0,0⟩:WD)) s (λi u=>by omega) (λh e=>absurd e (G h));simpa[Vc,RD,v] using this
 have base:∀tag f0,C.CS tag 0 f0 0 a w->isOpen tag->UH tag=0->(∀h,tag≠.w2 h)->Inv C gs w t 0 (λ_=>⟨0,0,0⟩) ls (λ_ _=>PC) (λ_=>.leaf) W tag f0 0 a 0 0 C.clA fu:=λtag f0 B s v G=>
  ⟨by rw[k,Nat.add_zero],g.main,B,λi s v=>g.lv i s (by omega),λi u=>by omega,λi u=>by omega,λi u=>by omega,z,λi u=>by omega,λb p=>H.cla0 b (by rw[q];exact p),λb _=>rfl,λb p=>by rw[H.cla0 b p];simp,
   g.nor,g.d0,by rw[k];exact g.hd,l,hJ,⟨λb _=>by rw[q],by rw[q];exact LC _,by rw[q],by rw[q]⟩,y,f tag s v G⟩
 cases hn:C.n with
 | zero=>
  rw[hn] at c;obtain⟨m,A⟩:=c;have o:C.CS .kd C.n m 0 a w:=.kd A;rw[hn] at o;exact rF H (base .kd m o trivial rfl (by simp)) I
 | succ r=>
  rw[hn] at c;obtain⟨m,A⟩:=c;have o:C.CS (.sp r 5) (C.n - (r+1)) m 0 a w:=.skd (by omega) A;rw[hn,Nat.sub_self] at o;exact rF H (base (.sp r 5) m o trivial rfl (by simp)) I
end
section
open Go.Conc Go.ConcN Go.Sim
def vu(R:ON->Lt->Prop):SS->ON->Lt->Prop
 | .normal,a,w=>R a w
 | _,_,_=>PC
def qJ{R:ON->Lt->Prop}:¬ LetsOut (vu R):=λ⟨_,_,h⟩=>h
def Ac{Q:LV}{ops:LM NB}{R:ON->Lt->Prop}(rest:Lx Ly)(l:Lx Ly):∀(a:ON) (w:Lt),WC Q ops (vu R) l a w->∀(b:LW) (k:Lx PW) (cs:Lx LW),∃n q,R n q/\Steps Q (lone (b.at a (.inRegion ops (l++rest)::k)) cs w) (lone (b.at n (.inRegion ops rest::k)) cs q):=by
 induction l with
 | nil=>exact λa w h b k cs=>⟨a,w,h,.refl _ _⟩
 | cons i l y=>
  intro a w h b k cs;simp only[WC] at h;cases ho:ops[i]? with
  | none=>
   simp only[ho] at h;have⟨n,q,s,c⟩:=y a w h b k cs;have hs:=step_op_skip (P:=Q) (b:=b) (a:=a) (k:=k) (cs:=cs) (w:=w) (ops:=ops) (i:=i) (rest:=l++rest) (by simp[ho]);simp only[ho,Option.bind_none,Act.put] at hs;exact⟨n,q,s,.head hs c⟩
  | some o=>
   simp only[ho] at h;by_cases C:MA o (Od ops a.tmps)=LG
   ·simp only[C,if_true] at h;rcases h with h | ⟨_,z⟩
    case inr=>exact absurd z qJ
    simp only[Oper.wp,Oper.upon] at h;have A:=stepG_op (P:=Q) (b:=b) (k:=k) (cs:=cs) (w:=w) (rest:=l++rest) ho C;have r:∀v,(b.at a (.inRegion ops (i::(l++rest))::k)).finish v=b.at (a.put o.dst v) (.inRegion ops (l++rest)::k):=by
     intro v;rw[Ow,ho];rfl
    split at h
    ·rename_i v q u
     have⟨n,p,s,c⟩:=y _ _ h b k cs;exact⟨n,p,s,.head (SI (by rw[Mk,A,<- r];simp[Nq,u])) c⟩
    ·rename_i q u
     have⟨n,p,s,c⟩:=y _ _ h b k cs;exact⟨n,p,s,.head (SI (by rw[Mk,A,<- r];simp[Nq,u])) c⟩
    ·rename_i d q u
     have⟨n,p,s,c⟩:=y _ _ h b k cs;refine⟨n,p,s,.head (SI ?_) c⟩;have:({ b.at a (.inRegion ops (i::(l++rest))::k) with defers:=d::a.defers }:LW).finish LI =
       b.at ({ a with defers:=d::a.defers }.put o.dst LI) (.inRegion ops (l++rest)::k):=by
      have:=Ow b { a with defers:=d::a.defers } ops i (l++rest) k LI;rw[ho] at this;exact this
     rw[Mk,A];simp only[Nq,ME,u,GStep.bare_after];exact congrArg (λH=>UO { frame:=H,callers:=cs,status:=.running,dying:=Lw } q) this
    ·rename_i f t q u
     have⟨e,p,H,B,g,_,x⟩:=h (b.at a (.inRegion ops (i::(l++rest))::k)::cs);have j:step Q (lone (b.at a (.inRegion ops (i::(l++rest))::k)) cs w) =
       .next (lone (MO Q f t .normal) (b.at a (.inRegion ops (i::(l++rest))::k)::cs) q) :=
      SI (by rw[A];simp[Nq,u,Frame.at])
     cases e with
     | returned v=>
      have⟨n,w₃,s,c⟩:=y _ _ B b k cs;refine⟨n,w₃,s,.head j (Steps.trans g (.head ?_ c))⟩;rw[<- r];exact Vl x
     | panicked G=>exact B.elim
     | outgrown=>exact absurd B qJ
    ·rename_i F t q u
     have⟨v,p,B,g⟩:=h (b.at a (.inRegion ops (i::(l++rest))::k)) cs;have j:step Q (lone (b.at a (.inRegion ops (i::(l++rest))::k)) cs w) =
       .next (lone (Frame.ofRow Q F t .normal) (b.at a (.inRegion ops (i::(l++rest))::k)::cs) q) :=
      SI (by rw[A];simp[Nq,u,Frame.at])
     have⟨n,w₃,s,c⟩:=y _ _ B b k cs;refine⟨n,w₃,s,.head j (Steps.trans ?_ c)⟩;rw[<- r];exact g
    ·exact h.elim
    ·exact h.elim
   ·simp only[C,if_false,Mx] at h;have⟨n,q,s,c⟩:=y _ _ h b k cs;have hs:=step_op_skip (P:=Q) (b:=b) (a:=a) (k:=k) (cs:=cs) (w:=w) (ops:=ops) (i:=i) (rest:=l++rest) (by simp[ho];simpa using C);simp only[ho,RK] at hs;exact⟨n,q,s,.head hs c⟩
def Bv{Q:LV}{o:NB}{a:ON}{w:Lt}{K i:ON->Lt->Prop}{R:SS->ON->Lt->Prop}(c:∀a w,K a w->i a w)(h:o.wp Q a w K R):o.wp Q a w i R:=by
 unfold Oper.wp at h ⊢;unfold Oper.upon at h ⊢;generalize (OZ a.eval o).run Q w=r at h ⊢;cases r with
 | ok x j=>
  cases x with
  | value v=>exact c _ _ h
  | skip=>exact c _ _ h
  | defer d=>exact c _ _ h
  | enter f g=>exact Calls.mono h λe w q=>by cases e<;>first | exact c _ _ q | exact q
  | row r g=>exact Rows.mono h λv w q=>c _ _ q
  | _=>exact h.elim
 | halt x j=>cases x<;>first | exact h | exact h.elim
def lA{Q:LV}{c:LM NB}{R:SS->ON->Lt->Prop}:∀(l:Lx Ly) (d:Lx NB) (a:ON) (w:Lt),l.map (λi=>c[i]?)=d.map Lq->Ua Q c R d a w->WC Q c R l a w
 | [],[],a,w,_,h=>h
 | [],_::_,_,_,e,_=>by simp at e
 | _::_,[],_,_,e,_=>by simp at e
 | i::l,o::d,a,w,e,h=>by
  simp only[PS,OT] at e;simp only[WC,e.1];simp only[Ua] at h;have g:∀a w,Ua Q c R d a w->WC Q c R l a w:=λa w=>lA l d a w e.2;split
  ·rename_i j
   rw[if_pos j] at h;exact h.imp (λh=>Bv g h) id
  ·rename_i j
   rw[if_neg j] at h;exact g _ _ h
section
variable[JunkSet]{Q P:LV}{f:Nh}{Post:LA->Lt->Prop}{W:Lt}
variable{b:LW}{a:ON}{k:Lx PW}{cs:Lx LW}{wq:Lt}
def EL.one(D:Two Q P){g c:LW}{d:Lx LW}{fn:Nh}(j:EL Q P f Post W (G c d) wq)(h:∀w,step Q (lone g cs w)=.next (lone c d w))(e:Bot f d)(i:c.fn=fn)(hs:Q.funcs[fn]?=P.funcs[fn]?):EL Q P f Post W (G g cs) wq :=
 EL.of_runs D λT=>⟨c,d,wq.tp T,.one (h _),e,by rw[i];exact hs,j.tape T⟩
section
variable(D:Two Q P)(hb:Bot f cs)(hs:Q.funcs[b.fn]?=P.funcs[b.fn]?)
include D hb hs
theorem EL.seq{x y:Og}(h:EL Q P f Post W (G (b.at a (.code x::.code y::k)) cs) wq):EL Q P f Post W (G (b.at a (.code (.seq x y)::k)) cs) wq:=EL.one D h (λ_=>step_seq) hb (fn:=b.fn) rfl hs
theorem EL.sp{x y:Og}(h:∀T,x.wp Q (Jw Q P f Post W b (.code y::k) cs) a (wq.tp T)):EL Q P f Post W (G (b.at a (.code (.seq x y)::k)) cs) wq:=EL.seq D hb hs (EL.piece D hb hs h)
theorem EL.skip(h:EL Q P f Post W (G (b.at a k) cs) wq):EL Q P f Post W (G (b.at a (.code .skip::k)) cs) wq:=EL.one D h (λ_=>step_skip) hb (fn:=b.fn) rfl hs
theorem EL.cond{c:MS}{x y:Og}(t:MC)(d:a.eval c=.bool t)(h:EL Q P f Post W (G (b.at a (.code (if t then x else y)::k)) cs) wq):EL Q P f Post W (G (b.at a (.code (.cond c x y)::k)) cs) wq:=EL.one D h (λ_=>step_cond d) hb (fn:=b.fn) rfl hs
theorem EL.block{id:Ly}{c:Og}(h:EL Q P f Post W (G (b.at a (.code c::.inBlock id::k)) cs) wq):EL Q P f Post W (G (b.at a (.code (.block id c)::k)) cs) wq:=EL.one D h (λ_=>step_block) hb (fn:=b.fn) rfl hs
theorem EL.inBlock{id:Ly}(h:EL Q P f Post W (G (b.at a k) cs) wq):EL Q P f Post W (G (b.at a (.inBlock id::k)) cs) wq:=EL.one D h (λ_=>step_inBlock) hb (fn:=b.fn) rfl hs
theorem EL.loop{c:Og}(h:EL Q P f Post W (G (b.at a (.code c::.inLoop c::k)) cs) wq):EL Q P f Post W (G (b.at a (.code (.loop c)::k)) cs) wq:=EL.one D h (λ_=>step_loop) hb (fn:=b.fn) rfl hs
theorem EL.inLoop{c:Og}(h:EL Q P f Post W (G (b.at a (.code c::.inLoop c::k)) cs) wq):EL Q P f Post W (G (b.at a (.inLoop c::k)) cs) wq:=EL.one D h (λ_=>step_inLoop) hb (fn:=b.fn) rfl hs
theorem EL.exit{id:Ly}{c:Lx PW}(d:Rz id k=Lq c)(h:EL Q P f Post W (G (b.at a c) cs) wq):EL Q P f Post W (G (b.at a (.code (.exit id)::k)) cs) wq:=EL.one D h (λ_=>step_exit d) hb (fn:=b.fn) rfl hs
theorem EL.retS(h:EL Q P f Post W (G { b.at a (.code .ret::k) with mode:=.returning } cs) wq):EL Q P f Post W (G (b.at a (.code .ret::k)) cs) wq:=EL.one D h (λ_=>step_ret) hb (fn:=b.fn) rfl hs
theorem EL.region{id:Ly}{c:LM NB}(h:EL Q P f Post W (G (b.at a (.inRegion c (Mr c.size)::k)) cs) wq):EL Q P f Post W (G (b.at a (.code (.region id c LH)::k)) cs) wq:=EL.one D h (λ_=>step_region) hb (fn:=b.fn) rfl hs
theorem EL.region_end{c:LM NB}(h:EL Q P f Post W (G (b.at a k) cs) wq):EL Q P f Post W (G (b.at a (.inRegion c []::k)) cs) wq:=EL.one D h (λ_=>step_region_end) hb (fn:=b.fn) rfl hs
theorem EL.list{c:LM NB}(l:Lx Ly)(e:Lx NB){rest:Lx Ly}(n:l.map (λi=>c[i]?)=e.map Lq)(h:∀T,Ua Q c (vu λj d=>EL Q P f Post W (G (b.at j (.inRegion c rest::k)) cs) d) e a (wq.tp T)) :EL Q P f Post W (G (b.at a (.inRegion c (l++rest)::k)) cs) wq :=
 EL.of_runs D λT=>by
  have⟨j,d,o,g⟩:=Ac rest l a (wq.tp T) (lA l e a _ n (h T)) b k cs;exact⟨_,cs,d,g,hb,hs,o⟩
theorem EL.enter{c:LM NB}{i:Ly}{rest:Lx Ly}{o:NB}{fk:Nh}{args:LM LA}(j:c[i]?=Lq o)(g:MA o (Od c a.tmps)=LG)(d:∀T,(OZ a.eval o).run Q (wq.tp T)=.ok (.enter fk args) (wq.tp T))(e:Q.funcs[fk]?=P.funcs[fk]?)(h:EL Q P f Post W (G (MO Q fk args .normal) (b.at a (.inRegion c (i::rest)::k)::cs)) wq):EL Q P f Post W (G (b.at a (.inRegion c (i::rest)::k)) cs) wq :=
 EL.of_runs D λT=>by
  have n:=stepG_op (P:=Q) (b:=b) (k:=k) (cs:=cs) (w:=wq.tp T) (rest:=rest) j g;exact⟨_,_,wq.tp T,.one (SI (by rw[n];simp[Nq,d,Frame.at])),hb.cons,e,h.tape T⟩
end
def EL.back(D:Two Q P){d c:LW}{v:LA}(hb:Bot f cs)(hs:Q.funcs[c.fn]?=P.funcs[c.fn]?)(e:∀T,d.leaving Q (wq.tp T) (.returned v))(h:EL Q P f Post W (G (c.finish v) cs) wq):EL Q P f Post W (G d (c::cs)) wq :=
 EL.of_runs D λT=>⟨_,cs,wq.tp T,.one (Vl (e T)),hb,by
  have:(c.finish v).fn=c.fn:=by unfold Un;split<;>rfl
  rw[this];exact hs,h.tape T⟩
def EC(Q P:LV)(f:Nh)(Post:LA->Lt->Prop)(W:Lt)(e:Nh)(d:LM LA)(wq:Lt)(R:LA->Lt->Prop):Prop :=
 ∀c cs,Bot f cs->Q.funcs[c.fn]?=P.funcs[c.fn]?->(∀v u,R v u->EL Q P f Post W (G (c.finish v) cs) u)->EL Q P f Post W (G (MO Q e d .normal) (c::cs)) wq
def EC.of_body(D:Two Q P){j:Nh}{i:Func}{o:Og}{d:LM LA}{R:LA->Lt->Prop}(p:Q.funcs[j]?=Lq i)(t:P.funcs[j]?=Lq i)(n:i.body=Lq o)(h:∀cs,Bot f cs->(∀a g u v,a.defers=[]->(∀T,(Om i a.tmps).run Q (u.tp T)=.ok v (u.tp T))->R v u->EL Q P f Post W (G { (base j).at a g with mode:=.returning } cs) u) ->EL Q P f Post W (G ((base j).at ⟨d++MR (i.ntmps - d.size) LI,[]⟩ [.code o]) cs) wq):EC Q P f Post W j d wq R:=by
 intro c cs hb hs q;have e:MO Q j d .normal=(base j).at ⟨d++MR (i.ntmps - d.size) LI,[]⟩ [.code o]:=by
  simp[MO,p,n,Frame.at,base]
 rw[e];refine h (c::cs) hb.cons λa g u v r l s=>EL.back D hb hs (λT=>⟨rfl,r,rfl,i,p,l T⟩) (q v u s)
end
end
section
open Go.Conc Go.ConcN Go.Sim
section
variable[J:JunkSet]{Q P:LV}{f:Nh}{Post:LA->Lt->Prop}{W:Lt}
structure AtK(Q P:LV)[JunkSet](W:Lt)(Z:Ren)(tq tp:LM LA)(c c':LW)(pre pre':Lx LW)(wq w:Lt)(cl:Ly->Cl):Prop where
 wr:WR Q W.heap.size Z wq w
 ln:W.heap.size<=Z.length
 gl:Gl P Z
 tm:AsR Z tq tp
 top:aF Q P Z c c'
 rest:LsR (aF Q P Z) pre pre'
 own:ie cl Z
 c0:∀b,w.heap.size<=b->cl b=.mine 0
 kp:fQ W.heap.size W.heap.size W Z w
 om:∀b,b<W.heap.size->cl b=.mine 0
def EL.enterK(D:Two Q P){b:LW}{a:ON}{k:Lx PW}{cs:Lx LW}{s:Lt}(hb:Bot f cs)(hs:Q.funcs[b.fn]?=P.funcs[b.fn]?){j:LM NB}{i:Ly}{rest:Lx Ly}{o:NB}{q:Nh}{fq z:Func}{c0:Og}{l:LM LA}(ho:j[i]?=Lq o)(hw:MA o (Od j a.tmps)=LG)(L:∀T,(OZ a.eval o).run Q (s.tp T)=.ok (.enter q l) (s.tp T))(N:Q.funcs[q]?≠P.funcs[q]?)(b9:Q.funcs[q]?=Lq fq)(c3:P.funcs[q]?=Lq z)(hn:fq.ntmps=z.ntmps)(c9:z.body=Lq c0)(hK:∀Z tp c' pre p w I,cs=pre++[ax f]->AtK Q P W Z (l++MR (z.ntmps - l.size) LI) tp (b.at a (.inRegion j (i::rest)::k)) c' pre p s w I->E P Post I (G ((base q).at ⟨tp,[]⟩ [.code c0]) (c'::p)) w) :EL Q P f Post W (G (b.at a (.inRegion j (i::rest)::k)) cs) s:=by
 intro Z g' w I h b7 hc hk hm
 let g1:LD:=G (MO Q q l .normal) (b.at a (.inRegion j (i::rest)::k)::cs)
 let F:LD->Lt->Prop:=λg _=>g.frame.fn=q/\g.callers≠[]
 have A:∀T,∃C,Nb Q LG (G (b.at a (.inRegion j (i::rest)::k)) cs) (s.tp T) LG=.go g1 (s.tp T) C:=λT=>by
  have U:=stepG_op (P:=Q) (b:=b) (k:=k) (cs:=cs) (w:=s.tp T) (rest:=rest) ho hw;refine⟨?_,?_⟩;rotate_left
  ·refine Eq.trans (b:=Nq Q LG (b.at a (.inRegion j (i::rest)::k)) cs Lw (OZ a.eval o) (s.tp T)) U ?_;simp only[Nq,ME,L];rfl
 have R:¬ F (G (b.at a (.inRegion j (i::rest)::k)) cs) s:=λ⟨h1,_⟩=>N (by have e:b.fn=q:=h1;rw[<- e];exact hs);have ht:LT Q F (G (b.at a (.inRegion j (i::rest)::k)) cs) s:=.step R (λT=>by
   have⟨C,e⟩:=A T;exact⟨g1,_,C,e,rfl,rfl⟩) λT g2 u2 l6 e2=>by
   have⟨C,e⟩:=A T;rw[e] at e2;cases e2;exact .done ⟨rfl,by show(_::_:Lx LW)≠[];simp⟩
 have v:Sub Q P W.heap.size F f [] Z (G (b.at a (.inRegion j (i::rest)::k)) cs) s g' w:=⟨h.ln,h.wr,h.gl,ht,h.stack,h.rel⟩;refine E.step (il v) λd=>?_;have⟨O,g2,g7,k9,Y,C,h1,h2,h3,h4,_,n⟩:=(um v d).stepK D.H D.hrf kq R LG (λg u U=>U.2);obtain⟨_,T,l7,X⟩:=h2;have⟨l8,e0⟩:=A T;dsimp only at X;rw[e0] at X;cases X;have M:ie I O:=b7.step (w:=w.at d) h3 hc;have c8:∀b,Y.heap.size<=b->I b=.mine 0:=λb hb=>hc b (LN h3.size hb);have b8:fQ W.heap.size W.heap.size W O Y:=fQ.step (w:=w.at d) (hk.at d) h3;rcases n with n | ⟨V,kd,a1,r,c,c',pre,p,n,S,rfl⟩
 ·exfalso;have⟨gv,U,_⟩:=n.rel;have⟨gf,k1,k2⟩:=U.frame.same;exact N (by
   have e:g1.frame.fn=q:=rfl;rw[e] at k1 k2;rw[k1,k2])
 ·refine⟨_,Y,C,h1,h3.size,λe he=>iw M n.wr (h4 e he),?_⟩;have B:MO Q q l .normal=MO Q V a1 kd:=congrArg (·.frame) S;have t:b.at a (.inRegion j (i::rest)::k)::cs=c::(pre++[ax f]):=congrArg (·.callers) S;have X:q=V:=congrArg (·.fn) B;subst X;have e2:CallKind.normal=kd:=congrArg (·.kind) B;subst e2;have e3:l++MR (z.ntmps - l.size) LI=a1++MR (z.ntmps - a1.size) LI:=by
   have:=congrArg (·.tmps) B;simp only[MO,b9,Ng,LQ,hn] at this;exact this
  simp only[OT] at t;obtain⟨rfl,t⟩:=t;have e4:MO P q r .normal=(base q).at ⟨r++MR (z.ntmps - r.size) LI,[]⟩ [.code c0]:=enter_at _ c3 c9;have e5:r.size=a1.size:=n.args.1.symm;have:=hK O (r++MR (z.ntmps - r.size) LI) c' pre p Y I t ⟨⟨n.wr.len,n.wr.nodup,n.wr.lt,n.wr.obj,n.wr.low,n.wr.env,n.wr.below,n.wr.gar⟩,n.len,n.gl,?_,n.top,n.rest,M,c8,b8,hm⟩
  ·rw[e4,List.append_nil];exact this
  ·rw[e3,e5];refine AsR.append n.args ⟨rfl,λi x y hx hy=>?_⟩;rw[hx] at hy;cases hy;have:x=LI:=by
    have:=Lz.1 hx;obtain⟨hl,he⟩:=this;simp at he;exact he.symm
   rw[this];exact gz _
def EL.resume{O Z:Ren}{c i:LW}{pre a:Lx LW}{o w:Lt}{e:Ly->Cl}{v h:LA}(q:EL Q P f Post W (G (c.finish v) (pre++[ax f])) o)(l:Q.inits.idxOf? f=Lw)(n:∃g,Q.funcs[f]?=Lq g/\P.funcs[f]?=Lq g)(d:Le Z O)(x:aF Q P Z c i)(p:LsR (aF Q P Z) pre a)(u:VR O v h)(t:WR Q W.heap.size O o w)(j:W.heap.size<=O.length)(B:Gl P Z)(y:ie e O)(A:∀b,w.heap.size<=b->e b=.mine 0)(z:fQ W.heap.size W.heap.size W O w)(hm:∀b,b<W.heap.size->e b=.mine 0):E P Post e (G (i.finish h) a) w:=by
 refine q O (G (i.finish h) a) w e ⟨t,j,B.mono d,⟨pre,rfl⟩,G (i.finish h) (a++[ax f]),⟨(x.mono d).finish u,?_,rfl,rfl,rfl,rfl⟩,?_⟩ y A z hm
 ·have D:LsR (aF Q P O) pre a:=p.imp λ_ _ k=>k.mono d;have C:aF Q P O (ax f) (ax f):=vh l n;show LsR (aF Q P O) (pre++[ax f]) (a++[ax f]);clear q p;induction D with
  | nil=>exact .cons C .nil
  | cons s _ r=>exact .cons s r
 ·simp[swap,G]
end
end
section
open Go.Conc Go.ConcN Go.Sim
def Closed(ops:LM NB)(listed:LM MC):Prop:=∀(i:Ly) (o:NB),ops[i]?=Lq o->listed[i]?.getD LH=LG->∀e∈o.after,MW .any e=LG->listed[e.on]?.getD LH=LG
def ew(o:NB):NB:={ dst:=Lw,op:=.move (.const (.bool LG)),type:=o.type,pos:=o.pos,after:=o.after,guard:=Lw }
def chainB(ops:LM NB)(n:Ly):MC :=
 (Mr ops.size).all (λj=>match ops[j]? with
  | some o=>o.after.all (λe=>!MW .any e || decide (e.on<j)) && (decide (j<=n) || o.after.any (λe=>MW .any e && e.on+1 == j)) && (decide (n<=j) || (match o.guard with | some (g,_)=>decide (g<j) | none=>LG))
  | none=>LH) &&
 (Mr n).all (λi=>(Mr (n+1)).any λj=>decide (i<j) && match ops[j]? with | some o=>o.after.any (λe=>MW .any e && e.on == i) | none=>LH)
section
variable{ops:LM NB}{n:Ly}(hB:chainB ops n=LG)
include hB
theorem rI{j:Ly}{o:NB}(l:ops[j]?=Lq o):(∀e∈o.after,MW .any e=LG->e.on<j)/\(n<j->∃e∈o.after,MW .any e=LG/\e.on+1=j)/\(j<n->∀g b,o.guard=Lq (g,b)->g<j):=by
 unfold chainB at hB;simp only[Mg,MD,Nj] at hB;have:=hB.1 j (Lz.1 l).1;rw[l] at this;simp only[NG,OH,OM,decide_eq_true_eq,Mg] at this;obtain⟨⟨s,r⟩,q⟩:=this;refine⟨λe i d=>?_,λh=>?_,λh g b p=>?_⟩
 ·rcases s e i with h | h
  ·rw[d] at h;cases h
  ·exact h
 ·rcases r with c | c
  ·omega
  ·have⟨e,i,d⟩:=VG.1 c;simp only[Mg,beq_iff_eq] at d;exact⟨e,i,d⟩
 ·rcases q with c | c
  ·omega
  ·rw[p] at c;simpa using c
theorem vp(y:n<ops.size){listed:LM MC}(x:Closed ops listed)(v:∀o,ops[n]?=Lq o->∀e∈o.after,MW .any e=LG->listed[e.on]?.getD LH=LG):∀i,i<n->listed[i]?.getD LH=LG:=by
 have c:=hB;unfold chainB at c;simp only[Mg,MD (l:=Mr n),Nj] at c;have r:∀d i,i<n->n - i<=d->listed[i]?.getD LH=LG:=by
  intro d;induction d with
  | zero=>intro i q h;omega
  | succ d u=>
   intro i q h;have:=c.2 i q;simp only[List.any_eq_true,Nj,Mg,decide_eq_true_eq] at this;obtain⟨j,z,w,g⟩:=this;cases ho:ops[j]? with
   | none=>rw[ho] at g;cases g
   | some o=>
    rw[ho] at g;simp only at g;have⟨e,t,p⟩:=VG.1 g;simp only[Mg,beq_iff_eq] at p;by_cases s:j=n
    ·subst s;rw[<- p.2];exact v o ho e t p.1
    ·have:=x j o ho (u j (by omega) (by omega)) e t p.1;rw[p.2] at this;exact this
 exact λi q=>r (n - i) i q (LC _)
theorem im{m:Ly}(hm:m<ops.size){listed:LM MC}(j:listed.size=ops.size)(c:listed[m]?.getD LH=LH):Mi .any ops listed≠[]:=by
 intro l;have d:∀i,i<ops.size->listed[i]?.getD LH=LG:=by
  intro i;induction i using Tv with
  | _ i h=>
   intro g;refine cS l j (Ml g) ?_;simp only[NG,OH,OM];intro e o;cases hb:MW .any e with
   | false=>exact .inl rfl
   | true=>
    right;have:=(rI hB (Ml g)).1 e o hb;rw[No];exact h e.on this (by omega)
 rw[d m hm] at c;cases c
theorem oT{listed:LM MC}{i:Ly}(g:i∈Mi .any ops listed)(c:n<i):listed[i - 1]?.getD LH=LG:=by
 obtain⟨p,-⟩:=bT g;have d:=Ml p;have⟨e,l,o,j⟩:=(rI hB d).2.1 c;have:=bS g d;simp only[NG,OH,OM] at this;rcases this e l with h | h
 ·rw[o] at h;cases h
 ·rw[<- No,show i - 1=e.on by omega];exact h
omit hB in
theorem Aq{fuel t:Ly}{listed:LM MC}(c:Mi .any ops listed≠[]):∃i g,i∈Mi .any ops listed/\MV .any ops (fuel+1) t listed []=i::MV .any ops fuel g (listed.setIfInBounds i LG) []:=by
 simp only[MV];change ∃i g,_/\(match (Mi .any ops listed)[t % (Mi .any ops listed).length]? with
  | some i=>MV .any ops fuel (t / (Mi .any ops listed).length) (listed.setIfInBounds i LG) [i]
  | none=>[].reverse)=_
 cases hi:(Mi .any ops listed)[t % (Mi .any ops listed).length]? with
 | none=>
  exfalso;cases hr:Mi .any ops listed with
  | nil=>exact c hr
  | cons x e=>
   rw[hr] at hi;have d:t % (x::e).length<(x::e).length:=Nat.mod_lt _ (by simp);simp at hi;simp at d;omega
 | some i=>exact⟨i,_,Mh hi,by simp only[];rw[linearise_go_acc,Ur];rfl⟩
theorem En:∀(fuel t m:Ly) (listed:LM MC),n<=m->m<=ops.size->listed.size=ops.size->(∀k,k<m->listed[k]?.getD LH=LG)->(∀k,m<=k->listed[k]?.getD LH=LH)->unl listed ops.size<=fuel ->MV .any ops fuel t listed []=QS m (ops.size - m):=by
 intro fuel;induction fuel with
 | zero=>
  intro t m listed p q e o j B;by_cases h:m<ops.size
  ·exfalso;cases g:Mi .any ops listed with
   | nil=>exact im hB h e (j m (LC _)) g
   | cons i l=>
    have⟨d,c⟩:=bT (md:=.any) (ops:=ops) (listed:=listed) (i:=i) (by rw[g];simp);have:=ik (n:=ops.size) d e c;omega
  ·rw[show ops.size - m=0 by omega];rfl
 | succ fuel y=>
  intro t m listed p q e o j B;by_cases h:m<ops.size
  ·have⟨i,w,s,C⟩:=Aq (fuel:=fuel) (t:=t) (im hB h e (j m (LC _)));have r:i=m:=by
    have d:=mV s;have c:¬ i<m:=λh=>by rw[o i h] at d;cases d
    refine MX λD=>?_;have v:=oT hB s (by omega);rw[j (i - 1) (by omega)] at v;cases v
   subst r;have⟨d,c⟩:=bT s;have D:=ik (n:=ops.size) d e c;rw[C,y w (i+1) (listed.setIfInBounds i LG) (by omega) (by omega) (by simpa using e) (λk A=>by
    rw[lp _ _ _ (by omega)];split
    ·rfl
    ·exact o k (by omega)) (λk A=>by rw[lp _ _ _ (by omega),if_neg (by omega)];exact j k (by omega)) (by omega),show ops.size - i=(ops.size - (i+1))+1 by omega,List.range'_succ]
  ·have g:Mi .any ops listed=[]:=by
    cases g:Mi .any ops listed with
    | nil=>rfl
    | cons x F=>
     exfalso;have u:x∈Mi .any ops listed:=by rw[g];simp
     have d:=(bT u).1;have c:=mV u;rw[o x (by omega)] at c;cases c
   rw[show ops.size - m=0 by omega];simp only[MV];change (match (Mi .any ops listed)[t % (Mi .any ops listed).length]? with
    | some z=>MV .any ops fuel _ _ [z]
    | none=>[].reverse)=[]
   rw[g];rfl
theorem BH(u:n<ops.size):∀(fuel t:Ly) (listed:LM MC),listed.size=ops.size->Closed ops listed->(∀k,n<=k->listed[k]?.getD LH=LH)->unl listed ops.size<=fuel ->∃L,MV .any ops fuel t listed []=L++QS n (ops.size - n)/\∀i∈L,i<n:=by
 intro fuel;induction fuel with
 | zero=>
  intro t listed d A g F;exfalso;cases hr:Mi .any ops listed with
  | nil=>exact im hB u d (g n (LC _)) hr
  | cons i l=>
   have⟨C,B⟩:=bT (md:=.any) (ops:=ops) (listed:=listed) (i:=i) (by rw[hr];simp);have:=ik (n:=ops.size) C d B;omega
 | succ fuel H=>
  intro t listed d A g F;rcases VU (∀k,k<n->listed[k]?.getD LH=LG) with c | c
  ·exact⟨[],En hB (fuel+1) t n listed (LC _) (by omega) d c g F,by simp⟩
  ·have⟨i,G,z,p⟩:=Aq (fuel:=fuel) (t:=t) (im hB u d (g n (LC _)));have⟨C,B⟩:=bT z;have M:=ik (n:=ops.size) C d B;have D:∀o,ops[i]?=Lq o->∀e∈o.after,MW .any e=LG->listed[e.on]?.getD LH=LG:=λo r e p s=>by
    have:=bS z r;simp only[NG,OH,OM] at this;rcases this e p with h | h
    ·rw[s] at h;cases h
    ·rw[<- No];exact h
   have y:i<n:=by
    refine MX λh=>?_;by_cases e:i=n
    ·subst e;exact c (vp hB u A D)
    ·have:=oT hB z (by omega);rw[g (i - 1) (by omega)] at this;cases this
   have⟨L,I,v⟩:=H G (listed.setIfInBounds i LG) (by simpa using d) (λj o r x e p s=>by
     rw[lp _ _ _ (by omega)] at x ⊢;split at x
     ·rename_i w
      subst w;split
      ·rfl
      ·exact D o r e p s
     ·have:=A j o r x e p s;split
      ·rfl
      ·exact this) (λk q=>by rw[lp _ _ _ (by omega),if_neg (by omega)];exact g k q) (by omega)
   exact⟨i::L,by rw[p,I];rfl,λk q=>by
    rcases MK.1 q with rfl | q
    ·exact y
    ·exact v k q⟩
end
def cK(ops:LM NB)(n:Ly):LM NB:=(ops.toList.take n++(ops.toList.drop n).map ew).toArray
def mm(ops:LM NB)(n i:Ly):(cK ops n)[i]?=(ops[i]?).map λo=>if i<n then o else ew o:=by
 unfold cK;rw[SU,<- Qu];by_cases h:i<n
 ·by_cases c:i<ops.toList.length
  ·rw[Mv (by simp at c ⊢;omega),Oi h];cases ops.toList[i]?<;>simp[h]
  ·rw[Nc (by simp at c ⊢;omega),Nc (by omega)];rfl
 ·by_cases c:n<=ops.toList.length
  ·rw[Nz (by simp at c ⊢;omega),NO,QY,show n+(i - (ops.toList.take n).length)=i by simp at c ⊢;omega];cases ops.toList[i]?<;>simp[h]
  ·rw[Nc (by simp at c ⊢;omega),Nc (by omega)];rfl
def pf(ops:LM NB)(n:Ly):(cK ops n).size=ops.size:=by
 simp[cK];omega
def zn(ops:LM NB)(n:Ly)(e:PL):∀(c t:Ly) (listed:LM MC) (d:Lx Ly),MV e (cK ops n) c t listed d=MV e ops c t listed d:=by
 intro c;have h:∀listed,Mi e (cK ops n) listed=Mi e ops listed:=λlisted=>by
  unfold Mi;rw[pf]
  congr 1
  funext i
  rw[mm];cases ops[i]? with
  | none=>rfl
  | some o=>simp only[Ng];split<;>rfl
 induction c with
 | zero=>intro t listed d;rfl
 | succ c g=>
  intro t listed d;simp only[MV];change (match (Mi e (cK ops n) listed)[t % (Mi e (cK ops n) listed).length]? with
   | some i=>MV e (cK ops n) c (t / (Mi e (cK ops n) listed).length) (listed.setIfInBounds i LG) (i::d)
   | none=>d.reverse)=(match (Mi e ops listed)[t % (Mi e ops listed).length]? with
   | some i=>MV e ops c (t / (Mi e ops listed).length) (listed.setIfInBounds i LG) (i::d)
   | none=>d.reverse)
  rw[h];cases(Mi e ops listed)[t % (Mi e ops listed).length]? with
  | none=>rfl
  | some i=>exact g _ _ _
def wL{Q:LV}{ops:LM NB}{n:Ly}{K:ON->Lt->Prop}(hB:chainB ops n=LG)(R:Lx Ly)(s:∀i∈R,n<=i/\i<ops.size):∀(L:Lx Ly) (a:ON) (w:Lt),(∀i∈L,i<n)->WC Q (cK ops n) (vu K) (L++R) a w->WC Q ops (vu K) L a w:=by
 have d:∀(R:Lx Ly),(∀i∈R,n<=i/\i<ops.size)->∀(a:ON) (w:Lt),WC Q (cK ops n) (vu K) R a w->WC Q ops (vu K) [] a w:=by
  intro R;induction R with
  | nil=>exact λ_ _ _ h=>h
  | cons i R t=>
   intro s a w h;rw[Xa] at h;have⟨B,z⟩:=s i (by simp);unfold wpOp at h;rw[mm,Ml z] at h;simp only[Ng,if_neg (show ¬ i<n by omega)] at h;have u:MA (ew ops[i]) (Od (cK ops n) a.tmps)=LG:=by simp[MA,ew]
   rw[if_pos u] at h;rcases h with h | ⟨_,l⟩
   ·unfold Oper.wp at h;have:(OZ a.eval (ew ops[i])).run Q w=.ok (.value (.bool LG)) w:=rfl;rw[this] at h;simp only[Oper.upon,ew] at h;exact t (λj r=>s j (by simp[r])) _ _ h
   ·exact absurd l qJ
 intro L;induction L with
 | nil=>exact λa w _ h=>d R s a w h
 | cons i L t=>
  intro a w q h;rw[Mk,Xa] at h;rw[Xa];have v:=q i (by simp);have e:∀j,j<n->(cK ops n)[j]?=ops[j]?:=λj r=>by rw[mm];cases ops[j]?<;>simp[r]
  have c:=wpOp_mono (λA x y=>t A x (λj r=>q j (by simp[r])) y) h;unfold wpOp at c ⊢;rw[e i v] at c;cases ho:ops[i]? with
  | none=>rw[ho] at c;exact c
  | some o=>
   rw[ho] at c;dsimp only at c ⊢;have u:MA o (Od (cK ops n) a.tmps)=MA o (Od ops a.tmps):=by
    unfold MA;cases hg:o.guard with
    | none=>rfl
    | some p=>
     obtain⟨g,b⟩:=p;have:=(rI hB ho).2.2 v g b hg;simp only[Od,e g (by omega)]
   rw[u] at c;exact c
section
variable[JunkSet]{Q P:LV}{f:Nh}{Post:LA->Lt->Prop}{W:Lt}
variable{b:LW}{a:ON}{k:Lx PW}{cs:Lx LW}{wq:Lt}
def EL.region_chain(D:Two Q P)(x:Bot f cs)(w:Q.funcs[b.fn]?=P.funcs[b.fn]?){id:Ly}{ops:LM NB}(n:Ly)(c:Lx Ly)(hm:Q.follows .mixedOrders=LG)(hB:chainB ops n=LG)(r:decide (n<ops.size)=LG)(d:decide (c=QS n (ops.size - n))=LG)(h:∀T,wpAny Q .any (cK ops n) (vu λt l=>EL Q P f Post W (G (b.at t (.inRegion ops c::k)) cs) l) (cK ops n).size (MR (cK ops n).size LH) a { wq.tp T with drawn:=wq.drawn+1 }) :EL Q P f Post W (G (b.at a (.code (.region id ops LG)::k)) cs) wq:=by
 refine EL.of_runs D λT=>?_;have r:=of_decide_eq_true r;have d:=of_decide_eq_true d;have p:=pf ops n;have g:∀k:Ly,(MR ops.size LH)[k]?.getD LH=LH:=λk=>by
  simp only[Array.getElem?_replicate];split<;>rfl
 have⟨L,u,s⟩:=BH hB r ops.size ((wq.tp T).tape (wq.tp T).drawn (.order b.fn id)) (MR ops.size LH) (by simp) (λi o _ j=>by rw[g] at j;cases j) (λk _=>g k) (by
   unfold unl;refine LN (Oq _ _) (by simp))
 have v:=wpAny_sound _ ((wq.tp T).tape (wq.tp T).drawn (.order b.fn id)) _ _ _ (h T);rw[zn,p,u,<- d] at v;have z:=wL hB c (λi j=>by
  rw[d] at j;have:=List.mem_range'.1 j;omega) L _ _ s v
 have⟨t,l,y,q⟩:=Ac c L a _ z b k cs;refine⟨b.at t (.inRegion ops c::k),cs,l,.head (step_region_draw) ?_,x,w,y⟩;have e:Si (Q.follows .mixedOrders) ops ((wq.tp T).tape (wq.tp T).drawn (.order b.fn id))=L++c:=by
  simp only[Si,hm,XG,if_true];show MV .any ops ops.size _ _ []=_;rw[u,d]
 rw[e];exact q
end
end
section
open Go.Conc Go.ConcN Go.Sim
section
variable[JunkSet]
def qQ(Z:Ren)(y:LA):∃x,VR Z x y/\∀k n,y=.int k n->x=y:=by
 cases y with
 | bool b=>exact⟨_,.bool b,λk n e=>by cases e⟩
 | int k n=>exact⟨_,.int k n,λ_ _ _=>rfl⟩
 | string s=>exact⟨_,.string s,λk n e=>by cases e⟩
 | tuple a=>
  have h:∀i:Fin a.size,∃x,VR Z x a[i]:=λi=>let ⟨x,h,_⟩:=qQ Z a[i];⟨x,h⟩;refine⟨.tuple (VH λi=>ND (h i)),.tuple (by simp) λi x y g d=>?_,λk n e=>by cases e⟩;have⟨p,o⟩:=Lz.1 g;have⟨j,l⟩:=Lz.1 d;rw[<- o,<- l,Qs];exact Nk (h ⟨i,j⟩)
 | agg a=>
  have h:∀i:Fin a.size,∃x,VR Z x a[i]:=λi=>let ⟨x,h,_⟩:=qQ Z a[i];⟨x,h⟩;refine⟨.agg (VH λi=>ND (h i)),.agg (by simp) λi x y g d=>?_,λk n e=>by cases e⟩;have⟨p,o⟩:=Lz.1 g;have⟨j,l⟩:=Lz.1 d;rw[<- o,<- l,Qs];exact Nk (h ⟨i,j⟩)
 | pointer a=>
  cases a with
  | none=>exact⟨_,.ptrNil,λk n e=>by cases e⟩
  | some a=>exact⟨_,.wild _ rfl,λk n e=>by cases e⟩
 | slice a n c=>
  cases a with
  | none=>exact⟨_,.sliceNil n c,λk n e=>by cases e⟩
  | some a=>exact⟨_,.wild _ rfl,λk n e=>by cases e⟩
 | map r=>
  cases r with
  | none=>exact⟨_,.mapNil,λk n e=>by cases e⟩
  | some a=>exact⟨_,.wild _ rfl,λk n e=>by cases e⟩
 | func f a c=>
  cases f with
  | method n=>exact⟨_,.meth n a c,λk n e=>by cases e⟩
  | _=>exact⟨_,.wild _ rfl,λk n e=>by cases e⟩
 | nilFunc=>exact⟨_,.nilFunc,λk n e=>by cases e⟩
 | nilIface=>exact⟨_,.nilIface,λk n e=>by cases e⟩
 | _=>exact⟨_,.wild _ rfl,λk n e=>by cases e⟩
termination_by SizeOf.sizeOf y
decreasing_by
 all_goals
  subst_vars
  have:=Array.sizeOf_get a i.1 i.2;simp only[Value.agg.sizeOf_spec,Value.tuple.sizeOf_spec];have e:a[i]=a[i.1]:=rfl;rw[e];omega
noncomputable def jU(Z:Ren)(a:LM LA):LM LA:=VH λi:Fin a.size=>ND (qQ Z a[i])
def BE(Z:Ren)(a:LM LA):AsR Z (jU Z a) a:=by
 refine⟨by simp[jU],λi x y c b=>?_⟩;have⟨h,e⟩:=Lz.1 c;have⟨g,d⟩:=Lz.1 b;rw[<- e,<- d];simp only[jU,Qs];exact(Nk (qQ Z a[i])).1
def tE(Z:Ren)(a:LM LA){i:Ly}{k:Tf}{n:LJ}(h:a[i]?=Lq (.int k n)):(jU Z a)[i]?=Lq (.int k n):=by
 have⟨c,b⟩:=Lz.1 h;have d:i<(jU Z a).size:=by simp[jU,c]
 rw[Ml d];simp only[jU,Qs];have:=(Nk (qQ Z a[i])).2 k n b;exact congrArg Lq (this.trans b)
def qE(a:Ly->MC)(n:Ly):Ren:=(Mr n).map λi=>if a i then Lq i else Lw
def jN{b:Ly->MC}{n i j:Ly}:BR (qE b n) i j↔i<n/\b i=LG/\j=i:=by
 unfold BR qE;rw[NO];by_cases h:i<n
 ·rw[Qh h,Ng];by_cases a:b i=LG
  ·rw[if_pos a];exact⟨λe=>⟨h,a,by cases e;rfl⟩,λ⟨_,_,e⟩=>by rw[e]⟩
  ·rw[if_neg a];exact⟨λe=>(by cases e),λ⟨_,c,_⟩=>absurd c a⟩
 ·rw[Nc (by rw[List.length_range];omega)];exact⟨λe=>(by cases e),λ⟨d,_,_⟩=>absurd d h⟩
noncomputable def Kb(Z:Ren):SQ->SQ
 | .cells a e f=>.cells (jU Z a) e (0,a.size+f.2)
 | _=>.cells #[] 0 (0,0)
noncomputable def lH(a:Ly->MC)(W:Lt):Lt :=
 { W with heap:=VH λi:Fin W.heap.size=>if a i then Kb (qE a W.heap.size) W.heap[i] else .cells #[] 0 (0,0) }
def jD(a:Ly->MC)(W:Lt):(lH a W).heap.size=W.heap.size:=by simp[lH]
def iV{kn:Ly->MC}{W:Lt}{i:Ly}{a:LM LA}{e:LZ}{f:Ly × Ly}(b:kn i=LG)(h:W.heap[i]?=Lq (.cells a e f)) :(lH kn W).heap[i]?=Lq (.cells (jU (qE kn W.heap.size) a) e (0,a.size+f.2)):=by
 have⟨d,g⟩:=Lz.1 h;have c:i<(lH kn W).heap.size:=by rw[jD];exact d
 rw[Ml c];simp only[lH,Qs,b,if_true,Fin.getElem_fin];rw[g];rfl
def tG{a:Ly->MC}{W:Lt}{i:Ly}{o:SQ}(b:¬ a i=LG)(h:(lH a W).heap[i]?=Lq o):o=.cells #[] 0 (0,0):=by
 have⟨d,c⟩:=Lz.1 h;rw[<- c];simp only[lH,Qs];rw[if_neg b]
def Ej(Q:LV)(l:∀i,¬ JunkSet.jk i){c:Ly->MC}{W:Lt}(d:∀i,c i=LG->i<W.heap.size->∃k e f,W.heap[i]?=Lq (.cells k e f)) :WR Q W.heap.size (qE c W.heap.size) (lH c W) W where
 len:=by rw[jD];simp[qE]
 nodup i i' j h h':=by
  have⟨_,_,e⟩:=jN.1 h;have⟨_,_,q⟩:=jN.1 h';omega
 lt i j h:=by
  have⟨n,_,e⟩:=jN.1 h;omega
 obj i j o h a:=by
  obtain⟨n,b,rfl⟩:=jN.1 h;have⟨k,e,f,g⟩:=d j b n;rw[iV b g] at a;cases a;refine .inr ⟨l j,_,g,.cells e (BE _ _) λo n p=>?_⟩;simp only;omega
 low i hi:=by
  by_cases b:c i=LG
  ·have⟨k,e,f,g⟩:=d i b hi;refine⟨_,_,_,iV b g,λo a=>?_⟩;have:(jU (qE c W.heap.size) k).size=k.size:=by simp[jU]
   simp only;omega
  ·have p:i<(lH c W).heap.size:=by rw[jD];exact hi
   have:=tG b (Ml p);refine⟨#[],0,(0,0),by rw[Ml p,this],λo a=>?_⟩;simp at a
 env:=rfl
 below i h:=absurd h (l i)
 gar i o a:=by
  right;by_cases b:c i=LG
  ·have n:i<W.heap.size:=by rw[<- jD c W];exact(Lz.1 a).1
   have⟨k,e,f,g⟩:=d i b n;rw[iV b g] at a;cases a;rfl
  ·rw[tG b a];rfl
end
section
variable[J:JunkSet]{Q P:LV}{f:Nh}{Post:LA->Lt->Prop}
def EL.begin(D:Two Q P)(a:JunkSet.okf f)(n:Q.funcs[f]?=P.funcs[f]?)(c:∀i,¬ JunkSet.jk i){kn:Ly->MC}{W:Lt}(r:P.globals.size<W.heap.size)(g:∀i,i<=P.globals.size->kn i=LG)(b:∀i,kn i=LG->i<W.heap.size->∃q e f,W.heap[i]?=Lq (.cells q e f)){aq k:LM LA}(p:AsR (qE kn W.heap.size) aq k)(h:EL Q P f Post W (G (MO Q f aq .normal) [ax f]) (lH kn W)):Ends P Post (solo (G (MO P f k .normal) []) W) #[]:=by
 refine E.solo (cl:=λ_=>.mine 0) ?_ λ_=>rfl;have o:W.heap.size<=(qE kn W.heap.size).length:=by simp[qE]
 refine h (qE kn W.heap.size) _ W (λ_=>.mine 0) ⟨Ej Q c b,o,λi l=>jN.2 ⟨by omega,g i l,rfl⟩,⟨[],rfl⟩,eJ P f k [ax f],rA D.H a n p,rfl⟩ (λi j _=>rfl) (λ_ _=>rfl)
  ⟨λ_ _ _=>rfl,rfl,rfl,LC _,λi j d l=>?_,LC _⟩ λ_ _=>rfl
 have⟨s,_,_⟩:=jN.1 d;omega
def yw{a:LW}{g:LD}{i:Func}{v:LA}{w:Lt}(c:g.frame=a)(e:g.callers=[])(b:g.status=.running)(d:g.dying=Lw)(h:P.inits.idxOf? a.fn=Lw)(hm:a.mode=.returning)(l:a.kind=.normal)(p:a.defers=[])(n:P.funcs[a.fn]?=Lq i)(k:(Om i a.tmps).run P w=.ok v w)(o:(Om i a.tmps).events P w #[]=#[]) :Nb P LG g w=.ended (.done v) w #[]:=by
 obtain⟨q,t,r,s,j⟩:=g;dsimp only at c e b d;subst c e b d;simp[Nb,Qw,NX,l,p,n,k,o,hm,seen,Ni,h]
def EL.last{W:Lt}{b:LW}{a:ON}{l:Lx PW}{F:Func}{t:Ly}{r:MC}{u:Lt}(s:P.inits.idxOf? b.fn=Lw)(S:b.kind=.normal)(hd:a.defers=[])(Y:P.funcs[b.fn]?=Lq F)(C:F.results=#[.tmp t])(R:a.tmps.getD t LI=.bool r)(k:∀w,(∀j,j<W.heap.size->w.heap[j]?=W.heap[j]?)->w.os=W.os->w.output=W.output->W.heap.size<=w.heap.size->Post (.bool r) w) :EL Q P f Post W (G { b.at a l with mode:=.returning } [ax f]) u:=by
 intro Z g' w cl ⟨hw,T,X,_,gv,o,e⟩ ho hc n hm;subst e;have x:=o.callers;obtain⟨fr,cs,N,dy,O⟩:=gv;have q:N=.running:=o.st';have v:dy=Lw:=o.dy';subst q v;cases x with
 | cons p y=>
  cases y;have c:=o.frame;have M:=c.fn;have L:=c.kind;have I:=c.tmps;have A:=c.defers;have H:=c.mode;obtain⟨b0,g,td,b7,mode,B,ro⟩:=fr;simp only[Frame.at,G] at M L I A H;rw[hd] at A;cases A;cases H;subst M;subst L;have p:=I.getD t (gz Z);rw[R] at p;have y:g.getD t LI=.bool r:=by
   generalize g.getD t LI=z at p;cases p;rfl
  refine E.done rfl λd=>⟨.bool r,w.at d,#[],?_,by simp,?_⟩
  ·exact yw rfl rfl rfl rfl s rfl S rfl Y (by rw[Sv C _ P _];exact congrArg (λz=>Result.ok z (w.at d)) y) (Sm C _ _)
  ·exact k _ (λj U=>n.old j U λi V=>Ug λh=>by
    have h3:=n.inn i j V h;omega) n.os n.output n.size
end
end
end Go.Co
