/-
  Part 2 of the proof. gladstonelaw04.PileMends answers true for every yard, parcel, pile, number and list of numbers that the statement takes, and leaves its arguments as they were. No conditions.
-/
import Derived.Test.YtidgnkmjgioapaaGreatG1
import Derived.Conc.CrowdRun
import Derived.Orders
import Derived.WalkKit
import Derived.Conc.WgGenN3
set_option maxRecDepth 100000
set_option maxHeartbeats 8000000
set_option linter.all false
open Array renaming all_eq_true_iff_forall_mem->PL,any_eq_true'->XS,getD_eq_getD_getElem?->Pv,getElem?_eq_getElem->Om,getElem?_eq_some_iff->Nz,getElem?_push_lt->Wz,getElem?_setIfInBounds->OW,getElem?_setIfInBounds_ne->Po,getElem?_toList->UX,getElem_ofFn->SO,mem_iff_getElem?->Wv,mem_map->TG,mem_of_getElem?->PR,ofFn->XT,replicate->OY
open Bool renaming and_eq_true->Of,false_eq_true->OJ,not_eq_true'->QM,not_false->TT,not_true->Uj,or_eq_true->QI,true_or->ZF,false->NC,true->NB
open Classical renaming byContradiction->OK,choose->QY,choose_spec->Ry,em->Tx
open Go renaming Act->QF,Addr->OX,Calls->Oz,Code->Qs,CommCase->Rf,CommShape->QK,Deferred->Qa,Dying->TC,Event->Pz,Exit->Ux,Frame->NS,FuncId->Pl,GStep->QE,GoStatus->QS,Goroutine->NF,Item->Si,MapEntry->Rz,MemOp->WL,Next->SX,Oper->PE,Operand->OQ,Outcome->Wu,PanicEntry->Tu,Program->NR,Question->Qe,Sem->Rw,Trace->Vx,TypeId->NZ,Value->Ny,World->Nt,bits->Wy,callDeferred->Qd,deafBehind->Rb,doReturn->Qg,endFatal->Vo,endThrow->UL,execOp->QN,exitTo->TU,gotoIn->Uw,mayWake->ZG,results->Qo,results_tmp->UE,runT->Xb,seen->Wa,stepG->Pj,step_leave_returned->Xu,step_lone_go->UO,tryRecover->Ou,undef->NG,unwind->SS,wpList->Vb,wpOps->YL,wpOps_cons->Zb,yielded->PH
open Go.Conc renaming Deaf->WV,Deaf_other->Sq,Deaf_own->Xc,Good->ZE,awake->Zl,woken->Zm,Goes->TO,QuitsD->VK,again_running->XE,aside_setCell->Tf,crowd->RD,crowd_pick->XN,events_results_tmp->Uy,ofEvents_eq->Tq,runT_crowd_go->TH,run_call_body->TI,semEvents->SU,stepG_add_atomic->SF,stepG_block->UD,stepG_end->YF,stepG_load_atomic->SY,stepG_loop->XP,stepG_mark0->VT,stepG_markAt->VE,stepG_region_end->NI,stepG_ret'->QL,stepG_seq->Ob,stepG_skip->Px,stepG_unwind_entry->XR,stepG_value->Xd,touchAt->Ug,woken->Yh,woken_quitsD->Tw
open Go.Conc.Goes renaming cases->Rs,rely->RP,running->QG,stop->Qh
open Go.ConcN renaming CTag->YG,Mode->TJ,WgLive->QO,cnt->Xs,get_map_set->RK,get_map_set_same->SE,pend->WW,phi->Yj,st_flag->ZH,st_waiters->XQ,sumTo->TV,sumTo_upd->Xl,sumTo_upd_out->XF,upd->Tv,upd_ne->Sl,upd_same->QX
open Go.ConcN.Gen.WgLive renaming cell0->Wx,cell1->QP
open Go.ConcN.Mode renaming last->VM,retag->Xt
open Go.ConcR renaming DC0->ZA,DC0->UN,mk->Qz,WgAt->Uz,g_of_ofEvents->Vl,loc_of_ofEvent->UM,smA->Yi,stA->Uk
open Go.Frame renaming enter->OT,eval->Te,finish->Wt,finish_at->Qw,raise->WZ
open Go.GStep renaming after->Pm,go->Xa
open Go.Instr renaming endRound->QR
open Go.IntKind renaming wrap_i32->Ve,wrap_u64->Vd
open Go.MemAct renaming ofEvent->PG,touch?->Qr
open Go.MemOp renaming ofEvents->Qn
open Go.Region renaming Mode->RQ,binds->Pe,ready->Oe,schedule->Uq,wanted->Oy
open Go.Region.linearise renaming go->Pd
open Go.Sem renaming run->Pr,runT_eq->OL
open Go.stepG renaming apply->Pw,exec->Re,oper->Va
open List renaming all_eq_true->OF,append_assoc->Qv,append_nil->SV,cons_append->Oa,getElem?_append_left->Ot,getElem?_append_right->Pq,getElem?_drop->RZ,getElem?_eq_none->OO,getElem?_map->Pa,getElem?_range->Ra,getElem?_take_of_lt->PI,getElem?_toArray->UY,length_cons->NQ,length_filter_le->PS,length_range->VU,map_cons->Qj,mem_cons->ON,mem_filter->RS,mem_iff_getElem?->TN,mem_of_getElem?->Od,mem_range->Py,mem_toArray->Ro,nil_append->On,not_mem_nil->PY,range->Oo,range'->Vq,reverse_singleton->Ww
open List.cons renaming injEq->QT
open Nat renaming eq_zero_or_pos->VL,le_of_eq->Sv,le_refl->Nv,le_trans->NM,lt_of_lt_of_le->NX,lt_of_not_le->Wj,lt_or_ge->PP,lt_succ_self->Uf,mul_le_mul_left->Vy,mul_lt_mul_of_pos_left->TW,strongRecOn->Vw,zero_add->Oc,zero_le->OE
open Option renaming bind_some->Ud,elim_none->YE,getD_some->NK,map_eq_some_iff->Sw,map_some->Pp,none->Ns,some->Nq
open Option.some renaming inj->QQ,injEq->OM
open _root_ renaming Array->NJ,Bool->OI,False->RI,Int->NH,List->Nu,Nat->NA,Option->NO
namespace Go.Co
section
open Go.Conc Go.ConcN
open Go.ConcR (loc_of_ofEvent deafBehind_cons deafBehind_one g_of_ofEvents ofEvent_loc_mark)
def Ends(P:NR)(Post:Ny->Nt->Prop)(m:Machine)(t:Vx):Prop :=
 ∃N a o b c,runNT P (N+1) m t=(.ended o b,c)/\runN P N m=.next a/\step P a=.ended o b/\ZE P Post a o b c
section
variable{P:NR}{Post:Ny->Nt->Prop}{m m':Machine}{t:Vx}{ops:NJ WL}
def Ends.next(b:stepT P m=(.next m',ops))(h:Ends P Post m' (t++ops)):Ends P Post m t:=by
 obtain⟨N,a,o,w,c,k,j,i,e⟩:=h;exact⟨N+1,a,o,w,c,by rw[runNT_succ_next b];exact k,by rw[runN_succ_next b];exact j,i,e⟩
def Ends.ended{o:Wu}{w:Nt}(a:stepT P m=(.ended o w,ops))(h:ZE P Post m o w (t++ops)):Ends P Post m t :=
 ⟨0,m,o,w,t++ops,by simp[runNT,a],rfl,by simp[step,a],h⟩
end
def EvG(cl:NA->Cl)(size g:NA)(e:Pz):Prop:=(∀x,(PG e).touch?=Nq x->MN cl size g x)
def dM(e:Pz):Prop:=e.loc≠.mark .disable/\e.loc≠.mark .enable/\∀a,e.loc≠.mark (.release a)
section
variable{cl:NA->Cl}{n size g d:NA}{t:Vx}{es:NJ Pz}{fn:Pl}{pos:String}
def oQ(h:∀e∈es,EvG cl size g e):∀b∈Qn g fn pos es,Kv cl size g b:=by
 intro b a;rw[Tq] at a;obtain⟨e,c,rfl⟩:=TG.1 a;exact⟨rfl,h e c⟩
def deafBehind_idle{es:NJ Pz}(h:∀e∈es,dM e)(d:NA):Rb d es=d:=by
 obtain⟨l⟩:=es;induction l with
 | nil=>rfl
 | cons e l b=>
  rw[deafBehind_cons,deafBehind_one (h e (by simp)).1 (h e (by simp)).2.1];exact b λx a=>h x (by simp at a ⊢;exact .inr a)
def rC{e:Pz}(h:e.mute=NB):(PG e).touch?=Ns:=by
 obtain⟨a,wr,b⟩:=e;cases a with
 | mark m=>cases m<;>first | rfl | cases h
 | _=>cases h
def mi{es:NJ Pz}(h:∀e∈es,e.mute=NB):∀b∈Qn g fn pos es,b.g=g/\b.act.touch?=Ns:=by
 intro b a;rw[Tq] at a;obtain⟨e,c,rfl⟩:=TG.1 a;exact⟨rfl,rC (h e c)⟩
end
section
variable{g:NA}{es:NJ Pz}{fn:Pl}{pos:String}
def Ga{a:OX}{es:NJ Pz}(h:∀e∈es,e.mute=NB):∀c∈Qn g fn pos es,c.act≠.mark (.release a):=by
 intro c b hm;rw[Tq] at b;obtain⟨x,j,rfl⟩:=TG.1 b;have k:=h x j;have f:=UM hm;obtain⟨i,wr,l⟩:=x;simp only at f;subst f;cases k
def uz{a:OX}{es:NJ Pz}(h:∀e∈es,dM e):∀c∈Qn g fn pos es,c.act≠.mark (.release a):=by
 intro c b hm;rw[Tq] at b;obtain⟨x,f,rfl⟩:=TG.1 b;exact(h x f).2.2 a (UM hm)
end
structure Al(P:NR)(cl:NA->Cl)(gs:NJ NF)(w:Nt)(t:Vx)(g0:NF)(fu:NA->NA):Prop where
 main:gs[0]?=Nq g0
 lv:∀i,1<=i->i<gs.size->∃g,gs[i]?=Nq g/\VK P (fu i) (WV t i) g
 tr:Tr cl gs.size w.heap.size t
 cl0:∀b,w.heap.size<=b->cl b=.mine 0
 d0:WV t 0=0
 hd:Hd gs.size t
 nor:∀a,NoRelease a t
def E(P:NR)(Post:Ny->Nt->Prop)(cl:NA->Cl)(g0:NF)(w:Nt):Prop :=
 ∀gs sl t fu,Al P cl gs w t g0 fu->Ends P Post (RD gs w sl) t
section
variable{P:NR}{Post:Ny->Nt->Prop}{cl:NA->Cl}{gs:NJ NF}{w:Nt}{t:Vx}{g0:NF}{fu:NA->NA}{sl:NO (NA × NA)}
def Al.at(h:Al P cl gs w t g0 fu)(d:NA):Al P cl gs (w.at d) t g0 fu:=⟨h.main,h.lv,h.tr,h.cl0,h.d0,h.hd,h.nor⟩
def pA{q d:NA}{g:NF}(h:VK P q d g):awake g:=by
 intro a;rcases h.status with e | e<;>rw[e]<;>simp
def Al.awake(h:Al P cl gs w t g0 fu)(f:g0.status=.running):∀g∈gs,Zl g:=by
 intro g e;have⟨i,b⟩:=Wv.1 e;cases i with
 | zero=>
  rw[h.main] at b;cases b;intro j;rw[f];simp
 | succ i=>
  have⟨k,a,c⟩:=h.lv (i+1) (by omega) (Nz.1 b).1;rw[b] at a;cases a;exact pA c
def Al.leave(h:Al P cl gs w t g0 fu)(H:g0.status=.running){i:NA}{g:NF}(G:1<=i)(C:gs[i]?=Nq g)(z:g.status=.running) :∃r ops q,Xb P (RD gs w sl) i=(.next (RD r w sl),ops)/\r.size=gs.size/\q<fu i/\Al P cl r w (t++ops) g0 (Tv fu i q):=by
 have B:=(Nz.1 C).1;have⟨I,y,s⟩:=h.lv i G B;rw[C] at y;cases y;cases hf:fu i with
 | zero=>rw[hf] at s;rw[s.1] at z;cases z
 | succ q=>
  rw[hf] at s;rcases s with⟨o,_⟩ | ⟨_,D,es,f,p,s⟩
  ·rw[z] at o;cases o
  ·have v:=TH (P:=P) (sl:=sl) (i:=i) C (by rw[show(i == 0)=NC by simp;omega];exact p w);have k:((gs.map (Yh P g D w)).setIfInBounds i D).size=gs.size:=by simp
   have b:=mi (g:=i) (fn:=g.frame.fn) (pos:=g.frame.place) f;refine⟨_,_,q,v,k,Uf q,?_,?_,?_,h.cl0,?_,?_,λa=>(h.nor a).app (Ga f)⟩
   ·rw[RK _ _ _ _ (by omega),h.main,Pp];unfold Yh;split
    ·rw[XE _ (.inl H)]
    ·rfl
   ·intro j A F;rw[k] at F;by_cases e:j=i
    ·subst e;refine⟨D,SE _ _ _ B,?_⟩;rw[QX,Xc];exact s
    ·have⟨x,o,u⟩:=h.lv j A F;refine⟨x,?_,?_⟩
     ·rw[RK _ _ _ _ (by omega),o,Pp,Tw u]
     ·rw[Sl _ _ e,Sq t (Ne.symm e) _ λl c=>(b l c).1];exact u
   ·rw[k];exact h.tr.step B λl c=>⟨(b l c).1,λx o=>by rw[(b l c).2] at o;cases o⟩
   ·rw[Sq t (by omega:i≠(0:NA)) _ λl c=>(b l c).1];exact h.d0
   ·rw[k];exact h.hd.app λl c=>.inr (.inr (b l c).2)
def vB{fu:NA->NA}{i q n:NA}(b:i<n)(h:q<fu i):TV n (λa=>Tv fu i q a)<TV n fu:=by
 have:=Xl fu q id b;simp only[id] at this;have e:(TV n λa=>fu a)=TV n fu:=rfl;omega
def E.stepC(M:g0.status=.running)(h:∀d,∃y p es l,Pj P NB g0 (w.at d)=.go y p es/\w.heap.size<=p.heap.size/\(∀b,b<w.heap.size->l b=cl b)/\(∀b,p.heap.size<=b->l b=.mine 0)/\(∀e∈es,EvG l p.heap.size 0 e/\dM e)/\E P Post l y p):E P Post cl g0 w:=by
 have L:∀(N:NA) (gs:NJ NF) (sl:NO (NA × NA)) (t:Vx) (fu:NA->NA) (G:NA),TV gs.size fu=N->Al P cl gs (w.at G) t g0 fu->Ends P Post (RD gs (w.at G) sl) t:=by
  intro N;induction N using Vw with
  | _ N W=>
   intro gs sl t fu G hN c;have⟨i,g,d,s,H,Y,o⟩:=XN (P:=P) (w:=w.at G) (sl:=sl) (c.awake M) ⟨0,g0,c.main,M⟩;have V:=(Nz.1 H).1;cases i with
   | zero=>
    rw[c.main] at H;cases H;have⟨y,p,es,l,R,u,D,F,v,hE⟩:=h d;have B:Pj P ((0:NA) == 0) g0 ((w.at G).at d)=.go y p es:=R;have k:=TH (P:=P) (sl:=s) (i:=0) c.main B;rw[k] at o;refine Ends.next o (hE _ _ _ fu ?_)
    have f:((gs.map (Yh P g0 y p)).setIfInBounds 0 y).size=gs.size:=by simp
    have A:0<gs.size:=V;have r:∀I∈Qn 0 g0.frame.fn g0.frame.place es,I.g=0:=Vl;refine⟨SE _ _ _ A,?_,?_,F,?_,?_,λa=>(c.nor a).app (uz λe C=>(v e C).2)⟩
    ·intro j Q U;rw[f] at U;have⟨x,X,z⟩:=c.lv j Q U;refine⟨x,?_,?_⟩
     ·rw[RK _ _ _ _ (by omega),X,Pp,Tw z]
     ·rw[Sq t (by omega:(0:NA)≠j) _ r];exact z
    ·rw[f];exact((c.tr.grow u).fresh' (m:=w.heap.size) c.tr.inb D).step A (oQ λe C=>(v e C).1)
    ·rw[Xc,deafBehind_idle λe C=>(v e C).2];exact c.d0
    ·rw[f];exact c.hd.app λI O=>.inl (r I O)
   | succ i=>
    have⟨T,ops,q,k,u,Z,S⟩:=(c.at d).leave (sl:=s) M (by omega) H Y;rw[k] at o;exact Ends.next o (W _ (by rw[<- hN,u];exact vB V Z) T s _ _ d rfl S)
 intro gs sl t fu c;exact L _ gs sl t fu w.drawn rfl c
def E.step(I:g0.status=.running)(h:∀d,∃y r es,Pj P NB g0 (w.at d)=.go y r es/\w.heap.size<=r.heap.size/\(∀e∈es,EvG cl r.heap.size 0 e/\dM e)/\E P Post cl y r):E P Post cl g0 w:=by
 have H:∀(N:NA) (gs:NJ NF) (sl:NO (NA × NA)) (t:Vx) (fu:NA->NA) (D:NA),TV gs.size fu=N->Al P cl gs (w.at D) t g0 fu->Ends P Post (RD gs (w.at D) sl) t:=by
  intro N;induction N using Vw with
  | _ N U=>
   intro gs sl t fu D Z c;have⟨i,g,d,s,F,W,o⟩:=XN (P:=P) (w:=w.at D) (sl:=sl) (c.awake I) ⟨0,g0,c.main,I⟩;have T:=(Nz.1 F).1;cases i with
   | zero=>
    rw[c.main] at F;cases F;have⟨y,r,es,O,l,u,hE⟩:=h d;have B:Pj P ((0:NA) == 0) g0 ((w.at D).at d)=.go y r es:=O;have k:=TH (P:=P) (sl:=s) (i:=0) c.main B;rw[k] at o;refine Ends.next o (hE _ _ _ fu ?_)
    have f:((gs.map (Yh P g0 y r)).setIfInBounds 0 y).size=gs.size:=by simp
    have A:0<gs.size:=T;have p:∀G∈Qn 0 g0.frame.fn g0.frame.place es,G.g=0:=Vl;refine⟨SE _ _ _ A,?_,?_,λb Y=>c.cl0 b (NM l Y),?_,?_,λa=>(c.nor a).app (uz λe C=>(u e C).2)⟩
    ·intro j M S;rw[f] at S;have⟨x,V,z⟩:=c.lv j M S;refine⟨x,?_,?_⟩
     ·rw[RK _ _ _ _ (by omega),V,Pp,Tw z]
     ·rw[Sq t (by omega:(0:NA)≠j) _ p];exact z
    ·rw[f];exact(c.tr.grow l).step A (oQ λe C=>(u e C).1)
    ·rw[Xc,deafBehind_idle λe C=>(u e C).2];exact c.d0
    ·rw[f];exact c.hd.app λG L=>.inl (p G L)
   | succ i=>
    have⟨R,ops,q,k,l,X,Q⟩:=(c.at d).leave (sl:=s) I (by omega) F W;rw[k] at o;exact Ends.next o (U _ (by rw[<- Z,l];exact vB T X) R s _ _ d rfl Q)
 intro gs sl t fu c;exact H _ gs sl t fu w.drawn rfl c
def E.done(O:g0.status=.running)(h:∀d,∃v u es,Pj P NB g0 (w.at d)=.ended (.done v) u es/\(∀e∈es,EvG cl w.heap.size 0 e/\dM e)/\Post v u):E P Post cl g0 w:=by
 have H:∀(N:NA) (gs:NJ NF) (sl:NO (NA × NA)) (t:Vx) (fu:NA->NA) (s:NA),TV gs.size fu=N->Al P cl gs (w.at s) t g0 fu->Ends P Post (RD gs (w.at s) sl) t:=by
  intro N;induction N using Vw with
  | _ N X=>
   intro gs sl t fu s hN a;have⟨i,g,d,k,G,Z,o⟩:=XN (P:=P) (w:=w.at s) (sl:=sl) (a.awake O) ⟨0,g0,a.main,O⟩;have F:=(Nz.1 G).1;cases i with
   | zero=>
    rw[a.main] at G;cases G;have⟨v,u,es,S,C,hP⟩:=h d;have B:Pj P ((0:NA) == 0) g0 ((w.at s).at d)=.ended (.done v) u es:=S;have r:0<gs.size:=F;have b:Xb P (RD gs ((w.at s).at d) k) 0=(.ended (.done v) u,Qn 0 g0.frame.fn g0.frame.place es):=by
     have V:=a.main;have⟨_,V⟩:=Nz.1 V;subst V;have M:=swapAt_of_lt r { (default:NF) with status:=.finished };show Xb P { world:=(w.at s).at d,gs:=gs,rest:={ timers:=#[],alone:=Ns,slice:=k } } 0=_;unfold Xb;simp only[M,B,GStep.es]
    rw[b] at o;have p:∀z∈Qn 0 g0.frame.fn g0.frame.place es,z.g=0:=Vl;refine Ends.ended o ⟨v,rfl,hP,?_,?_,⟨?_,rfl⟩,?_⟩
    ·exact(a.tr.step r (oQ λe T=>(C e T).1)).nr
    ·exact DT (a.hd.app λz Q=>.inl (p z Q)) λi z F=>(a.tr.step r (oQ λe T=>(C e T).1)).gs i z F
    ·intro x Y;have⟨j,D⟩:=TN.1 Y;rw[RZ] at D;have f:gs[1+j]?=Nq x:=by simpa[RD] using D
     have⟨y,A,l⟩:=a.lv (1+j) (by omega) (Nz.1 f).1;rw[f] at A;cases A;exact⟨_,l.leaves⟩
    ·intro j x D R;have f:gs[j]?=Nq x:=D;have⟨y,A,l⟩:=a.lv j (by omega) (Nz.1 f).1;rw[f] at A;cases A;refine⟨fu j,?_⟩;have:=Sq t (Ne.symm R) _ p;unfold WV at this l;rw[this];exact l.hears _
   | succ i=>
    have⟨W,ops,q,b,I,hq,U⟩:=(a.at d).leave (sl:=k) O (by omega) G Z;rw[b] at o;exact Ends.next o (X _ (by rw[<- hN,I];exact vB F hq) W k _ _ d rfl U)
 intro gs sl t fu a;exact H _ gs sl t fu w.drawn rfl a
def E.solo(h:E P Post cl g0 w)(j:∀b,cl b=.mine 0):Ends P Post (solo g0 w) #[]:=by
 rw[solo_eq_crowd];refine h #[g0] Ns #[] (λ_=>0) ⟨rfl,λi o c=>by simp at c;omega,?_,λb _=>j b,rfl,λi g f=>by simp[Trace.g?] at f,λa i c=>by simp[Trace.act?] at c⟩;refine⟨λi a b e=>?_,λi a b e=>?_,λi a b e=>?_,λi a b g e=>?_,λi a b l e=>?_,noRace_nil,λi k c=>by simp at c⟩<;>simp[Ug,Trace.act?] at e
end
end
section
open Go.Conc Go.ConcN Go.Sim
def iw(a:NA->Cl)(Z:Ren):Prop:=∀i j,BR Z i j->a j=.mine 0
structure gh(M N:NA)(W:Nt)(Z:Ren)(w:Nt):Prop where
 old:∀j,j<W.heap.size->(∀i,BR Z i j->i<M)->w.heap[j]?=W.heap[j]?
 os:w.os=W.os
 output:w.output=W.output
 size:W.heap.size<=w.heap.size
 inn:∀i j,BR Z i j->M<=i->N<=j
 nsz:N<=w.heap.size
section
variable[JunkSet]{Q P:NR}{F:NF->Nt->Prop}{f:Pl}{real:Nu NS}{Post:Ny->Nt->Prop}{W:Nt}{M N:NA}
def gh.step{Z O:Ren}{w k:Nt}(h:gh M N W Z w)(a:Eff M Z O w k):gh M N W O k where
 old j hj hn:=by
  have b:∀i,BR Z i j->i<M:=λi d=>hn i (d.mono a.le);rw[a.keep j (NX hj h.size) b,h.old j hj b]
 os:=a.os.trans h.os
 output:=a.output.trans h.output
 size:=NM h.size a.size
 inn i j hij d:=by
  rcases PP i Z.length with c | e
  ·exact h.inn i j (BR.back a.le hij c) d
  ·exact NM h.nsz (a.fresh i j hij e)
 nsz:=NM h.nsz a.size
def gh.at{Z:Ren}{w:Nt}(h:gh M N W Z w)(d:NA):gh M N W Z (w.at d):=⟨h.old,h.os,h.output,h.size,h.inn,h.nsz⟩
def iw.step{e:NA->Cl}{Z O:Ren}{w l:Nt}{base:NA}(h:iw e Z)(k:Eff base Z O w l)(n:∀b,w.heap.size<=b->e b=.mine 0):iw e O:=by
 intro i j a;rcases PP i Z.length with c | d
 ·obtain⟨⟨V,rfl⟩,_⟩:=k.le;refine h i j ?_;unfold BR at a ⊢
  rwa [Ot c] at a
 ·exact n j (k.fresh i j a d)
def iE{p:NA->Cl}{O:Ren}{q w:Nt}{base:NA}(o:iw p O)(n:WR Q base O q w){e:Pz}(h:iy base O e):EvG p w.heap.size 0 e/\dM e:=by
 cases h with
 | @cell i j l g wr k _ _=>
  refine⟨λx c b d=>?_,by simp[dM],by simp,by simp⟩;have a:x=⟨.cell ⟨j,l,g⟩,wr,.plain⟩:=by cases wr<;>(simp[PG,Qr] at c;exact c.symm)
  subst a;simp only[blk,OM] at d;subst d;exact⟨n.lt _ _ k,.inl ⟨o _ _ k,rfl⟩⟩
 | @obj i j wr k _=>
  refine⟨λx c b d=>?_,by simp[dM],by simp,by simp⟩;have a:x=⟨.obj j,wr,.plain⟩:=by cases wr<;>(simp[PG,Qr] at c;exact c.symm)
  subst a;simp only[blk,OM] at d;subst d;exact⟨n.lt _ _ k,.inl ⟨o _ _ k,rfl⟩⟩
 | noRoom=>exact⟨λx c=>by simp[PG,Qr] at c,by simp[dM],by simp,by simp⟩
 | env=>
  refine⟨λx c b d=>?_,by simp[dM],by simp,by simp⟩;have a:x=⟨.output,NB,.plain⟩:=by simp[PG,Qr] at c;exact c.symm
  subst a;cases d
def EB{Z:Ren}{base:NA}{a w:Nt}(h:WR Q base Z a w)(d:NA):WR Q base Z a (w.at d):=⟨h.len,h.nodup,h.lt,h.obj,h.low,h.env,h.below,h.gar⟩
def vC{Z:Ren}{base:NA}{g b:NF}{a w:Nt}(h:Sub Q P base F f real Z g a b w)(d:NA):Sub Q P base F f real Z g a b (w.at d):=⟨h.len,EB h.wr d,h.gl,h.tree,h.stack,h.rel⟩
def iB{Z:Ren}{base:NA}{g a:NF}{b w:Nt}(h:Sub Q P base F f real Z g b a w):a.status=.running:=by
 obtain⟨d,c,rfl⟩:=h.rel;exact c.st'
def E.sub{Cp:(NA->Cl)->Prop}(H:Duo Q P)(hrf:P.follows .rangeFuncRecover=NB)(hR:∀fr,Ou fr real=Ns)(hF:∀g u,F g u->g.callers≠[])(r:∀Z g wq v w i,Sub Q P M F f real Z g wq v w->F g wq->iw i Z->(∀b,w.heap.size<=b->i b=.mine 0)->gh M N W Z w->Cp i->E P Post i v w)(hK:∀Z C k a L c I pre j wq w i,MQ Q P M F f real Z C k a L c I pre j wq w->iw i Z->(∀b,w.heap.size<=b->i b=.mine 0)->gh M N W Z w->Cp i ->(∀O G o t y l,Sub Q P M F f real O G o t y->iw l O->(∀b,y.heap.size<=b->l b=.mine 0)->gh M N W O y->Cp l ->Relation.TransGen (Below Q F) (G,o) ({ frame:=OT Q C a k,callers:=c::(pre++[ay f]),status:=.running,dying:=Ns },wq)->E P Post l t y) ->E P Post i { frame:=OT P C L k,callers:=I::(j++real),status:=.running,dying:=Ns } w){Z:Ren}{g v:NF}{wq w:Nt}{i:NA->Cl}(h:Sub Q P M F f real Z g wq v w)(ho:iw i Z)(hc:∀b,w.heap.size<=b->i b=.mine 0)(hk:gh M N W Z w)(hp:Cp i):E P Post i v w:=by
 have p:Acc (Relation.TransGen (Below Q F)) (g,wq):=h.tree.acc.transGen;generalize hx:(g,wq)=x at p;induction p generalizing Z g wq v w i with
 | intro x _ T=>
  subst hx;by_cases U:F g wq
  ·exact r Z g wq v w i h U ho hc hk hp
  ·refine E.step (iB h) λd=>?_;have⟨O,g1,q,S,z,es,h1,V,D,h4,_,n⟩:=(vC h d).stepK H hrf hR U NB hF;have s:iw i O:=ho.step (w:=w.at d) D hc;have B:∀b,z.heap.size<=b->i b=.mine 0:=λb hb=>hc b (NM D.size hb);have A:gh M N W O z:=gh.step (w:=w.at d) (hk.at d) D;have R:WR Q M O q z:=by
    rcases n with n | ⟨_,_,_,_,_,_,_,_,n,_⟩
    ·exact n.wr
    ·exact n.wr
   refine⟨S,z,es,h1,D.size,λe he=>iE s R (h4 e he),?_⟩;rcases n with n | ⟨C,k,a,L,c,I,pre,j,n,rfl,rfl⟩
   ·exact T (g1,q) (.single V) n s B A hp rfl
   ·exact hK O C k a L c I pre j q z i n s B A hp λσ2 G o t y l s1 s2 s3 s4 X Y=>T (G,o) (Y.tail V) s1 s2 s3 s4 X rfl
end
end
section
open Go.Conc Go.ConcN Go.Sim
abbrev Bs:=NA->Prop
structure St where
 S:Bs
 g:NF
 w:Nt
inductive Rk where
 | leaf
 | nd (f:St->Rk)
def Rk.sub:Rk->Rk->Prop
 | _,.leaf=>RI
 | x,.nd f=>∃s,x=f s
def Rk.acc:∀r:Rk,Acc Rk.sub r
 | .leaf=>.intro _ λ_ h=>h.elim
 | .nd f=>.intro _ λ_ ⟨s,e⟩=>e ▸ Rk.acc (f s)
def grow(S:Bs)(w a:Nt):Bs:=λb=>S b\/(w.heap.size<=b/\b<a.heap.size)
structure RC(Fz:Bs)(K:Nt->Nt->Prop)(S:Bs)(w w₁:Nt):Prop where
 own:∀b,S b->w₁.heap[b]?=w.heap[b]?
 fz:∀b,Fz b->w₁.heap[b]?=w.heap[b]?
 size:w.heap.size<=w₁.heap.size
 os:w₁.os=w.os
 output:w₁.output=w.output
 k:K w w₁
def EvC(Fz S:Bs)(a:NA)(e:Pz):Prop :=
 dM e/\(∀m,e.loc=.mark m->m=.noRoom)/\∀x,(PG e).touch?=Nq x->∀b,blk x.loc=Nq b->b<a/\x.kind=.plain/\(S b\/(Fz b/\x.write=NC))
structure DC(Fz:Bs)(S:Bs)(w w':Nt)(es:NJ Pz):Prop where
 keep:∀b,b<w.heap.size->¬ S b->w'.heap[b]?=w.heap[b]?
 size:w.heap.size<=w'.heap.size
 os:w'.os=w.os
 output:w'.output=w.output
 evs:∀e∈es,EvC Fz (grow S w w') w'.heap.size e
section
variable(P:NR)(Fz:Bs)(K:Nt->Nt->Prop)(Stop:Bs->NF->Nt->Prop)
def Cot:Rk->Bs->NF->Nt->Prop
 | .leaf,S,g,w=>∀w₁,RC Fz K S w w₁->Stop S g w₁
 | .nd f,S,g,w=>g.status=.running/\∀w₁,RC Fz K S w w₁->∃g' w' es,Pj P NC g w₁=.go g' w' es/\DC Fz S w₁ w' es/\Cot (f ⟨grow S w₁ w',g',w'⟩) (grow S w₁ w') g' w'
def az(S:Bs)(g:NF)(w:Nt):Prop:=∃r,Cot P Fz K Stop r S g w
end
section
variable{P:NR}{Fz:Bs}{K:Nt->Nt->Prop}{Stop:Bs->NF->Nt->Prop}{S:Bs}{g:NF}{w w₁ w₂:Nt}
def RC.trans(f:∀a b c,K a b->K b c->K a c)(h:RC Fz K S w w₁)(d:RC Fz K S w₁ w₂):RC Fz K S w w₂ :=
 ⟨λb e=>(d.own b e).trans (h.own b e),λb e=>(d.fz b e).trans (h.fz b e),NM h.size d.size,d.os.trans h.os,d.output.trans h.output,f _ _ _ h.k d.k⟩
def az.stop(h:∀w₁,RC Fz K S w w₁->Stop S g w₁):az P Fz K Stop S g w:=⟨.leaf,h⟩
def az.step(e:g.status=.running)(h:∀w₁,RC Fz K S w w₁->∃b a d,Pj P NC g w₁=.go b a d/\DC Fz S w₁ a d/\az P Fz K Stop (grow S w₁ a) b a):az P Fz K Stop S g w:=by
 classical
 refine⟨.nd λs=>if c:∃r,Cot P Fz K Stop r s.S s.g s.w then QY c else .leaf,e,λw₁ h₁=>?_⟩;have⟨b,a,d,j,i,f⟩:=h w₁ h₁;refine⟨b,a,d,j,i,?_⟩;have c:∃r,Cot P Fz K Stop r (grow S w₁ a) b a:=f;dsimp only;rw[dif_pos c];exact Ry c
def Cot.rely(e:∀a b c,K a b->K b c->K a c){r:Rk}(h:Cot P Fz K Stop r S g w)(d:RC Fz K S w w₁):Cot P Fz K Stop r S g w₁:=by
 cases r with
 | leaf=>exact λw₂ h₂=>h w₂ (d.trans e h₂)
 | nd f=>exact⟨h.1,λw₂ h₂=>h.2 w₂ (d.trans e h₂)⟩
def az.rely(e:∀a b c,K a b->K b c->K a c)(h:az P Fz K Stop S g w)(d:RC Fz K S w w₁):az P Fz K Stop S g w₁:=let ⟨r,h⟩:=h;⟨r,h.rely e d⟩
def zr(S:Bs)(w:Nt):DC Fz S w w #[]:=⟨λ_ _ _=>rfl,Nv _,rfl,rfl,by simp⟩
def jq(S:Bs)(w:Nt):grow S w w=S:=by
 funext b
 simp only[grow,eq_iff_iff];exact⟨λh=>h.elim id λ⟨a,b⟩=>by omega,.inl⟩
def az.still{a:NF}(b:g.status=.running)(h:∀w₁,RC Fz K S w w₁->Pj P NC g w₁=.go a w₁ #[])(c:∀w₁,RC Fz K S w w₁->az P Fz K Stop S a w₁):az P Fz K Stop S g w :=
 .step b λw₁ h₁=>⟨a,w₁,#[],h w₁ h₁,zr S w₁,by rw[jq];exact c w₁ h₁⟩
end
end
end Go.Co
namespace Go.Sim
section
section
variable[JunkSet]{P:NR}{c1 c2:NS}{e1 e2:Nu NS}
def Und(c1 c2:NS)(e1 e2:Nu NS)(r b:QE):Prop:=∀g1 u1 a,r=.go g1 u1 a->Live g1->Cz g1 ->
 (∃pre,g1.callers=pre++c1::e1/\b=.go { g1 with callers:=pre++c2::e2 } u1 a) \/
 (∃W:NS->NS,((∃v,W=(·.finish v))\/W=id)/\g1.frame=W c1/\g1.callers=e1/\b=.go { g1 with frame:=W c2,callers:=e2 } u1 a) \/
 (∃c,g1.frame=c1.raise c/\g1.callers=e1)
def iS{r c:QE}{d:NJ Pz}(h:Und c1 c2 e1 e2 r c):Und c1 c2 e1 e2 (Pm d r) (Pm d c):=λn u1 l e g f=>by
 obtain⟨o,k,rfl⟩:=dc e;rcases h _ _ _ k g f with⟨pre,a,b⟩ | ⟨W,a,b,j,i⟩ | a
 ·exact .inl ⟨pre,a,by rw[b];rfl⟩
 ·exact .inr (.inl ⟨W,a,b,j,by rw[i];rfl⟩)
 ·exact .inr (.inr a)
def bw{o:Wu}{u:Nt}{b:NJ Pz}{a:QE}:Und c1 c2 e1 e2 (.ended o u b) a:=λ_ _ _ e _ _=>by cases e
def kH{r b:QE}(h:∀g u a,r≠.go g u a):Und c1 c2 e1 e2 r b:=λg u a e _ _=>absurd e (h g u a)
def IB{g:NF}{u:Nt}{c:NJ Pz}{a:QE}(h:¬ Live g):Und c1 c2 e1 e2 (.go g u c) a:=λ_ _ _ e b _=>by cases e;exact absurd b h
def xq{c:NS}{d:Nu NS}{m:String}{u:Nt}{a:QE}:Und c1 c2 e1 e2 (Vo P c d Ns m u) a:=λf u1 g e b _=>absurd b.2 (bD e)
def qH{b:NS}{m:String}{u:Nt}{a:QE}:Und c1 c2 e1 e2 (UL b m u) a:=IB λh=>by cases h.2
def eU{c:NS}{pre:Nu NS}{b:QS}{f:NO TC}{a:NO (NJ Rf × QK)}{u:Nt}{d:NJ Pz} :Und c1 c2 e1 e2 (.go { frame:=c,callers:=pre++c1::e1,status:=b,dying:=f,offers:=a } u d) (.go { frame:=c,callers:=pre++c2::e2,status:=b,dying:=f,offers:=a } u d):=λ_ _ _ e _ _=>by
 cases e;exact .inl ⟨pre,rfl,rfl⟩
def Br{d a:NS}{pre:Nu NS}{c:QS}{f:NO TC}{b:NO (NJ Rf × QK)}{u:Nt}{e:NJ Pz} :Und c1 c2 e1 e2 (.go { frame:=d,callers:=a::(pre++c1::e1),status:=c,dying:=f,offers:=b } u e) (.go { frame:=d,callers:=a::(pre++c2::e2),status:=c,dying:=f,offers:=b } u e) :=
 eU (pre:=a::pre)
def Ky{d a:NS}{X pre:Nu NS}{c:QS}{g:NO TC}{b:NO (NJ Rf × QK)}{u:Nt}{f:NJ Pz} :Und c1 c2 e1 e2 (.go { frame:=d,callers:=X++a::(pre++c1::e1),status:=c,dying:=g,offers:=b } u f) (.go { frame:=d,callers:=X++a::(pre++c2::e2),status:=c,dying:=g,offers:=b } u f):=λ_ _ _ e _ _=>by
 cases e;exact .inl ⟨X++a::pre,by simp,by simp⟩
def EH{c:NS}{l:Nu NS}{d:QS}{j:NO TC}{b:NO (NJ Rf × QK)}{u:Nt}{i:NJ Pz}{f:QE}{x:String}{a:NJ Ny}{k:Nu Si}(h:c.todo=.extern x a::k):Und c1 c2 e1 e2 (.go { frame:=c,callers:=l,status:=d,dying:=j,offers:=b } u i) f:=λ_ _ _ e _ g=>by
 cases e;exact absurd h (g _ _ _)
structure pV(c1 c2:NS)(e1 e2:Nu NS):Prop where
 m1:c1.mode=.run
 m2:c2.mode=.run
 r1:∀fr,Ou fr (c1::e1)=Ns
 r2:∀fr,Ou fr (c2::e2)=Ns
def yz{c:NS}{e:Nu NS}(hm:c.mode=.run)(b:∀a,Ou a e=Ns)(a:NS):Ou a (c::e)=Ns:=by
 unfold Ou;cases a.kind with
 | deferred=>simp[hm]
 | wrapped=>simp[b]
 | _=>rfl
def qI(e:pV c1 c2 e1 e2):∀(pre:Nu NS) (b:NS),(Ou b (pre++c1::e1)=Ns/\Ou b (pre++c2::e2)=Ns)\/∃v a,Ou b (pre++c1::e1)=Nq (v,a++c1::e1)/\Ou b (pre++c2::e2)=Nq (v,a++c2::e2):=by
 intro pre;induction pre with
 | nil=>intro b;exact .inl ⟨e.r1 b,e.r2 b⟩
 | cons p pre f=>
  intro b;simp only[Oa];unfold Ou;cases hk:b.kind with
  | deferred=>
   dsimp only;split
   ·exact .inr ⟨_,_::pre,rfl,rfl⟩
   ·exact .inl ⟨rfl,rfl⟩
  | wrapped=>
   dsimp only;rcases f p with⟨d,c⟩ | ⟨v,a,d,c⟩
   ·rw[d,c];exact .inl ⟨rfl,rfl⟩
   ·rw[d,c];exact .inr ⟨v,p::a,rfl,rfl⟩
  | _=>exact .inl ⟨rfl,rfl⟩
def oz(c:pV c1 c2 e1 e2){a:NS}{pre:Nu NS}(b d:OI)(v:Ny)(u:Nt):Und c1 c2 e1 e2 (Qg P b a (pre++c1::e1) Ns v u) (Qg P d a (pre++c2::e2) Ns v u):=by
 unfold Qg;cases pre with
 | nil=>
  simp only[On,c.m1,c.m2];intro f u1 g e _ _;cases hk:a.kind<;>simp only[hk] at e ⊢<;>cases e
  ·exact .inr (.inl ⟨(·.finish v),.inl ⟨v,rfl⟩,rfl,rfl,rfl⟩)
  ·exact .inr (.inl ⟨id,.inr rfl,rfl,rfl,rfl⟩)
  ·exact .inr (.inl ⟨(·.finish v),.inl ⟨v,rfl⟩,rfl,rfl,rfl⟩)
  ·exact .inr (.inl ⟨id,.inr rfl,rfl,rfl,rfl⟩)
  ·exact .inr (.inl ⟨id,.inr rfl,rfl,rfl,rfl⟩)
 | cons p pre=>
  simp only[Oa];split<;>exact eU
def EI{a:NS}{pre:Nu NS}(g:NA)(u:Nt):Und c1 c2 e1 e2 (early P a (pre++c1::e1) Ns g u) (early P a (pre++c2::e2) Ns g u):=by
 unfold early;dsimp only
 repeat' split
 all_goals first
  | exact eU
  | exact bw
  | exact Ky
def kI(hrf:P.follows .rangeFuncRecover=NB)(h:pV c1 c2 e1 e2){b:NS}{pre:Nu NS}(s:Rw SX)(u:Nt):Und c1 c2 e1 e2 (Pw P NB b (pre++c1::e1) Ns s u) (Pw P NB b (pre++c2::e2) Ns s u):=by
 unfold Pw;simp only[if_true,OL,hrf];refine iS ?_;cases s.run P u with
 | ok a w=>
  cases a with
  | recover=>
   rcases qI h pre b with⟨g,f⟩ | ⟨v,c,g,f⟩<;>cases hro:b.roundOf<;>simp only[g,f,hro]<;>exact eU
  | stack r i=>
   dsimp only;split
   ·exact EH rfl
   ·exact EH rfl
  | spawn d=>
   dsimp only
   repeat' split
   all_goals first
    | exact qH
    | exact kH (λ_ _ _ e=>by cases e)
  | _=>
   dsimp only
   repeat' split
   all_goals first
    | exact eU
    | exact Br
    | exact kH (λ_ _ _ e=>by cases e)
 | halt x w=>
  cases x with
  | fatal m=>exact xq
  | throw m=>exact qH
  | unsupported x=>cases x<;>first | exact EI _ _ | exact bw
  | _=>first | exact eU | exact bw
def xr(s:pV c1 c2 e1 e2){f:NS}{pre:Nu NS}(d:Qa)(u:Nt):Und c1 c2 e1 e2 (Qd P f (pre++c1::e1) Ns d u) (Qd P f (pre++c2::e2) Ns d u):=by
 unfold Qd;by_cases g:(hU d.target && gZ f.mode)=NB
 ·have:∀(a b j:QE),(∃o u p,a=.ended o u p)->Und c1 c2 e1 e2 (if(hU d.target && gZ f.mode)=NB then a else b) j:=λa b j ⟨o,u,p,e⟩=>by
   rw[if_pos g,e];exact bw
  exact this _ _ _ ⟨_,_,_,rfl⟩
 have h:∀(a b q i:QE),Und c1 c2 e1 e2 b i->Und c1 c2 e1 e2 (if(hU d.target && gZ f.mode)=NB then a else b) (if(hU d.target && gZ f.mode)=NB then q else i):=λa b q i r=>by rw[if_neg g,if_neg g];exact r
 refine h _ _ _ _ ?_;simp only[OL];refine iS ?_;cases Pr P (invoke d.target d.args) u with
 | ok a w=>
  cases a with
  | recover=>
   dsimp only;rcases qI s pre f with⟨n,l⟩ | ⟨v,k,n,l⟩<;>rw[n,l]<;>cases f.mode<;>exact eU
  | coroswitch c e=>cases e<;>first | exact bw | exact kH (λ_ _ _ e=>by cases e)
  | alone on v=>cases on<;>first | exact bw | exact kH (λ_ _ _ e=>by cases e)
  | _=>
   first
    | exact eU
    | exact Br
    | exact bw
    | exact kH (λ_ _ _ e=>by cases e)
 | halt x w=>
  cases x with
  | fatal m=>exact xq
  | throw m=>exact qH
  | _=>first | exact eU | exact bw
def tL(a:pV c1 c2 e1 e2){c:NS}{pre:Nu NS}(b d:OI)(u:Nt):Und c1 c2 e1 e2 (SS P b c (pre++c1::e1) Ns u) (SS P d c (pre++c2::e2) Ns u):=by
 unfold SS;split
 ·simp only[OL];refine iS ?_;split
  ·exact eU
  ·exact bw
 ·exact xr a _ _
 ·split
  ·exact bw
  ·split
   ·exact bw
   ·cases pre with
    | nil=>
     intro f u1 g e _ _;cases e;exact .inr (.inr ⟨_,rfl,rfl⟩)
    | cons p pre=>exact eU
  ·split
   ·exact oz a _ _ _ _
   ·simp only[OL];refine iS ?_;split
    ·exact oz a _ _ _ _
    all_goals exact bw
def IA(hrf:P.follows .rangeFuncRecover=NB)(c:pV c1 c2 e1 e2){fr:NS}{pre:Nu NS}(b f:OI)(u:Nt) :Und c1 c2 e1 e2 (Re P b NB fr (pre++c1::e1) Ns u) (Re P f NB fr (pre++c2::e2) Ns u):=by
 have a:∀(j:OI) (e:NO Qs) (s d:String),Und c1 c2 e1 e2 (match fr.roundOf with
   | none=>if j=NB then .go { frame:={ fr with mode:=.returning },callers:=pre++c1::e1,status:=.running,dying:=Ns } u else .ended (.stuck s (fr.pos P)) u
   | some l=>
    let (r,es):=(QR l e).runT P u #[]
    Pm (Wa P fr.fn es) <| match r with
    | .ok v w=>Qg P b fr (pre++c1::e1) Ns v w
    | .halt _ w=>.ended (.stuck d (fr.pos P)) w) (match fr.roundOf with
   | none=>if j=NB then .go { frame:={ fr with mode:=.returning },callers:=pre++c2::e2,status:=.running,dying:=Ns } u else .ended (.stuck s (fr.pos P)) u
   | some l=>
    let (r,es):=(QR l e).runT P u #[]
    Pm (Wa P fr.fn es) <| match r with
    | .ok v w=>Qg P f fr (pre++c2::e2) Ns v w
    | .halt _ w=>.ended (.stuck d (fr.pos P)) w):=λj e s d=>by
  split
  ·split
   ·exact eU
   ·exact bw
  ·simp only[OL];refine iS ?_;split
   ·exact oz c _ _ _ _
   ·exact bw
 unfold Re;dsimp only;split
 ·exact a NB _ _ _
 ·exact a NB _ _ _
 all_goals first
  | exact eU
  | exact bw
  | exact kI hrf c _ _
  | (
    generalize TU _ _=X;cases X
    ·exact a NC _ _ _
    ·exact eU)
  | (
    generalize Uw _ _=X;cases X
    ·exact a NC _ _ _
    ·exact eU)
  | (
    unfold Va
    repeat' split
    all_goals first
     | exact eU
     | exact bw
     | exact kI hrf c _ _)
  | (
    simp only[OL];refine iS ?_
    repeat' split
    all_goals first
     | exact eU
     | exact bw
     | exact kI hrf c _ _)
  | (
    repeat' split
    all_goals first
     | exact eU
     | exact bw
     | exact kI hrf c _ _)
  | (
    generalize Extern.next _=X
    cases X
    ·exact bw
    ·exact kI hrf c _ _)
def zP(hrf:P.follows .rangeFuncRecover=NB)(c:pV c1 c2 e1 e2){g:NF}{pre:Nu NS}(h:g.callers=pre++c1::e1)(d:g.dying=Ns)(b a:OI)(u:Nt) :Und c1 c2 e1 e2 (Pj P b g u NB) (Pj P a { g with callers:=pre++c2::e2 } u NB):=by
 obtain⟨f,k,i,j,e⟩:=g;dsimp only at h d;subst d;subst h;unfold Pj;dsimp only;cases f.mode with
 | run=>exact IA hrf c b a u
 | returning=>exact tL c b a u
 | panicking l=>exact tL c b a u
end
end
section
def tl(k:Nu Si)(D:Nu Qa)(fr:NS):NS:={ fr with todo:=fr.todo++k,defers:=fr.defers++D }
def Kr:Si->OI
 | .call .. | .extern ..=>NC
 | _=>NB
structure Pc(fr:NS):Prop where
 mode:fr.mode=.run
 round:fr.roundOf=Ns
 todo:∃x l,fr.todo=x::l/\Kr x=NB
section
variable[JunkSet]{P:NR}{k:Nu Si}{D:Nu Qa}{e1 e2:Nu NS}
def Top(k:Nu Si)(D:Nu Qa)(e1 e2:Nu NS)(r b:QE):Prop:=∀g1 u1 a,r=.go g1 u1 a->Live g1->Cz g1 ->
 (g1.callers=e1/\g1.frame.mode=.run/\g1.frame.roundOf=Ns/\b=.go { g1 with frame:=tl k D g1.frame,callers:=e2 } u1 a) \/
 (∃pre c,g1.callers=pre++c::e1/\Pc c/\b=.go { g1 with callers:=pre++tl k D c::e2 } u1 a) \/
 (g1.callers=e1/\g1.frame.mode≠.run)
def qK{r f:QE}{g:NJ Pz}(h:Top k D e1 e2 r f):Top k D e1 e2 (Pm g r) (Pm g f):=λp u1 o e j i=>by
 obtain⟨q,n,rfl⟩:=dc e;rcases h _ _ _ n j i with⟨a,d,b,l⟩ | ⟨pre,c,a,d,b⟩ | a
 ·exact .inl ⟨a,d,b,by rw[l];rfl⟩
 ·exact .inr (.inl ⟨pre,c,a,d,by rw[b];rfl⟩)
 ·exact .inr (.inr a)
def da{o:Wu}{u:Nt}{b:NJ Pz}{a:QE}:Top k D e1 e2 (.ended o u b) a:=λ_ _ _ e _ _=>by cases e
def xB{r b:QE}(h:∀g u a,r≠.go g u a):Top k D e1 e2 r b:=λg u a e _ _=>absurd e (h g u a)
def qj{g:NF}{u:Nt}{c:NJ Pz}{a:QE}(h:¬ Live g):Top k D e1 e2 (.go g u c) a:=λ_ _ _ e b _=>by cases e;exact absurd b h
def ER{c:NS}{d:Nu NS}{m:String}{u:Nt}{a:QE}:Top k D e1 e2 (Vo P c d Ns m u) a:=λf u1 g e b _=>absurd b.2 (bD e)
def xA{b:NS}{m:String}{u:Nt}{a:QE}:Top k D e1 e2 (UL b m u) a:=qj λh=>by cases h.2
def EP{fr:NS}(hm:fr.mode=.run)(g:fr.roundOf=Ns){c:QS}{f:NO TC}{a:NO (NJ Rf × QK)}{u:Nt}{d:NJ Pz}{b:NS}(e:b=tl k D fr) :Top k D e1 e2 (.go { frame:=fr,callers:=e1,status:=c,dying:=f,offers:=a } u d) (.go { frame:=b,callers:=e2,status:=c,dying:=f,offers:=a } u d):=λ_ _ _ h _ _=>by
 cases h;exact .inl ⟨rfl,hm,g,by rw[e]⟩
def ni{d c:NS}(g:Pc c){X:Nu NS}{b:QS}{f:NO TC}{a:NO (NJ Rf × QK)}{u:Nt}{e:NJ Pz} :Top k D e1 e2 (.go { frame:=d,callers:=X++c::e1,status:=b,dying:=f,offers:=a } u e) (.go { frame:=d,callers:=X++tl k D c::e2,status:=b,dying:=f,offers:=a } u e):=λ_ _ _ h _ _=>by
 cases h;exact .inr (.inl ⟨X,c,rfl,g,rfl⟩)
def KA{c:NS}{n:Nu NS}{d:QS}{j:NO TC}{b:NO (NJ Rf × QK)}{u:Nt}{i:NJ Pz}{f:QE}{x:String}{a:NJ Ny}{l:Nu Si}(h:c.todo=.extern x a::l):Top k D e1 e2 (.go { frame:=c,callers:=n,status:=d,dying:=j,offers:=b } u i) f:=λ_ _ _ e _ g=>by
 cases e;exact absurd h (g _ _ _)
def vw{b:NS}(hm:b.mode≠.run){c:QS}{f:NO TC}{a:NO (NJ Rf × QK)}{u:Nt}{e:NJ Pz}{d:QE} :Top k D e1 e2 (.go { frame:=b,callers:=e1,status:=c,dying:=f,offers:=a } u e) d:=λ_ _ _ h _ _=>by
 cases h;exact .inr (.inr ⟨rfl,hm⟩)
def gL(a:NS)(b:Nu Tu):(a.raise b).mode≠.run:=by
 unfold WZ;split<;>simp
def ID(a:NS):(tl k D a).eval=a.eval:=by funext x;cases x<;>rfl
def tP{a:NS}(h:Pc a)(v:Ny):(tl k D a).finish v=tl k D (a.finish v):=by
 have⟨x,l,e,i⟩:=h.todo;obtain⟨p,d,c,b,f,g,o⟩:=a;dsimp only at e;subst e;unfold tl Wt;cases x with
 | inRegion j n=>cases n<;>rfl
 | call=>cases i
 | extern=>cases i
 | _=>rfl
def lq(a:NS)(v:Ny):(a.finish v).mode=a.mode/\(a.finish v).kind=a.kind/\(a.finish v).roundOf=a.roundOf:=by
 unfold Wt;split<;>exact⟨rfl,rfl,rfl⟩
def qJ{b:NS}(h:Pc b)(v:Ny){c:QS}{e:NO TC}{a:NO (NJ Rf × QK)}{u:Nt}{d:NJ Pz} :Top k D e1 e2 (.go { frame:=b.finish v,callers:=e1,status:=c,dying:=e,offers:=a } u d) (.go { frame:=(tl k D b).finish v,callers:=e2,status:=c,dying:=e,offers:=a } u d):=by
 have⟨g,i,f⟩:=lq b v;exact EP (g.trans h.mode) (f.trans h.round) (tP h v)
def ES{a:NS}(h:Pc a)(g:NA)(u:Nt):Top k D e1 e2 (early P a e1 Ns g u) (early P (tl k D a) e2 Ns g u):=by
 have c:∀{u:Nt} {es:NJ Pz},Top k D e1 e2 (.go { frame:=a,callers:=e1,status:=.running,dying:=Ns } u es) (.go { frame:=tl k D a,callers:=e2,status:=.running,dying:=Ns } u es):=EP h.mode h.round rfl;unfold early;have b:(tl k D a).kind=a.kind:=rfl;dsimp only;simp only[b]
 repeat' split
 all_goals first
  | exact c
  | exact da
  | exact ni h
def xC(hrf:P.follows .rangeFuncRecover=NB)(p:∀fr,Ou fr e1=Ns)(o:∀fr,Ou fr e2=Ns){fr:NS}(h:Pc fr)(s:Rw SX)(u:Nt):Top k D e1 e2 (Pw P NB fr e1 Ns s u) (Pw P NB (tl k D fr) e2 Ns s u):=by
 obtain⟨fn,tmps,todo,defers,mode,kind,I⟩:=fr;obtain⟨B,A,z⟩:=h;dsimp only at B A;subst B A;obtain⟨fr,c⟩:∃fr:NS,fr={ fn,tmps,todo,defers,mode:=.run,kind,roundOf:=Ns }:=⟨_,rfl⟩;have h:Pc { fn,tmps,todo,defers,mode:=.run,kind,roundOf:=Ns }:=⟨rfl,rfl,z⟩;rw[<- c] at h ⊢;have⟨x,l,e,j⟩:=h.todo;have n:(tl k D fr).roundOf=Ns:=h.round;have q:(tl k D fr).kind=fr.kind:=rfl;have y:(tl k D fr).fn=fr.fn:=rfl;have i:(tl k D fr).todo=x::(l++k):=by show fr.todo++k=_;rw[e];rfl
 have F:∀d:Qa,({ (tl k D fr) with defers:=d::(tl k D fr).defers }:NS)=tl k D { fr with defers:=d::fr.defers }:=λd=>rfl;unfold Pw;simp only[if_true,OL,hrf,h.round,n,q,y];refine qK ?_;cases s.run P u with
 | ok a w=>
  cases a with
  | recover=>
   simp only[p,o];exact qJ h _
  | stack r C=>
   dsimp only;rw[e,i];cases x<;>first | (cases j;done) | exact KA rfl
  | spawn d=>
   dsimp only
   repeat' split
   all_goals first
    | exact xA
    | exact xB (λ_ _ _ e=>by cases e)
  | value v=>exact qJ h v
  | skip=>exact qJ h _
  | defer d=>
   subst c;have G:Pc { fn,tmps,todo,defers:=d::defers,mode:=.run,kind,roundOf:=Ns }:=⟨rfl,rfl,z⟩;exact qJ (k:=k) (D:=D) G NG
  | enter f g=>
   dsimp only;rw[e,i];cases x<;>first | (cases j;done) | exact(ni (X:=[]) h)
  | callThen d r C wr=>
   dsimp only;rw[e,i];cases x<;>first | (cases j;done) | exact(ni (X:=[]) h)
  | row r g=>
   dsimp only;rw[e,i];cases x<;>first | (cases j;done) | exact(ni (X:=[]) h)
  | round l f H M L=>exact(ni (X:=[]) h)
  | sleep t=>exact qj λb=>by cases b.1
  | _=>exact xB (λ_ _ _ e=>by cases e)
 | halt x w=>
  cases x with
  | fatal m=>exact ER
  | throw m=>exact xA
  | unsupported x=>cases x<;>first | exact ES h _ _ | exact da
  | panic v=>exact vw (gL _ _)
  | goexit=>exact vw (gL _ _)
  | blocked=>exact qj λb=>by cases b.1
  | waiting=>exact qj λb=>by cases b.1
  | _=>exact da
def mW{id:NA}{b:Nu Si}:∀{l:Nu Si},TU id l=Nq b->TU id (l++k)=Nq (b++k)
 | [],h=>by simp[TU] at h
 | x::l,h=>by
  cases x with
  | inBlock c=>
   simp only[TU,Oa] at h ⊢;split
   ·rename_i a;rw[if_pos a] at h;cases h;rfl
   ·rename_i a;rw[if_neg a] at h;exact mW h
  | _=>simp only[TU,Oa] at h ⊢;exact mW h
def mQ{id:NA}{b:Nu Si}:∀{l:Nu Si},Uw id l=Nq b->Uw id (l++k)=Nq (b++k)
 | [],h=>by simp[Uw] at h
 | x::l,h=>by
  cases x with
  | inScope a=>
   simp only[Uw,Oa] at h ⊢;cases hf:findLabel a id with
   | none=>rw[hf] at h;exact mQ h
   | some r=>rw[hf] at h;cases h;rfl
  | _=>simp only[Uw,Oa] at h ⊢;exact mQ h
def ET(hrf:P.follows .rangeFuncRecover=NB)(B:∀fr,Ou fr e1=Ns)(A:∀fr,Ou fr e2=Ns){g:NF}(h:Pc g.frame)(Q:g.callers=e1)(O:g.dying=Ns)(b b':OI)(u:Nt) :Top k D e1 e2 (Pj P b g u NB) (Pj P b' { g with frame:=tl k D g.frame,callers:=e2 } u NB):=by
 obtain⟨⟨fn,tmps,todo,defers,mode,kind,ro⟩,G,st,dy,off⟩:=g;dsimp only at h Q O;subst O;subst Q;obtain⟨T,S,X⟩:=h;dsimp only at T S;subst T S;obtain⟨fr,C⟩:∃fr:NS,fr={ fn,tmps,todo,defers,mode:=.run,kind,roundOf:=Ns }:=⟨_,rfl⟩;have h:Pc { fn,tmps,todo,defers,mode:=.run,kind,roundOf:=Ns }:=⟨rfl,rfl,X⟩;rw[<- C] at h ⊢;have⟨x,l,e,N⟩:=h.todo;have hm:=h.mode;have p:=h.round;have o:∀(t:Nu Si) {st:QS} {dy:NO TC} {off:NO (NJ Rf × QK)} {u:Nt} {es:NJ Pz},
   Top k D G e2 (.go { frame:={ fr with todo:=t },callers:=G,status:=st,dying:=dy,offers:=off } u es) (.go { frame:={ (tl k D fr) with todo:=t++k },callers:=e2,status:=st,dying:=dy,offers:=off } u es):=λt=>EP (fr:={ fr with todo:=t }) h.mode h.round rfl
 have R:∀(s:Rw SX) (u:Nt),Top k D G e2 (Pw P NB fr G Ns s u) (Pw P NB (tl k D fr) e2 Ns s u):=λs u=>xC hrf B A h s u;have M:(tl k D fr).todo=x::(l++k):=by show fr.todo++k=_;rw[e];rfl
 have I:(tl k D fr).mode=.run:=hm;have r:(tl k D fr).roundOf=Ns:=p;have F:(tl k D fr).eval=fr.eval:=ID fr;have v:(tl k D fr).fn=fr.fn:=rfl;have z:(tl k D fr).tmps=fr.tmps:=rfl;unfold Pj;dsimp only;rw[hm,I];dsimp only;unfold Re;dsimp only;rw[e,M];cases x with
 | code c=>
  cases c with
  | skip=>exact o l
  | label n=>exact o l
  | seq a b=>exact o (.code a::.code b::l)
  | block id f=>exact o (.code f::.inBlock id::l)
  | loop f=>exact o (.code f::.inLoop f::l)
  | scope f=>exact o (.code f::.inScope f::l)
  | refuse w=>exact da
  | ret=>
   dsimp only;rw[p];exact vw (by simp)
  | cond c a b=>
   dsimp only;rw[F];split
   ·exact o (_::l)
   ·exact da
  | exit id=>
   dsimp only;cases hx:TU id l with
   | none=>simp only[YE,p];exact da
   | some H=>rw[mW hx];exact o H
  | goto id=>
   dsimp only;cases hx:Uw id l with
   | none=>simp only[YE,p];exact da
   | some H=>rw[mQ hx];exact o H
  | region id q U=>
   dsimp only;split
   ·exact o (.inRegion q (Oo q.size)::l)
   ·rw[v];split
    ·exact o (.inRegion q _::l)
    ·exact da
  | rangeFunc Y ps as f=>
   dsimp only;rw[v,z,p,r];simp only[OL];refine qK ?_;split
   ·rename_i y mk w _
    subst C;have W:Pc { fn,tmps,todo:=.inRangeFunc y::l,defers:=mk++defers,mode:=.run,kind,roundOf:=Ns }:=⟨rfl,rfl,_,_,rfl,rfl⟩;have:=xC (k:=k) (D:=D) (e1:=G) (e2:=e2) (P:=P) hrf B A W (do let d <- resolve (Te { fn,tmps,todo:=.inRangeFunc y::l,defers:=mk++defers,mode:=.run,kind,roundOf:=Ns }) { callee:=.value Y,args:=#[.const (.func (.yield y) #[] #[])],argTypes:=#[] } 0;invoke d.target d.args) w;have Z:tl k D { fn,tmps,todo:=.inRangeFunc y::l,defers:=mk++defers,mode:=.run,kind,roundOf:=Ns }={ fn,tmps,todo:=.inRangeFunc y::(l++k),defers:=mk++(defers++D),mode:=.run,kind,roundOf:=Ns }:=by
     simp[tl]
    rw[Z] at this;exact this
   ·exact da
 | inBlock id=>exact o l
 | inScope c=>exact o l
 | inLoop f=>exact o (.code f::.inLoop f::l)
 | inRangeFunc n=>exact da
 | beginRound=>
  dsimp only;rw[p,r];exact R _ u
 | endRangeFunc n=>
  dsimp only;rw[v];simp only[OL];refine qK ?_;split
  ·rename_i j w _
   have:=o ((j.map Item.code).toList++l) (st:=.running) (dy:=Ns) (off:=Ns) (u:=w) (es:=#[]);rw[Qv] at this;exact this
  ·exact vw (gL _ _)
  ·exact da
 | inRegion q L=>
  cases L with
  | nil=>exact o l
  | cons i L=>
   dsimp only;rw[z];split
   ·unfold Va;have V:(tl k D fr).oper?=fr.oper?:=by unfold Frame.oper?;rw[e,M]
    rw[V];split
    ·exact da
    ·rw[p,r,F];exact R _ u
   ·exact qJ h NG
 | call=>cases N
 | extern=>cases N
end
end
section
def Kc(e1:Nu NS)(g:NF):Prop:=(g.callers=e1/\g.frame.mode≠.run)\/∃pre c,g.callers=pre++c::e1/\c.mode≠.run
section
variable[JunkSet]{P:NR}{e1:Nu NS}
def Dm(e1:Nu NS)(r:QE):Prop:=∀a u1 b,r=.go a u1 b->Live a->Kc e1 a\/(∃x,e1=x::a.callers)
def eQ{r:QE}{d:NJ Pz}(h:Dm e1 r):Dm e1 (Pm d r):=λf u1 c e a=>by
 obtain⟨g,b,rfl⟩:=dc e;exact h _ _ _ b a
def aW{o:Wu}{u:Nt}{a:NJ Pz}:Dm e1 (.ended o u a):=λ_ _ _ e _=>by cases e
def fS{r:QE}(h:∀g u a,r≠.go g u a):Dm e1 r:=λg u a e _=>absurd e (h g u a)
def JH{g:NF}{u:Nt}{b:NJ Pz}(h:¬ Live g):Dm e1 (.go g u b):=λ_ _ _ e a=>by cases e;exact absurd a h
def sk{b:NS}{c:Nu NS}{m:String}{u:Nt}:Dm e1 (Vo P b c Ns m u):=λd u1 f e a=>absurd a.2 (bD e)
def oe{a:NS}{m:String}{u:Nt}:Dm e1 (UL a m u):=JH λh=>by cases h.2
def eA{f c:NS}{pre:Nu NS}(d:c.mode≠.run){b:QS}{h:NO TC}{a:NO (NJ Rf × QK)}{u:Nt}{g:NJ Pz} :Dm e1 (.go { frame:=f,callers:=pre++c::e1,status:=b,dying:=h,offers:=a } u g):=λ_ _ _ e _=>by
 cases e;exact .inl (.inr ⟨pre,c,rfl,d⟩)
def Cn{f a c:NS}{pre:Nu NS}(e:c.mode≠.run){d:QS}{h:NO TC}{b:NO (NJ Rf × QK)}{u:Nt}{g:NJ Pz} :Dm e1 (.go { frame:=f,callers:=a::(pre++c::e1),status:=d,dying:=h,offers:=b } u g):=eA (pre:=a::pre) e
def Lu{g a c:NS}{X pre:Nu NS}(f:c.mode≠.run){d:QS}{i:NO TC}{b:NO (NJ Rf × QK)}{u:Nt}{h:NJ Pz} :Dm e1 (.go { frame:=g,callers:=X++a::(pre++c::e1),status:=d,dying:=i,offers:=b } u h):=λ_ _ _ e _=>by
 cases e;exact .inl (.inr ⟨X++a::pre,c,by simp,f⟩)
def iJ{b:NS}(d:b.mode≠.run){c:QS}{g:NO TC}{a:NO (NJ Rf × QK)}{u:Nt}{f:NJ Pz} :Dm e1 (.go { frame:=b,callers:=e1,status:=c,dying:=g,offers:=a } u f):=λ_ _ _ e _=>by
 cases e;exact .inl (.inl ⟨rfl,d⟩)
def AX:∀(pre:Nu NS) (b c:NS) (v:Ny) (d:Nu NS),c.mode≠.run->Ou b (pre++c::e1)=Nq (v,d)->(∀b,Ou b e1=Ns)->∃a f,d=a++f::e1/\f.mode≠.run:=by
 intro pre;induction pre with
 | nil=>
  intro b c v d i h hR;simp only[On] at h;unfold Ou at h;cases hk:b.kind with
  | deferred=>
   rw[hk] at h;dsimp only at h;split at h
   ·simp only[OM,Prod.mk.injEq] at h;exact⟨[],_,h.2.symm,by simp⟩
   ·cases h
  | wrapped=>
   rw[hk] at h;dsimp only at h;rw[hR] at h;cases h
  | _=>rw[hk] at h;cases h
 | cons p pre j=>
  intro b c v d i h hR;simp only[Oa] at h;unfold Ou at h;cases hk:b.kind with
  | deferred=>
   rw[hk] at h;dsimp only at h;split at h
   ·simp only[OM,Prod.mk.injEq] at h;exact⟨_::pre,c,h.2.symm,i⟩
   ·cases h
  | wrapped=>
   rw[hk] at h;dsimp only at h;cases ht:Ou p (pre++c::e1) with
   | none=>rw[ht] at h;cases h
   | some x=>
    obtain⟨k,l⟩:=x;rw[ht] at h;simp only[Pp,OM,Prod.mk.injEq] at h;have⟨a,f,e,g⟩:=j _ _ _ _ i ht hR;exact⟨p::a,f,by rw[<- h.2,e];rfl,g⟩
  | _=>rw[hk] at h;cases h
def uU(a:NS)(v:Ny):(a.finish v).mode=a.mode:=(lq a v).1
def oV{d c:NS}{pre:Nu NS}(a:c.mode≠.run)(b:OI)(v:Ny)(u:Nt):Dm e1 (Qg P b d (pre++c::e1) Ns v u):=by
 unfold Qg;cases pre with
 | nil=>
  simp only[On];split
  ·exact iJ (by rw[uU];exact a)
  ·exact iJ (by rw[uU];exact a)
  ·exact iJ a
  ·refine iJ ?_;split
   ·split<;>simp
   ·exact a
 | cons p pre=>
  simp only[Oa];split<;>exact eA a
def Hr{b c:NS}{pre:Nu NS}(a:c.mode≠.run)(g:NA)(u:Nt):Dm e1 (early P b (pre++c::e1) Ns g u):=by
 unfold early;dsimp only
 repeat' split
 all_goals first
  | exact eA a
  | exact aW
  | exact Lu a
variable(hrf:P.follows .rangeFuncRecover=NB)(hR:∀fr,Ou fr e1=Ns)
include hR
theorem Hp{g c:NS}{pre:Nu NS}(i:c.mode≠.run){v:Ny}{d:Nu NS}(h:Ou g (pre++c::e1)=Nq (v,d)){b:NS}{u:Nt}{j:NJ Pz}:Dm e1 (.go { frame:=b,callers:=d,status:=.running,dying:=Ns } u j):=by
 have⟨f,k,e,a⟩:=AX pre g c v d i h hR;rw[e];exact eA a
theorem lA(hrf:P.follows .rangeFuncRecover=NB){f c:NS}{pre:Nu NS}(b:c.mode≠.run)(s:Rw SX)(u:Nt):Dm e1 (Pw P NB f (pre++c::e1) Ns s u):=by
 unfold Pw;simp only[if_true,OL,hrf];refine eQ ?_;cases s.run P u with
 | ok a w=>
  cases a with
  | recover=>
   rcases hX:Ou f (pre++c::e1) with _ | ⟨v,k⟩<;>cases hro:f.roundOf<;>simp only[hX,hro]<;>first | exact Hp hR b hX | exact eA b
  | spawn d=>
   dsimp only
   repeat' split
   all_goals first
    | exact oe
    | exact fS (λ_ _ _ e=>by cases e)
  | _=>
   dsimp only
   repeat' split
   all_goals first
    | exact eA b
    | exact Cn b
    | exact fS (λ_ _ _ e=>by cases e)
 | halt x w=>
  cases x with
  | fatal m=>exact sk
  | throw m=>exact oe
  | unsupported x=>cases x<;>first | exact Hr b _ _ | exact aW
  | _=>first | exact eA b | exact aW
theorem zq{h c:NS}{pre:Nu NS}(g:c.mode≠.run)(d:Qa)(u:Nt):Dm e1 (Qd P h (pre++c::e1) Ns d u):=by
 unfold Qd;by_cases f:(hU d.target && gZ h.mode)=NB
 ·have:∀(a b:QE),(∃o u j,a=.ended o u j)->Dm e1 (if(hU d.target && gZ h.mode)=NB then a else b):=λa b ⟨o,u,j,e⟩=>by
   rw[if_pos f,e];exact aW
  exact this _ _ ⟨_,_,_,rfl⟩
 have i:∀(a b:QE),Dm e1 b->Dm e1 (if(hU d.target && gZ h.mode)=NB then a else b):=λa b k=>by rw[if_neg f];exact k
 refine i _ _ ?_;simp only[OL];refine eQ ?_;cases Pr P (invoke d.target d.args) u with
 | ok a w=>
  cases a with
  | recover=>
   dsimp only;split
   ·rename_i l
    exact Hp hR g l
   ·exact eA g
  | coroswitch c e=>cases e<;>first | exact aW | exact fS (λ_ _ _ e=>by cases e)
  | alone on v=>cases on<;>first | exact aW | exact fS (λ_ _ _ e=>by cases e)
  | _=>
   first
    | exact eA g
    | exact Cn g
    | exact aW
    | exact fS (λ_ _ _ e=>by cases e)
 | halt x w=>
  cases x with
  | fatal m=>exact sk
  | throw m=>exact oe
  | _=>first | exact eA g | exact aW
theorem uX{d c:NS}{pre:Nu NS}(a:c.mode≠.run)(b:OI)(u:Nt):Dm e1 (SS P b d (pre++c::e1) Ns u):=by
 unfold SS;split
 ·simp only[OL];refine eQ ?_;split
  ·exact eA a
  ·exact aW
 ·exact zq hR a _ _
 ·split
  ·exact aW
  ·split
   ·exact aW
   ·cases pre with
    | nil=>exact iJ (gL _ _)
    | cons p pre=>exact eA a
  ·split
   ·exact oV a _ _ _
   ·simp only[OL];refine eQ ?_;split
    ·exact oV a _ _ _
    all_goals exact aW
theorem JG(hrf:P.follows .rangeFuncRecover=NB){fr c:NS}{pre:Nu NS}(d:c.mode≠.run)(b:OI)(u:Nt):Dm e1 (Re P b NB fr (pre++c::e1) Ns u):=by
 have a:∀(j:OI) (f:NO Qs) (s e:String),Dm e1 (match fr.roundOf with
   | none=>if j=NB then .go { frame:={ fr with mode:=.returning },callers:=pre++c::e1,status:=.running,dying:=Ns } u else .ended (.stuck s (fr.pos P)) u
   | some l=>
    let (r,es):=(QR l f).runT P u #[]
    Pm (Wa P fr.fn es) <| match r with
    | .ok v w=>Qg P b fr (pre++c::e1) Ns v w
    | .halt _ w=>.ended (.stuck e (fr.pos P)) w):=λj f s e=>by
  split
  ·split
   ·exact eA d
   ·exact aW
  ·simp only[OL];refine eQ ?_;split
   ·exact oV d _ _ _
   ·exact aW
 unfold Re;dsimp only;split
 ·exact a NB _ _ _
 ·exact a NB _ _ _
 all_goals first
  | exact eA d
  | exact aW
  | exact lA hR hrf d _ _
  | (
    generalize TU _ _=X;cases X
    ·exact a NC _ _ _
    ·exact eA d)
  | (
    generalize Uw _ _=X;cases X
    ·exact a NC _ _ _
    ·exact eA d)
  | (
    unfold Va
    repeat' split
    all_goals first
     | exact eA d
     | exact aW
     | exact lA hR hrf d _ _)
  | (
    simp only[OL];refine eQ ?_
    repeat' split
    all_goals first
     | exact eA d
     | exact aW
     | exact lA hR hrf d _ _)
  | (
    repeat' split
    all_goals first
     | exact eA d
     | exact aW
     | exact lA hR hrf d _ _)
  | (
    generalize Extern.next _=X
    cases X
    ·exact aW
    ·exact lA hR hrf d _ _)
theorem JF{f x:NS}(g:f.mode≠.run)(b:OI)(u:Nt)(s:∀f,Ou f (x::e1)=Ns):Dm (x::e1) (SS P b f (x::e1) Ns u):=by
 have k:∀{fr2:NS} {st:QS} {dy:NO TC} {off:NO (NJ Rf × QK)} {u:Nt} {i:NJ Pz} {f:NS},f.mode≠.run->Dm (x::e1) (.go { frame:=fr2,callers:=f::x::e1,status:=st,dying:=dy,offers:=off } u i):=λh=>eA (pre:=[]) h;have l:∀{fr2:NS} {st:QS} {dy:NO TC} {off:NO (NJ Rf × QK)} {u:Nt} {i:NJ Pz},Dm (x::e1) (.go { frame:=fr2,callers:=e1,status:=st,dying:=dy,offers:=off } u i):=λ_ _ _ e _=>by
  cases e;exact .inr ⟨x,rfl⟩
 have j:∀(v:Ny) (u:Nt),Dm (x::e1) (Qg P b f (x::e1) Ns v u):=λv u=>by
  unfold Qg;dsimp only;split<;>exact l
 unfold SS;split
 ·simp only[OL];refine eQ ?_;split
  ·(refine iJ ?_;exact g)
  ·exact aW
 ·rename_i d t _ _
  unfold Qd;by_cases n:(hU d.target && gZ f.mode)=NB
  ·have:∀(a b:QE),(∃o u i,a=.ended o u i)->Dm (x::e1) (if(hU d.target && gZ f.mode)=NB then a else b):=λa b ⟨o,u,i,e⟩=>by
    rw[if_pos n,e];exact aW
   exact this _ _ ⟨_,_,_,rfl⟩
  have p:∀(a b:QE),Dm (x::e1) b->Dm (x::e1) (if(hU d.target && gZ f.mode)=NB then a else b):=λa b q=>by rw[if_neg n];exact q
  refine p _ _ ?_;simp only[OL];refine eQ ?_;cases Pr P (invoke d.target d.args) u with
  | ok a w=>
   cases a with
   | recover=>
    dsimp only;rw[s];split
    ·rename_i r;cases r
    ·(refine iJ ?_;exact g)
   | coroswitch c e=>cases e<;>first | exact aW | exact fS (λ_ _ _ e=>by cases e)
   | alone on v=>cases on<;>first | exact aW | exact fS (λ_ _ _ e=>by cases e)
   | _=>
    first
     | (refine iJ ?_;exact g)
     | (refine k ?_;exact g)
     | exact aW
     | exact fS (λ_ _ _ e=>by cases e)
  | halt y w=>
   cases y with
   | fatal m=>exact sk
   | throw m=>exact oe
   | _=>first | (refine iJ ?_;exact g) | exact aW | (refine iJ ?_;exact gL _ _)
 ·split
  ·rename_i hm;exact absurd hm g
  ·split
   ·exact aW
   ·exact l
  ·split
   ·exact j _ _
   ·simp only[OL];refine eQ ?_;split
    ·exact j _ _
    all_goals exact aW
end
end
section
inductive Lay (k:Nu Si) (D:Nu Qa) (real:Nu NS) (f:Pl) (gv:NF):NF->Prop
 | top:gv.callers=[ay f]->gv.frame.mode=.run->gv.frame.roundOf=Ns->Lay k D real f gv { gv with frame:=tl k D gv.frame,callers:=real }
 | und (pre:Nu NS) (c:NS):gv.callers=pre++[c,ay f]->Pc c->Lay k D real f gv { gv with callers:=pre++tl k D c::real }
section
variable[JunkSet](Q P:NR)(base:NA)(F:NF->Nt->Prop)(f:Pl)(k:Nu Si)(D:Nu Qa)(real:Nu NS)
structure sN(Z:Ren)(g:NF)(wq:Nt)(g':NF)(w:Nt):Prop where
 len:base<=Z.length
 wr:WR Q base Z wq w
 gl:Gl P Z
 tree:LT Q F g wq
 stack:∃pre,g.callers=pre++[ay f]
 rel:∃gv,ir Q P Z g gv/\Lay k D real f gv g'
structure zH:Prop where
 cs:∀g u,F g u->g.callers=[ay f]
 md:∀g u,F g u->g.frame.mode=.run
end
section
variable[JunkSet]{Q P:NR}{base:NA}{F:NF->Nt->Prop}{f:Pl}{k:Nu Si}{D:Nu Qa}{real:Nu NS}
def Cy{Y:Type}{pre:Nu Y}{c x:Y}(h:pre++[c,x]=[x]):RI:=by
 have:=congrArg List.length h;simp at this
def uo(j:Q.follows .rangeFuncRecover=NB)(l:zH F f){b:NF}{u1:Nt}(h:LT Q F b u1)(e:Popped f b.frame)(d:b.callers=[])(g:b.dying=Ns):RI:=by
 cases h with
 | done h=>have:=l.cs _ _ h;rw[d] at this;cases this
 | step _ p _=>
  have⟨v,u2,s,i,_,_⟩:=p u1.tape;obtain⟨q,u,c,t,a⟩:=b;dsimp only at d e g;subst d;subst g;have⟨o,u3,r,n⟩:=kU (Q:=Q) e c a (u1.tp u1.tape);rw[n] at i;cases i
def LT.doom(d:Q.follows .rangeFuncRecover=NB)(A:zH F f){g:NF}{u:Nt}(h:LT Q F g u)(s:Kc [ay f] g)(i:g.dying=Ns):RI:=by
 induction h with
 | done h=>
  rcases s with⟨_,hm⟩ | ⟨pre,c,e,_⟩
  ·exact hm (A.md _ _ h)
  ·rw[A.cs _ _ h] at e;exact Cy e.symm
 | @step g u R N M H=>
  have⟨t,u1,O,e,y,a⟩:=N u.tape;have b:=eI (f:=f);have w:∃pre,g.callers=pre++[ay f]:=by
   rcases s with⟨e,_⟩ | ⟨pre,c,e,_⟩
   ·exact⟨[],e⟩
   ·exact⟨pre++[c],by rw[e];simp⟩
  obtain⟨C,q⟩:=w;have j:Kc [ay f] t\/∃x,[ay f]=x::t.callers:=by
   obtain⟨n,T,B,S,p⟩:=g;dsimp only at i s;subst i;rcases s with⟨z,hm⟩ | ⟨pre,c,z,hm⟩
   ·subst z;have:Pj Q NB { frame:=n,callers:=[ay f],status:=B,dying:=Ns,offers:=p } (u.tp u.tape) NB=SS Q NB n [ay f] Ns (u.tp u.tape):=by
     unfold Pj;dsimp only;cases hmm:n.mode<;>first | exact absurd hmm hm | rfl
    rw[this] at e;exact JF (P:=Q) (e1:=[]) (by intro n;unfold Ou;cases n.kind<;>rfl) hm NB _ b _ _ _ e ⟨y,a⟩
   ·subst z;have v:Dm [ay f] (Pj Q NB { frame:=n,callers:=pre++c::[ay f],status:=B,dying:=Ns,offers:=p } (u.tp u.tape) NB):=by
     unfold Pj;dsimp only;cases n.mode with
     | run=>exact JG b d hm NB _
     | returning=>exact uX b hm NB _
     | panicking l=>exact uX b hm NB _
    exact v _ _ _ e ⟨y,a⟩
  rcases j with j | ⟨x,I⟩
  ·exact H _ _ _ _ e j a
  ·have r:t.callers=[]:=by simpa using(List.cons.inj I).2.symm
   rcases kP (f:=f) d q i (u.tp u.tape) t u1 O e y a with⟨o,G⟩ | ⟨_,L⟩
   ·rw[r] at G;cases o<;>simp at G
   ·exact uo d A (M _ _ _ _ e) L r a
def bR.plain{Z:Ren}{x a:Si}(h:bR Q Z x a):Kr a=NB:=by cases h<;>rfl
def uD{Z:Ren}{m a:FrameMode}(h:iq Z m a):m=.run↔a=.run:=by cases h<;>simp
def sG{Z:Ren}{b:Nu NS}(h:LsR (aG Q P Z) b [ay f])(a:∃pre,b=pre++[ay f]):b=[ay f]:=by
 obtain⟨pre,rfl⟩:=a;have:=h.length;cases pre with
 | nil=>rfl
 | cons x pre=>simp at this
def sN.step(H:Duo Q P)(hrf:P.follows .rangeFuncRecover=NB)(hrr:∀fr,Ou fr real=Ns)(hF:zH F f)(a6:∀fk,Q.funcs[fk]?≠P.funcs[fk]?->∀a k cs u,∃o w t,Pj Q NB { frame:=OT Q fk a k,callers:=cs,status:=.running,dying:=Ns } u NB=.ended o w t){Z:Ren}{g:NF}{wq:Nt}{g':NF}{w:Nt}(h:sN Q P base F f k D real Z g wq g' w)(hn:¬ F g wq)(b:OI) :∃O I i d r t,Pj P b g' w NB=.go d r t/\sN Q P base F f k D real O I i d r/\Below Q F (I,i) (g,wq)/\Eff base Z O w r/\(∀e∈t,iy base O e)/\Live d:=by
 have R:Q.follows .rangeFuncRecover=NB:=H.rfr;have⟨gv,M,hl⟩:=h.rel;have⟨e8,S⟩:=h.stack;have⟨O,I,i,q,r,t,k0,k1,k2,k3,k4,k5,k6,k7,k8,d9,U⟩:=rH H h.len h.wr h.gl M h.tree hn b;obtain⟨_,T,c8,e1⟩:=k6;dsimp only at e1;have a7:∃y,I.callers=y++[ay f]:=by
  rcases kP (f:=f) R S M.dy (wq.tp T) I i c8 e1 d9 U with L | ⟨L,hp⟩
  ·exact L
  ·exact(uo R hF k5 hp L U).elim
 have j:ir Q P O I q:=by
  rcases k1 with⟨_,k1⟩ | ⟨fk,kk,a,a',c,c',cs,n7,e4,m6,rfl,rfl,ha,X,g5,hm⟩
  ·exact k1
  ·exfalso;have⟨o,u,n6,e2⟩:=a6 fk e4 a kk (c::cs) (i.tp i.tape);cases k5 with
   | done L=>
    have C:=hF.cs _ _ L;dsimp only at C;simp only[QT] at C;rw[C.1] at hm;rcases hm with hm | hm
    ·exact hm rfl
    ·exact hm _ _ rfl
   | step _ p _=>
    have⟨g3,u3,n4,e3,_⟩:=p i.tape;rw[e2] at e3;cases e3
 have B:Kc [ay f] I->RI:=λhd=>LT.doom R hF k5 hd U;have mk:∀d,Lay k D real f q d->Pj P b g' w NB=.go d r t->Live d->∃O I i d r t,Pj P b g' w NB=.go d r t/\sN Q P base F f k D real O I i d r/\Below Q F (I,i) (g,wq)/\Eff base Z O w r/\(∀e∈t,iy base O e)/\Live d :=
  λd b6 he e5=>⟨O,I,i,d,r,t,he,⟨k4,k2,k3,k5,a7,q,j,b6⟩,⟨hn,T,c8,e1⟩,k7,k8,e5⟩
 have A:q.callers=[ay f]->q.frame.mode≠.run->RI:=λX hm=>by
  have b8:=j.callers;rw[X] at b8;exact B (.inl ⟨sG b8 a7,λe=>hm ((uD j.frame.mode).1 e)⟩)
 cases hl with
 | top X hm a8=>
  have V:=M.callers;rw[X] at V;have N:g.callers=[ay f]:=sG V h.stack;clear V;have n:=M.frame.todo;cases ht:g.frame.todo with
  | nil=>
   exfalso;have b0:g.frame.mode=.run:=(uD M.frame.mode).2 hm;have a9:g.frame.roundOf=Ns:=by
    rcases M.frame.round with⟨L,_⟩ | ⟨_,_,_,L,_⟩
    ·exact L
    ·rw[a8] at L;cases L
   have b7:=M.dy;obtain⟨⟨fn,tmps,todo,defers,mode,kind,ro⟩,cs,st,dy,d6⟩:=g;dsimp only at b0 a9 b7 ht N;subst b0 a9 b7 ht;subst N;have e2:Pj Q NB { frame:={ fn:=fn,tmps:=tmps,todo:=[],defers:=defers,mode:=.run,kind:=kind,roundOf:=Ns },callers:=[ay f],status:=st,dying:=Ns,offers:=d6 } (wq.tp T) NB=.go { frame:={ fn:=fn,tmps:=tmps,todo:=[],defers:=defers,mode:=.returning,kind:=kind,roundOf:=Ns },callers:=[ay f],status:=.running,dying:=Ns } (wq.tp T) #[]:=by
    simp[Pj,Re]
   rw[e2] at e1;cases e1;exact B (.inl ⟨rfl,by simp⟩)
  | cons x l=>
   rw[ht] at n;generalize d8:gv.frame.todo=vt at n;cases n with
   | cons hx m3=>
    rename_i x' l'
    have s:Pc gv.frame:=⟨hm,a8,x',l',d8,bR.plain hx⟩;have z:=ET (k:=k) (D:=D) (e2:=real) hrf eI hrr s X M.dy' b b w;rcases z q r t k0 ⟨j.st',j.dy'⟩ (rB j) with⟨p,G,Y,h5⟩ | ⟨pre,c,p,G,Y⟩ | ⟨p,G⟩
    ·exact mk _ (.top p G Y) h5 ⟨j.st',j.dy'⟩
    ·exact mk _ (.und pre c p G) Y ⟨j.st',j.dy'⟩
    ·exact(A p G).elim
 | und pre c X s=>
  have hN:pV c (tl k D c) [ay f] real:=⟨s.mode,s.mode,λfr=>yz s.mode eI fr,λfr=>yz (c:=tl k D c) s.mode hrr fr⟩;have z:=zP (c1:=c) (c2:=tl k D c) (e1:=[ay f]) (e2:=real) hrf hN (g:=gv) (pre:=pre) X M.dy' b b w;rcases z q r t k0 ⟨j.st',j.dy'⟩ (rB j) with⟨y,p,G⟩ | ⟨W,hφ,p,G,Y⟩ | ⟨ch,p,G⟩
  ·exact mk _ (.und y c p s) G ⟨j.st',j.dy'⟩
  ·have hφ1:W (tl k D c)=tl k D (W c)/\(W c).mode=.run/\(W c).roundOf=Ns:=by
    rcases hφ with⟨v,rfl⟩ | rfl
    ·have⟨q1,q2,q3⟩:=lq c v;exact⟨tP s v,q1.trans s.mode,q3.trans s.round⟩
    ·exact⟨rfl,s.mode,s.round⟩
   rw[hφ1.1,<- p] at Y;exact mk _ (.top G (by rw[p];exact hφ1.2.1) (by rw[p];exact hφ1.2.2)) Y ⟨j.st',j.dy'⟩
  ·exact(A G (by rw[p];exact gL _ _)).elim
def sN.rely{Z:Ren}{g:NF}{l:Nt}{n:NF}{w a:Nt}(h:sN Q P base F f k D real Z g l n w)(d:w.heap.size<=a.heap.size)(b:a.os.env=w.os.env)(o:∀i j,BR Z i j->¬ JunkSet.jk i->a.heap[j]?=w.heap[j]?)(p:∀i j,BR Z i j->JunkSet.jk i->∃c e f,a.heap[j]?=Nq (.cells c e f)):sN Q P base F f k D real Z g l n a :=
 ⟨h.len,h.wr.rely d b o p,h.gl,h.tree,h.stack,h.rel⟩
end
end
end Go.Sim
namespace Go.Co
section
open Go.Conc Go.ConcN Go.Sim
structure Own(base:NA)(Z:Ren)(jk:NA->Prop)(Fz S:Bs):Prop where
 low:∀i j,BR Z i j->i<base->¬ jk i->Fz j
 own:∀i j,BR Z i j->base<=i->S j
section
variable[JunkSet]{Q P:NR}{base:NA}{F:NF->Nt->Prop}{f:Pl}{k:Nu Si}{D:Nu Qa}{real:Nu NS}{Fz:Bs}{K:Nt->Nt->Prop}{Stop:Bs->NF->Nt->Prop}
def yM{a b:NF}(h:Lay k D real f a b)(c:a.status=.running):b.status=.running:=by cases h<;>exact c
def Own.step{Z O:Ren}{S:Bs}{w e:Nt}(h:Own base Z JunkSet.jk Fz S)(o:Eff base Z O w e)(q:base<=Z.length)(l:∀i j,BR O i j->j<e.heap.size):Own base O JunkSet.jk Fz (grow S w e):=by
 have b:∀i j,BR O i j->i<Z.length->BR Z i j:=λi j a d=>by
  obtain⟨⟨V,rfl⟩,_⟩:=o.le;unfold BR at a ⊢
  rwa [Ot d] at a
 refine⟨λi j a d p=>h.low i j (b i j a (by omega)) d p,λi j a d=>?_⟩;rcases PP i Z.length with c | n
 ·exact .inl (h.own i j (b i j a c) d)
 ·exact .inr ⟨o.fresh i j a n,l i j a⟩
def Ej{Z O:Ren}{S:Bs}{I w s:Nt}{H:NJ Pz}(h:Own base Z JunkSet.jk Fz S)(l:Eff base Z O w s)(L:base<=Z.length)(u:WR Q base O I s)(B:∀e∈H,iy base O e):DC Fz S w s H:=by
 have p:∀i j,BR O i j->i<Z.length->BR Z i j:=λi j r z=>by
  obtain⟨⟨V,rfl⟩,_⟩:=l.le;unfold BR at r ⊢
  rwa [Ot z] at r
 have g:∀i j,BR O i j->base<=i->grow S w s j:=(h.step l L u.lt).own;refine⟨λb C M=>l.keep b C λi z=>Wj λy=>M (h.own i b z y),l.size,l.os,l.output,λe q=>?_⟩;cases B e q with
 | @cell i j t o wr n G N=>
  refine⟨⟨by simp,by simp,by simp⟩,λm hm=>by simp at hm,λx d b a=>?_⟩;have c:x=⟨.cell ⟨j,t,o⟩,wr,.plain⟩:=by cases wr<;>(simp[PG,Qr] at d;exact d.symm)
  subst c;simp only[blk,OM] at a;subst a;refine⟨u.lt _ _ n,rfl,?_⟩;rcases PP i base with v | A
  ·refine .inr ⟨h.low i j (p i j n (by omega)) v G,?_⟩;cases wr with
   | false=>rfl
   | true=>exact absurd (N rfl) (by omega)
  ·exact .inl (g i j n A)
 | @obj i j wr n G=>
  refine⟨⟨by simp,by simp,by simp⟩,λm hm=>by simp at hm,λx d b a=>?_⟩;have c:x=⟨.obj j,wr,.plain⟩:=by cases wr<;>(simp[PG,Qr] at d;exact d.symm)
  subst c;simp only[blk,OM] at a;subst a;exact⟨u.lt _ _ n,rfl,.inl (g i j n G)⟩
 | noRoom=>exact⟨⟨by simp,by simp,by simp⟩,λm hm=>by simp at hm;exact hm.symm,λx d=>by simp[PG,Qr] at d⟩
 | env=>
  refine⟨⟨by simp,by simp,by simp⟩,λm hm=>by simp at hm,λx d b a=>?_⟩;have c:x=⟨.output,NB,.plain⟩:=by simp[PG,Qr] at d;exact d.symm
  subst c;cases a
def az.tsub(H:Duo Q P)(hrf:P.follows .rangeFuncRecover=NB)(hrr:∀fr,Ou fr real=Ns)(hF:zH F f)(z:∀U,Q.funcs[U]?≠P.funcs[U]?->∀a k cs u,∃o w y,Pj Q NB { frame:=OT Q U a k,callers:=cs,status:=.running,dying:=Ns } u NB=.ended o w y)(Jc Jb:Bs)(Liv:Nt->Prop)(hL1:∀S w w₁,RC Fz K S w w₁->Liv w->Liv w₁)(hL2:∀S w M y,DC Fz S w M y->(∀b,Jb b->M.heap[b]?=w.heap[b]?)->Liv w->Liv M)(hL3:∀w b,Liv w->Jc b->∃c e f,w.heap[b]?=Nq (.cells c e f))(hL4:∀w b,Liv w->Jb b->b<w.heap.size){ρ0:Ren}(hend:∀O g n r w S,sN Q P base F f k D real O g n r w->F g n->Le ρ0 O->Own base O JunkSet.jk Fz S->(∀i j,BR O i j->JunkSet.jk i->Jc j)->Liv w->(∀j,Jb j->¬ S j)->az P Fz K Stop S r w){Z:Ren}{g:NF}{n:Nt}{r:NF}{w:Nt}{S:Bs}(h:sN Q P base F f k D real Z g n r w)(hle:Le ρ0 Z)(ho:Own base Z JunkSet.jk Fz S)(hj:∀i j,BR Z i j->JunkSet.jk i->Jc j)(hv:Liv w)(hjs:∀j,Jb j->¬ S j):az P Fz K Stop S r w:=by
 have s:Acc (Below Q F) (g,n):=h.tree.acc;generalize hx:(g,n)=x at s;induction s generalizing Z g n r w S with
 | intro x _ ih=>
  subst hx;by_cases X:F g n
  ·exact hend Z g n r w S h X hle ho hj hv hjs
  ·have A:r.status=.running:=by
    have⟨gv,hg,hl⟩:=h.rel;exact yM hl hg.st'
   refine az.step A λw₁ B=>?_;have t:Liv w₁:=hL1 _ w w₁ B hv;have C:sN Q P base F f k D real Z g n r w₁:=h.rely B.size (by rw[B.os]) (λi j d l=>by
     rcases PP i base with p | R
     ·exact B.fz j (ho.low i j d p l)
     ·exact B.own j (ho.own i j d R)) (λi j d l=>hL3 w₁ j t (hj i j d l))
   have⟨O,g1,L,T,W,y,k1,N,k3,G,k5,_⟩:=C.step H hrf hrr hF z X NC;have v:=Ej ho G C.len N.wr k5;have p:∀j,Jb j->j<w₁.heap.size:=λj q=>hL4 w₁ j t q;refine⟨T,W,y,k1,v,ih (g1,L) k3 N (hle.trans G.le) (ho.step G C.len N.wr.lt) (λi j d l=>?_) (hL2 _ w₁ W y v (λb Y=>v.keep b (p b Y) (hjs b Y)) t) (λj q I=>?_) rfl⟩;rotate_left
   ·rcases I with I | ⟨I,_⟩
    ·exact hjs j q I
    ·have:=p j q;omega
   refine hj i j ?_ l;have hi:i<Z.length:=NX (C.wr.below i l) C.len;obtain⟨⟨V,rfl⟩,_⟩:=G.le;unfold BR at d ⊢
   rwa [Ot hi] at d
def AtEnd(f:Pl)(b:NS)(R:QF->Nt->Prop)(g:NF)(u:Nt):Prop:=Live g/\g.callers=[ay f]/\∃a T,g.frame=b.at a []/\R a (u.tp T)
def AtEnd.leafs{b:NS}{R:QF->Nt->Prop}:zH (AtEnd f b R) f:=⟨λ_ _ h=>h.2.1,λ_ _ ⟨_,_,a,_,e,_⟩=>by rw[e];rfl⟩
def AtEnd.tape{b:NS}{R:QF->Nt->Prop}{g:NF}{u:Nt}(T:NA->Qe->NA)(h:AtEnd f b R g u):AtEnd f b R g (u.tp T):=by
 obtain⟨i,e,a,j,d,c⟩:=h;exact⟨i,e,a,j,d,c⟩
def eT(R:QF->Nt->Prop):Ux->QF->Nt->Prop
 | .normal,a,w=>R a w
 | _,_,_=>RI
def LT.of_wp(H:Duo Q Q){b:NS}{a:QF}{c:Qs}{i:Nt}{R:QF->Nt->Prop}(h:∀T,c.wp Q (eT R) a (i.tp T))(p:ko Q base (G (b.at a [.code c]) [ay f]) i):LT Q (AtEnd f b R) (G (b.at a [.code c]) [ay f]) i:=by
 refine LT.of_all H (λg u T=>AtEnd.tape T) p λT=>?_;have⟨e,q,r,d,j⟩:=h T b [] [ay f];cases e with
 | normal=>
  obtain⟨n,s⟩:=j;exact LP.of_runs H n (g:=G (b.at a [.code c]) [ay f]) (g1:=G (b.at q []) [ay f]) (u:=i.tp T) (pre:=[]) (p.tape T) ⟨rfl,rfl⟩ rfl s ⟨rfl,rfl⟩ ⟨[],rfl⟩ ⟨⟨rfl,rfl⟩,rfl,q,r.tape,rfl,by rw[qi];exact d⟩
 | exit id=>exact d.elim
 | goto l=>exact d.elim
 | ret=>exact d.elim
 | panic o=>exact d.elim
 | outgrown=>exact d.elim
end
end
end Go.Co
section
namespace Go.Co
open Go
def bZ{md:RQ}{ops:NJ PE}{listed:NJ OI}{i:NA}(h:i∈Oe md ops listed):i<ops.size/\listed.getD i NB=NC:=by
 simp only[Oe,RS,Py,Of,QM] at h;exact⟨h.1,h.2.1⟩
def unl(listed:NJ OI)(n:NA):NA:=((Oo n).filter λi=>!listed.getD i NB).length
def iA{listed:NJ OI}{n i:NA}(f:i<n)(g:listed.size=n)(h:listed.getD i NB=NC):unl (listed.setIfInBounds i NB) n<unl listed n:=by
 unfold unl;have d:∀l:Nu NA,i∈l->(l.filter λk=>!(listed.setIfInBounds i NB).getD k NB).length<(l.filter λk=>!listed.getD k NB).length:=by
  intro l;have e:∀l:Nu NA,(l.filter λk=>!(listed.setIfInBounds i NB).getD k NB).length<=(l.filter λk=>!listed.getD k NB).length:=by
   intro l;induction l with
   | nil=>simp
   | cons x l c=>
    simp only[List.filter_cons];by_cases a:x=i
    ·subst a;have:(listed.setIfInBounds x NB).getD x NB=NB:=by simp[Pv,g,f]
     rw[this,h];simp only[Uj,TT,OJ,if_true,if_false,NQ];omega
    ·have:(listed.setIfInBounds i NB).getD x NB=listed.getD x NB:=by simp[Pv,OW,Ne.symm a]
     rw[this];split
     ·simp only[NQ];omega
     ·exact c
  induction l with
  | nil=>intro h;cases h
  | cons x l c=>
   intro hm;simp only[List.filter_cons];by_cases a:x=i
   ·subst a;have:(listed.setIfInBounds x NB).getD x NB=NB:=by simp[Pv,g,f]
    rw[this,h];have:=e l;simp only[Uj,TT,OJ,if_true,if_false,NQ];omega
   ·have:(listed.setIfInBounds i NB).getD x NB=listed.getD x NB:=by simp[Pv,OW,Ne.symm a]
    rw[this];have b:i∈l:=by simpa[Ne.symm a] using hm
    split
    ·have:=c b;simp only[NQ];omega
    ·exact c b
 exact d _ (by simp[f])
def CE{P:NR}{md:RQ}{ops:NJ PE}{Q:Ux->QF->Nt->Prop}(I:NJ OI->QF->Nt->Prop)(d:∀listed a w i,listed.size=ops.size->I listed a w->i∈Oe md ops listed->wpOp P ops Q i (I (listed.setIfInBounds i NB)) a w)(c:∀listed a w,listed.size=ops.size->I listed a w->Oe md ops listed=[]->Q .normal a w) :∀(b:NA) (listed:NJ OI) (a:QF) (w:Nt),listed.size=ops.size->unl listed ops.size<=b->I listed a w->wpAny P md ops Q b listed a w:=by
 intro b;induction b with
 | zero=>
  intro listed a w e p g;have f:Oe md ops listed=[]:=by
   cases f:Oe md ops listed with
   | nil=>rfl
   | cons i l=>
    exfalso;have⟨j,h⟩:=bZ (md:=md) (ops:=ops) (listed:=listed) (i:=i) (by rw[f];simp);have:=iA j e h;omega
  exact⟨f,c listed a w e g f⟩
 | succ b o=>
  intro listed a w e p g;refine⟨c listed a w e g,λi k=>?_⟩;have⟨j,h⟩:=bZ k;have q:=iA j e h;exact wpOp_mono (λs n r=>o _ s n (by simpa using e) (by omega) r) (d listed a w i e g k)
def sQ{P:NR}{id:NA}{b:NJ PE}{Q:Ux->QF->Nt->Prop}{a:QF}{w:Nt}(hm:P.follows .mixedOrders=NB)(I:NJ OI->QF->Nt->Prop)(c:I (OY b.size NC) a { w with drawn:=w.drawn+1 })(hstep:∀listed a w i,listed.size=b.size->I listed a w->i∈Oe .any b listed->wpOp P b Q i (I (listed.setIfInBounds i NB)) a w)(hend:∀listed a w,listed.size=b.size->I listed a w->Oe .any b listed=[]->Q .normal a w):(Code.region id b NB).wp P Q a w :=
 wp_region_any hm (CE I hstep hend b.size _ a _ (by simp) (by
  unfold unl;refine NM (PS _ _) (by simp)) c)
def cm{P:NR}{b:NJ PE}{R K:QF->Nt->Prop}{i:NA}{o:PE}{a:QF}{w:Nt}(l:b[i]?=Nq o)(h:Vb P b (eT K) [o] a w):wpOp P b (eT R) i K a w:=by
 have j:∀X:QF->Nt->Prop,¬ LetsOut (eT X):=λX ⟨_,_,h⟩=>h;unfold wpOp;rw[l];dsimp only;simp only[Vb] at h;split
 ·rename_i g
  rw[if_pos g] at h;rcases h with h | ⟨_,h⟩
  ·refine .inl ?_;unfold Oper.wp at h ⊢;generalize (QN a.eval o).run P w=r at h ⊢;cases r with
   | ok x k=>
    cases x with
    | enter f c=>exact Calls.mono h λe w q=>by cases e<;>first | exact q | exact q.elim | exact absurd q (j _)
    | row r c=>exact Rows.mono h λv w q=>q
    | value v=>exact h
    | skip=>exact h
    | defer d=>exact h
    | _=>exact h.elim
   | halt x k=>cases x<;>first | exact h | exact h.elim
  ·exact absurd h (j _)
 ·rename_i g
  rw[if_neg g] at h;exact h
end Go.Co
namespace Go.Co
open Go
def bX{b:RQ}{a:NJ PE}{listed:NJ OI}{i:NA}{o:PE}(h:i∈Oe b a listed)(c:a[i]?=Nq o):(o.after.all λe=>!Pe b e || listed.getD e.on NC)=NB:=by
 simp only[Oe,RS,Py,Of,QM] at h;have:=h.2.2;rw[c] at this;simpa using this
end Go.Co
namespace Go.Co
open Go
def cT{c:RQ}{a:NJ PE}{listed:NJ OI}(g:Oe c a listed=[])(k:listed.size=a.size){i:NA}{o:PE}(d:a[i]?=Nq o)(b:(o.after.all λe=>!Pe c e || listed.getD e.on NC)=NB):listed[i]?.getD NC=NB:=by
 have j:i<a.size:=(Nz.1 d).1;refine OK λf=>?_;have h:i<listed.size:=by omega
 have:i∈Oe c a listed:=by
  simp only[Oe,RS,Py,Of,QM];refine⟨j,?_,?_⟩
  ·simp[Pv,Om h] at f ⊢;exact f
  ·rw[d];simpa using b
 rw[g] at this;cases this
def lQ(listed:NJ OI)(i j:NA)(h:i<listed.size):(listed.setIfInBounds i NB)[j]?.getD NC=if i=j then NB else listed[j]?.getD NC:=by
 simp only[OW];split
 ·rename_i e;subst e;simp[h]
 ·rfl
def nK{c:RQ}{a:NJ PE}{listed:NJ OI}{i:NA}(h:i∈Oe c a listed):listed[i]?.getD NC=NC:=by
 have:=(bZ h).2;simp only[Pv] at this;cases hx:listed[i]? with
 | none=>rfl
 | some b=>rw[hx] at this;exact this
end Go.Co
end
namespace Go.Sim
section
structure Lets where
 f:NA->OI
 m:String->OI
 b:Builtin->NJ NZ->OI
section
variable(Q:NR)(s:Lets)
def fl:OQ->OI
 | .tmp _=>NB
 | .const v=>Ic v
 | .global g=>decide (g<Q.globals.size)
 | .func f=>s.f f
def kx(l:Nu OQ):OI:=l.all (fl Q s)
def zA:Call->OI
 | ⟨.value f,a,_⟩=>fl Q s f && kx Q s a.toList
 | ⟨.invoke r n,a,_⟩=>fl Q s r && s.m n && kx Q s a.toList
 | ⟨.builtin b,a,ts⟩=>s.b b ts && kx Q s a.toList
def opC:Op->OI
 | .move x | .assign x | .nilCheck x | .box _ x | .load _ x | .unOp _ _ x | .makeInterface _ x | .field _ x _ | .extract x _ | .panic x=>fl Q s x
 | .pick c a b=>fl Q s c && fl Q s a && fl Q s b
 | .alloc t=>iz Q t
 | .build t ps=>iz Q t && kx Q s (ps.toList.map (·.2))
 | .buildSlice t _ ps=>ly Q t && kx Q s (ps.toList.map (·.2))
 | .store _ a x=>fl Q s a && fl Q s x
 | .binOp op t x y _=>(if tt op then Eh Q t x y else vL Q t) && fl Q s x && fl Q s y
 | .convert a d x=>Cq Q a d && fl Q s x
 | .makeFunc (.func f) a b=>s.f f && kx Q s a.toList && kx Q s b.toList
 | .makeMap _ r=>kx Q s r.toList
 | .makeSlice t l c=>ly Q t && fl Q s l && fl Q s c
 | .slice _ x l h m=>fl Q s x && kx Q s l.toList && kx Q s h.toList && kx Q s m.toList
 | .fieldAddr t x f=>wI Q t f && fl Q s x
 | .indexAddr _ x i | .index _ x i=>fl Q s x && fl Q s i
 | .lookup t x i _=>rF Q t && fl Q s x && fl Q s i
 | .mapUpdate t m k x | .insert t m k x=>rF Q t && fl Q s m && fl Q s k && fl Q s x
 | .typeAssert x _ a _=>iz Q a && fl Q s x
 | .call c | .defer c=>zA Q s c
 | _=>NC
def gF:Qs->OI
 | .skip | .exit _ | .label _ | .goto _ | .ret=>NB
 | .region _ d _=>d.toList.all λo=>opC Q s o.op
 | .seq a b=>gF a && gF b
 | .cond c a b=>fl Q s c && gF a && gF b
 | .block _ c | .loop c | .scope c=>gF c
 | .rangeFunc f _ a c=>fl Q s f && gF a && gF c
 | _=>NC
end
section
variable[JunkSet]{Q:NR}{s:Lets}(hf:∀f,s.f f=NB->JunkSet.okf f)(hm:∀n,s.m n=NB->JunkSet.okm n)(hb:∀b ts,s.b b ts=NB->JunkSet.okb b ts)
include hf in
theorem aL{x:OQ}(h:fl Q s x=NB):aR Q x:=by
 cases x with
 | tmp t=>exact .tmp t
 | const v=>exact .const (wY h)
 | global g=>exact .global (of_decide_eq_true h)
 | func f=>exact .func (hf f h)
include hf in
theorem dA{l:Nu OQ}(h:kx Q s l=NB):dF Q l:=λx a=>aL hf (OF.1 h x a)
include hf hm hb in
theorem zz{c:Call}(h:zA Q s c=NB):gj Q c:=by
 obtain⟨d,a,e⟩:=c;cases d with
 | value f=>simp only[zA,Of] at h;exact .value (aL hf h.1) (dA hf h.2)
 | invoke r n=>simp only[zA,Of] at h;exact .invoke (aL hf h.1.1) (hm _ h.1.2) (dA hf h.2)
 | builtin b=>simp only[zA,Of] at h;exact .builtin (hb _ _ h.1) (dA hf h.2)
include hf hm hb in
theorem La{o:Op}(h:opC Q s o=NB):aZ Q o:=by
 cases o with
 | makeFunc v a b=>
  cases v with
  | func f=>simp only[opC,Of] at h;exact .makeFunc (hf _ h.1.1) (dA hf h.1.2) (dA hf h.2)
  | _=>cases h
 | binOp w t x y u=>
  simp only[opC,Of] at h;obtain⟨⟨g,p⟩,j⟩:=h;split at g
  ·rename_i e
   exact .eql e g (aL hf p) (aL hf j)
  ·rename_i e
   exact .arith (by simpa using e) g (aL hf p) (aL hf j)
 | move x=>exact .move (aL hf h)
 | assign x=>exact .assign (aL hf h)
 | nilCheck x=>exact .nilCheck (aL hf h)
 | box t x=>exact .box (aL hf h)
 | load t x=>exact .load (aL hf h)
 | unOp o t x=>exact .unOp (aL hf h)
 | makeInterface t x=>exact .makeInterface (aL hf h)
 | field t x f=>exact .field (aL hf h)
 | extract x i=>exact .extract (aL hf h)
 | panic x=>exact .panic (aL hf h)
 | pick c a b=>simp only[opC,Of] at h;exact .pick (aL hf h.1.1) (aL hf h.1.2) (aL hf h.2)
 | alloc t=>exact .alloc h
 | build t q=>simp only[opC,Of] at h;exact .build h.1 (dA hf h.2)
 | buildSlice t n q=>simp only[opC,Of] at h;exact .buildSlice h.1 (dA hf h.2)
 | store t a x=>simp only[opC,Of] at h;exact .store (aL hf h.1) (aL hf h.2)
 | convert a d x=>simp only[opC,Of] at h;exact .convert h.1 (aL hf h.2)
 | makeMap t r=>exact .makeMap (dA hf h)
 | makeSlice t l c=>simp only[opC,Of] at h;exact .makeSlice h.1.1 (aL hf h.1.2) (aL hf h.2)
 | slice t x l z m=>simp only[opC,Of] at h;exact .slice (aL hf h.1.1.1) (dA hf h.1.1.2) (dA hf h.1.2) (dA hf h.2)
 | fieldAddr t x f=>simp only[opC,Of] at h;exact .fieldAddr h.1 (aL hf h.2)
 | indexAddr t x i=>simp only[opC,Of] at h;exact .indexAddr (aL hf h.1) (aL hf h.2)
 | index t x i=>simp only[opC,Of] at h;exact .index (aL hf h.1) (aL hf h.2)
 | lookup t x i c=>simp only[opC,Of] at h;exact .lookup h.1.1 (aL hf h.1.2) (aL hf h.2)
 | mapUpdate t m k x=>simp only[opC,Of] at h;exact .mapUpdate h.1.1.1 (aL hf h.1.1.2) (aL hf h.1.2) (aL hf h.2)
 | insert t m k x=>simp only[opC,Of] at h;exact .insert h.1.1.1 (aL hf h.1.1.2) (aL hf h.1.2) (aL hf h.2)
 | typeAssert x t a c=>simp only[opC,Of] at h;exact .typeAssert h.1 (aL hf h.2)
 | call c=>exact .call (zz hf hm hb h)
 | defer c=>exact .defer (zz hf hm hb h)
 | _=>cases h
include hf hm hb in
theorem zw{c:Qs}(h:gF Q s c=NB):aK Q c:=by
 induction c with
 | skip=>exact .skip
 | exit id=>exact .exit id
 | label l=>exact .label l
 | goto l=>exact .goto l
 | ret=>exact .ret
 | region id k d=>exact .region λo n=>La hf hm hb (OF.1 h o n)
 | seq a b e g=>simp only[gF,Of] at h;exact .seq (e h.1) (g h.2)
 | cond c a b e g=>simp only[gF,Of] at h;exact .cond (aL hf h.1.1) (e h.1.2) (g h.2)
 | block id c i=>exact .block (i h)
 | loop c i=>exact .loop (i h)
 | scope c i=>exact .scope (i h)
 | rangeFunc f p a c e j=>simp only[gF,Of] at h;exact .rangeFunc (aL hf h.1.1) (e h.1.2) (j h.2)
 | _=>cases h
end
section
variable{A B:JunkSet}{Q:NR}(hf:∀f,A.okf f->B.okf f)(hm:∀n,A.okm n->B.okm n)(hb:∀b ts,A.okb b ts->B.okb b ts)
include hf in
theorem aU{x:OQ}(h:@aR A Q x):@aR B Q x:=by
 cases h with
 | tmp t=>exact @aR.tmp B Q t
 | const h=>exact @aR.const B Q _ h
 | global h=>exact @aR.global B Q _ h
 | func h=>exact @aR.func B Q _ (hf _ h)
include hf in
theorem eJ{l:Nu OQ}(h:@dF A Q l):@dF B Q l:=λx a=>aU hf (h x a)
include hf hm hb in
theorem Cu{c:Call}(h:@gj A Q c):@gj B Q c:=by
 cases h with
 | value b a=>exact @gj.value B Q _ _ _ (aU hf b) (eJ hf a)
 | invoke b a d=>exact @gj.invoke B Q _ _ _ _ (aU hf b) (hm _ a) (eJ hf d)
 | builtin b a=>exact @gj.builtin B Q _ _ _ (hb _ _ b) (eJ hf a)
include hf hm hb in
theorem Ke{o:Op}(h:@aZ A Q o):@aZ B Q o:=by
 cases h with
 | move h=>exact @aZ.move B Q _ (aU hf h)
 | assign h=>exact @aZ.assign B Q _ (aU hf h)
 | pick b a c=>exact @aZ.pick B Q _ _ _ (aU hf b) (aU hf a) (aU hf c)
 | alloc h=>exact @aZ.alloc B Q _ h
 | box h=>exact @aZ.box B Q _ _ (aU hf h)
 | build b a=>exact @aZ.build B Q _ _ b (eJ hf a)
 | buildSlice b a=>exact @aZ.buildSlice B Q _ _ _ b (eJ hf a)
 | load h=>exact @aZ.load B Q _ _ (aU hf h)
 | store b a=>exact @aZ.store B Q _ _ _ (aU hf b) (aU hf a)
 | nilCheck h=>exact @aZ.nilCheck B Q _ (aU hf h)
 | arith b a c d=>exact @aZ.arith B Q _ _ _ _ _ b a (aU hf c) (aU hf d)
 | eql b a c d=>exact @aZ.eql B Q _ _ _ _ _ b a (aU hf c) (aU hf d)
 | unOp h=>exact @aZ.unOp B Q _ _ _ (aU hf h)
 | convert b a=>exact @aZ.convert B Q _ _ _ b (aU hf a)
 | makeInterface h=>exact @aZ.makeInterface B Q _ _ (aU hf h)
 | makeFunc b a c=>exact @aZ.makeFunc B Q _ _ _ (hf _ b) (eJ hf a) (eJ hf c)
 | makeMap h=>exact @aZ.makeMap B Q _ _ (eJ hf h)
 | makeSlice b a c=>exact @aZ.makeSlice B Q _ _ _ b (aU hf a) (aU hf c)
 | slice b a c d=>exact @aZ.slice B Q _ _ _ _ _ (aU hf b) (eJ hf a) (eJ hf c) (eJ hf d)
 | fieldAddr b a=>exact @aZ.fieldAddr B Q _ _ _ b (aU hf a)
 | field h=>exact @aZ.field B Q _ _ _ (aU hf h)
 | indexAddr b a=>exact @aZ.indexAddr B Q _ _ _ (aU hf b) (aU hf a)
 | index b a=>exact @aZ.index B Q _ _ _ (aU hf b) (aU hf a)
 | lookup b a c=>exact @aZ.lookup B Q _ _ _ _ b (aU hf a) (aU hf c)
 | mapUpdate b a c d=>exact @aZ.mapUpdate B Q _ _ _ _ b (aU hf a) (aU hf c) (aU hf d)
 | insert b a c d=>exact @aZ.insert B Q _ _ _ _ b (aU hf a) (aU hf c) (aU hf d)
 | typeAssert b a=>exact @aZ.typeAssert B Q _ _ _ _ b (aU hf a)
 | extract h=>exact @aZ.extract B Q _ _ (aU hf h)
 | call h=>exact @aZ.call B Q _ (Cu hf hm hb h)
 | defer h=>exact @aZ.defer B Q _ (Cu hf hm hb h)
 | panic h=>exact @aZ.panic B Q _ (aU hf h)
include hf hm hb in
theorem wO{c:Qs}(h:@aK A Q c):@aK B Q c:=by
 induction h with
 | skip=>exact @aK.skip B Q
 | region h=>exact @aK.region B Q _ _ _ λo d=>Ke hf hm hb (h o d)
 | seq _ _ b a=>exact @aK.seq B Q _ _ b a
 | cond h _ _ b a=>exact @aK.cond B Q _ _ _ (aU hf h) b a
 | block _ h=>exact @aK.block B Q _ _ h
 | loop _ h=>exact @aK.loop B Q _ h
 | rangeFunc h _ _ b a=>exact @aK.rangeFunc B Q _ _ _ _ (aU hf h) b a
 | exit id=>exact @aK.exit B Q id
 | scope _ h=>exact @aK.scope B Q _ h
 | label l=>exact @aK.label B Q l
 | goto l=>exact @aK.goto B Q l
 | ret=>exact @aK.ret B Q
end
@[reducible] def JS0(s:Lets)(jk:NA->Prop):JunkSet:={ jk,okf:=λf=>s.f f=NB,okm:=λn=>s.m n=NB,okb:=λb a=>s.b b a=NB,okc:=λ_=>RI,okg:=λ_=>RI }
@[reducible] def JS(Q P:NR)(s:Lets)(jk:NA->Prop):JunkSet:={ JS0 s jk with okc:=@aK (JS0 s jk) Q,okg:=λf=>(∃g,Q.funcs[f]?=Nq g/\P.funcs[f]?=Nq g)/\Q.inits.idxOf? f=Ns }
def Jz(Q P:NR)(s:Lets)(f:NA):OI :=
 match Q.funcs[f]?,P.funcs[f]? with
 | some a,Nq b=>!a.body.isNone && !b.body.isNone && !(a.name == "runtime.NumGoroutine") && !(b.name == "runtime.NumGoroutine") && (Q.inits.idxOf? f).isNone
 | _,_=>NC
def Hx(Q:NR)(s:Lets)(f:NA):OI :=
 match (Q.funcs[f]?).bind (·.body) with
 | some c=>gF Q s c
 | none=>NC
def Hn{Q P:NR}{s:Lets}{jk:NA->Prop}(o:P.toTables=Q.toTables)(p:Q.follows .rangeFuncRecover=NB)
  (l:(match Q.info? 0 with | some i=>(i.methods.find? (·.name == "")).isNone | none=>NB)=NB)
  (hb:∀b k,s.b b k=NB->biB Q b k=NB)
  (hf:∀f,s.f f=NB->Jz Q P s f=NB) (a:∀f,s.f f=NB->Q.funcs[f]?=P.funcs[f]?->Hx Q s f=NB)
  (hm:∀n,s.m n=NB->∀t i m,Q.info? t=Nq i->i.methods.find? (·.name == n)=Nq m->m.path=#[]/\∃f b,m.func=Nq (f,b)/\s.f f=NB/\∀e,Q.underlying t=Nq (.pointer e)->b=NB):@Duo (JS Q P s jk) Q P:=by
 letI:=JS Q P s jk
 have fin:∀f,s.f f=NB->∃d fp,Q.funcs[f]?=Nq d/\P.funcs[f]?=Nq fp/\d.body.isNone=NC/\fp.body.isNone=NC/\(d.name == "runtime.NumGoroutine")=NC/\(fp.name == "runtime.NumGoroutine")=NC/\Q.inits.idxOf? f=Ns:=by
  intro f h;have:=hf f h;unfold Jz at this;cases h1:Q.funcs[f]? with
  | none=>rw[h1] at this;cases this
  | some d=>
   cases h2:P.funcs[f]? with
   | none=>rw[h1,h2] at this;cases this
   | some fp=>
    rw[h1,h2] at this;simp only[Of,QM,Option.isNone_iff_eq_none] at this;exact⟨d,fp,rfl,rfl,this.1.1.1.1,this.1.1.1.2,this.1.1.2,this.1.2,this.2⟩
 exact{
  bis:=hb
  tables:=o
  funcs:=λf h=>let ⟨d,fp,h1,h2,h3,h4,h5,h6,_⟩:=fin f h;⟨d,fp,h1,h2,h3,h4,h5,h6⟩
  meths:=hm
  nometh:=λi q=>by rw[q] at l;exact l
  codes:=λc=>⟨wO (A:=JS0 s jk) (B:=JS Q P s jk) (λ_ h=>h) (λ_ h=>h) (λ_ _ h=>h),wO (A:=JS Q P s jk) (B:=JS0 s jk) (λ_ h=>h) (λ_ h=>h) (λ_ _ h=>h)⟩
  rfr:=p
  bodies:=λf g j h1 h2 c r=>by
   have:=a f j (by rw[h1,h2]);unfold Hx at this;rw[h1,Ud,r] at this;exact zw (s:=s) (λ_ h=>h) (λ_ h=>h) (λ_ _ h=>h) this
  inits:=λf h=>let ⟨_,_,_,_,_,_,_,_,h7⟩:=fin f h;h7
  same:=λf=>Iff.rfl }
end
section
structure LI where
 j:JunkSet
structure Up(A B:JunkSet):Prop where
 f:∀x,A.okf x->B.okf x
 m:∀x,A.okm x->B.okm x
 b:∀x y,A.okb x y->B.okb x y
 c:∀x,A.okc x->B.okc x
 g:∀x,A.okg x->B.okg x
 j:A.jk=B.jk
section
variable{A B:JunkSet}(U:Up A B){Z:Ren}
include U
theorem FnR.up{x y:Fn}(h:@FnR A Z x y):@FnR B Z x y:=by
 cases h with
 | func f h=>exact @FnR.func B Z f (U.f _ h)
 | yield h=>exact @FnR.yield B Z _ _ h
theorem VR.up{x y:Ny}(h:@VR A Z x y):@VR B Z x y:=by
 induction h with
 | bool b=>exact @VR.bool B Z b
 | int k n=>exact @VR.int B Z k n
 | string s=>exact @VR.string B Z s
 | ptrNil=>exact @VR.ptrNil B Z
 | ptr e d h=>exact @VR.ptr B Z _ _ e d h
 | sliceNil n c=>exact @VR.sliceNil B Z n c
 | slice e d n c h=>exact @VR.slice B Z _ _ e d n c h
 | mapNil=>exact @VR.mapNil B Z
 | map h=>exact @VR.map B Z _ _ h
 | func j o _ l _ i g=>exact @VR.func B Z _ _ _ _ _ _ (FnR.up U j) o i l g
 | nilFunc=>exact @VR.nilFunc B Z
 | iface t _ f=>exact @VR.iface B Z t _ _ f
 | nilIface=>exact @VR.nilIface B Z
 | agg h _ f=>exact @VR.agg B Z _ _ h f
 | tuple h _ f=>exact @VR.tuple B Z _ _ h f
 | wild y h=>exact @VR.wild B Z y h
 | meth n a c=>exact @VR.meth B Z n a c
theorem AsR.up{x y:NJ Ny}(h:@AsR A Z x y):@AsR B Z x y:=⟨h.1,λi a b d c=>VR.up U (h.2 i a b d c)⟩
theorem gI.up{x y:Rz}(h:@gI A Z x y):@gI B Z x y:=@gI.mk B Z x y (VR.up U (@gI.key A Z x y h)) (VR.up U (@gI.val A Z x y h)) (@gI.born A Z x y h)
theorem eX.up{x y:Target}(h:@eX A Z x y):@eX B Z x y:=by
 cases h with
 | fn e d=>exact @eX.fn B Z _ _ _ _ (FnR.up U e) (AsR.up U d)
 | meth n h=>exact @eX.meth B Z n (U.m _ h)
 | nil=>exact @eX.nil B Z
 | builtin b a t c h=>exact @eX.builtin B Z b a t c (U.b _ _ h)
 | collected h=>exact @eX.collected B Z _ _ h
theorem fU.up{x y:Qa}(h:@fU A Z x y):@fU B Z x y:=by
 cases h with
 | mk b a=>exact @fU.mk B Z x y (eX.up U b) (AsR.up U a)
 | bound b a c=>exact @fU.bound B Z x y b a c
theorem mr.up{x y:Loop}(h:@mr A Z x y):@mr B Z x y:=by
 obtain⟨q,p,o,n,l,k,j,i,f,d,b,a⟩:=h;exact @mr.mk B Z x y q p o (AsR.up U n) l k j i (U.g _ f) (U.c _ d) (U.c _ b) λc e=>U.c _ (a c e)
theorem ObR.up{x y:Obj}(h:@ObR A Z x y):@ObR B Z x y:=by
 cases h with
 | cells e f d=>exact @ObR.cells B Z _ _ e _ _ (AsR.up U f) d
 | map c h=>exact @ObR.map B Z _ _ c (h.imp λ_ _ k=>gI.up U k)
 | stringIter s p=>exact @ObR.stringIter B Z s p
 | mapIterNil a s b=>exact @ObR.mapIterNil B Z a s b
 | mapIter a s b h=>exact @ObR.mapIter B Z _ _ a s b h
 | loop h=>exact @ObR.loop B Z _ _ (mr.up U h)
 | number o s x h=>exact @ObR.number B Z _ _ o s x h
 | deferredNone=>exact @ObR.deferredNone B Z
 | deferred h=>exact @ObR.deferred B Z _ _ (h.imp λ_ _ k=>fU.up U k)
theorem WR.up{Q:NR}{base:NA}{a w:Nt}(h:@WR A Q base Z a w):@WR B Q base Z a w:=by
 obtain⟨u,t,s,r,q,p,n,l⟩:=h;refine @WR.mk B Q base Z a w u t s (λi j o k f=>?_) q p (λi g=>n i (by rw[U.j];exact g)) l;rcases r i j o k f with⟨c,b⟩ | ⟨c,d,b,e⟩
 ·exact .inl ⟨by rw[<- U.j];exact c,b⟩
 ·exact .inr ⟨by rw[<- U.j];exact c,d,b,ObR.up U e⟩
theorem aK.up{Q:NR}{c:Qs}(h:@aK A Q c):@aK B Q c:=wO (A:=A) (B:=B) U.f U.m U.b h
theorem aZ.up{Q:NR}{o:Op}(h:@aZ A Q o):@aZ B Q o:=Ke (A:=A) (B:=B) U.f U.m U.b h
theorem bR.up{Q:NR}{x y:Si}(h:@bR A Q Z x y):@bR B Q Z x y:=by
 cases h with
 | code h=>exact @bR.code B Q Z _ (aK.up U h)
 | inBlock id=>exact @bR.inBlock B Q Z id
 | inLoop h=>exact @bR.inLoop B Q Z _ (aK.up U h)
 | inScope h=>exact @bR.inScope B Q Z _ (aK.up U h)
 | inRegion l h=>exact @bR.inRegion B Q Z _ l λo a=>aZ.up U (h o a)
 | inRangeFunc h=>exact @bR.inRangeFunc B Q Z _ _ h
 | endRangeFunc h=>exact @bR.endRangeFunc B Q Z _ _ h
 | beginRound=>exact @bR.beginRound B Q Z
theorem ot.up{x y:Tu}(h:@ot A Z x y):@ot B Z x y:=by
 obtain⟨c,b,a⟩:=h;exact @ot.mk B Z x y (VR.up U c) b a
theorem iq.up{x y:FrameMode}(h:@iq A Z x y):@iq B Z x y:=by
 cases h with
 | run=>exact @iq.run B Z
 | returning=>exact @iq.returning B Z
 | panicking h=>exact @iq.panicking B Z _ _ (h.imp λ_ _ k=>ot.up U k)
theorem aG.up{Q P:NR}{x y:NS}(h:@aG A Q P Z x y)(a:∃g,Q.funcs[x.fn]?=Nq g/\Q.funcs[x.fn]?=Nq g):@aG B Q Q Z x y:=by
 obtain⟨l,n,j,i,f,e,d,c,b⟩:=h;exact @aG.mk B Q Q Z x y l a j (AsR.up U i) (f.imp λ_ _ k=>bR.up U k) (e.imp λ_ _ k=>fU.up U k) (iq.up U d) c b
theorem ir.up{Q P:NR}{x y:NF}(h:@ir A Q P Z x y):@ir B Q Q Z x y:=by
 obtain⟨c,j,i,f,e,d⟩:=h;exact @ir.mk B Q Q Z x y (aG.up U c (let ⟨g,k,_⟩:=@aG.same A Q P Z _ _ c;⟨g,k,k⟩)) (j.imp λa b k=>aG.up U k (let ⟨g,k,_⟩:=@aG.same A Q P Z a b k;⟨g,k,k⟩)) i f e d
end
end
end Go.Sim
namespace Go.Co
section
open Go.Conc Go.ConcN Go.Sim
section
variable[J:JunkSet](Q P:NR)(f:Pl)(Post:Ny->Nt->Prop)(W:Nt)
structure Rl(Z:Ren)(g:NF)(wq:Nt)(g':NF)(w:Nt):Prop where
 wr:WR Q W.heap.size Z wq w
 ln:W.heap.size<=Z.length
 gl:Gl P Z
 stack:∃pre,g.callers=pre++[ay f]
 rel:∃gv,ir Q P Z g gv/\g'=swap [] gv
def EL(g:NF)(wq:Nt):Prop :=
 ∀Z d w c,Rl Q P f W Z g wq d w->iw c Z->(∀b,w.heap.size<=b->c b=.mine 0)->gh W.heap.size W.heap.size W Z w->(∀b,b<W.heap.size->c b=.mine 0)->E P Post c d w
def LF(g:NF)(u:Nt):Prop:=Live g/\(∃pre,g.callers=pre++[ay f])/\Q.funcs[g.frame.fn]?=P.funcs[g.frame.fn]?/\EL Q P f Post W g u
structure Two:Prop where
 H:Duo Q P
 HQ:∃B:LI,Up J B.j/\@Duo B.j Q Q
 hrf:P.follows .rangeFuncRecover=NB
 stub:∀fk,Q.funcs[fk]?≠P.funcs[fk]?->∀a k cs u,∃o w es,Pj Q NB { frame:=OT Q fk a k,callers:=cs,status:=.running,dying:=Ns } u NB=.ended o w es
end
section
variable[J:JunkSet]{Q P:NR}{f:Pl}{Post:Ny->Nt->Prop}{W:Nt}
def EL.tape{g:NF}{wq:Nt}(h:EL Q P f Post W g wq)(T:NA->Qe->NA):EL Q P f Post W g (wq.tp T):=by
 rintro Z q w r ⟨c,d,p,o,n⟩ e j i hm;exact h Z q w r ⟨⟨c.len,c.nodup,c.lt,c.obj,c.low,c.env,c.below,c.gar⟩,d,p,o,n⟩ e j i hm
def LF.tape{g:NF}{u:Nt}(T:NA->Qe->NA)(h:LF Q P f Post W g u):LF Q P f Post W g (u.tp T):=⟨h.1,h.2.1,h.2.2.1,h.2.2.2.tape T⟩
def kL(c:NS):Ou c []=Ns:=by
 unfold Ou;simp
def EL.of_tree(D:Two Q P){g:NF}{wq:Nt}(t:∀Z q w,Rl Q P f W Z g wq q w->LT Q (LF Q P f Post W) g wq):EL Q P f Post W g wq:=by
 intro Z q w j h l p n hm;have y:∀g u,LF Q P f Post W g u->g.callers≠[]:=λg u ⟨_,⟨pre,e⟩,_⟩=>by rw[e];simp
 refine E.sub (Cp:=λj=>∀b,b<W.heap.size->j b=.mine 0) (Q:=Q) (F:=LF Q P f Post W) (f:=f) (real:=[]) (W:=W) D.H D.hrf kL y ?_ ?_ (Z:=Z) (g:=g) (wq:=wq) ⟨h.ln,h.wr,h.gl,t _ _ _ h,h.stack,h.rel⟩ l p n hm
 ·intro Z g wq q w j i v l p n hm;exact v.2.2.2 Z q w j ⟨i.wr,i.len,i.gl,i.stack,i.rel⟩ l p n hm
 ·intro Z A k a L c I pre r wq w j d l p n _ _;exfalso;have⟨o,u,G,e⟩:=D.stub A d.diff a k (c::(pre++[ay f])) (wq.tp wq.tape);cases d.tree with
  | done x=>exact d.diff x.2.2.1
  | step _ z _=>
   have⟨C,u1,B,s,_⟩:=z wq.tape;rw[e] at s;cases s
def Rl.rel1{B:LI}(U:Up J B.j){Z:Ren}{g:NF}{wq:Nt}{l:NF}{w:Nt}(D:Two Q P)(h:Rl Q P f W Z g wq l w):@ko B.j Q W.heap.size g wq:=by
 have⟨e,d,_⟩:=h.rel;exact⟨Z,e,w,h.ln,WR.up U h.wr,λi c=>h.gl i (by rw[D.H.gsize];exact c),ir.up U d⟩
def EL.of_runs(D:Two Q P){o:NS}{cs:Nu NS}{wq:Nt}(q:∀T,∃c d u1,Steps Q (lone o cs (wq.tp T)) (lone c d u1)/\(∃pre,d=pre++[ay f])/\Q.funcs[c.fn]?=P.funcs[c.fn]?/\EL Q P f Post W (G c d) u1) :EL Q P f Post W (G o cs) wq:=by
 refine EL.of_tree D λZ v w h=>?_;have⟨pre,l⟩:=h.stack;have⟨B,U,p⟩:=D.HQ;have i:=h.rel1 U D;refine @LT.of_all B.j Q W.heap.size _ p (λg u T=>LF.tape T) _ _ i λT=>?_;have⟨c,d,u1,⟨n,s⟩,e,r,t⟩:=q T;exact @LP.of_runs B.j Q W.heap.size _ p f n (g:=G o cs) (g1:=G c d) (u:=wq.tp T) (u1:=u1) (pre:=pre) (@ko.tape B.j Q W.heap.size _ _ i T) ⟨rfl,rfl⟩ l s ⟨rfl,rfl⟩ e ⟨⟨rfl,rfl⟩,e,r,t⟩
def Bot(f:Pl)(cs:Nu NS):Prop:=∃pre,cs=pre++[ay f]
def Bot.cons{cs:Nu NS}{c:NS}(h:Bot f cs):Bot f (c::cs):=by
 obtain⟨pre,rfl⟩:=h;exact⟨c::pre,rfl⟩
def LH(Q P:NR)[J:JunkSet](f:Pl)(Post:Ny->Nt->Prop)(W:Nt)(b:NS)(k:Nu Si)(cs:Nu NS):Ux->QF->Nt->Prop
 | .normal,a,w=>EL Q P f Post W (G (b.at a k) cs) w
 | .exit id,a,w=>∃d,TU id k=Nq d/\EL Q P f Post W (G (b.at a d) cs) w
 | .ret,a,w=>∀c,EL Q P f Post W (G { b.at a c with mode:=.returning } cs) w
 | _,_,_=>RI
section
variable{b:NS}{a:QF}{k:Nu Si}{cs:Nu NS}{wq:Nt}
def EL.land(D:Two Q P)(j:Bot f cs)(i:Q.funcs[b.fn]?=P.funcs[b.fn]?){p:NS}(r:∀T,∃e o d,LH Q P f Post W b k cs e o d/\Arrives Q (lone p cs (wq.tp T)) b k cs e o d):EL Q P f Post W (G p cs) wq:=by
 refine EL.of_runs D λT=>?_;have⟨e,o,d,g,c⟩:=r T;cases e with
 | normal=>exact⟨_,cs,d,c,j,i,g⟩
 | exit id=>
  obtain⟨q,s,t⟩:=g;exact⟨_,cs,d,c q s,j,i,t⟩
 | goto l=>exact g.elim
 | ret=>
  obtain⟨h,c⟩:=c;exact⟨_,cs,d,c,j,i,g h⟩
 | panic n=>exact g.elim
 | outgrown=>exact g.elim
def EL.piece(D:Two Q P)(e:Bot f cs)(d:Q.funcs[b.fn]?=P.funcs[b.fn]?){c:Qs}(h:∀T,c.wp Q (LH Q P f Post W b k cs) a (wq.tp T)):EL Q P f Post W (G (b.at a (.code c::k)) cs) wq :=
 EL.land D e d λT=>h T b k cs
end
end
end
section
open Go.Conc Go.ConcN Go.Sim
def EE(P:NR)(Post:Ny->Nt->Prop)(cl:NA->Cl)(g:NF)(w:Nt):Prop:=∀d,E P Post cl g (w.at d)
section
variable{P:NR}{Post:Ny->Nt->Prop}{cl:NA->Cl}
def EE.pure{g g':NF}{w:Nt}(e:g.status=.running)(h:∀w,Pj P NB g w=.go g' w #[])(f:EE P Post cl g' w):EE P Post cl g w :=
 λd=>E.step e λc=>⟨g',(w.at d).at c,#[],h _,Nv _,by simp,f c⟩
def EE.raw{g o:NF}{w:Nt}(f:Nt)(c:NA->Cl)(q:g.status=.running)(h:∀d,∃i,Pj P NB g (w.at d)=.go o (f.at d) i/\∀e∈i,EvG c f.heap.size 0 e/\dM e)(j:w.heap.size<=f.heap.size)(l:∀b,b<w.heap.size->c b=cl b)(n:∀b,f.heap.size<=b->c b=.mine 0)(r:EE P Post c o f):EE P Post cl g w :=
 λd=>E.stepC q λp=>by
  have⟨i,t,s⟩:=h p;exact⟨o,f.at p,i,c,t,j,l,n,s,r p⟩
section
variable{b:NS}{a:QF}{k:Nu Si}{cs:Nu NS}{w:Nt}
def EE.seq{x y:Qs}(h:EE P Post cl (G (b.at a (.code x::.code y::k)) cs) w):EE P Post cl (G (b.at a (.code (.seq x y)::k)) cs) w:=.pure rfl (λ_=>Ob) h
def EE.block{id:NA}{c:Qs}(h:EE P Post cl (G (b.at a (.code c::.inBlock id::k)) cs) w):EE P Post cl (G (b.at a (.code (.block id c)::k)) cs) w:=.pure rfl (λ_=>UD) h
def EE.loop{c:Qs}(h:EE P Post cl (G (b.at a (.code c::.inLoop c::k)) cs) w):EE P Post cl (G (b.at a (.code (.loop c)::k)) cs) w:=.pure rfl (λ_=>XP) h
def EE.region{id:NA}{c:NJ PE}(h:EE P Post cl (G (b.at a (.inRegion c (Oo c.size)::k)) cs) w):EE P Post cl (G (b.at a (.code (.region id c NC)::k)) cs) w:=.pure rfl (λ_=>stepG_region) h
def EE.region_end{c:NJ PE}(h:EE P Post cl (G (b.at a k) cs) w):EE P Post cl (G (b.at a (.inRegion c []::k)) cs) w:=.pure rfl (λ_=>NI) h
def EE.retS(h:EE P Post cl (G { b.at a (.code .ret::k) with mode:=.returning } cs) w):EE P Post cl (G (b.at a (.code .ret::k)) cs) w:=.pure rfl (λ_=>QL) h
def EE.value{c:NJ PE}{i:NA}{d:Nu NA}{o:PE}(v:Ny)(g:c[i]?=Nq o)(e:Oy o (PH c a.tmps)=NB)(j:b.kind≠.early)(f:∀w,(QN a.eval o).run P w=.ok (.value v) w)(l:∀w,(QN a.eval o).events P w #[]=#[])(h:EE P Post cl (G (b.at (a.put o.dst v) (.inRegion c d::k)) cs) w):EE P Post cl (G (b.at a (.inRegion c (i::d)::k)) cs) w :=
 .pure rfl (λw=>by rw[Xd g e j (f w)];unfold listed;rw[l w,seen_none]) h
def EE.op[JunkSet]{f:NJ PE}{i:NA}{g:Nu NA}{o:PE}(v:Ny)(j:Nt)(c:NA->Cl)(s:f[i]?=Nq o)(q:Oy o (PH f a.tmps)=NB)(t:b.kind≠.early)(r:∀d,(QN a.eval o).run P (w.at d)=.ok (.value v) (j.at d))(u:∀d,∀e∈(QN a.eval o).events P (w.at d) #[],EvG c j.heap.size 0 e/\dM e)(l:w.heap.size<=j.heap.size)(n:∀b,b<w.heap.size->c b=cl b)(p:∀b,j.heap.size<=b->c b=.mine 0)(h:EE P Post c (G (b.at (a.put o.dst v) (.inRegion f g::k)) cs) j):EE P Post cl (G (b.at a (.inRegion f (i::g)::k)) cs) w :=
 .raw j c rfl (λd=>⟨_,Xd s q t (r d),λe hm=>u d e (gV _ _ _ e hm)⟩) l n p h
def sT{e:OI}{d:NJ PE}{i:NA}{c:Nu NA}{o:PE}{w h:Nt}(j:d[i]?=Nq o)(l:Oy o (PH d a.tmps)=NB)(p:b.kind≠.early)(n:(QN a.eval o).run P w=.ok .skip h) :Pj P e (G (b.at a (.inRegion d (i::c)::k)) cs) w=.go (G (b.at (a.put o.dst NG) (.inRegion d c::k)) cs) h (listed P b.fn a o w):=by
 have f:(b.at a (.inRegion d (i::c)::k)).finish NG=b.at (a.put o.dst NG) (.inRegion d c::k):=by rw[Qw,j];rfl
 have g:(b.kind == CallKind.early)=NC:=by simpa using p
 rw[stepG_oper j l,<- f];simp[Pw,n,G,Frame.at,g,Pm,listed]
def EE.store[JunkSet]{c:NJ PE}{i:NA}{f:Nu NA}{o:PE}(g:Nt)(q:c[i]?=Nq o)(n:Oy o (PH c a.tmps)=NB)(r:b.kind≠.early)(p:∀d,(QN a.eval o).run P (w.at d)=.ok .skip (g.at d))(s:∀d,∀e∈(QN a.eval o).events P (w.at d) #[],EvG cl g.heap.size 0 e/\dM e)(j:g.heap.size=w.heap.size)(l:∀b,w.heap.size<=b->cl b=.mine 0)(h:EE P Post cl (G (b.at (a.put o.dst NG) (.inRegion c f::k)) cs) g):EE P Post cl (G (b.at a (.inRegion c (i::f)::k)) cs) w :=
 .raw g cl rfl (λd=>⟨_,sT q n r (p d),λe hm=>s d e (gV _ _ _ e hm)⟩) (Sv j.symm) (λ_ _=>rfl) (λb t=>l b (by omega)) h
def EE.enter{c:NJ PE}{i:NA}{d:Nu NA}{o:PE}{f:Pl}{g:Func}{args:NJ OQ}{j:NJ NZ}(p:c[i]?=Nq o)(n:Oy o (PH c a.tmps)=NB)(q:b.kind≠.early)(e:o.op=.call { callee:=.value (.func f),args,argTypes:=j })(hf:P.funcs[f]?=Nq g)(hname:(g.name == "runtime.NumGoroutine")=NC)(hb:g.body.isNone=NC)(h:EE P Post cl (G (OT P f (args.map a.eval) .normal) (b.at a (.inRegion c (i::d)::k)::cs)) w) :EE P Post cl (G (b.at a (.inRegion c (i::d)::k)) cs) w :=
 .pure rfl (λw=>by
  rw[stepG_enter p n q (TI e hf hname hb)];have:listed P b.fn a o w=#[]:=by unfold listed;rw[events_call_body e hf hname hb];exact seen_none P _
  rw[this]) h
def EE.leave1{b₀:NS}{a₀:QF}{d:NJ PE}{i:NA}{c:Nu NA}{e:Nu Si}{g:Func}{t:Tmp}(j:b.kind=.normal)(n:a.defers=[])(l:P.funcs[b.fn]?=Nq g)(f:g.results=#[.tmp t])(h:EE P Post cl (G (b₀.at (a₀.put ((d[i]?).bind (·.dst)) (a.tmps.getD t NG)) (.inRegion d c::k)) cs) w):EE P Post cl (G { b.at a e with mode:=.returning } (b₀.at a₀ (.inRegion d (i::c)::k)::cs)) w :=
 .pure rfl (λw=>by rw[stepG_leave j n l (UE f _ P w) (Uy f _ _),Qw]) h
end
end
def vJ{c:NS}{cs:Nu NS}(hm:c.mode=.run)(d:c.kind=.normal)(f:NS):Ou f (c::cs)=Ns:=by
 have e:Ou c cs=Ns:=by
  unfold Ou;rw[d]
 unfold Ou;split
 ·rename_i h
  cases h;rw[hm]
 ·rename_i h
  cases h;rw[e];rfl
 ·rfl
section
variable[J:JunkSet]{Q P:NR}{Post:Ny->Nt->Prop}{cl:NA->Cl}{M N:NA}
def E.subc(D:Two Q P){F:NF->Nt->Prop}{f:Pl}{l:Nu NS}{W:Nt}{ρ0:Ren}(hR:∀fr,Ou fr l=Ns)(hF:∀g u,F g u->g.callers=[ay f])(r:∀Z g p t w,Sub Q P M F f l Z g p t w->F g p->Le ρ0 Z->(∀i j,BR Z i j->BR ρ0 i j\/W.heap.size<=j)->iw cl Z->(∀b,w.heap.size<=b->cl b=.mine 0)->gh M N W Z w->E P Post cl t w){Z:Ren}{g t:NF}{p w:Nt}(h:Sub Q P M F f l Z g p t w)(z:Le ρ0 Z)(B:∀i j,BR Z i j->BR ρ0 i j\/W.heap.size<=j)(ho:iw cl Z)(V:∀b,w.heap.size<=b->cl b=.mine 0)(S:gh M N W Z w):E P Post cl t w:=by
 have q:Acc (Below Q F) (g,p):=h.tree.acc;generalize hx:(g,p)=x at q;induction q generalizing Z g p t w with
 | intro x _ ih=>
  subst hx;by_cases hn:F g p
  ·exact r Z g p t w h hn z B ho V S
  ·refine E.step (iB h) λd=>?_;have⟨O,Y,n,G,I,es,X,h2,s,h4,_,v⟩:=(vC h d).stepK D.H D.hrf hR hn NB (λg u hg=>by rw[hF g u hg];simp);have C:Sub Q P M F f l O Y n G I:=by
    rcases v with v | ⟨fk,k,a,a',c,c',pre,a6,v,rfl,rfl⟩
    ·exact v
    ·exfalso;have⟨o,u,es,e⟩:=D.stub fk v.diff a k (c::(pre++[ay f])) (n.tp n.tape);cases v.tree with
     | done hh=>
      have:=hF _ _ hh;simp at this
     | step _ X _=>
      have⟨Y,u1,e4,e1,_⟩:=X n.tape;rw[e] at e1;cases e1
   have y:iw cl O:=ho.step (w:=w.at d) s V;have U:∀b,I.heap.size<=b->cl b=.mine 0:=λb hb=>V b (NM s.size hb);have R:gh M N W O I:=gh.step (w:=w.at d) (S.at d) s;refine⟨G,I,es,X,s.size,λe he=>iE y C.wr (h4 e he),?_⟩;refine ih (Y,n) h2 C (z.trans s.le) (λi j A=>?_) y U R rfl;rcases PP i Z.length with L | T
   ·exact B i j (BR.back s.le A L)
   ·exact .inr (NM S.size (s.fresh i j A T))
def EE.call(D:Two Q P){f:Pl}{aq ap:NJ Ny}{R:Ny->Nt->Prop}{c:NS}{cs:Nu NS}{Z:Ren}{wq w:Nt}(t:JunkSet.okf f)(hs:Q.funcs[f]?=P.funcs[f]?)(ha:AsR Z aq ap)(y:M<=Z.length)(hw:WR Q M Z wq w)(hG:Gl P Z)(hc:∀T,Oz Q f aq (wq.tp T) λe u=>∃v,e=.returned v/\R v u)(b7:c.mode=.run)(b9:c.kind=.normal)(ho:iw cl Z)(b8:∀b,w.heap.size<=b->cl b=.mine 0)(C:∀O l v I n,R v l->VR O v I->WR Q M O l n->Le Z O->(∀i j,BR O i j->BR Z i j\/w.heap.size<=j)->iw cl O->(∀b,n.heap.size<=b->cl b=.mine 0)->gh M 0 w O n->EE P Post cl (G (c.finish I) cs) n) :EE P Post cl (G (OT P f ap .normal) (c::cs)) w:=by
 intro d;have⟨B,U,HQ⟩:=D.HQ;have q:=EB hw d;have S:@ko B.j Q M (eP Q f aq [ay f]) wq:=⟨Z,_,w.at d,y,WR.up U q,λi hi=>hG i (by rw[D.H.gsize];exact hi),ir.up U (sf D.H t hs ha)⟩;have ht:=@LT.of_calls B.j Q M HQ f aq wq (λe u=>∃v,e=.returned v/\R v u) hc (λu ⟨v,h,_⟩=>by cases h) S;have r:Sub Q P M (AtRet Q f [ay f] λe u=>∃v,e=.returned v/\R v u) f (c::cs) Z (eP Q f aq [ay f]) wq (G (OT P f ap .normal) (c::cs)) (w.at d) :=
  Sub.enter D.H t hs ha y q hG ht
 refine E.subc D (W:=w) (N:=0) (vJ b7 b9) (λg u h=>h.2.1) ?_ r (Le.refl _) (λi j h=>.inl h) ho b8 ⟨λ_ _ _=>rfl,rfl,rfl,Nv _,λ_ _ _ _=>OE _,OE _⟩;intro O g l g' n s hF a7 b0 X F z;refine E.step (iB s) λL=>?_;obtain⟨hl,b6,g6,T,e,⟨v,rfl,hR⟩,Y⟩:=hF;have⟨V,d8,I,p,es,k1,k2,k3,k4,o,k6⟩:=Sub.ret D.H (vC s L) b6 Y NB;subst k4;have x:iw cl V:=X.step (w:=n.at L) o F;have c3:∀b,p.heap.size<=b->cl b=.mine 0:=λb hb=>F b (NM o.size hb);have a8:gh M 0 w V p:=gh.step (w:=n.at L) (z.at L) o;refine⟨_,p,es,k1,o.size,λe he=>iE x k3 (k6 e he),?_⟩;have:=C V _ v I p hR k2 k3 (a7.trans o.le) (λi j A=>?_) x c3 a8
 ·exact this p.drawn
 ·rcases PP i O.length with a6 | a9
  ·exact b0 i j (BR.back o.le A a6)
  ·exact .inr (NM z.size (o.fresh i j A a9))
end
end
section
open Go.Conc Go.ConcN Go.Sim
section
variable{P:NR}{Fz:Bs}{K:Nt->Nt->Prop}{Stop:Bs->NF->Nt->Prop}{S:Bs}
def az.pure{g g':NF}{w:Nt}(hK:∀a b c,K a b->K b c->K a c)(d:g.status=.running)(h:∀w,Pj P NC g w=.go g' w #[])(e:az P Fz K Stop S g' w):az P Fz K Stop S g w :=
 az.still d (λw₁ _=>h w₁) λ_ h₁=>e.rely hK h₁
section
variable(hK:∀a b c,K a b->K b c->K a c){b:NS}{a:QF}{k:Nu Si}{cs:Nu NS}{w:Nt}
include hK
theorem az.seq{x y:Qs}(h:az P Fz K Stop S (G (b.at a (.code x::.code y::k)) cs) w):az P Fz K Stop S (G (b.at a (.code (.seq x y)::k)) cs) w:=.pure hK rfl (λ_=>Ob) h
theorem az.skip(h:az P Fz K Stop S (G (b.at a k) cs) w):az P Fz K Stop S (G (b.at a (.code .skip::k)) cs) w:=.pure hK rfl (λ_=>Px) h
theorem az.cond{c:OQ}{x y:Qs}(t:OI)(d:a.eval c=.bool t)(h:az P Fz K Stop S (G (b.at a (.code (if t then x else y)::k)) cs) w):az P Fz K Stop S (G (b.at a (.code (.cond c x y)::k)) cs) w:=.pure hK rfl (λ_=>stepG_cond d) h
theorem az.block{id:NA}{c:Qs}(h:az P Fz K Stop S (G (b.at a (.code c::.inBlock id::k)) cs) w):az P Fz K Stop S (G (b.at a (.code (.block id c)::k)) cs) w:=.pure hK rfl (λ_=>UD) h
theorem az.inBlock{id:NA}(h:az P Fz K Stop S (G (b.at a k) cs) w):az P Fz K Stop S (G (b.at a (.inBlock id::k)) cs) w:=.pure hK rfl (λ_=>stepG_inBlock) h
theorem az.loop{c:Qs}(h:az P Fz K Stop S (G (b.at a (.code c::.inLoop c::k)) cs) w):az P Fz K Stop S (G (b.at a (.code (.loop c)::k)) cs) w:=.pure hK rfl (λ_=>XP) h
theorem az.inLoop{c:Qs}(h:az P Fz K Stop S (G (b.at a (.code c::.inLoop c::k)) cs) w):az P Fz K Stop S (G (b.at a (.inLoop c::k)) cs) w:=.pure hK rfl (λ_=>stepG_inLoop) h
theorem az.region{id:NA}{c:NJ PE}(h:az P Fz K Stop S (G (b.at a (.inRegion c (Oo c.size)::k)) cs) w):az P Fz K Stop S (G (b.at a (.code (.region id c NC)::k)) cs) w:=.pure hK rfl (λ_=>stepG_region) h
theorem az.region_end{c:NJ PE}(h:az P Fz K Stop S (G (b.at a k) cs) w):az P Fz K Stop S (G (b.at a (.inRegion c []::k)) cs) w:=.pure hK rfl (λ_=>NI) h
theorem az.retS(h:az P Fz K Stop S (G { b.at a (.code .ret::k) with mode:=.returning } cs) w):az P Fz K Stop S (G (b.at a (.code .ret::k)) cs) w:=.pure hK rfl (λ_=>QL) h
theorem az.endS(h:az P Fz K Stop S (G { b.at a [] with mode:=.returning } cs) w):az P Fz K Stop S (G (b.at a []) cs) w:=.pure hK rfl (λ_=>YF) h
theorem az.value{c:NJ PE}{i:NA}{d:Nu NA}{o:PE}(v:Ny)(g:c[i]?=Nq o)(e:Oy o (PH c a.tmps)=NB)(j:b.kind≠.early)(f:∀w,(QN a.eval o).run P w=.ok (.value v) w)(l:∀w,(QN a.eval o).events P w #[]=#[])(h:az P Fz K Stop S (G (b.at (a.put o.dst v) (.inRegion c d::k)) cs) w):az P Fz K Stop S (G (b.at a (.inRegion c (i::d)::k)) cs) w :=
 .pure hK rfl (λw=>by rw[Xd g e j (f w)];unfold listed;rw[l w,seen_none]) h
theorem az.unwanted{c:NJ PE}{i:NA}{d:Nu NA}{o:PE}(f:c[i]?=Nq o)(e:Oy o (PH c a.tmps)=NC)(h:az P Fz K Stop S (G (b.at (a.put o.dst NG) (.inRegion c d::k)) cs) w):az P Fz K Stop S (G (b.at a (.inRegion c (i::d)::k)) cs) w :=
 .pure hK rfl (λ_=>stepG_unwanted f e) h
theorem az.enter{d:NJ PE}{i:NA}{e:Nu NA}{o:PE}{f:Pl}{n:Func}{c:Qs}{args:NJ OQ}{p:NJ NZ}(r:d[i]?=Nq o)(q:Oy o (PH d a.tmps)=NB)(s:b.kind≠.early)(g:o.op=.call { callee:=.value (.func f),args,argTypes:=p })(hf:P.funcs[f]?=Nq n)(hname:(n.name == "runtime.NumGoroutine")=NC)(hb:n.body=Nq c)(h:az P Fz K Stop S (G ((base f).at { tmps:=args.map a.eval++OY (n.ntmps - (args.map a.eval).size) NG,defers:=[] } [.code c]) (b.at a (.inRegion d (i::e)::k)::cs)) w) :az P Fz K Stop S (G (b.at a (.inRegion d (i::e)::k)) cs) w :=
 .pure hK rfl (λw=>by
  have j:n.body.isNone=NC:=by rw[hb];rfl
  rw[stepG_enter r q s (TI g hf hname j),enter_at _ hf hb];have:listed P b.fn a o w=#[]:=by unfold listed;rw[events_call_body g hf hname j];exact seen_none P _
  rw[this]) h
theorem az.leave1{b₀:NS}{a₀:QF}{d:NJ PE}{i:NA}{c:Nu NA}{e:Nu Si}{g:Func}{t:Tmp}(j:b.kind=.normal)(n:a.defers=[])(l:P.funcs[b.fn]?=Nq g)(f:g.results=#[.tmp t])(h:az P Fz K Stop S (G (b₀.at (a₀.put ((d[i]?).bind (·.dst)) (a.tmps.getD t NG)) (.inRegion d c::k)) cs) w):az P Fz K Stop S (G { b.at a e with mode:=.returning } (b₀.at a₀ (.inRegion d (i::c)::k)::cs)) w :=
 .pure hK rfl (λw=>by rw[stepG_leave j n l (UE f _ P w) (Uy f _ _),Qw]) h
theorem az.leave0{b₀:NS}{a₀:QF}{d:NJ PE}{i:NA}{c:Nu NA}{e:Nu Si}{g:Func}(j:b.kind=.normal)(n:a.defers=[])(l:P.funcs[b.fn]?=Nq g)(f:g.results=#[])(h:az P Fz K Stop S (G (b₀.at (a₀.put ((d[i]?).bind (·.dst)) (.tuple #[])) (.inRegion d c::k)) cs) w):az P Fz K Stop S (G { b.at a e with mode:=.returning } (b₀.at a₀ (.inRegion d (i::c)::k)::cs)) w :=
 .pure hK rfl (λw=>by rw[stepG_leave j n l (results_none f _ P w) (events_results_none f _ _),Qw]) h
theorem az.load[JunkSet]{c:NJ PE}{i:NA}{d:Nu NA}{o:PE}(v:Ny)(j:c[i]?=Nq o)(f:Oy o (PH c a.tmps)=NB)(l:b.kind≠.early)(g:∀w₁,RC Fz K S w w₁->(QN a.eval o).run P w₁=.ok (.value v) w₁/\∀e∈(QN a.eval o).events P w₁ #[],EvC Fz S w₁.heap.size e)(h:az P Fz K Stop S (G (b.at (a.put o.dst v) (.inRegion c d::k)) cs) w) :az P Fz K Stop S (G (b.at a (.inRegion c (i::d)::k)) cs) w :=
 az.step rfl λw₁ h₁=>by
  have⟨q,p⟩:=g w₁ h₁;refine⟨_,w₁,_,Xd j f l q,⟨λ_ _ _=>rfl,Nv _,rfl,rfl,λe n=>?_⟩,by rw[jq];exact h.rely hK h₁⟩;rw[jq];exact p e (gV _ _ _ e n)
end
def az.offers{g:NF}{w:Nt}(hSo:∀S g w c,Stop S g w->Stop S { g with offers:=c } w)(c:NO (NJ Rf × QK))(h:az P Fz K Stop S g w):az P Fz K Stop S { g with offers:=c } w:=by
 obtain⟨r,h⟩:=h;cases r with
 | leaf=>exact⟨.leaf,λw₁ h₁=>hSo _ _ _ _ (h w₁ h₁)⟩
 | nd f=>exact⟨.nd f,h.1,h.2⟩
section
variable[J:JunkSet]{Q:NR}{base:NA}
structure LG(Q P:NR)(base:NA)(Fz S Jc Jb:Bs)(Z:Ren)(a:QF)(tm:NJ Ny)(wq w:Nt):Prop where
 len:base<=Z.length
 wr:WR Q base Z wq w
 gl:Gl P Z
 tm:AsR Z a.tmps tm
 df:a.defers=[]
 own:Own base Z JunkSet.jk Fz S
 jb:∀i j,BR Z i j->JunkSet.jk i->Jc j
 js:∀j,Jb j->¬ S j
def az.piece(H:Duo Q P){X:LI}(U:Up J X.j)(HQ:@Duo X.j Q Q)(hrf:P.follows .rangeFuncRecover=NB){real:Nu NS}(hrr:∀fr,Ou fr real=Ns)(s:∀fk,Q.funcs[fk]?≠P.funcs[fk]?->∀a k cs u,∃o w es,Pj Q NB { frame:=OT Q fk a k,callers:=cs,status:=.running,dying:=Ns } u NB=.ended o w es)(Jc Jb:Bs)(Liv:Nt->Prop)(hL1:∀S w w₁,RC Fz K S w w₁->Liv w->Liv w₁)(hL2:∀S w p es,DC Fz S w p es->(∀b,Jb b->p.heap[b]?=w.heap[b]?)->Liv w->Liv p)(hL3:∀w b,Liv w->Jc b->∃c e f,w.heap[b]?=Nq (.cells c e f))(hL4:∀w b,Liv w->Jb b->b<w.heap.size)(hSo:∀S g w d,Stop S g w->Stop S { g with offers:=d } w){b:NS}(hfn:∃g,Q.funcs[b.fn]?=Nq g/\P.funcs[b.fn]?=Nq g)(hin:Q.inits.idxOf? b.fn=Ns)(hbr:b.roundOf=Ns){c:Qs}(hc:aK Q c){Z:Ren}{a:QF}{tm:NJ Ny}{D:Nu Qa}{k:Nu Si}{wq w:Nt}{S:Bs}{R:QF->Nt->Prop}(h:LG Q P base Fz S Jc Jb Z a tm wq w)(hv:Liv w)(hwp:∀T,c.wp Q (eT R) a (wq.tp T))(hRd:∀a u,R a u->a.defers=[])(hend:∀ρ' Y r n p S',R Y n->Le Z ρ'->LG Q P base Fz S' Jc Jb ρ' Y r n p->Liv p->az P Fz K Stop S' (G (b.at ⟨r,D⟩ k) real) p) :az P Fz K Stop S (G (b.at ⟨tm,D⟩ (.code c::k)) real) w:=by
 obtain⟨V,B,A⟩:=hfn;have I:∀(X:NR),(∃g,Q.funcs[b.fn]?=Nq g/\X.funcs[b.fn]?=Nq g)->ir Q X Z (G (b.at a [.code c]) [ay b.fn]) (G (b.at ⟨tm,[]⟩ [.code c]) [ay b.fn]):=λX hX=>
  ⟨⟨rfl,hX,hin,h.tm,.cons (.code hc) .nil,by simp only[G,Frame.at];rw[h.df];exact .nil,.run,rfl,.inl ⟨rfl,rfl⟩⟩,.cons (wW hin hX) .nil,rfl,rfl,rfl,rfl⟩
 have b8:@ko X.j Q base (G (b.at a [.code c]) [ay b.fn]) wq:=⟨Z,_,w,h.len,WR.up U h.wr,λi hi=>h.gl i (by rw[H.gsize];exact hi),ir.up U (I P ⟨V,B,A⟩)⟩;have ht:=@LT.of_wp X.j Q base b.fn HQ _ _ _ _ _ hwp b8;have a8:sN Q P base (AtEnd b.fn b R) b.fn k D real Z (G (b.at a [.code c]) [ay b.fn]) wq (G (b.at ⟨tm,D⟩ (.code c::k)) real) w :=
  ⟨h.len,h.wr,h.gl,ht,⟨[],rfl⟩,_,I P ⟨V,B,A⟩,by
   have:=Lay.top (k:=k) (D:=D) (real:=real) (f:=b.fn) (gv:=G (b.at ⟨tm,[]⟩ [.code c]) [ay b.fn]) rfl rfl rfl;simpa[tl,G,Frame.at] using this⟩
 refine az.tsub H hrf hrr AtEnd.leafs s Jc Jb Liv hL1 hL2 hL3 hL4 (ρ0:=Z) ?_ a8 (Le.refl _) h.own h.jb hv h.js;rintro O g n g' p S' l ⟨e9,b7,Y,T,F,hR⟩ x ho b0 a7 z;have⟨gv,W,y⟩:=l.rel;have hd:=hRd _ _ hR;have M:=W.callers;rw[b7] at M;have⟨c9,q,a9⟩:=iY (pre:=[]) M;cases a9;have q:gv.callers=[ay b.fn]:=q;have hf:=W.frame;rw[F] at hf;cases y with
 | und pre c0 N _=>
  rw[q] at N;exact(Cy N.symm).elim
 | top _ hm v=>
  obtain⟨⟨fn,tmps,todo,defers,mode,kind,ro⟩,cs,st,dy,d⟩:=gv;obtain⟨h1,h2,h3,h4,h5,h6,h7,h8,h9⟩:=hf;have t:=W.st';have L:=W.dy';dsimp only[Frame.at] at h1 h4 h5 h6 h8 hm v t L;rw[hd] at h6;cases h5;cases h6;subst h1 h8 hm v t L;have b6:({ frame:=tl k D { fn:=b.fn,tmps:=tmps,todo:=[],defers:=[],mode:=.run,kind:=b.kind,roundOf:=Ns },callers:=real,status:=.running,dying:=Ns,offers:=d }:NF)={ G (b.at ⟨tmps,D⟩ k) real with offers:=d }:=by
   simp[tl,G,Frame.at]
  have C:({ ({ frame:={ fn:=b.fn,tmps:=tmps,todo:=[],defers:=[],mode:=.run,kind:=b.kind,roundOf:=Ns },callers:=cs,status:=.running,dying:=Ns,offers:=d }:NF) with frame:=tl k D { fn:=b.fn,tmps:=tmps,todo:=[],defers:=[],mode:=.run,kind:=b.kind,roundOf:=Ns },callers:=real }:NF)={ G (b.at ⟨tmps,D⟩ k) real with offers:=d }:=b6;rw[C];exact az.offers hSo d (hend O Y tmps (n.tp T) p S' hR x ⟨l.len,⟨l.wr.len,l.wr.nodup,l.wr.lt,l.wr.obj,l.wr.low,l.wr.env,l.wr.below,l.wr.gar⟩,l.gl,h4,hd,ho,b0,z⟩ a7)
end
end
end
section
open Go.Conc Go.ConcN Go.Sim
section
variable{P:NR}{Fz:Bs}{K:Nt->Nt->Prop}{Stop:Bs->NF->Nt->Prop}{S:Bs}(hK:∀a b c,K a b->K b c->K a c){b:NS}{k:Nu Si}{cs:Nu NS}
include hK
omit hK in
theorem Jo{d:RQ}{c:NJ PE}{a t:NA}{listed:NJ OI}(e:Oe d c listed=[]):Pd d c a t listed []=[]:=by
 cases a with
 | zero=>simp[Pd]
 | succ a=>
  simp only[Pd];change (match (Oe d c listed)[t % (Oe d c listed).length]? with
   | some i=>Pd d c a (t / (Oe d c listed).length) (listed.setIfInBounds i NB) [i]
   | none=>[].reverse)=[]
  rw[e];rfl
theorem az.any{md:RQ}{ops:NJ PE}(I:NJ OI->QF->Prop){w:Nt}(g:∀listed a i,listed.size=ops.size->I listed a->i∈Oe md ops listed->∀d,(Oe md ops (listed.setIfInBounds i NB)=[]->d=[])->(∀p,I (listed.setIfInBounds i NB) p->az P Fz K Stop S (G (b.at p (.inRegion ops d::k)) cs) w)->az P Fz K Stop S (G (b.at a (.inRegion ops (i::d)::k)) cs) w)(f:∀listed a,listed.size=ops.size->I listed a->Oe md ops listed=[]->az P Fz K Stop S (G (b.at a k) cs) w) :∀(c t:NA) (listed:NJ OI) (a:QF),listed.size=ops.size->unl listed ops.size<=c->I listed a->az P Fz K Stop S (G (b.at a (.inRegion ops (Pd md ops c t listed [])::k)) cs) w:=by
 intro c;induction c with
 | zero=>
  intro t listed a h y o;have e:Oe md ops listed=[]:=by
   cases e:Oe md ops listed with
   | nil=>rfl
   | cons i l=>
    exfalso;have⟨s,r⟩:=bZ (md:=md) (ops:=ops) (listed:=listed) (i:=i) (by rw[e];simp);have:=iA s h r;omega
  simp only[Pd,List.reverse_nil];exact az.region_end hK (f listed a h o e)
 | succ c v=>
  intro t listed a h y o;simp only[Pd];change az P Fz K Stop S (G (b.at a (.inRegion ops (match (Oe md ops listed)[t % (Oe md ops listed).length]? with
   | some i=>Pd md ops c (t / (Oe md ops listed).length) (listed.setIfInBounds i NB) [i]
   | none=>[].reverse)::k)) cs) w
  cases j:(Oe md ops listed)[t % (Oe md ops listed).length]? with
  | none=>
   have e:Oe md ops listed=[]:=by
    cases e:Oe md ops listed with
    | nil=>rfl
    | cons x u=>
     rw[e] at j;have n:t % (x::u).length<(x::u).length:=Nat.mod_lt _ (by simp);simp at j;simp at n;omega
   exact az.region_end hK (f listed a h o e)
  | some i=>
   simp only[];rw[linearise_go_acc,Ww,List.singleton_append];have j:=Od j;have⟨s,r⟩:=bZ j;have n:=iA s h r;refine g listed a i h o j _ (λe=>?_) λp q=>v _ _ p (by simpa using h) (by omega) q;exact Jo e
theorem az.region_inv{id:NA}{c:NJ PE}{a:QF}{w:Nt}(hm:P.follows .mixedOrders=NB)(g:∀w n,K w { w with drawn:=n })(I:NJ OI->QF->Prop)(h0:I (OY c.size NC) a)(hstep:∀listed a i,listed.size=c.size->I listed a->i∈Oe .any c listed->∀d,(Oe .any c (listed.setIfInBounds i NB)=[]->d=[])->(∀h,I (listed.setIfInBounds i NB) h->az P Fz K Stop S (G (b.at h (.inRegion c d::k)) cs) w)->az P Fz K Stop S (G (b.at a (.inRegion c (i::d)::k)) cs) w)(hend:∀listed a,listed.size=c.size->I listed a->Oe .any c listed=[]->az P Fz K Stop S (G (b.at a k) cs) w) :az P Fz K Stop S (G (b.at a (.code (.region id c NB)::k)) cs) w:=by
 refine az.step rfl λw₁ h₁=>?_;have e:Pj P NC (G (b.at a (.code (.region id c NB)::k)) cs) w₁=.go (G (b.at a (.inRegion c (Uq (P.follows .mixedOrders) c (w₁.tape w₁.drawn (.order b.fn id)))::k)) cs) { w₁ with drawn:=w₁.drawn+1 } #[]:=by
  simp[G,Pj,Re,Frame.at,choose,Pr,Question.forced,Question.cut]
 refine⟨_,_,_,e,⟨λ_ _ _=>rfl,Nv _,rfl,rfl,by simp⟩,?_⟩;have j:grow S w₁ { w₁ with drawn:=w₁.drawn+1 }=S:=jq S w₁;rw[j];have:=az.any hK I (w:=w) hstep hend c.size (w₁.tape w₁.drawn (.order b.fn id)) _ a (by simp) (by
  unfold unl;exact NM (PS _ _) (by simp)) h0
 have l:az P Fz K Stop S (G (b.at a (.inRegion c (Uq (P.follows .mixedOrders) c (w₁.tape w₁.drawn (.order b.fn id)))::k)) cs) w:=by
  simp only[Uq,hm,ZF,if_true];exact this
 exact l.rely hK ⟨λb f=>h₁.own b f,λb f=>h₁.fz b f,h₁.size,h₁.os,h₁.output,hK _ _ _ h₁.k (g _ _)⟩
omit hK in
theorem az.of_goes2{R:Nt->Nt->Prop}(c:∀w w₁,RC Fz K S w w₁->R w w₁)(r:∀w,R w w){a:NF->Nt->Prop}(f:∀g w,a g w->Stop S g w):∀{n:NA} {g:NF} {w:Nt},TO P NC R UN a n g w->az P Fz K Stop S g w:=by
 intro n;induction n with
 | zero=>exact λh=>az.stop λw₁ h₁=>f _ _ (h w₁ (c _ _ h₁))
 | succ n i=>
  intro g w h;rcases h with h | ⟨l,h⟩
  ·exact az.stop λw₁ h₁=>f _ _ (h w₁ (c _ _ h₁))
  ·refine .step l λw₁ h₁=>?_;have⟨o,d,s,e,⟨q,p⟩,j⟩:=goes_elim (h w₁ (c _ _ h₁));subst q;subst p;exact⟨o,d,#[],e,zr S d,by rw[jq];exact i j⟩
end
end
section
open Go.Conc Go.ConcN
open Go.ConcR (KK wgBlock WgAt stA smA rd wr mk DC0)
def LR(ty:NZ)(Wg:NA)(w w₁:Nt):Prop:=QO ty Wg w->QO ty Wg w₁
def DM(Wg:NA)(w b:Nt)(c:NJ Pz):Prop:=b=w/\∀e∈c,e=mk (.read (Yi Wg))\/e=mk (.write (Yi Wg))
section
variable(P:NR)(ty:NZ)(Wg:NA)
def WG(b:NF->Nt->Prop)(m:NA)(g:NF)(w:Nt):Prop:=TO P NC (LR ty Wg) ZA b m g w
def WD4(g:NF)(w:Nt):Prop :=
 g.status=.running/\ZG P g=NB/\(Uz ty Wg w 0 0->∃b,Pj P NC g w=.go b (w.setCell (Yi Wg) (.int .u32 1)) (SU (Yi Wg))/\∃q,VK P q 1 b)
def WD3(g:NF)(w:Nt):Prop :=
 g.status=.running/\(Uz ty Wg w 1 0->∃b,Pj P NC g w=.go b (w.setCell (Uk Wg) (.int .u64 0)) #[wr (Uk Wg)]/\∃m,WG P ty Wg (WD4 P ty Wg) m b (w.setCell (Uk Wg) (.int .u64 0)))
def WD2(g:NF)(w:Nt):Prop :=
 g.status=.running/\(Uz ty Wg w 1 0->∃b,Pj P NC g w=.go b w #[rd (Uk Wg)]/\∃m,WG P ty Wg (WD3 P ty Wg) m b w)
def WD1(g:NF)(w:Nt):Prop :=
 g.status=.running/\∀v b:NA,b<=1->v<2147483647->Uz ty Wg w ((v+1)*KK+b) 0 ->
  ∃c,Pj P NC g w=.go c (w.setCell (Uk Wg) (.int .u64 (v*KK+b))) #[rd (Uk Wg),wr (Uk Wg)] /\
   ((v=0/\b=1)->∃m,WG P ty Wg (WD2 P ty Wg) m c (w.setCell (Uk Wg) (.int .u64 (v*KK+b))))/\(¬ (v=0/\b=1)->∃q,VK P q 1 c)
def WK1(g:NF)(w:Nt):Prop :=
 g.status=.running/\∃b,Pj P NC g w=.go b w #[Qz .disable]/\∃m,WG P ty Wg (WD1 P ty Wg) m b w
def ME(g:NF)(w:Nt):Prop :=
 ∃b,Pj P NC g w=.go b w #[Qz (.releaseMerge (Uk Wg))]/\∃m,WG P ty Wg (WK1 P ty Wg) m b w
end
structure Cfg(U X:Type) where
 P:NR
 ty:NZ
 Wg:NA
 lo:NA
 n:NA
 Fz:Bs
 Sy:Bs
 clA:NA->Cl
 DataAt:U->Nt->Prop
 WA:X->Bs->NF->Nt->Prop
 Tr:U->X->U->X->Prop
 J:U->NA->(NA->X)->Prop
 m:U->NA
 nu:X->NA
 l0:X
 fin:X->Prop
 W1:Nt
 Fin:NF->Nt->Prop
 AnchW:NF->Nt->Prop
 Post:Ny->Nt->Prop
section
variable{U X:Type}(C:Cfg U X)
def Cfg.K(w w₁:Nt):Prop:=(QO C.ty C.Wg w->QO C.ty C.Wg w₁)/\((∃W,C.DataAt W w)->∃W,C.DataAt W w₁)
structure Cfg.Ph(w:Nt):Prop where
 fz:∀b,C.Fz b->w.heap[b]?=C.W1.heap[b]?
 size:C.W1.heap.size<=w.heap.size
 os:w.os=C.W1.os
 output:w.output=C.W1.output
def flat(c:NA->Cl)(b:NA):Cl:=match c b with | .sync=>.sync | _=>.mine 0
def Cfg.GW(b:NF->Nt->Prop)(m:NA)(g:NF)(w:Nt):Prop:=WG C.P C.ty C.Wg b m g w
def Cfg.AtD4:NF->Nt->Prop:=WD4 C.P C.ty C.Wg
def Cfg.AtD3:NF->Nt->Prop:=WD3 C.P C.ty C.Wg
def Cfg.AtD2:NF->Nt->Prop:=WD2 C.P C.ty C.Wg
def Cfg.AtD1:NF->Nt->Prop:=WD1 C.P C.ty C.Wg
def Cfg.AtK1:NF->Nt->Prop:=WK1 C.P C.ty C.Wg
def Cfg.AtEnd:NF->Nt->Prop:=ME C.P C.ty C.Wg
def Cfg.AtSync(l:X)(S:Bs)(g:NF)(w:Nt):Prop :=
 ∀W,C.DataAt W w->(∃j ls,j<=C.n/\C.J W j ls)->∃h c i γ' f,Pj C.P NC g w=.go h c i/\(∀b,¬ C.Sy b->c.heap[b]?=w.heap[b]?)/\c.heap.size=w.heap.size/\c.os=w.os/\c.output=w.output /\
  (∀e∈i,∃a wr,e=⟨.cell a,wr,NB⟩/\C.Sy a.block)/\C.DataAt γ' c/\C.Tr W l γ' f/\C.WA f S h c
def Cfg.Stop(l:X)(S:Bs)(g:NF)(w:Nt):Prop:=g.status=.running/\((C.fin l/\C.AtEnd g w)\/(¬ C.fin l/\C.AtSync l S g w))
def Cfg.GM(b:NF->Nt->Prop)(m:NA)(g:NF)(w:Nt):Prop:=TO C.P NB (LR C.ty C.Wg) (DM C.Wg) b m g w
def Cfg.AtAcq(g:NF)(w:Nt):Prop :=
 g.status=.running/\∃b,Pj C.P NB g w=.go b w #[Qz (.acquire (Uk C.Wg))]/\C.Fin b w
def Cfg.AtKe(g:NF)(w:Nt):Prop :=
 g.status=.running/\∃b,Pj C.P NB g w=.go b w #[Qz .enable]/\∃m,C.GM C.AtAcq m b w
def Cfg.AtW4(g:NF)(w:Nt):Prop :=
 g.status=.running/\(Uz C.ty C.Wg w 0 0->∃b,Pj C.P NB g w=.go b w #[rd (Uk C.Wg)]/\∃m,C.GM C.AtKe m b w)
def Cfg.AtW3(g:NF)(w:Nt):Prop :=
 g.status=.running/\g.offers=Ns /\
  ((∃c,Uz C.ty C.Wg w c 0)->Pj C.P NB g w=.go { g with status:=.blocked } w #[]) /\
  (Uz C.ty C.Wg w 0 1->∃b,Pj C.P NB g w=.go b (w.setCell (Yi C.Wg) (.int .u32 0)) (SU (Yi C.Wg))/\∃m,C.GM C.AtW4 m b (w.setCell (Yi C.Wg) (.int .u32 0)))
def Cfg.AtW2(c:NA)(g:NF)(w:Nt):Prop :=
 g.status=.running/\∀v:NA,v<2147483648->Uz C.ty C.Wg w (v*KK) 0 ->
  (v=c->∃b,Pj C.P NB g w=.go b (w.setCell (Uk C.Wg) (.int .u64 (v*KK+1))) #[rd (Uk C.Wg),wr (Uk C.Wg)]/\∃m,C.GM C.AtW3 m b (w.setCell (Uk C.Wg) (.int .u64 (v*KK+1)))) /\
  (v≠c->∃b,Pj C.P NB g w=.go b w #[rd (Uk C.Wg)]/\∃m,C.GM C.AnchW m b w)
def Cfg.AtW1(g:NF)(w:Nt):Prop :=
 g.status=.running/\∀v:NA,v<2147483648->Uz C.ty C.Wg w (v*KK) 0->∃b,Pj C.P NB g w=.go b w #[rd (Uk C.Wg)] /\
  (v=0->∃m,C.GM C.AtKe m b w)/\(v≠0->∃m,C.GM (C.AtW2 v) m b w)
def Cfg.AtKd(g:NF)(w:Nt):Prop :=
 g.status=.running/\∃b,Pj C.P NB g w=.go b w #[Qz .disable]/\∃m,C.GM C.AnchW m b w
def Cfg.FinS(g:NF)(w:Nt):Prop:=∃m,C.GM C.AtKd m g w
def Cfg.AtGoS(SX:NF->Nt->Prop)(g:NF)(w:Nt):Prop :=
 g.status=.running/\∃c b,Pj C.P NB g w=.spawn c b w #[]/\(C.Ph w->(∃W,C.DataAt W w)->C.WA C.l0 (λ_=>RI) b w)/\SX c w
def Cfg.AtKeS(SX:NF->Nt->Prop)(g:NF)(w:Nt):Prop :=
 g.status=.running/\∃b,Pj C.P NB g w=.go b w #[Qz .enable]/\∃m,C.GM (C.AtGoS SX) m b w
def Cfg.AtA1(SX:NF->Nt->Prop)(g:NF)(w:Nt):Prop :=
 g.status=.running/\∀v:NA,v<2147483647->Uz C.ty C.Wg w (v*KK) 0 ->
  ∃b,Pj C.P NB g w=.go b (w.setCell (Uk C.Wg) (.int .u64 ((v+1)*KK))) #[rd (Uk C.Wg),wr (Uk C.Wg)]/\∃m,C.GM (C.AtKeS SX) m b (w.setCell (Uk C.Wg) (.int .u64 ((v+1)*KK)))
def Cfg.AtKdS(SX:NF->Nt->Prop)(g:NF)(w:Nt):Prop :=
 g.status=.running/\∃b,Pj C.P NB g w=.go b w #[Qz .disable]/\∃m,C.GM (C.AtA1 SX) m b w
def Cfg.Spawns:NA->NF->Nt->Prop
 | 0,g,w=>C.FinS g w
 | r+1,g,w=>∃m,C.GM (C.AtKdS (Cfg.Spawns r)) m g w
structure Cfg.Ok:Prop where
 hn:C.n<2147483648
 hlo:1<=C.lo
 dat:∀W w w',(∀b,C.Sy b->w'.heap[b]?=w.heap[b]?)->C.DataAt W w->C.DataAt W w'
 fzc:∀b,C.Fz b->C.clA b=.ro C.lo/\b<C.W1.heap.size
 syc:∀b,C.Sy b->C.clA b=.sync/\b<C.W1.heap.size
 cla0:∀b,C.W1.heap.size<=b->C.clA b=.mine 0
 wgc:C.clA C.Wg=.sync/\C.Wg<C.W1.heap.size/\¬ C.Sy C.Wg
 hW:∀l S g w,C.WA l S g w->az C.P C.Fz C.K (C.Stop l) S g w
 hJ0:∀W j ls,C.J W j ls->C.J W (j+1) (Tv ls j C.l0)
 hJ:∀W j ls i γ' l',C.J W j ls->i<j->C.Tr W (ls i) γ' l'->C.J γ' j (Tv ls i l')
 hm:∀W l γ' l',C.Tr W l γ' l'->C.m γ'+C.nu l'<C.m W+C.nu l
 hAr:∀g w,C.AnchW g w->g.status=.running
 hAn:∀g w,C.AnchW g w->∃m,C.GM C.AtW1 m g w
 hFin:∀W ls g w,C.Fin g w->C.J W C.n ls->(∀i,i<C.n->C.fin (ls i))->C.DataAt W w->C.Ph w->E C.P C.Post (flat C.clA) g w
inductive Cfg.WS:NA->NA->NA->X->Bs->Rk->NF->Nt->Prop
 | run {l:X} {S:Bs} {r:Rk} {g:NF} {w:Nt}:Cot C.P C.Fz C.K (C.Stop l) r S g w->Cfg.WS 7 0 0 l S r g w
 | k1 {m:NA} {l:X} {S:Bs} {r:Rk} {g:NF} {w:Nt}:C.fin l->C.GW C.AtK1 m g w->Cfg.WS 6 m 0 l S r g w
 | d1 {m:NA} {l:X} {S:Bs} {r:Rk} {g:NF} {w:Nt}:C.fin l->C.GW C.AtD1 m g w->Cfg.WS 5 m 1 l S r g w
 | d2 {m:NA} {l:X} {S:Bs} {r:Rk} {g:NF} {w:Nt}:C.fin l->C.GW C.AtD2 m g w->Cfg.WS 4 m 1 l S r g w
 | d3 {m:NA} {l:X} {S:Bs} {r:Rk} {g:NF} {w:Nt}:C.fin l->C.GW C.AtD3 m g w->Cfg.WS 3 m 1 l S r g w
 | d4 {m:NA} {l:X} {S:Bs} {r:Rk} {g:NF} {w:Nt}:C.fin l->C.GW C.AtD4 m g w->Cfg.WS 2 m 1 l S r g w
 | quit {q d:NA} {l:X} {S:Bs} {r:Rk} {g:NF} {w:Nt}:C.fin l->VK C.P q d g->Cfg.WS 1 q d l S r g w
inductive Cfg.CS:YG->NA->NA->NA->NF->Nt->Prop
 | skd {r m:NA} {g:NF} {w:Nt}:r<C.n->C.GM (C.AtKdS (C.Spawns r)) m g w->Cfg.CS (.sp r 5) (C.n - (r+1)) m 0 g w
 | sa1 {r m:NA} {g:NF} {w:Nt}:r<C.n->C.GM (C.AtA1 (C.Spawns r)) m g w->Cfg.CS (.sp r 4) (C.n - (r+1)) m 1 g w
 | ske {r m:NA} {g:NF} {w:Nt}:r<C.n->C.GM (C.AtKeS (C.Spawns r)) m g w->Cfg.CS (.sp r 3) (C.n - (r+1)) m 1 g w
 | sgo {r m:NA} {g:NF} {w:Nt}:r<C.n->C.GM (C.AtGoS (C.Spawns r)) m g w->Cfg.CS (.sp r 2) (C.n - (r+1)) m 0 g w
 | kd {m:NA} {g:NF} {w:Nt}:C.GM C.AtKd m g w->Cfg.CS .kd C.n m 0 g w
 | anch {m:NA} {g:NF} {w:Nt}:C.GM C.AnchW m g w->Cfg.CS .anch C.n m 1 g w
 | w1 {m:NA} {g:NF} {w:Nt}:C.GM C.AtW1 m g w->Cfg.CS .w1 C.n m 1 g w
 | w2 {vs m:NA} {g:NF} {w:Nt}:C.GM (C.AtW2 vs) m g w->Cfg.CS (.w2 vs) C.n m 1 g w
 | w3 {m:NA} {g:NF} {w:Nt}:C.GM C.AtW3 m g w->Cfg.CS .w3 C.n (m+1) 1 g w
 | blk {g:NF} {w:Nt}:(∀w₁,LR C.ty C.Wg w w₁->C.AtW3 g w₁)->Cfg.CS .blk C.n 0 1 { g with status:=.blocked } w
 | w4 {m:NA} {g:NF} {w:Nt}:C.GM C.AtW4 m g w->Cfg.CS .w4 C.n m 1 g w
 | ke {m:NA} {g:NF} {w:Nt}:C.GM C.AtKe m g w->Cfg.CS .ke C.n m 1 g w
 | acq {m:NA} {g:NF} {w:Nt}:C.GM C.AtAcq m g w->Cfg.CS .acq C.n m 0 g w
end
section
variable{ty:NZ}{Wg:NA}{w w₁ w₂:Nt}
def LR.refl(w:Nt):LR ty Wg w w:=id
def LR.trans(h:LR ty Wg w w₁)(c:LR ty Wg w₁ w₂):LR ty Wg w w₂:=c ∘ h
def bz:∀a b c,LR ty Wg a b->LR ty Wg b c->LR ty Wg a c:=λ_ _ _ h e=>e ∘ h
def LR.to(h:QO ty Wg w₁):LR ty Wg w w₁:=λ_=>h
end
section
variable{U X:Type}{C:Cfg U X}{S:Bs}{w w₁:Nt}{s m d j f0:NA}{l:X}{r:Rk}{g a:NF}{tag:YG}
def Cfg.K.trans:∀a b c,C.K a b->C.K b c->C.K a c:=λ_ _ _ h e=>⟨e.1 ∘ h.1,e.2 ∘ h.2⟩
def Cfg.K.refl(w:Nt):C.K w w:=⟨id,id⟩
def RC.refl(w:Nt):RC C.Fz C.K S w w:=⟨λ_ _=>rfl,λ_ _=>rfl,Nv _,rfl,rfl,.refl w⟩
def Cfg.WS.rely(h:C.WS s m d l S r g w)(c:RC C.Fz C.K S w w₁):C.WS s m d l S r g w₁:=by
 cases h with
 | run h=>exact .run (h.rely Cfg.K.trans c)
 | k1 b h=>exact .k1 b (RP bz h c.k.1)
 | d1 b h=>exact .d1 b (RP bz h c.k.1)
 | d2 b h=>exact .d2 b (RP bz h c.k.1)
 | d3 b h=>exact .d3 b (RP bz h c.k.1)
 | d4 b h=>exact .d4 b (RP bz h c.k.1)
 | quit b h=>exact .quit b h
def zu{P:NR}{Fz:Bs}{K:Nt->Nt->Prop}{b:Bs->NF->Nt->Prop}(c:∀S g w,b S g w->g.status=.running)(e:∀w,K w w)(h:Cot P Fz K b r S g w):g.status=.running:=by
 cases r with
 | leaf=>exact c _ _ _ (h w ⟨λ_ _=>rfl,λ_ _=>rfl,Nv _,rfl,rfl,e w⟩)
 | nd f=>exact h.1
def Cfg.WS.running_of(h:C.WS s m d l S r g w)(c:s≠1):g.status=.running:=by
 cases h with
 | run h=>exact zu (λ_ _ _ h=>h.1) .refl h
 | k1 b h=>exact QG (λ_ _ x=>x.1) w (LR.refl w) h
 | d1 b h=>exact QG (λ_ _ x=>x.1) w (LR.refl w) h
 | d2 b h=>exact QG (λ_ _ x=>x.1) w (LR.refl w) h
 | d3 b h=>exact QG (λ_ _ x=>x.1) w (LR.refl w) h
 | d4 b h=>exact QG (λ_ _ x=>x.1) w (LR.refl w) h
 | quit b h=>exact absurd rfl c
def Cfg.WS.status(h:C.WS s m d l S r g w):g.status=.running\/g.status=.finished:=by
 by_cases e:s=1
 ·subst e;cases h with
  | quit _ h=>exact h.status
 ·exact .inl (h.running_of e)
def Cfg.WS.woken(h:C.WS s m d l S r g w)(a c:NF)(b:Nt):Yh C.P a c b g=g:=by
 unfold Zm;split
 ·exact XE _ h.status
 ·rfl
def Cfg.WS.fin_of(h:C.WS s m d l S r g w)(b:s<=6):C.fin l:=by
 cases h<;>first | assumption | omega
def Cfg.CS.rely(h:C.CS tag j f0 d a w)(c:LR C.ty C.Wg w w₁):C.CS tag j f0 d a w₁:=by
 cases h with
 | skd b h=>exact .skd b (RP bz h c)
 | sa1 b h=>exact .sa1 b (RP bz h c)
 | ske b h=>exact .ske b (RP bz h c)
 | sgo b h=>exact .sgo b (RP bz h c)
 | kd h=>exact .kd (RP bz h c)
 | anch h=>exact .anch (RP bz h c)
 | w1 h=>exact .w1 (RP bz h c)
 | w2 h=>exact .w2 (RP bz h c)
 | w3 h=>exact .w3 (RP bz h c)
 | blk h=>exact .blk λw₂ h₂=>h w₂ (LR.trans c h₂)
 | w4 h=>exact .w4 (RP bz h c)
 | ke h=>exact .ke (RP bz h c)
 | acq h=>exact .acq (RP bz h c)
def Cfg.CS.status(H:C.Ok)(h:C.CS tag j f0 d a w):(a.status=.running/\tag≠.blk)\/(a.status=.blocked/\tag=.blk):=by
 cases h with
 | skd _ h=>exact .inl ⟨QG (λ_ _ x=>x.1) w (LR.refl w) h,by simp⟩
 | sa1 _ h=>exact .inl ⟨QG (λ_ _ x=>x.1) w (LR.refl w) h,by simp⟩
 | ske _ h=>exact .inl ⟨QG (λ_ _ x=>x.1) w (LR.refl w) h,by simp⟩
 | sgo _ h=>exact .inl ⟨QG (λ_ _ x=>x.1) w (LR.refl w) h,by simp⟩
 | kd h=>exact .inl ⟨QG (λ_ _ x=>x.1) w (LR.refl w) h,by simp⟩
 | anch h=>exact .inl ⟨QG H.hAr w (LR.refl w) h,by simp⟩
 | w1 h=>exact .inl ⟨QG (λ_ _ x=>x.1) w (LR.refl w) h,by simp⟩
 | w2 h=>exact .inl ⟨QG (λ_ _ x=>x.1) w (LR.refl w) h,by simp⟩
 | w3 h=>exact .inl ⟨QG (λ_ _ x=>x.1) w (LR.refl w) h,by simp⟩
 | blk h=>exact .inr ⟨rfl,rfl⟩
 | w4 h=>exact .inl ⟨QG (λ_ _ x=>x.1) w (LR.refl w) h,by simp⟩
 | ke h=>exact .inl ⟨QG (λ_ _ x=>x.1) w (LR.refl w) h,by simp⟩
 | acq h=>exact .inl ⟨QG (λ_ _ x=>x.1) w (LR.refl w) h,by simp⟩
def Cfg.CS.le(h:C.CS tag j f0 d a w):j+WW tag<=C.n:=by
 cases h<;>simp only[WW]<;>(try simp)<;>omega
open Go.ConcR (again_blocked) in
def Cfg.CS.wokenBy(H:C.Ok)(h:C.CS tag j f0 d a w)(p:LR C.ty C.Wg w w₁)(g k:NF) :∃b n,C.CS b j n d (Yh C.P g k w₁ a) w₁/\n<=f0+1/\(b=tag\/(tag=.blk/\b=.w3))/\(ZG C.P g=NB->k.status=.running->b≠.blk):=by
 have c:=h.rely p;unfold Zm;split
 ·rcases c.status H with⟨o,e⟩ | ⟨_,rfl⟩
  ·exact⟨tag,f0,by rw[XE _ (.inl o)];exact c,by omega,.inl rfl,λ_ _=>e⟩
  ·cases c with
   | blk f=>
    have i:=f w₁ (LR.refl w₁);exact⟨.w3,0+1,by rw[again_blocked i.1 i.2.1];exact .w3 (Qh f),by omega,.inr ⟨rfl,rfl⟩,λ_ _=>by simp⟩
 ·rename_i q
  exact⟨tag,f0,c,by omega,.inl rfl,λu t=>absurd (by simp[u,t]) q⟩
end
end
section
open Go.Conc Go.ConcN Go.ConcN.Gen Go.RowKit Go.Conc.Lib Go.ConcR.Gen
open Go.ConcR (KK wgBlock WgAt stA smA rd wr mk DC0)
def qv{P:NR}{n d:NA}{b:NS}{cs:Nu NS}{k:Nu Si}{a:QF}{c:NJ PE}{i:NA}{e:Nu NA}{o:PE}{v:Ny}(f:VK P n d (G (b.at (a.put o.dst v) (.inRegion c e::k)) cs))(g:c[i]?=Nq o:=by rfl)(hw:Oy o (PH c a.tmps)=NB:=by rfl)(hk:b.kind≠.early:=by k_ne)(hr:∀w,(QN a.eval o).run P w=.ok (.value v) w:=by intro _;go_simp;first | rfl | (w_num;rfl))(he:∀w,(QN a.eval o).events P w #[]=#[]:=by intro _;simp[go_sem, *]) :VK P (n+1) d (G (b.at a (.inRegion c (i::e)::k)) cs):=QuitsD.value v g hw hk hr he f
def ah{a:NZ}{Wg:NA}{w w₁:Nt}(h:QO a Wg w)(r:LR a Wg w w₁):QO a Wg w₁:=r h
section
variable{L:WgLink}{Wg:NA}{b₀:NS}{a₀:QF}{ops₀:NJ PE}{i₀:NA}{rest₀:Nu NA}{k₀:Nu Si}{cs:Nu NS}{qt:NA}
def LJ(P:NR)(a:NZ)(Wg:NA)(g:NF)(w:Nt):Prop:=g.status=.running/\ME P a Wg g w
def addNeg{P:NR}(H:WgLib P L)(f:VK P qt 0 (G (b₀.at (a₀.put ((ops₀[i₀]?).bind (·.dst)) (.tuple #[])) (.inRegion ops₀ rest₀::k₀)) cs))(w:Nt)(a:QO L.tWg Wg w) :TO P NC (LR L.tWg Wg) ZA (LJ P L.tWg Wg) 20 (G ((base L.add).at ⟨#[.pointer (Nq ⟨Wg,0,Ns⟩),.int .i64 (-1),NG,NG,NG,NG,NG,NG,NG,NG,NG,NG,NG,NG,NG,NG,NG,NG,NG,NG,NG,NG,NG,NG,NG,NG,NG,NG,NG,NG,NG,NG,NG,NG,NG,NG,NG,NG,NG,NG,NG,NG,NG,NG,NG,NG,NG,NG,NG,NG,NG,NG,NG,NG,NG,NG,NG,NG,NG,NG,NG,NG,NG,NG,NG,NG,NG,NG,NG,NG,NG,NG,NG,NG,NG,NG,NG,NG,NG,NG,NG,NG,NG,NG,NG,NG,NG,NG,NG,NG,NG,NG,NG,NG,NG,NG,NG,NG,NG,NG,NG,NG,NG,NG,NG,NG,NG,NG,NG,NG,NG,NG,NG,NG,NG,NG,NG],[]⟩ [.code (body_add L)]) (b₀.at a₀ (.inRegion ops₀ (i₀::rest₀)::k₀)::cs)) w:=by
 lib_facts;simp only[body_add,addFn,NK];u_c Ob ah a;u_cond NB ah a;(iterate 2 u_c Ob ah a);u_reg ah a;(iterate 2 u_conv H.underlying_tWgP H.room_tWg (Wx a).choose_spec ah a);u_c NI ah a;u_cond NB ah a;u_reg ah a;(iterate 2 u_conv H.underlying_tWgP H.room_tWg (Wx a).choose_spec ah a);refine Qh (λw₁ h₁=>?_);replace a:=ah a h₁;clear h₁;refine⟨rfl,_,VE .releaseMerge (by simp) rfl rfl (by k_ne) rfl H.f_relMerge (x_relMerge_n L) (x_relMerge_b L) (x_relMerge_x L) (x_relMerge_f L) (by simp[Act.eval,Uk]),10,?_⟩;unfold WG;walk_nrm;u_c NI ah a;u_c Ob ah a;u_reg ah a;refine Qh (λw₁ h₁=>?_);replace a:=ah a h₁;clear h₁;refine⟨rfl,_,VT .disable (by simp) rfl rfl (by k_ne) rfl H.f_disable (x_disable_n L) (x_disable_b L) (x_disable_x L) (x_disable_f L),50,?_⟩;unfold WG;walk_nrm;u_c NI ah a;u_reg ah a;u_defer ah a;u_c NI ah a;u_c Ob ah a;u_reg ah a;u_op ah a;u_c NI ah a;(iterate 2 u_c Ob ah a);u_reg ah a;u_bub ah a;u_c NI ah a;u_cond NC ah a;u_c Px ah a;u_c Ob ah a;u_reg ah a;(iterate 6 u_op ah a);u_call H.f_uAdd (nm_uAdd L) uAddFn ah a;u_c Ob ah a;u_reg ah a;u_op ah a;u_c NI ah a;u_c Ob ah a;u_reg ah a;(iterate 4 u_op ah a);refine Qh (λw₁ h₁=>?_);clear h₁ a;refine⟨rfl,λv h n x b=>?_⟩;have q:IntKind.u64.wrap (KK+18446744069414584320)=0:=by decide
 have p:IntKind.u64.wrap (KK+1+18446744069414584320)=1:=by decide
 rcases VL v with rfl | o<;>(obtain rfl | rfl:h=0\/h=1:=by omega)
 ·replace b:Uz L.tWg Wg w₁ KK 0:=by simpa using b
  have z:((0:NA):NH)*KK+((0:NA):NH)=0:=by simp
  rw[z];refine⟨_,(SF rfl rfl (by k_ne) rfl H.f_addU64 (x_addU64_n L) (x_addU64_b L) (x_addU64_x L) .u64 (x_addU64_f L) rfl rfl b.cellSt (b.thaw 0)).trans (by rw[q];rfl),λd=>absurd d.2 (by decide),λ_=>⟨qt+89,?_⟩⟩;clear b;have f1:IntKind.u32.wrap 0=0:=by decide
  have f2:IntKind.u32.wrap (Wy .and .u64 0 2147483647)=0:=by decide
  walk_nrm
  (refine qv ?_;walk_nrm)
  q_c NI;q_c QL;q_leave1 H.f_uAdd
  (refine qv ?_;walk_nrm)
  q_c NI;q_c Ob;q_c Ob;q_reg
  iterate 4 (refine qv ?_;walk_nrm)
  q_skip;q_skip
  (refine qv ?_;walk_nrm)
  q_c NI;q_cond NC;q_c Px;q_c Ob;q_reg
  iterate 4 (refine qv ?_;walk_nrm)
  q_c NI;q_c Ob;q_reg
  iterate 4 (refine qv ?_;walk_nrm)
  q_c NI;q_c Ob;q_c Ob;q_reg
  iterate 5 (refine qv ?_;walk_nrm)
  q_skip;q_skip;q_skip;q_skip
  (refine qv ?_;walk_nrm)
  q_c NI;q_cond NC;q_c Px;q_c Ob;q_c Ob;q_reg
  iterate 2 (refine qv ?_;walk_nrm)
  q_c NI;q_cond NC;q_c Px;q_c Ob;q_c Ob;q_reg
  iterate 3 (refine qv ?_;walk_nrm)
  q_skip;q_skip
  iterate 2 (refine qv ?_;walk_nrm)
  q_skip;q_skip;q_skip;q_skip
  (refine qv ?_;walk_nrm)
  q_c NI;q_cond NC;q_c Px;q_c Ob;q_c Ob;q_reg
  iterate 6 (refine qv ?_;walk_nrm)
  q_c NI;q_cond NB;q_c QL;q_enable;q_leave0 H.f_add;exact f
 ·replace b:Uz L.tWg Wg w₁ (KK+1) 0:=by simpa using b
  have z:((0:NA):NH)*KK+((1:NA):NH)=1:=by simp
  rw[z];refine⟨_,(SF rfl rfl (by k_ne) rfl H.f_addU64 (x_addU64_n L) (x_addU64_b L) (x_addU64_x L) .u64 (x_addU64_f L) rfl rfl b.cellSt (b.thaw 0)).trans (by rw[p];rfl),λ_=>⟨120,?_⟩,λd=>absurd ⟨rfl,rfl⟩ d⟩;have a:QO L.tWg Wg (w₁.setCell (Uk Wg) (.int .u64 1)):=⟨_,_,b.setSt 1⟩;clear b;unfold WG;walk_nrm;u_op ah a;u_c NI ah a;u_c QL ah a;u_leave1 H.f_uAdd ah a;u_op ah a;u_c NI ah a;(iterate 2 u_c Ob ah a);u_reg ah a;(iterate 4 u_op ah a);u_skip ah a;u_skip ah a;u_op ah a;u_c NI ah a;u_cond NC ah a;u_c Px ah a;u_c Ob ah a;u_reg ah a;(iterate 4 u_op ah a);u_c NI ah a;u_c Ob ah a;u_reg ah a;(iterate 4 u_op ah a);u_c NI ah a;(iterate 2 u_c Ob ah a);u_reg ah a;(iterate 5 u_op ah a);(iterate 4 u_skip ah a);u_op ah a;u_c NI ah a;u_cond NC ah a;u_c Px ah a;(iterate 2 u_c Ob ah a);u_reg ah a;u_op ah a;u_op ah a;u_c NI ah a;u_cond NC ah a;u_c Px ah a;(iterate 2 u_c Ob ah a);u_reg ah a;(iterate 7 u_op ah a);(iterate 4 u_skip ah a);u_op ah a;u_c NI ah a;u_cond NC ah a;u_c Px ah a;(iterate 2 u_c Ob ah a);u_reg ah a;(iterate 6 u_op ah a);u_c NI ah a;u_cond NC ah a;u_c Px ah a;(iterate 2 u_c Ob ah a);u_reg ah a;(iterate 3 u_op ah a);u_call H.f_uLoad (nm_uLoad L) uLoadFn ah a;u_c Ob ah a;u_reg ah a;u_op ah a;u_c NI ah a;u_c Ob ah a;u_reg ah a;(iterate 3 u_op ah a);refine Qh (λw₂ h₂=>?_);clear h₂ a;refine⟨rfl,λb=>⟨_,SY rfl rfl (by k_ne) rfl H.f_loadU64 (x_loadU64_n L) (x_loadU64_b L) (x_loadU64_x L) .u64 (x_loadU64_f L) rfl b.cellSt,40,?_⟩⟩;have a:QO L.tWg Wg w₂:=⟨_,_,b⟩;clear b;unfold WG;walk_nrm;u_op ah a;u_c NI ah a;u_c QL ah a;u_leave1 H.f_uLoad ah a;u_op ah a;u_op ah a;u_c NI ah a;u_cond NC ah a;u_c Px ah a;u_c Ob ah a;u_reg ah a;(iterate 3 u_op ah a);u_call H.f_uStore (nm_uStore L) uStoreFn ah a;u_reg ah a;(iterate 4 u_op ah a);refine Qh (λw₃ h₃=>?_);clear h₃ a;refine⟨rfl,λb=>⟨_,stepG_store_atomic rfl rfl (by k_ne) rfl H.f_storeU64 (x_storeU64_n L) (x_storeU64_b L) (x_storeU64_x L) (x_storeU64_f L) rfl rfl b.cellSt (b.thaw 0),50,?_⟩⟩;have a:QO L.tWg Wg (w₃.setCell (Uk Wg) (.int .u64 0)):=⟨_,_,b.setSt 0⟩;clear b;unfold WG;walk_nrm;u_c NI ah a;u_c YF ah a;u_leave0 H.f_uStore ah a;u_c NI ah a;(iterate 2 u_c Ob ah a);u_reg ah a;u_op ah a;u_c NI ah a;u_cond NC ah a;u_c Px ah a;u_c UD ah a;u_c XP ah a;(iterate 2 u_c Ob ah a);u_reg ah a;u_op ah a;u_op ah a;u_c NI ah a;u_cond NB ah a;u_c Px ah a;u_c Ob ah a;u_c UD ah a;u_reg ah a;(iterate 3 u_op ah a);refine Qh (λw₄ h₄=>?_);clear h₄ a;refine⟨rfl,mayWake_entry rfl rfl H.f_semrelease (x_semrelease_b L),λb=>⟨_,(stepG_semrelease rfl rfl (by k_ne) rfl H.f_semrelease (x_semrelease_n L) (x_semrelease_b L) (x_semrelease_x L) (x_semrelease_f L) (by simp[Act.eval,Yi]) b.cellSm (b.thaw 1)).trans (by rfl),qt+19,?_⟩⟩;clear b;walk_nrm;q_c NI;q_c stepG_inBlock;q_reg
  iterate 3 (refine qv ?_;walk_nrm)
  have f1:IntKind.u32.wrap 0=0:=by decide
  simp only[f1];q_c NI;q_c stepG_inLoop;q_c Ob;q_c Ob;q_reg
  iterate 2 (refine qv ?_;walk_nrm)
  q_c NI;q_cond NC;q_exit;q_c YF;q_enable;q_leave0 H.f_add;exact f
 ·replace b:Uz L.tWg Wg w₁ (((v:NA)+1)*KK+0) 0:=by simpa using b
  have z:((v:NA):NH)*KK+((0:NA):NH)=(v:NH)*KK+0:=by simp
  rw[z];have g:0<v:=by omega
  have e:IntKind.u64.wrap (((v:NA)+1)*KK+0+18446744069414584320)=(v:NH)*KK+0:=by rw[Vd];simp only[KK];omega
  obtain⟨S,c⟩:∃S:NH,S=(v:NH)*KK+0:=⟨_,rfl⟩;rw[<- c] at e ⊢;have u:S / 4294967296=(v:NH):=by rw[c];simp only[KK];omega
  have t:Wy .and .u64 S 2147483648=0:=by rw[c];have:=ZH v 0 (by omega) (by omega);simpa[KK] using this
  have s:Wy .and .u64 S 2147483647=0:=by rw[c];have:=XQ v 0 (by omega) (by omega);simpa[KK] using this
  have r:IntKind.i32.wrap (v:NH)=(v:NH):=by rw[Ve];omega
  have l:decide ((v:NH)<0)=NC:=decide_eq_false (by omega);have k:decide (0<(v:NH))=NB:=decide_eq_true (by omega);have j:((v:NH) == 0)=NC:=by simp;omega
  have i:decide ((v:NH)=0)=NC:=decide_eq_false (by omega);have f1:IntKind.u32.wrap 0=0:=by decide
  refine⟨_,(SF rfl rfl (by k_ne) rfl H.f_addU64 (x_addU64_n L) (x_addU64_b L) (x_addU64_x L) .u64 (x_addU64_f L) rfl rfl b.cellSt (b.thaw 0)).trans (by rw[e];rfl),λd=>absurd d.1 (by omega),λ_=>⟨qt+89,?_⟩⟩;clear b c z e;walk_nrm
  (refine qv ?_;walk_nrm)
  q_c NI;q_c QL;q_leave1 H.f_uAdd
  (refine qv ?_;walk_nrm)
  q_c NI;q_c Ob;q_c Ob;q_reg
  iterate 4 (refine qv ?_;walk_nrm)
  q_skip;q_skip
  (refine qv ?_;walk_nrm)
  q_c NI;q_cond NC;q_c Px;q_c Ob;q_reg
  iterate 4 (refine qv ?_;walk_nrm)
  q_c NI;q_c Ob;q_reg
  iterate 4 (refine qv ?_;walk_nrm)
  q_c NI;q_c Ob;q_c Ob;q_reg
  iterate 5 (refine qv ?_;walk_nrm)
  q_skip;q_skip;q_skip;q_skip
  (refine qv ?_;walk_nrm)
  q_c NI;q_cond NC;q_c Px;q_c Ob;q_c Ob;q_reg
  iterate 2 (refine qv ?_;walk_nrm)
  q_c NI;q_cond NC;q_c Px;q_c Ob;q_c Ob;q_reg
  iterate 3 (refine qv ?_;walk_nrm)
  q_skip;q_skip
  iterate 2 (refine qv ?_;walk_nrm)
  q_skip;q_skip;q_skip;q_skip
  (refine qv ?_;walk_nrm)
  q_c NI;q_cond NC;q_c Px;q_c Ob;q_c Ob;q_reg
  iterate 3 (refine qv ?_;walk_nrm)
  q_skip;q_skip
  (refine qv ?_;walk_nrm)
  q_c NI;q_cond NB;q_c QL;q_enable;q_leave0 H.f_add;exact f
 ·replace b:Uz L.tWg Wg w₁ (((v:NA)+1)*KK+1) 0:=by simpa using b
  have z:((v:NA):NH)*KK+((1:NA):NH)=(v:NH)*KK+1:=by simp
  rw[z];have g:0<v:=by omega
  have e:IntKind.u64.wrap (((v:NA)+1)*KK+1+18446744069414584320)=(v:NH)*KK+1:=by rw[Vd];simp only[KK];omega
  obtain⟨S,c⟩:∃S:NH,S=(v:NH)*KK+1:=⟨_,rfl⟩;rw[<- c] at e ⊢;have u:S / 4294967296=(v:NH):=by rw[c];simp only[KK];omega
  have t:Wy .and .u64 S 2147483648=0:=by rw[c];have:=ZH v 1 (by omega) (by omega);simpa[KK] using this
  have s:Wy .and .u64 S 2147483647=1:=by rw[c];have:=XQ v 1 (by omega) (by omega);simpa[KK] using this
  have r:IntKind.i32.wrap (v:NH)=(v:NH):=by rw[Ve];omega
  have l:decide ((v:NH)<0)=NC:=decide_eq_false (by omega);have k:decide (0<(v:NH))=NB:=decide_eq_true (by omega);have j:((v:NH) == 0)=NC:=by simp;omega
  have i:decide ((v:NH)=0)=NC:=decide_eq_false (by omega);refine⟨_,(SF rfl rfl (by k_ne) rfl H.f_addU64 (x_addU64_n L) (x_addU64_b L) (x_addU64_x L) .u64 (x_addU64_f L) rfl rfl b.cellSt (b.thaw 0)).trans (by rw[e];rfl),λd=>absurd d.1 (by omega),λ_=>⟨qt+89,?_⟩⟩;clear b c z e;walk_nrm
  (refine qv ?_;walk_nrm)
  q_c NI;q_c QL;q_leave1 H.f_uAdd
  (refine qv ?_;walk_nrm)
  q_c NI;q_c Ob;q_c Ob;q_reg
  iterate 4 (refine qv ?_;walk_nrm)
  q_skip;q_skip
  (refine qv ?_;walk_nrm)
  q_c NI;q_cond NC;q_c Px;q_c Ob;q_reg
  iterate 4 (refine qv ?_;walk_nrm)
  q_c NI;q_c Ob;q_reg
  iterate 4 (refine qv ?_;walk_nrm)
  q_c NI;q_c Ob;q_c Ob;q_reg
  iterate 5 (refine qv ?_;walk_nrm)
  q_skip;q_skip;q_skip;q_skip
  (refine qv ?_;walk_nrm)
  q_c NI;q_cond NC;q_c Px;q_c Ob;q_c Ob;q_reg
  iterate 2 (refine qv ?_;walk_nrm)
  q_c NI;q_cond NC;q_c Px;q_c Ob;q_c Ob;q_reg
  iterate 7 (refine qv ?_;walk_nrm)
  q_skip;q_skip;q_skip;q_skip
  (refine qv ?_;walk_nrm)
  q_c NI;q_cond NC;q_c Px;q_c Ob;q_c Ob;q_reg
  iterate 3 (refine qv ?_;walk_nrm)
  q_skip;q_skip
  (refine qv ?_;walk_nrm)
  q_c NI;q_cond NB;q_c QL;q_enable;q_leave0 H.f_add;exact f
def done{P:NR}(H:WgLib P L){c:NS}(b:c.mode=.returning)(e:VK P qt 0 (G c cs))(w:Nt)(a:QO L.tWg Wg w) :TO P NC (LR L.tWg Wg) ZA (LJ P L.tWg Wg) 23 (G ((baseD L.done).at ⟨#[.pointer (Nq ⟨Wg,0,Ns⟩),NG,NG,NG],[]⟩ [.code (body_done L)]) (c::cs)) w:=by
 lib_facts;have d:=@addNeg L Wg;simp only[body_done,body_add,doneFn,addFn,NK] at d ⊢;u_reg ah a;u_op ah a;u_in ah a;refine goes_call rfl rfl (by k_ne) rfl H.f_add (nm_add L) rfl ⟨by u_nil,?_⟩
 walk_nrmf addFn
 refine d (qt:=qt+3) H ?_ _ a;q_c NI;q_c YF;exact QuitsD.leaveD rfl rfl H.f_done rfl b e
end
end
section
open Go.Conc Go.ConcN Go.ConcN.Gen Go.RowKit Go.Conc.Lib Go.ConcR.Gen
open Go.ConcR (KK wgBlock WgAt stA smA rd wr mk DC0)
def af{ty:NZ}{Wg:NA}{w w₁:Nt}(h:QO ty Wg w)(r:LR ty Wg w w₁):QO ty Wg w₁:=r h
section
variable(P:NR)(b:OI)(ty:NZ)(Wg:NA)
def Bo(m:Mark)(SX:NF->Nt->Prop)(N:NA)(g:NF)(w:Nt):Prop :=
 g.status=.running/\∃a,Pj P b g w=.go a w #[mk m]/\TO P b (LR ty Wg) ZA SX N a w
def Kx(SX:NF->Nt->Prop)(g:NF)(w:Nt):Prop :=
 g.status=.running/\∀v:NA,v<2147483647->Uz ty Wg w (v*KK) 0 ->
  ∃a,Pj P b g w=.go a (w.setCell (Uk Wg) (.int .u64 ((v+1)*KK))) #[rd (Uk Wg),wr (Uk Wg)] /\
   (TO P b (LR ty Wg) ZA (Bo P b ty Wg (.read (Yi Wg)) (Bo P b ty Wg .enable SX 2) 60) 110 a (w.setCell (Uk Wg) (.int .u64 ((v+1)*KK))) \/
    TO P b (LR ty Wg) ZA (Bo P b ty Wg .enable SX 2) 110 a (w.setCell (Uk Wg) (.int .u64 ((v+1)*KK))))
end
section
variable{L:WgLink}{Wg:NA}{SX:NF->Nt->Prop}{b₀:NS}{a₀:QF}{ops₀:NJ PE}{i₀:NA}{rest₀:Nu NA}{k₀:Nu Si}{cs:Nu NS}
def addPos{P:NR}(H:WgLib P L)(f:∀w,QO L.tWg Wg w->SX (G (b₀.at (a₀.put ((ops₀[i₀]?).bind (·.dst)) (.tuple #[])) (.inRegion ops₀ rest₀::k₀)) cs) w)(w:Nt)(a:QO L.tWg Wg w) :TO P NB (LR L.tWg Wg) ZA (Bo P NB L.tWg Wg .disable (Kx P NB L.tWg Wg SX) 40) 12 (G ((base L.add).at ⟨#[.pointer (Nq ⟨Wg,0,Ns⟩),.int .i64 1,NG,NG,NG,NG,NG,NG,NG,NG,NG,NG,NG,NG,NG,NG,NG,NG,NG,NG,NG,NG,NG,NG,NG,NG,NG,NG,NG,NG,NG,NG,NG,NG,NG,NG,NG,NG,NG,NG,NG,NG,NG,NG,NG,NG,NG,NG,NG,NG,NG,NG,NG,NG,NG,NG,NG,NG,NG,NG,NG,NG,NG,NG,NG,NG,NG,NG,NG,NG,NG,NG,NG,NG,NG,NG,NG,NG,NG,NG,NG,NG,NG,NG,NG,NG,NG,NG,NG,NG,NG,NG,NG,NG,NG,NG,NG,NG,NG,NG,NG,NG,NG,NG,NG,NG,NG,NG,NG,NG,NG,NG,NG,NG,NG,NG,NG],[]⟩ [.code (body_add L)]) (b₀.at a₀ (.inRegion ops₀ (i₀::rest₀)::k₀)::cs)) w:=by
 lib_facts;simp only[body_add,addFn,NK];u_c Ob af a;u_cond NB af a;(iterate 2 u_c Ob af a);u_reg af a;u_op af a;u_op af a;u_c NI af a;u_cond NC af a;u_c Px af a;u_c Ob af a;u_reg af a;refine Qh (λw₁ h₁=>?_);replace a:=af a h₁;clear h₁;refine⟨rfl,_,VT .disable (by simp) rfl rfl (by k_ne) rfl H.f_disable (x_disable_n L) (x_disable_b L) (x_disable_x L) (x_disable_f L),?_⟩;walk_nrm;u_c NI af a;u_reg af a;u_defer af a;u_c NI af a;u_c Ob af a;u_reg af a;u_op af a;u_c NI af a;(iterate 2 u_c Ob af a);u_reg af a;u_bub af a;u_c NI af a;u_cond NC af a;u_c Px af a;u_c Ob af a;u_reg af a;(iterate 6 u_op af a);u_call H.f_uAdd (nm_uAdd L) uAddFn af a;u_c Ob af a;u_reg af a;u_op af a;u_c NI af a;u_c Ob af a;u_reg af a;(iterate 4 u_op af a);refine Qh (λw₂ h₂=>?_);clear h₂ a;refine⟨rfl,λv s c=>?_⟩;rcases VL v with rfl | h
 ·replace c:Uz L.tWg Wg w₂ 0 0:=by simpa using c
  have z:(((0:NA):NH)+1)*KK=KK:=by simp
  rw[z];have k:IntKind.u64.wrap (0+4294967296)=KK:=by decide
  refine⟨_,(SF rfl rfl (by k_ne) rfl H.f_addU64 (x_addU64_n L) (x_addU64_b L) (x_addU64_x L) .u64 (x_addU64_f L) rfl rfl c.cellSt (c.thaw 0)).trans (by rw[k];rfl),.inl ?_⟩;have a:QO L.tWg Wg (w₂.setCell (Uk Wg) (.int .u64 KK)):=⟨_,_,c.setSt _⟩;clear c;simp only[KK] at a ⊢;walk_nrm;u_conv H.underlying_tPU32 H.room_tU32 (QP a).choose_spec af a;u_c NI af a;u_c QL af a;u_leave1 H.f_uAdd af a;u_conv H.underlying_tPU32 H.room_tU32 (QP a).choose_spec af a;u_c NI af a;(iterate 2 u_c Ob af a);u_reg af a;(iterate 4 u_conv H.underlying_tPU32 H.room_tU32 (QP a).choose_spec af a);u_skip af a;u_skip af a;u_conv H.underlying_tPU32 H.room_tU32 (QP a).choose_spec af a;u_c NI af a;u_cond NC af a;u_c Px af a;u_c Ob af a;u_reg af a;(iterate 2 u_conv H.underlying_tPU32 H.room_tU32 (QP a).choose_spec af a);u_op af a;u_conv H.underlying_tPU32 H.room_tU32 (QP a).choose_spec af a;u_c NI af a;u_c Ob af a;u_reg af a;(iterate 2 u_conv H.underlying_tPU32 H.room_tU32 (QP a).choose_spec af a);u_op af a;u_conv H.underlying_tPU32 H.room_tU32 (QP a).choose_spec af a;u_c NI af a;(iterate 2 u_c Ob af a);u_reg af a;(iterate 7 u_conv H.underlying_tPU32 H.room_tU32 (QP a).choose_spec af a);u_op af a;(iterate 2 u_conv H.underlying_tPU32 H.room_tU32 (QP a).choose_spec af a);u_c NI af a;u_cond NB af a;u_reg af a;(iterate 2 u_conv H.underlying_tPU32 H.room_tU32 (QP a).choose_spec af a);u_op af a;u_conv H.underlying_tPU32 H.room_tU32 (QP a).choose_spec af a;refine Qh (λw₃ h₃=>?_);replace a:=af a h₃;clear h₃;refine⟨rfl,_,VE .read (by simp) rfl rfl (by k_ne) rfl H.f_raceRead (x_raceRead_n L) (x_raceRead_b L) (x_raceRead_x L) (x_raceRead_f L) (ad:=⟨Wg,1,Ns⟩) (by simp[Act.eval]),?_⟩;walk_nrm;u_c NI af a;(iterate 2 u_c Ob af a);u_reg af a;u_op af a;u_op af a;u_c NI af a;u_cond NC af a;u_c Px af a;(iterate 2 u_c Ob af a);u_reg af a;(iterate 3 u_op af a);u_skip af a;u_skip af a;u_op af a;u_op af a;(iterate 4 u_skip af a);u_op af a;u_c NI af a;u_cond NC af a;u_c Px af a;(iterate 2 u_c Ob af a);u_reg af a;(iterate 3 u_op af a);u_skip af a;u_skip af a;u_op af a;u_c NI af a;u_cond NB af a;u_c QL af a;refine Qh (λw₃ h₃=>?_);replace a:=af a h₃;clear h₃;refine⟨rfl,_,XR (v:=.tuple #[]) (evs:=#[mk .enable]) rfl H.f_enable (x_enable_n L) (x_enable_b L) (x_enable_x L) (x_enable_f L) (by simp[Extern.Race.none_]) (by simp[mk]) (by simp[mk]),?_⟩;u_leave0 H.f_add af a;exact Qh λw₄ h₄=>f _ (af a h₄)
 ·obtain⟨V,e⟩:∃V:NH,V=(v:NH)+1:=⟨_,rfl⟩;obtain⟨S,d⟩:∃S:NH,S=V*KK:=⟨_,rfl⟩;have g:IntKind.u64.wrap ((v:NH)*KK+4294967296)=S:=by rw[Vd,d,e];simp only[KK];omega
  rw[<- e,<- d];have y:S / 4294967296=V:=by rw[d];simp only[KK];omega
  have x:Wy .and .u64 S 2147483648=0:=by rw[d,e];have:=ZH (v+1) 0 (by omega) (by omega);simpa[KK] using this
  have u:Wy .and .u64 S 2147483647=0:=by rw[d,e];have:=XQ (v+1) 0 (by omega) (by omega);simpa[KK] using this
  have t:IntKind.i32.wrap V=V:=by rw[Ve];omega
  have j:1<V:=by omega
  have i:V<2147483648:=by omega
  have r:(V == 1)=NC:=by simp;omega
  have q:decide (V=1)=NC:=decide_eq_false (by omega);have p:decide (V<0)=NC:=decide_eq_false (by omega);have o:decide (0<V)=NB:=decide_eq_true (by omega);have n:(V == 0)=NC:=by simp;omega
  have l:decide (V=0)=NC:=decide_eq_false (by omega);refine⟨_,(SF rfl rfl (by k_ne) rfl H.f_addU64 (x_addU64_n L) (x_addU64_b L) (x_addU64_x L) .u64 (x_addU64_f L) rfl rfl c.cellSt (c.thaw 0)).trans (by rw[g];rfl),.inr ?_⟩;have a:QO L.tWg Wg (w₂.setCell (Uk Wg) (.int .u64 S)):=⟨_,_,c.setSt _⟩;clear c d e g;walk_nrm;u_op af a;u_c NI af a;u_c QL af a;u_leave1 H.f_uAdd af a;u_op af a;u_c NI af a;(iterate 2 u_c Ob af a);u_reg af a;(iterate 4 u_op af a);u_skip af a;u_skip af a;u_op af a;u_c NI af a;u_cond NC af a;u_c Px af a;u_c Ob af a;u_reg af a;(iterate 4 u_op af a);u_c NI af a;u_c Ob af a;u_reg af a;(iterate 4 u_op af a);u_c NI af a;(iterate 2 u_c Ob af a);u_reg af a;(iterate 10 u_op af a);u_c NI af a;u_cond NC af a;u_c Px af a;(iterate 2 u_c Ob af a);u_reg af a;u_op af a;u_op af a;u_c NI af a;u_cond NC af a;u_c Px af a;(iterate 2 u_c Ob af a);u_reg af a;(iterate 3 u_op af a);u_skip af a;u_skip af a;u_op af a;u_op af a;(iterate 4 u_skip af a);u_op af a;u_c NI af a;u_cond NC af a;u_c Px af a;(iterate 2 u_c Ob af a);u_reg af a;(iterate 3 u_op af a);u_skip af a;u_skip af a;u_op af a;u_c NI af a;u_cond NB af a;u_c QL af a;refine Qh (λw₃ h₃=>?_);replace a:=af a h₃;clear h₃;refine⟨rfl,_,XR (v:=.tuple #[]) (evs:=#[mk .enable]) rfl H.f_enable (x_enable_n L) (x_enable_b L) (x_enable_x L) (x_enable_f L) (by simp[Extern.Race.none_]) (by simp[mk]) (by simp[mk]),?_⟩;u_leave0 H.f_add af a;exact Qh λw₄ h₄=>f _ (af a h₄)
end
end
section
open Go.Conc Go.ConcN Go.ConcN.Gen Go.RowKit Go.Conc.Lib Go.ConcR.Gen
open Go.ConcR (KK wgBlock WgAt stA smA rd wr mk DC0)
def ae{ty:NZ}{Wg:NA}{w w₁:Nt}(h:QO ty Wg w)(r:LR ty Wg w w₁):QO ty Wg w₁:=r h
section
variable(P:NR)(ty:NZ)(Wg:NA)(Fin Anch:NF->Nt->Prop)
def sO(m:Mark)(SX:NF->Nt->Prop)(N:NA)(g:NF)(w:Nt):Prop :=
 g.status=.running/\∃a,Pj P NB g w=.go a w #[mk m]/\TO P NB (LR ty Wg) ZA SX N a w
def MW4(g:NF)(w:Nt):Prop :=
 g.status=.running/\(Uz ty Wg w 0 0->∃a,Pj P NB g w=.go a w #[rd (Uk Wg)]/\TO P NB (LR ty Wg) ZA (sO P ty Wg .enable (sO P ty Wg (.acquire (Uk Wg)) Fin 40) 12) 30 a w)
def MW3(g:NF)(w:Nt):Prop :=
 g.status=.running/\g.offers=Ns /\
  ((∃b,Uz ty Wg w b 0)->Pj P NB g w=.go { g with status:=.blocked } w #[]) /\
  (Uz ty Wg w 0 1->∃a,Pj P NB g w=.go a (w.setCell (Yi Wg) (.int .u32 0)) (SU (Yi Wg))/\TO P NB (LR ty Wg) ZA (MW4 P ty Wg Fin) 30 a (w.setCell (Yi Wg) (.int .u32 0)))
def MW2(b:NA)(g:NF)(w:Nt):Prop :=
 g.status=.running/\∀v:NA,v<2147483648->Uz ty Wg w (v*KK) 0 ->
  (v=b->∃a,Pj P NB g w=.go a (w.setCell (Uk Wg) (.int .u64 (v*KK+1))) #[rd (Uk Wg),wr (Uk Wg)]/\TO P NB (LR ty Wg) ZA (sO P ty Wg (.write (Yi Wg)) (MW3 P ty Wg Fin) 40) 70 a (w.setCell (Uk Wg) (.int .u64 (v*KK+1)))) /\
  (v≠b->∃a,Pj P NB g w=.go a w #[rd (Uk Wg)]/\TO P NB (LR ty Wg) ZA Anch 20 a w)
def MW1(g:NF)(w:Nt):Prop :=
 g.status=.running/\∀v:NA,v<2147483648->Uz ty Wg w (v*KK) 0->∃a,Pj P NB g w=.go a w #[rd (Uk Wg)] /\
  (v=0->TO P NB (LR ty Wg) ZA (sO P ty Wg .enable (sO P ty Wg (.acquire (Uk Wg)) Fin 40) 12) 50 a w)/\(v≠0->TO P NB (LR ty Wg) ZA (MW2 P ty Wg Fin Anch v) 60 a w)
end
def oy(L:WgLink)(Wg:NA)(c:NS)(cs:Nu NS)(g:NF)(w:Nt):Prop :=
 ∃T:NJ Ny,g=G ((base L.wait).at ⟨T,[]⟩ [.code (L7 L),.inLoop (L7 L),.inBlock 0]) (c::cs)/\T.size=84/\T[0]?=Nq (.pointer (Nq ⟨Wg,0,Ns⟩))/\QO L.tWg Wg w
section
variable{L:WgLink}{Wg:NA}{Fin:NF->Nt->Prop}{b₀:NS}{a₀:QF}{ops₀:NJ PE}{i₀:NA}{rest₀:Nu NA}{k₀:Nu Si}{cs:Nu NS}
def waitRound{P:NR}(H:WgLib P L)(j:∀w,QO L.tWg Wg w->Fin (G (b₀.at (a₀.put ((ops₀[i₀]?).bind (·.dst)) (.tuple #[])) (.inRegion ops₀ rest₀::k₀)) cs) w)(g:NF)(w:Nt)(h:oy L Wg (b₀.at a₀ (.inRegion ops₀ (i₀::rest₀)::k₀)) cs g w) :TO P NB (LR L.tWg Wg) ZA (MW1 P L.tWg Wg Fin (oy L Wg (b₀.at a₀ (.inRegion ops₀ (i₀::rest₀)::k₀)) cs)) 30 g w:=by
 lib_facts;obtain⟨T,rfl,d,i,a⟩:=h;obtain⟨v0,v1,v2,v3,v4,v5,v6,v7,v8,v9,m6,m5,m4,m3,l9,l8,l7,l6,l5,l4,k9,k8,k7,k6,k5,k0,h9,h8,g9,g8,g7,g6,g5,e9,e8,e7,e6,e5,e4,d9,d8,d7,d6,d5,c9,c8,c3,b9,b8,b7,b6,b0,a9,a8,a7,a6,Z,Y,X,W,V,U,R,Q,O,N,M,I,F,D,B,A,z,y,x,u,t,s,r,q,p,o,l,k,rfl⟩:=array84 T d;simp only[UY,List.getElem?_cons_zero,OM] at i;subst i;simp only[L7,body_wait,waitFn,NK];u_c UD ae a;u_c Ob ae a;u_reg ae a;(iterate 3 u_op ae a);u_call H.f_uLoad (nm_uLoad L) uLoadFn ae a;u_c Ob ae a;u_reg ae a;u_op ae a;u_c NI ae a;u_c Ob ae a;u_reg ae a;(iterate 3 u_op ae a);refine Qh (λw₁ h₁=>?_);replace a:=ae a h₁;clear h₁;refine⟨rfl,λv hv b=>?_⟩;rcases VL v with rfl | m8
 ·replace b:Uz L.tWg Wg w₁ 0 0:=by simpa using b
  refine⟨_,SY (v:=0) rfl rfl (by k_ne) rfl H.f_loadU64 (x_loadU64_n L) (x_loadU64_b L) (x_loadU64_x L) .u64 (x_loadU64_f L) rfl b.cellSt,λ_=>?_,λh=>absurd rfl h⟩;clear b;walk_nrm;u_op ae a;u_c NI ae a;u_c QL ae a;u_leave1 H.f_uLoad ae a;u_op ae a;u_c NI ae a;u_c Ob ae a;u_reg ae a;(iterate 4 u_op ae a);u_c NI ae a;u_c Ob ae a;u_reg ae a;(iterate 4 u_op ae a);u_c NI ae a;(iterate 2 u_c Ob ae a);u_reg ae a;u_op ae a;u_op ae a;u_c NI ae a;u_cond NB ae a;u_c Ob ae a;u_cond NB ae a;u_c Ob ae a;u_reg ae a;refine Qh (λw₅ h₅=>?_);replace a:=ae a h₅;clear h₅;refine⟨rfl,_,VT .enable (by simp) rfl rfl (by k_ne) rfl H.f_enable (x_enable_n L) (x_enable_b L) (x_enable_x L) (x_enable_f L),?_⟩;walk_nrm;u_c NI ae a;u_reg ae a;(iterate 2 u_conv H.underlying_tWgP H.room_tWg (Wx a).choose_spec ae a);refine Qh (λw₆ h₆=>?_);replace a:=ae a h₆;clear h₆;refine⟨rfl,_,VE .acquire (by simp) rfl rfl (by k_ne) rfl H.f_acquire (x_acquire_n L) (x_acquire_b L) (x_acquire_x L) (x_acquire_f L) (by simp[Act.eval,Uk]),?_⟩;walk_nrm;u_c NI ae a;(iterate 2 u_c Ob ae a);u_reg ae a;(iterate 8 u_op ae a);u_skip ae a;u_skip ae a;u_op ae a;u_c NI ae a;u_cond NC ae a;u_c Px ae a;u_c QL ae a;u_leave0 H.f_wait ae a;exact Qh λw₇ h₇=>j _ (ae a h₇)
 ·obtain⟨S,c⟩:∃S:NH,(v:NH)*KK=S:=⟨_,rfl⟩;have a1:S / 4294967296=(v:NH):=by rw[<- c];simp only[KK];omega
  have b1:Wy .and .u64 S 2147483648=0:=by rw[<- c];have:=ZH v 0 (by omega) (by omega);simpa[KK] using this
  have b2:Wy .and .u64 S 2147483647=0:=by rw[<- c];have:=XQ v 0 (by omega) (by omega);simpa[KK] using this
  have c1:IntKind.i32.wrap (v:NH)=(v:NH):=by rw[Ve];omega
  have w1:IntKind.u64.wrap (S+1)=S+1:=by rw[Vd,<- c];simp only[KK];omega
  have q3:decide ((v:NH)<0)=NC:=decide_eq_false (by omega);have q4:decide (0<(v:NH))=NB:=decide_eq_true (by omega);have q5:((v:NH) == 0)=NC:=by simp;omega
  have q6:decide ((v:NH)=0)=NC:=decide_eq_false (by omega);rw[c] at b;refine⟨_,SY (v:=S) rfl rfl (by k_ne) rfl H.f_loadU64 (x_loadU64_n L) (x_loadU64_b L) (x_loadU64_x L) .u64 (x_loadU64_f L) rfl b.cellSt,λh0=>absurd h0 (by omega),λ_=>?_⟩;clear b;walk_nrm;u_op ae a;u_c NI ae a;u_c QL ae a;u_leave1 H.f_uLoad ae a;u_op ae a;u_c NI ae a;u_c Ob ae a;u_reg ae a;(iterate 4 u_op ae a);u_c NI ae a;u_c Ob ae a;u_reg ae a;(iterate 4 u_op ae a);u_c NI ae a;(iterate 2 u_c Ob ae a);u_reg ae a;u_op ae a;u_op ae a;u_c NI ae a;u_cond NC ae a;u_c Px ae a;u_c Ob ae a;u_reg ae a;(iterate 6 u_op ae a);u_call H.f_uCas (nm_uCas L) uCasFn ae a;u_c Ob ae a;u_reg ae a;u_op ae a;u_c NI ae a;u_c Ob ae a;u_reg ae a;(iterate 5 u_op ae a);refine Qh (λw₂ h₂=>?_);replace a:=ae a h₂;clear h₂;refine⟨rfl,λv' m9 b=>⟨λe=>?_,λe=>?_⟩⟩
  ·subst e;rw[c] at b ⊢;refine⟨_,(stepG_cas_hit (v:=S) (n:=S+1) rfl rfl (by k_ne) rfl H.f_casU64 (x_casU64_n L) (x_casU64_b L) (x_casU64_x L) .u64 (x_casU64_f L) rfl rfl rfl b.cellSt (b.thaw 0)).trans (by rfl),?_⟩;replace a:QO L.tWg Wg (w₂.setCell (Uk Wg) (.int .u64 (S+1))):=⟨_,_,b.setSt _⟩;clear b;walk_nrm;u_conv H.underlying_tPU32 H.room_tU32 (QP a).choose_spec ae a;u_c NI ae a;u_c QL ae a;u_leave1 H.f_uCas ae a;u_c NI ae a;u_cond NB ae a;(iterate 2 u_c Ob ae a);u_reg ae a;(iterate 4 u_conv H.underlying_tPU32 H.room_tU32 (QP a).choose_spec ae a);u_c NI ae a;u_cond NB ae a;u_reg ae a;(iterate 2 u_conv H.underlying_tPU32 H.room_tU32 (QP a).choose_spec ae a);u_op ae a;u_conv H.underlying_tPU32 H.room_tU32 (QP a).choose_spec ae a;refine Qh (λw₃ h₃=>?_);replace a:=ae a h₃;clear h₃;refine⟨rfl,_,VE .write (by simp) rfl rfl (by k_ne) rfl H.f_raceWrite (x_raceWrite_n L) (x_raceWrite_b L) (x_raceWrite_x L) (x_raceWrite_f L) (ad:=⟨_,1,Ns⟩) (by simp[Act.eval]<;>rfl),?_⟩;walk_nrm;u_c NI ae a;u_c Ob ae a;u_reg ae a;u_op ae a;u_c NI ae a;(iterate 2 u_c Ob ae a);u_reg ae a;(iterate 4 u_op ae a);u_skip ae a;u_op ae a;u_c NI ae a;u_cond NC ae a;u_c Px ae a;u_c Ob ae a;u_reg ae a;(iterate 4 u_op ae a);refine Qh (λw₃ h₃=>?_);replace a:=ae a h₃;clear h₃;refine⟨rfl,rfl,λ⟨st,b⟩=>stepG_semacquire_wait rfl rfl rfl H.f_semacquire (x_semacquire_n L) (x_semacquire_b L) (x_semacquire_x L) (x_semacquire_f L) (by simp[Act.eval,Yi]) b.cellSm,λf=>?_⟩;refine⟨_,(stepG_semacquire (n:=1) rfl rfl (by k_ne) rfl H.f_semacquire (x_semacquire_n L) (x_semacquire_b L) (x_semacquire_x L) (x_semacquire_f L) (by simp[Act.eval,Yi]) f.cellSm (by k_ne) (f.thaw 1)).trans (by rfl),?_⟩;replace a:QO L.tWg Wg (w₃.setCell (Yi Wg) (.int .u32 0)):=⟨_,_,f.setSm 0⟩;clear f;walk_nrm;u_c NI ae a;u_c Ob ae a;u_reg ae a;(iterate 3 u_op ae a);u_call H.f_uLoad (nm_uLoad L) uLoadFn ae a;u_c Ob ae a;u_reg ae a;u_op ae a;u_c NI ae a;u_c Ob ae a;u_reg ae a;(iterate 3 u_op ae a);refine Qh (λw₄ h₄=>?_);replace a:=ae a h₄;clear h₄;refine⟨rfl,λb=>⟨_,SY (v:=0) rfl rfl (by k_ne) rfl H.f_loadU64 (x_loadU64_n L) (x_loadU64_b L) (x_loadU64_x L) .u64 (x_loadU64_f L) rfl b.cellSt,?_⟩⟩;clear b;walk_nrm;u_op ae a;u_c NI ae a;u_c QL ae a;u_leave1 H.f_uLoad ae a;u_op ae a;u_op ae a;u_c NI ae a;u_c Ob ae a;u_cond NB ae a;u_c Ob ae a;u_reg ae a;refine Qh (λw₅ h₅=>?_);replace a:=ae a h₅;clear h₅;refine⟨rfl,_,VT .enable (by simp) rfl rfl (by k_ne) rfl H.f_enable (x_enable_n L) (x_enable_b L) (x_enable_x L) (x_enable_f L),?_⟩;walk_nrm;u_c NI ae a;u_reg ae a;(iterate 2 u_conv H.underlying_tWgP H.room_tWg (Wx a).choose_spec ae a);refine Qh (λw₆ h₆=>?_);replace a:=ae a h₆;clear h₆;refine⟨rfl,_,VE .acquire (by simp) rfl rfl (by k_ne) rfl H.f_acquire (x_acquire_n L) (x_acquire_b L) (x_acquire_x L) (x_acquire_f L) (by simp[Act.eval,Uk]),?_⟩;walk_nrm;u_c NI ae a;(iterate 2 u_c Ob ae a);u_reg ae a;u_op ae a;u_c NI ae a;u_cond NC ae a;u_c Px ae a;u_c QL ae a;u_leave0 H.f_wait ae a;exact Qh λw₇ h₇=>j _ (ae a h₇)
  ·refine⟨_,stepG_cas_miss (v:=(v':NH)*KK) (old:=S) (n:=S+1) rfl rfl (by k_ne) rfl H.f_casU64 (x_casU64_n L) (x_casU64_b L) (x_casU64_x L) .u64 (x_casU64_f L) rfl rfl rfl b.cellSt (b.thaw 0) (by rw[<- c];simp only[KK];omega),?_⟩;clear b;walk_nrm;u_op ae a;u_c NI ae a;u_c QL ae a;u_leave1 H.f_uCas ae a;u_c NI ae a;u_cond NC ae a;u_c Px ae a;u_c stepG_inBlock ae a;u_c stepG_inLoop ae a;refine Qh (λw₃ h₃=>?_);replace a:=ae a h₃;exact⟨_,rfl,by simp,by simp,a⟩
def waitStart{P:NR}(H:WgLib P L)(w:Nt)(a:QO L.tWg Wg w) :TO P NB (LR L.tWg Wg) ZA (sO P L.tWg Wg .disable (oy L Wg (b₀.at a₀ (.inRegion ops₀ (i₀::rest₀)::k₀)) cs) 3) 3 (G ((base L.wait).at ⟨#[.pointer (Nq ⟨Wg,0,Ns⟩),NG,NG,NG,NG,NG,NG,NG,NG,NG,NG,NG,NG,NG,NG,NG,NG,NG,NG,NG,NG,NG,NG,NG,NG,NG,NG,NG,NG,NG,NG,NG,NG,NG,NG,NG,NG,NG,NG,NG,NG,NG,NG,NG,NG,NG,NG,NG,NG,NG,NG,NG,NG,NG,NG,NG,NG,NG,NG,NG,NG,NG,NG,NG,NG,NG,NG,NG,NG,NG,NG,NG,NG,NG,NG,NG,NG,NG,NG,NG,NG,NG,NG,NG],[]⟩ [.code (body_wait L)]) (b₀.at a₀ (.inRegion ops₀ (i₀::rest₀)::k₀)::cs)) w:=by
 lib_facts;simp only[body_wait,waitFn,NK];u_c Ob ae a;u_cond NB ae a;u_reg ae a;refine Qh (λw₁ h₁=>?_);replace a:=ae a h₁;clear h₁;refine⟨rfl,_,VT .disable (by simp) rfl rfl (by k_ne) rfl H.f_disable (x_disable_n L) (x_disable_b L) (x_disable_x L) (x_disable_f L),?_⟩;walk_nrm;u_c NI ae a;u_c UD ae a;u_c XP ae a;exact Qh (λw₂ h₂=>⟨_,rfl,by simp,by simp,ae a h₂⟩)
end
end
section
open Go.Conc Go.ConcN Go.ConcN.Gen Go.RowKit Go.Conc.Lib Go.ConcR.Gen
open Go.ConcR (KK wgBlock WgAt stA smA rd wr mk DC0)
section
variable{P:NR}{b:OI}{ty:NZ}{Wg:NA}{R:Nt->Nt->Prop}{D D':Nt->Nt->NJ Pz->Prop}{Stop Stop' SX:NF->Nt->Prop}
def jr(i:∀w c f,D w c f->D' w c f)(d:∀g w,Stop g w->Stop' g w) :∀{n:NA} {g:NF} {w:Nt},TO P b R D Stop n g w->TO P b R D' Stop' n g w
 | 0,_,_,h=>λw₁ a=>d _ _ (h w₁ a)
 | n+1,_,_,.inl h=>.inl λw₁ a=>d _ _ (h w₁ a)
 | n+1,g,w,.inr ⟨j,h⟩=>.inr ⟨j,λw₁ a=>by
   have⟨o,c,f,e,l,k⟩:=goes_elim (h w₁ a);rw[e];exact⟨i _ _ _ l,jr i d k⟩⟩
def Ce{n:NA}{g:NF}{w:Nt}:∀r,TO P b R D Stop n g w->TO P b R D Stop (n+r) g w
 | 0,h=>h
 | r+1,h=>(Ce r h).more
def mR(a:∀w,R w w){N:NA}:∀{n:NA} {g:NF} {w:Nt},TO P b R D (λg w=>TO P b R D Stop N g w) n g w->TO P b R D Stop (n+N) g w
 | 0,_,w,h=>by rw[Oc];exact h w (a w)
 | n+1,_,w,.inl h=>by rw[Nat.add_comm];exact Ce (n+1) (h w (a w))
 | n+1,g,w,.inr ⟨c,h⟩=>by
   rw[Nat.add_right_comm];refine .inr ⟨c,λw₁ d=>?_⟩;have⟨k,j,l,e,i,f⟩:=goes_elim (h w₁ d);rw[e];exact⟨i,mR a f⟩
def nZ(s:∀w,R w w)(r:∀a b c,R a b->R b c->R a c){N:NA}(o:∀g w,Stop g w->g.status=.running/\∃i j,Pj P b g w=.go i w j/\D w w j/\TO P b R D SX N i w){n:NA}{g:NF}{w:Nt}(h:TO P b R D Stop n g w):TO P b R D SX (n+(N+1)) g w:=by
 have d:∀{g:NF} {w:Nt},(∀w₁,R w w₁->Stop g w₁)->∀w₁,R w w₁->TO P b R D SX (N+1) g w₁:=λ{g w} h w₁ f=>
  .inr ⟨(o _ _ (h w₁ f)).1,λw₂ hr₂=>by
   have⟨i,j,e,l,k⟩:=(o _ _ (h w₂ (r _ _ _ f hr₂))).2;rw[e];exact⟨l,k⟩⟩
 refine mR s ?_;induction n generalizing g w with
 | zero=>exact d h
 | succ n p=>
  rcases h with h | ⟨q,h⟩
  ·exact .inl (d h)
  ·refine .inr ⟨q,λw₁ f=>?_⟩;have⟨i,t,j,e,l,k⟩:=goes_elim (h w₁ f);rw[e];exact⟨l,p k⟩
end
section
variable{U X:Type}(C:Cfg U X)
def Hq{Wg:NA}:∀w a c,ZA w a c->DM Wg w a c:=λ_ _ _ h=>⟨h.1,by rw[h.2];simp⟩
variable{C}
def Cfg.GM.of{Stop Stop':NF->Nt->Prop}{m:NA}{g:NF}{w:Nt}(h:TO C.P NB (LR C.ty C.Wg) ZA Stop m g w)(a:∀g w,Stop g w->Stop' g w):C.GM Stop' m g w :=
 jr Hq a h
def Cfg.GM.trans{Stop:NF->Nt->Prop}{N n:NA}{g:NF}{w:Nt}(h:C.GM (λg w=>C.GM Stop N g w) n g w):C.GM Stop (n+N) g w:=mR LR.refl h
def Cfg.GM.swallow{m:Mark}{SX:NF->Nt->Prop}{N n:NA}{g:NF}{w:Nt}(hm:m=.read (Yi C.Wg)\/m=.write (Yi C.Wg))(h:C.GM (Bo C.P NB C.ty C.Wg m SX N) n g w):C.GM SX (n+(N+1)) g w :=
 nZ LR.refl bz (λg w ⟨a,d,e,c⟩=>⟨a,d,_,e,⟨rfl,by rcases hm with rfl | rfl<;>simp⟩,jr Hq (λ_ _ h=>h) c⟩) h
def Cfg.add_spawn{S:NF->Nt->Prop}{N n:NA}{g:NF}{w:Nt}(h:TO C.P NB (LR C.ty C.Wg) ZA (Bo C.P NB C.ty C.Wg .disable (Kx C.P NB C.ty C.Wg (λg w=>C.GM (C.AtGoS S) N g w)) 40) n g w) :C.GM (C.AtKdS S) n g w:=by
 refine Cfg.GM.of h λg w ⟨c,d,e,a⟩=>⟨c,d,e,40,Cfg.GM.of a λg w ⟨c,i⟩=>⟨c,λv k j=>?_⟩⟩;have⟨d,e,a⟩:=i v k j;have f:∀g w,Bo C.P NB C.ty C.Wg .enable (λg w=>C.GM (C.AtGoS S) N g w) 2 g w->C.AtKeS S g w :=
  λg w ⟨c,d,e,a⟩=>⟨c,d,e,2+N,Cfg.GM.trans (Cfg.GM.of a λ_ _ h=>h)⟩
 refine⟨d,e,?_⟩;rcases a with a | a
 ·exact⟨_,jr (λ_ _ _ h=>h) f (Cfg.GM.swallow (.inl rfl) (Cfg.GM.of a λ_ _ h=>h))⟩
 ·exact⟨_,Cfg.GM.of a f⟩
def Cfg.GM.sayC{m:Mark}{SX:NF->Nt->Prop}{N n:NA}{g:NF}{w:Nt}(hm:m=.read (Yi C.Wg)\/m=.write (Yi C.Wg))(h:C.GM (sO C.P C.ty C.Wg m SX N) n g w):C.GM SX (n+(N+1)) g w :=
 nZ LR.refl bz (λg w ⟨a,d,e,c⟩=>⟨a,d,_,e,⟨rfl,by rcases hm with rfl | rfl<;>simp⟩,jr Hq (λ_ _ h=>h) c⟩) h
section
variable{F0:NF->Nt->Prop}(hF:∀g w,TO C.P NB (LR C.ty C.Wg) ZA F0 40 g w->C.Fin g w)
include hF
theorem Cfg.acq_of{g:NF}{w:Nt}(h:sO C.P C.ty C.Wg (.acquire (Uk C.Wg)) F0 40 g w):C.AtAcq g w:=by
 obtain⟨a,d,e,c⟩:=h;exact⟨a,d,e,hF _ _ c⟩
theorem Cfg.ke_of{g:NF}{w:Nt}(h:sO C.P C.ty C.Wg .enable (sO C.P C.ty C.Wg (.acquire (Uk C.Wg)) F0 40) 12 g w):C.AtKe g w:=by
 obtain⟨a,d,e,c⟩:=h;exact⟨a,d,e,12,Cfg.GM.of c λ_ _ h=>Cfg.acq_of hF h⟩
theorem Cfg.w4_of{g:NF}{w:Nt}(h:MW4 C.P C.ty C.Wg F0 g w):C.AtW4 g w:=by
 obtain⟨c,h⟩:=h;refine⟨c,λa=>?_⟩;have⟨f,e,d⟩:=h a;exact⟨f,e,30,Cfg.GM.of d λ_ _ h=>Cfg.ke_of hF h⟩
theorem Cfg.w3_of{g:NF}{w:Nt}(h:MW3 C.P C.ty C.Wg F0 g w):C.AtW3 g w:=by
 obtain⟨c,d,i,h⟩:=h;refine⟨c,d,i,λa=>?_⟩;have⟨j,e,f⟩:=h a;exact⟨j,e,30,Cfg.GM.of f λ_ _ h=>Cfg.w4_of hF h⟩
theorem Cfg.w2_of{f:NA}{g:NF}{w:Nt}(h:MW2 C.P C.ty C.Wg F0 C.AnchW f g w):C.AtW2 f g w:=by
 obtain⟨k,h⟩:=h;refine⟨k,λv j i=>⟨λe=>?_,λe=>?_⟩⟩
 ·have⟨c,d,a⟩:=(h v j i).1 e;exact⟨c,d,_,jr (λ_ _ _ h=>h) (λ_ _ h=>Cfg.w3_of hF h) (Cfg.GM.sayC (.inr rfl) (Cfg.GM.of a λ_ _ h=>h))⟩
 ·have⟨c,d,a⟩:=(h v j i).2 e;exact⟨c,d,20,Cfg.GM.of a λ_ _ h=>h⟩
theorem Cfg.w1_of{g:NF}{w:Nt}(h:MW1 C.P C.ty C.Wg F0 C.AnchW g w):C.AtW1 g w:=by
 obtain⟨d,h⟩:=h;refine⟨d,λv c a=>?_⟩;have⟨j,e,i,f⟩:=h v c a;exact⟨j,e,λe=>⟨50,Cfg.GM.of (i e) λ_ _ h=>Cfg.ke_of hF h⟩,λe=>⟨60,Cfg.GM.of (f e) λ_ _ h=>Cfg.w2_of hF h⟩⟩
end
def Cfg.kd_of{n:NA}{g:NF}{w:Nt}(h:TO C.P NB (LR C.ty C.Wg) ZA (sO C.P C.ty C.Wg .disable C.AnchW 3) n g w):C.GM C.AtKd n g w :=
 Cfg.GM.of h λ_ _ ⟨a,d,e,c⟩=>⟨a,d,e,3,Cfg.GM.of c λ_ _ h=>h⟩
end
end
section
open Go.Conc Go.ConcN
open Go.ConcR (KK wgBlock WgAt stA smA rd wr DC0 Bk g_of_ofEvents loc_of_ofEvent)
structure Inv{U X:Type}(C:Cfg U X)(gs:NJ NF)(w:Nt)(t:Vx)(j:NA)(D:NA->WD)(ls:NA->X)(Ss:NA->Bs)(rk:NA->Rk)(W:U)(tag:YG)(f0 d0:NA)(a:NF)(st sm:NH)(cl:NA->Cl)(fu:NA->NA):Prop where
 size:gs.size=C.lo+j
 main:gs[0]?=Nq a
 cs:C.CS tag j f0 d0 a w
 lv:∀i,1<=i->i<C.lo->∃g,gs[i]?=Nq g/\VK C.P (fu i) (WV t i) g
 wk:∀i,i<j->∃g,gs[C.lo+i]?=Nq g/\C.WS (D i).stage (D i).fuel (D i).deaf (ls i) (Ss i) (rk i) g w
 wd:∀i,i<j->WV t (C.lo+i)=(D i).deaf
 rel:∀i,i<j->(D i).stage<=6->∃r,RelBy (Uk C.Wg) t (C.lo+i) r
 tr:Tr cl gs.size w.heap.size t
 clw:∀i,i<j->∀b,Ss i b->cl b=.mine (C.lo+i)/\b<w.heap.size
 cl0:∀b,w.heap.size<=b->cl b=.mine 0
 cla:∀b,b<C.W1.heap.size->cl b=C.clA b
 cln:∀b,C.W1.heap.size<=b->cl b≠.sync
 nor:∀ad,NoRelease ad t
 deaf0:WV t 0=d0
 hd:Hd C.lo t
 data:C.DataAt W w
 jj:C.J W j ls
 ph:C.Ph w
 wg:Uz C.ty C.Wg w st sm
 mode:TJ j D tag st sm
section
variable{U X:Type}{C:Cfg U X}{gs:NJ NF}{w w':Nt}{t:Vx}{j:NA}{D:NA->WD}{ls:NA->X}{Ss:NA->Bs}{rk:NA->Rk}{W γ':U}{tag:YG}{f0 d0:NA}{a:NF}{st sm st' sm':NH}{cl:NA->Cl}{fu:NA->NA}
structure Ef(cl:NA->Cl)(x:NA)(w w':Nt):Prop where
 keep:∀b,b<w.heap.size->cl b≠.mine x->cl b≠.sync->w'.heap[b]?=w.heap[b]?
 size:w.heap.size<=w'.heap.size
 os:w'.os=w.os
 output:w'.output=w.output
def qe(cl:NA->Cl)(x:NA)(w w':Nt)(b:NA):Cl:=if w.heap.size<=b/\b<w'.heap.size then .mine x else cl b
def jw{x b:NA}(h:b<w.heap.size):qe cl x w w' b=cl b:=by unfold qe;rw[if_neg (by omega)]
def uY{x:NA}(h:w'.heap.size=w.heap.size):qe cl x w w'=cl:=by
 funext b
 unfold qe;rw[if_neg (by omega)]
def Inv.fzc(H:C.Ok)(h:Inv C gs w t j D ls Ss rk W tag f0 d0 a st sm cl fu){b:NA}(d:C.Fz b):cl b=.ro C.lo/\b<w.heap.size:=by
 have⟨e,c⟩:=H.fzc b d;exact⟨(h.cla b c).trans e,NX c h.ph.size⟩
def Inv.syc(H:C.Ok)(h:Inv C gs w t j D ls Ss rk W tag f0 d0 a st sm cl fu){b:NA}(d:C.Sy b):cl b=.sync/\b<w.heap.size:=by
 have⟨e,c⟩:=H.syc b d;exact⟨(h.cla b c).trans e,NX c h.ph.size⟩
def Inv.wgc(H:C.Ok)(h:Inv C gs w t j D ls Ss rk W tag f0 d0 a st sm cl fu):cl C.Wg=.sync/\C.Wg<w.heap.size:=by
 have⟨c,b,_⟩:=H.wgc;exact⟨(h.cla _ b).trans c,NX b h.ph.size⟩
def Inv.ph'(H:C.Ok)(h:Inv C gs w t j D ls Ss rk W tag f0 d0 a st sm cl fu){x:NA}(e:Ef cl x w w'):C.Ph w' where
 fz b hb:=by
  have⟨c,d⟩:=h.fzc H hb;rw[e.keep b d (by rw[c];simp) (by rw[c];simp)];exact h.ph.fz b hb
 size:=NM h.ph.size e.size
 os:=e.os.trans h.ph.os
 output:=e.output.trans h.ph.output
def Inv.rc(H:C.Ok)(h:Inv C gs w t j D ls Ss rk W tag f0 d0 a st sm cl fu){x i:NA}(e:Ef cl x w w')(n:i<j)(l:x≠C.lo+i)(f:Uz C.ty C.Wg w' st' sm')(c:C.DataAt γ' w'):RC C.Fz C.K (Ss i) w w' where
 own b hb:=by
  have⟨d,g⟩:=h.clw i n b hb;exact e.keep b g (by rw[d];intro o;cases o;exact l rfl) (by rw[d];simp)
 fz b hb:=by
  have⟨d,g⟩:=h.fzc H hb;exact e.keep b g (by rw[d];simp) (by rw[d];simp)
 size:=e.size
 os:=e.os
 output:=e.output
 k:=⟨λ_=>⟨_,_,f⟩,λ_=>⟨_,c⟩⟩
def Inv.stepW(H:C.Ok)(h:Inv C gs w t j D ls Ss rk W tag f0 d0 a st sm cl fu){i:NA}(hi:i<j){g A:NF}{B:NJ Pz}(sl:NO (NA × NA))(hg:gs[C.lo+i]?=Nq g)(b0:Pj C.P NC g w=.go A w' B)(e:Ef cl (C.lo+i) w w')(N:∀e∈B,EvG (qe cl (C.lo+i) w w') w'.heap.size (C.lo+i) e/\∀a,e.loc≠.mark (.release a)){S Y p:NA}{l':X}{r':Rk}(a9:C.WS S Y p l' (grow (Ss i) w w') r' A w')(z:Rb (D i).deaf B=p)(hrel:S<=6->∃r,RelBy (Uk C.Wg) (t++Qn (C.lo+i) g.frame.fn g.frame.place B) (C.lo+i) r)(u:Uz C.ty C.Wg w' st' sm')(s:C.DataAt γ' w')(hJ:C.J γ' j (Tv ls i l'))(v:∀c,(c=tag\/(tag=.blk/\c=.w3))->(ZG C.P g=NB->A.status=.running->c≠.blk)->TJ j (Tv D i ⟨S,Y,p⟩) c st' sm') :∃R c V a',Xb C.P (RD gs w sl) (C.lo+i)=(.next (RD R w' sl),Qn (C.lo+i) g.frame.fn g.frame.place B)/\V<=f0+1/\(c=tag\/(tag=.blk/\c=.w3)) /\Inv C R w' (t++Qn (C.lo+i) g.frame.fn g.frame.place B) j (Tv D i ⟨S,Y,p⟩) (Tv ls i l') (Tv Ss i (grow (Ss i) w w')) (Tv rk i r') γ' c V d0 a' st' sm' (qe cl (C.lo+i) w w') fu:=by
 have b9:=H.hlo;have⟨c,V,O,b6,q,a8⟩:=h.cs.wokenBy H (LR.to (w:=w) ⟨_,_,u⟩) g A;have L:=TH (P:=C.P) (sl:=sl) (i:=C.lo+i) hg (by rw[show(C.lo+i == 0)=NC by simp;omega];exact b0);have I:((gs.map (Yh C.P g A w')).setIfInBounds (C.lo+i) A).size=gs.size:=by simp
 have M:C.lo+i<gs.size:=by rw[h.size];omega
 have f:∀T∈Qn (C.lo+i) g.frame.fn g.frame.place B,T.g=C.lo+i:=Vl;refine⟨_,c,V,_,L,b6,q,⟨by rw[I];exact h.size,by rw[RK _ _ _ _ (by omega),h.main];rfl,O,λx a7 a6=>?_,λx l=>?_,λx l=>?_,λx l n=>?_,?_,λx l b d=>?_,λb d=>?_,λb d=>?_,λb d=>?_,?_,?_,?_,s,hJ,h.ph' H e,u,v c q a8⟩⟩
 ·have⟨y,Z,G⟩:=h.lv x a7 a6;exact⟨y,by rw[RK _ _ _ _ (by omega),Z,Pp,Tw G],by rw[Sq t (by omega:C.lo+i≠x) _ f];exact G⟩
 ·by_cases k:x=i
  ·subst k;exact⟨A,SE _ _ _ M,by simp only[QX];exact a9⟩
  ·have⟨y,Z,F⟩:=h.wk x l;refine⟨y,by rw[RK _ _ _ _ (by omega),Z,Pp,F.woken],?_⟩;rw[Sl D _ k,Sl ls _ k,Sl Ss _ k,Sl rk _ k];exact F.rely (h.rc H e l (by omega) u s)
 ·by_cases k:x=i
  ·subst k;rw[Xc,h.wd x l,QX];exact z
  ·rw[Sq t (by omega) _ f,h.wd x l,Sl D _ k]
 ·by_cases k:x=i
  ·subst k;rw[QX] at n;exact hrel n
  ·rw[Sl D _ k] at n;have⟨r,hr⟩:=h.rel x l n;exact⟨r,hr.appOther f (by omega)⟩
 ·rw[I];exact(((h.tr.grow e.size).fresh' (cl':=qe cl (C.lo+i) w w') (m:=w.heap.size) h.tr.inb λb d=>jw d)).step M (oQ λe he=>(N e he).1)
 ·by_cases k:x=i
  ·subst k;rw[QX] at d;rcases d with d | d
   ·have⟨h1,Q⟩:=h.clw x hi b d;exact⟨by rw[jw Q];exact h1,NX Q e.size⟩
   ·exact⟨by unfold qe;rw[if_pos d],d.2⟩
  ·rw[Sl Ss _ k] at d;have⟨h1,Q⟩:=h.clw x l b d;exact⟨by rw[jw Q];exact h1,NX Q e.size⟩
 ·unfold qe;rw[if_neg (by omega)];exact h.cl0 b (NM e.size d)
 ·rw[jw (NX d h.ph.size)];exact h.cla b d
 ·unfold qe;split
  ·simp
  ·exact h.cln b d
 ·exact λad=>(h.nor ad).app λT o hm=>by
   rw[Tq] at o;obtain⟨x,l,rfl⟩:=TG.1 o;exact(N x l).2 _ (UM hm)
 ·rw[Sq t (by omega) _ f];exact h.deaf0
 ·exact h.hd.app λT o=>.inr (.inl (by rw[f T o];omega))
def Inv.step0(H:C.Ok)(h:Inv C gs w t j D ls Ss rk W tag f0 d0 a st sm cl fu){F:NF}{n:NJ Pz}(sl:NO (NA × NA))(O:Pj C.P NB a w=.go F w' n)(e:Ef cl 0 w w')(Q:w'.heap.size=w.heap.size)(z:∀e∈n,EvG cl w'.heap.size 0 e/\∀a,e.loc≠.mark (.release a)){tag':YG}{S:NA}(A:C.CS tag' j S (Rb d0 n) F w')(q:Uz C.ty C.Wg w' st' sm')(k:C.DataAt W w')(l:TJ j D tag' st' sm') :∃B,Xb C.P (RD gs w sl) 0=(.next (RD B w' sl),Qn 0 a.frame.fn a.frame.place n) /\Inv C B w' (t++Qn 0 a.frame.fn a.frame.place n) j D ls Ss rk W tag' S (Rb d0 n) F st' sm' cl fu:=by
 have V:=H.hlo;have u:=TH (P:=C.P) (sl:=sl) (i:=0) h.main O;have s:((gs.map (Yh C.P a F w')).setIfInBounds 0 F).size=gs.size:=by simp
 have v:0<gs.size:=by rw[h.size];omega
 have c:∀G∈Qn 0 a.frame.fn a.frame.place n,G.g=0:=Vl;refine⟨_,u,⟨by rw[s];exact h.size,SE _ _ _ v,A,λx M L=>?_,λx d=>?_,λx d=>?_,λx d N=>?_,?_,λx d b R=>?_,λb R=>h.cl0 b (by omega),h.cla,h.cln,?_,?_,?_,k,h.jj,h.ph' H e,q,l⟩⟩
 ·have⟨y,I,p⟩:=h.lv x M L;exact⟨y,by rw[RK _ _ _ _ (by omega),I,Pp,Tw p],by rw[Sq t (by omega:0≠x) _ c];exact p⟩
 ·have⟨y,I,o⟩:=h.wk x d;exact⟨y,by rw[RK _ _ _ _ (by omega),I,Pp,o.woken],o.rely (h.rc H e d (by omega) q k)⟩
 ·rw[Sq t (by omega) _ c];exact h.wd x d
 ·have⟨r,T⟩:=h.rel x d N;exact⟨r,T.appOther c (by omega)⟩
 ·rw[s];exact(h.tr.grow e.size).step v (oQ λe Y=>(z e Y).1)
 ·have⟨h1,Z⟩:=h.clw x d b R;exact⟨h1,NX Z e.size⟩
 ·exact λad=>(h.nor ad).app λG f hm=>by
   rw[Tq] at f;obtain⟨x,d,rfl⟩:=TG.1 f;exact(z x d).2 _ (UM hm)
 ·rw[Xc,h.deaf0]
 ·exact h.hd.app λG f=>.inl (c G f)
def Inv.leave(H:C.Ok)(h:Inv C gs w t j D ls Ss rk W tag f0 d0 a st sm cl fu)(sl:NO (NA × NA)){i:NA}{g:NF}(Y:1<=i)(M:i<C.lo)(Z:gs[i]?=Nq g)(B:g.status=.running) :∃L s q d O a',Xb C.P (RD gs w sl) i=(.next (RD L w sl),s)/\q<fu i/\O<=f0+1/\(d=tag\/(tag=.blk/\d=.w3)) /\Inv C L w (t++s) j D ls Ss rk W d O d0 a' st sm cl (Tv fu i q):=by
 have a8:=H.hlo;have⟨g0,G,p⟩:=h.lv i Y M;rw[Z] at G;cases G;cases hf:fu i with
 | zero=>rw[hf] at p;rw[p.1] at B;cases B
 | succ q=>
  rw[hf] at p;rcases p with⟨k,_⟩ | ⟨_,N,es,l,o,p⟩
  ·rw[B] at k;cases k
  ·have⟨d,O,I,V,n,a7⟩:=h.cs.wokenBy H (LR.refl w) g N;have A:=TH (P:=C.P) (sl:=sl) (i:=i) Z (by rw[show(i == 0)=NC by simp;omega];exact o w);have z:((gs.map (Yh C.P g N w)).setIfInBounds i N).size=gs.size:=by simp
   have F:i<gs.size:=by rw[h.size];omega
   have c:=mi (g:=i) (fn:=g.frame.fn) (pos:=g.frame.place) l;refine⟨_,_,q,d,O,_,A,Uf q,V,n,⟨by rw[z];exact h.size,by rw[RK _ _ _ _ (by omega),h.main];rfl,I,λx S R=>?_,λx k=>?_,λx k=>?_,λx k T=>?_,?_,h.clw,h.cl0,h.cla,h.cln,?_,?_,?_,h.data,h.jj,h.ph,h.wg,h.mode.retag n⟩⟩
   ·by_cases e:x=i
    ·subst e;exact⟨N,SE _ _ _ F,by rw[QX,Xc];exact p⟩
    ·have⟨y,Q,v⟩:=h.lv x S R;exact⟨y,by rw[RK _ _ _ _ (by omega),Q,Pp,Tw v],by rw[Sl _ _ e,Sq t (Ne.symm e) _ λf b=>(c f b).1];exact v⟩
   ·have⟨y,Q,u⟩:=h.wk x k;exact⟨y,by rw[RK _ _ _ _ (by omega),Q,Pp,u.woken],u⟩
   ·rw[Sq t (by omega) _ λf b=>(c f b).1];exact h.wd x k
   ·have⟨r,B⟩:=h.rel x k T;exact⟨r,B.appOther (λf b=>(c f b).1) (by omega)⟩
   ·rw[z];exact h.tr.step F λf b=>⟨(c f b).1,λx k=>by rw[(c f b).2] at k;cases k⟩
   ·exact λad=>(h.nor ad).app λf b hm=>by
     rw[Tq] at b;obtain⟨x,k,rfl⟩:=TG.1 b;have Y:=l x k;have M:=UM hm;obtain⟨a6,wr,sy⟩:=x;simp only at M;subst M;cases Y
   ·rw[Sq t (by omega) _ λf b=>(c f b).1];exact h.deaf0
   ·exact h.hd.app λf b=>.inr (.inr (c f b).2)
end
end
section
open Go.Conc Go.ConcN
open Go.ConcR (KK wgBlock WgAt stA smA rd wr DC0 Bk g_of_ofEvents loc_of_ofEvent ofEvent_mk ofEvent_cell)
def Ir(n:NA)(b f:NA->Rk):Prop:=∃i,i<n/\Rk.sub (b i) (f i)/\∀k,k≠i->b k=f k
def xn:∀(n:NA) (f:NA->Rk),Acc (Ir n) f
 | 0,f=>.intro _ λ_ ⟨_,h,_⟩=>absurd h (Nat.not_lt_zero _)
 | n+1,f=>by
  have c:∀x:Rk,Acc Rk.sub x->∀f:NA->Rk,f n=x->Acc (Ir (n+1)) f:=by
   intro x q;induction q with
   | intro x _ d=>
    intro f p;have b:=xn n f;induction b with
    | intro f _ g=>
     refine .intro _ λk ⟨i,r,l,o⟩=>?_;by_cases e:i=n
     ·subst e;exact d (k i) (by rw[<- p];exact l) k rfl
     ·exact g k ⟨i,by omega,l,o⟩ (by rw[o n (Ne.symm e)];exact p)
  exact c (f n) (Rk.acc _) f rfl
abbrev Me:=NA × (NA->Rk) × NA
def LtM(n:NA):Me->Me->Prop:=Prod.Lex (·<·) (Prod.Lex (Ir n) (·<·))
def Ld(n:NA):WellFounded (LtM n):=(Prod.lex ⟨_,Nat.lt_wfRel.wf⟩ (Prod.lex ⟨Ir n,⟨xn n⟩⟩ ⟨_,Nat.lt_wfRel.wf⟩)).wf
def uI{n x b:NA}{y c:(NA->Rk) × NA}(h:b<x):LtM n (b,c) (x,y):=Prod.Lex.left _ _ h
def Mp{n x c z d:NA}{y b:NA->Rk}(e:c=x)(h:Ir n b y):LtM n (c,b,d) (x,y,z):=by
 subst e;exact Prod.Lex.right _ (Prod.Lex.left _ _ h)
def BY{n x c z b:NA}{y:NA->Rk}(d:c=x)(h:b<z):LtM n (c,y,b) (x,y,z):=by
 subst d;exact Prod.Lex.right _ (Prod.Lex.right _ h)
section
variable{U X:Type}(C:Cfg U X)
def Cfg.nuD(x:WD × X):NA:=if x.1.stage=7 then C.nu x.2 else 0
def Cfg.Nsum(j:NA)(D:NA->WD)(ls:NA->X):NA:=TV j λi=>C.nuD (D i,ls i)
def Cfg.big(j:NA)(D:NA->WD)(ls:NA->X)(W:U)(tag:YG):NA:=(C.nu C.l0+8)*Yj C.n (Vc j D) tag+(Ssum j D+(C.m W+C.Nsum j D ls))
def Cfg.low(j:NA)(D:NA->WD)(fu:NA->NA)(f0:NA):NA:=f0+2*(Fsum j D+TV C.lo fu)
end
section
variable{U X:Type}{C:Cfg U X}{gs:NJ NF}{w w':Nt}{t:Vx}{j:NA}{D:NA->WD}{ls:NA->X}{Ss:NA->Bs}{rk:NA->Rk}{W γ':U}{tag tag':YG}{f0 d0:NA}{a:NF}{st sm st' sm':NH}{cl:NA->Cl}{fu:NA->NA}
def FZ{i:NA}(x:WD)(l:X)(b:i<j):C.Nsum j (Tv D i x) (Tv ls i l)+C.nuD (D i,ls i)=C.Nsum j D ls+C.nuD (x,l):=by
 have e:(λa=>C.nuD (Tv D i x a,Tv ls i l a))=λa=>C.nuD (Tv (λa=>(D a,ls a)) i (x,l) a):=by
  funext a
  by_cases h:a=i
  ·subst h;simp only[QX]
  ·simp only[Sl _ _ h]
 have:=Xl (λa=>(D a,ls a)) (x,l) C.nuD b;unfold Cfg.Nsum;rw[e];exact this
def nh{Y:Type}(f:NA->Y)(i:NA):Tv f i (f i)=f:=by
 funext a
 by_cases h:a=i
 ·subst h;rw[QX]
 ·rw[Sl _ _ h]
def Inv.at(H:C.Ok)(h:Inv C gs w t j D ls Ss rk W tag f0 d0 a st sm cl fu)(d:NA):Inv C gs (w.at d) t j D ls Ss rk W tag f0 d0 a st sm cl fu :=
 ⟨h.size,h.main,h.cs.rely (LR.to ⟨_,_,h.wg⟩),h.lv,λi b=>let ⟨g,hg,hs⟩:=h.wk i b;⟨g,hg,hs.rely ⟨λ_ _=>rfl,λ_ _=>rfl,Nv _,rfl,rfl,id,λ⟨W,x⟩=>⟨W,H.dat W w _ (λ_ _=>rfl) x⟩⟩⟩,h.wd,h.rel,h.tr,h.clw,h.cl0,h.cla,h.cln,h.nor,h.deaf0,h.hd,
  H.dat W w _ (λ_ _=>rfl) h.data,h.jj,⟨h.ph.fz,h.ph.size,h.ph.os,h.ph.output⟩,h.wg,h.mode⟩
def Inv.awake(H:C.Ok)(h:Inv C gs w t j D ls Ss rk W tag f0 d0 a st sm cl fu):∀g∈gs,Zl g:=by
 intro g o;have⟨i,c⟩:=Wv.1 o;have e:=(Nz.1 c).1;rw[h.size] at e;by_cases p:i=0
 ·subst p;rw[h.main] at c;cases c;intro l;rcases h.cs.status H with⟨d,_⟩ | ⟨d,_⟩<;>rw[d]<;>simp
 ·rcases PP i C.lo with f | f
  ·have⟨x,b,n⟩:=h.lv i (by omega) f;rw[c] at b;cases b;exact pA n
  ·have⟨x,b,d⟩:=h.wk (i - C.lo) (by omega);rw[show C.lo+(i - C.lo)=i by omega,c] at b;cases b;intro l;rcases d.status with k | k<;>rw[k]<;>simp
def Inv.someone(H:C.Ok)(h:Inv C gs w t j D ls Ss rk W tag f0 d0 a st sm cl fu):∃(i:NA) (g:NF),gs[i]?=Nq g/\g.status=.running:=by
 rcases h.cs.status H with⟨b,_⟩ | ⟨_,rfl⟩
 ·exact⟨0,a,h.main,b⟩
 ·have hm:=h.mode;cases hm with
  | opn d _ _=>exact d.elim
  | reg _ _ e=>
   have⟨i,f,l⟩:=exists_counted e;have⟨g,c,b⟩:=h.wk i f;exact⟨C.lo+i,g,c,b.running_of (by omega)⟩
  | last L _ k e _=>
   have⟨g,c,b⟩:=h.wk L k;exact⟨C.lo+L,g,c,b.running_of (by omega)⟩
  | fin d _=>exact d.elim
def Hk(H:C.Ok)(h:Inv C gs w t j D ls Ss rk W tag f0 d0 a st sm cl fu){x:NA}{e:Pz}(c:Bk C.Wg e):EvG cl w.heap.size x e/\∀a,e.loc≠.mark (.release a):=by
 have⟨l,k⟩:=h.wgc H;rcases c with c | c | ⟨n,wr,rfl,i⟩
 ·refine⟨λy d=>?_,λa=>by rw[c];simp⟩;obtain⟨f,wr,g⟩:=e;simp only at c;subst c;simp[PG,Qr] at d
 ·refine⟨λy d=>?_,λa=>by rw[c];simp⟩;obtain⟨f,wr,g⟩:=e;simp only at c;subst c;simp[PG,Qr] at d
 ·refine⟨λy d=>?_,λa=>by simp⟩;simp only[ofEvent_cell,Qr,OM] at d;subst d;intro b c;simp only[blk,OM] at c;subst c;rw[i];exact⟨k,.inr (.inr ⟨l,by simp,by simp⟩)⟩
def ju(H:C.Ok)(h:Inv C gs w t j D ls Ss rk W tag f0 d0 a st sm cl fu){e:Pz}(c:e=Qz (.read (Yi C.Wg))\/e=Qz (.write (Yi C.Wg))):EvG cl w.heap.size 0 e/\dM e:=by
 have⟨g,f⟩:=h.wgc H;rcases c with rfl | rfl
 ·refine⟨λy d=>?_,by simp[dM,Qz]⟩;simp only[Qz,PG,Qr,OM] at d;subst d;intro b c;simp only[blk,Yi,OM] at c;subst c;exact⟨f,.inr (.inr ⟨g,by simp,λ_=>rfl⟩)⟩
 ·refine⟨λy d=>?_,by simp[dM,Qz]⟩;simp only[Qz,PG,Qr,OM] at d;subst d;intro b c;simp only[blk,Yi,OM] at c;subst c;exact⟨f,.inr (.inr ⟨g,by simp,λ_=>rfl⟩)⟩
def Inv.ef(H:C.Ok)(h:Inv C gs w t j D ls Ss rk W tag f0 d0 a st sm cl fu)(x:NA)(c:Aside C.Wg w w'):Ef cl x w w'/\w'.heap.size=w.heap.size/\C.DataAt W w':=by
 have⟨f,g⟩:=h.wgc H;refine⟨⟨λb _ _ d=>c.block b λe=>d (e ▸ f),Sv c.size.symm,c.os,c.output⟩,c.size,H.dat W w w' (λb d=>c.block b λe=>?_) h.data⟩;exact H.wgc.2.2 (e ▸ d)
end
end
section
open Go.Conc Go.ConcN
open Go.ConcR (KK wgBlock WgAt stA smA rd wr DC0 Bk g_of_ofEvents loc_of_ofEvent ofEvent_mk ofEvent_cell)
section
variable{U X:Type}{C:Cfg U X}{gs:NJ NF}{w w':Nt}{t:Vx}{j:NA}{D:NA->WD}{ls:NA->X}{Ss:NA->Bs}{rk:NA->Rk}{W γ':U}{tag tag':YG}{f0 d0:NA}{a:NF}{st sm st' sm':NH}{cl:NA->Cl}{fu:NA->NA}
def AU(H:C.Ok)(h:Inv C gs w t j D ls Ss rk W tag f0 d0 a st sm cl fu){i:NA}(p:i<j)(o:w.heap.size<=w'.heap.size){e:Pz}(q:EvC C.Fz (grow (Ss i) w w') w'.heap.size e):EvG (qe cl (C.lo+i) w w') w'.heap.size (C.lo+i) e/\∀a,e.loc≠.mark (.release a):=by
 obtain⟨u,_,s⟩:=q;refine⟨λx n b r=>?_,u.2.2⟩;have⟨l,g,c⟩:=s x n b r;refine⟨l,?_⟩;rcases c with(c | c) | ⟨c,k⟩
 ·have⟨f,d⟩:=h.clw i p b c;exact .inl ⟨by rw[jw d];exact f,g⟩
 ·exact .inl ⟨by unfold qe;rw[if_pos c],g⟩
 ·have⟨f,d⟩:=h.fzc H c;exact .inr (.inl ⟨C.lo,by rw[jw d];exact f,.inr (by omega),k,g⟩)
def Inv.worker(H:C.Ok)(h:Inv C gs w t j D ls Ss rk W tag f0 d0 a st sm cl fu){i:NA}(M:i<j){g:NF}(hg:gs[C.lo+i]?=Nq g)(b9:g.status=.running)(sl:NO (NA × NA))(IH:∀z w' t' D' m4 r7 l9 γ' tag' f' a' st' sm' r4,Inv C z w' t' j D' m4 r7 l9 γ' tag' f' d0 a' st' sm' r4 fu->LtM C.n (C.big j D' m4 γ' tag',l9,C.low j D' fu f') (C.big j D ls W tag,rk,C.low j D fu f0)->Ends C.P C.Post (RD z w' sl) t') :∃z w' S,Xb C.P (RD gs w sl) (C.lo+i)=(.next (RD z w' sl),S)/\Ends C.P C.Post (RD z w' sl) (t++S):=by
 obtain⟨g₁,hg₁,hs⟩:=h.wk i M;obtain rfl:g=g₁:=by rw[hg] at hg₁;exact QQ hg₁
 have s8:=H.hlo;have hn:=H.hn;have hb:=h.cs.le;have t2:=Vc_le j D;have A:=h.mode;have u:=h.wg;generalize O:(D i).stage=s at hs;generalize q6:(D i).fuel=m at hs;generalize e7:(D i).deaf=dd at hs;have n8:WV t (C.lo+i)=dd:=by rw[h.wd i M,e7]
 obtain⟨m6,m5⟩:=h.wgc H;have g9:∀{I B l:NA} {l':X} {r':Rk} {tag':YG} {f':NA} {γ':U},(tag'=tag\/(tag=.blk/\tag'=.w3))->f'<=f0+1 ->
   ((I<s/\Xs ⟨I,B,l⟩<=Xs (D i)/\C.m γ'=C.m W/\C.nuD (⟨I,B,l⟩,l')<=C.nuD (D i,ls i))\/(I=s/\B=m/\C.m γ'+C.nuD (⟨I,B,l⟩,l')<C.m W+C.nuD (D i,ls i)) \/
    (I=s/\B=m/\l'=ls i/\γ'=W/\Rk.sub r' (rk i))\/(I=s/\B+1=m/\l'=ls i/\γ'=W/\r'=rk i)) ->
   LtM C.n (C.big j (Tv D i ⟨I,B,l⟩) (Tv ls i l') γ' tag',Tv rk i r',C.low j (Tv D i ⟨I,B,l⟩) fu f') (C.big j D ls W tag,rk,C.low j D fu f0):=by
  intro I B l l' r' tag' f' γ' N hf hc;have e1:=Xl D (⟨I,B,l⟩:WD) Xs M;have e2:=Xl D (⟨I,B,l⟩:WD) WD.stage M;have e3:=Xl D (⟨I,B,l⟩:WD) WD.fuel M;have e4:=FZ (C:=C) (D:=D) (ls:=ls) (⟨I,B,l⟩:WD) l' M;have ep:Yj C.n (Vc j (Tv D i ⟨I,B,l⟩)) tag'=Yj C.n (Vc j (Tv D i ⟨I,B,l⟩)) tag:=phi_retag _ _ N;have n4:I=s->l'=ls i->C.nuD (⟨I,B,l⟩,l')=C.nuD (D i,ls i):=λx y=>by unfold Cfg.nuD;rw[O,x,y]
  have l6:I=s->Xs (⟨I,B,l⟩:WD)=Xs (D i):=λx=>by simp only[Xs,O,x]
  unfold Cfg.big Cfg.low;rw[ep];simp only[Vc,Ssum,Fsum,O,q6] at *
  rcases hc with⟨c1,c2,c3,c4⟩ | ⟨c1,c2,c3⟩ | ⟨c1,c2,c3,c4,c5⟩ | ⟨c1,c2,c3,c4,c5⟩
  ·refine uI ?_;have hp:=phi_mono C.n (v':=TV j λa=>Xs (Tv D i ⟨I,B,l⟩ a)) (v:=TV j λa=>Xs (D a)) (by omega) tag;have:=Vy (C.nu C.l0+8) hp;omega
  ·refine uI ?_;have:=l6 c1;rw[show(TV j λa=>Xs (Tv D i ⟨I,B,l⟩ a))=TV j λa=>Xs (D a) by omega];omega
  ·have h1:=l6 c1;have h2:=n4 c1 c3;refine Mp ?_ ⟨i,by omega,by rw[QX];exact c5,λk hk=>Sl _ _ hk⟩;rw[show(TV j λa=>Xs (Tv D i ⟨I,B,l⟩ a))=TV j λa=>Xs (D a) by omega,c4];omega
  ·have h1:=l6 c1;have h2:=n4 c1 c3;rw[c5,nh];refine BY ?_ (by omega);rw[show(TV j λa=>Xs (Tv D i ⟨I,B,l⟩ a))=TV j λa=>Xs (D a) by omega,c4];omega
 have g7:∀{Q:NF} {w':Nt} {es:NJ Pz} {I B l:NA} {st' sm':NH},Pj C.P NC g w=.go Q w' es->Aside C.Wg w w'->Uz C.ty C.Wg w' st' sm'->(∀e∈es,Bk C.Wg e) ->
   (∀jx e,es[jx]?=Nq e->(PG e).touch?=Ns\/0<Rb dd (es.extract 0 jx))->C.WS I B l (ls i) (Ss i) (rk i) Q w'->Rb dd es=l->s<=6 ->
   (∀tag',(tag'=tag\/(tag=.blk/\tag'=.w3))->(ZG C.P g=NB->Q.status=.running->tag'≠.blk)->TJ j (Tv D i ⟨I,B,l⟩) tag' st' sm')->((I<s/\Xs ⟨I,B,l⟩<=Xs (D i))\/(I=s/\B+1=m)) ->
   ∃z w' S,Xb C.P (RD gs w sl) (C.lo+i)=(.next (RD z w' sl),S)/\Ends C.P C.Post (RD z w' sl) (t++S):=by
  intro Q w' es I B l st' sm' c l7 d8 c9 hd d9 l4 h6 Y k8;obtain⟨b6,a9,a8⟩:=h.ef H (C.lo+i) l7;have k9:grow (Ss i) w w'=Ss i:=by
   funext b
   simp only[grow,eq_iff_iff];exact⟨λh=>h.elim id λ⟨a,b⟩=>by omega,.inl⟩
  obtain⟨z,tag',f',a',G,b0,N,V⟩:=h.stepW H M sl hg c b6 (λe o=>by rw[uY a9,a9];exact Hk H h (c9 e o)) (by rw[k9];exact d9) (by rw[e7];exact l4)
   (λ_=>let ⟨r,hr⟩:=h.rel i M (by omega);⟨r,hr.book n8 _ _ c9 hd⟩) d8 a8 (by rw[nh];exact h.jj) Y
  refine⟨z,w',_,G,IH _ _ _ _ _ _ _ _ _ _ _ _ _ _ V (g9 N b0 ?_)⟩;rcases k8 with⟨h1,h2⟩ | ⟨h1,h2⟩
  ·refine .inl ⟨h1,h2,rfl,?_⟩;unfold Cfg.nuD;rw[if_neg (by simp only;omega),if_neg (by simp only[O];omega)];exact Nv _
  ·exact .inr (.inr (.inr ⟨h1,h2,rfl,rfl,rfl⟩))
 have R:∀{Q:NF} {w':Nt} {es:NJ Pz} {I B l:NA} {st' sm':NH},Pj C.P NC g w=.go Q w' es->Aside C.Wg w w'->Uz C.ty C.Wg w' st' sm'->(∀e∈es,Bk C.Wg e) ->
   (∀jx e,es[jx]?=Nq e->(PG e).touch?=Ns\/0<Rb dd (es.extract 0 jx))->C.WS I B l (ls i) (Ss i) (rk i) Q w'->Rb dd es=l->s<=6 ->
   TJ j (Tv D i ⟨I,B,l⟩) tag st' sm'->((I<s/\Xs ⟨I,B,l⟩<=Xs (D i))\/(I=s/\B+1=m)) ->
   ∃z w' S,Xb C.P (RD gs w sl) (C.lo+i)=(.next (RD z w' sl),S)/\Ends C.P C.Post (RD z w' sl) (t++S) :=
  λc l7 d8 c9 hd d9 l4 h6 Y k8=>g7 c l7 d8 c9 hd d9 l4 h6 (λ_ ht _=>Y.retag ht) k8
 have eD:∀{Q:NF} {B:NA},Pj C.P NC g w=.go Q w #[]->C.WS s B dd (ls i) (Ss i) (rk i) Q w->B+1=m->s<=6 ->
   ∃z w' S,Xb C.P (RD gs w sl) (C.lo+i)=(.next (RD z w' sl),S)/\Ends C.P C.Post (RD z w' sl) (t++S):=by
  intro Q B c d9 hm h6;exact R c (.refl C.Wg w) u (by simp) (by simp) d9 rfl h6 (by have:=A.same (i:=i) B dd;rwa [O] at this) (.inr ⟨rfl,hm⟩)
 have e9:5<=s->Xs (D i)=1:=λh=>by simp[Xs,O,h]
 cases hs with
 | run e8=>
  generalize q1:rk i=r at e8;cases r with
  | leaf=>
   obtain⟨_,hx⟩:=e8 w (RC.refl w);rcases hx with⟨d,Q,c,m₂,hk⟩ | ⟨_,hx⟩
   ·-- it releases
    obtain⟨b6,a9,a8⟩:=h.ef H (C.lo+i) (Aside.refl C.Wg w);obtain⟨z,tag',f',a',G,b0,N,V⟩:=h.stepW H (w':=w) (γ':=W) (st':=st) (sm':=sm) M sl hg c b6 (l':=ls i) (r':=rk i)
     (λe o=>by simp at o;subst o;exact⟨λx hx=>by simp[Qz,PG,Qr] at hx,λa=>by simp[Qz]⟩) (.k1 d hk) (by rw[e7];rfl) (λ_=>⟨t.size,RelBy.new n8 _ _⟩) u a8
     (by rw[nh];exact h.jj) (λ_ ht _=>(A.counted M (by omega) (.inl rfl) _ _).retag ht)
    refine⟨z,w,_,G,IH _ _ _ _ _ _ _ _ _ _ _ _ _ _ V (g9 N b0 (.inl ⟨by omega,by rw[e9 (by omega)];simp[Xs],rfl,?_⟩))⟩;unfold Cfg.nuD;rw[if_neg (by simp)];exact OE _
   ·-- a synchronising operation on the data
    obtain⟨Q,w',es,γ',l',c,m8,a9,q3,n2,n7,a8,m7,p9⟩:=hx W h.data ⟨j,ls,by have:=h.cs.le;omega,h.jj⟩;obtain⟨r',q2⟩:=H.hW _ _ _ _ p9;have k9:grow (Ss i) w w'=Ss i:=by
     funext b
     simp only[grow,eq_iff_iff];exact⟨λh=>h.elim id λ⟨a,b⟩=>by omega,.inl⟩
    have b6:Ef cl (C.lo+i) w w':=⟨λb _ _ hb=>m8 b λhs=>hb (h.syc H hs).1,Sv a9.symm,q3,n2⟩;obtain⟨z,tag',f',a',G,b0,N,V⟩:=h.stepW H (γ':=γ') (st':=st) (sm':=sm) M sl hg c b6 (l':=l') (r':=r')
     (λe o=>by
      obtain⟨ad,wr,rfl,n9⟩:=n7 e o;obtain⟨k1,k2⟩:=h.syc H n9;refine⟨λx hx b hb=>?_,λa=>by simp⟩;simp only[ofEvent_cell,Qr,OM] at hx;subst hx;simp only[blk,OM] at hb;subst hb;rw[uY a9,a9];exact⟨k2,.inr (.inr ⟨k1,by simp,by simp⟩)⟩) (.run (by rw[k9];exact q2)) (by
      rw[e7];refine deafBehind_idle (λe o=>?_) 0;obtain⟨ad,wr,rfl,n9⟩:=n7 e o;exact⟨by simp,by simp,by simp⟩) (λh=>by omega) (u.of_block (m8 _ H.wgc.2.2)) a8
     (H.hJ _ _ _ _ _ _ h.jj M m7) (λ_ ht _=>Xt (by have:=A.same (i:=i) 0 0;rwa [O] at this) ht)
    refine⟨z,w',_,G,IH _ _ _ _ _ _ _ _ _ _ _ _ _ _ V (g9 N b0 (.inr (.inl ⟨rfl,rfl,?_⟩)))⟩;have:=H.hm _ _ _ _ m7;unfold Cfg.nuD;rw[if_pos (by simp),if_pos (by simp only[O])];exact this
  | nd f=>
   obtain⟨Q,w',es,c,a6,l5⟩:=e8.2 w (RC.refl w);have b6:Ef cl (C.lo+i) w w':=⟨λb hb hm hs=>a6.keep b hb λhS=>hm (h.clw i M b hS).1,a6.size,a6.os,a6.output⟩;have n3:∀b,cl b=.sync->¬ Ss i b:=λb hb hS=>by rw[(h.clw i M b hS).1] at hb;cases hb
   obtain⟨z,tag',f',a',G,b0,N,V⟩:=h.stepW H (γ':=W) (st':=st) (sm':=sm) M sl hg c b6 (l':=ls i)
    (λe o=>AU H h M a6.size (a6.evs e o)) (.run l5) (by rw[e7];exact deafBehind_idle (λe o=>(a6.evs e o).1) 0) (λh=>by omega) (u.of_block (a6.keep _ m5 (n3 _ m6)))
    (H.dat W w w' (λb hb=>a6.keep b (h.syc H hb).2 (n3 _ (h.syc H hb).1)) h.data) (by rw[nh];exact h.jj) (λ_ ht _=>Xt (by have:=A.same (i:=i) 0 0;rwa [O] at this) ht)
   exact⟨z,w',_,G,IH _ _ _ _ _ _ _ _ _ _ _ _ _ _ V (g9 N b0 (.inr (.inr (.inl ⟨rfl,rfl,rfl,rfl,by rw[q1];exact⟨_,rfl⟩⟩))))⟩
 | k1 d hh=>
  rcases Rs hh with F | ⟨B,rfl,p⟩
  ·obtain⟨_,Q,c,m₂,hk⟩:=F w (LR.refl w);exact R c (.refl C.Wg w) u (by intro e o;simp at o;subst o;exact .inl rfl) (by intro jx e o;exact .inl (by have:=PR o;simp at this;subst this;rfl)) (.d1 d hk) rfl (by omega)
    (A.counted M (by omega) (.inr rfl) _ _) (.inl ⟨by omega,by rw[e9 (by omega)];simp[Xs]⟩)
  ·obtain⟨Q,w',es,c,⟨rfl,rfl⟩,Z⟩:=p w (LR.refl w);exact eD c (.k1 d Z) rfl (by omega)
 | d1 d hh=>
  rcases Rs hh with F | ⟨B,rfl,p⟩
  ·obtain⟨_,h9⟩:=F w (LR.refl w);have q8:Xs (D i)=1:=e9 (by omega);have t3:1<=Vc j D:=by have:=le_sumTo (f:=λx=>Xs (D x)) M;simp only[Vc];omega
   have bk2:∀e∈#[rd (Uk C.Wg),wr (Uk C.Wg)],Bk C.Wg e:=by intro e o;simp at o;rcases o with rfl | rfl<;>exact bk_cell _ _ rfl
   have l8:∀jx e,(#[rd (Uk C.Wg),wr (Uk C.Wg)]:NJ Pz)[jx]?=Nq e->(PG e).touch?=Ns\/0<Rb 1 ((#[rd (Uk C.Wg),wr (Uk C.Wg)]:NJ Pz).extract 0 jx):=by
    intro jx e o
    match jx,o with
    | 0,_=>exact .inr (by simp[Rb])
    | 1,_=>exact .inr (by simp[Rb,rd])
    | jx+2,o=>simp at o
   have m9:∀q,Xs (⟨1,q,1⟩:WD)=0:=λ_=>rfl;have m3:∀q,OpenSt j D->OpenSt j (Tv D i ⟨1,q,1⟩):=λq h a ha=>by
    by_cases e:a=i
    ·subst e;rw[QX];simp
    ·rw[Sl D _ e];exact h a ha
   cases A with
   | opn h1 h2 h3=>
    obtain⟨v,hv⟩:∃v,Vc j D+WW tag=v+1:=⟨Vc j D+WW tag - 1,by omega⟩;rw[hv] at u;have k5:Uz C.ty C.Wg w (((v:NA)+1)*KK+((0:NA):NH)) 0:=by simpa using u
    obtain⟨Q,c,_,hq⟩:=h9 v 0 (by omega) (by omega) k5;obtain⟨q,hq⟩:=hq (by omega);have k6:Vc j (Tv D i ⟨1,q,1⟩)+WW tag=v:=by have:=Vc_upd D (⟨1,q,1⟩:WD) M;have:=m9 q;omega
    refine R c (Tf w (Uk C.Wg) _) (u.setSt _) bk2 l8 (.quit d hq) rfl (by omega) ?_ (.inl ⟨by omega,by simp[Xs]⟩);have e:((v:NA):NH)*KK+((0:NA):NH)=((Vc j (Tv D i ⟨1,q,1⟩)+WW tag:NA):NH)*KK:=by rw[k6];simp
    rw[e];exact .opn h1 (m3 q h2) (λvs ev=>by have:=h3 vs ev;omega)
   | reg h1 h2 h3=>
    obtain⟨v,hv⟩:∃v,Vc j D=v+1:=⟨Vc j D - 1,by omega⟩;rw[hv] at u;have hp:WW tag=0:=by cases tag<;>first | rfl | exact h1.elim
    have k5:Uz C.ty C.Wg w (((v:NA)+1)*KK+((1:NA):NH)) 0:=by simpa using u
    obtain⟨Q,c,hl,hq⟩:=h9 v 1 (by omega) (by omega) k5;by_cases q0:v=0
    ·subst q0;obtain⟨m₂,hk⟩:=hl ⟨rfl,rfl⟩;refine R c (Tf w (Uk C.Wg) _) (u.setSt _) bk2 l8 (.d2 d hk) rfl (by omega) ?_ (.inl ⟨by omega,by simp[Xs]⟩);have T:∀a,a<j->a≠i->(D a).stage=1:=λa ha e=>by
      have c0:=others_uncounted M hv q8 a ha e;have:=h2 a ha;simp only[Xs] at c0;split at c0<;>omega
     have:=VM (j:=j) (D:=Tv D i ⟨4,m₂,1⟩) (tag:=tag) i h1 M (by rw[QX];simp) (λa ha e=>by rw[Sl D _ e];exact T a ha e);rw[QX] at this;simpa using this
    ·obtain⟨q,hq⟩:=hq (by omega);have k6:Vc j (Tv D i ⟨1,q,1⟩)=v:=by have:=Vc_upd D (⟨1,q,1⟩:WD) M;have:=m9 q;omega
     refine R c (Tf w (Uk C.Wg) _) (u.setSt _) bk2 l8 (.quit d hq) rfl (by omega) ?_ (.inl ⟨by omega,by simp[Xs]⟩);have e:((v:NA):NH)*KK+((1:NA):NH)=((Vc j (Tv D i ⟨1,q,1⟩):NA):NH)*KK+1:=by rw[k6];simp
     rw[e];exact .reg h1 (m3 q h2) (by omega)
   | last L _ h2 h3 h4=>
    by_cases e:i=L
    ·subst e;omega
    ·have:=h4 i M e;omega
   | sema h2=>have:=h2 i M;omega
   | fin _ h2=>have:=h2 i M;omega
  ·obtain⟨Q,w',es,c,⟨rfl,rfl⟩,Z⟩:=p w (LR.refl w);exact eD c (.d1 d Z) rfl (by omega)
 | d2 d hh=>
  rcases Rs hh with F | ⟨B,rfl,p⟩
  ·obtain⟨_,hx⟩:=F w (LR.refl w);obtain⟨g5,T,rfl,rfl⟩:=A.isLast M (by omega);simp only[O] at u;obtain⟨Q,c,m₂,hk⟩:=hx (by simpa using u);refine R c (.refl C.Wg w) u (by intro e o;simp at o;subst o;exact bk_cell _ _ rfl) (by intro jx e o;match jx,o with | 0,_=>exact .inr (by simp[Rb]) | jx+1,o=>simp at o) (.d3 d hk) rfl (by omega) ?_ (.inl ⟨by omega,by simp[Xs]⟩);have:=VM (j:=j) (D:=Tv D i ⟨3,m₂,1⟩) (tag:=tag) i g5 M (by rw[QX];simp) (λa ha e=>by rw[Sl D _ e];exact T a ha e);rw[QX] at this;simpa using this
  ·obtain⟨Q,w',es,c,⟨rfl,rfl⟩,Z⟩:=p w (LR.refl w);exact eD c (.d2 d Z) rfl (by omega)
 | d3 d hh=>
  rcases Rs hh with F | ⟨B,rfl,p⟩
  ·obtain⟨_,hx⟩:=F w (LR.refl w);obtain⟨g5,T,rfl,rfl⟩:=A.isLast M (by omega);simp only[O] at u;obtain⟨Q,c,m₂,hk⟩:=hx (by simpa using u);refine R c (Tf w (Uk C.Wg) _) (u.setSt 0) (by intro e o;simp at o;subst o;exact bk_cell _ _ rfl) (by intro jx e o;match jx,o with | 0,_=>exact .inr (by simp[Rb]) | jx+1,o=>simp at o) (.d4 d hk) rfl (by omega) ?_ (.inl ⟨by omega,by simp[Xs]⟩);have:=VM (j:=j) (D:=Tv D i ⟨2,m₂,1⟩) (tag:=tag) i g5 M (by rw[QX];simp) (λa ha e=>by rw[Sl D _ e];exact T a ha e);rw[QX] at this;simpa using this
  ·obtain⟨Q,w',es,c,⟨rfl,rfl⟩,Z⟩:=p w (LR.refl w);exact eD c (.d3 d Z) rfl (by omega)
 | d4 d hh=>
  rcases Rs hh with F | ⟨B,rfl,p⟩
  ·obtain⟨_,q5,hx⟩:=F w (LR.refl w);obtain⟨g5,T,rfl,rfl⟩:=A.isLast M (by omega);simp only[O] at u;obtain⟨Q,c,q,hq⟩:=hx (by simpa using u);have G:Q.status=.running:=by
    cases q with
    | zero=>exact absurd hq.2 (by decide)
    | succ q=>exact hq.elim (λx=>absurd x.2 (by decide)) (λx=>x.1)
   refine g7 c (Tf w (Yi C.Wg) _) (u.setSm 1) (es:=SU (Yi C.Wg)) ?_ ?_ (.quit d hq) (by simp[Rb,SU]) (by omega) ?_ (.inl ⟨by omega,by simp[Xs]⟩)
   ·intro e o;simp[SU] at o;rcases o with rfl | rfl | rfl | rfl
    ·exact .inl rfl
    ·exact bk_cell _ _ rfl
    ·exact bk_cell _ _ rfl
    ·exact .inr (.inl rfl)
   ·intro jx e o
    match jx,o with
    | 0,o=>simp[SU] at o;subst o;exact .inl rfl
    | 1,_=>exact .inr (by simp[Rb,SU])
    | 2,_=>exact .inr (by simp[Rb,SU])
    | 3,o=>simp[SU] at o;subst o;exact .inl rfl
    | jx+4,o=>simp[SU] at o
   ·intro tag' ht hw;have q4:=hw q5 G;have e3:tag'=.w3:=by
     rcases ht with rfl | ⟨_,rfl⟩
     ·cases tag'<;>first | rfl | exact g5.elim | exact absurd rfl q4
     ·rfl
    subst e3;simp only[if_true];exact .sema λa ha=>by
     by_cases e:a=i
     ·subst e;rw[QX]
     ·rw[Sl D _ e];exact T a ha e
  ·obtain⟨Q,w',es,c,⟨rfl,rfl⟩,Z⟩:=p w (LR.refl w);exact eD c (.d4 d Z) rfl (by omega)
 | quit d hh=>
  cases m with
  | zero=>rw[hh.1] at b9;cases b9
  | succ q=>
   rcases hh with⟨hf,_⟩ | ⟨_,Q,es,e5,p,hq⟩
   ·rw[hf] at b9;cases b9
   ·have c9:∀e∈es,Bk C.Wg e:=λe o=>Go.ConcR.bk_of_mute (e5 e o);exact R (p w) (.refl C.Wg w) u c9 (λjx e o=>.inl (rC (e5 e (PR o)))) (.quit d hq) rfl (by omega) (by have:=A.same (i:=i) q (Rb dd es);rwa [O] at this) (.inr ⟨rfl,rfl⟩)
end
end
section
open Go.Conc Go.ConcN
open Go.ConcR (KK wgBlock WgAt stA smA rd wr DC0 Bk g_of_ofEvents loc_of_ofEvent ofEvent_mk ofEvent_cell)
section
variable{U X:Type}{C:Cfg U X}{gs:NJ NF}{w w':Nt}{t:Vx}{j:NA}{D:NA->WD}{ls:NA->X}{Ss:NA->Bs}{rk:NA->Rk}{W γ':U}{tag tag':YG}{f0 d0:NA}{a:NF}{st sm st' sm':NH}{cl:NA->Cl}{fu:NA->NA}
def uZ{c:NA}:∀e∈#[Qz .disable],Bk c e:=by intro e b;simp at b;subst b;exact .inl rfl
def zC{c:NA}:∀e∈#[Qz .enable],Bk c e:=by intro e b;simp at b;subst b;exact .inr (.inl rfl)
def JU{c:NA}:∀e∈#[rd (Uk c)],Bk c e:=by intro e b;simp at b;subst b;exact bk_cell _ _ rfl
def Hy{b:NA}:∀e∈#[rd (Uk b),wr (Uk b)],Bk b e:=by intro e c;simp at c;rcases c with rfl | rfl<;>exact bk_cell _ _ rfl
def JR{c:NA}:∀e∈SU (Yi c),Bk c e:=by
 intro e b;simp[SU] at b;rcases b with rfl | rfl | rfl | rfl
 ·exact .inl rfl
 ·exact bk_cell _ _ rfl
 ·exact bk_cell _ _ rfl
 ·exact .inr (.inl rfl)
def oW{c:NA}{b:NJ Pz}(h:∀e∈b,e=Qz (.read (Yi c))\/e=Qz (.write (Yi c)))(d:NA):Rb d b=d :=
 deafBehind_idle (λe f=>by rcases h e f with rfl | rfl<;>simp[dM,Qz]) d
def Inv.spawn(H:C.Ok){r:NA}(hr:r<C.n)(h:Inv C gs w t (C.n - (r+1)) D ls Ss rk W (.sp r 2) f0 0 a st sm cl fu)(sl:NO (NA × NA)){F c:NF}(Y:Pj C.P NB a w=.spawn F c w #[])(a7:C.WA C.l0 (λ_=>RI) c w){tag':YG}{f':NA}(v:C.CS tag' (C.n - r) f' 0 F w)(ho:isOpen tag')(hp:WW tag'=0)(V:∀S,tag'≠.w2 S) :∃N G r',Xb C.P (RD gs w sl) 0=(.next (RD N w sl),G) /\Inv C N w (t++G) (C.n - r) (Tv D (C.n - (r+1)) ⟨7,0,0⟩) (Tv ls (C.n - (r+1)) C.l0) (Tv Ss (C.n - (r+1)) (λ_=>RI)) (Tv rk (C.n - (r+1)) r') W tag' f' 0 F st sm cl fu:=by
 have d5:=H.hlo;have ej:C.n - r=C.n - (r+1)+1:=by omega
 generalize C.n - (r+1)=j at *
 rw[ej] at v ⊢;have⟨rr,hrr⟩:=H.hW _ _ _ _ a7;have o:=runT_crowd_spawn (P:=C.P) (sl:=sl) (i:=0) h.main Y;have e0:(Qn 0 a.frame.fn a.frame.place #[]:NJ WL)=#[]:=by rw[Tq];simp
 rw[e0] at o;have O:((#[]:NJ WL).push { g:=0,fn:=a.frame.fn,pos:=a.frame.place,act:=.go gs.size } |>.push { g:=gs.size,fn:=c.frame.fn,pos:=a.frame.place,act:=.start })=#[{ g:=0,fn:=a.frame.fn,pos:=a.frame.place,act:=.go gs.size },{ g:=gs.size,fn:=c.frame.fn,pos:=a.frame.place,act:=.start }]:=rfl;rw[O] at o;refine⟨_,_,rr,o,?_⟩;generalize hx:({ g:=0,fn:=a.frame.fn,pos:=a.frame.place,act:=.go gs.size }:WL)=x;generalize hy:({ g:=gs.size,fn:=c.frame.fn,pos:=a.frame.place,act:=.start }:WL)=y;have l:x.g=0/\x.act=.go gs.size:=by rw[<- hx];exact⟨rfl,rfl⟩
 have k:y.g=gs.size/\y.act=.start:=by rw[<- hy];exact⟨rfl,rfl⟩
 have I:((gs.setIfInBounds 0 F).push c).size=gs.size+1:=by simp
 have A:=h.size;have q:∀g,WV (t++#[x,y]) g=WV t g:=λg=>(h.tr.fork_deaf l k g).2;have u:∀i,1<=i->i<gs.size->((gs.setIfInBounds 0 F).push c)[i]?=gs[i]?:=λi M L=>by
  rw[Wz (by simpa using L),<- Om,Po (by omega)]
 have s:∀f∈#[x,y],f.g=0\/f.g=gs.size:=λf d=>by
  simp only[Ro,ON,PY,or_false] at d;rcases d with rfl | rfl
  ·exact .inl l.1
  ·exact .inr k.1
 have B:∀f∈#[x,y],f.act=.go gs.size\/f.act=.start:=λf d=>by
  simp only[Ro,ON,PY,or_false] at d;rcases d with rfl | rfl
  ·exact .inl l.2
  ·exact .inr k.2
 refine⟨by rw[I,A];omega,?_,v,λi M L=>?_,λi Q=>?_,λi Q=>?_,λi Q p=>?_,?_,λi Q b R=>?_,h.cl0,h.cla,h.cln,?_,?_,?_,h.data,H.hJ0 _ _ _ h.jj,h.ph,h.wg,?_⟩
 ·rw[Wz (by simp;omega),<- Om,OW,if_pos rfl,if_pos (by omega)]
 ·have⟨z,T,hq⟩:=h.lv i M L;exact⟨z,by rw[u i M (by omega)];exact T,by rw[q];exact hq⟩
 ·by_cases e:i=j
  ·subst e;refine⟨c,?_,by simp only[QX];exact .run hrr⟩;rw[<- A,show gs.size=(gs.setIfInBounds 0 F).size by simp];exact Array.getElem?_push_size
  ·have⟨z,T,hs⟩:=h.wk i (by omega);refine⟨z,by rw[u _ (by omega) (by omega)];exact T,?_⟩;rw[Sl D _ e,Sl ls _ e,Sl Ss _ e,Sl rk _ e];exact hs
 ·rw[q];by_cases e:i=j
  ·subst e;rw[QX,<- A];have:=(h.tr.fork_deaf l k 0).1;rw[q] at this;exact this
  ·rw[Sl D _ e];exact h.wd i (by omega)
 ·by_cases e:i=j
  ·subst e;rw[QX] at p;simp at p
  ·rw[Sl D _ e] at p;have⟨r,hr⟩:=h.rel i (by omega) p;exact⟨r,hr.appNot λf d=>by rcases s f d with h | h<;>omega⟩
 ·rw[I];exact h.tr.fork (by omega) l k h.deaf0
 ·by_cases e:i=j
  ·subst e;rw[QX] at R;exact R.elim
  ·rw[Sl Ss _ e] at R;exact h.clw i (by omega) b R
 ·exact λad=>(h.nor ad).app λf d hm=>by
   rcases B f d with e | e<;>rw[e] at hm<;>cases hm
 ·rw[q];exact h.deaf0
 ·exact h.hd.app λf d=>by rcases s f d with e | e<;>omega
 ·have hm:=h.mode;have⟨Z,M,L,_⟩:=hm.open_inv trivial;have eV:Vc (j+1) (Tv D j ⟨7,0,0⟩)=Vc j D+1:=by
   simp only[Vc,TV,QX];rw[XF D _ Xs (Nv _)];rfl
  have a6:OpenSt (j+1) (Tv D j ⟨7,0,0⟩):=λi Q=>by
   by_cases e:i=j
   ·subst e;rw[QX];simp
   ·rw[Sl D _ e];exact Z i (by omega)
  rw[M,L];have a8:((Vc j D+WW (.sp r 2):NA):NH)*KK=((Vc (j+1) (Tv D j ⟨7,0,0⟩)+WW tag':NA):NH)*KK:=by rw[eV,hp];simp[WW]
  rw[a8];exact .opn ho a6 (λS e=>absurd e (V S))
def Inv.starter(H:C.Ok)(h:Inv C gs w t j D ls Ss rk W tag f0 d0 a st sm cl fu)(k7:a.status=.running)(sl:NO (NA × NA))(IH:∀l w' t' j' D' h9 p7 g9 tag' f' d' v st' sm',Inv C l w' t' j' D' h9 p7 g9 W tag' f' d' v st' sm' cl fu->LtM C.n (C.big j' D' h9 W tag',g9,C.low j' D' fu f') (C.big j D ls W tag,rk,C.low j D fu f0)->Ends C.P C.Post (RD l w' sl) t') :∃l w' A,Xb C.P (RD gs w sl) 0=(.next (RD l w' sl),A)/\Ends C.P C.Post (RD l w' sl) (t++A):=by
 have hn:=H.hn;have q5:=Vc_le j D;have n3:=h.cs.le;have k:=h.mode;have p:=h.wg;have s:∀{v:NF} {w':Nt} {R:NJ Pz} {tag':YG} {f':NA} {st' sm':NH},Pj C.P NB a w=.go v w' R->Aside C.Wg w w'->Uz C.ty C.Wg w' st' sm'->(∀e∈R,Bk C.Wg e)->C.CS tag' j f' (Rb d0 R) v w' ->
   TJ j D tag' st' sm'->(Yj C.n (Vc j D) tag'<Yj C.n (Vc j D) tag\/(Yj C.n (Vc j D) tag'=Yj C.n (Vc j D) tag/\f'<f0)) ->
   ∃l w' A,Xb C.P (RD gs w sl) 0=(.next (RD l w' sl),A)/\Ends C.P C.Post (RD l w' sl) (t++A):=by
  intro v w' R tag' f' st' sm' c p4 k0 p3 b9 c9 d5;obtain⟨Z,M,Q⟩:=h.ef H 0 p4;obtain⟨l,I,z⟩:=h.step0 H sl c Z M (λe he=>by rw[M];exact Hk H h (p3 e he)) b9 k0 Q c9;refine⟨l,w',_,I,IH _ _ _ _ _ _ _ _ _ _ _ _ _ _ z ?_⟩;unfold Cfg.big Cfg.low;rcases d5 with T | ⟨T,h2⟩
  ·refine uI ?_;have:=TW T (show 0<C.nu C.l0+8 by omega);omega
  ·rw[T];exact BY rfl (by omega)
 have eD:∀{v:NF} {w':Nt} {R:NJ Pz} {f':NA},Pj C.P NB a w=.go v w' R->DM C.Wg w w' R->C.CS tag j f' d0 v w'->f'<f0 ->
   ∃l w' A,Xb C.P (RD gs w sl) 0=(.next (RD l w' sl),A)/\Ends C.P C.Post (RD l w' sl) (t++A):=by
  intro v w' R f' c F b9 hf;obtain⟨rfl,O⟩:=F;have S:=oW O d0;obtain⟨Z,M,Q⟩:=h.ef H 0 (Aside.refl C.Wg w');obtain⟨l,I,z⟩:=h.step0 H sl c Z M (λe he=>⟨(ju H h (O e he)).1,(ju H h (O e he)).2.2.2⟩) (by rw[S];exact b9) p Q k;refine⟨l,w',_,I,IH _ _ _ _ _ _ _ _ _ _ _ _ _ _ z ?_⟩;unfold Cfg.big Cfg.low;exact BY rfl (by omega)
 have n8:=h.cs;have w1Step:∀{m:NA},tag=.w1\/tag=.anch->j=C.n->d0=1->f0=m\/tag=.anch->C.GM C.AtW1 m a w ->
   ∃l w' A,Xb C.P (RD gs w sl) 0=(.next (RD l w' sl),A)/\Ends C.P C.Post (RD l w' sl) (t++A):=by
  intro m a6 hj hd hf G;have u:isOpen tag:=by rcases a6 with rfl | rfl<;>trivial
  have g5:WW tag=0:=by rcases a6 with rfl | rfl<;>rfl
  have d8:8*Vc j D+5<=Yj C.n (Vc j D) tag:=by rcases a6 with rfl | rfl<;>simp only[Yj]<;>omega
  obtain⟨ho,T,h2,_⟩:=k.open_inv u;rcases Rs G with d | ⟨m',rfl,f⟩
  ·obtain⟨_,Y⟩:=d w (.refl w);obtain⟨v,c,h0,k8⟩:=Y (Vc j D) (by omega) (by have:=p;rw[T,h2,g5] at this;simpa using this);subst hj;subst hd;by_cases hv:Vc C.n D=0
   ·obtain⟨m₂,B⟩:=h0 hv;refine s c (.refl C.Wg w) p JU (tag':=.ke) (.ke B) ?_ (.inl (NX (by simp only[Yj];omega) d8));have e:st=0:=by rw[T,hv,g5];simp
    rw[e,h2];exact .fin trivial (allQuit_of ho hv)
   ·obtain⟨m₂,B⟩:=k8 hv;refine s c (.refl C.Wg w) p JU (tag':=.w2 (Vc C.n D)) (.w2 B) ?_ (.inl (NX (by simp only[Yj];omega) d8));have e:st=((Vc C.n D+WW (.w2 (Vc C.n D)):NA):NH)*KK:=by rw[T,g5];rfl
    rw[e,h2];exact .opn trivial ho (λvs e=>by cases e;omega)
  ·obtain⟨v,w',R,c,F,o⟩:=f w (.refl w);rcases hf with hf | hf
   ·rcases a6 with rfl | rfl
    ·subst hj;subst hd;exact eD c F (.w1 o) (by omega)
    ·subst hj;subst hd;obtain⟨rfl,O⟩:=F;have S:=oW O 1;obtain⟨Z,M,Q⟩:=h.ef H 0 (Aside.refl C.Wg w');obtain⟨l,I,z⟩:=h.step0 H sl c Z M (λe he=>⟨(ju H h (O e he)).1,(ju H h (O e he)).2.2.2⟩) (tag':=.w1) (by rw[S];exact .w1 o) p Q (k.reopen trivial trivial rfl (by simp));refine⟨l,w',_,I,IH _ _ _ _ _ _ _ _ _ _ _ _ _ _ z ?_⟩;unfold Cfg.big Cfg.low;refine uI ?_;have:=TW (show Yj C.n (Vc C.n D) .w1<Yj C.n (Vc C.n D) .anch by simp only[Yj];omega) (show 0<C.nu C.l0+8 by omega);omega
   ·subst hf;subst hj;subst hd;obtain⟨rfl,O⟩:=F;have S:=oW O 1;obtain⟨Z,M,Q⟩:=h.ef H 0 (Aside.refl C.Wg w');obtain⟨l,I,z⟩:=h.step0 H sl c Z M (λe he=>⟨(ju H h (O e he)).1,(ju H h (O e he)).2.2.2⟩) (tag':=.w1) (by rw[S];exact .w1 o) p Q (k.reopen trivial trivial rfl (by simp));refine⟨l,w',_,I,IH _ _ _ _ _ _ _ _ _ _ _ _ _ _ z ?_⟩;unfold Cfg.big Cfg.low;refine uI ?_;have:=TW (show Yj C.n (Vc C.n D) .w1<Yj C.n (Vc C.n D) .anch by simp only[Yj];omega) (show 0<C.nu C.l0+8 by omega);omega
 cases n8 with
 | skd I G=>
  rcases Rs G with d | ⟨m',rfl,f⟩
  ·obtain⟨_,v,c,m₂,B⟩:=d w (.refl w);exact s c (.refl C.Wg w) p uZ (.sa1 I B) (k.reopen trivial trivial rfl (by simp)) (.inl (by simp only[Yj];omega))
  ·obtain⟨v,w',R,c,F,o⟩:=f w (.refl w);exact eD c F (.skd I o) (by omega)
 | sa1 I G=>
  rename_i r
  rcases Rs G with d | ⟨m',rfl,f⟩
  ·obtain⟨_,Y⟩:=d w (.refl w);obtain⟨ho,rfl,rfl,_⟩:=k.open_inv trivial;obtain⟨v,c,m₂,B⟩:=Y (Vc (C.n - (r+1)) D) (by omega) (by simpa[WW] using p);refine s c (Tf w (Uk C.Wg) _) (p.setSt _) Hy (.ske I B) ?_ (.inl (by simp only[Yj];omega));have e:(((Vc (C.n - (r+1)) D:NA):NH)+1)*KK=((Vc (C.n - (r+1)) D+WW (.sp r 3):NA):NH)*KK:=by simp[WW]
   rw[e];exact .opn trivial ho (by simp)
  ·obtain⟨v,w',R,c,F,o⟩:=f w (.refl w);exact eD c F (.sa1 I o) (by omega)
 | ske I G=>
  rcases Rs G with d | ⟨m',rfl,f⟩
  ·obtain⟨_,v,c,m₂,B⟩:=d w (.refl w);exact s c (.refl C.Wg w) p zC (.sgo I B) (k.reopen trivial trivial rfl (by simp)) (.inl (by simp only[Yj];omega))
  ·obtain⟨v,w',R,c,F,o⟩:=f w (.refl w);exact eD c F (.ske I o) (by omega)
 | sgo I G=>
  rename_i r
  rcases Rs G with d | ⟨m',rfl,f⟩
  ·obtain⟨_,v,p6,k6,m8,b8⟩:=d w (.refl w);have d6:=m8 h.ph ⟨_,h.data⟩;have eV:Vc (C.n - r) (Tv D (C.n - (r+1)) ⟨7,0,0⟩)=Vc (C.n - (r+1)) D+1:=by
    rw[show C.n - r=C.n - (r+1)+1 by omega];simp only[Vc,TV,QX];rw[XF D _ Xs (Nv _)];rfl
   have eS:Ssum (C.n - r) (Tv D (C.n - (r+1)) ⟨7,0,0⟩)=Ssum (C.n - (r+1)) D+7:=by
    rw[show C.n - r=C.n - (r+1)+1 by omega];simp only[Ssum,TV,QX];rw[XF D _ WD.stage (Nv _)]
   have eN:C.Nsum (C.n - r) (Tv D (C.n - (r+1)) ⟨7,0,0⟩) (Tv ls (C.n - (r+1)) C.l0)=C.Nsum (C.n - (r+1)) D ls+C.nu C.l0:=by
    rw[show C.n - r=C.n - (r+1)+1 by omega];simp only[Cfg.Nsum,TV,QX];rw[sumTo_congr (g:=λi=>C.nuD (D i,ls i)) λi hi=>by rw[Sl _ _ (by omega),Sl _ _ (by omega)]];simp[Cfg.nuD]
   have h8:∀{tag':YG} {r':Rk} {f':NA},(Yj C.n (Vc (C.n - (r+1)) D+1) tag'+1<=Yj C.n (Vc (C.n - (r+1)) D) (.sp r 2)) ->
     LtM C.n (C.big (C.n - r) (Tv D (C.n - (r+1)) ⟨7,0,0⟩) (Tv ls (C.n - (r+1)) C.l0) W tag',Tv rk (C.n - (r+1)) r',C.low (C.n - r) (Tv D (C.n - (r+1)) ⟨7,0,0⟩) fu f') (C.big (C.n - (r+1)) D ls W (.sp r 2),rk,C.low (C.n - (r+1)) D fu f0):=by
    intro tag' r' f' n2;refine uI ?_;unfold Cfg.big;rw[eV,eS,eN];have:=Vy (C.nu C.l0+8) n2;rw[Nat.mul_add,Nat.mul_one] at this;omega
   cases r with
   | zero=>
    obtain⟨m₃,B⟩:=b8;obtain⟨l,A,r',N,z⟩:=h.spawn H I sl k6 d6 (tag':=.kd) (f':=m₃) (by rw[Nat.sub_zero];exact .kd B) trivial rfl (by simp);exact⟨l,w,A,N,IH _ _ _ _ _ _ _ _ _ _ _ _ _ _ z (h8 (by simp only[Yj];omega))⟩
   | succ r2=>
    obtain⟨m₃,B⟩:=b8;obtain⟨l,A,r',N,z⟩:=h.spawn H I sl k6 d6 (tag':=.sp r2 5) (f':=m₃) (.skd (by omega) B) trivial rfl (by simp);exact⟨l,w,A,N,IH _ _ _ _ _ _ _ _ _ _ _ _ _ _ z (h8 (by simp only[Yj];omega))⟩
  ·obtain⟨v,w',R,c,F,o⟩:=f w (.refl w);exact eD c F (.sgo I o) (by omega)
 | kd G=>
  rcases Rs G with d | ⟨m',rfl,f⟩
  ·obtain⟨_,v,c,m₂,B⟩:=d w (.refl w);exact s c (.refl C.Wg w) p uZ (.anch B) (k.reopen trivial trivial rfl (by simp)) (.inl (by simp only[Yj];omega))
  ·obtain⟨v,w',R,c,F,o⟩:=f w (.refl w);exact eD c F (.kd o) (by omega)
 | anch G=>
  rcases Rs G with d | ⟨m',rfl,f⟩
  ·obtain⟨m₂,B⟩:=H.hAn a w (d w (.refl w));exact w1Step (.inr rfl) rfl rfl (.inr rfl) B
  ·obtain⟨v,w',R,c,F,o⟩:=f w (.refl w);exact eD c F (.anch o) (by omega)
 | w1 G=>exact w1Step (.inl rfl) rfl rfl (.inl rfl) G
 | w2 G=>
  rename_i vs
  rcases Rs G with d | ⟨m',rfl,f⟩
  ·obtain⟨_,Y⟩:=d w (.refl w);obtain⟨ho,rfl,rfl,m9⟩:=k.open_inv trivial;obtain⟨n3,T⟩:=m9 vs rfl;obtain⟨l4,g6⟩:=Y (Vc C.n D) (by omega) (by simpa[WW] using p);by_cases e:Vc C.n D=vs
   ·obtain⟨v,c,m₂,B⟩:=l4 e;exact s c (Tf w (Uk C.Wg) _) (p.setSt _) Hy (.w3 B) (.reg trivial ho (by omega)) (.inl (by simp only[Yj];omega))
   ·obtain⟨v,c,m₂,B⟩:=g6 e;exact s c (.refl C.Wg w) p JU (.anch B) (k.reopen trivial trivial rfl (by simp)) (.inl (by simp only[Yj];omega))
  ·obtain⟨v,w',R,c,F,o⟩:=f w (.refl w);exact eD c F (.w2 o) (by omega)
 | w3 G=>
  rcases Rs G with d | ⟨m',rfl,f⟩
  ·obtain⟨_,q1,e5,e8⟩:=d w (.refl w);cases k with
   | opn T _ _=>exact T.elim
   | reg T h2 h3=>exact s (e5 ⟨_,p⟩) (.refl C.Wg w) p (by simp) (.blk d) (.reg trivial h2 h3) (.inr ⟨rfl,by omega⟩)
   | last L T h2 h3 h4=>exact s (e5 ⟨_,p⟩) (.refl C.Wg w) p (by simp) (.blk d) (.last L trivial h2 h3 h4) (.inr ⟨rfl,by omega⟩)
   | sema h2=>
    obtain⟨v,c,m₂,B⟩:=e8 p;exact s c (Tf w (Yi C.Wg) _) (p.setSm 0) JR (.w4 B) (.fin trivial h2) (.inl (by simp only[Yj];omega))
   | fin T _=>exact T.elim
  ·obtain⟨v,w',R,c,F,o⟩:=f w (.refl w);exact eD c F (.w3 o) (by omega)
 | blk G=>simp at k7
 | w4 G=>
  rcases Rs G with d | ⟨m',rfl,f⟩
  ·obtain⟨_,hx⟩:=d w (.refl w);obtain⟨hq,rfl,rfl⟩:=k.fin_inv trivial;obtain⟨v,c,m₂,B⟩:=hx p;exact s c (.refl C.Wg w) p JU (.ke B) (.fin trivial hq) (.inl (by simp only[Yj];omega))
  ·obtain⟨v,w',R,c,F,o⟩:=f w (.refl w);exact eD c F (.w4 o) (by omega)
 | ke G=>
  rcases Rs G with d | ⟨m',rfl,f⟩
  ·obtain⟨_,v,c,m₂,B⟩:=d w (.refl w);obtain⟨hq,rfl,rfl⟩:=k.fin_inv trivial;exact s c (.refl C.Wg w) p zC (.acq B) (.fin trivial hq) (.inl (by simp only[Yj];omega))
  ·obtain⟨v,w',R,c,F,o⟩:=f w (.refl w);exact eD c F (.ke o) (by omega)
 | acq G=>
  rcases Rs G with d | ⟨m',rfl,f⟩
  ·obtain⟨_,v,c,l6⟩:=d w (.refl w);obtain⟨hq,rfl,rfl⟩:=k.fin_inv trivial;have N:=TH (P:=C.P) (sl:=sl) (i:=0) h.main c;refine⟨_,_,_,N,?_⟩;have n7:∀i,i<C.n->C.fin (ls i):=λi hi=>by
    obtain⟨g,_,hs⟩:=h.wk i hi;exact hs.fin_of (by rw[hq i hi];omega)
   have hE:=H.hFin W ls v w l6 h.jj n7 h.data h.ph;have q4:=H.hlo;have M:((gs.map (Yh C.P a v w)).setIfInBounds 0 v).size=gs.size:=by simp
   have d5:0<gs.size:=by rw[h.size];omega
   have e1:Qn 0 a.frame.fn a.frame.place #[Qz (.acquire (Uk C.Wg))]=#[{ g:=0,fn:=a.frame.fn,pos:=a.frame.place,act:=.mark (.acquire (Uk C.Wg)) }]:=by rw[Tq];simp[ofEvent_mk]
   rw[e1];generalize hy:({ g:=0,fn:=a.frame.fn,pos:=a.frame.place,act:=.mark (.acquire (Uk C.Wg)) }:WL)=y;have c8:y.g=0:=by rw[<- hy]
   have b0:y.act=.mark (.acquire (Uk C.Wg)):=by rw[<- hy]
   have d9:∀op∈#[y],op.g=0:=λop u=>by simp at u;rw[u];exact c8
   have e6:(t++#[y])[t.size]?=Nq y:=by simp
   have S:∀g,WV (t++#[y]) g=WV t g:=λg=>Deaf_still t g _ λop u=>by simp at u;rw[u,b0];simp
   have e7:Tr cl gs.size w.heap.size (t++#[y]):=h.tr.step d5 λop u=>by
    simp at u;rw[u];exact⟨c8,λx hx=>by rw[b0] at hx;cases hx⟩
   have l5:∀m,Hd m (t++#[y]):=λm=>by
    refine Hd.join (lo:=C.lo) (q:=t.size) (h.hd.app λop u=>.inl (d9 op u)) (λg hg k8 ⟨i,hi⟩=>?_) ((h.nor _).app λop u hm=>by simp at u;rw[u,b0] at hm;cases hm) (by rw[act?_of e6,b0]) (by rw[uQ e6,c8])
     ⟨0,by rw[uQ e6,c8],by rw[deaf_old (Nv _)];exact h.deaf0⟩ m
    obtain⟨op,ho,rfl⟩:=Sw.1 hi;have V:=e7.gs i op ho;rw[h.size] at V;obtain⟨r,I⟩:=h.rel (op.g - C.lo) (by omega) (by rw[hq _ (by omega)];omega);rw[show C.lo+(op.g - C.lo)=op.g by omega] at I;exact⟨r,I.appOther d9 (by omega),lt_of_act? I.act⟩
   refine hE _ sl _ (λi=>if i<C.lo then fu i else(D (i - C.lo)).fuel) ⟨SE _ _ _ d5,λi T h2=>?_,?_,λb hb=>?_,?_,l5 _,λad=>?_⟩
   ·rw[M] at h2;by_cases hl:i<C.lo
    ·obtain⟨x,hx,b6⟩:=h.lv i T hl;refine⟨x,by rw[RK _ _ _ _ (by omega),hx,Pp,Tw b6],?_⟩;rw[if_pos hl,S];exact b6
    ·have V:i - C.lo<C.n:=by rw[h.size] at h2;omega
     obtain⟨x,hx,m7⟩:=h.wk (i - C.lo) V;have k5:=h.wd (i - C.lo) V;rw[show C.lo+(i - C.lo)=i by omega] at hx k5;have b6:VK C.P (D (i - C.lo)).fuel (D (i - C.lo)).deaf x:=by
      have T:=hq _ V;generalize D (i - C.lo)=dd at *
      obtain⟨s1,f1,d1⟩:=dd;dsimp only at *
      subst T;cases m7 with
      | quit _ h=>exact h
     refine⟨x,by rw[RK _ _ _ _ (by omega),hx,Pp,Tw b6],?_⟩;rw[if_neg hl,S,k5];exact b6
   ·rw[M];refine e7.recl (λb hb=>?_);by_cases hs:cl b=.sync
    ·left;rw[hs];have g7:b<C.W1.heap.size:=Wj λn6=>h.cln b n6 hs;unfold flat;rw[<- h.cla b g7,hs]
    ·right;right;left;refine⟨hs,?_,λi x hx n9=>e7.known0 (l5 gs.size) (Nv _) hx n9 hs⟩;unfold flat;by_cases g7:b<C.W1.heap.size
     ·rw[<- h.cla b g7];cases hc:cl b<;>first | rfl | exact absurd hc hs
     ·cases hc:C.clA b with
      | sync=>rw[H.cla0 b (by omega)] at hc;cases hc
      | _=>rfl
   ·unfold flat;rw[H.cla0 b (NM h.ph.size hb)]
   ·rw[S];exact h.deaf0
   ·exact(h.nor ad).app λop u hm=>by simp at u;rw[u,b0] at hm;cases hm
  ·obtain⟨v,w',R,c,F,o⟩:=f w (.refl w);exact eD c F (.acq o) (by omega)
def sr(H:C.Ok)(h:Inv C gs w t j D ls Ss rk W tag f0 d0 a st sm cl fu)(sl:NO (NA × NA)):Ends C.P C.Post (RD gs w sl) t:=by
 have F:∀(Z:Me) (gs:NJ NF) (w:Nt) (t:Vx) (j:NA) (D:NA->WD) (ls:NA->X) (Ss:NA->Bs) (rk:NA->Rk) (W:U) (tag:YG) (f0 d0:NA) (a:NF) (st sm:NH) (cl:NA->Cl) (fu:NA->NA) (sl:NO (NA × NA)),
   Inv C gs w t j D ls Ss rk W tag f0 d0 a st sm cl fu->Z=(C.big j D ls W tag,rk,C.low j D fu f0)->Ends C.P C.Post (RD gs w sl) t:=by
  intro Z;induction Z using(Ld C.n).induction with
  | _ Z G=>
   intro gs w t j D ls Ss rk W tag f0 d0 a st sm cl fu sl h hμ;subst hμ;have⟨i,g,d,f,u,l,b⟩:=XN (P:=C.P) (w:=w) (sl:=sl) (h.awake H) (h.someone H);have M:=h.at H d;have o:=(Nz.1 u).1;rw[h.size] at o;by_cases V:i=0
   ·subst V;rw[h.main] at u;cases u;have⟨k,w',v,y,L⟩:=M.starter H l f λk w' B Q O r s p tag' z Y A st' sm' c o=>G _ o k w' B Q O r s p W tag' z Y A st' sm' cl fu f c rfl;exact Ends.next (b.trans y) L
   ·rcases PP i C.lo with I | I
    ·have⟨k,v,q,tag',z,A,y,R,hf,x,c⟩:=M.leave H f (by omega) I u l;refine Ends.next (b.trans y) (G _ ?_ _ _ _ _ _ _ _ _ _ _ _ _ _ _ _ _ _ f c rfl)
     have e:=phi_retag C.n (Vc j D) x;unfold Cfg.big Cfg.low;rw[e];have:=vB I R;exact BY rfl (by
      have e2:(TV C.lo λa=>Tv fu i q a)=TV C.lo (Tv fu i q):=rfl;omega)
    ·have S:i - C.lo<j:=by omega
     have T:C.lo+(i - C.lo)=i:=by omega
     rw[<- T] at u b;have⟨k,w',v,y,L⟩:=M.worker H S u l f λk w' B O r s p γ' tag' z A st' sm' N c o=>G _ o k w' B j O r s p γ' tag' z d0 A st' sm' N fu f c rfl;exact Ends.next (b.trans y) L
 exact F _ gs w t j D ls Ss rk W tag f0 d0 a st sm cl fu sl h rfl
end
def E.crowd{U X:Type}{P:NR}{d:Ny->Nt->Prop}{cl:NA->Cl}{a:NF}{w:Nt}(L:∀x,1<=x->∃C:Cfg U X,C.P=P/\C.Post=d/\C.lo=x/\C.W1=w/\C.Ok/\(∀b,b<w.heap.size->C.clA b=cl b\/(cl b=.mine 0/\C.clA b=.ro x))/\C.Spawns C.n a w/\Uz C.ty C.Wg w 0 0/\∃W ls,C.DataAt W w/\C.J W 0 ls):E P d cl a w:=by
 intro gs I t fu g;have M:=(Nz.1 g.main).1;obtain⟨C,rfl,rfl,k,q,H,F,c,y,W,ls,l,hJ⟩:=L gs.size (by omega);have z:Tr C.clA gs.size w.heap.size t:=g.tr.recl λb p=>by
  rcases F b p with e | ⟨O,N⟩
  ·exact .inl e
  ·exact .inr (.inl ⟨O,N⟩)
 have f:∀tag,isOpen tag->WW tag=0->(∀h,tag≠.w2 h)->TJ 0 (λ_=>(⟨0,0,0⟩:WD)) tag 0 0:=λtag s v G=>by
  have:=Go.ConcN.Mode.opn (j:=0) (D:=λ_=>(⟨0,0,0⟩:WD)) s (λi u=>by omega) (λh e=>absurd e (G h));simpa[Vc,TV,v] using this
 have base:∀tag f0,C.CS tag 0 f0 0 a w->isOpen tag->WW tag=0->(∀h,tag≠.w2 h)->Inv C gs w t 0 (λ_=>⟨0,0,0⟩) ls (λ_ _=>RI) (λ_=>.leaf) W tag f0 0 a 0 0 C.clA fu:=λtag f0 B s v G=>
  ⟨by rw[k,Nat.add_zero],g.main,B,λi s v=>g.lv i s (by omega),λi u=>by omega,λi u=>by omega,λi u=>by omega,z,λi u=>by omega,λb p=>H.cla0 b (by rw[q];exact p),λb _=>rfl,λb p=>by rw[H.cla0 b p];simp,
   g.nor,g.d0,by rw[k];exact g.hd,l,hJ,⟨λb _=>by rw[q],by rw[q];exact Nv _,by rw[q],by rw[q]⟩,y,f tag s v G⟩
 cases hn:C.n with
 | zero=>
  rw[hn] at c;obtain⟨m,A⟩:=c;have o:C.CS .kd C.n m 0 a w:=.kd A;rw[hn] at o;exact sr H (base .kd m o trivial rfl (by simp)) I
 | succ r=>
  rw[hn] at c;obtain⟨m,A⟩:=c;have o:C.CS (.sp r 5) (C.n - (r+1)) m 0 a w:=.skd (by omega) A;rw[hn,Nat.sub_self] at o;exact sr H (base (.sp r 5) m o trivial rfl (by simp)) I
end
section
open Go.Conc Go.ConcN Go.Sim
def zG(R:QF->Nt->Prop):Ux->QF->Nt->Prop
 | .normal,a,w=>R a w
 | _,_,_=>RI
def rv{R:QF->Nt->Prop}:¬ LetsOut (zG R):=λ⟨_,_,h⟩=>h
def BJ{Q:NR}{ops:NJ PE}{R:QF->Nt->Prop}(rest:Nu NA)(l:Nu NA):∀(a:QF) (w:Nt),YL Q ops (zG R) l a w->∀(b:NS) (k:Nu Si) (cs:Nu NS),∃n q,R n q/\Steps Q (lone (b.at a (.inRegion ops (l++rest)::k)) cs w) (lone (b.at n (.inRegion ops rest::k)) cs q):=by
 induction l with
 | nil=>exact λa w h b k cs=>⟨a,w,h,.refl _ _⟩
 | cons i l y=>
  intro a w h b k cs;simp only[YL] at h;cases ho:ops[i]? with
  | none=>
   simp only[ho] at h;have⟨n,q,s,c⟩:=y a w h b k cs;have hs:=step_op_skip (P:=Q) (b:=b) (a:=a) (k:=k) (cs:=cs) (w:=w) (ops:=ops) (i:=i) (rest:=l++rest) (by simp[ho]);simp only[ho,Option.bind_none,Act.put] at hs;exact⟨n,q,s,.head hs c⟩
  | some o=>
   simp only[ho] at h;by_cases C:Oy o (PH ops a.tmps)=NB
   ·simp only[C,if_true] at h;rcases h with h | ⟨_,z⟩
    case inr=>exact absurd z rv
    simp only[Oper.wp,Oper.upon] at h;have A:=stepG_op (P:=Q) (b:=b) (k:=k) (cs:=cs) (w:=w) (rest:=l++rest) ho C;have r:∀v,(b.at a (.inRegion ops (i::(l++rest))::k)).finish v=b.at (a.put o.dst v) (.inRegion ops (l++rest)::k):=by
     intro v;rw[Qw,ho];rfl
    split at h
    ·rename_i v q u
     have⟨n,p,s,c⟩:=y _ _ h b k cs;exact⟨n,p,s,.head (UO (by rw[Oa,A,<- r];simp[Pw,u])) c⟩
    ·rename_i q u
     have⟨n,p,s,c⟩:=y _ _ h b k cs;exact⟨n,p,s,.head (UO (by rw[Oa,A,<- r];simp[Pw,u])) c⟩
    ·rename_i d q u
     have⟨n,p,s,c⟩:=y _ _ h b k cs;refine⟨n,p,s,.head (UO ?_) c⟩;have:({ b.at a (.inRegion ops (i::(l++rest))::k) with defers:=d::a.defers }:NS).finish NG =
       b.at ({ a with defers:=d::a.defers }.put o.dst NG) (.inRegion ops (l++rest)::k):=by
      have:=Qw b { a with defers:=d::a.defers } ops i (l++rest) k NG;rw[ho] at this;exact this
     rw[Oa,A];simp only[Pw,OL,u,GStep.bare_after];exact congrArg (λH=>Xa { frame:=H,callers:=cs,status:=.running,dying:=Ns } q) this
    ·rename_i f t q u
     have⟨e,p,H,B,g,_,x⟩:=h (b.at a (.inRegion ops (i::(l++rest))::k)::cs);have j:step Q (lone (b.at a (.inRegion ops (i::(l++rest))::k)) cs w) =
       .next (lone (OT Q f t .normal) (b.at a (.inRegion ops (i::(l++rest))::k)::cs) q) :=
      UO (by rw[A];simp[Pw,u,Frame.at])
     cases e with
     | returned v=>
      have⟨n,w₃,s,c⟩:=y _ _ B b k cs;refine⟨n,w₃,s,.head j (Steps.trans g (.head ?_ c))⟩;rw[<- r];exact Xu x
     | panicked G=>exact B.elim
     | outgrown=>exact absurd B rv
    ·rename_i F t q u
     have⟨v,p,B,g⟩:=h (b.at a (.inRegion ops (i::(l++rest))::k)) cs;have j:step Q (lone (b.at a (.inRegion ops (i::(l++rest))::k)) cs w) =
       .next (lone (Frame.ofRow Q F t .normal) (b.at a (.inRegion ops (i::(l++rest))::k)::cs) q) :=
      UO (by rw[A];simp[Pw,u,Frame.at])
     have⟨n,w₃,s,c⟩:=y _ _ B b k cs;refine⟨n,w₃,s,.head j (Steps.trans ?_ c)⟩;rw[<- r];exact g
    ·exact h.elim
    ·exact h.elim
   ·simp only[C,if_false,OJ] at h;have⟨n,q,s,c⟩:=y _ _ h b k cs;have hs:=step_op_skip (P:=Q) (b:=b) (a:=a) (k:=k) (cs:=cs) (w:=w) (ops:=ops) (i:=i) (rest:=l++rest) (by simp[ho];simpa using C);simp only[ho,Ud] at hs;exact⟨n,q,s,.head hs c⟩
def Dq{Q:NR}{o:PE}{a:QF}{w:Nt}{K i:QF->Nt->Prop}{R:Ux->QF->Nt->Prop}(c:∀a w,K a w->i a w)(h:o.wp Q a w K R):o.wp Q a w i R:=by
 unfold Oper.wp at h ⊢;unfold Oper.upon at h ⊢;generalize (QN a.eval o).run Q w=r at h ⊢;cases r with
 | ok x j=>
  cases x with
  | value v=>exact c _ _ h
  | skip=>exact c _ _ h
  | defer d=>exact c _ _ h
  | enter f g=>exact Calls.mono h λe w q=>by cases e<;>first | exact c _ _ q | exact q
  | row r g=>exact Rows.mono h λv w q=>c _ _ q
  | _=>exact h.elim
 | halt x j=>cases x<;>first | exact h | exact h.elim
def lZ{Q:NR}{c:NJ PE}{R:Ux->QF->Nt->Prop}:∀(l:Nu NA) (d:Nu PE) (a:QF) (w:Nt),l.map (λi=>c[i]?)=d.map Nq->Vb Q c R d a w->YL Q c R l a w
 | [],[],a,w,_,h=>h
 | [],_::_,_,_,e,_=>by simp at e
 | _::_,[],_,_,e,_=>by simp at e
 | i::l,o::d,a,w,e,h=>by
  simp only[Qj,QT] at e;simp only[YL,e.1];simp only[Vb] at h;have g:∀a w,Vb Q c R d a w->YL Q c R l a w:=λa w=>lZ l d a w e.2;split
  ·rename_i j
   rw[if_pos j] at h;exact h.imp (λh=>Dq g h) id
  ·rename_i j
   rw[if_neg j] at h;exact g _ _ h
section
variable[JunkSet]{Q P:NR}{f:Pl}{Post:Ny->Nt->Prop}{W:Nt}
variable{b:NS}{a:QF}{k:Nu Si}{cs:Nu NS}{wq:Nt}
def EL.one(D:Two Q P){g c:NS}{d:Nu NS}{fn:Pl}(j:EL Q P f Post W (G c d) wq)(h:∀w,step Q (lone g cs w)=.next (lone c d w))(e:Bot f d)(i:c.fn=fn)(hs:Q.funcs[fn]?=P.funcs[fn]?):EL Q P f Post W (G g cs) wq :=
 EL.of_runs D λT=>⟨c,d,wq.tp T,.one (h _),e,by rw[i];exact hs,j.tape T⟩
section
variable(D:Two Q P)(hb:Bot f cs)(hs:Q.funcs[b.fn]?=P.funcs[b.fn]?)
include D hb hs
theorem EL.seq{x y:Qs}(h:EL Q P f Post W (G (b.at a (.code x::.code y::k)) cs) wq):EL Q P f Post W (G (b.at a (.code (.seq x y)::k)) cs) wq:=EL.one D h (λ_=>step_seq) hb (fn:=b.fn) rfl hs
theorem EL.sp{x y:Qs}(h:∀T,x.wp Q (LH Q P f Post W b (.code y::k) cs) a (wq.tp T)):EL Q P f Post W (G (b.at a (.code (.seq x y)::k)) cs) wq:=EL.seq D hb hs (EL.piece D hb hs h)
theorem EL.skip(h:EL Q P f Post W (G (b.at a k) cs) wq):EL Q P f Post W (G (b.at a (.code .skip::k)) cs) wq:=EL.one D h (λ_=>step_skip) hb (fn:=b.fn) rfl hs
theorem EL.cond{c:OQ}{x y:Qs}(t:OI)(d:a.eval c=.bool t)(h:EL Q P f Post W (G (b.at a (.code (if t then x else y)::k)) cs) wq):EL Q P f Post W (G (b.at a (.code (.cond c x y)::k)) cs) wq:=EL.one D h (λ_=>step_cond d) hb (fn:=b.fn) rfl hs
theorem EL.block{id:NA}{c:Qs}(h:EL Q P f Post W (G (b.at a (.code c::.inBlock id::k)) cs) wq):EL Q P f Post W (G (b.at a (.code (.block id c)::k)) cs) wq:=EL.one D h (λ_=>step_block) hb (fn:=b.fn) rfl hs
theorem EL.inBlock{id:NA}(h:EL Q P f Post W (G (b.at a k) cs) wq):EL Q P f Post W (G (b.at a (.inBlock id::k)) cs) wq:=EL.one D h (λ_=>step_inBlock) hb (fn:=b.fn) rfl hs
theorem EL.loop{c:Qs}(h:EL Q P f Post W (G (b.at a (.code c::.inLoop c::k)) cs) wq):EL Q P f Post W (G (b.at a (.code (.loop c)::k)) cs) wq:=EL.one D h (λ_=>step_loop) hb (fn:=b.fn) rfl hs
theorem EL.inLoop{c:Qs}(h:EL Q P f Post W (G (b.at a (.code c::.inLoop c::k)) cs) wq):EL Q P f Post W (G (b.at a (.inLoop c::k)) cs) wq:=EL.one D h (λ_=>step_inLoop) hb (fn:=b.fn) rfl hs
theorem EL.exit{id:NA}{c:Nu Si}(d:TU id k=Nq c)(h:EL Q P f Post W (G (b.at a c) cs) wq):EL Q P f Post W (G (b.at a (.code (.exit id)::k)) cs) wq:=EL.one D h (λ_=>step_exit d) hb (fn:=b.fn) rfl hs
theorem EL.retS(h:EL Q P f Post W (G { b.at a (.code .ret::k) with mode:=.returning } cs) wq):EL Q P f Post W (G (b.at a (.code .ret::k)) cs) wq:=EL.one D h (λ_=>step_ret) hb (fn:=b.fn) rfl hs
theorem EL.region{id:NA}{c:NJ PE}(h:EL Q P f Post W (G (b.at a (.inRegion c (Oo c.size)::k)) cs) wq):EL Q P f Post W (G (b.at a (.code (.region id c NC)::k)) cs) wq:=EL.one D h (λ_=>step_region) hb (fn:=b.fn) rfl hs
theorem EL.region_end{c:NJ PE}(h:EL Q P f Post W (G (b.at a k) cs) wq):EL Q P f Post W (G (b.at a (.inRegion c []::k)) cs) wq:=EL.one D h (λ_=>step_region_end) hb (fn:=b.fn) rfl hs
theorem EL.list{c:NJ PE}(l:Nu NA)(e:Nu PE){rest:Nu NA}(n:l.map (λi=>c[i]?)=e.map Nq)(h:∀T,Vb Q c (zG λj d=>EL Q P f Post W (G (b.at j (.inRegion c rest::k)) cs) d) e a (wq.tp T)) :EL Q P f Post W (G (b.at a (.inRegion c (l++rest)::k)) cs) wq :=
 EL.of_runs D λT=>by
  have⟨j,d,o,g⟩:=BJ rest l a (wq.tp T) (lZ l e a _ n (h T)) b k cs;exact⟨_,cs,d,g,hb,hs,o⟩
theorem EL.enter{c:NJ PE}{i:NA}{rest:Nu NA}{o:PE}{fk:Pl}{args:NJ Ny}(j:c[i]?=Nq o)(g:Oy o (PH c a.tmps)=NB)(d:∀T,(QN a.eval o).run Q (wq.tp T)=.ok (.enter fk args) (wq.tp T))(e:Q.funcs[fk]?=P.funcs[fk]?)(h:EL Q P f Post W (G (OT Q fk args .normal) (b.at a (.inRegion c (i::rest)::k)::cs)) wq):EL Q P f Post W (G (b.at a (.inRegion c (i::rest)::k)) cs) wq :=
 EL.of_runs D λT=>by
  have n:=stepG_op (P:=Q) (b:=b) (k:=k) (cs:=cs) (w:=wq.tp T) (rest:=rest) j g;exact⟨_,_,wq.tp T,.one (UO (by rw[n];simp[Pw,d,Frame.at])),hb.cons,e,h.tape T⟩
end
def EL.back(D:Two Q P){d c:NS}{v:Ny}(hb:Bot f cs)(hs:Q.funcs[c.fn]?=P.funcs[c.fn]?)(e:∀T,d.leaving Q (wq.tp T) (.returned v))(h:EL Q P f Post W (G (c.finish v) cs) wq):EL Q P f Post W (G d (c::cs)) wq :=
 EL.of_runs D λT=>⟨_,cs,wq.tp T,.one (Xu (e T)),hb,by
  have:(c.finish v).fn=c.fn:=by unfold Wt;split<;>rfl
  rw[this];exact hs,h.tape T⟩
def EC(Q P:NR)(f:Pl)(Post:Ny->Nt->Prop)(W:Nt)(e:Pl)(d:NJ Ny)(wq:Nt)(R:Ny->Nt->Prop):Prop :=
 ∀c cs,Bot f cs->Q.funcs[c.fn]?=P.funcs[c.fn]?->(∀v u,R v u->EL Q P f Post W (G (c.finish v) cs) u)->EL Q P f Post W (G (OT Q e d .normal) (c::cs)) wq
def EC.of_body(D:Two Q P){j:Pl}{i:Func}{o:Qs}{d:NJ Ny}{R:Ny->Nt->Prop}(p:Q.funcs[j]?=Nq i)(t:P.funcs[j]?=Nq i)(n:i.body=Nq o)(h:∀cs,Bot f cs->(∀a g u v,a.defers=[]->(∀T,(Qo i a.tmps).run Q (u.tp T)=.ok v (u.tp T))->R v u->EL Q P f Post W (G { (base j).at a g with mode:=.returning } cs) u) ->EL Q P f Post W (G ((base j).at ⟨d++OY (i.ntmps - d.size) NG,[]⟩ [.code o]) cs) wq):EC Q P f Post W j d wq R:=by
 intro c cs hb hs q;have e:OT Q j d .normal=(base j).at ⟨d++OY (i.ntmps - d.size) NG,[]⟩ [.code o]:=by
  simp[OT,p,n,Frame.at,base]
 rw[e];refine h (c::cs) hb.cons λa g u v r l s=>EL.back D hb hs (λT=>⟨rfl,r,rfl,i,p,l T⟩) (q v u s)
end
end
section
open Go.Conc Go.ConcN Go.Sim
section
variable[J:JunkSet]{Q P:NR}{f:Pl}{Post:Ny->Nt->Prop}{W:Nt}
structure AtK(Q P:NR)[JunkSet](W:Nt)(Z:Ren)(tq tp:NJ Ny)(c c':NS)(pre pre':Nu NS)(wq w:Nt)(cl:NA->Cl):Prop where
 wr:WR Q W.heap.size Z wq w
 ln:W.heap.size<=Z.length
 gl:Gl P Z
 tm:AsR Z tq tp
 top:aG Q P Z c c'
 rest:LsR (aG Q P Z) pre pre'
 own:iw cl Z
 c0:∀b,w.heap.size<=b->cl b=.mine 0
 kp:gh W.heap.size W.heap.size W Z w
 om:∀b,b<W.heap.size->cl b=.mine 0
def EL.enterK(D:Two Q P){b:NS}{a:QF}{k:Nu Si}{cs:Nu NS}{s:Nt}(hb:Bot f cs)(hs:Q.funcs[b.fn]?=P.funcs[b.fn]?){j:NJ PE}{i:NA}{rest:Nu NA}{o:PE}{q:Pl}{fq z:Func}{c0:Qs}{l:NJ Ny}(ho:j[i]?=Nq o)(hw:Oy o (PH j a.tmps)=NB)(L:∀T,(QN a.eval o).run Q (s.tp T)=.ok (.enter q l) (s.tp T))(N:Q.funcs[q]?≠P.funcs[q]?)(b8:Q.funcs[q]?=Nq fq)(b9:P.funcs[q]?=Nq z)(hn:fq.ntmps=z.ntmps)(c8:z.body=Nq c0)(hK:∀Z tp c' pre p w I,cs=pre++[ay f]->AtK Q P W Z (l++OY (z.ntmps - l.size) NG) tp (b.at a (.inRegion j (i::rest)::k)) c' pre p s w I->E P Post I (G ((base q).at ⟨tp,[]⟩ [.code c0]) (c'::p)) w) :EL Q P f Post W (G (b.at a (.inRegion j (i::rest)::k)) cs) s:=by
 intro Z g' w I h b6 hc hk hm
 let g1:NF:=G (OT Q q l .normal) (b.at a (.inRegion j (i::rest)::k)::cs)
 let F:NF->Nt->Prop:=λg _=>g.frame.fn=q/\g.callers≠[]
 have A:∀T,∃C,Pj Q NB (G (b.at a (.inRegion j (i::rest)::k)) cs) (s.tp T) NB=.go g1 (s.tp T) C:=λT=>by
  have U:=stepG_op (P:=Q) (b:=b) (k:=k) (cs:=cs) (w:=s.tp T) (rest:=rest) ho hw;refine⟨?_,?_⟩;rotate_left
  ·refine Eq.trans (b:=Pw Q NB (b.at a (.inRegion j (i::rest)::k)) cs Ns (QN a.eval o) (s.tp T)) U ?_;simp only[Pw,OL,L];rfl
 have R:¬ F (G (b.at a (.inRegion j (i::rest)::k)) cs) s:=λ⟨h1,_⟩=>N (by have e:b.fn=q:=h1;rw[<- e];exact hs);have ht:LT Q F (G (b.at a (.inRegion j (i::rest)::k)) cs) s:=.step R (λT=>by
   have⟨C,e⟩:=A T;exact⟨g1,_,C,e,rfl,rfl⟩) λT g2 u2 l5 e2=>by
   have⟨C,e⟩:=A T;rw[e] at e2;cases e2;exact .done ⟨rfl,by show(_::_:Nu NS)≠[];simp⟩
 have v:Sub Q P W.heap.size F f [] Z (G (b.at a (.inRegion j (i::rest)::k)) cs) s g' w:=⟨h.ln,h.wr,h.gl,ht,h.stack,h.rel⟩;refine E.step (iB v) λd=>?_;have⟨O,g2,g6,k8,Y,C,h1,h2,h3,h4,_,n⟩:=(vC v d).stepK D.H D.hrf kL R NB (λg u U=>U.2);obtain⟨_,T,l6,X⟩:=h2;have⟨l7,e0⟩:=A T;dsimp only at X;rw[e0] at X;cases X;have M:iw I O:=b6.step (w:=w.at d) h3 hc;have c3:∀b,Y.heap.size<=b->I b=.mine 0:=λb hb=>hc b (NM h3.size hb);have b7:gh W.heap.size W.heap.size W O Y:=gh.step (w:=w.at d) (hk.at d) h3;rcases n with n | ⟨V,kd,a1,r,c,c',pre,p,n,S,rfl⟩
 ·exfalso;have⟨gv,U,_⟩:=n.rel;have⟨gf,k1,k2⟩:=U.frame.same;exact N (by
   have e:g1.frame.fn=q:=rfl;rw[e] at k1 k2;rw[k1,k2])
 ·refine⟨_,Y,C,h1,h3.size,λe he=>iE M n.wr (h4 e he),?_⟩;have B:OT Q q l .normal=OT Q V a1 kd:=congrArg (·.frame) S;have t:b.at a (.inRegion j (i::rest)::k)::cs=c::(pre++[ay f]):=congrArg (·.callers) S;have X:q=V:=congrArg (·.fn) B;subst X;have e2:CallKind.normal=kd:=congrArg (·.kind) B;subst e2;have e3:l++OY (z.ntmps - l.size) NG=a1++OY (z.ntmps - a1.size) NG:=by
   have:=congrArg (·.tmps) B;simp only[OT,b8,Pp,NK,hn] at this;exact this
  simp only[QT] at t;obtain⟨rfl,t⟩:=t;have e4:OT P q r .normal=(base q).at ⟨r++OY (z.ntmps - r.size) NG,[]⟩ [.code c0]:=enter_at _ b9 c8;have e5:r.size=a1.size:=n.args.1.symm;have:=hK O (r++OY (z.ntmps - r.size) NG) c' pre p Y I t ⟨⟨n.wr.len,n.wr.nodup,n.wr.lt,n.wr.obj,n.wr.low,n.wr.env,n.wr.below,n.wr.gar⟩,n.len,n.gl,?_,n.top,n.rest,M,c3,b7,hm⟩
  ·rw[e4,SV];exact this
  ·rw[e3,e5];refine AsR.append n.args ⟨rfl,λi x y hx hy=>?_⟩;rw[hx] at hy;cases hy;have:x=NG:=by
    have:=Nz.1 hx;obtain⟨hl,he⟩:=this;simp at he;exact he.symm
   rw[this];exact gR _
def EL.resume{O Z:Ren}{c i:NS}{pre a:Nu NS}{o w:Nt}{e:NA->Cl}{v h:Ny}(q:EL Q P f Post W (G (c.finish v) (pre++[ay f])) o)(l:Q.inits.idxOf? f=Ns)(n:∃g,Q.funcs[f]?=Nq g/\P.funcs[f]?=Nq g)(d:Le Z O)(x:aG Q P Z c i)(p:LsR (aG Q P Z) pre a)(u:VR O v h)(t:WR Q W.heap.size O o w)(j:W.heap.size<=O.length)(B:Gl P Z)(y:iw e O)(A:∀b,w.heap.size<=b->e b=.mine 0)(z:gh W.heap.size W.heap.size W O w)(hm:∀b,b<W.heap.size->e b=.mine 0):E P Post e (G (i.finish h) a) w:=by
 refine q O (G (i.finish h) a) w e ⟨t,j,B.mono d,⟨pre,rfl⟩,G (i.finish h) (a++[ay f]),⟨(x.mono d).finish u,?_,rfl,rfl,rfl,rfl⟩,?_⟩ y A z hm
 ·have D:LsR (aG Q P O) pre a:=p.imp λ_ _ k=>k.mono d;have C:aG Q P O (ay f) (ay f):=wW l n;show LsR (aG Q P O) (pre++[ay f]) (a++[ay f]);clear q p;induction D with
  | nil=>exact .cons C .nil
  | cons s _ r=>exact .cons s r
 ·simp[swap,G]
end
end
section
open Go.Conc Go.ConcN Go.Sim
def Closed(ops:NJ PE)(listed:NJ OI):Prop:=∀(i:NA) (o:PE),ops[i]?=Nq o->listed[i]?.getD NC=NB->∀e∈o.after,Pe .any e=NB->listed[e.on]?.getD NC=NB
def eD(o:PE):PE:={ dst:=Ns,op:=.move (.const (.bool NB)),type:=o.type,pos:=o.pos,after:=o.after,guard:=Ns }
def chainB(ops:NJ PE)(n:NA):OI :=
 (Oo ops.size).all (λj=>match ops[j]? with
  | some o=>o.after.all (λe=>!Pe .any e || decide (e.on<j)) && (decide (j<=n) || o.after.any (λe=>Pe .any e && e.on+1 == j)) && (decide (n<=j) || (match o.guard with | some (g,_)=>decide (g<j) | none=>NB))
  | none=>NC) &&
 (Oo n).all (λi=>(Oo (n+1)).any λj=>decide (i<j) && match ops[j]? with | some o=>o.after.any (λe=>Pe .any e && e.on == i) | none=>NC)
section
variable{ops:NJ PE}{n:NA}(hB:chainB ops n=NB)
include hB
theorem sx{j:NA}{o:PE}(l:ops[j]?=Nq o):(∀e∈o.after,Pe .any e=NB->e.on<j)/\(n<j->∃e∈o.after,Pe .any e=NB/\e.on+1=j)/\(j<n->∀g b,o.guard=Nq (g,b)->g<j):=by
 unfold chainB at hB;simp only[Of,OF,Py] at hB;have:=hB.1 j (Nz.1 l).1;rw[l] at this;simp only[PL,QI,QM,decide_eq_true_eq,Of] at this;obtain⟨⟨s,r⟩,q⟩:=this;refine⟨λe i d=>?_,λh=>?_,λh g b p=>?_⟩
 ·rcases s e i with h | h
  ·rw[d] at h;cases h
  ·exact h
 ·rcases r with c | c
  ·omega
  ·have⟨e,i,d⟩:=XS.1 c;simp only[Of,beq_iff_eq] at d;exact⟨e,i,d⟩
 ·rcases q with c | c
  ·omega
  ·rw[p] at c;simpa using c
theorem xa(y:n<ops.size){listed:NJ OI}(x:Closed ops listed)(v:∀o,ops[n]?=Nq o->∀e∈o.after,Pe .any e=NB->listed[e.on]?.getD NC=NB):∀i,i<n->listed[i]?.getD NC=NB:=by
 have c:=hB;unfold chainB at c;simp only[Of,OF (l:=Oo n),Py] at c;have r:∀d i,i<n->n - i<=d->listed[i]?.getD NC=NB:=by
  intro d;induction d with
  | zero=>intro i q h;omega
  | succ d u=>
   intro i q h;have:=c.2 i q;simp only[List.any_eq_true,Py,Of,decide_eq_true_eq] at this;obtain⟨j,z,w,g⟩:=this;cases ho:ops[j]? with
   | none=>rw[ho] at g;cases g
   | some o=>
    rw[ho] at g;simp only at g;have⟨e,t,p⟩:=XS.1 g;simp only[Of,beq_iff_eq] at p;by_cases s:j=n
    ·subst s;rw[<- p.2];exact v o ho e t p.1
    ·have:=x j o ho (u j (by omega) (by omega)) e t p.1;rw[p.2] at this;exact this
 exact λi q=>r (n - i) i q (Nv _)
theorem iC{m:NA}(hm:m<ops.size){listed:NJ OI}(j:listed.size=ops.size)(c:listed[m]?.getD NC=NC):Oe .any ops listed≠[]:=by
 intro l;have d:∀i,i<ops.size->listed[i]?.getD NC=NB:=by
  intro i;induction i using Vw with
  | _ i h=>
   intro g;refine cT l j (Om g) ?_;simp only[PL,QI,QM];intro e o;cases hb:Pe .any e with
   | false=>exact .inl rfl
   | true=>
    right;have:=(sx hB (Om g)).1 e o hb;rw[Pv];exact h e.on this (by omega)
 rw[d m hm] at c;cases c
theorem pz{listed:NJ OI}{i:NA}(g:i∈Oe .any ops listed)(c:n<i):listed[i - 1]?.getD NC=NB:=by
 obtain⟨p,-⟩:=bZ g;have d:=Om p;have⟨e,l,o,j⟩:=(sx hB d).2.1 c;have:=bX g d;simp only[PL,QI,QM] at this;rcases this e l with h | h
 ·rw[o] at h;cases h
 ·rw[<- Pv,show i - 1=e.on by omega];exact h
omit hB in
theorem Cg{fuel t:NA}{listed:NJ OI}(c:Oe .any ops listed≠[]):∃i g,i∈Oe .any ops listed/\Pd .any ops (fuel+1) t listed []=i::Pd .any ops fuel g (listed.setIfInBounds i NB) []:=by
 simp only[Pd];change ∃i g,_/\(match (Oe .any ops listed)[t % (Oe .any ops listed).length]? with
  | some i=>Pd .any ops fuel (t / (Oe .any ops listed).length) (listed.setIfInBounds i NB) [i]
  | none=>[].reverse)=_
 cases hi:(Oe .any ops listed)[t % (Oe .any ops listed).length]? with
 | none=>
  exfalso;cases hr:Oe .any ops listed with
  | nil=>exact c hr
  | cons x e=>
   rw[hr] at hi;have d:t % (x::e).length<(x::e).length:=Nat.mod_lt _ (by simp);simp at hi;simp at d;omega
 | some i=>exact⟨i,_,Od hi,by simp only[];rw[linearise_go_acc,Ww];rfl⟩
theorem Gu:∀(fuel t m:NA) (listed:NJ OI),n<=m->m<=ops.size->listed.size=ops.size->(∀k,k<m->listed[k]?.getD NC=NB)->(∀k,m<=k->listed[k]?.getD NC=NC)->unl listed ops.size<=fuel ->Pd .any ops fuel t listed []=Vq m (ops.size - m):=by
 intro fuel;induction fuel with
 | zero=>
  intro t m listed p q e o j B;by_cases h:m<ops.size
  ·exfalso;cases g:Oe .any ops listed with
   | nil=>exact iC hB h e (j m (Nv _)) g
   | cons i l=>
    have⟨d,c⟩:=bZ (md:=.any) (ops:=ops) (listed:=listed) (i:=i) (by rw[g];simp);have:=iA (n:=ops.size) d e c;omega
  ·rw[show ops.size - m=0 by omega];rfl
 | succ fuel y=>
  intro t m listed p q e o j B;by_cases h:m<ops.size
  ·have⟨i,w,s,C⟩:=Cg (fuel:=fuel) (t:=t) (iC hB h e (j m (Nv _)));have r:i=m:=by
    have d:=nK s;have c:¬ i<m:=λh=>by rw[o i h] at d;cases d
    refine OK λD=>?_;have v:=pz hB s (by omega);rw[j (i - 1) (by omega)] at v;cases v
   subst r;have⟨d,c⟩:=bZ s;have D:=iA (n:=ops.size) d e c;rw[C,y w (i+1) (listed.setIfInBounds i NB) (by omega) (by omega) (by simpa using e) (λk A=>by
    rw[lQ _ _ _ (by omega)];split
    ·rfl
    ·exact o k (by omega)) (λk A=>by rw[lQ _ _ _ (by omega),if_neg (by omega)];exact j k (by omega)) (by omega),show ops.size - i=(ops.size - (i+1))+1 by omega,List.range'_succ]
  ·have g:Oe .any ops listed=[]:=by
    cases g:Oe .any ops listed with
    | nil=>rfl
    | cons x F=>
     exfalso;have u:x∈Oe .any ops listed:=by rw[g];simp
     have d:=(bZ u).1;have c:=nK u;rw[o x (by omega)] at c;cases c
   rw[show ops.size - m=0 by omega];simp only[Pd];change (match (Oe .any ops listed)[t % (Oe .any ops listed).length]? with
    | some z=>Pd .any ops fuel _ _ [z]
    | none=>[].reverse)=[]
   rw[g];rfl
theorem DG(u:n<ops.size):∀(fuel t:NA) (listed:NJ OI),listed.size=ops.size->Closed ops listed->(∀k,n<=k->listed[k]?.getD NC=NC)->unl listed ops.size<=fuel ->∃L,Pd .any ops fuel t listed []=L++Vq n (ops.size - n)/\∀i∈L,i<n:=by
 intro fuel;induction fuel with
 | zero=>
  intro t listed d A g F;exfalso;cases hr:Oe .any ops listed with
  | nil=>exact iC hB u d (g n (Nv _)) hr
  | cons i l=>
   have⟨C,B⟩:=bZ (md:=.any) (ops:=ops) (listed:=listed) (i:=i) (by rw[hr];simp);have:=iA (n:=ops.size) C d B;omega
 | succ fuel H=>
  intro t listed d A g F;rcases Tx (∀k,k<n->listed[k]?.getD NC=NB) with c | c
  ·exact⟨[],Gu hB (fuel+1) t n listed (Nv _) (by omega) d c g F,by simp⟩
  ·have⟨i,G,z,p⟩:=Cg (fuel:=fuel) (t:=t) (iC hB u d (g n (Nv _)));have⟨C,B⟩:=bZ z;have M:=iA (n:=ops.size) C d B;have D:∀o,ops[i]?=Nq o->∀e∈o.after,Pe .any e=NB->listed[e.on]?.getD NC=NB:=λo r e p s=>by
    have:=bX z r;simp only[PL,QI,QM] at this;rcases this e p with h | h
    ·rw[s] at h;cases h
    ·rw[<- Pv];exact h
   have y:i<n:=by
    refine OK λh=>?_;by_cases e:i=n
    ·subst e;exact c (xa hB u A D)
    ·have:=pz hB z (by omega);rw[g (i - 1) (by omega)] at this;cases this
   have⟨L,I,v⟩:=H G (listed.setIfInBounds i NB) (by simpa using d) (λj o r x e p s=>by
     rw[lQ _ _ _ (by omega)] at x ⊢;split at x
     ·rename_i w
      subst w;split
      ·rfl
      ·exact D o r e p s
     ·have:=A j o r x e p s;split
      ·rfl
      ·exact this) (λk q=>by rw[lQ _ _ _ (by omega),if_neg (by omega)];exact g k q) (by omega)
   exact⟨i::L,by rw[p,I];rfl,λk q=>by
    rcases ON.1 q with rfl | q
    ·exact y
    ·exact v k q⟩
end
def cK(ops:NJ PE)(n:NA):NJ PE:=(ops.toList.take n++(ops.toList.drop n).map eD).toArray
def mO(ops:NJ PE)(n i:NA):(cK ops n)[i]?=(ops[i]?).map λo=>if i<n then o else eD o:=by
 unfold cK;rw[UY,<- UX];by_cases h:i<n
 ·by_cases c:i<ops.toList.length
  ·rw[Ot (by simp at c ⊢;omega),PI h];cases ops.toList[i]?<;>simp[h]
  ·rw[OO (by simp at c ⊢;omega),OO (by omega)];rfl
 ·by_cases c:n<=ops.toList.length
  ·rw[Pq (by simp at c ⊢;omega),Pa,RZ,show n+(i - (ops.toList.take n).length)=i by simp at c ⊢;omega];cases ops.toList[i]?<;>simp[h]
  ·rw[OO (by simp at c ⊢;omega),OO (by omega)];rfl
def pL(ops:NJ PE)(n:NA):(cK ops n).size=ops.size:=by
 simp[cK];omega
def AK(ops:NJ PE)(n:NA)(e:RQ):∀(c t:NA) (listed:NJ OI) (d:Nu NA),Pd e (cK ops n) c t listed d=Pd e ops c t listed d:=by
 intro c;have h:∀listed,Oe e (cK ops n) listed=Oe e ops listed:=λlisted=>by
  unfold Oe;rw[pL]
  congr 1
  funext i
  rw[mO];cases ops[i]? with
  | none=>rfl
  | some o=>simp only[Pp];split<;>rfl
 induction c with
 | zero=>intro t listed d;rfl
 | succ c g=>
  intro t listed d;simp only[Pd];change (match (Oe e (cK ops n) listed)[t % (Oe e (cK ops n) listed).length]? with
   | some i=>Pd e (cK ops n) c (t / (Oe e (cK ops n) listed).length) (listed.setIfInBounds i NB) (i::d)
   | none=>d.reverse)=(match (Oe e ops listed)[t % (Oe e ops listed).length]? with
   | some i=>Pd e ops c (t / (Oe e ops listed).length) (listed.setIfInBounds i NB) (i::d)
   | none=>d.reverse)
  rw[h];cases(Oe e ops listed)[t % (Oe e ops listed).length]? with
  | none=>rfl
  | some i=>exact g _ _ _
def yp{Q:NR}{ops:NJ PE}{n:NA}{K:QF->Nt->Prop}(hB:chainB ops n=NB)(R:Nu NA)(s:∀i∈R,n<=i/\i<ops.size):∀(L:Nu NA) (a:QF) (w:Nt),(∀i∈L,i<n)->YL Q (cK ops n) (zG K) (L++R) a w->YL Q ops (zG K) L a w:=by
 have d:∀(R:Nu NA),(∀i∈R,n<=i/\i<ops.size)->∀(a:QF) (w:Nt),YL Q (cK ops n) (zG K) R a w->YL Q ops (zG K) [] a w:=by
  intro R;induction R with
  | nil=>exact λ_ _ _ h=>h
  | cons i R t=>
   intro s a w h;rw[Zb] at h;have⟨B,z⟩:=s i (by simp);unfold wpOp at h;rw[mO,Om z] at h;simp only[Pp,if_neg (show ¬ i<n by omega)] at h;have u:Oy (eD ops[i]) (PH (cK ops n) a.tmps)=NB:=by simp[Oy,eD]
   rw[if_pos u] at h;rcases h with h | ⟨_,l⟩
   ·unfold Oper.wp at h;have:(QN a.eval (eD ops[i])).run Q w=.ok (.value (.bool NB)) w:=rfl;rw[this] at h;simp only[Oper.upon,eD] at h;exact t (λj r=>s j (by simp[r])) _ _ h
   ·exact absurd l rv
 intro L;induction L with
 | nil=>exact λa w _ h=>d R s a w h
 | cons i L t=>
  intro a w q h;rw[Oa,Zb] at h;rw[Zb];have v:=q i (by simp);have e:∀j,j<n->(cK ops n)[j]?=ops[j]?:=λj r=>by rw[mO];cases ops[j]?<;>simp[r]
  have c:=wpOp_mono (λA x y=>t A x (λj r=>q j (by simp[r])) y) h;unfold wpOp at c ⊢;rw[e i v] at c;cases ho:ops[i]? with
  | none=>rw[ho] at c;exact c
  | some o=>
   rw[ho] at c;dsimp only at c ⊢;have u:Oy o (PH (cK ops n) a.tmps)=Oy o (PH ops a.tmps):=by
    unfold Oy;cases hg:o.guard with
    | none=>rfl
    | some p=>
     obtain⟨g,b⟩:=p;have:=(sx hB ho).2.2 v g b hg;simp only[PH,e g (by omega)]
   rw[u] at c;exact c
section
variable[JunkSet]{Q P:NR}{f:Pl}{Post:Ny->Nt->Prop}{W:Nt}
variable{b:NS}{a:QF}{k:Nu Si}{cs:Nu NS}{wq:Nt}
def EL.region_chain(D:Two Q P)(x:Bot f cs)(w:Q.funcs[b.fn]?=P.funcs[b.fn]?){id:NA}{ops:NJ PE}(n:NA)(c:Nu NA)(hm:Q.follows .mixedOrders=NB)(hB:chainB ops n=NB)(r:decide (n<ops.size)=NB)(d:decide (c=Vq n (ops.size - n))=NB)(h:∀T,wpAny Q .any (cK ops n) (zG λt l=>EL Q P f Post W (G (b.at t (.inRegion ops c::k)) cs) l) (cK ops n).size (OY (cK ops n).size NC) a { wq.tp T with drawn:=wq.drawn+1 }) :EL Q P f Post W (G (b.at a (.code (.region id ops NB)::k)) cs) wq:=by
 refine EL.of_runs D λT=>?_;have r:=of_decide_eq_true r;have d:=of_decide_eq_true d;have p:=pL ops n;have g:∀k:NA,(OY ops.size NC)[k]?.getD NC=NC:=λk=>by
  simp only[Array.getElem?_replicate];split<;>rfl
 have⟨L,u,s⟩:=DG hB r ops.size ((wq.tp T).tape (wq.tp T).drawn (.order b.fn id)) (OY ops.size NC) (by simp) (λi o _ j=>by rw[g] at j;cases j) (λk _=>g k) (by
   unfold unl;refine NM (PS _ _) (by simp))
 have v:=wpAny_sound _ ((wq.tp T).tape (wq.tp T).drawn (.order b.fn id)) _ _ _ (h T);rw[AK,p,u,<- d] at v;have z:=yp hB c (λi j=>by
  rw[d] at j;have:=List.mem_range'.1 j;omega) L _ _ s v
 have⟨t,l,y,q⟩:=BJ c L a _ z b k cs;refine⟨b.at t (.inRegion ops c::k),cs,l,.head (step_region_draw) ?_,x,w,y⟩;have e:Uq (Q.follows .mixedOrders) ops ((wq.tp T).tape (wq.tp T).drawn (.order b.fn id))=L++c:=by
  simp only[Uq,hm,ZF,if_true];show Pd .any ops ops.size _ _ []=_;rw[u,d]
 rw[e];exact q
end
end
section
open Go.Conc Go.ConcN Go.Sim
section
variable[JunkSet]
def rE(Z:Ren)(y:Ny):∃x,VR Z x y/\∀k n,y=.int k n->x=y:=by
 cases y with
 | bool b=>exact⟨_,.bool b,λk n e=>by cases e⟩
 | int k n=>exact⟨_,.int k n,λ_ _ _=>rfl⟩
 | string s=>exact⟨_,.string s,λk n e=>by cases e⟩
 | tuple a=>
  have h:∀i:Fin a.size,∃x,VR Z x a[i]:=λi=>let ⟨x,h,_⟩:=rE Z a[i];⟨x,h⟩;refine⟨.tuple (XT λi=>QY (h i)),.tuple (by simp) λi x y g d=>?_,λk n e=>by cases e⟩;have⟨p,o⟩:=Nz.1 g;have⟨j,l⟩:=Nz.1 d;rw[<- o,<- l,SO];exact Ry (h ⟨i,j⟩)
 | agg a=>
  have h:∀i:Fin a.size,∃x,VR Z x a[i]:=λi=>let ⟨x,h,_⟩:=rE Z a[i];⟨x,h⟩;refine⟨.agg (XT λi=>QY (h i)),.agg (by simp) λi x y g d=>?_,λk n e=>by cases e⟩;have⟨p,o⟩:=Nz.1 g;have⟨j,l⟩:=Nz.1 d;rw[<- o,<- l,SO];exact Ry (h ⟨i,j⟩)
 | pointer a=>
  cases a with
  | none=>exact⟨_,.ptrNil,λk n e=>by cases e⟩
  | some a=>exact⟨_,.wild _ rfl,λk n e=>by cases e⟩
 | slice a n c=>
  cases a with
  | none=>exact⟨_,.sliceNil n c,λk n e=>by cases e⟩
  | some a=>exact⟨_,.wild _ rfl,λk n e=>by cases e⟩
 | map r=>
  cases r with
  | none=>exact⟨_,.mapNil,λk n e=>by cases e⟩
  | some a=>exact⟨_,.wild _ rfl,λk n e=>by cases e⟩
 | func f a c=>
  cases f with
  | method n=>exact⟨_,.meth n a c,λk n e=>by cases e⟩
  | _=>exact⟨_,.wild _ rfl,λk n e=>by cases e⟩
 | nilFunc=>exact⟨_,.nilFunc,λk n e=>by cases e⟩
 | nilIface=>exact⟨_,.nilIface,λk n e=>by cases e⟩
 | _=>exact⟨_,.wild _ rfl,λk n e=>by cases e⟩
termination_by SizeOf.sizeOf y
decreasing_by
 all_goals
  subst_vars
  have:=Array.sizeOf_get a i.1 i.2;simp only[Value.agg.sizeOf_spec,Value.tuple.sizeOf_spec];have e:a[i]=a[i.1]:=rfl;rw[e];omega
noncomputable def kz(Z:Ren)(a:NJ Ny):NJ Ny:=XT λi:Fin a.size=>QY (rE Z a[i])
def Dy(Z:Ren)(a:NJ Ny):AsR Z (kz Z a) a:=by
 refine⟨by simp[kz],λi x y c b=>?_⟩;have⟨h,e⟩:=Nz.1 c;have⟨g,d⟩:=Nz.1 b;rw[<- e,<- d];simp only[kz,SO];exact(Ry (rE Z a[i])).1
def uH(Z:Ren)(a:NJ Ny){i:NA}{k:IntKind}{n:NH}(h:a[i]?=Nq (.int k n)):(kz Z a)[i]?=Nq (.int k n):=by
 have⟨c,b⟩:=Nz.1 h;have d:i<(kz Z a).size:=by simp[kz,c]
 rw[Om d];simp only[kz,SO];have:=(Ry (rE Z a[i])).2 k n b;exact congrArg Nq (this.trans b)
def pY(a:NA->OI)(n:NA):Ren:=(Oo n).map λi=>if a i then Nq i else Ns
def kj{b:NA->OI}{n i j:NA}:BR (pY b n) i j↔i<n/\b i=NB/\j=i:=by
 unfold BR pY;rw[Pa];by_cases h:i<n
 ·rw[Ra h,Pp];by_cases a:b i=NB
  ·rw[if_pos a];exact⟨λe=>⟨h,a,by cases e;rfl⟩,λ⟨_,_,e⟩=>by rw[e]⟩
  ·rw[if_neg a];exact⟨λe=>(by cases e),λ⟨_,c,_⟩=>absurd c a⟩
 ·rw[OO (by rw[VU];omega)];exact⟨λe=>(by cases e),λ⟨d,_,_⟩=>absurd d h⟩
noncomputable def Mn(Z:Ren):Obj->Obj
 | .cells a e f=>.cells (kz Z a) e (0,a.size+f.2)
 | _=>.cells #[] 0 (0,0)
noncomputable def lh(a:NA->OI)(W:Nt):Nt :=
 { W with heap:=XT λi:Fin W.heap.size=>if a i then Mn (pY a W.heap.size) W.heap[i] else .cells #[] 0 (0,0) }
def dC(a:NA->OI)(W:Nt):(lh a W).heap.size=W.heap.size:=by simp[lh]
def jl{kn:NA->OI}{W:Nt}{i:NA}{a:NJ Ny}{e:NZ}{f:NA × NA}(b:kn i=NB)(h:W.heap[i]?=Nq (.cells a e f)) :(lh kn W).heap[i]?=Nq (.cells (kz (pY kn W.heap.size) a) e (0,a.size+f.2)):=by
 have⟨d,g⟩:=Nz.1 h;have c:i<(lh kn W).heap.size:=by rw[dC];exact d
 rw[Om c];simp only[lh,SO,b,if_true,Fin.getElem_fin];rw[g];rfl
def uJ{a:NA->OI}{W:Nt}{i:NA}{o:Obj}(b:¬ a i=NB)(h:(lh a W).heap[i]?=Nq o):o=.cells #[] 0 (0,0):=by
 have⟨d,c⟩:=Nz.1 h;rw[<- c];simp only[lh,SO];rw[if_neg b]
def Gq(Q:NR)(l:∀i,¬ JunkSet.jk i){c:NA->OI}{W:Nt}(d:∀i,c i=NB->i<W.heap.size->∃k e f,W.heap[i]?=Nq (.cells k e f)) :WR Q W.heap.size (pY c W.heap.size) (lh c W) W where
 len:=by rw[dC];simp[pY]
 nodup i i' j h h':=by
  have⟨_,_,e⟩:=kj.1 h;have⟨_,_,q⟩:=kj.1 h';omega
 lt i j h:=by
  have⟨n,_,e⟩:=kj.1 h;omega
 obj i j o h a:=by
  obtain⟨n,b,rfl⟩:=kj.1 h;have⟨k,e,f,g⟩:=d j b n;rw[jl b g] at a;cases a;refine .inr ⟨l j,_,g,.cells e (Dy _ _) λo n p=>?_⟩;simp only;omega
 low i hi:=by
  by_cases b:c i=NB
  ·have⟨k,e,f,g⟩:=d i b hi;refine⟨_,_,_,jl b g,λo a=>?_⟩;have:(kz (pY c W.heap.size) k).size=k.size:=by simp[kz]
   simp only;omega
  ·have p:i<(lh c W).heap.size:=by rw[dC];exact hi
   have:=uJ b (Om p);refine⟨#[],0,(0,0),by rw[Om p,this],λo a=>?_⟩;simp at a
 env:=rfl
 below i h:=absurd h (l i)
 gar i o a:=by
  right;by_cases b:c i=NB
  ·have n:i<W.heap.size:=by rw[<- dC c W];exact(Nz.1 a).1
   have⟨k,e,f,g⟩:=d i b n;rw[jl b g] at a;cases a;rfl
  ·rw[uJ b a];rfl
end
section
variable[J:JunkSet]{Q P:NR}{f:Pl}{Post:Ny->Nt->Prop}
def EL.begin(D:Two Q P)(a:JunkSet.okf f)(n:Q.funcs[f]?=P.funcs[f]?)(c:∀i,¬ JunkSet.jk i){kn:NA->OI}{W:Nt}(r:P.globals.size<W.heap.size)(g:∀i,i<=P.globals.size->kn i=NB)(b:∀i,kn i=NB->i<W.heap.size->∃q e f,W.heap[i]?=Nq (.cells q e f)){aq k:NJ Ny}(p:AsR (pY kn W.heap.size) aq k)(h:EL Q P f Post W (G (OT Q f aq .normal) [ay f]) (lh kn W)):Ends P Post (solo (G (OT P f k .normal) []) W) #[]:=by
 refine E.solo (cl:=λ_=>.mine 0) ?_ λ_=>rfl;have o:W.heap.size<=(pY kn W.heap.size).length:=by simp[pY]
 refine h (pY kn W.heap.size) _ W (λ_=>.mine 0) ⟨Gq Q c b,o,λi l=>kj.2 ⟨by omega,g i l,rfl⟩,⟨[],rfl⟩,eP P f k [ay f],sf D.H a n p,rfl⟩ (λi j _=>rfl) (λ_ _=>rfl)
  ⟨λ_ _ _=>rfl,rfl,rfl,Nv _,λi j d l=>?_,Nv _⟩ λ_ _=>rfl
 have⟨s,_,_⟩:=kj.1 d;omega
def zV{a:NS}{g:NF}{i:Func}{v:Ny}{w:Nt}(c:g.frame=a)(e:g.callers=[])(b:g.status=.running)(d:g.dying=Ns)(h:P.inits.idxOf? a.fn=Ns)(hm:a.mode=.returning)(l:a.kind=.normal)(p:a.defers=[])(n:P.funcs[a.fn]?=Nq i)(k:(Qo i a.tmps).run P w=.ok v w)(o:(Qo i a.tmps).events P w #[]=#[]) :Pj P NB g w=.ended (.done v) w #[]:=by
 obtain⟨q,t,r,s,j⟩:=g;dsimp only at c e b d;subst c e b d;simp[Pj,SS,Qg,l,p,n,k,o,hm,Wa,Pm,h]
def EL.last{W:Nt}{b:NS}{a:QF}{l:Nu Si}{F:Func}{t:NA}{r:OI}{u:Nt}(s:P.inits.idxOf? b.fn=Ns)(S:b.kind=.normal)(hd:a.defers=[])(Y:P.funcs[b.fn]?=Nq F)(C:F.results=#[.tmp t])(R:a.tmps.getD t NG=.bool r)(k:∀w,(∀j,j<W.heap.size->w.heap[j]?=W.heap[j]?)->w.os=W.os->w.output=W.output->W.heap.size<=w.heap.size->Post (.bool r) w) :EL Q P f Post W (G { b.at a l with mode:=.returning } [ay f]) u:=by
 intro Z g' w cl ⟨hw,T,X,_,gv,o,e⟩ ho hc n hm;subst e;have x:=o.callers;obtain⟨fr,cs,N,dy,O⟩:=gv;have q:N=.running:=o.st';have v:dy=Ns:=o.dy';subst q v;cases x with
 | cons p y=>
  cases y;have c:=o.frame;have M:=c.fn;have L:=c.kind;have I:=c.tmps;have A:=c.defers;have H:=c.mode;obtain⟨a9,g,td,b6,mode,B,ro⟩:=fr;simp only[Frame.at,G] at M L I A H;rw[hd] at A;cases A;cases H;subst M;subst L;have p:=I.getD t (gR Z);rw[R] at p;have y:g.getD t NG=.bool r:=by
   generalize g.getD t NG=z at p;cases p;rfl
  refine E.done rfl λd=>⟨.bool r,w.at d,#[],?_,by simp,?_⟩
  ·exact zV rfl rfl rfl rfl s rfl S rfl Y (by rw[UE C _ P _];exact congrArg (λz=>Result.ok z (w.at d)) y) (Uy C _ _)
  ·exact k _ (λj U=>n.old j U λi V=>Wj λh=>by
    have h3:=n.inn i j V h;omega) n.os n.output n.size
end
end
end Go.Co
