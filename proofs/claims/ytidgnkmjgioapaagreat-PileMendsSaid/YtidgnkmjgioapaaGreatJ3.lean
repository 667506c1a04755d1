/-
  Part 6 of the proof. gladstonelaw04.PileMends answers true for every yard, parcel, pile, number and list of numbers that the statement takes, and leaves its arguments as they were. No conditions.
-/
import Derived.Test.YtidgnkmjgioapaaGreatJ2
import Derived.Maps.AppendAt
import Derived.Test.YtidgnkmjgioapaaGreatRows
import Derived.Conc.LeavingOf
import Derived.Conc.HoldsTime
import Derived.ChangeSame
import Derived.ChangeVars
import Derived.JoinedOf
import Derived.RowKit
import Derived.RowKitTokens
import Derived.LaidHandle
import Derived.ProofKit
set_option maxRecDepth 100000
set_option maxHeartbeats 8000000
set_option linter.all false
open And renaming intro->NY
open Array renaming getElem?_eq_some_iff->Nz,getElem?_map->Uv,range->Se,replicate_succ->Oj,replicate_zero->Ol
open Bool renaming and_eq_true->Of,eq_false_iff->So,true_and->TK,false->NC,true->NB
open Classical renaming byContradiction->OK,em->Tx
open Go renaming Act->QF,Addr->OX,Calls->Oz,Exit->Ux,Oper->PE,Operand->OQ,Program->NR,TypeId->NZ,TypeInfo->Sd,Value->Ny,World->Nt,execOp->QN,heap_alloc_new->NL,info_parts->PM,maxLen->Rh,run_underlying->TZ,sizeOf->UI,storeCells->Us,typeInfo->RV,wpList_append_own->Rv,yielded->PH
open Go.Builtin renaming append_->Rj,firstCells->Uu,lenOf->VX
open Go.Conc renaming base->Oq,run_call_body->TI
open Go.Frame renaming enter->OT,finish_at->Qw
open Go.IntWalk renaming i64_in->Ov
open Go.Lib renaming hid->Np
open Go.Proofs.Tryz renaming f9->VF,func9->VP,ntmps132->Zy,ntmps148->Zz,ntmps55->ZW,ntmps56->WK,ntmps57->ZV,prog->NV
open Go.Region renaming wanted->Oy
open Go.Result renaming andThen_ok->PC
open Go.RowKit renaming intOf->OP
open Go.Sem renaming run_bind->PF,run_pure->SZ
open Go.Value renaming int->Og,oneCell'->PT,ownBlock->OG,slice->OS
open Go.World renaming grownBy_alloc->Nr,news_of_block->Pt,ownsRow_nil->PX,size_alloc->NW
open Go.World.grownBy renaming andThen->Qy,refl->NN
open List renaming all_eq_true->OF,append_assoc->Qv,append_nil->SV,cons_append->Oa,countP_le_length->WX,drop_eq_getElem_cons->QA,drop_succ_cons->Oi,drop_zero->OH,eq_nil_of_length_eq_zero->OZ,ext_getElem->Wm,ext_getElem?->RO,filter_append->SP,find?_eq_none->Sa,flatMap_cons->Qx,foldl_append->US,foldl_cons->PN,getElem?_append_left->Ot,getElem?_append_right->Pq,getElem?_drop->RZ,getElem?_eq_getElem->ND,getElem?_eq_none->OO,getElem?_eq_some_iff->NT,getElem?_map->Pa,getElem?_range->Ra,getElem_inj->YI,getElem_mem->RL,length_append->Pi,length_cons->NQ,length_erase_of_mem->Ti,length_filter_le->PS,length_map->Ql,length_nil->NU,length_pos_iff->Ru,length_range->VU,length_take->Qt,map_append->Qm,map_cons->Qj,map_nil->Sx,map_toArray->SH,mem_append->Qb,mem_cons->ON,mem_filter->RS,mem_flatMap->Sc,mem_iff_getElem->Sj,mem_map->Qp,mem_map_of_mem->VC,mem_of_getElem?->Od,mem_range->Py,mem_singleton->Pk,nil_append->On,pairwise_append->Sn,pairwise_cons->TA,pairwise_iff_getElem->Rq,perm_append_comm->TP,perm_cons_erase->Xk,perm_middle->YH,push_toArray->Ow,range->Oo,range_succ->RF,set_append_left->Vt,size_toArray->Ox,takeWhile_append_dropWhile->UW,take_add_one->OR,take_length->Ps
open List.range renaming loop->Pf
open Nat renaming add_assoc->TF,add_mul->TY,le_of_eq->Sv,le_refl->Nv,le_trans->NM,lt_of_lt_of_le->NX,mul_le_mul->UT,reduceAdd->Oh,reduceSub->OV,zero_add->Oc,zero_le->OE
open Option renaming getD_some->NK,map_some->Pp,none->Ns,some->Nq
open Option.some renaming injEq->OM
open _root_ renaming Array->NJ,Bool->OI,False->RI,Int->NH,List->Nu,Nat->NA,Option->NO
namespace Go.Proofs.YtidgnkmjgioapaaGreat
section
open Go.RowKit
def MA{a:Nu Par}{l:Nu NH}(c:∀x∈l,0<=x/\x<a.length):∀x∈l,0<=x/\(dP a)[x.toNat]?=Nq (pre Par.mn a a.length x.toNat,pre Par.mx a a.length x.toNat):=λx h=>by
 have d:=c x h;refine⟨d.1,?_⟩;have b:x.toNat<a.length:=by omega
 unfold dP;rw[Pa];unfold pre;rw[if_pos b,if_pos b,ND b];rfl
def zt{a:Nu Par}{d:NH}{l:Nu NH}{i:NA}{p:Par}(e:YOk a d)(f:a[(l[i]?.getD 0).toNat]?=Nq p) :(p.bears<loadAt (pre Par.mn a a.length) l i/\cD a (pre Par.mn a a.length) (pre Par.mx a a.length) l i=1) \/(¬ p.bears<loadAt (pre Par.mn a a.length) l i/\loadAt (pre Par.mx a a.length) l i<=p.bears/\cD a (pre Par.mn a a.length) (pre Par.mx a a.length) l i=2) \/(¬ p.bears<loadAt (pre Par.mn a a.length) l i/\¬ loadAt (pre Par.mx a a.length) l i<=p.bears/\cD a (pre Par.mn a a.length) (pre Par.mx a a.length) l i=3):=by
 have hm:=pH e.le l i;unfold cD fL;rw[f];simp only;by_cases b:loadAt (pre Par.mx a a.length) l i<=p.bears
 ·have c:loadAt (pre Par.mn a a.length) l i<=p.bears:=by omega
  exact .inr (.inl ⟨by omega,b,by rw[decide_eq_true b,decide_eq_true c];rfl⟩)
 ·by_cases c:loadAt (pre Par.mn a a.length) l i<=p.bears
  ·exact .inr (.inr ⟨by omega,b,by rw[decide_eq_false b,decide_eq_true c];rfl⟩)
  ·exact .inl ⟨by omega,by rw[decide_eq_false b,decide_eq_false c];rfl⟩
def mU{a W:Nt}(h:a.gb W Ns)(b:NZ)(c:NJ Ny):a.gb (W.alloc (.cells c b)) Ns/\(W.alloc (.cells c b)).heap[W.heap.size]?=Nq (.cells c b (0,0))/\a.heap.size<=W.heap.size:=⟨h.t (Nr _ _ Ns),NL _ _,h.size⟩
def Mc{c W:Nt}{D:NA}{a b u v:Ny}{d:NZ}(h:c.gb W Ns)(g:W.heap[D]?=Nq (.cells #[a,b] d (0,0)))(f:c.heap.size<=D):c.gb ((W.setCell D u).setCell ⟨D,1,Ns⟩ v) Ns/\((W.setCell D u).setCell ⟨D,1,Ns⟩ v).heap[D]?=Nq (.cells #[u,v] d (0,0)) :=
 ⟨h.andThen ((an W D 0 u).t (an _ D 1 v)) (by rintro j e;cases e;exact .inl f),ar (o:=1) (v:=v) (ar (o:=0) (v:=u) g)⟩
def wN(la ha lb hb lc hc:NA)(pv qv bv:Ny)(d:Nu Par)(G:NH)(l:Nu NH)(i:NA)(w:Nt)(hP:bH la ha w pv d)(hI:aS lb hb w qv l)(hB:aV lc hc w bv (dP d))(S:YOk d G)(hx:∀x∈l,0<=x/\x<d.length)(hl:l.length<=1000)(N:i<l.length) :Oz Ya 130 #[.agg #[pv,G],qv,bv,i] w λe w'=>e=.returned (.int .i64 (cD d (pre Par.mn d d.length) (pre Par.mx d d.length) l i))/\w.gb w' Ns:=by
 obtain⟨yb,U,rfl,h8,O⟩:=hP.cell;obtain⟨base,l4,rfl,k5,P⟩:=hI.cell;obtain⟨x,B⟩:∃x,l[i]?=Nq x:=⟨_,ND N⟩;have h9:=hx x (Od B);obtain⟨m,rfl⟩:∃m:NA,x=m:=⟨x.toNat,by omega⟩;have hm:m<d.length:=by omega
 obtain⟨R,I,rfl,-,-,-,h4⟩:=O (by intro e;rw[e] at hm;simp at hm);obtain⟨p,M,-,-,Z,-⟩:=h4 m hm;obtain⟨LB,lo,rfl,-,-,-,h5⟩:=P (by intro e;rw[e] at N;simp at N);have T:=h5 i N;rw[B] at T;simp only[NK] at T;have C:=zt (i:=i) (l:=l) S (p:=p) (by rw[B];simpa using M);have⟨A,q,hA,L,r,Q⟩:=bI w (.cells #[.slice (Nq ⟨R,I,Ns⟩) d.length U,G] 24);have y:=Np λ(W:Nt) (h:q.gb W Ns)=>DD lb hb lc hc _ _ l (dP d) _ _ i W (hI.kept (r.t h)) (hB.kept (r.t h)) (MA hx) S.mn S.mx hl N;generalize loadAt (pre Par.mn d d.length) l i=a at C y;generalize loadAt (pre Par.mx d d.length) l i=b at C y;generalize cD d (pre Par.mn d d.length) (pre Par.mx d d.length) l i=z at C ⊢;generalize p.bears=c at C Z;have k:=Np (show ∀W,q.gb W Ns->W.cell? A=Nq (.slice (Nq ⟨R,I,Ns⟩) d.length U)/\W.cell? ⟨LB,lo+i,Ns⟩=Nq (.int .i64 m)/\W.cell? ⟨R,I+m*4+2,Ns⟩=Nq (.int .i64 c) from λW h=>⟨aa (bk h Q) rfl,(r.t h).cl T,(r.t h).cl Z⟩);have k7:(i:NH)<(l.length:NH):=by omega
 have k0:(m:NH)<(d.length:NH):=by omega
 have⟨H3,b6,HA,b8⟩:=cJ C L hA r;clear hP hI hB O P h4 h5 T Z B M C L hA r Q hx S;go_enter Tp.x130,Tryz.ntmps130;go_upto_region 1 with(fail);rw[<- HA,<- b6];go_cut [9,10] from 11 to 34 (λv9 V wx=>∃D,v9=.pointer (Nq ⟨D,0,Ns⟩)/\V=.int .i64 c/\q.gb wx Ns/\wx.heap[D]?=Nq (.cells #[a,b] 26 (0,0)))
 case first=>
  have f:=Np (ai q Ns);refine aI 15 (λW=>W.cell? A=Nq (.slice (Nq ⟨R,I,Ns⟩) d.length U)/\W.cell? ⟨LB,lo+i,Ns⟩=Nq (.int .i64 m)/\W.cell? ⟨R,I+m*4+2,Ns⟩=Nq (.int .i64 c)) (by kernel_rfl) (by kernel_rfl) (k _ f) (λhHeld=>?_);simp only[NQ,NU,Oh,OV,Oc,Oj,Ol,Ow,On,Oa];refine tk 0 (h:=tk 1 (h:=tk 2 (h:=tk 4 (h:=tk 5 (h:=tk 6 (h:=tk 7 (h:=tk 8 (h:=tk 9 (h:=tk 10 (h:=tk 11 (h:=tk 12 (h:=?_))))))))))));try go_frame
  refine rdy [3,13] ?_;refine cns 3 (λK s=>?_) ?_
  ·skip;go_simp;go_at_call 105;refine(y _ f).mono ?_;rintro e F ⟨rfl,n⟩;replace f:=Np (f.t n)
   (try replace j:=Np (bk n j))
   clear n;refine s.out _ _ (k _ f) (λhHeld=>?_);refine rdc 13 λK s=>?_;go_simp;have g:=Np (show q.gb (F.alloc (.cells #[.int .i64 0,.int .i64 0] 26)) Ns/\(F.alloc (.cells #[.int .i64 0,.int .i64 0] 26)).heap[F.heap.size]?=Nq (.cells #[.int .i64 0,.int .i64 0] 26 (0,0))/\q.heap.size<=F.heap.size from mU f 26 _);generalize F.alloc (.cells #[.int .i64 0,.int .i64 0] 26)=WN at g ⊢;generalize F.heap.size=D at g ⊢;replace f:=Np g.1;have j:=Np g.2.1;have H:=Np g.2.2;clear g;refine s.out _ _ (k _ f) (λhHeld=>?_);refine rdc 14 λK s=>?_;have Y:=aA j (o:=0);have X:=aA j (o:=1);have c0:=aa j (o:=0) rfl;have c1:=aa j (o:=1) rfl;go_simp;have g:=Np (Mc (u:=.int .i64 a) (v:=.int .i64 b) f j H);replace f:=Np g.1;replace j:=Np g.2;clear Y X c0 c1 g;refine s.out _ _ (k _ f) (λhHeld=>?_);try go_frame
   refine⟨by kernel_rfl,?_⟩;simp only[Oi,OH];go_wp2;go_meet;exact⟨_,rfl,rfl,f,j⟩
  refine cns 13 (λK s=>?_) ?_
  ·skip;go_simp;have g:=Np (show q.gb ((q.alloc (.cells #[.int .i64 0,.int .i64 0] 26)).drew) Ns/\((q.alloc (.cells #[.int .i64 0,.int .i64 0] 26)).drew).heap[q.heap.size]?=Nq (.cells #[.int .i64 0,.int .i64 0] 26 (0,0))/\q.heap.size<=q.heap.size from mU f 26 _);generalize (q.alloc (.cells #[.int .i64 0,.int .i64 0] 26)).drew=WN at g ⊢;replace f:=Np g.1;have j:=Np g.2.1;have H:=Np g.2.2;clear g;refine s.out _ _ (k _ f) (λhHeld=>?_);refine rdc 3 λK s=>?_;go_simp;go_at_call 105;refine(y _ f).mono ?_;rintro e F ⟨rfl,n⟩;replace f:=Np (f.t n)
   (try replace j:=Np (bk n j))
   clear n;refine s.out _ _ (k _ f) (λhHeld=>?_);refine rdc 14 λK s=>?_;have Y:=aA j (o:=0);have X:=aA j (o:=1);have c0:=aa j (o:=0) rfl;have c1:=aa j (o:=1) rfl;go_simp;have g:=Np (Mc (u:=.int .i64 a) (v:=.int .i64 b) f j H);replace f:=Np g.1;replace j:=Np g.2;clear Y X c0 c1 g;refine s.out _ _ (k _ f) (λhHeld=>?_);try go_frame
   refine⟨by kernel_rfl,?_⟩;simp only[Oi,OH];go_wp2;go_meet;exact⟨_,rfl,rfl,f,j⟩
  exact bf.nil
 case rest=>
  obtain⟨D,rfl,rfl,hg,hD⟩:=hcut;have z0:=aa hD (o:=0) rfl;have z1:=aa hD (o:=1) rfl;have b7:=Np (b8.t hg);have C:=H3.out;clear hg hD H3 k y;rcases C with⟨e1,rfl⟩ | ⟨e1,e2,rfl⟩ | ⟨e1,e2,rfl⟩;all_goals
   go_wp2;go_ret;exact⟨rfl,b7⟩
def CQ{a:Nu Par}{d:NH}(g:YOk a d){l:Nu NH}{k:NA}(q:∀j,j<k->cD a (pre Par.mn a a.length) (pre Par.mx a a.length) l j≠1) :((∀j,j<k->cD a (pre Par.mn a a.length) (pre Par.mx a a.length) l j=2)->k=l.length->di a l=1)/\((∃j,j<k/\cD a (pre Par.mn a a.length) (pre Par.mx a a.length) l j=3)->k=l.length->di a l=3):=by
 have f:∀j,cD a (pre Par.mn a a.length) (pre Par.mx a a.length) l j=xk (!fL a (pre Par.mn a a.length) l j) (!fL a (pre Par.mx a a.length) l j):=λj=>rfl;have hm:∀j,fL a (pre Par.mx a a.length) l j=NB->fL a (pre Par.mn a a.length) l j=NB:=λj h=>uy g.le h;refine⟨λc e=>?_,λ⟨j,i,c⟩ e=>?_⟩
 ·have b:aC a (pre Par.mx a a.length) l=NB:=fe.2 λj i=>by
   have:=c j (by omega);rw[f] at this;revert this;cases fL a (pre Par.mn a a.length) l j<;>cases fL a (pre Par.mx a a.length) l j<;>decide
  unfold di;rw[b,jG g.le b];rfl
 ·have o:aC a (pre Par.mn a a.length) l=NB:=fe.2 λj i=>by
   have:=q j (by omega);rw[f] at this;have p:=hm j;revert this p;cases fL a (pre Par.mn a a.length) l j<;>cases fL a (pre Par.mx a a.length) l j<;>decide
  have b:aC a (pre Par.mx a a.length) l=NC:=by
   refine So.2 λh=>?_;have n:=fe.1 h j (by omega);rw[f,n,hm j n] at c;exact absurd c (by decide)
  unfold di;rw[b,o];rfl
def zW{a:Nu Par}{c:NH}(e:YOk a c){l:Nu NH}{k:NA}(g:k<l.length)(b:cD a (pre Par.mn a a.length) (pre Par.mx a a.length) l k=1):di a l=2:=by
 have d:aC a (pre Par.mn a a.length) l=NC:=by
  refine So.2 λh=>?_;have i:=fe.1 h k g;have b:xk (!fL a (pre Par.mn a a.length) l k) (!fL a (pre Par.mx a a.length) l k)=1:=b;rw[i] at b;revert b;cases fL a (pre Par.mx a a.length) l k<;>decide
 have f:aC a (pre Par.mx a a.length) l=NC:=So.2 λh=>by rw[jG e.le h] at d;cases d
 unfold di;rw[f,d];rfl
def Ek(a:Nu Par)(b gx:NA->NH)(l:Nu NH)(k:NA):cD a b gx l k=1\/cD a b gx l k=2\/cD a b gx l k=3:=by
 unfold cD;cases fL a b l k<;>cases fL a gx l k<;>decide
def xL(la ha Z hb Y hc:NA)(V qv bv:Ny)(a:Nu Par)(g:NH)(l:Nu NH)(w:Nt)(Q:bH la ha w V a)(R:aS Z hb w qv l)(hB:aV Y hc w bv (dP a))(P:YOk a g)(hx:∀x∈l,0<=x/\x<a.length)(hl:l.length<=1000) :Oz Ya 131 #[.agg #[V,g],qv,bv] w λe w'=>e=.returned (.int .i64 (di a l))/\w.gb w' Ns:=by
 obtain⟨yb,yc,rfl,e6,-⟩:=Q.cell;obtain⟨base,g5,rfl,e7,-⟩:=R.cell;have⟨A,U,hA,C,d,s⟩:=bI w (.cells #[.slice yb a.length yc,g] 24);have q0:=aa s (o:=0) rfl;have q1:=aa s (o:=1) rfl;have H:=Np λ(W:Nt) (h:U.gb W Ns) (i:NA) (hi:i<l.length)=>wN la ha Z hb Y hc _ _ _ a g l i W (Q.kept (d.t h)) (R.kept (d.t h)) (hB.kept (d.t h)) P hx hl hi;have⟨HY,T,HA,v⟩:=cJ P C hA d;obtain⟨f,r⟩:∃f,f=cD a (pre Par.mn a a.length) (pre Par.mx a a.length) l:=⟨_,rfl⟩;rw[<- r] at H;have G:=Np r;clear Q R hB C hA d s hx P r;go_enter Tp.x131,Tryz.ntmps131;go_upto_region 1 with(fail);rw[<- HA,<- T];go_wp2;go_loopw [7,8] (λX N wr=>∃k:NA,N=.int .i64 k/\k<=l.length/\U.gb wr Ns/\(∀j,j<k->f j≠1)/\((X=.int .i64 1/\∀j,j<k->f j=2)\/(X=.int .i64 3/\∃j,j<k/\f j=3))) (λ_ N _=>(l.length - OP N).toNat)
 case atStart=>exact⟨0,rfl,by omega,NN _ _,λj h=>by omega,.inl ⟨rfl,λj h=>by omega⟩⟩
 case round=>
  obtain⟨k,rfl,hk,B,p,n⟩:=hrel;have M:=Np B;have e4:=B.cl q0;have d8:=B.cl q1;have HN:=Np p;by_cases D:k<l.length
  ·have a8:(k:NH)<(l.length:NH):=by omega
   have I:=Np (show f k=1\/f k=2\/f k=3 by rw[G];exact Ek _ _ _ _ _);have y:=Np (H wr B k D);have F:=Np (show f k=1->di a l=2 from λh=>zW HY D (by rw[<- G];exact h));obtain⟨z,O⟩:∃z,z=f k:=⟨_,rfl⟩;rw[<- O] at y I F;have⟨S,q⟩:=aQ O n;clear B p O n;rcases I with rfl | rfl | rfl
   ·rcases q with⟨rfl,b⟩ | ⟨rfl,b⟩;all_goals
     clear b;go_wp2_with (go_at_call 130;refine y.mono ?_;rintro e w3 ⟨rfl,c⟩;have u:=Np c;clear c);go_ret;exact⟨by rw[F (by first | rfl | trivial)];rfl,(v.t M).t u⟩
   all_goals
    rcases q with⟨rfl,b⟩ | ⟨rfl,b⟩;all_goals
     have L:=Np b;clear b;go_wp2_with (go_at_call 130;refine y.mono ?_;rintro e w3 ⟨rfl,c⟩;have u:=Np c;clear c);go_roundw
     case rel=>
      refine⟨k+1,by simp,by omega,M.t u,λj h=>?_,?_⟩
      ·by_cases e:j=k
       ·rw[e,<- S];decide
       ·exact HN j (by omega)
      ·first
        | exact .inl ⟨rfl,λj h=>by
          by_cases e:j=k
          ·rw[e,<- S]
          ·exact L j (by omega)⟩
        | exact .inr ⟨rfl,k,by omega,S.symm⟩
        | exact .inr ⟨rfl,let ⟨j,h1,b⟩:=L.out;⟨j,by omega,b⟩⟩
     case measure=>simp[OP];omega
  ·obtain rfl:k=l.length:=by omega
   have HS:=Np (CQ HY (by rw[<- G];exact p));have q:=Np n;clear B p n;rcases q with⟨rfl,b⟩ | ⟨rfl,b⟩;all_goals
    have L:=Np b;clear b;go_wp2;go_ret
   ·exact⟨by rw[HS.1 (by rw[<- G];exact L) (by first | rfl | trivial)];rfl,v.t M⟩
   ·exact⟨by rw[HS.2 (by rw[<- G];exact L) (by first | rfl | trivial)];rfl,v.t M⟩
def DX(o lb:NA)(Q qv:Ny)(b:Nu Par)(a:NH)(l:Nu NH)(w:Nt)(z:bH o w.heap.size w Q b)(I:aS o w.heap.size w qv l)(q:YOk b a)(M:∀x∈l,0<=x/\x<b.length)(S:l.length<=1000) :Oz Ya 132 #[.agg #[Q,a],qv] w λe Y=>e=.returned (.bool (bK b a l))/\w.gb Y Ns:=by
 obtain⟨H,G,rfl,Z,-⟩:=z.cell;obtain⟨base,a9,rfl,a7,-⟩:=I.cell;have⟨A,n,U,r,d,j⟩:=bI w (.cells #[.slice H b.length G,a] 24);have h5:=q.len;have s:∀p∈b,0<=p.tall/\p.tall<=1000:=λp hp=>by have:=q.each p hp;omega
 have k:=Np λ(W:Nt) (h:n.gb W Ns)=>tQ o w.heap.size _ _ b a l W (z.kept (d.t h)) (I.kept (d.t h)) M s S;have P:=Np λ(W:Nt) (h:n.gb W Ns)=>vm o w.heap.size _ b a W ⟨_,rfl,z.kept (d.t h)⟩ (by omega);have D:=Np λ(W:Nt) (h:n.gb W Ns) (R T:NA) (O:Ny) (hB:aV R T W O (dP b))=>xL o w.heap.size o w.heap.size R T _ _ O b a l W (z.kept (d.t h)) (I.kept (d.t h)) hB q M S;have g:=Np (show ∀W,n.gb W Ns->W.cell? A=Nq (.slice H b.length G)/\W.cell? ⟨A,1,Ns⟩=Nq (.int .i64 a) from λW h=>⟨aa (bk h j) rfl,aa (bk h j) rfl⟩);have L:=Np (show bK b a l=(decide (aN b l<=a) && (di b l == 1)) by
  unfold bK di;cases h:aC b (pre Par.mx b b.length) l
  ·cases aC b (pre Par.mn b b.length) l<;>simp[xk]
  ·rw[jG q.le h];rfl)
 have⟨C,V,F⟩:=bC r U d;clear z I r U d j M q s;generalize aN b l=t at k L;generalize di b l=v at D L;by_cases N:t<=a
 ·go_enter Tp.x132,Zy;go_upto_region 1 with(fail);rw[<- V,<- C];have c:=Np (ai n Ns);refine aI 11 (λW=>W.cell? A=Nq (.slice H b.length G)/\W.cell? ⟨A,1,Ns⟩=Nq (.int .i64 a)) (by kernel_rfl) (by kernel_rfl) (g _ c) (λhHeld=>?_);simp only[NQ,NU,Oh,OV,Oc,Oj,Ol,Ow,On,Oa];refine tk 0 (h:=tk 1 (h:=tk 3 (h:=tk 4 (h:=?_))));try go_frame
  refine rdc 2 λK B=>?_;go_simp;go_at_call 108;refine(k _ c).mono ?_;rintro e X ⟨rfl,f⟩;replace c:=Np (c.t f);clear f;refine B.out _ _ (g _ c) (λhHeld=>?_);refine tk 5 (h:=tk 6 (h:=tk 7 (h:=tk 8 (h:=tk 9 (h:=?_)))));try go_frame
  refine rdc 10 λK B=>?_;go_simp;go_at_call 89;refine(P _ c).mono ?_;rintro e w5 ⟨O,rfl,y,i⟩;replace c:=Np (c.t y);have HB:=Np i;obtain⟨bb,bc,rfl,-,-⟩:=i.cell;clear y i;refine B.out _ _ (g _ c) (λhHeld=>?_);try go_frame
  refine⟨by kernel_rfl,?_⟩;simp only[Oi,OH];have c0:=hHeld.1;have c1:=hHeld.2;clear hHeld;go_wp2_with (go_at_call 131;refine(D _ c _ _ _ HB).mono ?_;rintro e w6 ⟨rfl,u⟩;have G6:=Np u;clear u);go_ret;exact⟨by rw[L,decide_eq_true N];rfl,(F.t c).t G6⟩
 ·go_enter Tp.x132,Zy;go_upto_region 1 with(fail);rw[<- V,<- C];have c:=Np (ai n Ns);refine aI 11 (λW=>W.cell? A=Nq (.slice H b.length G)/\W.cell? ⟨A,1,Ns⟩=Nq (.int .i64 a)) (by kernel_rfl) (by kernel_rfl) (g _ c) (λhHeld=>?_);simp only[NQ,NU,Oh,OV,Oc,Oj,Ol,Ow,On,Oa];refine tk 0 (h:=tk 1 (h:=tk 3 (h:=tk 4 (h:=?_))));try go_frame
  refine rdc 2 λK B=>?_;go_simp;go_at_call 108;refine(k _ c).mono ?_;rintro e X ⟨rfl,f⟩;replace c:=Np (c.t f);clear f;refine B.out _ _ (g _ c) (λhHeld=>?_);refine tk 5 (h:=tk 6 (h:=tku 7 (h:=tku 8 (h:=tku 9 (h:=tku 10 (h:=?_))))));try go_frame
  refine⟨by kernel_rfl,?_⟩;simp only[Oi,OH];clear hHeld;go_wp2;go_ret;exact⟨by rw[L,decide_eq_false (by omega)];rfl,F.t c⟩


def Kj{f g:NA}{w:Nt}{d:OX}{c:NA}{l:Nu NH}(h:aS f g w (.slice (Nq d) l.length c) l):∀j u,(l.map (Og .i64))[j]?=Nq u->w.cell? (d.add j)=Nq u:=λj u a=>by
 obtain⟨_,_,e,-,i⟩:=h;cases e;rw[Pa] at a;cases hj:l[j]? with
 | none=>rw[hj] at a;cases a
 | some x=>
  rw[hj] at a;cases a;have b:=(NT.1 hj).1;obtain⟨B,o,e,-,-,-,k⟩:=i (by rintro rfl;simp at b);cases e;have:=k j b;rw[hj] at this;exact dU this
def kQ{d:NJ PE}{o:PE}{a:QF}{w:Nt}{K:QF->Nt->Prop}{Q:Ux->QF->Nt->Prop}{E:Prop}(s x:OQ){F I L g n:NA}{p:NO OX}{l:Nu NH}(C:aS F I w (.slice p l.length n) l)(B:w.heap[g]?=Nq (.cells #[] 3 (0,0)))(N:L<=g)(S:l.length<=1000)(h:∀r q k,k.ownsRow L 3 1 (.slice r l.length q) l.length (l.map (Og .i64))->w.gb k (Nq g)->K (a.put o.dst (.slice r l.length q)) k)(i:Oy o (PH d a.tmps)=NB:=by kernel_rfl)(ho:o.op=.call { callee:=.builtin .append,args:=#[s,x],argTypes:=#[29,29] }:=by rfl)(hs:a.eval s=.slice (Nq g) 0 0:=by rfl)(hx:a.eval x=.slice p l.length n:=by rfl) :if Oy o (PH d a.tmps)=NB then Oper.wp Ya o a w K Q else E:=by
 have⟨G,f,y,v,t⟩:=PM Tp.info3p;have b:w.ownsRow L 3 1 (.slice (Nq g) 0 0) 0 []:=⟨rfl,.inr ⟨g,0,#[],rfl,N,B,Nv _,by decide,rfl,rfl⟩⟩;have M:=(Nz.1 B).1;rcases p with _ | R
 ·obtain rfl:l=[]:=OK λH=>by obtain⟨_,_,e,-,j⟩:=C;cases e;have⟨_,_,e,_⟩:=j H;cases e
  rw[if_pos i];unfold Oper.wp QN;simp only[ho,resolve,invoke,builtin,PF,SZ,PC,SH,Qj,Sx,hs,hx,NU,run_append_nil Tp.und29' f];exact h _ _ _ b (NN _ _)
 ·refine iV i s x 29 ho L 3 G _ 1 8 Tp.und29' f y v t rfl (by decide) _ 0 [] hs b R l.length n (l.map (Og .i64)) hx (by simp) (Kj C) (by intro u A;simp at A;obtain⟨x,_,rfl⟩:=A;rfl) (by unfold Rh;omega) (by omega) (by omega) λD k j O=>?_;obtain⟨r,q,rfl⟩:∃a c,D=.slice a l.length c:=by
   rcases j.2 with⟨rfl,T⟩ | ⟨g,z,P,rfl,_⟩
   ·exact⟨Ns,0,by rw[show l.length=0 by omega]⟩
   ·exact⟨_,z,by rw[Oc]⟩
  rw[Oc,On] at j;exact h _ _ _ j O
def oF{b:NJ PE}{o:PE}{a:QF}{w:Nt}{K:QF->Nt->Prop}{Q:Ux->QF->Nt->Prop}{E:Prop}(s x:OQ){L G n i:NA}{j:NO OX}{f:Nu Ny}{p:NH}(d:w.ownsRow L 3 1 (.slice j n i) n f)(z:w.heap[G]?=Nq (.cells #[p] 3 (0,0)))(C:n<=1000)(y:L<=w.heap.size)(h:∀g c e,e.ownsRow L 3 1 (.slice (Nq ⟨g,0,Ns⟩) (n+1) c) (n+1) (f++[.int .i64 p])->w.gb e (OS j n i).ownBlock->K (a.put o.dst (.slice (Nq ⟨g,0,Ns⟩) (n+1) c)) e)(t:Oy o (PH b a.tmps)=NB:=by kernel_rfl)(ho:o.op=.call { callee:=.builtin .append,args:=#[s,x],argTypes:=#[29,29] }:=by rfl)(hs:a.eval s=.slice j n i:=by rfl)(hx:a.eval x=.slice (Nq G) 1 1:=by rfl) :if Oy o (PH b a.tmps)=NB then Oper.wp Ya o a w K Q else E:=by
 have⟨v,r,q,l,k⟩:=PM Tp.info3p;refine iV t s x 29 ho L 3 v _ 1 8 Tp.und29' r q l k rfl (by decide) _ n f hs d ⟨G,0,Ns⟩ 1 1 [.int .i64 p] hx rfl (Pt z) (by simp[PT]) (by unfold Rh;omega) (by omega) y λB e u A=>?_;obtain⟨g,c,rfl⟩:=ownsRow_succ u;exact h _ _ _ u A
def vk(lo hi:NA)(v:Ny)(l:Nu NH)(x:NH)(w:Nt)(R:aS lo hi w v l)(hl:l.length<=1000) :Oz Ya 158 #[v,x] w λe u=>∃z,e=.returned z/\w.gb u Ns/\aj w.heap.size u.heap.size u z (l.filter λy=>y != x):=by
 have⟨i0,H,G,D,C⟩:=PM Tp.info3p;obtain⟨b,c,rfl,a9,Q⟩:=R.cell;have HC:=Np Q;obtain⟨F,q⟩:∃F,F=λk=>(l.take k).filter (λy=>y != x):=⟨_,rfl⟩;have n:=Np (show F 0=[] by rw[q];rfl);have O:=Np (show ∀k y,l[k]?=Nq y->F (k+1)=F k++(if(y != x)=NB then[y] else[]) from λk y g=>by
  rw[q];simp only;rw[OR,g,SP];simp only[Option.toList_some,List.filter_cons,List.filter_nil])
 have P:=Np (show F l.length=l.filter (λy=>y != x) by rw[q];simp);clear Q R q;go_enter Tp.x158,Tryz.ntmps158;go_wp2;go_loopw [5,6] (λW A wr=>∃k:NA,A=.int .i64 k/\k<=l.length/\w.gb wr Ns/\wr.ownsRow w.heap.size 3 1 W (F k).length ((F k).map (Og .i64))/\(F k).length<=k) (λ_ A _=>(l.length - OP A).toNat)
 case atStart=>exact⟨0,rfl,by omega,NN _ _,by rw[n];simpa using PX _ _ _ _,by rw[n];exact Nv _⟩
 case round=>
  obtain⟨k,rfl,hk,h,p,I⟩:=hrel;obtain⟨Z,X,Y,rfl⟩:=cd p;have⟨N,r⟩:=aQ h p;have a8:=h.size;by_cases f:k<l.length
  ·obtain⟨B,o,rfl,-,-,-,S⟩:=HC.out (by intro e;rw[e] at f;simp at f);have U:=h.cl (S k f);obtain⟨y,g⟩:∃y,l[k]?=Nq y:=⟨_,ND f⟩;rw[g] at U;simp only[NK] at U;have b0:(k:NH)<(l.length:NH):=by omega
   have s:=Np (O k y g);clear S g h p;by_cases e:y=x
   ·have i:(y != x)=NC:=by simp[e]
    clear e;go_wp2;go_roundw
    case rel=>
     refine⟨k+1,by simp,by omega,N,?_,?_⟩
     ·rw[s,i];simpa using r.out
     ·rw[s,i];simp;omega
    case measure=>simp[OP];omega
   ·have i:(y != x)=NB:=by simp[e]
    clear e;go_wp2_with (at_builtin;(refine Rv _ rfl _ _ 29 rfl w.heap.size 3 i0 _ 1 8 Tp.und29' H G D C rfl (by decide) (.slice Z X Y) (F k).length _ rfl (r.alloc _) ⟨wr.heap.size,0,Ns⟩ 1 1 [.int .i64 y] rfl rfl (Pt (cs:=#[.int .i64 y]) (t:=3) (fr:=(0,0)) (NL wr _)) (by simp[PT]) (by unfold Rh;omega) (by omega) (by simp;omega) ?_);intro z w7 a d _;obtain⟨g',V,rfl⟩:=ownsRow_succ a;have L:=Np a;have M:=Np d;clear a d);go_roundw
    case rel=>
     refine⟨k+1,by simp,by omega,(N.t (Nr _ _ Ns)).andThen M (λj e=>.inl (r.lt j e).1),?_,?_⟩
     ·rw[s,i];simpa using L.out
     ·rw[s,i];simp;omega
    case measure=>simp[OP];omega
  ·obtain rfl:k=l.length:=by omega
   clear h p;go_wp2;go_ret;have T:=r.out;rw[P] at T I;exact⟨_,rfl,N,aj.own T (by omega)⟩
end
section
def Gs(n:NA):NA->Nu (Nu NH)
 | 0=>[[]]
 | k+1=>(Oo n).flatMap λ(i:NA)=>(Gs n k).map λl=>(i:NH)::l
def Li(l:Nu NH)(k:NA):OI:=(Oo k).all λ(i:NA)=>l.contains (i:NH)
def Ji(n:NA):Nu (Nu NH):=(Gs n n).filter λl=>Li l n
def mC(c:Nu Par)(x:NH)(l:Nu NH):aN c (x::l)=dq c x+aN c l:=by
 unfold aN;rw[Qj,PN];have h:∀(l:Nu NH) (a b:NH),l.foldl (·+·) (a+b)=a+l.foldl (·+·) b:=by
  intro l;induction l with
  | nil=>intro a b;rfl
  | cons y l d=>intro a b;rw[PN,PN,Int.add_assoc,d]
 rw[Int.add_comm 0,h]
def mB(a:Nu Par){l b:Nu NH}(h:l.Perm b):aN a l=aN a b:=by
 induction h with
 | nil=>rfl
 | cons x _ c=>rw[mC,mC,c]
 | swap x y l=>simp only[mC];omega
 | trans _ _ e d=>rw[e,d]
end
section
open Go.RowKit

def Tp.und36L:Ya.underlying 36=Nq (.slice 29):=by rw[Tp.und];exact Tryz.underlying36
def Tp.info29L:(Ya.info? 29).map (λi=>(i.zero,i.size,i.bytes))=Nq (Nq (.slice Ns 0 0),1,24):=by kernel_rfl
def aj.kept_own{i j base n:NA}{e:NZ}{w f:Nt}{v x:Ny}{l:Nu NH}{q:Nu Ny}(h:aj i j w x l)(s:w.ownsRow base e 1 v n q)(u:e≠3)(k:w.gb f v.ownBlock):aj i j f x l:=by
 rcases s.2 with⟨rfl,-⟩ | ⟨g,H,F,rfl,-,a,-⟩
 ·exact h.kept k (by simp[OG])
 ·obtain⟨b,c,rfl,t,r⟩:=h;refine⟨b,c,rfl,t,λd=>?_⟩;have⟨B,o,G,y,D,C,A,p,z⟩:=r d;refine⟨B,o,G,y,D,C,A,blk k (λh=>?_) p,z⟩;simp[OG] at h;subst h;rw[p] at a;cases a;exact u rfl
def bF(base:NA)(w:Nt)(v:Ny)(L:Nu (Nu NH)):Prop :=
 ∃a:Nu Ny,w.ownsRow base 29 1 v L.length a/\∀(j:NA) x l,a[j]?=Nq x->L[j]?=Nq l->aj 0 w.heap.size w x l
def bF.kept{base:NA}{w w':Nt}{v:Ny}{L:Nu (Nu NH)}(h:bF base w v L)(a:w.gb w' Ns):bF base w' v L:=by
 obtain⟨d,i,g⟩:=h;exact⟨d,rp i a,λj x l e f=>((g j x l e f).kept a).mono (Nv _) a.size⟩
def bF.nil(base:NA)(w:Nt):bF base w (.slice Ns 0 0) []:=⟨[],PX _ _ _ _,λj x l a=>by simp at a⟩
def bF.low{base a:NA}{w:Nt}{v:Ny}{L:Nu (Nu NH)}(h:bF base w v L)(c:a<=base):bF a w v L:=by
 obtain⟨b,e,d⟩:=h;exact⟨b,rq e c,d⟩
def bF.push{base:NA}{w d:Nt}{v h x:Ny}{L:Nu (Nu NH)}{l:Nu NH}{b:Nu Ny}(g:w.ownsRow base 29 1 v L.length b)(p:∀(j:NA) x l,b[j]?=Nq x->L[j]?=Nq l->aj 0 w.heap.size w x l)(k:aj 0 w.heap.size w x l)(o:d.ownsRow base 29 1 h (L.length+1) (b++[x]))(c:w.gb d v.ownBlock):bF base d h (L++[l]):=by
 have f:b.length=L.length:=by have:=g.1;simpa using this
 refine⟨b++[x],by simpa using o,λj y m a hm=>?_⟩;by_cases e:j<L.length
 ·rw[Ot (by omega)] at a;rw[Ot e] at hm;exact((p j y m a hm).kept_own g (by decide) c).mono (Nv _) c.size
 ·rw[Pq (by omega)] at a hm;have i:j - L.length=0:=by
   have:=(NT.1 hm).1;simp at this;omega
  rw[f,i] at a;rw[i] at hm;simp at a hm;subst a hm;exact(k.kept_own g (by decide) c).mono (Nv _) c.size
def bF.at{base:NA}{w:Nt}{v:Ny}{L:Nu (Nu NH)}(h:bF base w v L):∃a c,v=.slice a L.length c/\(0<L.length->∃g,a=Nq ⟨g,0,Ns⟩/\∀(j:NA) l,L[j]?=Nq l->∃x,w.cell? ⟨g,j,Ns⟩=Nq x/\aj 0 w.heap.size w x l):=by
 obtain⟨b,f,r⟩:=h;have i:b.length=L.length:=by have:=f.1;simpa using this
 obtain⟨a,c,rfl,q⟩:=gN f;refine⟨a,c,rfl,λn=>?_⟩;obtain⟨g,rfl,-,-,p⟩:=q n;refine⟨g,rfl,λj l e=>?_⟩;have o:=(NT.1 e).1;obtain⟨x,d⟩:∃x,b[j]?=Nq x:=⟨_,ND (by omega)⟩;exact⟨x,(p j o).t d,r j x l d e⟩
def ML(b:NA)(w:Nt)(v:Ny)(L:Nu (Nu NH)):Prop :=
 ∃a c,v=.slice a L.length c/\(0<L.length->∃g,a=Nq ⟨g,0,Ns⟩/\g<b/\(∃d f,w.heap[g]?=Nq (.cells d 29 f))/\∀(j:NA) l,L[j]?=Nq l->∃x,w.cell? ⟨g,j,Ns⟩=Nq x/\aj 0 b w x l)
def bF.one(w:Nt):bF w.heap.size (w.alloc (.cells #[.slice Ns 0 0] 29)) (.slice (Nq w.heap.size) 1 1) [[]]:=by
 refine⟨[.slice Ns 0 0],⟨rfl,.inr ⟨_,1,_,rfl,Nv _,NL w _,Nv _,by decide,rfl,rfl⟩⟩,λj x l a b=>?_⟩;have c:j=0:=by have:=(NT.1 a).1;simp at this;omega
 subst c;cases a;cases b;exact .nil _ _ _
def Jk(w:Nt)(x:NH):(w.alloc (.cells #[x] 3)).ownsRow w.heap.size 3 1 (.slice (Nq w.heap.size) 1 1) 1 [.int .i64 x] :=
 ⟨rfl,.inr ⟨_,1,#[x],rfl,Nv _,NL w _,Nv _,by decide,rfl,rfl⟩⟩
def DY{p:Nu NH->OI}(L:Nu (Nu NH))(i:NA)(l:Nu NH)(h:L[i]?=Nq l):(L.take (i+1)).filter p=(L.take i).filter p++if p l then[l] else[]:=by
 rw[OR,h,SP];cases e:p l<;>simp[e]
end
section
def qB{x y:NH}:lX x y<0↔x<y:=by unfold lX;split<;>(try split)<;>omega
def qC{x y:NH}:lX x y=0↔x=y:=by unfold lX;split<;>(try split)<;>omega
def mX:∀{a b c:Nu NH},cU a b<0->cU b c<0->cU a c<0
 | [],b,[],f,d=>by cases b<;>simp[cU] at f d
 | [],_,_::_,_,_=>by simp[cU]
 | _::_,[],_,f,_=>by simp[cU] at f
 | _::_,_::_,[],_,d=>by simp[cU] at d
 | x::a,y::b,z::c,f,d=>by
  simp only[cU] at f d ⊢;by_cases h:lX x y=0
  ·rw[if_neg (by simpa using h)] at f;have e:=qC.1 h;subst e;by_cases g:lX x z=0
   ·rw[if_neg (by simpa using g)] at d ⊢;exact mX f d
   ·rw[if_pos g] at d ⊢;exact d
  ·rw[if_pos h] at f;have k:=qB.1 f;by_cases g:lX y z=0
   ·have e:=qC.1 g;subst e;rw[if_pos h];exact f
   ·rw[if_pos g] at d;have j:=qB.1 d;have i:lX x z<0:=qB.2 (by omega);rw[if_pos (by omega)];exact i
def lT:∀a:Nu NH,cU a a=0
 | []=>rfl
 | x::a=>by simp[cU,qC.2 rfl,lT a]
def Mg(l s:Nu NH):Nu NH:=s.map λj=>l[j.toNat]?.getD 0
def KT(c:Nu NH):Nu (Nu NH):=(Ji c.length).map (Mg c)
structure SetOk(n:NA)(c:Nu NH):Prop where
 eq:KT c=fK c
 pw:(fK c).Pairwise (λa c=>cU a c<0)
 pm:∀x∈fK c,x.Perm c
 mem:∀x∈c,0<=x/\x<n
 nd:c.Nodup
 len:c.length<=n
end
section
open Go.RowKit
def rT{Y M:Type}(g:Y->Nu M)(m:NA)(h:∀a,(g a).length<=m):∀L:Nu Y,(L.flatMap g).length<=L.length*m
 | []=>by simp
 | a::L=>by
  have c:=rT g m h L;have b:=h a;rw[Qx,Pi,NQ,TY,Nat.one_mul];omega
def bF.lt{base:NA}{w:Nt}{v:Ny}{L:Nu (Nu NH)}(h:bF base w v L)(j:NA)(e:v.ownBlock=Nq j):j<w.heap.size:=by
 obtain⟨f,b,i⟩:=h;rcases b.2 with⟨rfl,-⟩ | ⟨g,d,c,rfl,-,a,-⟩
 ·cases e
 ·simp[OG] at e;subst e;exact(Nz.1 a).1
def bF.ge{base:NA}{w:Nt}{v:Ny}{L:Nu (Nu NH)}(h:bF base w v L)(j:NA)(e:v.ownBlock=Nq j):base<=j:=by
 obtain⟨f,b,k⟩:=h;rcases b.2 with⟨rfl,-⟩ | ⟨g,d,c,rfl,a,i,-⟩
 ·cases e
 ·simp[OG] at e;subst e;exact a
def bF.beside{base B n:NA}{w f:Nt}{v u:Ny}{o:Nu Ny}{L:Nu (Nu NH)}(h:bF base w v L)(r:w.ownsRow B 29 1 u n o)(b:w.gb f u.ownBlock)(a:∀j,u.ownBlock=Nq j->v.ownBlock≠Nq j):bF base f v L:=by
 obtain⟨k,i,z⟩:=h;refine⟨k,⟨i.1,i.2.imp id λ⟨g,d,c,e,y,t,q⟩=>⟨g,d,c,e,y,blk b (λA=>a g A.symm (by rw[e];rfl)) t,q⟩⟩,λj x l p s=>((z j x l p s).kept_own r (by decide) b).mono (Nv _) b.size⟩
def GO{u a v:Ny}{w:Nt}(d:a.ownBlock=u.ownBlock\/a.ownBlock=Nq w.heap.size)(b:∀j,u.ownBlock=Nq j->v.ownBlock≠Nq j)(c:∀j,v.ownBlock=Nq j->j<w.heap.size):∀j,a.ownBlock=Nq j->v.ownBlock≠Nq j:=λj e f=>by
 rcases d with h | h
 ·exact b j (h.symm.trans e) f
 ·have:=c j f;rw[e] at h;cases h;omega
def aS.drop{g b B o n c c':NA}{w:Nt}{l:Nu NH}(h:aS g b w (.slice (Nq ⟨B,o,Ns⟩) l.length c) l)(k:NA)(z:k<=l.length)(j:n=l.length - k):aS g b w (.slice (Nq ⟨B,o+k,Ns⟩) n c') (l.drop k):=by
 obtain⟨base,v,e,y,p⟩:=h;injection e with f _ _;subst f;have a:(l.drop k).length=n:=by simp;omega
 refine⟨Nq ⟨B,o+k,Ns⟩,c',by rw[a],by rw[a];omega,λd=>?_⟩;have q:0<n:=Nat.pos_of_ne_zero λe=>d (by rw[<- List.length_eq_zero_iff];omega);have⟨A,x,f,u,t,s,r⟩:=p (by intro e;rw[e] at j;simp at j;omega);cases f;refine⟨B,o+k,rfl,u,t,s,λi b=>?_⟩;rw[a] at b;rw[TF,r (k+i) (by omega),RZ]
def jg(y:NH)(L:Nu (Nu NH)):Nu (Nu NH):=L.map λl=>y::l
def Df(y:NH)(L:Nu (Nu NH))(x:NA)(l:Nu NH)(h:L[x]?=Nq l):jg y (L.take (x+1))=jg y (L.take x)++[y::l]:=by
 unfold jg;rw[OR,h];simp
def pW{P:NR}{t a e:NZ}{i:Sd}{g n c h:NA}{w:Nt}(b:P.underlying t=Nq (.slice e))(d:P.info? e=Nq i)(f:n<=c):(Rj #[t,t] a #[.slice (Nq g) n c,.slice Ns 0 h]).run P w=.ok (.slice (Nq g) n c) w:=by
 simp[Rj,TZ b,UI,RV,d,VX,Uu,Us,f]
def jE{d:NJ PE}{o:PE}{a:QF}{w:Nt}{K:QF->Nt->Prop}{Q:Ux->QF->Nt->Prop}{E:Prop}(s x:OQ){F I L g n c q:NA}{r:NO OX}{l:Nu NH}{t:Nu Ny}(b:w.ownsRow L 3 1 (.slice (Nq g) n c) n t)(C:aS F I w (.slice r l.length q) l)(M:L<=w.heap.size)(S:l.length<=1000)(B:n<=1000)(h:∀i j k,k.ownsRow L 3 1 (.slice (Nq ⟨i,0,Ns⟩) (n+l.length) j) (n+l.length) (t++l.map (Og .i64))->w.gb k (Nq g)->K (a.put o.dst (.slice (Nq ⟨i,0,Ns⟩) (n+l.length) j)) k)(H:0<n:=by omega)(hgd:Oy o (PH d a.tmps)=NB:=by kernel_rfl)(ho:o.op=.call { callee:=.builtin .append,args:=#[s,x],argTypes:=#[29,29] }:=by rfl)(hs:a.eval s=.slice (Nq g) n c:=by rfl)(hx:a.eval x=.slice r l.length q:=by rfl) :if Oy o (PH d a.tmps)=NB then Oper.wp Ya o a w K Q else E:=by
 have⟨G,f,z,y,v⟩:=PM Tp.info3p;rcases r with _ | R
 ·obtain rfl:l=[]:=OK λB=>by obtain⟨_,_,e,-,p⟩:=C;cases e;have⟨_,_,e,_⟩:=p B;cases e
  rw[if_pos hgd];unfold Oper.wp QN;simp only[ho,resolve,invoke,builtin,PF,SZ,PC,SH,Qj,Sx,hs,hx,NU,pW Tp.und29' f (nH b)];exact h _ _ _ (by simpa using b) (NN _ _)
 ·refine iV hgd s x 29 ho L 3 G _ 1 8 Tp.und29' f z y v rfl (by decide) _ n t hs b R l.length q (l.map (Og .i64)) hx (by simp) (Kj C) (by intro u A;simp at A;obtain⟨x,_,rfl⟩:=A;rfl) (by unfold Rh;omega) (by omega) M λD k p N=>?_;obtain⟨i,j,rfl⟩:∃i j,D=.slice (Nq ⟨i,0,Ns⟩) (n+l.length) j:=by
   rcases p.2 with⟨rfl,T⟩ | ⟨g,P,O,rfl,_⟩
   ·omega
   ·exact⟨_,_,rfl⟩
  exact h _ _ _ p N
def rj:Nu NH->NA->Nu (Nu NH)
 | _,0=>[[]]
 | l,k+1=>(Oo l.length).flatMap λi=>jg (l[i]?.getD 0) (rj (l.drop (i+1)) k)
def kD:NA->Nu NH->Nu (Nu NH)
 | 0,_=>[[]]
 | f+1,l=>(Oo l.length).flatMap λi=>jg (l[i]?.getD 0) (kD f (l.filter λz=>z != l[i]?.getD 0))
def Hm{g:NA->Nu (Nu NH)}{f:NA->NH}{n m k:NA}(h:∀i,∀q∈g i,q.length<=k):∀q∈(Oo n).flatMap (λi=>jg (f i) (g i)),q.length<=k+1:=λq a=>by
 have⟨i,_,c⟩:=Sc.1 a;obtain⟨p,b,rfl⟩:=Qp.1 c;simpa using h i p b
def Nb{n m k:NA}(a:n<=5)(hm:m<=5 ^ k):n*m<=5 ^ (k+1):=by rw[Nat.pow_succ,Nat.mul_comm];exact UT hm a
def kW:∀k (l:Nu NH),l.length<=5->(kD k l).length<=5 ^ k/\∀q∈kD k l,q.length<=k
 | 0,_,_=>by simp[kD]
 | k+1,l,a=>by
  have c:∀y:NH,(l.filter λz=>z != y).length<=5:=λy=>NM (PS _ _) a;have d:∀i:NA,(jg (l[i]?.getD 0) (kD k (l.filter λz=>z != l[i]?.getD 0))).length<=5 ^ k:=λi=>by rw[jg,Ql];exact(kW k _ (c _)).1
  have b:=rT (λ(i:NA)=>jg (l[i]?.getD 0) (kD k (l.filter λz=>z != l[i]?.getD 0))) (5 ^ k) d (Oo l.length);rw[VU] at b;exact⟨NM b (Nb a (Nv _)),Hm (m:=0) λi=>(kW k _ (c _)).2⟩
def qm{k:NA}(h:k<=5):5 ^ k<=3125:=Nat.pow_le_pow_right (by decide) h
def pC:∀k:NA,k<=5->∀(lo hi:NA) (b:NO OX) (c:NA) (l:Nu NH) (w:Nt),aS lo hi w (.slice b l.length c) l->l.Nodup->l.length=k ->Oz Ya 148 #[.slice b l.length c] w λe w'=>∃v,e=.returned v/\w.gb w' Ns/\bF w.heap.size w' v (kD k l)
 | 0,_,_,_,_,_,l,w,_,_,hl=>by
  go_enter Tp.x148,Zz;go_wp2;go_ret;exact⟨_,rfl,Nr _ _ Ns,bF.one w⟩
 | k+1,hk,lo,k9,b,c,l,w,hI,a8,hl=>by
  have⟨i0,s9,s1,r9,r8⟩:=PM Tp.info3p;have⟨j0,k8,k0,h9,h8⟩:=PM Tp.info29L;have n4:=Np (pC k (by omega));have⟨c8,c9⟩:=aQ a8 hl;replace hl:l.length<=5:=by omega
  have V:=Np λ(i:NA)=>kW k (l.filter λz=>z != l[i]?.getD 0) (NM (PS _ _) (by omega));have s7:((l.length:NH) == 0)=NC:=by rw[beq_eq_false_iff_ne];have:=c9.out;omega
  have s3:IntKind.i64.wrap (k:NH)=(k:NH):=Ov _ (by omega);obtain⟨F,hF⟩:∃F:NA->Nu (Nu NH),F=λn=>(Oo n).flatMap λi=>jg (l[i]?.getD 0) (kD k (l.filter λz=>z != l[i]?.getD 0)):=⟨_,rfl⟩;have m8:=Np (show kD (k+1) l=F l.length by rw[hF];rfl);clear a8;have p7:=Np (show F 0=[] by rw[hF];rfl);have p5:=Np (show ∀i,F (i+1)=F i++jg (l[i]?.getD 0) (kD k (l.filter λz=>z != l[i]?.getD 0)) by intro i;rw[hF];simp[RF]);have p6:=Np (show ∀i,i<=5->(F i).length<=15625 by
   intro i hi;have h:=rT (λ(i:NA)=>jg (l[i]?.getD 0) (kD k (l.filter λz=>z != l[i]?.getD 0))) 3125 (λi=>by rw[jg,Ql];exact NM (V i).1 (qm (by omega))) (Oo i);rw[VU] at h;rw[hF];exact NM h (Nat.mul_le_mul_right _ hi))
  clear hF;go_enter Tp.x148,Zz;go_wp2;obtain⟨A,hA⟩:∃A,A=w.heap.size:=⟨_,rfl⟩;have⟨HA,n8⟩:=aQ hA hI;obtain⟨b',c',e,-,hc⟩:=hI.cell;cases e;have HC:=Np hc;clear hA hI hc;go_loopw [3,4] (λov iv wr=>∃i:NA,iv=.int .i64 i/\i<=l.length/\w.gb wr Ns/\bF A wr ov (F i)) (λ_ iv _=>(l.length - OP iv).toNat)
  case atStart=>exact⟨0,rfl,by omega,NN _ _,by rw[p7];exact bF.nil _ _⟩
  case round=>
   obtain⟨i,rfl,hi,s,hO⟩:=hrel;have⟨d7,HO⟩:=aQ s hO;by_cases u:i<l.length
   ·obtain⟨B,o,rfl,-,-,-,h4⟩:=HC.out (by intro e;rw[e] at u;simp at u);have d0:=h4 i u;have d1:=s.cl d0;have s8:(i:NH)<(l.length:NH):=by omega
    have s4:IntKind.i64.wrap ((i:NH)+1)=(i:NH)+1:=Ov _ (by omega);obtain⟨y,G⟩:∃y,y=l[i]?.getD 0:=⟨_,rfl⟩;obtain⟨L,hL⟩:∃L,L=kD k (l.filter λz=>z != l[i]?.getD 0):=⟨_,rfl⟩;obtain⟨P,hP⟩:∃P,P=F i:=⟨_,rfl⟩;have t4:L.length<=3125:=by rw[hL];exact NM (V i).1 (qm (by omega))
    have t1:P.length<=15625:=by rw[hP];exact p6 i (by omega)
    have HE:=Np (show ∀m∈L,m.length<=5 by rw[hL];exact λm h=>NM ((V i).2 m h) (by omega));have m3:=Np (show F (i+1)=P++jg y L by rw[p5,hP,hL,G]);have n6:=Np (n8.kept s);have a7:y∈l:=by rw[G,ND u];exact RL _
    have m6:=Np (show(l.filter λz=>z != y).Nodup from c8.filter _);have m9:=Np (show(l.filter λz=>z != y).length=k by
     rw[<- c8.erase_eq_filter,Ti a7,c9];rfl)
    have n2:=Np (show L=kD k (l.filter λz=>z != y) by rw[hL,G]);clear a7;rw[<- hP] at HO;rw[<- G] at d0 d1;clear s hO hP hL h4 G;go_upto_region 8 with(first
     | (go_at_call 158;refine(vk lo k9 _ l y wr n6 (by omega)).mono ?_;rintro e w2 ⟨v2,rfl,a9,S⟩;obtain⟨b2,c2,rfl,-,-⟩:=S.cell;have Y:=Np a9;have n7:=Np S;clear a9 S)
     | (go_at_call 148;refine(n4 _ _ b2 c2 _ w2 n7.g m6 m9).mono ?_;rintro e w1 ⟨v,rfl,hg,R⟩;rw[<- n2] at R;obtain⟨la,lc,rfl,-⟩:=R.at;have d5:=Np (Y.t hg);have HR:=Np R;clear hg R))
    have p4:=Np (d7.t d5);obtain⟨wo,k6⟩:∃x,x=wr:=⟨wr,rfl⟩;have p3:=Np (show wo.heap.size<=w2.heap.size by rw[k6];exact Y.size);have n9:=Np Y.size;go_wp2;go_loopw [3,6] (λov xv wj=>∃x:NA,xv=.int .i64 x/\x<=L.length/\w.gb wj Ns/\bF A wj ov (P++jg y (L.take x))/\bF wo.heap.size wj (.slice la L.length lc) L/\∀j,ov.ownBlock=Nq j->(OS la L.length lc).ownBlock≠Nq j) (λ_ xv _=>(L.length - OP xv).toNat)
    case atStart=>exact⟨0,rfl,by omega,p4,by simpa[jg] using HO.out.kept d5,HR.low p3,λj e e2=>by
     have h1:=HO.out.lt j e;have h2:=HR.out.ge j e2;have h3:=n9.out;omega⟩
    case round=>
     obtain⟨x,rfl,hx,s,hN,b6,b8⟩:=hrel;have⟨T,U⟩:=aQ b6 b8;clear b6 b8;have d6:=Np s;obtain⟨vs,p,r⟩:=hN;obtain⟨na,nc,rfl,-⟩:=gN p;by_cases k5:x<L.length
     ·obtain⟨m,hm⟩:∃m,L[x]?=Nq m:=⟨_,ND k5⟩;have⟨_,_,er,R⟩:=T.out.at;injection er with er1 _ er3;subst er1 er3;obtain⟨g,rfl,H⟩:=R (by omega);have⟨yv,G,Q⟩:=H x m hm;obtain⟨yb,yc,rfl,-,-⟩:=Q.cell;have s6:m.length<=5:=HE.out m (Od hm);have s2:(x:NH)<(L.length:NH):=by omega
      have HS:=Np (Df y L x m hm);obtain⟨M,hM⟩:∃M,M=P++jg y (L.take x):=⟨_,rfl⟩;have t3:M.length<=20000:=by rw[hM,Pi,jg,Ql,Qt];omega
      rw[<- hM] at p r U ⊢;have HS:=Np (show P++jg y (L.take (x+1))=M++[y::m] by rw[HS,<- Qv,<- hM]);have⟨HI,D⟩:=aQ r p;have t5:A<=wr.heap.size:=by have:=HA.out;have:=s.size;omega
      have dy:=s.cl d0;have C:=Np (show ∀W,wr.gb W Ns->W.cell? ⟨B,o+i,Ns⟩=Nq (.int .i64 y)/\W.cell? ⟨g,x,Ns⟩=Nq (.slice yb m.length yc) from λW h=>⟨h.cl dy,h.cl G⟩);have n3:=Np (show ∀W,wr.gb W Ns->aS 0 wr.heap.size W (.slice yb m.length yc) m from λW h=>(Q.kept h).g);clear s r p H R Q hM hm dy G;go_upto_region 11 with(fail);have d:=Np (ai wr Ns);refine aI 12 (λw'=>w'.cell? ⟨B,o+i,Ns⟩=Nq (.int .i64 y)/\w'.cell? ⟨g,x,Ns⟩=Nq (.slice yb m.length yc)) (by kernel_rfl) (by kernel_rfl) (C _ d) (λhHeld=>?_);simp only[NQ,NU,Oh,OV,Oc,Oj,Ol,Ow,On,Oa];refine tk 0 (h:=tk 1 (h:=tk 2 (h:=tk 3 (h:=tk 4 (h:=tk 6 (h:=tk 7 (h:=tk 8 (h:=tk 9 (h:=?_)))))))));try go_frame
      refine rdc 5 λK I=>?_;go_simp;have HX:=Np (show wr.gb ((wr.alloc (.cells #[y] 3)).drew) Ns/\((wr.alloc (.cells #[y] 3)).drew).ownsRow wr.heap.size 3 1 (.slice (Nq ⟨wr.heap.size,0,Ns⟩) 1 1) 1 [.int .i64 y] from⟨d.t (Nr _ _ Ns),Jk wr.drew y⟩);generalize (wr.alloc (.cells #[y] 3)).drew=WN at HX ⊢;replace d:=Np HX.1;have H1:=Np HX.2;clear HX;refine I.out _ _ (C _ d) (λhHeld=>?_);clear I K;try go_frame
      refine rdc 10 λK I=>?_;refine jE (.tmp 35) (.tmp 39) H1 (n3 _ d) d.size (by omega) (by omega) λN O Z f a=>?_;have XO:=Np (show aj wr.heap.size Z.heap.size Z (.slice (Nq ⟨N,0,Ns⟩) (1+m.length) O) (y::m) from aj.own (l:=y::m) (n:=1+m.length) f (by simp;omega));replace d:=Np (d.andThen a (λj e=>.inl (H1.lt j e).1));clear f a;refine I.out _ _ (C _ d) (λhHeld=>?_);clear I K;try go_frame
      refine rdc 11 λK I=>?_;go_simp;have HN:=Np (NL Z (.cells #[.slice (Nq ⟨N,0,Ns⟩) (1+m.length) O] 29));have G4:=Np d;replace d:=Np (d.t (Nr Z (.cells #[.slice (Nq ⟨N,0,Ns⟩) (1+m.length) O] 29) Ns));refine I.out _ _ (C _ d) (λhHeld=>?_);clear I K;try go_frame
      refine⟨by kernel_rfl,?_⟩;simp only[Oi,OH];clear hHeld;have h4:=G4.out.size;go_wp2_with (at_builtin;(refine wpList_append_own_at _ rfl _ _ 36 rfl A 29 j0 _ 1 24 Tp.und36L k8 k0 h9 h8 rfl (by decide) (.slice na M.length nc) M.length vs rfl ((D.kept G4 (Tx _)).alloc _) ⟨Z.heap.size,0,Ns⟩ 1 1 [.slice (Nq ⟨N,0,Ns⟩) (1+m.length) O] rfl rfl (Pt (cs:=#[.slice (Nq ⟨N,0,Ns⟩) (1+m.length) O]) (t:=29) (fr:=(0,0)) HN) (by simp[PT]) (by unfold Rh;omega) (by omega) (by simp;omega) ?_);intro v5 w5 f a _ l4;have p8:=Np l4;have HW:=Np f;have X:=Np a;clear f a);have m5:=bF.push ((D.kept G4 (Tx _)).alloc (.cells #[.slice (Nq ⟨N,0,Ns⟩) (1+m.length) O] 29)) (λj x q hx hq=>((HI j x q hx hq).kept d).mono (Nv _) d.size) ((XO.alloc (.cells #[.slice (Nq ⟨N,0,Ns⟩) (1+m.length) O] 29)).mono (OE _) (by simp)) HW X;have l7:=Qy (row:=Ns) (d6.t d) X (λj e=>.inl (by have:=(D.lt j e).1;have:=HA.out;omega));have b0:=(T.kept d).beside ((D.kept G4 (Tx _)).alloc (.cells #[.slice (Nq ⟨N,0,Ns⟩) (1+m.length) O] 29)) X U;have b7:=GO p8 U (λj e=>NX (T.lt j e) d.size);go_roundw
      case rel=>exact⟨x+1,by simp,by omega,l7,by rw[HS];exact m5,b0,b7⟩
      case measure=>simp[OP];omega
     ·obtain rfl:x=L.length:=by omega
      have HN:=Np (show bF A wr (.slice na _ nc) (P++jg y (L.take L.length)) from⟨vs,p,r⟩);clear s r p;go_wp2;go_roundw
      case rel=>exact⟨i+1,by simp,by omega,d6,by rw[m3];simpa using HN.out⟩
      case measure=>simp[OP];omega
   ·obtain rfl:i=l.length:=by omega
    clear s hO;go_wp2;go_ret;exact⟨_,rfl,d7,by rw[m8];exact HO.low (Sv HA.symm)⟩
def loB(b:NO OX)(a k:NA):NO OX:=if a=k then b else b.map (·.add k)
def addr_add(B o k:NA):(⟨B,o,Ns⟩:OX).add k=⟨B,o+k,Ns⟩:=by
 unfold Addr.add;split
 ·rename_i h;rw[h];rfl
 ·rfl
def aS.lo{j k a:NA}{b:NO OX}{W:Nt}{p q:Nu NH}(h:aS j k W (.slice b (p++q).length a) (p++q))(i:(p++q).length<=a):aS j k W (.slice (loB b a p.length) q.length (a - p.length)) q:=by
 have s:(p++q).drop p.length=q:=by simp
 have r:q.length=(p++q).length - p.length:=by simp
 unfold loB;rcases b with _ | ⟨B,o,n⟩
 ·obtain⟨_,_,e,_,c⟩:=h;cases e;refine⟨Ns,a - p.length,by simp,by omega,λg=>?_⟩;have⟨_,_,e,_⟩:=c (by simp[g]);cases e
 ·by_cases d:q=[]
  ·subst d;exact⟨_,_,rfl,by simp,λh=>absurd rfl h⟩
  ·have f:n=Ns:=by
    obtain⟨_,_,e,_,c⟩:=h;cases e;have⟨_,_,e,_⟩:=c (by simp[d]);cases e;rfl
   subst f;have l:=h.drop (c':=a - p.length) p.length (by simp) r;rw[s] at l;by_cases c:a=p.length
   ·exact absurd (OZ (by have:=i;rw[Pi] at this;omega)) d
   ·rw[if_neg c];rw[Pp,addr_add];exact l
def wu(y:NH)(l:Nu NH):Nu NH:=l.takeWhile (λx=>decide (x<y))++y::l.dropWhile (λx=>decide (x<y))
def pd(l:Nu NH):Nu NH:=l.foldl (λo y=>wu y o) []
def xu(y:NH)(l:Nu NH):∃p q,l=p++q/\wu y l=p++y::q/\(∀x∈p,x<y)/\(∀x∈q.head?,¬ x<y):=by
 refine⟨l.takeWhile (λx=>decide (x<y)),l.dropWhile (λx=>decide (x<y)),(UW).symm,rfl,λx a=>?_,λx a=>?_⟩
 ·have h:=List.all_takeWhile (p:=λx:NH=>decide (x<y)) (l:=l);have:=OF.1 h x a;simpa using this
 ·intro h;have b:=List.head?_dropWhile_not (λx:NH=>decide (x<y)) l;rw[Option.mem_def.1 a] at b;simp at b;omega
def At{W:Nt}{A B g c:NA}{F p q:Nu NH}{y:NH}(d:F=p++y::q)(i:A<=B)(h:W.ownsRow B 3 1 (.slice (Nq ⟨g,0,Ns⟩) (p.length+1+q.length) c) (p.length+1+q.length) ((p.map (Og .i64)++[.int .i64 y])++q.map (Og .i64))) :W.ownsRow A 3 1 (.slice (Nq ⟨g,0,Ns⟩) (p.length+1+q.length) c) F.length (F.map (Og .i64)):=by
 have k:F.length=p.length+1+q.length:=by rw[d];simp;omega
 have j:F.map (Og .i64)=(p.map (Og .i64)++[.int .i64 y])++q.map (Og .i64):=by rw[d];simp
 rw[k,j];exact⟨h.1,h.2.imp id λ⟨g,b,a,e,f,r⟩=>⟨g,b,a,e,NM i f,r⟩⟩
def Ii(lo hi:NA)(v:Ny)(l:Nu NH)(w:Nt)(hI:aS lo hi w v l)(hl:l.length<=500) :Oz Ya 87 #[v] w λe w'=>∃v',e=.returned v'/\w.gb w' Ns/\aj w.heap.size w'.heap.size w' v' (pd l)/\∀b k c,v'=.slice b k c->k<=c:=by
 obtain⟨b,c,rfl,p5,hc⟩:=hI.cell;have HC:=Np hc;obtain⟨A,hA⟩:∃A,A=w.heap.size:=⟨_,rfl⟩;have HA:=Np hA;obtain⟨F,hF⟩:∃F,F=λk=>pd (l.take k):=⟨_,rfl⟩;have e5:=Np (show F 0=[] by rw[hF];rfl);have k8:=Np (show ∀k y,l[k]?=Nq y->F (k+1)=wu y (F k) from λk y hy=>by
  rw[hF];simp only[pd];rw[OR,hy,US];rfl)
 have k9:=Np (show F l.length=pd l by rw[hF];simp);clear hc hI hF hA;go_enter Tp.x87,Tryz.ntmps87;go_wp2;go_loopw [3,4] (λov iv wr=>∃k:NA,iv=.int .i64 k/\k<=l.length/\w.gb wr Ns/\wr.ownsRow A 3 1 ov (F k).length ((F k).map (Og .i64))/\(F k).length=k) (λ_ iv _=>(l.length - OP iv).toNat)
 case atStart=>exact⟨0,rfl,by omega,NN _ _,by rw[e5];simpa using PX _ _ _ _,by rw[e5];rfl⟩
 case round=>
  obtain⟨k,rfl,hk,hG,hO,X⟩:=hrel;obtain⟨oa,oc,rfl,z⟩:=gN hO;have a7:=nH hO;have⟨HG,HO,e4⟩:=bC hG hO X;have k0:=hG.size;by_cases U:k<l.length
  ·obtain⟨B,lo,rfl,-,-,-,h4⟩:=HC.out (by intro e;rw[e] at U;simp at U);have d0:=hG.cl (h4 k U);obtain⟨y,hy⟩:∃y,l[k]?=Nq y:=⟨_,ND U⟩;rw[hy] at d0;simp only[NK] at d0;have p6:(k:NH)<(l.length:NH):=by omega
   have V:aS 0 wr.heap.size wr (.slice oa (F k).length oc) (F k):=((aj.own hO (by omega)).mono (OE _) (Nv _)).g;have⟨p,q,r,O,hp,hq⟩:=xu y (F k);have HE:=Np (k8 k y hy);obtain⟨u,Z⟩:∃u,u=F k:=⟨_,rfl⟩;rw[<- Z] at r O V z a7 X HE ⊢;have N:=Np (show F (k+1)=p++y::q by rw[HE,O]);have R:=Np (show ∀W,wr.gb W Ns->aS 0 wr.heap.size W (.slice oa p.length oc) p from λW h=>by
    have:=(V.kept h).take p.length (by rw[r];simp) oc;rw[r] at this;simpa using this)
   have Q:=Np (show ∀W,wr.gb W Ns->aS 0 wr.heap.size W (.slice (loB oa oc p.length) q.length (oc - p.length)) q from λW h=>by
    have:=V.kept h;rw[r] at this;exact this.lo (by rw[<- r];exact a7))
   have q0:=Np r;have n9:p.length<=u.length:=by rw[r];simp
   have c9:u.length=p.length+q.length:=by rw[r];simp
   have⟨H,b0⟩:=aQ c9 X;have T:=Np (show A<=wr.heap.size by rw[HA];exact k0);have k7:=Np (show ∀j,j<p.length->∃x,x<y/\∀W,wr.gb W Ns->∃g,oa=Nq ⟨g,0,Ns⟩/\W.cell? ⟨g,j,Ns⟩=Nq (.int .i64 x) from λj hj=>by
    obtain⟨x,hx⟩:∃x,p[j]?=Nq x:=⟨_,ND hj⟩;obtain⟨g,hg,-,-,a8⟩:=z (by omega);refine⟨x,hp x (Od hx),λW h=>⟨g,hg,h.cl ((a8 j (by omega)).trans ?_)⟩⟩;rw[Pa,r,Ot hj,hx];rfl)
   have k6:=Np (show q.length≠0->∃x,¬ x<y/\∀W,wr.gb W Ns->∃g,oa=Nq ⟨g,0,Ns⟩/\W.cell? ⟨g,p.length,Ns⟩=Nq (.int .i64 x) from λp3=>by
    obtain⟨x,hx⟩:∃x,q[0]?=Nq x:=⟨_,ND (by omega)⟩;obtain⟨g,hg,-,-,a8⟩:=z (by omega);refine⟨x,hq x (by rw[List.head?_eq_getElem?,hx];rfl),λW h=>⟨g,hg,h.cl ((a8 p.length (by omega)).trans ?_)⟩⟩;rw[Pa,r,Pq (Nv _),Nat.sub_self,hx];rfl)
   have i:=Np (show ∀W,wr.gb W Ns->W.cell? ⟨B,lo+k,Ns⟩=Nq (.int .i64 y) from λW h=>h.cl d0);have p4:u.length<=500:=by omega
   have n7:q.length<=u.length:=by omega
   clear h4 hy hG hO V z hp hq r O Z X HE d0 c9;obtain⟨wo,rfl⟩:∃x,x=wr:=⟨wr,rfl⟩;go_wp2;go_loopw [5] (λjv wx=>∃j:NA,jv=.int .i64 j/\j<=p.length/\wo.gb wx Ns) (λjv _=>(p.length - OP jv).toNat)
   case atStart=>exact⟨0,rfl,by omega,NN _ _⟩
   case round=>
    obtain⟨j,rfl,hj,d7⟩:=hrel;have M:=Np d7;clear d7;go_upto_region 6 with(fail);go_cut [26] from 12 to 26 (λg7 wx=>g7=.bool (decide (j<p.length))/\wr.gb wx Ns)
    case first=>
     by_cases L:j<p.length
     ·have⟨x,h9,P⟩:=k7.out j L;obtain⟨g,rfl,c1⟩:=P wr M;have c2:=i.out wr M;have d5:(j:NH)<(u.length:NH):=by omega
      clear P;go_quiet (fail);go_wp2;go_meet;exact⟨by simp[L],ax _ _ _⟩
     ·obtain rfl:j=p.length:=by omega
      by_cases n6:0<q.length;rotate_left
      ·have d5:¬ (p.length:NH)<(u.length:NH):=by have:=H.out;omega
       go_quiet (fail);go_wp2;go_meet;exact⟨by simp,ax _ _ _⟩
      ·have⟨x,h9,P⟩:=k6.out (by omega);obtain⟨g,rfl,c1⟩:=P wr M;have c2:=i.out wr M;have d5:(p.length:NH)<(u.length:NH):=by have:=H.out;omega
       clear P;go_quiet (fail);go_wp2;go_meet;exact⟨by simp;omega,ax _ _ _⟩
    case rest=>
     obtain⟨rfl,d6⟩:=hcut;have D:=Np (M.t d6);clear d6 M;obtain⟨wr,rfl⟩:∃x,x=wc:=⟨wc,rfl⟩;by_cases L:j<p.length
     ·rw[decide_eq_true L];go_wp2;go_roundw
      case rel=>exact⟨j+1,by simp,by omega,D⟩
      case measure=>simp[OP];omega
     ·rw[decide_eq_false L];obtain rfl:j=p.length:=by omega
      clear L;have i:=Np λ(W:Nt) (h:wr.gb W Ns)=>i W (D.t h);have R:=Np λ(W:Nt) (h:wr.gb W Ns)=>R W (D.t h);have Q:=Np λ(W:Nt) (h:wr.gb W Ns)=>Q W (D.t h);have T:=Np (NM T D.size);clear hj;rw[H];have a7:p.length+q.length<=oc:=by have:=H.out;omega
      have n8:(p.length:NH)<=(oc:NH):=by omega
      have l8:(p.length:NH)<=(p.length:NH)+(q.length:NH):=by omega
      go_upto_region 8 with(fail);have f:=Np (ai wr Ns);refine aI 15 (λw'=>w'.cell? ⟨B,lo+k,Ns⟩=Nq (.int .i64 y)) (by kernel_rfl) (by kernel_rfl) (i _ f) (λhHeld=>?_);simp only[NQ,NU,Oh,OV,Oc,Oj,Ol,Ow,On,Oa];refine tk 1 (h:=tk 2 (h:=tk 3 (h:=tk 5 (h:=tk 6 (h:=tk 7 (h:=tk 8 (h:=tk 11 (h:=tk 12 (h:=tk 13 (h:=?_))))))))));try go_frame
      refine rdy [0,9] ?_;refine cns 0 (λK n=>?_) ?_
      ·skip;go_simp;have o:=Np (show wr.gb ((wr.alloc (.cells #[] 3)).drew) Ns/\((wr.alloc (.cells #[] 3)).drew).heap[wr.heap.size]?=Nq (.cells #[] 3 (0,0))/\wr.heap.size<=wr.heap.size from mU f 3 _);generalize (wr.alloc (.cells #[] 3)).drew=WF at o ⊢;replace f:=Np o.1;have Y:=Np o.2.1;have G:=Np o.2.2;clear o;refine n.out _ _ (i _ f) (λhHeld=>?_);try go_frame
       refine rdy [4,9] ?_;refine cns 4 (λK n=>?_) ?_
       ·skip;refine kQ (.tmp 29) (.tmp 32) (R _ f) Y G (by omega) λvb vc WO d a=>?_;have s:=Np d;replace f:=Np (f.andThen a (λj e=>.inl (by cases e;exact G)));clear d a;refine n.out _ _ (i _ f) (λhHeld=>?_);refine rdc 9 λK n=>?_;go_simp;have o:=Np (show wr.gb (WO.alloc (.cells #[.int .i64 y] 3)) Ns/\(WO.alloc (.cells #[.int .i64 y] 3)).heap[WO.heap.size]?=Nq (.cells #[.int .i64 y] 3 (0,0))/\wr.heap.size<=WO.heap.size from mU f 3 _);replace s:=Np (s.alloc (.cells #[.int .i64 y] 3));generalize WO.alloc (.cells #[.int .i64 y] 3)=WT at o s ⊢;replace f:=Np o.1;have I:=Np o.2.1;clear o;refine n.out _ _ (i _ f) (λhHeld=>?_);refine rdc 10 λK n=>?_;refine oF (.tmp 33) (.tmp 38) s I (by omega) f.size λg c WR d a=>?_;have C:=Np d;replace f:=Np (f.andThen a (λj e=>.inl (s.lt j e).1));clear d a;refine n.out _ _ (i _ f) (λhHeld=>?_);refine rdc 14 λK n=>?_;refine jE (.tmp 39) (.tmp 42) C (Q _ f) f.size (by omega) (by omega) λg c WS d a=>?_;have S:=Np d;replace f:=Np (f.andThen a (λj e=>.inl (C.lt j e).1));clear d a;refine n.out _ _ (i _ f) (λhHeld=>?_);try go_frame
        refine⟨by kernel_rfl,?_⟩;simp only[Oi,OH];clear hHeld;go_wp2;go_roundw
        case rel=>exact⟨k+1,by simp,by omega,(HG.t D).t f,At N T S,by rw[N];have h2:=H.out;have h3:=b0.out;simp;omega⟩
        case measure=>simp[OP];omega
       refine cns 9 (λK n=>?_) ?_
       ·skip;go_simp;have o:=Np (show wr.gb (WF.alloc (.cells #[.int .i64 y] 3)) Ns/\(WF.alloc (.cells #[.int .i64 y] 3)).heap[WF.heap.size]?=Nq (.cells #[.int .i64 y] 3 (0,0))/\wr.heap.size<=WF.heap.size from mU f 3 _);replace Y:=Np (aE (p:=(.cells #[.int .i64 y] 3)) Y);generalize WF.alloc (.cells #[.int .i64 y] 3)=WT at o Y ⊢;replace f:=Np o.1;have I:=Np o.2.1;clear o;refine n.out _ _ (i _ f) (λhHeld=>?_);refine rdc 4 λK n=>?_;refine kQ (.tmp 29) (.tmp 32) (R _ f) Y G (by omega) λvb vc WO d a=>?_;have s:=Np d;replace I:=Np (blk a (by simp;(try omega);(try exact λe=>(have h1:=Y.out;have h2:=I.out;by rw[<- e,h2] at h1;cases h1))) I);replace f:=Np (f.andThen a (λj e=>.inl (by cases e;exact G)));clear d a;refine n.out _ _ (i _ f) (λhHeld=>?_);refine rdc 10 λK n=>?_;refine oF (.tmp 33) (.tmp 38) s I (by omega) f.size λg c WR d a=>?_;have C:=Np d;replace f:=Np (f.andThen a (λj e=>.inl (s.lt j e).1));clear d a;refine n.out _ _ (i _ f) (λhHeld=>?_);refine rdc 14 λK n=>?_;refine jE (.tmp 39) (.tmp 42) C (Q _ f) f.size (by omega) (by omega) λg c WS d a=>?_;have S:=Np d;replace f:=Np (f.andThen a (λj e=>.inl (C.lt j e).1));clear d a;refine n.out _ _ (i _ f) (λhHeld=>?_);try go_frame
        refine⟨by kernel_rfl,?_⟩;simp only[Oi,OH];clear hHeld;go_wp2;go_roundw
        case rel=>exact⟨k+1,by simp,by omega,(HG.t D).t f,At N T S,by rw[N];have h2:=H.out;have h3:=b0.out;simp;omega⟩
        case measure=>simp[OP];omega
       exact bf.nil
      refine cns 9 (λK n=>?_) ?_
      ·skip;go_simp;have o:=Np (show wr.gb ((wr.alloc (.cells #[.int .i64 y] 3)).drew) Ns/\((wr.alloc (.cells #[.int .i64 y] 3)).drew).heap[wr.heap.size]?=Nq (.cells #[.int .i64 y] 3 (0,0))/\wr.heap.size<=wr.heap.size from mU f 3 _);generalize (wr.alloc (.cells #[.int .i64 y] 3)).drew=WT at o ⊢;replace f:=Np o.1;have I:=Np o.2.1;clear o;refine n.out _ _ (i _ f) (λhHeld=>?_);refine rdc 0 λK n=>?_;go_simp;have o:=Np (show wr.gb (WT.alloc (.cells #[] 3)) Ns/\(WT.alloc (.cells #[] 3)).heap[WT.heap.size]?=Nq (.cells #[] 3 (0,0))/\wr.heap.size<=WT.heap.size from mU f 3 _);replace I:=Np (aE (p:=.cells #[] 3) I);generalize WT.alloc (.cells #[] 3)=WF at o I ⊢;replace f:=Np o.1;have Y:=Np o.2.1;have G:=Np o.2.2;clear o;refine n.out _ _ (i _ f) (λhHeld=>?_);refine rdc 4 λK n=>?_;refine kQ (.tmp 29) (.tmp 32) (R _ f) Y G (by omega) λvb vc WO d a=>?_;have s:=Np d;replace I:=Np (blk a (by simp;(try omega);(try exact λe=>(have h1:=Y.out;have h2:=I.out;by rw[<- e,h2] at h1;cases h1))) I);replace f:=Np (f.andThen a (λj e=>.inl (by cases e;exact G)));clear d a;refine n.out _ _ (i _ f) (λhHeld=>?_);refine rdc 10 λK n=>?_;refine oF (.tmp 33) (.tmp 38) s I (by omega) f.size λg c WR d a=>?_;have C:=Np d;replace f:=Np (f.andThen a (λj e=>.inl (s.lt j e).1));clear d a;refine n.out _ _ (i _ f) (λhHeld=>?_);refine rdc 14 λK n=>?_;refine jE (.tmp 39) (.tmp 42) C (Q _ f) f.size (by omega) (by omega) λg c WS d a=>?_;have S:=Np d;replace f:=Np (f.andThen a (λj e=>.inl (C.lt j e).1));clear d a;refine n.out _ _ (i _ f) (λhHeld=>?_);try go_frame
       refine⟨by kernel_rfl,?_⟩;simp only[Oi,OH];clear hHeld;go_wp2;go_roundw
       case rel=>exact⟨k+1,by simp,by omega,(HG.t D).t f,At N T S,by rw[N];have h2:=H.out;have h3:=b0.out;simp;omega⟩
       case measure=>simp[OP];omega
      exact bf.nil
  ·obtain rfl:k=l.length:=by omega
   clear hG hO;go_wp2;go_ret;refine⟨_,rfl,HG,?_,λb k c e=>by cases e;exact nH HO⟩;rw[<- k9];exact(aj.own HO (by have:=e4.out;omega)).mono (Sv HA.symm) (Nv _)
def uO(y:NH)(l:Nu NH):(wu y l).Perm (y::l):=by
 unfold wu;have h:=YH (a:=y) (l₁:=l.takeWhile λx=>decide (x<y)) (l₂:=l.dropWhile λx=>decide (x<y))
 rwa [UW] at h
def zD:∀(l o:Nu NH),(l.foldl (λo y=>wu y o) o).Perm (l++o)
 | [],_=>List.Perm.refl _
 | y::l,o=>(zD l (wu y o)).t (((uO y o).append_left l).t (YH))
def oZ(l:Nu NH):(pd l).Perm l:=by
 have h:=zD l []
 rwa [SV] at h
def pf(w:Nt)(a:Obj):∃A b,A=w.heap.size/\b=w.alloc a/\w.gb b Ns/\b.heap[A]?=Nq a:=⟨_,_,rfl,rfl,Nr _ _ Ns,NL w _⟩
def yn:∀k (l q:Nu NH),q∈kD k l->∀x∈q,x∈l
 | 0,_,q,b,x,a=>by simp[kD] at b;subst b;cases a
 | k+1,l,q,b,x,a=>by
  have⟨i,d,e⟩:=Sc.1 b;obtain⟨m,hm,rfl⟩:=Qp.1 e;have c:=Py.1 d;rcases ON.1 a with rfl | a
  ·rw[ND c];exact RL _
  ·exact(RS.1 (yn k _ m hm x a)).1
def cy(b:Nu Par)(a:NH)(l:Nu NH):Nu (Nu NH):=(kD l.length (pd l)).filter (bK b a)
def uT(pv qv:Ny)(b:Nu Par)(a:NH)(l:Nu NH)(w:Nt)(hP:bH 0 w.heap.size w pv b)(hI:aS 0 w.heap.size w qv l)(hy:YOk b a)(hx:∀x∈l,0<=x/\x<b.length)(e4:l.Nodup)(hn:l.length<=5) :Oz Ya 115 #[.agg #[pv,a],qv] w λe w'=>∃v,e=.returned v/\w.gb w' Ns/\bF w.heap.size w' v (cy b a l):=by
 have⟨j0,e8,d7,d6,d5⟩:=PM Tp.info29L;obtain⟨S,R,rfl,p5,-⟩:=hP.cell;obtain⟨base,h8,rfl,p8,-⟩:=hI.cell;have⟨Y,H,hY,X,c,P⟩:=pf w (.cells #[.slice S b.length R,a] 24);have a9:=λ(W:Nt) (h:H.gb W Ns)=>((hP.kept (c.t h)).mono (Nv _) (c.t h).size:bH 0 W.heap.size W (.slice S b.length R) b);have l6:=Np (show aS 0 H.heap.size H (.slice base l.length h8) l from(hI.kept c).mono (Nv _) c.size);have b0:=Np (show ∀W,H.gb W Ns->W.cell? Y=Nq (.slice S b.length R)/\W.cell? ⟨Y,1,Ns⟩=Nq (.int .i64 a) from λW h=>⟨aa (bk h P) rfl,aa (bk h P) rfl⟩);obtain⟨L,V⟩:∃L,L=kD l.length (pd l):=⟨_,rfl⟩;have d:=oZ l;have k7:=Np (show(pd l).Nodup from d.nodup_iff.2 e4);have k9:=Np (show(pd l).length=l.length from d.length_eq);have f:=kW l.length (pd l) (by rw[d.length_eq];exact hn);have q1:L.length<=3125:=by rw[V];exact NM f.1 (qm hn)
 have l9:=Np λ(W:Nt) (h:H.gb W Ns) (q:Nu NH) (u:q∈L) (v:Ny) (hv:aS 0 W.heap.size W v q)=>DX 0 0 _ v b a q W (a9 W h) hv hy (λx d9=>hx x (d.subset (yn _ _ q (V ▸ u) x d9))) (by have:=f.2 q (V ▸ u);omega);have k8:=Np (show cy b a l=L.filter (bK b a) by rw[V];rfl);have⟨HW,HY,b8,l4⟩:=cJ X hY c V;have e7:l.length<=500:=by omega
 clear hP hI hY X c P a9 d f V hx;go_enter Tp.x115,Tryz.ntmps115;go_upto_region 1 with(fail);rw[<- HY,show w.alloc (.cells #[.slice S b.length R,a] 24)=H from HW.symm];go_upto_region 3 with(first
  | (go_at_call 87;refine(Ii 0 _ _ l H l6 e7).mono ?_;rintro e w2 ⟨v2,rfl,a7,N,-⟩;obtain⟨b2,c2,rfl,-,-⟩:=N.cell;have l8:=Np a7;have l5:=Np N;clear a7 N)
  | (go_at_call 148;refine(pC l.length hn _ _ b2 c2 _ w2 l5.g k7 k9).mono ?_;rintro e w3 ⟨v3,rfl,a6,s⟩;rw[<- l4] at s;obtain⟨la,lc,rfl,-⟩:=s.at;have o:=Np (l8.t a6);have HR:=Np s;clear a6 s))
 obtain⟨A,hA⟩:∃A,A=w3.heap.size:=⟨_,rfl⟩;have HA:=Np hA;clear hA;go_wp2;go_loopw [5,7] (λov iv wr=>∃i:NA,iv=.int .i64 i/\i<=L.length/\w3.gb wr Ns/\bF A wr ov ((L.take i).filter (bK b a))) (λ_ iv _=>(L.length - OP iv).toNat)
 case atStart=>exact⟨0,rfl,by omega,NN _ _,bF.nil _ _⟩
 case round=>
  obtain⟨i,rfl,hi,G,hO⟩:=hrel;have Q:=Np G;by_cases e6:i<L.length
  ·obtain⟨q,u⟩:∃q,L[i]?=Nq q:=⟨_,ND e6⟩;obtain⟨vs,z,O⟩:=hO;obtain⟨na,nc,rfl,-⟩:=gN z;have⟨_,_,er,hr⟩:=(HR.kept G).at;injection er with er1 _ er3;subst er1 er3;obtain⟨g,rfl,D⟩:=hr (by omega);have⟨y,hy,I⟩:=D i q u;obtain⟨U,T,rfl,-,-⟩:=I.cell;have p9:(i:NH)<(L.length:NH):=by omega
   have r:=Np (DY (p:=bK b a) L i q u);obtain⟨M,hM⟩:∃M,M=(L.take i).filter (bK b a):=⟨_,rfl⟩;have q0:M.length<=3125:=by
    rw[hM];exact NM (PS _ _) (by rw[Qt];omega)
   rw[<- hM] at z O r ⊢;have⟨HI,B,h9⟩:=bC O z I;have g9:A<=wr.heap.size:=by have:=HA.out;have:=G.size;omega
   have b6:=Np (show ∀W,wr.gb W Ns->W.cell? Y=Nq (.slice S b.length R)/\W.cell? ⟨Y,1,Ns⟩=Nq (.int .i64 a)/\W.cell? ⟨g,i,Ns⟩=Nq (.slice U q.length T) from λW h=>⟨(b0 W ((o.t G).t h)).1,(b0 W ((o.t G).t h)).2,h.cl hy⟩);have b9:=Np λ(W:Nt) (h:wr.gb W Ns)=>l9 W ((o.t G).t h) q (Od u) _ ((I.kept h).mono (Nv _) h.size).g;generalize bK b a q=fq at r b9;clear G O z D hr hM u;go_upto_region 6 with(fail);go_cut [22] from 17 to 22 (λc8 wx=>c8=.bool fq/\wr.gb wx Ns)
   case first=>
    have HT:=Np (ai wr Ns);refine aI 5 (λW=>W.cell? Y=Nq (.slice S b.length R)/\W.cell? ⟨Y,1,Ns⟩=Nq (.int .i64 a)/\W.cell? ⟨g,i,Ns⟩=Nq (.slice U q.length T)) (by kernel_rfl) (by kernel_rfl) (b6 _ HT) (λhHeld=>?_);simp only[NQ,NU,Oh,OV,Oc,Oj,Ol,Ow,On,Oa];refine tk 0 (h:=tk 1 (h:=tk 2 (h:=tk 3 (h:=tk 4 (h:=?_)))));try go_frame
    refine⟨by kernel_rfl,?_⟩;simp only[Oi,OH];clear hHeld;go_wp2_with (go_at_call 132;refine(b9 _ HT).mono ?_;rintro e w6 ⟨rfl,Z⟩;have G6:=Np (HT.t Z);clear Z);go_meet;exact⟨rfl,G6⟩
   case rest=>
   obtain⟨rfl,hg⟩:=hcut;have l7:=Np (Q.t hg);have C:=Np hg;obtain⟨-,-,p6⟩:=b6.out wc hg;have q2:A<=wc.heap.size:=NM g9 hg.size;clear hg;cases fq with
   | true=>
    rw[if_pos rfl] at r;go_wp2_with (at_builtin;(refine Rv _ rfl _ _ 36 rfl A 29 j0 _ 1 24 Tp.und36L e8 d7 d6 d5 rfl (by decide) (.slice na M.length nc) M.length vs rfl ((B.kept C (Tx _)).alloc _) ⟨wc.heap.size,0,Ns⟩ 1 1 [.slice U q.length T] rfl rfl (Pt (cs:=#[.slice U q.length T]) (t:=29) (fr:=(0,0)) (NL wc _)) (by simp[PT]) (by unfold Rh;omega) (by omega) (by simp;omega) ?_);intro v5 w5 F k _;have HW:=Np F;have b7:=Np k;clear F k);have n:=C.out.t (Nr wc (.cells #[.slice U q.length T] 29) Ns);have k6:=bF.push ((B.kept C (Tx _)).alloc (.cells #[.slice U q.length T] 29)) (λj x q hx u=>((HI j x q hx u).kept n).mono (Nv _) n.size) ((h9.kept n).mono (Nv _) n.size) HW b7;have g8:=Qy (row:=Ns) (Q.t n) b7 (λj e=>.inl (by have:=(B.lt j e).1;have:=HA.out;omega));go_roundw
    case rel=>exact⟨i+1,by simp,by omega,g8,by rw[r];exact k6⟩
    case measure=>simp[OP];omega
   | false=>
    go_wp2;go_roundw
    case rel=>exact⟨i+1,by simp,by omega,l7,by rw[r];simpa using bF.kept (show bF A _ _ M from⟨vs,B,HI⟩) C⟩
    case measure=>simp[OP];omega
  ·obtain rfl:i=L.length:=by omega
   have HO:=Np hO;clear G hO;go_wp2;go_ret;have h1:=HO.out;rw[Ps] at h1;exact⟨_,rfl,b8.t (o.t Q),by rw[k8];exact h1.low (by rw[HA];exact NM b8.size o.size)⟩




end
section
open Go.RowKit Go.Shelf
attribute [local go_sem] Oper.semAt_some
structure FrmN(w3:Nt)(Bl N:NA)(W:Nt):Prop where
 os:W.os=w3.os
 tape:W.tape=w3.tape
 output:W.output=w3.output
 size:w3.heap.size<=W.heap.size
 keep:∀k,k<w3.heap.size->k≠Bl->k≠N->W.heap[k]?=w3.heap[k]?
def No(b:Nu Par)(a:NH)(l d:Nu NH)(n:NA)(w:Nt)(v:Ny)(c:NH):Prop :=
 (¬ aN b l<=a/\v=.slice Ns 0 0/\c=10)\/(aN b l<=a/\(fK d).find? (bK b a)=Ns/\v=.slice Ns 0 0/\c=11)\/(aN b l<=a/\c=0/\∃x,(fK d).find? (bK b a)=Nq x/\aj n w.heap.size w v x)
def Do(P qv:Ny)(f:Nu Par)(a:NH)(l j:Nu NH)(w:Nt)(F:aD 0 w.heap.size w P f)(G:aj 0 w.heap.size w qv l)(k:YOk f a)(r:PIn f l)(R:lF l j)(C:l.Perm j) :Oz Ya 56 #[.agg #[P,a],qv] w λe O=>∃v c,e=.returned (.tuple #[v,.int .i64 c])/\w.gb O Ns/\No f a l j w.heap.size O v c:=by
 obtain⟨A,z,rfl,V,-⟩:=F.cell;obtain⟨base,L,rfl,Y,-⟩:=G.cell;have g:=Nr w (.cells #[.slice A f.length z,a] 24) Ns;have u:=Np (yr 0 w.heap.size _ _ f a l _ (F.kept g) (G.kept g) g.size k r);have N:=Np g;have hm:∀x∈j,0<=x/\x<5:=λx q=>by have:=r.ok x (C.symm.subset q);have:=k.len;omega
 have I:=C.nodup_iff.1 r.nd;have Q:j.length<=5:=by
  have h1:=dg 5 j I hm;omega
 have H:=Np λ(W:Nt) (h:w.gb W Ns)=>uS (.agg #[.slice A f.length z,a]) (.slice base l.length L) f a l j W ⟨_,rfl,(F.kept h).mono (Nv _) h.size⟩ ((G.kept h).mono (Nv _) h.size) k R hm I Q
  (λx h1 h2 Z=>⟨λy X=>r.ok y (C.symm.subset (Z y X)),h2,by omega⟩)
 clear g F G k r R C hm I Q;by_cases D:aN f l<=a
 ·rw[show ss f a l=0 from if_pos D] at u;have S:=Np D;clear D;cases hfd:(aX j j.length []).find? (bK f a) with
  | none=>
   rw[hfd] at H;have o:=Np hfd;clear hfd;go_enter Tp.x56,WK;go_wp2_with (first
    | (go_at_call 81;refine u.mono ?_;rintro e B ⟨rfl,b⟩;have d:=Np ((N.t b).t (Nr B (.cells #[.slice A f.length z,a] 91) Ns));clear b)
    | (go_at_call 102;refine(H _ d).mono ?_;rintro e T ⟨i,⟨x,U,q,-⟩ | ⟨-,rfl⟩⟩;cases q;have n:=Np i;clear i))
   go_ret2;exact⟨_,_,rfl,d.t n,Or.inr (Or.inl ⟨S,o,rfl,rfl⟩)⟩
  | some p=>
   rw[hfd] at H;have o:=Np hfd;clear hfd;go_enter Tp.x56,WK;go_wp2_with (first
    | (go_at_call 81;refine u.mono ?_;rintro e B ⟨rfl,b⟩;have d:=Np ((N.t b).t (Nr B (.cells #[.slice A f.length z,a] 91) Ns));clear b)
    | (go_at_call 102;refine(H _ d).mono ?_;rintro e T ⟨i,⟨x,U,q,rfl,s⟩ | ⟨q,-⟩⟩<;>cases q;have n:=Np i;have M:=Np s;clear i s))
   go_ret2;exact⟨_,_,rfl,d.t n,Or.inr (Or.inr ⟨S,rfl,p,o,M.mono d.size (Nv _)⟩)⟩
 ·rw[show ss f a l=10 from if_neg D] at u;go_enter Tp.x56,WK;go_wp2_with (go_at_call 81;refine u.mono ?_;rintro e B ⟨rfl,b⟩;have d:=Np (N.t b);clear b);go_ret2;exact⟨_,_,rfl,d.t (Nr _ _ Ns),Or.inl ⟨by omega,rfl,rfl⟩⟩
end
section
open Go.RowKit
def KY(n:NA):OI:=(Oo (n+1)).all λk=>(rj (bn n) k).all λq=>(kD q.length (pd q) == fK q) && (q.length == k) && (fK q).all λp=>p.length == k
def Dj:∀n,n<=5->KY n=NB
 | 0,_=>by kernel_rfl
 | 1,_=>by kernel_rfl
 | 2,_=>by kernel_rfl
 | 3,_=>by kernel_rfl
 | 4,_=>by kernel_rfl
 | 5,_=>by kernel_rfl
 | n+6,h=>by omega
def Jf{n k:NA}(d:n<=5)(e:k<=n){q:Nu NH}(c:q∈rj (bn n) k):(∀b a,cy b a q=(fK q).filter (bK b a))/\q.length=k/\∀p∈fK q,p.length=k:=by
 have h:=OF.1 (OF.1 (Dj n d) k (Py.2 (by omega))) q c;simp only[Of,beq_iff_eq,OF] at h;exact⟨λb a=>by unfold cy;rw[h.1.1],h.1.2,h.2⟩
def nD(u v:NH)(s:OI × OI)(x:NH):OI × OI:=(s.1 || (decide (x=u) && !s.2),s.2 || decide (x=v))
def nE(u v:NH)(b:Nu NH):OI × OI:=b.foldl (nD u v) (NC,NC)
def twB(a b:Nu NH)(i k:NA):OI:=(nE (a[i]?.getD 0) (a[k]?.getD 0) b).1
def kr(a b:Nu NH):NA->NA
 | 0=>0
 | i+1=>kr a b i+(Oo i).countP (twB a b i)
def xx(a b:Nu NH):∀i,kr a b i<=i*i
 | 0=>Nv _
 | i+1=>by
  have e:=xx a b i;have d:(Oo i).countP (twB a b i)<=i:=NM WX (by simp);have c:(i+1)*(i+1)=i*i+i+i+1:=by rw[TY,Nat.mul_add];omega
  unfold kr;omega
def oh(p:NA->OI)(k:NA):(Oo (k+1)).countP p=(Oo k).countP p+if p k=NB then 1 else 0:=by
 rw[RF,List.countP_append];simp[List.countP_cons]
def pk(va vb:Ny)(a b:Nu NH)(w:Nt)(hA:aS 0 w.heap.size w va a)(hB:aS 0 w.heap.size w vb b)(h5:a.length<=5) :Oz Ya 116 #[va,vb] w λe w'=>e=.returned (.int .i64 (kr a b a.length:NA))/\w.gb w' Ns:=by
 obtain⟨ba,ca,rfl,g5,G⟩:=hA.cell;obtain⟨bb,cb,rfl,e9,F⟩:=hB.cell;have S:=Np (show ∀i,i<a.length->∃B o,ba=Nq ⟨B,o,Ns⟩/\∀W,w.gb W Ns->W.cell? ⟨B,o+i,Ns⟩=Nq (.int .i64 (a[i]?.getD 0)) from λi p=>by
  obtain⟨B,o,e,-,-,-,h4⟩:=G (by intro e;rw[e] at p;simp at p);exact⟨B,o,e,λW h=>h.cl (h4 i p)⟩)
 have c3:=Np (show ∀i,i<b.length->∃B o,bb=Nq ⟨B,o,Ns⟩/\∀W,w.gb W Ns->W.cell? ⟨B,o+i,Ns⟩=Nq (.int .i64 (b[i]?.getD 0)) from λi p=>by
  obtain⟨B,o,e,-,-,-,h4⟩:=F (by intro e;rw[e] at p;simp at p);exact⟨B,o,e,λW h=>h.cl (h4 i p)⟩)
 clear hA hB G F;go_enter Tp.x116,Tryz.ntmps116;go_wp2;go_loopw [5,6] (λV Y wr=>∃i:NA,Y=.int .i64 i/\i<=a.length/\V=.int .i64 (kr a b i:NA)/\w.gb wr Ns) (λ_ Y _=>(a.length - OP Y).toNat)
 case atStart=>exact⟨0,rfl,by omega,rfl,NN _ _⟩
 case round=>
  obtain⟨i,rfl,p,rfl,c⟩:=hrel;have HG:=Np c;clear c;by_cases a6:i<a.length
  ·have g7:(i:NH)<(a.length:NH):=by omega
   have A:kr a b i<=25:=NM (xx a b i) (UT (show i<=5 by omega) (show i<=5 by omega));obtain⟨N,hN⟩:∃N,N=kr a b i:=⟨_,rfl⟩;have b8:=Np (show kr a b (i+1)=N+(Oo i).countP (twB a b i) by rw[hN];rfl);rw[<- hN] at A ⊢;clear hN;obtain⟨A1,o1,rfl,D⟩:=S.out i a6;have R:=Np D;clear D;go_wp2;go_loopw [5,7] (λV X wr=>∃k:NA,X=.int .i64 k/\k<=i/\V=.int .i64 (N+(Oo k).countP (twB a b i):NA)/\w.gb wr Ns) (λ_ X _=>(i - OP X).toNat)
   case atStart=>exact⟨0,rfl,by omega,by simp,HG⟩
   case round=>
    obtain⟨k,rfl,hk,rfl,c⟩:=hrel;have P:=Np c;clear c;by_cases g6:k<i
    ·have a7:(k:NH)<(i:NH):=by omega
     have⟨_,_,e1,C⟩:=S.out k (by omega);cases e1;have Q:=Np C;have a8:(Oo k).countP (twB a b i)<=5:=NM WX (by simp;omega);have n:=Np (oh (twB a b i) k);have l:=Np (show twB a b i k=(nE (a[i]?.getD 0) (a[k]?.getD 0) b).1 from rfl);generalize (Oo k).countP (twB a b i)=M at a8 n ⊢;have e8:IntKind.i64.wrap (((N+M:NA):NH)+1)=((N+M:NA):NH)+1:=Ov _ (by omega);generalize twB a b i k=tb at n l;generalize a[i]?.getD 0=u at R l;generalize a[k]?.getD 0=v at Q l;clear C;go_wp2;go_loopw [8,9,10] (λfv sv T wr=>∃x:NA,T=.int .i64 x/\x<=b.length/\fv=.bool (nE u v (b.take x)).1/\sv=.bool (nE u v (b.take x)).2/\w.gb wr Ns) (λ_ _ T _=>(b.length - OP T).toNat)
     case atStart=>exact⟨0,rfl,by omega,rfl,rfl,P⟩
     case round=>
      obtain⟨x,rfl,hx,rfl,rfl,c⟩:=hrel;have b9:=Np c;by_cases y:x<b.length
      ·have e7:(x:NH)<(b.length:NH):=by omega
       obtain⟨B1,o2,rfl,j⟩:=c3.out x y;obtain⟨z,Z⟩:∃z,b[x]?=Nq z:=⟨_,ND y⟩;have r:=Np (show nE u v (b.take (x+1))=nD u v (nE u v (b.take x)) z by
        unfold nE;rw[OR,Z,US];rfl)
       rw[Z] at j;simp only[NK] at j;have HX:=Np λ(W:Nt) (h:wr.gb W Ns)=>NY (j W (c.t h)) (NY (R W (c.t h)) (Q W (c.t h)));generalize nE u v (b.take x)=st at r ⊢;obtain⟨f,s⟩:=st;dsimp only;clear c j Z;cases s<;>by_cases g:z=u<;>by_cases d:z=v;all_goals
        have I:(z == u)=decide (z=u):=by by_cases h:z=u<;>simp[h]
        have H:(z == v)=decide (z=v):=by by_cases h:z=v<;>simp[h]
        first
         | rw[decide_eq_true g] at I
         | rw[decide_eq_false g] at I
        first
         | rw[decide_eq_true d] at H
         | rw[decide_eq_false d] at H
        have⟨b7,b6⟩:=aQ g d;clear g d;obtain⟨U,x2,-⟩:=HX.out wr (NN _ _);go_upto_region 12 with(fail);go_quiet (fail);go_upto_region 14 with(fail);have q:=ax wr nq Ns;clear U x2;obtain⟨U,-,x3⟩:=HX.out _ q;have O:=Np (b9.t q);generalize wr.drewN nq=w3 at U x3 O ⊢;clear q;go_quiet (fail);go_wp2;go_roundw
        case rel=>exact⟨x+1,by simp,by omega,by rw[r];simp[nD,b7.out],by rw[r];simp[nD,b6.out],O.t (ax _ _ Ns)⟩
        case measure=>simp[OP];omega
      ·obtain rfl:x=b.length:=by omega
       rw[Ps,<- l];have L:=Np c;clear c;cases tb
       ·go_wp2;go_roundw
        case rel=>exact⟨k+1,by simp,by omega,by rw[n];simp,L⟩
        case measure=>simp[OP];omega
       ·go_wp2;go_roundw
        case rel=>exact⟨k+1,by simp,by omega,by rw[n];simp;omega,L⟩
        case measure=>simp[OP];omega
    ·obtain rfl:k=i:=by omega
     have a7:¬ (k:NH)<(k:NH):=by omega
     go_wp2;go_roundw
     case rel=>exact⟨k+1,by simp,by omega,by rw[b8],P⟩
     case measure=>simp[OP];omega
  ·obtain rfl:i=a.length:=by omega
   go_wp2;go_ret;exact⟨rfl,HG⟩
def trn(l s:Nu NH):NA:=kr l s l.length
def mnI(l:Nu NH)(L:Nu (Nu NH)):NA->NA
 | 0=>0
 | i+1=>if trn l (L[i]?.getD [])<trn l (L[mnI l L i]?.getD []) then i else mnI l L i
def AA(l:Nu NH)(L:Nu (Nu NH))(h:0<L.length):∀i,i<=L.length->mnI l L i<L.length
 | 0,_=>h
 | i+1,a=>by
  have:=AA l L h i (by omega);unfold mnI;split<;>omega
def mdB(l:Nu NH)(L:Nu (Nu NH)):Nu NH:=L[mnI l L L.length]?.getD []
def mdL(b:Nu Par)(a:NH)(l:Nu NH):Nu NH:=if dN b a l=0/\cy b a l≠[] then mdB l (cy b a l) else[]
def mdN(b:Nu Par)(a:NH)(l:Nu NH):NH:=if dN b a l=0/\cy b a l≠[] then(trn l (mdB l (cy b a l)):NA) else 0
def mdE(b:Nu Par)(a:NH)(l:Nu NH):NH:=if dN b a l=0 then(if cy b a l=[] then 11 else 0) else dN b a l
def odL(b:Nu Par)(a:NH)(l:Nu NH):Nu NH:=if dN b a l=0 then(cy b a l).headD [] else[]
def Av(pv qv:Ny)(d:Nu Par)(a:NH)(l:Nu NH)(w:Nt)(U:bH 0 w.heap.size w pv d)(V:aS 0 w.heap.size w qv l)(O:l.length<=1000)(B:∀b n c,qv=.slice b n c->n<=c) :Oz Ya 57 #[.agg #[pv,a],qv] w λe X=>∃v,e=.returned (.tuple #[v,(mdE d a l)])/\w.gb X Ns/\aj 0 X.heap.size X v (odL d a l):=by
 obtain⟨G,F,rfl,e6,-⟩:=U.cell;obtain⟨base,a9,rfl,g6,-⟩:=V.cell;have⟨Y,z,hY,C,f,j⟩:=pf w (.cells #[.slice G d.length F,a] 24);have u:=λ(W:Nt) (h:z.gb W Ns)=>((U.kept (f.t h)).mono (Nv _) (f.t h).size:bH 0 W.heap.size W (.slice G d.length F) d);have k:=λ(W:Nt) (h:z.gb W Ns)=>((V.kept (f.t h)).mono (Nv _) (f.t h).size:aS 0 W.heap.size W (.slice base l.length a9) l);have x:=Np (lD _ _ d a l z (u _ (NN _ _)) (k _ (NN _ _)) O B);have b7:=Np (show ∀W,z.gb W Ns->W.cell? Y=Nq (.slice G d.length F)/\W.cell? ⟨Y,1,Ns⟩=Nq (.int .i64 a) from λW h=>⟨aa (bk h j) rfl,aa (bk h j) rfl⟩);have⟨HW,HY,D⟩:=bC C hY f;have q0:=aa j (o:=0) rfl;have q1:=aa j (o:=1) rfl;clear B;by_cases r:dN d a l=0;rotate_left
 ·have a7:(dN d a l == 0)=NC:=by rw[beq_eq_false_iff_ne];exact r
  rw[show mdE d a l=dN d a l from if_neg r,show odL d a l=[] from if_neg r];clear U V u k C hY f j r;generalize dN d a l=c at x a7 ⊢;go_enter Tp.x57,ZV;go_upto_region 1 with(fail);rw[<- HY,show w.alloc (.cells #[.slice G d.length F,a] 24)=z from HW.symm];go_wp2_with (go_at_call 50;refine x.mono ?_;rintro e w2 ⟨rfl,i⟩;have p:=Np (D.t i);clear i);go_ret2;exact⟨_,rfl,p,aj.nil _ _ _⟩
 have⟨Z,M⟩:=vS r;rw[r] at x;have H0:=Np r;have h5:=Z.len;have N:l.length<=5:=NM (dg d.length l M.nd M.ok) h5;have R:=Np λ(W:Nt) (h:z.gb W Ns)=>uT _ _ d a l W (u W h) (k W h) Z M.ok M.nd N;have b6:=Np λ(W:Nt) (h:z.gb W Ns) (s:Nu NH) (v:Ny) (hv:aS 0 W.heap.size W v s)=>pk _ v l s W (k W h) hv N;have HE:=Np (show mdE d a l=(if cy d a l=[] then 11 else 0) from if_pos r);have HO:=Np (show odL d a l=(cy d a l).headD [] from if_pos r);clear U V u k C hY f j r Z M b6;generalize cy d a l=L at R HE HO;go_enter Tp.x57,ZV;go_upto_region 1 with(fail);rw[<- HY,show w.alloc (.cells #[.slice G d.length F,a] 24)=z from HW.symm];go_upto_region 4 with(go_at_call 50;refine x.mono ?_;rintro e w2 ⟨rfl,i⟩;have d5:=i;have p:=Np i;clear i);have⟨e4,d8⟩:=b7.out w2 p;clear q0 q1;go_upto_region 5 with(go_at_call 115;refine(R _ p).mono ?_;rintro e w3 ⟨v3,rfl,P,I⟩;have Q:=Np (p.t P);have HR:=Np (I.low (OE _));clear P I);obtain⟨la,lc,rfl,S⟩:=HR.out.at;cases L with
 | nil=>
  simp only[NU];clear S;go_wp2;go_ret2;rw[HE,HO];exact⟨_,rfl,D.t Q,aj.nil _ _ _⟩
 | cons q T=>
  obtain⟨n,hn,a6⟩:∃n,n=(q::T).length/\0<n:=⟨_,rfl,by simp⟩;rw[<- hn] at S ⊢;obtain⟨g,rfl,A⟩:=S a6;have⟨y,e7,H⟩:=A 0 q rfl;have g5:((n:NH) == 0)=NC:=by rw[beq_eq_false_iff_ne];omega
  have e9:(0:NH)<(n:NH):=by omega
  have b0:=Np H;clear hn S A H;go_wp2;go_ret2;rw[HE,HO];exact⟨_,rfl,D.t Q,b0⟩
def Dx(pv qv:Ny)(d:Nu Par)(a:NH)(l:Nu NH)(w:Nt)(hP:bH 0 w.heap.size w pv d)(hI:aS 0 w.heap.size w qv l)(d6:l.length<=1000)(T:∀b n c,qv=.slice b n c->n<=c) :Oz Ya 55 #[.agg #[pv,a],qv] w λe D=>∃v,e=.returned (.tuple #[(mdN d a l),v,(mdE d a l)])/\w.gb D Ns/\aj 0 D.heap.size D v (mdL d a l):=by
 obtain⟨yb,yc,rfl,q2,-⟩:=hP.cell;obtain⟨base,H,rfl,q4,-⟩:=hI.cell;have⟨Y,N,hY,V,r,x⟩:=pf w (.cells #[.slice yb d.length yc,a] 24);have Q:=λ(W:Nt) (h:N.gb W Ns)=>((hP.kept (r.t h)).mono (Nv _) (r.t h).size:bH 0 W.heap.size W (.slice yb d.length yc) d);have G:=λ(W:Nt) (h:N.gb W Ns)=>((hI.kept (r.t h)).mono (Nv _) (r.t h).size:aS 0 W.heap.size W (.slice base l.length H) l);have S:=Np (lD _ _ d a l N (Q _ (NN _ _)) (G _ (NN _ _)) d6 T);have m5:=Np (show ∀W,N.gb W Ns->W.cell? Y=Nq (.slice yb d.length yc)/\W.cell? ⟨Y,1,Ns⟩=Nq (.int .i64 a) from λW h=>⟨aa (bk h x) rfl,aa (bk h x) rfl⟩);have⟨HW,HY,b0⟩:=bC V hY r;have q0:=aa x (o:=0) rfl;have q1:=aa x (o:=1) rfl;clear T;by_cases A:dN d a l=0;rotate_left
 ·have l6:(dN d a l == 0)=NC:=by rw[beq_eq_false_iff_ne];exact A
  rw[show mdE d a l=dN d a l from if_neg A,show mdN d a l=0 from if_neg λh=>A h.1,show mdL d a l=[] from if_neg λh=>A h.1];clear hP hI Q G V hY r x A;generalize dN d a l=c at S l6 ⊢;go_enter Tp.x55,ZW;go_upto_region 1 with(fail);rw[<- HY,show w.alloc (.cells #[.slice yb d.length yc,a] 24)=N from HW.symm];go_wp2_with (go_at_call 50;refine S.mono ?_;rintro e w2 ⟨rfl,u⟩;have M:=Np (b0.t u);clear u);go_ret3;exact⟨_,rfl,M,aj.nil _ _ _⟩
 have⟨hy,hp⟩:=vS A;rw[A] at S;have H0:=Np A;have h5:=hy.len;have P:l.length<=5:=NM (dg d.length l hp.nd hp.ok) h5;have e9:=Np λ(W:Nt) (h:N.gb W Ns)=>uT _ _ d a l W (Q W h) (G W h) hy hp.ok hp.nd P;have I:=Np λ(W:Nt) (h:N.gb W Ns) (s:Nu NH) (v:Ny) (hv:aS 0 W.heap.size W v s)=>pk _ v l s W (G W h) hv P;have HE:=Np (show mdE d a l=(if cy d a l=[] then 11 else 0) from if_pos A);have HN:=Np (show cy d a l≠[]->mdN d a l=(trn l (mdB l (cy d a l)):NA) from λh=>if_pos ⟨A,h⟩);have HL:=Np (show cy d a l≠[]->mdL d a l=mdB l (cy d a l) from λh=>if_pos ⟨A,h⟩);have e4:=Np (show cy d a l=[]->mdN d a l=0 from λh=>if_neg λh2=>h2.2 h);have e6:=Np (show cy d a l=[]->mdL d a l=[] from λh=>if_neg λh2=>h2.2 h);have l8:(cy d a l).length<=3125:=NM (PS _ _) (NM (kW l.length (pd l) (by rw[(oZ l).length_eq];exact P)).1 (qm P));clear hP hI Q G V hY r x A hy hp;generalize cy d a l=L at e9 HE HN HL e4 e6 l8;go_enter Tp.x55,ZW;go_upto_region 1 with(fail);rw[<- HY,show w.alloc (.cells #[.slice yb d.length yc,a] 24)=N from HW.symm];go_upto_region 4 with(go_at_call 50;refine S.mono ?_;rintro e w2 ⟨rfl,u⟩;have n3:=u;have M:=Np u;clear u);have⟨p7,p5⟩:=m5.out w2 M;clear q0 q1;go_upto_region 5 with(go_at_call 115;refine(e9 _ M).mono ?_;rintro e w3 ⟨v3,rfl,d8,c9⟩;have e8:=Np (M.t d8);have HR:=Np (c9.low (OE _));clear d8 c9);obtain⟨la,lc,rfl,hr⟩:=HR.out.at;by_cases p:L=[]
 ·have U:=e4.out p;have e2:=e6.out p;have e3:=HE.out;rw[if_pos p] at e3;have E:=Np (NY U (NY e2 e3));subst p;simp only[NU];clear hr U e2 e3;go_wp2;go_ret3;rw[E.1,E.2.1,E.2.2];exact⟨_,rfl,b0.t e8,aj.nil _ _ _⟩
 ·have HE:=Np (show mdE d a l=0 by rw[HE,if_neg p]);have HN:=Np (HN p);have HL:=Np (HL p);have d9:0<L.length:=Ru.2 p;have q3:((L.length:NH) == 0)=NC:=by rw[beq_eq_false_iff_ne];omega
  have m6:=Np (AA l L d9);have a9:=Np (show ∀j,j<L.length->∀W,w3.gb W Ns->∃g C B,la=Nq ⟨g,0,Ns⟩/\W.cell? ⟨g,j,Ns⟩=Nq (.slice C (L[j]?.getD []).length B)/\aj 0 W.heap.size W (.slice C (L[j]?.getD []).length B) (L[j]?.getD []) from λj hj W h=>by
   obtain⟨g,rfl,c8⟩:=hr d9;have⟨y,k6,c3⟩:=c8 j L[j] (ND hj);rw[ND hj,NK];obtain⟨C,B,rfl,-,-⟩:=c3.cell;exact⟨g,C,B,rfl,h.cl k6,(c3.kept h).mono (Nv _) h.size⟩)
  have I:=Np (show ∀(W:Nt) (s:Nu NH) (v:Ny),N.gb W Ns->aj 0 W.heap.size W v s->Oz Ya 116 #[.slice base l.length H,v] W λe D=>e=.returned (.int .i64 (trn l s:NA))/\W.gb D Ns from λW s v h hv=>I W h s v hv.g);clear hr p;go_wp2;go_loopw [9,10] (λbv iv wr=>∃i:NA,iv=.int .i64 i/\i<=L.length/\bv=.int .i64 (mnI l L i:NA)/\w3.gb wr Ns) (λ_ iv _=>(L.length - OP iv).toNat)
  case atStart=>exact⟨0,rfl,by omega,rfl,NN _ _⟩
  case round=>
   obtain⟨i,rfl,hi,rfl,X⟩:=hrel;have HG:=Np X;have R:=Np (e8.t X);have O:=m6.out i hi;by_cases l5:i<L.length
   ·have q5:(i:NH)<(L.length:NH):=by omega
    have f:=Np (show mnI l L (i+1)=if trn l (L[i]?.getD [])<trn l (L[mnI l L i]?.getD []) then i else mnI l L i from rfl);generalize mnI l L i=mb at O f ⊢;have l4:(mb:NH)<(L.length:NH):=by omega
    have⟨g,ib,ic,U,k1,h2⟩:=a9.out i l5 wr X;cases U;have⟨_,C,B,U,k2,Z⟩:=a9.out mb O wr X;cases U;have HS:=Np (show ∀W,wr.gb W Ns->W.cell? ⟨g,i,Ns⟩=Nq (.slice ib (L[i]?.getD []).length ic)/\W.cell? ⟨g,mb,Ns⟩=Nq (.slice C (L[mb]?.getD []).length B) from λW h=>⟨h.cl k1,h.cl k2⟩);have a7:=Np (show ∀W,wr.gb W Ns->Oz Ya 116 #[.slice base l.length H,.slice ib (L[i]?.getD []).length ic] W λe D=>e=.returned (.int .i64 (trn l (L[i]?.getD []):NA))/\W.gb D Ns from λW h=>I W _ _ (R.t h) ((h2.kept h).mono (Nv _) h.size));have z:=Np (show ∀W,wr.gb W Ns->Oz Ya 116 #[.slice base l.length H,.slice C (L[mb]?.getD []).length B] W λe D=>e=.returned (.int .i64 (trn l (L[mb]?.getD []):NA))/\W.gb D Ns from λW h=>I W _ _ (R.t h) ((Z.kept h).mono (Nv _) h.size));generalize L[i]?.getD []=si at HS a7 f h2 k1;generalize L[mb]?.getD []=sb at HS z f Z k2;generalize trn l si=ti at a7 f;generalize trn l sb=tb at z f;clear X h2 Z k1 k2;go_upto_region 11 with(fail);go_cut [41] from 29 to 41 (λg8 wx=>g8=.bool (decide (ti<tb))/\wr.gb wx Ns)
    case first=>
      have q:=Np (ai wr Ns);refine aI 11 (λW=>W.cell? ⟨g,i,Ns⟩=Nq (.slice ib si.length ic)/\W.cell? ⟨g,mb,Ns⟩=Nq (.slice C sb.length B)) (by kernel_rfl) (by kernel_rfl) (HS _ q) (λhHeld=>?_);simp only[NQ,NU,Oh,OV,Oc,Oj,Ol,Ow,On,Oa];refine tk 0 (h:=tk 1 (h:=tk 2 (h:=tk 3 (h:=tk 4 (h:=tk 6 (h:=tk 7 (h:=tk 8 (h:=tk 9 (h:=tk 10 (h:=?_))))))))));try go_frame
      refine rdc 5 λK hK=>?_;go_simp;go_at_call 116;refine(a7 _ q).mono ?_;rintro e w5 ⟨rfl,F⟩;replace q:=Np (q.t F);clear F;refine hK.out _ _ (HS _ q) (λhHeld=>?_);try go_frame
      refine⟨by kernel_rfl,?_⟩;simp only[Oi,OH];clear hHeld;go_wp2_with (go_at_call 116;refine(z _ q).mono ?_;rintro e w6 ⟨rfl,d7⟩;have G6:=Np (q.t d7);clear d7);go_meet;exact⟨by simp,G6⟩
    case rest=>
     obtain⟨rfl,hg⟩:=hcut;have e7:=Np (HG.t hg);clear hg;by_cases k:ti<tb
     ·rw[decide_eq_true k];have f:=Np (f.t (if_pos k));clear k;go_wp2;go_roundw
      case rel=>exact⟨i+1,by simp,by omega,by rw[f],e7⟩
      case measure=>simp[OP];omega
     ·rw[decide_eq_false k];have f:=Np (f.t (if_neg k));clear k;go_wp2;go_roundw
      case rel=>exact⟨i+1,by simp,by omega,by rw[f],e7⟩
      case measure=>simp[OP];omega
   ·obtain rfl:i=L.length:=by omega
    have e5:=Np (show mdB l L=L[mnI l L L.length]?.getD [] from rfl);generalize mnI l L L.length=mb at O e5 ⊢;have l4:(mb:NH)<(L.length:NH):=by omega
    have⟨g,C,B,U,h1,Z⟩:=a9.out mb O wr X;cases U;have z:=Np (show ∀W,wr.gb W Ns->Oz Ya 116 #[.slice base l.length H,.slice C (L[mb]?.getD []).length B] W λe D=>e=.returned (.int .i64 (trn l (L[mb]?.getD []):NA))/\W.gb D Ns from λW h=>I W _ _ (R.t h) ((Z.kept h).mono (Nv _) h.size));rw[e5] at HN HL;have HB:=Np Z;generalize L[mb]?.getD []=sb at h1 HB z HN HL;have HS:=Np (show ∀W,wr.gb W Ns->W.cell? ⟨g,mb,Ns⟩=Nq (.slice C sb.length B) from λW h=>h.cl h1);clear X h1 Z;go_upto_region 13 with(fail);have q:=Np (ai wr Ns);refine aI 11 (λW=>W.cell? ⟨g,mb,Ns⟩=Nq (.slice C sb.length B)) (by kernel_rfl) (by kernel_rfl) (HS _ q) (λhHeld=>?_);simp only[NQ,NU,Oh,OV,Oc,Oj,Ol,Ow,On,Oa];refine tk 0 (h:=tk 1 (h:=tk 2 (h:=tk 3 (h:=tk 4 (h:=tk 6 (h:=tk 7 (h:=tk 8 (h:=tk 9 (h:=?_)))))))));try go_frame
    refine rdc 5 λK hK=>?_;go_simp;go_at_call 116;refine(z _ q).mono ?_;rintro e w5 ⟨rfl,F⟩;replace q:=Np (q.t F);clear F;refine hK.out _ _ (HS _ q) (λhHeld=>?_);refine tk 10 (h:=?_);try go_frame
    refine⟨by kernel_rfl,?_⟩;simp only[Oi,OH];clear hHeld;go_wp2;go_ret3;rw[HE,HN,HL];exact⟨_,rfl,(b0.t R).t q,(HB.kept q).mono (Nv _) q.size⟩
end
section
def lvl(n:NA):NA->Nu (Nu NH)->Nu (Nu NH)->Nu (Nu (Nu NH))
 | 0,_,a=>[a]
 | f+1,K,a=>if a=[] then[a] else a::lvl n f (jZ n K a).1 (jZ n K a).2
structure vg(n:NA)(P:Nu NH->Prop)(g:Nu NH->Nu NH):Prop where
 inj:∀a b,P a->P b->g a=g b->a=b
 com:∀a i,P a->i+1<n->swp (g a) i=g (swp a i)
 cl:∀a i,P a->i+1<n->P (swp a i)
def gk(P:Nu NH->Prop)(L:Nu (Nu NH)):Prop:=∀s∈L,P s
def CI{n:NA}{P:Nu NH->Prop}{g:Nu NH->Nu NH}(h:vg n P g)(A B:Nu (Nu NH))(m:Nu NH)(f:gk P A)(j:gk P B)(hm:P m) :gP (A.map g,B.map g) (g m)=((gP (A,B) m).1.map g,(gP (A,B) m).2.map g)/\gk P (gP (A,B) m).1/\gk P (gP (A,B) m).2:=by
 have e:g m∈A.map g↔m∈A:=by
  constructor
  ·intro b;have⟨x,i,c⟩:=Qp.1 b;rw[<- h.inj x m (f x i) hm c];exact i
  ·exact VC
 unfold gP;by_cases b:m∈A
 ·simp only[if_pos b,if_pos (e.2 b)];exact⟨trivial,f,j⟩
 ·simp only[if_neg b,if_neg (mt e.1 b),Qm,Qj,Sx];refine⟨trivial,λs d=>?_,λs d=>?_⟩
  ·rcases Qb.1 d with a | a
   ·exact f s a
   ·rw[Pk.1 a];exact hm
  ·rcases Qb.1 d with a | a
   ·exact j s a
   ·rw[Pk.1 a];exact hm
def zh{n:NA}{P:Nu NH->Prop}{g:Nu NH->Nu NH}(h:vg n P g)(s:Nu NH)(a:P s):∀(k:NA) (A B:Nu (Nu NH)),k<=n - 1->gk P A->gk P B ->fR k (A.map g,B.map g) (g s)=((fR k (A,B) s).1.map g,(fR k (A,B) s).2.map g)/\gk P (fR k (A,B) s).1/\gk P (fR k (A,B) s).2
 | 0,A,B,_,c,b=>⟨rfl,c,b⟩
 | k+1,A,B,i,c,b=>by
  have⟨f,e,d⟩:=zh h s a k A B (by omega) c b;rw[gO,gO,f,h.com s k a (by omega)];exact CI h _ _ _ e d (h.cl s k a (by omega))
def zj{n:NA}{P:Nu NH->Prop}{g:Nu NH->Nu NH}(h:vg n P g)(K a:Nu (Nu NH))(l:gk P K)(k:gk P a) :jZ n (K.map g) (a.map g)=((jZ n K a).1.map g,(jZ n K a).2.map g)/\gk P (jZ n K a).1/\gk P (jZ n K a).2:=by
 have b:∀(L A B:Nu (Nu NH)),gk P L->gk P A->gk P B->(L.map g).foldl (AS n) (A.map g,B.map g)=((L.foldl (AS n) (A,B)).1.map g,(L.foldl (AS n) (A,B)).2.map g)/\gk P (L.foldl (AS n) (A,B)).1/\gk P (L.foldl (AS n) (A,B)).2:=by
  intro L;induction L with
  | nil=>exact λA B _ d c=>⟨rfl,d,c⟩
  | cons s L f=>
   intro A B e d c;have⟨q,p,o⟩:=zh h s (e s (by simp)) (n - 1) A B (Nv _) d c;rw[Qj,PN,PN,Ck,Ck,q];exact f _ _ (λt i=>e t (by simp[i])) p o
 exact b a K [] k l (λs j=>by simp at j)
def vY{n:NA}{P:Nu NH->Prop}{g:Nu NH->Nu NH}(h:vg n P g):∀(f:NA) (K a:Nu (Nu NH)),gk P K->gk P a ->lvl n f (K.map g) (a.map g)=(lvl n f K a).map (λL=>L.map g)/\∀L∈lvl n f K a,gk P L
 | 0,K,a,_,b=>⟨rfl,λL c=>by rw[Pk.1 c];exact b⟩
 | f+1,K,a,i,b=>by
  have⟨p,o,l⟩:=zj h K a i b;unfold lvl;by_cases e:a=[]
  ·subst e;simp only[Sx,if_true];exact⟨rfl,λL c=>by rw[Pk.1 c];exact b⟩
  ·rw[if_neg e,if_neg (by simpa using e),p];have⟨k,j⟩:=vY h f _ _ o l;refine⟨by rw[k];rfl,λL c=>?_⟩;rcases ON.1 c with d | d
   ·rw[d];exact b
   ·exact j L d
def dL(a:Nu Par)(c:Nu (Nu NH)):OI × Nu NH:=c.foldl (λb s=>if aC a (pre Par.mx a a.length) s=NB then(NB,if b.1=NB/\ez s b.2=NC then b.2 else s) else b) (NC,[])
def dD(a:Nu Par):Nu (Nu (Nu NH))->NH->NO (NH × Nu NH)
 | [],_=>Ns
 | L::t,b=>if(dL a L).1=NB then Nq (b,(dL a L).2) else dD a t (b+1)
structure OrdOf(l s:Nu NH):Prop where
 pm:s.Perm l
def xG{s:Nu NH}{i:NA}(h:i+1<s.length):(swp s i).Perm s:=by
 induction s generalizing i with
 | nil=>simp at h
 | cons a t c=>
  cases i with
  | zero=>
   cases t with
   | nil=>simp at h
   | cons b t=>simpa[swp] using List.Perm.swap a b t
  | succ i=>
   have:=c (i:=i) (by simpa using h);have e:swp (a::t) (i+1)=a::swp t i:=by simp[swp]
   rw[e];exact this.cons a
def IG{s r:Nu NH}{i:NA}(h:i+1<s.length):swp (s++r) i=swp s i++r:=by
 unfold swp;rw[Ot (by omega),Ot (by omega),Vt _ _ (by omega),Vt _ _ (by simp;omega)]
def IF{f:NH->NH}{s:Nu NH}{i:NA}(h:i+1<s.length):swp (s.map f) i=(swp s i).map f:=by
 unfold swp;rw[List.map_set,List.map_set,Pa,Pa,ND (show i<s.length by omega),ND h];rfl
def AN{l:Nu NH}(c:l.length<=5):vg l.length (λs=>s.Perm l) bp where
 inj a b ha hb e:=by
  unfold bp at e;exact(List.append_inj e (by rw[ha.length_eq,hb.length_eq])).1
 com a i ha hi:=by
  unfold bp;rw[IG (by rw[ha.length_eq];exact hi),vA]
 cl a i ha hi:=(xG (by rw[ha.length_eq];exact hi)).t ha
def nP{s:Nu NH}(h:∀x∈s,0<=x):bB (bp s)=s:=by
 unfold bB bp;rw[List.takeWhile_append_of_pos (λx a=>by have:=h x a;simp;omega)];cases e:5 - s.length with
 | zero=>simp
 | succ k=>simp[List.replicate_succ]
def Et{c:Nu Par}{a:Nu (Nu NH)}(h:∀s∈a,∀x∈s,0<=x):dK c (a.map bp)=dL c a:=by
 have d:∀(L:Nu (Nu NH)) (b:OI × Nu NH),(∀s∈L,∀x∈s,0<=x)->(L.map bp).foldl (λb s=>if aC c (pre Par.mx c c.length) (bB s)=NB then(NB,if b.1=NB/\ez (bB s) b.2=NC then b.2 else bB s) else b) b=L.foldl (λb s=>if aC c (pre Par.mx c c.length) s=NB then(NB,if b.1=NB/\ez s b.2=NC then b.2 else s) else b) b:=by
  intro L;induction L with
  | nil=>exact λ_ _=>rfl
  | cons s L f=>
   intro b e;rw[Qj,PN,PN,nP (e s (by simp))];exact f _ λt g=>e t (by simp[g])
 exact d a _ h
def Gm(n f:NA)(K a:Nu (Nu NH)):∃t,lvl n f K a=a::t:=by
 cases f with
 | zero=>exact⟨[],rfl⟩
 | succ f=>
  unfold lvl;split
  ·exact⟨[],rfl⟩
  ·exact⟨_,rfl⟩
def pF{h:Nu Par}{c:NH}{l:Nu NH}(u:l.length<=5)(r:POk h c l)(i:∀s:Nu NH,s.Perm l->okS h c (bp s)=NB):∀(f:NA) (K a:Nu (Nu NH)) (j:NH),gk (λs=>s.Perm l) K->gk (λs=>s.Perm l) a->a≠[]->(∀L∈lvl l.length f K a,L.length<=1000)->(lvl l.length f K a).getLast?=Nq [] ->nN h c l.length f (K.map bp) (a.map bp) j=Nq (dD h (lvl l.length f K a) j)
 | 0,K,a,j,_,_,d,_,g=>by
  simp[lvl] at g;exact absurd g d
 | f+1,K,a,j,y,p,d,b,g=>by
  have⟨B,A,z⟩:=zj (AN u) K a y p;have C:∀s∈a,∀x∈s,0<=x:=λs b x v=>(r.ok x ((p s b).subset v)).1;have e:lvl l.length (f+1) K a=a::lvl l.length f (jZ l.length K a).1 (jZ l.length K a).2:=by
   rw[lvl,if_neg d]
  rw[e] at b g ⊢;unfold nN dD;rw[if_pos ⟨by
   rw[List.all_map];exact OF.2 λs b=>i s (p s b),by rw[Ql];exact b a (by simp)⟩,Et C,B]
  by_cases n:(dL h a).1=NB
  ·rw[if_pos n,if_pos n]
  ·rw[if_neg n,if_neg n];have⟨t,q⟩:=Gm l.length f (jZ l.length K a).1 (jZ l.length K a).2;simp only[Ql];rw[if_pos (b _ (by rw[q];simp))];have o:(lvl l.length f (jZ l.length K a).1 (jZ l.length K a).2).getLast?=Nq []:=by
    rw[q] at g ⊢;simpa[List.getLast?_cons_cons] using g
   by_cases k:(jZ l.length K a).2=[]
   ·rw[if_pos (by rw[k];rfl),k];cases f with
    | zero=>rfl
    | succ f=>rfl
   ·rw[if_neg (by simpa using k)];exact pF u r i f _ _ _ A z k (λL w=>b L (by simp[w])) o
def vZ(n:NA):Nu (Nu (Nu NH)):=lvl n 20 [bn n] [bn n]
def Gn(n:NA):OI:=(vZ n).getLast? == Nq [] && (vZ n).all (λL=>decide (L.length<=100)) && decide ((vZ n).length<=20) && (fK (bn n)).all λs=>(vZ n).any λL=>L.contains s
def yF:∀n,n<=5->Gn n=NB
 | 0,_=>by kernel_rfl
 | 1,_=>by kernel_rfl
 | 2,_=>by kernel_rfl
 | 3,_=>by kernel_rfl
 | 4,_=>by kernel_rfl
 | 5,_=>by kernel_rfl
 | n+6,h=>by omega
def xW:∀(m:NA) (A:Nu NH) (x:NH) (R:Nu NH),A.length=m->A.Pairwise (·<·)->x∉A->∃S,je m (A++x::R)=S++R/\S.Perm (x::A)/\S.Pairwise (·<·)
 | 0,A,x,R,h,_,_=>by
  obtain rfl:=OZ h;exact⟨[x],rfl,.refl _,by simp⟩
 | m+1,A,x,R,h,p,k=>by
  obtain⟨c,y,rfl⟩:∃c y,A=c++[y]:=⟨A.dropLast,A.getLast (by intro e;rw[e] at h;cases h),(List.dropLast_concat_getLast _).symm⟩;have i:c.length=m:=by simpa using h
  rw[Sn] at p;obtain⟨o,-,g⟩:=p;simp at g k;have w:((c++[y])++x::R)[m+1]?=Nq x:=by rw[Pq (by simp;omega)];simp[i]
  have v:((c++[y])++x::R)[m]?=Nq y:=by rw[Ot (by simp;omega),Pq (by omega)];simp[i]
  unfold je;rw[w,v];simp only[NK];by_cases d:x<y
  ·rw[if_pos d];have u:(((c++[y])++x::R).set (m+1) y).set m x=c++x::(y::R):=by
    subst i;simp
   have⟨S,s,q,r⟩:=xW m c x (y::R) i o k.1;refine⟨S++[y],by rw[u,s];simp,?_,?_⟩
   ·exact(q.append_right [y])
   ·refine Sn.2 ⟨r,by simp,λa n b l=>?_⟩;rw[Pk.1 l];rcases ON.1 (q.subset n) with f | f
    ·rw[f];exact d
    ·exact g a f
  ·rw[if_neg d];have j:y<x:=by have:=k.2;omega
   refine⟨c++[y]++[x],by simp,(TP).t (.refl _),?_⟩;refine Sn.2 ⟨Sn.2 ⟨o,by simp,by simpa using g⟩,by simp,λa n b l=>?_⟩;rw[Pk.1 l];rcases Qb.1 n with f | f
   ·have:=g a f;omega
   ·rw[Pk.1 f];exact j
def yP{l:Nu NH}(b:l.Nodup):∀k,k<=l.length->∃S,cS k l=S++l.drop k/\S.Perm (l.take k)/\S.Pairwise (·<·)
 | 0,_=>⟨[],rfl,by simp,by simp⟩
 | k+1,q=>by
  have⟨S,o,a,n⟩:=yP b k (by omega);have c:l[k]∉S:=λh=>by
   have:=a.subset h;have⟨i,r,e⟩:=List.mem_take_iff_getElem.1 this;have:=(YI (i:=i) (j:=k) (h₀:=by omega) (h₁:=by omega) b).1 e;omega
  have⟨p,g,f,d⟩:=xW k S l[k] (l.drop (k+1)) (by rw[a.length_eq];simp;omega) n c;refine⟨p,by rw[fO,o,QA (by omega)];exact g,?_,d⟩;rw[OR,ND (by omega)];exact f.t ((a.cons _).t (TP (l₁:=[l[k]])))
def rO{l:Nu NH}(b:l.Nodup):(cS l.length l).Perm l/\(cS l.length l).Pairwise (·<·):=by
 have⟨S,d,a,c⟩:=yP b l.length (Nv _);rw[d,List.drop_length,SV];rw[Ps] at a;exact⟨a,c⟩
def nR(a q:Nu NH):Nu NH:=a.filter λx=>!q.contains x
def jU{a q:Nu NH}(b:a.Nodup)(n:NH):nR a (q++[n])=(nR a q).erase n:=by
 unfold nR;rw[List.Nodup.erase_eq_filter (List.Pairwise.filter _ b),List.filter_filter]
 congr 1
 funext x
 by_cases d:x∈q<;>by_cases c:x=n<;>simp[d,c]
def oL{a:Nu NH}(c:a.Nodup)(x:Nu NH):∀(m:NA) (q:Nu NH),(nR a q).length=m->(x∈aX a m q↔∃r,x=q++r/\r.Perm (nR a q))
 | 0,q,hm=>by
  rw[OZ hm];simp[aX]
 | m+1,q,hm=>by
  unfold aX;rw[Sc];constructor
  ·rintro⟨n,g,f⟩;by_cases e:n∈q
   ·rw[if_pos e] at f;cases f
   ·rw[if_neg e] at f;have d:n∈nR a q:=RS.2 ⟨g,by simpa using e⟩;obtain⟨r,rfl,b⟩:=(oL c x m (q++[n]) (by rw[jU c,Ti d,hm];rfl)).1 f;refine⟨n::r,by simp,?_⟩;rw[jU c] at b;exact(b.cons n).t (Xk d).symm
  ·rintro⟨r,rfl,b⟩;cases r with
   | nil=>have:=b.length_eq;rw[hm] at this;cases this
   | cons n r=>
    have d:n∈nR a q:=b.subset (by simp);have⟨i,h⟩:=RS.1 d;have e:n∉q:=by simpa using h
    refine⟨n,i,?_⟩;rw[if_neg e];refine(oL c _ m (q++[n]) (by rw[jU c,Ti d,hm];rfl)).2 ⟨r,by simp,?_⟩;rw[jU c];exact(b.t (Xk d)).cons_inv
def yK(a:Nu NH):nR a []=a:=by simp[nR]
def gM{a x:Nu NH}(b:a.Nodup):x∈aX a a.length []↔x.Perm a:=by
 rw[oL b x a.length [] (by rw[yK]),yK];simp
def oK{b x:Nu NH}:∀(m:NA) (q:Nu NH),x∈aX b m q->∃r,x=q++r
 | 0,q,h=>⟨[],by simpa[aX] using h⟩
 | m+1,q,h=>by
  unfold aX at h;obtain⟨n,-,a⟩:=Sc.1 h;split at a
  ·cases a
  ·obtain⟨r,rfl⟩:=oK m _ a;exact⟨n::r,by simp⟩
def Hu(q:Nu NH){a b:NH}(r s:Nu NH)(h:a<b):cU (q++[a]++r) (q++[b]++s)<0:=by
 induction q with
 | nil=>
  have e:lX a b<0:=qB.2 h;simp only[On,Oa,cU];rw[if_pos (by omega)];exact e
 | cons c q d=>
  simp only[Oa,cU] at d ⊢;rw[if_neg (by simp[qC.2 rfl])];exact d
def rm{f:Nu NH}(g:f.Pairwise (·<·)):∀(m:NA) (q:Nu NH),(aX f m q).Pairwise λa b=>cU a b<0
 | 0,q=>by simp[aX]
 | m+1,q=>by
  unfold aX;refine List.pairwise_flatMap.2 ⟨λn _=>?_,g.imp λ{a b} e x d y c=>?_⟩
  ·split
   ·exact .nil
   ·exact rm g m _
  ·split at d
   ·cases d
   ·split at c
    ·cases c
    ·obtain⟨r,rfl⟩:=oK m _ d;obtain⟨s,rfl⟩:=oK m _ c;exact Hu q r s e
def rV{P:Nu NH->OI}:∀{L:Nu (Nu NH)},L.Pairwise (λa b=>cU a b<0)->∀{x:Nu NH},x∈L->P x=NB->∃p,L.find? P=Nq p/\¬ cU x p<0
 | [],_,_,h,_=>by cases h
 | a::L,g,x,f,d=>by
  have⟨j,i⟩:=TA.1 g;rw[List.find?_cons];cases ha:P a with
  | true=>
   refine⟨a,rfl,λc=>?_⟩;rcases ON.1 f with e | e
   ·rw[e,lT] at c;omega
   ·have:=mX c (j x e);rw[lT] at this;omega
  | false=>
   rcases ON.1 f with e | e
   ·rw[e,ha] at d;cases d
   ·exact rV i e d
def jz(a:Nu Par)(L:Nu (Nu NH)):((dL a L).1=NB->(dL a L).2∈L/\aC a (pre Par.mx a a.length) (dL a L).2=NB)/\((dL a L).1=NC->∀s∈L,aC a (pre Par.mx a a.length) s=NC):=by
 have f:∀(L:Nu (Nu NH)) (S:Nu (Nu NH)) (b:OI × Nu NH),((b.1=NB->b.2∈S/\aC a (pre Par.mx a a.length) b.2=NB)/\(b.1=NC->∀s∈S,aC a (pre Par.mx a a.length) s=NC)) ->
   ∀c,c=L.foldl (λb s=>if aC a (pre Par.mx a a.length) s=NB then(NB,if b.1=NB/\ez s b.2=NC then b.2 else s) else b) b->((c.1=NB->c.2∈S++L/\aC a (pre Par.mx a a.length) c.2=NB)/\(c.1=NC->∀s∈S++L,aC a (pre Par.mx a a.length) s=NC)):=by
  intro L;induction L with
  | nil=>intro S b h c g;subst g;simpa using h
  | cons s L j=>
   intro S b h c g;have:=j (S++[s]) (if aC a (pre Par.mx a a.length) s=NB then(NB,if b.1=NB/\ez s b.2=NC then b.2 else s) else b) (by
    by_cases d:aC a (pre Par.mx a a.length) s=NB
    ·rw[if_pos d];refine⟨λ_=>?_,λe=>by cases e⟩;simp only;split
     ·rename_i l
      have:=h.1 l.1;exact⟨by simp[this.1],this.2⟩
     ·exact⟨by simp,d⟩
    ·rw[if_neg d];refine⟨λe=>⟨by simp[(h.1 e).1],(h.1 e).2⟩,λe t k=>?_⟩;rcases Qb.1 k with i | i
     ·exact h.2 e t i
     ·rw[Pk.1 i];simpa using d) c (by simpa using g)
   simpa using this
 exact f L [] (NC,[]) ⟨(λe=>by cases e),(λ_ s d=>by cases d)⟩ (dL a L) rfl
def rW{a:Nu Par}{k:NH}{b:Nu NH}:∀{e:Nu (Nu (Nu NH))} {d:NH},dD a e d=Nq (k,b)->∃L∈e,(dL a L).1=NB/\b=(dL a L).2
 | [],_,h=>by cases h
 | L::t,d,h=>by
  unfold dD at h;split at h
  ·rename_i c
   cases h;exact⟨L,by simp,c,rfl⟩
  ·have⟨g,c,f⟩:=rW h;exact⟨g,by simp[c],f⟩
def rX{b:Nu Par}:∀{c:Nu (Nu (Nu NH))} {a:NH},dD b c a=Ns->∀L∈c,(dL b L).1=NC
 | [],_,_,L,h=>by cases h
 | L::t,a,h,g,d=>by
  unfold dD at h;split at h
  ·cases h
  ·rename_i f
   rcases ON.1 d with e | e
   ·rw[e];simpa using f
   ·exact rX h g e
structure Ku(ps:Nu Par)(lim:NH)(l ws:Nu NH)(Ls:Nu (Nu (Nu NH))):Prop where
 mem:∀L∈Ls,∀s∈L,s.Perm l
 len:∀L∈Ls,L.length<=100
 many:Ls.length<=20
 end':Ls.getLast?=Nq []
 mend:nN ps lim l.length 20 [bp l] [bp l] 0=Nq (dD ps Ls 0)
 yes:∀k b,dD ps Ls 0=Nq (k,b)->∃p,(aX ws ws.length []).find? (bK ps lim)=Nq p/\¬ cU b p<0/\p.Perm l/\b.Perm l
 no:dD ps Ls 0=Ns->(aX ws ws.length []).find? (bK ps lim)=Ns
def atL(l:Nu NH)(i:NH):NH:=l[i.toNat]?.getD 0
def qq(l:Nu NH):(bn l.length).map (atL l)=l:=by
 apply RO;intro i;unfold bn;simp only[Pa];by_cases h:i<l.length
 ·rw[Ra h];simp[atL,h]
 ·rw[OO (by simpa using h),OO (by omega)];rfl
def rA{n:NA}{x:NH}:x∈bn n↔0<=x/\x<n:=by
 unfold bn;rw[Qp];constructor
 ·rintro⟨a,h,rfl⟩;have:=Py.1 h;omega
 ·exact λh=>⟨x.toNat,Py.2 (by omega),by omega⟩
def Cf{l:Nu NH}(g:l.Nodup):vg l.length (λs=>s.Perm (bn l.length)) (λs=>s.map (atL l)) where
 inj a b ha hb e:=by
  have hm:∀x,x∈a\/x∈b->0<=x/\x<l.length:=λx h=>rA.1 (h.elim (λh=>ha.subset h) (λh=>hb.subset h));have j:a.length=b.length:=by rw[ha.length_eq,hb.length_eq]
  apply Wm j;intro i f d;have c:=congrArg (λt=>t[i]?) e;simp only[Pa,ND f,ND d,Pp,OM] at c;have n:=hm a[i] (.inl (RL f));have k:=hm b[i] (.inr (RL d));unfold atL at c;rw[ND (show a[i].toNat<l.length by omega),ND (show b[i].toNat<l.length by omega)] at c;simp only[NK] at c;have:=(YI g).1 c;omega
 com a i ha hi:=IF (by rw[ha.length_eq,bN];exact hi)
 cl a i ha hi:=(xG (by rw[ha.length_eq,bN];exact hi)).t ha
def uv{l x:Nu NH}(d:l.Nodup)(h:x.Perm l):∃s:Nu NH,s.Perm (bn l.length)/\s.map (atL l)=x:=by
 refine⟨x.map λy=>(l.idxOf y:NA),?_,?_⟩
 ·refine(h.map _).t (List.Perm.of_eq ?_);apply RO;intro i;unfold bn;simp only[Pa];by_cases a:i<l.length
  ·rw[Ra a,ND a];simp[d.idxOf_getElem]
  ·rw[OO (show l.length<=i by omega),OO (show(Oo l.length).length<=i by simpa using a)];rfl
 ·rw[List.map_map];refine(List.map_congr_left λy c=>?_).t (List.map_id _);have b:=h.subset c;have a:=List.idxOf_lt_length_of_mem b;simp[atL,ND a]
def Gh{d:Nu Par}{f:NH}{l z:Nu NH}(U:l.length<=5)(o:POk d f l)(C:z.Perm l)(c:z.Pairwise (·<·)):Ku d f l z (lvl l.length 20 [l] [l]):=by
 have H:=yF l.length U;unfold Gn at H;simp only[Of,beq_iff_eq,OF,decide_eq_true_eq,List.any_eq_true] at H;obtain⟨⟨⟨k1,k2⟩,Z⟩,Y⟩:=H;have G:(bn l.length).Nodup:=List.pairwise_map.2 (List.nodup_range.imp λ{a b} h e=>h (by omega));have q:gk (λs=>s.Perm (bn l.length)) [bn l.length]:=λs c=>by rw[Pk.1 c]
 have⟨y,X⟩:=vY (Cf o.nd) 20 [bn l.length] [bn l.length] q q;rw[show[bn l.length].map (λs=>s.map (atL l))=[l] by rw[Qj,qq];rfl] at y;have r:∀L∈lvl l.length 20 [l] [l],∀s∈L,s.Perm l:=λL n s c=>by
  rw[y] at n;obtain⟨S,R,rfl⟩:=Qp.1 n;obtain⟨V,h2,rfl⟩:=Qp.1 c;have:=(X S R V h2).map (atL l)
  rwa [qq] at this
 have u:∀L∈lvl l.length 20 [l] [l],L.length<=100:=λL n=>by
  rw[y] at n;obtain⟨S,R,rfl⟩:=Qp.1 n;rw[Ql];exact k2 S R
 have i:(lvl l.length 20 [l] [l]).getLast?=Nq []:=by
  rw[y,List.getLast?_map];show((vZ l.length).getLast?).map _=_;rw[k1];rfl
 have h0:∀s:Nu NH,s.Perm l->∀x∈s,0<=x:=λs c x B=>(o.ok x (c.subset B)).1;have v:z.Nodup:=C.nodup_iff.2 o.nd;have j:∀s:Nu NH,s.Perm l->bK d f s=aC d (pre Par.mx d d.length) s:=λs c=>by
  unfold bK;rw[mB d c,decide_eq_true o.tall,TK]
 have g:gk (λs=>s.Perm l) [l]:=λs c=>by rw[Pk.1 c]
 refine⟨r,u,by rw[y,Ql];exact Z,i,?_,λk b I=>?_,λI=>?_⟩
 ·refine pF U o (λs c=>?_) 20 [l] [l] 0 g g (by simp) (λL n=>by have:=u L n;omega) i;have hl:=c.length_eq;unfold okS;rw[nP (h0 s c),decide_eq_true (jH (by omega)),decide_eq_true (c.nodup_iff.2 o.nd),decide_eq_true (show aN d s<=f by rw[mB d c];exact o.tall)];simp only[TK,Bool.and_true,OF,decide_eq_true_eq];exact λx B=>o.ok x (c.subset B)
 ·obtain⟨L,n,O,rfl⟩:=rW I;have⟨N,M⟩:=(jz d L).1 O;have w:=r L n _ N;have⟨p,T,W⟩:=rV (P:=bK d f) (rm c z.length []) ((gM v).2 (w.t C.symm)) (by rw[j _ w];exact M);exact⟨p,T,W,((gM v).1 (List.mem_of_find?_eq_some T)).t C,w⟩
 ·refine Sa.2 λx B=>?_;have A:=((gM v).1 B).t C;rw[j x A];obtain⟨s,F,rfl⟩:=uv o.nd A;have⟨L,n,D⟩:=Y s (by
   show s∈aX (bn l.length) (bn l.length).length [];exact(gM G).2 F)
  have Q:L.map (λs=>s.map (atL l))∈lvl l.length 20 [l] [l]:=by rw[y];exact VC n
  have:=(jz d _).2 (rX I _ Q) (s.map (atL l)) (VC (by simpa using D));rw[this];simp
end
section
open Go.RowKit
def MK(r:NO NA)(w:Nt)(v:Ny)(L:Nu (Nu NH)):Prop :=
 ∃a c,v=.slice a L.length c/\(0<L.length->∃g,a=Nq ⟨g,0,Ns⟩/\Nq g≠r/\(∃b f,w.heap[g]?=Nq (.cells b 29 f))/\∀(j:NA) l,L[j]?=Nq l->∃x,w.cell? ⟨g,j,Ns⟩=Nq x/\aj 0 w.heap.size w x l)
def Nn(base:NA)(r:NO NA)(w:Nt)(v:Ny)(b:Nu (Nu (Nu NH))):Prop :=
 ∃a:Nu Ny,w.ownsRow base 36 1 v b.length a/\∀(j:NA) x L,a[j]?=Nq x->b[j]?=Nq L->MK r w x L
def MO(d:NA)(w:Nt)(v:Ny)(b:Nu (Nu (Nu NH))):Prop :=
 ∃a c,v=.slice a b.length c/\(0<b.length->∃g,a=Nq ⟨g,0,Ns⟩/\g<d/\∀(j:NA) L,b[j]?=Nq L->∃x,w.cell? ⟨g,j,Ns⟩=Nq x/\ML d w x L)
structure SpI(A:NA)(U:Nt)(r0:NO NA)(wi:Nt)(nv mv:Ny)(K nx:Nu (Nu NH)):Prop where
 g:U.grownBy wi r0
 m:bF A wi mv K
 n:bF U.heap.size wi nv nx
 o:∀g,mv.ownBlock=Nq g->r0=Nq g\/U.heap.size<=g
 d:∀g,nv.ownBlock=Nq g->mv.ownBlock≠Nq g
structure SpO(A:NA)(w:Nt)(n:NA)(Ls:Nu (Nu (Nu NH)))(ov mv:Ny)(wr:Nt)(dn:Nu (Nu (Nu NH)))(f:NA)(K now:Nu (Nu NH)):Prop where
 ls:Ls=dn++lvl n f K now
 fu:dn.length+f=20
 g:w.grownBy wr Ns
 o:Nn A mv.ownBlock wr ov (dn++[now])
 m:bF A wr mv K
 k:K.length<=600*dn.length+1

end
section
open Go Go.RowKit Go.Co Go.Sim Go.Conc Go.ConcN
def pN{c:Nu Par}{M:Nu (Nu NH)}:∀{b:Nu (Nu (Nu NH))} {k:NA} {st:NH},b[k]?=Nq M->(∀j N,j<k->b[j]?=Nq N->(dL c N).1=NC)->(dL c M).1=NB->dD c b st=Nq (st+k,(dL c M).2)
 | [],k,st,a,_,_=>by simp at a
 | N::b,0,st,a,_,h=>by
  simp at a;subst a;unfold dD;rw[if_pos h];simp
 | N::b,k+1,st,a,d,h=>by
  unfold dD;rw[if_neg (by rw[d 0 N (by omega) rfl];simp),pN (by simpa using a) (λj N f e=>d (j+1) N (by omega) (by simpa using e)) h];simp only[OM,Prod.mk.injEq,and_true];omega
def yZ{c:Nu Par}:∀{a:Nu (Nu (Nu NH))} {b:NH},(∀L∈a,(dL c L).1=NC)->dD c a b=Ns
 | [],_,_=>rfl
 | L::a,b,h=>by
  unfold dD;rw[if_neg (by rw[h L (by simp)];simp)];exact yZ λM d=>h M (by simp[d])
def mN:NO (NH × Nu NH)->NH
 | some p=>p.1
 | none=>0
def mL:NO (NH × Nu NH)->Nu NH
 | some p=>p.2
 | none=>[]
def mE:NO (NH × Nu NH)->NH
 | some _=>0
 | none=>11
def oE:NO (Nu NH)->NH
 | some _=>0
 | none=>11
def Gg(f qv:Ny)(b:Nu Par)(a:NH)(l j:Nu NH)(w:Nt)(o:aD 0 w.heap.size w f b)(r:aj 0 w.heap.size w qv l)(g:YOk b a)(k:POk b a l){c:Nu (Nu (Nu NH))}(q:Ku b a l j c) :Oz Ya 54 #[.agg #[f,a],qv] w λe d=>∃v,e=.returned (.tuple #[(mN (dD b c 0)),v,(mE (dD b c 0))])/\w.gb d Ns/\aj 0 d.heap.size d v (mL (dD b c 0)):=by
 refine(BO f qv b a l w o r g k 20 (by omega) _ q.mend).mono ?_;rintro e d ⟨i,h⟩;cases ho:dD b c 0 with
 | none=>
  rw[ho] at h;exact⟨_,h,i,aj.nil _ _ _⟩
 | some p=>
  rw[ho] at h;obtain⟨v,rfl,n⟩:=h;exact⟨v,rfl,i,n⟩
def Dp(i qv:Ny)(d:Nu Par)(a:NH)(l b:Nu NH)(w:Nt)(r:aD 0 w.heap.size w i d)(s:aj 0 w.heap.size w qv l)(j:YOk d a)(k:POk d a l)(q:lF l b)(o:l.Perm b) :Oz Ya 56 #[.agg #[i,a],qv] w λe g=>∃v,e=.returned (.tuple #[v,(oE ((aX b b.length []).find? (bK d a)))])/\w.gb g Ns/\aj 0 g.heap.size g v (((aX b b.length []).find? (bK d a)).getD []):=by
 refine(Do i qv d a l b w r s j k.pin q o).mono ?_;rintro e g ⟨v,c,rfl,n,h⟩;rcases h with h | h | h
 ·exact absurd k.tall h.1
 ·obtain⟨-,f,rfl,rfl⟩:=h;unfold fK at f;rw[f];exact⟨_,rfl,n,aj.nil _ _ _⟩
 ·obtain⟨-,rfl,p,f,t⟩:=h;unfold fK at f;rw[f];exact⟨_,rfl,n,t.mono (OE _) (Nv _)⟩
structure FMnd(ps:Nu Par)(lim:NH)(l:Nu NH)(yb:NO OX)(yc:NA)(lb:NO OX)(lc X:NA)(gb_:NO OX)(gc:NA)(fb:NO OX)(fc VB vc:NA)(o:NO (NH × Nu NH))(fd:NO (Nu NH))(Ls:Nu (Nu (Nu NH)))(q:Nt):Prop where
 x:q.heap[X]?=Nq (.cells #[.slice yb ps.length yc,lim] 24 (0,0))
 p:aD 0 q.heap.size q (.slice yb ps.length yc) ps
 i:aj 0 q.heap.size q (.slice lb l.length lc) l
 m:aj 0 q.heap.size q (.slice gb_ (mL o).length gc) (mL o)
 f:aj 0 q.heap.size q (.slice fb (fd.getD []).length fc) (fd.getD [])
 v:MO q.heap.size q (.slice (Nq VB) Ls.length vc) Ls
section
variable[J:JunkSet]{Post:Ny->Nt->Prop}{W:Nt}
end
end
section
open Go.RowKit
def mJ:∀{a b:Nu NH},a.Pairwise (·<·)->b.Pairwise (·<·)->(∀x,x∈a↔x∈b)->a=b
 | [],[],_,_,_=>rfl
 | [],y::b,_,_,h=>absurd ((h y).2 (by simp)) (by simp)
 | x::a,[],_,_,h=>absurd ((h x).1 (by simp)) (by simp)
 | x::a,y::b,j,i,h=>by
  have⟨g,n⟩:=TA.1 j;have⟨f,l⟩:=TA.1 i;have e:x=y:=by
   rcases ON.1 ((h x).1 (by simp)) with e | d
   ·exact e
   ·rcases ON.1 ((h y).2 (by simp)) with e | k
    ·exact e.symm
    ·have:=g y k;have:=f x d;omega
  subst e;refine congrArg _ (mJ n l λz=>?_);constructor
  ·intro c;rcases ON.1 ((h z).1 (by simp[c])) with rfl | d
   ·have:=g z c;omega
   ·exact d
  ·intro c;rcases ON.1 ((h z).2 (by simp[c])) with rfl | d
   ·have:=f z c;omega
   ·exact d
def Lh{y:NH}{l:Nu NH}(h:l.Pairwise (·<·))(k:y∉l):(wu y l).Pairwise (·<·):=by
 have⟨p,q,e,t,o,n⟩:=xu y l;rw[t];subst e;have⟨s,i,r⟩:=Sn.1 h;have d:∀x∈q,y<x:=by
  cases q with
  | nil=>intro x c;cases c
  | cons z q=>
   have j:y<z:=by
    have v:=n z (by simp);have u:z≠y:=λe=>k (by simp[e]);omega
   intro x c;rcases ON.1 c with rfl | c
   ·exact j
   ·have:=(TA.1 i).1 x c;omega
 refine Sn.2 ⟨s,TA.2 ⟨d,i⟩,λa g b f=>?_⟩;rcases ON.1 f with rfl | f
 ·exact o a g
 ·exact r a g b f
def Ig:∀(l o:Nu NH),o.Pairwise (·<·)->l.Nodup->(∀x∈l,x∉o)->(l.foldl (λo y=>wu y o) o).Pairwise (·<·)
 | [],_,h,_,_=>h
 | y::l,o,h,f,c=>by
  have⟨e,d⟩:=List.nodup_cons.1 f;refine Ig l _ (Lh h (c y (by simp))) d λx b a=>?_;rcases ON.1 ((uO y o).subset a) with rfl | g
  ·exact e b
  ·exact c x (by simp[b]) g
def Ih{l a:Nu NH}(d:l.Nodup)(b:a.Perm l)(c:a.Pairwise (·<·)):pd l=a :=
 mJ (Ig l [] .nil d λ_ _ h=>by cases h) c λx=>by rw[(oZ l).mem_iff,b.mem_iff]
def uF:∀{q l:Nu NH},q.Sublist l->q∈rj l q.length
 | [],l,_=>by simp[rj]
 | x::q,l,h=>by
  obtain⟨a,b,rfl,d,f⟩:=List.cons_sublist_iff.1 h;have⟨i,c,e⟩:=Sj.1 d;refine Sc.2 ⟨i,Py.2 (by rw[Pi];omega),?_⟩;rw[Ot c,ND c,NK,e];refine Qp.2 ⟨q,?_,rfl⟩;refine uF (f.trans ?_);rw[List.drop_append_of_le_length (by omega)];exact List.sublist_append_right _ _
def Ci{ps:Nu Par}{lim:NH}{l a:Nu NH}(j:ps.length<=5)(g:∀x∈l,0<=x/\x<ps.length)(f:l.Nodup)(c:a.Perm l)(d:a.Pairwise (·<·)):cy ps lim l=(aX a a.length []).filter (bK ps lim):=by
 have b:a.Sublist (bn ps.length):=by
  have e:a=(bn ps.length).filter λx=>decide (x∈a):=mJ d ((nJ _).filter _) λx=>by
   rw[RS,decide_eq_true_eq];exact⟨λh=>⟨rA.2 (g x (c.subset h)),h⟩,λh=>h.2⟩
  rw[e];exact List.filter_sublist
 have i:a.length<=ps.length:=by have:=b.length_le;rwa [bN] at this
 have h:=(Jf j i (uF b)).1 ps lim;have n:=Ih f c d;have k:=Ih (c.nodup_iff.2 f) (List.Perm.refl a) d;unfold cy at h ⊢;rw[k] at h;rw[n,<- c.length_eq];exact h
def xY{f:NH->NH}{u v d c:NH}:∀(b:Nu NH),(∀x∈b,(f x=d↔x=u)/\(f x=c↔x=v))->∀a,(b.map f).foldl (nD d c) a=b.foldl (nD u v) a
 | [],_,_=>rfl
 | x::b,h,a=>by
  have⟨i,g⟩:=h x (by simp);rw[Qj,PN,PN,show nD d c a (f x)=nD u v a x by unfold nD;rw[decide_eq_decide.2 i,decide_eq_decide.2 g]];exact xY b (λy e=>h y (by simp[e])) _
def yy{n i:NA}(h:i<n):(bn n)[i]?.getD 0=(i:NH):=by
 unfold bn;rw[Pa,Ra h];rfl
def Cx{l:Nu NH}(b:l.Nodup){x:NH}{i:NA}(c:0<=x/\x<l.length)(a:i<l.length):atL l x=l[i]?.getD 0↔x=(i:NH):=by
 unfold atL;obtain⟨m,rfl⟩:∃m:NA,x=m:=⟨x.toNat,by omega⟩;have hm:m<l.length:=by omega
 rw[Int.toNat_natCast,ND hm,ND a,NK,NK];constructor
 ·intro e;rcases Nat.lt_trichotomy m i with h | h | h
  ·exact absurd e (Rq.1 b m i hm a h)
  ·rw[h]
  ·exact absurd e.symm (Rq.1 b i m a hm h)
 ·intro e;have:m=i:=by omega
  subst this;rfl
def xw{l s:Nu NH}(b:l.Nodup)(a:∀x∈s,0<=x/\x<l.length):∀i,i<=l.length->kr l (s.map (atL l)) i=kr (bn l.length) s i
 | 0,_=>rfl
 | i+1,e=>by
  unfold kr;rw[xw b a i (by omega)];refine congrArg _ (List.countP_congr λk d=>?_);have d:=Py.1 d;unfold twB nE;rw[yy (show i<l.length by omega),yy (show k<l.length by omega),xY s λx c=>⟨Cx b (a x c) (by omega),Cx b (a x c) (by omega)⟩]
def Nh(n:NA):OI:=(Oo (vZ n).length).all λk=>((vZ n)[k]?.getD []).all λs=>trn (bn n) s == k && s.isPerm (bn n)
def Jm:∀n,n<=5->Nh n=NB
 | 0,_=>by kernel_rfl
 | 1,_=>by kernel_rfl
 | 2,_=>by kernel_rfl
 | 3,_=>by kernel_rfl
 | 4,_=>by kernel_rfl
 | 5,_=>by kernel_rfl
 | n+6,h=>by omega
def Cc{l:Nu NH}(d:l.Nodup):lvl l.length 20 [l] [l]=(vZ l.length).map λL=>L.map λs=>s.map (atL l):=by
 have a:gk (λs=>s.Perm (bn l.length)) [bn l.length]:=λs c=>by rw[Pk.1 c]
 obtain⟨b,-⟩:=vY (Cf d) 20 [bn l.length] [bn l.length] a a;rw[show[bn l.length].map (λs=>s.map (atL l))=[l] by rw[Qj,qq];rfl] at b;exact b
def qw{l:Nu NH}(d:l.Nodup)(g:l.length<=5){k:NA}{L:Nu (Nu NH)}(a:(lvl l.length 20 [l] [l])[k]?=Nq L){s:Nu NH}(f:s∈L):s.Perm l/\trn l s=k:=by
 rw[Cc d,Pa] at a;cases hM:(vZ l.length)[k]? with
 | none=>rw[hM] at a;cases a
 | some M=>
  rw[hM] at a;cases a;obtain⟨m,hm,rfl⟩:=Qp.1 f;have h:=OF.1 (Jm l.length g) k (Py.2 (NT.1 hM).1);rw[hM,NK] at h;have b:=OF.1 h m hm;simp only[Of,beq_iff_eq] at b;have c:=List.isPerm_iff.1 b.2;refine⟨?_,?_⟩
  ·have:=c.map (atL l)
   rwa [qq] at this
  ·rw[<- b.1];unfold trn;rw[bN];exact xw d (λx e=>rA.1 (c.subset e)) _ (Nv _)
def Jp{l s:Nu NH}(d:l.Nodup)(i:l.length<=5)(f:s.Perm l):∃(k:NA) (L:Nu (Nu NH)),(lvl l.length 20 [l] [l])[k]?=Nq L/\s∈L:=by
 obtain⟨m,hm,rfl⟩:=uv d f;have c:=yF l.length i;unfold Gn at c;simp only[Of,OF,List.any_eq_true] at c;have a:(bn l.length).Nodup:=ri (nJ _);have⟨L,h,g⟩:=c.2 m (by unfold fK;exact(gM a).2 hm);have⟨k,b,e⟩:=Sj.1 h;refine⟨k,L.map λs=>s.map (atL l),?_,Qp.2 ⟨m,by simpa using g,rfl⟩⟩;rw[Cc d,Pa,ND b,e];rfl
def lE{ps:Nu Par}:∀(L:Nu (Nu NH)) (d:OI × Nu NH) (D:Nu NH->Prop),(d.1=NB->∀s,D s->¬ cU s d.2<0)->(d.1=NC->∀s,¬ D s) ->let r:=L.foldl (λb s=>if aC ps (pre Par.mx ps ps.length) s=NB then(NB,if b.1=NB/\ez s b.2=NC then b.2 else s) else b) d
  (r.1=NB->∀s,D s\/(s∈L/\aC ps (pre Par.mx ps ps.length) s=NB)->¬ cU s r.2<0)
 | [],d,D,i,_=>λg s a=>i g s (a.elim id λh=>by cases h.1)
 | x::L,d,D,i,l=>by
  intro r g s a;by_cases j:aC ps (pre Par.mx ps ps.length) x=NB
  ·have h:=lE (ps:=ps) L (NB,if d.1=NB/\ez x d.2=NC then d.2 else x) (λs=>D s\/s=x) (λ_ s a=>by
    by_cases c:d.1=NB/\ez x d.2=NC
    ·rw[if_pos c];rcases a with a | rfl
     ·exact i c.1 s a
     ·have:=c.2;unfold ez at this;simpa using this
    ·rw[if_neg c];rcases a with a | rfl
     ·cases hf:d.1 with
      | false=>exact absurd a (l hf s)
      | true=>
       have n:cU x d.2<0:=by
        have:ez x d.2≠NC:=λe=>c ⟨hf,e⟩;unfold ez at this;simpa using this
       exact λk=>i hf s a (mX k n)
     ·rw[lT];omega) (λe=>by cases e)
   have e:r=L.foldl (λb s=>if aC ps (pre Par.mx ps ps.length) s=NB then(NB,if b.1=NB/\ez s b.2=NC then b.2 else s) else b) (NB,if d.1=NB/\ez x d.2=NC then d.2 else x):=by
    show List.foldl _ _ _=_;rw[PN,if_pos j]
   rw[e] at g ⊢;refine h g s ?_;rcases a with a | ⟨a,f⟩
   ·exact .inl (.inl a)
   ·rcases ON.1 a with rfl | a
    ·exact .inl (.inr rfl)
    ·exact .inr ⟨a,f⟩
  ·have e:r=L.foldl (λb s=>if aC ps (pre Par.mx ps ps.length) s=NB then(NB,if b.1=NB/\ez s b.2=NC then b.2 else s) else b) d:=by
    show List.foldl _ _ _=_;rw[PN,if_neg j]
   have h:=lE (ps:=ps) L d D i l;rw[e] at g ⊢;refine h g s ?_;rcases a with a | ⟨a,f⟩
   ·exact .inl a
   ·rcases ON.1 a with rfl | a
    ·exact absurd f j
    ·exact .inr ⟨a,f⟩
def Ge(l:Nu NH)(L:Nu (Nu NH)):∀i,mnI l L i<=i
 | 0=>Nv _
 | i+1=>by
  have:=Ge l L i;unfold mnI;split<;>omega
def BM(l:Nu NH)(L:Nu (Nu NH)):∀i,(∀j,j<i->trn l (L[mnI l L i]?.getD [])<=trn l (L[j]?.getD []))/\∀j,j<mnI l L i->j<i->trn l (L[mnI l L i]?.getD [])<trn l (L[j]?.getD [])
 | 0=>⟨λj h=>by omega,λj _ h=>by omega⟩
 | i+1=>by
  have⟨c,f⟩:=BM l L i;unfold mnI;split
  ·rename_i b
   refine⟨λj a=>?_,λj a _=>?_⟩
   ·by_cases e:j=i
    ·rw[e];exact Nv _
    ·have:=c j (by omega);omega
   ·have:=c j a;omega
  ·rename_i b
   refine⟨λj a=>?_,λj a d=>?_⟩
   ·by_cases e:j=i
    ·rw[e];omega
    ·exact c j (by omega)
   ·by_cases e:j=i
    ·subst e;by_cases g:trn l (L[mnI l L j]?.getD [])=trn l (L[j]?.getD [])
     ·exfalso;have:=Ge l L j;omega
     ·omega
    ·exact f j a (by omega)
def Gf{ps:Nu Par}{lim:NH}{l O:Nu NH}(Z:ps.length<=5)(I:dN ps lim l=0)(f:POk ps lim l)(y:O.Perm l)(Y:O.Pairwise (·<·)) :mN (dD ps (lvl l.length 20 [l] [l]) 0)=mdN ps lim l/\mL (dD ps (lvl l.length 20 [l] [l]) 0)=mdL ps lim l/\mE (dD ps (lvl l.length 20 [l] [l]) 0)=mdE ps lim l:=by
 have g:l.length<=5:=NM (dg ps.length l f.nd f.ok) Z;have D:=Ci (ps:=ps) (lim:=lim) Z f.ok f.nd y Y;have P:O.Nodup:=y.nodup_iff.2 f.nd;have i:∀s:Nu NH,s.Perm l->bK ps lim s=aC ps (pre Par.mx ps ps.length) s:=λs h=>by
  unfold bK;rw[mB ps h,decide_eq_true f.tall,TK]
 have c:∀s:Nu NH,s∈cy ps lim l↔s.Perm l/\aC ps (pre Par.mx ps ps.length) s=NB:=λs=>by
  rw[D,RS,gM P];constructor
  ·exact λh=>⟨h.1.t y,by rw[<- i s (h.1.t y)];exact h.2⟩
  ·exact λh=>⟨h.1.t y.symm,by rw[i s h.1];exact h.2⟩
 have z:(cy ps lim l).Pairwise λa b=>cU a b<0:=by rw[D];exact(rm Y _ _).filter _
 by_cases n:cy ps lim l=[]
 ·have Q:dD ps (lvl l.length 20 [l] [l]) 0=Ns:=yZ λL X=>by
   cases r:(dL ps L).1 with
   | false=>rfl
   | true=>
    have⟨H,G⟩:=(jz ps L).1 r;have⟨k,hk,e⟩:=Sj.1 X;have h3:=(qw f.nd g (by rw[ND hk,e]) H).1;have:=(c _).2 ⟨h3,G⟩;rw[n] at this;cases this
  rw[Q];refine⟨(if_neg λh=>h.2 n).symm,(if_neg λh=>h.2 n).symm,?_⟩;unfold mdE;rw[if_pos I,if_pos n];rfl
 ·obtain⟨d,v⟩:∃d,d=cy ps lim l:=⟨_,rfl⟩;rw[<- v] at c z n;have A:0<d.length:=Ru.2 n;have C:=AA l d A d.length (Nv _);have⟨p,o⟩:=BM l d d.length;have r:mdB l d=d[mnI l d d.length]?.getD []:=rfl;generalize mnI l d d.length=m at C p o r;rw[<- r] at p o;have U:mdB l d∈d:=by rw[r,ND C];exact RL _
  have⟨V,F⟩:=(c _).1 U;have⟨k,M,W,q⟩:=Jp f.nd g V;have B:=(qw f.nd g W q).2;have u:(dL ps M).1=NB:=by
   cases h:(dL ps M).1 with
   | true=>rfl
   | false=>have:=(jz ps M).2 h _ q;rw[F] at this;cases this
  have⟨c1,c2⟩:=(jz ps M).1 u;have⟨c3,c4⟩:=qw f.nd g W c1;have T:=(c _).2 ⟨c3,c2⟩;have R:∀j N,j<k->(lvl l.length 20 [l] [l])[j]?=Nq N->(dL ps N).1=NC:=λj N hj hN=>by
   cases h:(dL ps N).1 with
   | false=>rfl
   | true=>
    have⟨d1,d2⟩:=(jz ps N).1 h;have⟨d3,d4⟩:=qw f.nd g hN d1;have⟨x,w,e⟩:=Sj.1 ((c _).2 ⟨d3,d2⟩);have:=p x w;rw[ND w,NK,e] at this;omega
  have hf:=pN (st:=0) W R u;have S:(dL ps M).2=mdB l d:=by
   have⟨x,w,e⟩:=Sj.1 T;have a6:¬ x<m:=λh=>by
    have:=o x h w;rw[ND w,NK,e] at this;omega
   by_cases b6:x=m
   ·rw[r,ND C,NK,<- e]
    congr 1
   ·have H:=Rq.1 z m x C w (by omega);rw[e] at H;have G:=lE (ps:=ps) M (NC,[]) (λ_=>RI) (λh=>by cases h) (λ_ _ h=>h) u (mdB l d) (.inr ⟨q,F⟩);rw[r,ND C,NK] at G;exact absurd H G
  rw[hf,S];rw[v] at B n;refine⟨?_,?_,?_⟩
  ·unfold mdN;rw[if_pos ⟨I,n⟩,B];simp[mN]
  ·unfold mdL;rw[if_pos ⟨I,n⟩,<- v];rfl
  ·unfold mdE;rw[if_pos I,if_neg n];rfl
def Dn{d:Nu Par}{b:NH}{l c:Nu NH}(j:d.length<=5)(f:dN d b l=0)(e:POk d b l)(g:c.Perm l)(h:c.Pairwise (·<·)) :oE ((aX c c.length []).find? (bK d b))=mdE d b l/\((aX c c.length []).find? (bK d b)).getD []=odL d b l:=by
 unfold mdE odL;rw[if_pos f,if_pos f,Ci j e.ok e.nd g h];have i:((aX c c.length []).filter (bK d b)).head?=(aX c c.length []).find? (bK d b):=List.head?_filter;rw[<- i];cases(aX c c.length []).filter (bK d b) with
 | nil=>exact⟨rfl,rfl⟩
 | cons a t=>exact⟨by rw[if_neg (by simp)];rfl,rfl⟩
def AC(u qv:Ny)(g:Nu Par)(f:NH)(l:Nu NH)(w:Nt)(q:aD 0 w.heap.size w u g)(r:aj 0 w.heap.size w qv l)(o:l.length<=1000) :Oz Ya 54 #[.agg #[u,f],qv] w λe s=>∃v,e=.returned (.tuple #[(mdN g f l),v,(mdE g f l)])/\w.gb s Ns/\aj 0 s.heap.size s v (mdL g f l):=by
 by_cases j:dN g f l=0
 ·have⟨z,k⟩:=vS j;have C:=z.len;have⟨A,B⟩:=rO k.nd;have⟨N,M,L⟩:=Gf C j k A B;rw[<- N,<- M,<- L];exact Gg u qv g f l _ w q r z k (Gh (NM (dg g.length l k.nd k.ok) C) k A B)
 ·obtain⟨G,F,rfl,H,-⟩:=q.cell;obtain⟨base,O,rfl,I,-⟩:=r.cell;have i:=Nr w (.cells #[.slice G g.length F,f] 24) Ns;have D:=Np (yt 0 w.heap.size _ _ g f l _ (q.kept i) (r.kept i) i.size o);have P:=Np i;have x:(dN g f l == 0)=NC:=by rw[beq_eq_false_iff_ne];exact j
  rw[show mdE g f l=dN g f l from if_neg j,show mdN g f l=0 from if_neg λh=>j h.1,show mdL g f l=[] from if_neg λh=>j h.1];generalize dN g f l=c at D x ⊢;clear q r i j;go_enter Tp.x54,Tryz.ntmps54;go_wp2;refine wp_scope_straight ?_;go_wp2_with (go_at_call 81;refine D.mono ?_;rintro e Q ⟨a,n,b,d,rfl,p,-⟩;have y:=Np (P.t p);clear p);rw[Exit.noGoto_ret];go_ret3;exact⟨_,rfl,y.t (Nr _ _ Ns),aj.nil _ _ _⟩
def ym(s qv:Ny)(g:Nu Par)(f:NH)(l:Nu NH)(w:Nt)(p:aD 0 w.heap.size w s g)(q:aj 0 w.heap.size w qv l)(k:l.length<=1000) :Oz Ya 56 #[.agg #[s,f],qv] w λe r=>∃v,e=.returned (.tuple #[v,(mdE g f l)])/\w.gb r Ns/\aj 0 r.heap.size r v (odL g f l):=by
 by_cases i:dN g f l=0
 ·have⟨y,j⟩:=vS i;have A:=y.len;have I:=NM (dg g.length l j.nd j.ok) A;have⟨z,G⟩:=rO j.nd;have⟨M,L⟩:=Dn A i j z G;rw[<- M,<- L];exact Dp s qv g f l _ w p q y j (ui (by omega)) z.symm
 ·obtain⟨D,C,rfl,F,-⟩:=p.cell;obtain⟨base,N,rfl,H,-⟩:=q.cell;have h:=Nr w (.cells #[.slice D g.length C,f] 24) Ns;have B:=Np (yt 0 w.heap.size _ _ g f l _ (p.kept h) (q.kept h) h.size k);have O:=Np h;have u:(dN g f l == 0)=NC:=by rw[beq_eq_false_iff_ne];exact i
  rw[show mdE g f l=dN g f l from if_neg i,show odL g f l=[] from if_neg i];generalize dN g f l=c at B u ⊢;clear p q h i;go_enter Tp.x56,WK;go_wp2_with (go_at_call 81;refine B.mono ?_;rintro e P ⟨a,n,b,d,rfl,o,-⟩;have x:=Np (O.t o);clear o);go_ret2;exact⟨_,rfl,x.t (Nr _ _ Ns),aj.nil _ _ _⟩
end
section
open Go Go.RowKit Go.Co Go.Sim Go.Conc Go.ConcN
structure Iu(v:Nt)(own yd pl pr:Ny)(er a:NH)(ul sl:Nu NH):Prop where
 c54:∀W,v.grownBy W Ns->Oz Ya 54 #[own,pl] W λe w'=>∃b c,e=.returned (.tuple #[a,.slice b ul.length c,er])/\W.grownBy w' Ns/\aj 0 w'.heap.size w' (.slice b ul.length c) ul
 c55:∀W,v.grownBy W Ns->Oz Ya 55 #[yd,pr] W λe w'=>∃b c,e=.returned (.tuple #[a,.slice b ul.length c,er])/\W.grownBy w' Ns/\aj 0 w'.heap.size w' (.slice b ul.length c) ul
 c56:∀W,v.grownBy W Ns->Oz Ya 56 #[own,pl] W λe w'=>∃b c,e=.returned (.tuple #[.slice b sl.length c,er])/\W.grownBy w' Ns/\aj 0 w'.heap.size w' (.slice b sl.length c) sl
 c57:∀W,v.grownBy W Ns->Oz Ya 57 #[yd,pr] W λe w'=>∃b c,e=.returned (.tuple #[.slice b sl.length c,er])/\W.grownBy w' Ns/\aj 0 w'.heap.size w' (.slice b sl.length c) sl
def BF{W:Nt}{f:NA}{d:NJ Ny}{j:NH}{g:Nu NH}(h:Oz Ya f d W λe a=>∃v,e=.returned (.tuple #[v,j])/\W.gb a Ns/\aj 0 a.heap.size a v g) :Oz Ya f d W λe a=>∃b c,e=.returned (.tuple #[.slice b g.length c,j])/\W.gb a Ns/\aj 0 a.heap.size a (.slice b g.length c) g:=by
 refine h.mono ?_;rintro e a ⟨v,rfl,k,i⟩;obtain⟨b,c,rfl,-,-⟩:=i.cell;exact⟨b,c,rfl,k,i⟩
def BE{W:Nt}{f:NA}{g:NJ Ny}{a k:NH}{i:Nu NH}(h:Oz Ya f g W λe d=>∃v,e=.returned (.tuple #[a,v,k])/\W.gb d Ns/\aj 0 d.heap.size d v i) :Oz Ya f g W λe d=>∃b c,e=.returned (.tuple #[a,.slice b i.length c,k])/\W.gb d Ns/\aj 0 d.heap.size d (.slice b i.length c) i:=by
 refine h.mono ?_;rintro e d ⟨v,rfl,l,j⟩;obtain⟨b,c,rfl,-,-⟩:=j.cell;exact⟨b,c,rfl,l,j⟩
def Iu.of{v:Nt}{w t y q:NO OX}{u s x p:NA}{f:Nu Par}{d:Nu NH}{lm:NH}(F:aD 0 v.heap.size v (.slice w f.length u) f)(D:bH 0 v.heap.size v (.slice t f.length s) f)(G:aj 0 v.heap.size v (.slice y d.length x) d)(B:aS 0 v.heap.size v (.slice q d.length p) d)(g:d.length<=1000)(r:d.length<=p) :∃H a z A,Iu v (.agg #[.slice w f.length u,lm]) (.agg #[.slice t f.length s,lm]) (.slice y d.length x) (.slice q d.length p) H a z A:=by
 have l:=λ(W:Nt) (h:v.gb W Ns)=>((F.kept h).mono (Nv _) h.size:aD 0 W.heap.size W _ f);have k:=λ(W:Nt) (h:v.gb W Ns)=>((D.kept h).mono (Nv _) h.size:bH 0 W.heap.size W _ f);have o:=λ(W:Nt) (h:v.gb W Ns)=>((G.kept h).mono (Nv _) h.size:aj 0 W.heap.size W _ d);have j:=λ(W:Nt) (h:v.gb W Ns)=>((B.kept h).mono (Nv _) h.size:aS 0 W.heap.size W _ d);have i:∀b n c,OS q d.length p=.slice b n c->n<=c:=λb n c e=>by cases e;exact r
 exact⟨mdE f lm d,mdN f lm d,mdL f lm d,odL f lm d,λW h=>BE (AC _ _ f lm d W (l W h) (o W h) g),λW h=>BE (Dx _ _ f lm d W (k W h) (j W h) g i),
  λW h=>BF (ym _ _ f lm d W (l W h) (o W h) g),λW h=>BF (Av _ _ f lm d W (k W h) (j W h) g i)⟩
section
variable[J:JunkSet]{Post:Ny->Nt->Prop}{W:Nt}
def el9(D:Two Ya NV)(n6:JunkSet.okf 137)(p9:∀i,¬ JunkSet.jk i)(q0:Ya.inits.idxOf? 9=Ns)(e6:Tryz.prog.inits.idxOf? 9=Ns){yb lb base:NO OX}{ny yc nl lc P r4:NA}{N n:NH}{p:Par}{wq:Nt}(hl:(P:NH)<=9223372036854775807)(hr:0<P->∃lb lo,base=Nq ⟨lb,lo,Ns⟩/\∀i,i<P->∃x,wq.cell? ⟨lb,lo+i,Ns⟩=Nq (.int .i64 x))(h0:br wq 0)(hY:ny<=20->∃ps:Nu Par,ps.length=ny/\bH 0 wq.heap.size wq (.slice yb ny yc) ps)(hL:nl<=20->∃l:Nu NH,l.length=nl/\aS 0 wq.heap.size wq (.slice lb nl lc) l/\nl<=lc)(a8:∀w,(∀j,j<W.heap.size->w.heap[j]?=W.heap[j]?)->w.os=W.os->w.output=W.output->W.heap.size<=w.heap.size->Post (.bool NB) w) :EL Ya NV 9 Post W (G (OT Ya 9 #[.agg #[.slice yb ny yc,N],.agg #[.int .i64 p.mn,.int .i64 p.mx,.int .i64 p.bears,.int .i64 p.tall],.slice lb nl lc,n,.slice base P r4] .normal) [ay 9]) wq:=by
 have c:Ya.funcs[(Oq 9).fn]?=Tryz.prog.funcs[(Oq 9).fn]?:=bG 9 (by decide);have d:Bot 9 [ay 9]:=⟨[],rfl⟩;rw[DK (fn:=VF) (c0:=Tryz.f9.body.getD .skip) Tp.x9 (by kernel_rfl)];simp only[VF,NK];walk_nrm;have⟨HR,r8,s2⟩:=bC hr hY hL;clear hr hY hL;refine EL.sp D d c λT=>?_;go_wp2;obtain⟨A,hA⟩:∃A,A=(wq.tp T).heap.size:=⟨_,rfl⟩;rw[<- hA];have s:=(Nr (wq.tp T) (.cells #[.slice yb ny yc,N] 24) Ns).t (Nr _ (.cells #[.int .i64 p.mn,.int .i64 p.mx,.int .i64 p.bears,.int .i64 p.tall] 28) Ns);refine fy (λq=>(wq.tp q.tape).gb q Ns/\q.heap[A]?=Nq (.cells #[.slice yb ny yc,N] 24 (0,0))/\q.heap[A+1]?=Nq (.cells #[.int .i64 p.mn,.int .i64 p.mx,.int .i64 p.bears,.int .i64 p.tall] 28 (0,0))) ⟨tpg (T:=T) s,aE (by rw[hA];exact NL _ _),by
  have:=NL ((wq.tp T).alloc (.cells #[.slice yb ny yc,N] 24)) (.cells #[.int .i64 p.mn,.int .i64 p.mx,.int .i64 p.bears,.int .i64 p.tall] 28);rw[NW,<- hA] at this;exact this⟩ λu1 Q=>?_
 obtain⟨g1,a1,p1⟩:=Q;clear s hA;by_cases e8:20<ny\/20<nl
 ·have z1:(20:NH)<(ny:NH)\/((¬ (20:NH)<(ny:NH))/\(20:NH)<(nl:NH)):=by omega
  clear e8;refine EL.seq D d c ?_;refine EL.seq D d c ?_;rcases z1 with q7 | ⟨q7,z0⟩;all_goals
   refine EL.piece D d c λT=>?_;have c0:=aa (w:=u1.tp T) a1 (o:=0) rfl;go_wp2;refine EL.tape (wq:=u1) ?_ T;clear c0;refine EL.cond D d c NB (by rfl) ?_;simp only[if_true];refine EL.seq D d c ?_;refine EL.region D d c ?_;simp only[Ox,NQ,NU,Oh,Oc,Oo,Pf];refine EL.enter D d c (fk:=23) (args:=#[]) rfl rfl (λT=>by rw[TI (f:=23) rfl Tp.x23 (by kernel_rfl) rfl];walk_nrm) (bG 23 (by decide)) ?_;refine Mx D n6 p9 q0 ⟨_,Tp.x9,VP⟩ ?_ _ [ay 9] d c λv u hR=>?_
   ·obtain⟨cs,e,g,h0,k0⟩:=h0;exact⟨cs,e,g,blk (w:=wq.tp u1.tape) g1 (by simp) h0,k0⟩
   obtain⟨rfl,a9⟩:=hR;rw[Qw];walk_nrm;refine EL.list D d c [1] [_] (rest:=[]) rfl λT4=>?_;go_wp2;refine EL.tape (wq:=u) ?_ T4;refine EL.region_end D d c ?_;refine EL.retS D d c ?_;exact EL.last e6 rfl rfl VP rfl rfl a8
 have n7:ny<=20:=by omega
 have n8:nl<=20:=by omega
 clear e8;obtain⟨ps,rfl,hP⟩:=r8.out n7;obtain⟨l,rfl,hI,p7⟩:=s2.out n8;clear r8 s2;refine EL.seq D d c ?_;refine EL.sp D d c λT=>?_;have c0:=aa (w:=u1.tp T) a1 (o:=0) rfl;have q7:¬ (20:NH)<(ps.length:NH):=by omega
 have z0:¬ (20:NH)<(l.length:NH):=by omega
 go_wp2;refine EL.tape (wq:=u1) ?_ T;clear c0;refine EL.cond D d c NC (by rfl) ?_;refine EL.skip D d c ?_;refine EL.sp D d c λT=>?_;have s1:=Np (show 0<P->∃lb lo,base=Nq ⟨lb,lo,Ns⟩/\∀i,i<P->∃x,(u1.tp T).cell? ⟨lb,lo+i,Ns⟩=Nq (.int .i64 x) from λhp=>by
  have⟨lb,lo,e,h⟩:=HR.out hp;refine⟨lb,lo,e,λi hi=>?_⟩;have⟨x,hx⟩:=h i hi;exact⟨x,World.grownBy.cell (w:=wq.tp u1.tape) g1 hx (by simp)⟩)
 go_wp2_with (go_at_call 24;refine(Ay base P r4 (u1.tp T) hl s1).mono ?_;rintro e w2 ⟨rfl,q6,n3⟩;have G2:=Np q6;have T2:=Np n3;clear q6 n3);obtain⟨b,k6⟩:∃b,b=(u1.tp T).heap.size:=⟨_,rfl⟩;rw[<- k6] at T2 ⊢;have k5:wq.heap.size<=b:=by rw[k6];exact g1.size
 refine fy (λu=>(wq.tp u.tape).gb u Ns/\bg u b 0/\u.heap[A]?=Nq (.cells #[.slice yb ps.length yc,N] 24 (0,0))/\u.heap[A+1]?=Nq (.cells #[.int .i64 p.mn,.int .i64 p.mx,.int .i64 p.bears,.int .i64 p.tall] 28 (0,0))) ⟨gb g1 (tpg G2),T2,blk (w:=u1.tp T) G2 (by simp) a1,blk (w:=u1.tp T) G2 (by simp) p1⟩ λu2 Q=>?_;obtain⟨g2,t2,a2,p2⟩:=Q;clear G2 T2 k6 HR s1 g1 a1 p1;have⟨HP,HI⟩:=aQ hP hI;clear hP hI;refine EL.sp D d c λT=>?_;have c0:=aa (w:=u2.tp T) a2 (o:=0) rfl;have c1:=aa (w:=u2.tp T) a2 (o:=1) rfl;have c2:=aa (w:=u2.tp T) p2 (o:=0) rfl;have c3:=aa (w:=u2.tp T) p2 (o:=1) rfl;have c4:=aa (w:=u2.tp T) p2 (o:=2) rfl;have c5:=aa (w:=u2.tp T) p2 (o:=3) rfl;go_wp2_with (go_at_call 25;refine(xX 0 _ _ ps N p b 0 (u2.tp T) (show bH 0 wq.heap.size (u2.tp T) (.slice yb ps.length yc) ps from bH.kept (w:=wq.tp u2.tape) (w':=u2) HP g2 (by simp)) t2 (by omega)).mono ?_;rintro e w3 ⟨ms,ml,mv,wv,Z,m9,rfl,p3,-,m8,g9,g7⟩;have N3:=Np p3;have M3:=Np g9;have W3:=Np g7;have Z3:=Np m8;have YD:=Np m9;obtain⟨mb,mc,rfl,-,-⟩:=g9.cell;obtain⟨wb,wc,rfl,-,-⟩:=g7.cell;clear p3 g9 g7 m8 m9);have d7:b<u2.heap.size:=t2.lt;refine fy (λq=>(wq.tp q.tape).gb q Ns/\bg q b 31/\q.heap[Z]?=Nq (.cells #[.slice yb ps.length yc,N,.slice mb ms.length mc,ml,.slice wb (ms++[p]).length wc,ml] 24 (0,0))/\aD u2.heap.size q.heap.size q (.slice mb ms.length mc) ms/\aD u2.heap.size q.heap.size q (.slice wb (ms++[p]).length wc) (ms++[p])) ⟨GL g2 (tpg N3.1) k5,N3.2,Z3,M3,W3⟩ λu3 Q=>?_;obtain⟨g3,t3,z3,m3,w3⟩:=Q;have x6:ms.length<=4:=YD.out.len;have z4:b≠Z:=λe=>by
  have h:=z3;obtain⟨_,_,_,_,_,_,z2,_⟩:=t3;rw[<- e,z2] at h;injection h with h;injection h with _ h _;exact absurd h (by decide)
 clear N3 M3 W3 Z3 g2 t2 a2 p2 c0 c1 c2 c3 c4 c5;refine EL.sp D d c λT=>?_;have c2:=aa (w:=u3.tp T) z3 (o:=2) rfl;have c3:=aa (w:=u3.tp T) z3 (o:=3) rfl;go_wp2_with (go_at_call 26;go_must (refine(Di u2.heap.size _ _ l ms ml n b 31 (u3.tp T) ⟨_,_,rfl⟩ m3 d7 t3 (by omega) (by omega) (by have:=YD.out.l1;omega) (by have:=YD.out.l2;omega) (λq hq=>by have:=(YD.yok (Nat.le_succ_of_le (Nv 4))).each q hq;omega)).mono ?_);rintro e w4 ⟨m,L8,gc,ab,ac,Y,n4,rfl,n9,-,n2,q5,q2,q8,k7⟩;have N4:=Np n9;have G4:=Np q5;have A4:=Np q8;have Y4:=Np n2;have PK:=Np n4;clear n9 q5 q8 n2 n4);have p6:m.length+1=(m++[n]).length:=by simp
 have h8:m.length<=20:=by have:=dg ms.length m PK.nd PK.ok;omega
 rw[p6] at A4 Y4 k7;have p5:(m++[n]).length<=21:=by omega
 have p4:(ms++[p]).length<=21:=by simp;omega
 have g4:(wq.tp w4.tape).gb w4 Ns:=GL g3 (tpg N4.1) k5;have f4:xf Z Y w4:=xf.of (blk (w:=u3.tp T) N4.1 (by simp;omega) z3) Y4 ((bH.kept (w:=wq.tp w4.tape) HP g4 (by simp)).mono (Nv _) g4.size)
  (((aD.kept (w:=u3.tp T) m3 N4.1 (λR e=>by cases e;exact .inl d7)).mono (OE _) N4.1.size).g) (((aD.kept (w:=u3.tp T) w3 N4.1 (λR e=>by cases e;exact .inl d7)).mono (OE _) N4.1.size).g) ⟨by omega,by omega,p4⟩
  ((aS.kept (w:=wq.tp w4.tape) HI g4 (by simp)).mono (Nv _) g4.size) ((G4.mono (OE _) (Nv _)).g) ((A4.mono (OE _) (Nv _)).g) ⟨by omega,by omega,p5⟩ ⟨p7,q2,k7⟩
 refine fy (λq=>(wq.tp q.tape).gb q Ns/\xf Z Y q) ⟨g4,f4⟩ λu4 Q=>?_;clear g4 f4;obtain⟨g4,f4⟩:=Q;clear N4 G4 A4 Y4 PK YD HP HI z3 m3 w3 t3 g3 p5 p4 p6 k7 q2 p7 h8 x6 n7 n8 c2 c3 z4 d7 k5;refine EL.sp D d c λT=>?_;have F4:=Np (show xf Z Y (u4.tp T) from⟨f4.y,f4.l⟩);have G4:=Np g4;clear f4 g4 hl;go_wp2;go_loopw [14] (λiv wr=>∃i:NA,iv=.int .i64 i/\i<=3/\(u4.tp T).gb wr Ns) (λiv _=>(3 - OP iv).toNat)
 case atStart=>exact⟨0,rfl,by omega,NN _ _⟩
 case round=>
  obtain⟨i,rfl,hi,I⟩:=hrel;have HG:=Np I;have H:=F4.out.kept I;have HF:=Np H;by_cases x7:i<3
  ·have⟨C,B,lm,r,c0,c1,hq,F1⟩:=H.y i x7;have L6:(i:NH)<3:=by omega
   have HQ:=Np hq;clear I H hq;go_upto_region 10 with(go_at_call 27;refine(wh 0 _ _ r lm wr ⟨_,rfl,HQ⟩ (Nv _) (by omega)).mono ?_;rintro e w5 ⟨ov,rfl,q4,g8⟩;have G5:=Np q4;have O5:=Np g8;obtain⟨ob,oc,rfl,-,-⟩:=g8.cell;clear q4 g8);obtain⟨O,hO⟩:∃O,O=w5.heap.size:=⟨_,rfl⟩;rw[<- hO];have s:=G5.out.t (Nr w5 (.cells #[.slice ob r.length oc,lm] 24) Ns);refine eE (λu=>(u4.tp T).gb u Ns/\u.heap[O]?=Nq (.cells #[.slice ob r.length oc,lm] 24 (0,0))/\aD 0 u.heap.size u (.slice ob r.length oc) r/\u.cell? ⟨Z,i*2,Ns⟩=Nq (.slice C r.length B)/\u.cell? ⟨Z,i*2+1,Ns⟩=Nq (.int .i64 lm)/\bH 0 u.heap.size u (.slice C r.length B) r)
    ⟨HG.t s,by rw[hO];exact NL _ _,(O5.alloc _).mono (OE _) (by rw[NW];omega),s.cl c0,s.cl c1,(HQ.kept s).mono (Nv _) s.size⟩ (λu Q=>?_)
   obtain⟨gu,ou,pu,c0,c1,qu⟩:=Q;have⟨GU,OU,PU,QU⟩:=cJ gu ou pu qu;have FU:=Np (F4.kept gu);clear G5 O5 s hO HQ HG HF gu ou pu qu;go_wp2;go_loopw [16] (λkv wr=>∃k:NA,kv=.int .i64 k/\k<=3/\u.gb wr Ns) (λkv _=>(3 - OP kv).toNat)
   case atStart=>exact⟨0,rfl,by omega,NN _ _⟩
   case round=>
    obtain⟨k,rfl,hk,I⟩:=hrel;have HG:=Np I;have H:=FU.out.kept I;have d0:=aa (bk I OU) (o:=0) rfl;have d1:=aa (bk I OU) (o:=1) rfl;have e0:=I.cl c0;have e1:=I.cl c1;have PW:=Np ((PU.kept I).mono (Nv _) I.size);have QW:=Np ((QU.kept I).mono (Nv _) I.size);by_cases x8:k<3
    ·have⟨xb,xc,V,x0,hx,E8,x5⟩:=H.l k x8;have L5:(k:NH)<3:=by omega
     have HX:=Np hx;clear I H hx c0 c1;go_upto_region 14 with(go_at_call 28;refine(DO 0 _ _ V wr HX (Nv _) (by omega)).mono ?_;rintro e w6 ⟨kv,rfl,q3,p8⟩;have h9:=aj.own p8 (by omega);obtain⟨kb,kc,rfl,-,-⟩:=h9.cell;have G6:=Np q3;have K6:=Np h9;clear q3 p8 h9);refine eE (λv=>wr.gb v Ns/\aj 0 v.heap.size v (.slice kb V.length kc) V) ⟨G6,K6.mono (OE _) (Nv _)⟩ (λv Q=>?_);obtain⟨S,kv⟩:=Q;have d2:=S.cl d0;have d3:=S.cl d1;have e2:=S.cl e0;have e3:=S.cl e1;have x1:=S.cl x0;have q1:=HG.out.t S;have⟨GV,KV⟩:=aQ q1 kv;have PV:=Np ((PW.kept S).mono (Nv _) S.size);have QV:=Np ((QW.kept S).mono (Nv _) S.size);have XV:=Np ((HX.kept S).mono (Nv _) S.size);clear G6 K6 S kv q1 d0 d1 e0 e1 x0 HG PW QW HX;have⟨er,a,L,X,h4⟩:=Iu.of (lm:=lm) PV QV KV XV (by omega) x5;have E4:=Np h4;have U:=Np (show ∀w',v.gb w' Ns->v.gb w' Ns/\w'.cell? O=Nq (.slice ob r.length oc)/\w'.cell? ⟨O,1,Ns⟩=Nq (.int .i64 lm)/\w'.cell? ⟨Z,i*2,Ns⟩=Nq (.slice C r.length B)/\w'.cell? ⟨Z,i*2+1,Ns⟩=Nq (.int .i64 lm)/\w'.cell? ⟨Y,k,Ns⟩=Nq (.slice xb V.length xc) from λw' h=>⟨h,h.cl d2,h.cl d3,h.cl e2,h.cl e3,h.cl x1⟩);have C8:=Np λ(W:Nt) (h:v.gb W Ns)=>NY ((KV.kept h).mono (Nv _) h.size:aj 0 W.heap.size W (.slice kb V.length kc) V) ((XV.kept h).mono (Nv _) h.size:aS 0 W.heap.size W (.slice xb V.length xc) V);clear h4 PV QV KV XV;go_upto_region 15 with(go_at_call 54;refine(E4.c54 _ (NN _ _)).mono ?_;rintro e w7 ⟨ub,uc,rfl,b6,b8⟩;have G7:=Np b6;have B7:=Np b8;clear b6 b8);have BU:=Np λ(W:Nt) (h:w7.gb W Ns)=>((B7.kept h).mono (Nv _) h.size:aj 0 W.heap.size W (.slice ub L.length uc) L);clear d2 d3 e2 e3 x1 B7;have z:=Np (ai w7 Ns);refine aI 15 (λw'=>v.gb w' Ns/\w'.cell? O=Nq (.slice ob r.length oc)/\w'.cell? ⟨O,1,Ns⟩=Nq (.int .i64 lm)/\w'.cell? ⟨Z,i*2,Ns⟩=Nq (.slice C r.length B)/\w'.cell? ⟨Z,i*2+1,Ns⟩=Nq (.int .i64 lm)/\w'.cell? ⟨Y,k,Ns⟩=Nq (.slice xb V.length xc)) (by kernel_rfl) (by kernel_rfl) (U _ (G7.t z)) (λhHeld=>?_);simp only[NQ,NU,Oh,OV,Oc,Oj,Ol,Ow,On,Oa];refine tk 0 (h:=tk 1 (h:=tk 2 (h:=tk 3 (h:=tk 4 (h:=tk 5 (h:=tk 6 (h:=tk 7 (h:=?_))))))));try go_frame
     refine rdc 8 λK hK=>?_;go_simp;go_at_call 55;refine(E4.c55 _ (G7.t z)).mono ?_;rintro e w8 ⟨vb,vc,rfl,b0,b7⟩;replace z:=Np (z.t b0);have BV:=Np b7;clear b0 b7;refine hK.out _ _ (U _ (G7.t z)) (λhHeld=>?_);refine tk 9 (h:=tk 10 (h:=tk 11 (h:=tk 12 (h:=tk 13 (h:=tk 14 (h:=?_))))));try go_frame
     refine⟨by kernel_rfl,?_⟩;simp only[Oi,OH];clear hHeld;have CV:=Np (NY (BU _ z) BV);have GT:=Np (G7.t z);clear BU BV G7 z;go_upto_region 16 with(fail);refine eE (λq=>v.gb q Ns/\aj 0 q.heap.size q (.slice ub L.length uc) L/\aj 0 q.heap.size q (.slice vb L.length vc) L) ⟨GT,CV⟩ (λq Q=>?_);obtain⟨gq,bu,bv⟩:=Q;have GQ:=Np gq;have BU:=Np λ(W:Nt) (h:q.gb W Ns)=>NY ((bu.kept h).mono (Nv _) h.size:aj 0 W.heap.size W (.slice ub L.length uc) L) ((bv.kept h).mono (Nv _) h.size:aj 0 W.heap.size W (.slice vb L.length vc) L);obtain⟨-,d2,d3,-,-,-⟩:=U.out q gq;clear GT CV gq bu bv;go_upto_region 17 with(go_at_call 56;refine(E4.c56 _ GQ).mono ?_;rintro e w7 ⟨sb,sc,rfl,b6,b8⟩;have G7:=Np b6;have B7:=Np b8;clear b6 b8);have BS:=Np λ(W:Nt) (h:w7.gb W Ns)=>((B7.kept h).mono (Nv _) h.size:aj 0 W.heap.size W (.slice sb X.length sc) X);clear d2 d3 B7;have z:=Np (ai w7 Ns);refine aI 13 (λw'=>v.gb w' Ns/\w'.cell? O=Nq (.slice ob r.length oc)/\w'.cell? ⟨O,1,Ns⟩=Nq (.int .i64 lm)/\w'.cell? ⟨Z,i*2,Ns⟩=Nq (.slice C r.length B)/\w'.cell? ⟨Z,i*2+1,Ns⟩=Nq (.int .i64 lm)/\w'.cell? ⟨Y,k,Ns⟩=Nq (.slice xb V.length xc)) (by kernel_rfl) (by kernel_rfl) (U _ (GQ.t (G7.t z))) (λhHeld=>?_);simp only[NQ,NU,Oh,OV,Oc,Oj,Ol,Ow,On,Oa];refine tk 0 (h:=tk 1 (h:=tk 2 (h:=tk 3 (h:=tk 4 (h:=tk 5 (h:=tk 6 (h:=tk 7 (h:=?_))))))));try go_frame
     refine rdc 8 λK hK=>?_;go_simp;go_at_call 57;refine(E4.c57 _ (GQ.t (G7.t z))).mono ?_;rintro e w8 ⟨tb,tc,rfl,b0,b7⟩;replace z:=Np (z.t b0);have BT:=Np b7;clear b0 b7;refine hK.out _ _ (U _ (GQ.t (G7.t z))) (λhHeld=>?_);refine tk 9 (h:=tk 10 (h:=tk 11 (h:=tk 12 (h:=?_))));try go_frame
     refine⟨by kernel_rfl,?_⟩;simp only[Oi,OH];clear hHeld;have CV:=Np (NY (BU _ (G7.t z)) (NY (BS _ z) BT));have GT:=Np (GQ.t (G7.t z));clear BU BS BT G7 z;go_upto_region 18 with(fail);refine eE (λp=>v.gb p Ns/\((aj 0 p.heap.size p (.slice ub L.length uc) L/\aj 0 p.heap.size p (.slice vb L.length vc) L)/\(aj 0 p.heap.size p (.slice sb X.length sc) X/\aj 0 p.heap.size p (.slice tb X.length tc) X))) ⟨GT,CV⟩ (λp Q=>?_);obtain⟨gp,⟨bu,bv⟩,⟨bs,bt⟩⟩:=Q;have GP:=Np gp;have BA:=Np (NY bu bv);have BB:=Np λ(W:Nt) (h:p.gb W Ns)=>NY ((bs.kept h).mono (Nv _) h.size:aj 0 W.heap.size W (.slice sb X.length sc) X) ((bt.kept h).mono (Nv _) h.size:aj 0 W.heap.size W (.slice tb X.length tc) X);clear GT CV gp bu bv bs bt GQ;go_wp2_with (fail);go_at_call 31;refine(dH 0 _ 0 _ _ _ L L _ BA.1 BA.2).mono ?_;rintro e w9 ⟨rfl,a9⟩;rw[decide_eq_true rfl];have G9:=Np a9;have B9:=Np (BB w9 a9);clear a9 BA BB;go_wp2_with (fail);go_at_call 31;refine(dH 0 _ 0 _ _ _ X X _ B9.1 B9.2).mono ?_;rintro e m6 ⟨rfl,e7⟩;rw[decide_eq_true rfl];have l4:=Np (GP.t (G9.t e7));obtain⟨-,-,-,-,-,x1⟩:=U.out m6 l4;have KI:=Np (C8 m6 l4);clear e7 B9;go_wp2_with (fail);go_at_call 31;refine(DH 0 _ 0 _ _ _ V V _ KI.1.g KI.2).mono ?_;rintro e v2 ⟨rfl,F⟩;rw[decide_eq_true rfl];have GZ:=Np (GV.t (l4.t F));clear F x1;go_wp2;go_roundw
     case rel=>exact⟨k+1,by simp,by omega,GZ⟩
     case measure=>simp[OP];omega
    ·obtain rfl:k=3:=by omega
     clear I H;go_upto_region 20 with(fail);have r9:=Np (show ∀w' M,wr.gb w' Ns/\w'.cell? O=Nq (.slice ob r.length oc)/\w'.cell? ⟨O,1,Ns⟩=Nq (.int .i64 lm)/\w'.cell? ⟨Z,i*2,Ns⟩=Nq (.slice C r.length B)/\w'.cell? ⟨Z,i*2+1,Ns⟩=Nq (.int .i64 lm)->w'.gb M Ns->wr.gb M Ns/\M.cell? O=Nq (.slice ob r.length oc)/\M.cell? ⟨O,1,Ns⟩=Nq (.int .i64 lm)/\M.cell? ⟨Z,i*2,Ns⟩=Nq (.slice C r.length B)/\M.cell? ⟨Z,i*2+1,Ns⟩=Nq (.int .i64 lm) from λw' M h h'=>⟨h.1.t h',h'.cl h.2.1,h'.cl h.2.2.1,h'.cl h.2.2.2.1,h'.cl h.2.2.2.2⟩);refine aI 5 (λw'=>wr.gb w' Ns/\w'.cell? O=Nq (.slice ob r.length oc)/\w'.cell? ⟨O,1,Ns⟩=Nq (.int .i64 lm)/\w'.cell? ⟨Z,i*2,Ns⟩=Nq (.slice C r.length B)/\w'.cell? ⟨Z,i*2+1,Ns⟩=Nq (.int .i64 lm)) (by kernel_rfl) (by kernel_rfl) (r9 wr wr.drew ⟨NN _ _,d0,d1,e0,e1⟩ (ai wr Ns)) (λhHeld=>?_);simp only[NQ,NU,Oh,OV,Oc,Oj,Ol,Ow,On,Oa];refine tk 0 (h:=tk 1 (h:=tk 2 (h:=tk 3 (h:=tk 4 (h:=?_)))));try go_frame
     refine⟨by kernel_rfl,?_⟩;simp only[Oi,OH];have PZ:=Np ((PW.kept hHeld.1).mono (Nv _) hHeld.1.size);have QZ:=Np ((QW.kept hHeld.1).mono (Nv _) hHeld.1.size);have GH:=Np hHeld.1;clear hHeld r9 PW QW;go_wp2_with (go_at_call 32;refine(tj 0 _ 0 _ _ _ r r lm lm _ ⟨_,rfl,PZ.g⟩ ⟨_,rfl,QZ⟩).mono ?_;rintro e v2 ⟨rfl,F⟩;rw[decide_eq_true ⟨rfl,rfl⟩];have D0:=Np F;clear F);have GZ:=Np (GU.t (HG.t (GH.t D0)));go_roundw
     case rel=>exact⟨i+1,by simp,by omega,GZ⟩
     case measure=>simp[OP];omega
  ·obtain rfl:i=3:=by omega
   clear I H;go_wp2;refine fy (λq=>(wq.tp q.tape).gb q Ns) (gb G4 (tpg HG)) λu6 g6=>?_;refine EL.seq D d c ?_;refine EL.region D d c ?_;simp only[Ox,NQ,NU,Oh,Oc,Oo,Pf];refine EL.enter D d c (fk:=23) (args:=#[]) rfl rfl (λT=>by rw[TI (f:=23) rfl Tp.x23 (by kernel_rfl) rfl];walk_nrm) (bG 23 (by decide)) ?_;refine Mx D n6 p9 q0 ⟨_,Tp.x9,VP⟩ ?_ _ [ay 9] d c λv u hR=>?_
   ·obtain⟨cs,e,g,h0,k0⟩:=h0;exact⟨cs,e,g,blk (w:=wq.tp u6.tape) g6 (by simp) h0,k0⟩
   obtain⟨rfl,a9⟩:=hR;rw[Qw];walk_nrm;refine EL.list D d c [1] [_] (rest:=[]) rfl λT4=>?_;go_wp2;refine EL.tape (wq:=u) ?_ T4;refine EL.region_end D d c ?_;refine EL.retS D d c ?_;exact EL.last e6 rfl rfl VP rfl rfl a8
end
end
section
open Go Go.RowKit Go.Co Go.Sim Go.Conc Go.ConcN Go.ChangeShapes Go.WideShapes
def Tryz.own:ownKnob Tryz.prog.godebug=Ns:=by kernel_rfl
def Tryz.laidOut:laidOutB NV=NB:=by kernel_rfl
def Ch:Tryz.prog.globals.size=0:=by kernel_rfl
def Fj:(begin NV (λ_ _=>0) default).world.heap[0]?=Nq (.cells ((Se Tryz.prog.types.size).map λt=>.int .u64 (Int.ofNat t)) 0 (0,0)):=by kernel_rfl
def Kb(w:Nt):Prop:=∃a e f,w.heap[0]?=Nq (.cells a e f)/\∀(i:NA) v,a[i]?=Nq v->∃k m,v=.int k m
def Mj{w:Nt}(h:w.ShapedOpen NV):Kb w:=by
 have⟨o,e,d,c,b⟩:=h.2 0 (by rw[Ch];exact Nv _) (Nz.1 Fj).1;rw[Fj] at c;cases c;rw[Ch,if_neg (by decide)] at b;subst b;refine⟨_,_,_,d,λi v a=>?_⟩;rw[Uv] at a;cases hi:(Se Tryz.prog.types.size)[i]? with
 | none=>rw[hi] at a;cases a
 | some x=>rw[hi] at a;cases a;exact⟨_,_,rfl⟩
def LW:@Two (JS Ya NV ls λ_=>RI) Ya NV :=
 @Two.mk (JS Ya NV ls λ_=>RI) _ _ (Km _) ⟨⟨JS Ya Ya ls λ_=>RI⟩,up _,Kl _⟩ hrf Fg
end
end Go.Proofs.YtidgnkmjgioapaaGreat
