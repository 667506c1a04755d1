/-
  Part 4 of the proof. gladstonelaw04.PileMends answers true for every yard, parcel, pile, number and list of numbers that the statement takes, and leaves its arguments as they were. No conditions.
-/
import Derived.Test.YtidgnkmjgioapaaGreatG2
import Derived.Test.YtidgnkmjgioapaaGreatL1
import Derived.RangeFuncBox
import Derived.DeepKeys
import Derived.RangeFuncNested
import Derived.RangeFuncBound
import Derived.RangeFuncCalls
import Derived.RangeFuncLeaves
import Derived.Shelf.Abstract
import Derived.WalkKit
import Derived.OwnWalkIn
import Derived.TacticsInMore
import Derived.LoopNIn
import Derived.LoopIn
import Derived.Laws.CopyOwn
import Derived.Laws.CopyRow
import Derived.Laws.IdiomCopy
import Derived.Recover
import Derived.Defers
import Derived.RangeFuncOwn
import Derived.WalkMore
set_option maxRecDepth 100000
set_option maxHeartbeats 8000000
set_option linter.all false
open And renaming intro->NY
open Array renaming getElem?_append_left->Ua,getElem?_eq_some_iff->Nz,getElem?_setIfInBounds_ne->Po,getElem?_setIfInBounds_self_of_lt->Rd,replicate_succ->Oj,replicate_zero->Ol
open Bool renaming and_eq_true->Of,eq_false_iff->So,false_eq_true->OJ,true_and->TK,false->NC,true->NB
open Classical renaming byContradiction->OK,em->Tx
open Go renaming Act->QF,Addr->OX,Calls->Oz,Code->Qs,Deferred->Qa,Exit->Ux,Frame->NS,FuncId->Pl,block_lt_of_cell->Xw,Goroutine->NF,Item->Si,MapEntry->Rz,Oper->PE,Operand->OQ,Program->NR,TypeId->NZ,Value->Ny,World->Nt,bits->Wy,bodyPost_ret->Qi,callsIn_of_wp->Wf,callsIn_of_wp_marks->Vz,callsIn_wide->QH,execOp->QN,grownBy_putObj'->RH,grownCap->Sm,heap_alloc_new->NL,info_parts->PM,leaves_cons->UF,maxLen->Rh,results->Qo,results_tmp->UE,run_takeDeferred->Vg,run_underlying->TZ,undef->NG,wpList_append_lies->VO,wpList_append_own->Rv,yielded->PH,zeroValue->Tk
open Go.Builtin renaming append_->Rj,clear_->UJ,copy_->VY,zeroCells->Qu
open Go.Calls renaming quiet_of_same->Qc
open Go.Code renaming wp_mono->UR
open Go.Conc renaming base->Oq,baseD->PD
open Go.Exit renaming inBlock->Tc,jump->Xn
open Go.Instr renaming checkKey->Sf,findAsking->SD,findKey->Td,lookup->Ue,makeMap->VZ,mapUpdate->PO
open Go.IntWalk renaming i64_in->Ov
open Go.Lib renaming hid->Np
open Go.MemAct renaming ofEvent->PG,touch?->Qr
open Go.Proofs.Tryz renaming f137->Xm,f139->SJ,f141->Vh,f142->UG,f54->Ul,func142->UU,ntmps101->Zw,ntmps103->Zr,ntmps113->Zu,ntmps136->Zs,ntmps154->Zv,ntmps157->XH,ntmps165->Zt,ntmps84->WH,ntmps98->Yo,prog->NV,results102->YQ,results54->Zg,underlying29->Ta,underlying3->SI
open Go.Region renaming binds->Pe,wanted->Oy
open Go.Result renaming andThen->TX,andThen_ok->PC
open Go.RowKit renaming intOf->OP
open Go.RowKit.Below renaming heap_setCell->Pn,refl->UA
open Go.Sem renaming run->Pr,run_bind->PF,run_pure->SZ
open Go.Value renaming cells->Vr,int->Og,oneCell'->PT,ownBlock->OG,slice->OS
open Go.World renaming cell?->OA,grownBy_alloc->Nr,news_of_block->Pt,ownsRow_nil->PX,putObj->ZO,putObj_heap_same->Tz,setCell->Qq,size_alloc->NW
open Go.World.grownBy renaming refl->NN
open List renaming all_eq_true->OF,append_assoc->Qv,append_nil->SV,append_toArray->Rt,cons_append->Oa,drop_eq_getElem_cons->QA,drop_eq_nil_of_le->Rp,drop_succ_cons->Oi,drop_zero->OH,eq_nil_of_length_eq_zero->OZ,ext_getElem->Wm,ext_getElem?->RO,filter_append->SP,find?_eq_none->Sa,flatMap_append->Xv,flatMap_cons->Qx,foldl_append->US,foldl_cons->PN,forall_mem_cons->Vu,forall_mem_nil->VA,getElem?_append_left->Ot,getElem?_append_right->Pq,getElem?_eq_getElem->ND,getElem?_eq_some_iff->NT,getElem?_map->Pa,getElem?_of_mem->Vs,getElem?_set_ne->Ri,getElem?_set_self->Sz,getElem?_take->Ty,getElem?_take_of_lt->PI,length_append->Pi,length_cons->NQ,length_filter_le->PS,length_map->Ql,length_nil->NU,length_pos_iff->Ru,length_set->Ur,length_singleton->UZ,length_take->Qt,map_append->Qm,map_cons->Qj,map_nil->Sx,map_toArray->SH,mem_append->Qb,mem_cons->ON,mem_filter->RS,mem_flatMap->Sc,mem_map->Qp,mem_of_getElem?->Od,mem_of_mem_take->Tb,mem_range->Py,mem_singleton->Pk,nil_append->On,not_mem_nil->PY,pairwise_iff_getElem->Rq,push_toArray->Ow,range->Oo,range'->Vq,range_succ->RF,replicate->Zf,size_toArray->Ox,takeWhile_cons_of_pos->Ub,take_add_one->OR,take_length->Ps,take_sublist->Yn
open List.cons renaming injEq->QT
open List.range renaming loop->Pf
open Nat renaming add_assoc->TF,add_mul->TY,le_of_eq->Sv,le_of_lt->Yp,le_refl->Nv,le_trans->NM,lt_of_lt_of_le->NX,min_eq_left->WQ,mul_le_mul->UT,reduceAdd->Oh,reduceSub->OV,zero_add->Oc,zero_le->OE
open Option renaming getD_some->NK,none->Ns,some->Nq
open Option.some renaming inj->QQ,injEq->OM
open Prod renaming fst->Su
open _root_ renaming Array->NJ,Bool->OI,False->RI,Int->NH,List->Nu,Nat->NA,Option->NO
namespace Go.Proofs.YtidgnkmjgioapaaGreat
section
open Go.RowKit Go.Co
def sqA:Qs->Qs | .seq a _=>a | c=>c
def sqB:Qs->Qs | .seq _ b=>b | c=>c
def inn:Qs->Qs | .block _ c | .loop c | .scope c=>c | c=>c
noncomputable def dZ:Qs:=inn (inn (inn (sqB (Tryz.f139.body.getD .skip))))
noncomputable def wR3:Qs:=sqA (sqB (sqB dZ))
noncomputable def wR4:Qs:=sqA (sqB (sqB (sqB dZ)))
noncomputable def wR9:Qs:=sqA (sqB (sqB (sqB (sqB dZ))))
structure I3(t:NA->Ny)(w0:Nt)(Y:NA)(yv:Ny)(gm gx:NA->NH)(l:NJ OI)(a:QF)(w:Nt):Prop where
 hg:w0.grownBy w Ns
 c6:l[6]?.getD NC=NB->l[0]?.getD NC=NB/\l[1]?.getD NC=NB/\l[3]?.getD NC=NB/\l[4]?.getD NC=NB/\l[5]?.getD NC=NB
 c7:l[7]?.getD NC=NB->l[6]?.getD NC=NB
 ac:∃T8 T9 x y z u,a=⟨#[t 0,t 1,t 2,t 3,.pointer (Nq Y),t 5,t 6,t 7,T8,T9,t 10,t 11,t 12,t 13,t 14,t 15,t 16,t 17,t 18,t 19,t 20,x,y,z,u,t 25,t 26,t 27,t 28,t 29,t 30,t 31,t 32,t 33,t 34,t 35,t 36,t 37,t 38,t 39,t 40,t 41,t 42,t 43,t 44,t 45,t 46,t 47,t 48,t 49,t 50,t 51,t 52,t 53,t 54,t 55,t 56,t 57,t 58,t 59],[]⟩/\(l[0]?.getD NC=NB->x=yv)/\(l[1]?.getD NC=NB->y=wts gm)/\(l[2]?.getD NC=NB->z=yv)/\(l[3]?.getD NC=NB->u=wts gx) /\
  (l[4]?.getD NC=NB->∃B1,T8=.pointer (Nq ⟨B1,0,Ns⟩)/\w0.heap.size<=B1/\w.heap[B1]?=Nq (aT (if l[6]?.getD NC then gm else λ_=>0))/\(l[5]?.getD NC=NB->T9≠T8)) /\
  (l[5]?.getD NC=NB->∃B2,T9=.pointer (Nq ⟨B2,0,Ns⟩)/\w0.heap.size<=B2/\w.heap[B2]?=Nq (aT (if l[7]?.getD NC then gx else λ_=>0)))
def KX(lo G:NA)(t:NA->Ny)(w:Nt)(R:QF->Nt->Prop)(M:Nu Par)(b6:NH)(Y:NA)(yb:NO OX)(yc:NA)(h4:t 4=.pointer (Nq Y))(hP:aD lo G w (.slice yb M.length yc) M)(p5:G<=w.heap.size)(h5:M.length<=5)(e7:w.cell? Y=Nq (.slice yb M.length yc))(e6:w.cell? ⟨Y,1,Ns⟩=Nq (.int .i64 b6))(p6:Y<w.heap.size)(hR:∀o k w' x y z u,w.gb w' Ns->w'.heap[o]?=Nq (aT (pre Par.mn M M.length))->w'.heap[k]?=Nq (aT (pre Par.mx M M.length))->o≠k->w.heap.size<=o->w.heap.size<=k ->R ⟨#[t 0,t 1,t 2,t 3,.pointer (Nq Y),t 5,t 6,t 7,.pointer (Nq ⟨o,0,Ns⟩),.pointer (Nq ⟨k,0,Ns⟩),t 10,t 11,t 12,t 13,t 14,t 15,t 16,t 17,t 18,t 19,t 20,x,y,z,u,t 25,t 26,t 27,t 28,t 29,t 30,t 31,t 32,t 33,t 34,t 35,t 36,t 37,t 38,t 39,t 40,t 41,t 42,t 43,t 44,t 45,t 46,t 47,t 48,t 49,t 50,t 51,t 52,t 53,t 54,t 55,t 56,t 57,t 58,t 59],[]⟩ w') :wR3.wp Ya (eT R) ⟨#[t 0,t 1,t 2,t 3,t 4,t 5,t 6,t 7,t 8,t 9,t 10,t 11,t 12,t 13,t 14,t 15,t 16,t 17,t 18,t 19,t 20,t 21,t 22,t 23,t 24,t 25,t 26,t 27,t 28,t 29,t 30,t 31,t 32,t 33,t 34,t 35,t 36,t 37,t 38,t 39,t 40,t 41,t 42,t 43,t 44,t 45,t 46,t 47,t 48,t 49,t 50,t 51,t 52,t 53,t 54,t 55,t 56,t 57,t 58,t 59],[]⟩ w:=by
 have⟨HR,HP⟩:=aQ hR hP;have SC:=Np (NY e7 e6);clear hR hP e7 e6;rw[h4];clear h4;simp only[wR3,dZ,SJ,NK,sqA,sqB,inn];obtain⟨T,c9⟩:∃T,T=pre Par.mn M M.length:=⟨_,rfl⟩;obtain⟨gx,c8⟩:∃gx,gx=pre Par.mx M M.length:=⟨_,rfl⟩;rw[<- c9,<- c8] at HR;have⟨l9,l8⟩:=aQ c9 c8;clear c9 c8;refine sQ (by kernel_rfl) (I3 t w Y (.agg #[.slice yb M.length yc,b6]) T gx) ?_ ?_ ?_
 ·exact⟨ai _ _,by simp,by simp,t 8,t 9,t 21,t 22,t 23,t 24,rfl,by simp,by simp,by simp,by simp,by simp,by simp⟩
 ·intro l a V i I hI G;have c3:=(bZ G).1;have L:l.size=8:=I;have c:∀i j,i<8->(l.setIfInBounds i NB)[j]?.getD NC=if i=j then NB else l[j]?.getD NC:=λi j h=>lQ l i j (by omega);have d:=nK G;obtain⟨hg,C,B,T8,T9,x,y,z,u,rfl,A,s,v,r,q,p⟩:=hI;have HG:=Np hg;have s0:=hg.cl SC.1;have s1:=hg.cl SC.2;have e9:=Np (HP.kept hg);have e5:=hg.size;clear hg;have c3:i=0\/i=1\/i=2\/i=3\/i=4\/i=5\/i=6\/i=7:=by
   have:i<8:=c3;omega
  rcases c3 with rfl | rfl | rfl | rfl | rfl | rfl | rfl | rfl
  ·refine cm rfl ?_;have H:=Np (NY C (NY B (NY s (NY v (NY r (NY q p))))));have⟨W,n⟩:=aQ d c;clear A s v r q p C B G d c I L;go_wp2;have⟨C,B,s,v,r,q,p⟩:=H.out;have c:=n.out;have F:l[6]?.getD NC=NC:=by
    cases h:l[6]?.getD NC with
    | false=>rfl
    | true=>have:=(C h).1;rw[W] at this;cases this
   have Q:l[7]?.getD NC=NC:=by
    cases h:l[7]?.getD NC with
    | false=>rfl
    | true=>rw[B h] at F;cases F
   exact⟨HG,by simp[c,F],by simp[c,Q],T8,T9,_,y,z,u,rfl,λ_=>rfl,by simpa[c] using s,by simpa[c] using v,by simpa[c] using r,by simpa[c] using q,by simpa[c] using p⟩
  ·have b:=bX G rfl;simp[Pe] at b;have O:l[0]?.getD NC=NB:=by(repeat(first | exact b | exact b.1 | replace b:=b.2))
   obtain rfl:=A O;clear b;refine cm rfl ?_;have D0:=Np O;clear O;have H:=Np (NY C (NY B (NY s (NY v (NY r (NY q p))))));have⟨W,n⟩:=aQ d c;clear A s v r q p C B G d c I L;go_wp2_with (go_at_call 93;refine(lO lo G _ M b6 _ ⟨_,rfl,e9⟩ (by omega) h5).mono ?_;rintro e w5 ⟨rfl,X⟩;have P:=Np X;clear X);have c:=n.out;have F:l[6]?.getD NC=NC:=by
    cases h:l[6]?.getD NC with
    | false=>rfl
    | true=>have:=H.out.1 h;simp[W.out] at this
   have Q:l[7]?.getD NC=NC:=by
    cases h:l[7]?.getD NC with
    | false=>rfl
    | true=>rw[H.2.1 h] at F;cases F
   have⟨C,B,s,v,r,q,p⟩:=H.out;exact⟨HG.t P,by simp[c,F],by simp[c,Q],T8,T9,_,_,z,u,rfl,λ_=>rfl,λ_=>by rw[l9],by simpa[c] using v,by simpa[c] using r,by intro h;have⟨o,e,hb,S,hn⟩:=q (by simpa[c] using h);exact⟨o,e,hb,by simpa[c] using bk P S,by simpa[c] using hn⟩,by intro h;have⟨k,e,hb,S⟩:=p (by simpa[c] using h);exact⟨k,e,hb,by simpa[c] using bk P S⟩⟩
  ·refine cm rfl ?_;have H:=Np (NY C (NY B (NY A (NY s (NY v (NY r (NY q p)))))));have⟨W,n⟩:=aQ d c;clear A s v r q p C B G d c I L;go_wp2;have c:=n.out;have⟨C,B,A,s,v,r,q,p⟩:=H.out;exact⟨HG,by simpa[c] using C,by simpa[c] using B,T8,T9,x,y,_,u,rfl,by simpa[c] using A,by simpa[c] using s,λ_=>rfl,by simpa[c] using r,by simpa[c] using q,by simpa[c] using p⟩
  ·have b:=bX G rfl;simp[Pe] at b;have d2:l[2]?.getD NC=NB:=by(repeat(first | exact b | exact b.1 | replace b:=b.2))
   obtain rfl:=v d2;clear b;refine cm rfl ?_;have D2:=Np d2;clear d2;have H:=Np (NY C (NY B (NY A (NY s (NY r (NY q p))))));have⟨W,n⟩:=aQ d c;clear A s v r q p C B G d c I L;go_wp2_with (go_at_call 92;refine(kZ lo G _ M b6 _ ⟨_,rfl,e9⟩ (by omega) h5).mono ?_;rintro e w5 ⟨rfl,X⟩;have P:=Np X;clear X);have c:=n.out;have F:l[6]?.getD NC=NC:=by
    cases h:l[6]?.getD NC with
    | false=>rfl
    | true=>have:=H.out.1 h;simp[W.out] at this
   have Q:l[7]?.getD NC=NC:=by
    cases h:l[7]?.getD NC with
    | false=>rfl
    | true=>rw[H.2.1 h] at F;cases F
   have⟨C,B,A,s,r,q,p⟩:=H.out;exact⟨HG.t P,by simp[c,F],by simp[c,Q],T8,T9,x,y,_,_,rfl,by simpa[c] using A,by simpa[c] using s,λ_=>rfl,λ_=>by rw[l8],by intro h;have⟨o,e,hb,S,hn⟩:=q (by simpa[c] using h);exact⟨o,e,hb,by simpa[c] using bk P S,by simpa[c] using hn⟩,by intro h;have⟨k,e,hb,S⟩:=p (by simpa[c] using h);exact⟨k,e,hb,by simpa[c] using bk P S⟩⟩
  ·refine cm rfl ?_;have H:=Np (NY C (NY B (NY A (NY s (NY v (NY r (NY q p)))))));have⟨W,n⟩:=aQ d c;clear A s v r q p C B G d c I L;go_wp2;have c:=n.out;have F:l[6]?.getD NC=NC:=by
    cases h:l[6]?.getD NC with
    | false=>rfl
    | true=>have:=H.out.1 h;simp[W.out] at this
   have Q:l[7]?.getD NC=NC:=by
    cases h:l[7]?.getD NC with
    | false=>rfl
    | true=>rw[H.2.1 h] at F;cases F
   have⟨C,B,A,s,v,r,q,p⟩:=H.out;refine⟨HG.t (Nr _ _ Ns),by simp[c,F],by simp[c,Q],_,T9,x,y,z,u,rfl,by simpa[c] using A,by simpa[c] using s,by simpa[c] using v,by simpa[c] using r,λ_=>⟨V.heap.size,rfl,e5,?_,λh=>?_⟩,by intro h;have⟨k,e,hb,S⟩:=p (by simpa[c] using h);exact⟨k,e,hb,by simpa[c] using aE S⟩⟩
   ·rw[show(l.setIfInBounds 4 NB)[6]?.getD NC=NC by simp[c,F]];exact NL V (aT λ_=>0)
   ·have⟨k,e2,_,S⟩:=p (by simpa[c] using h);have:=(Nz.1 S).1;rw[e2];intro e;simp at e;try omega
  ·refine cm rfl ?_;have H:=Np (NY C (NY B (NY A (NY s (NY v (NY r (NY q p)))))));have⟨W,n⟩:=aQ d c;clear A s v r q p C B G d c I L;go_wp2;have c:=n.out;have F:l[6]?.getD NC=NC:=by
    cases h:l[6]?.getD NC with
    | false=>rfl
    | true=>have:=H.out.1 h;simp[W.out] at this
   have Q:l[7]?.getD NC=NC:=by
    cases h:l[7]?.getD NC with
    | false=>rfl
    | true=>rw[H.2.1 h] at F;cases F
   have⟨C,B,A,s,v,r,q,p⟩:=H.out;refine⟨HG.t (Nr _ _ Ns),by simp[c,F],by simp[c,Q],T8,_,x,y,z,u,rfl,by simpa[c] using A,by simpa[c] using s,by simpa[c] using v,by simpa[c] using r,λh=>?_,λ_=>⟨V.heap.size,rfl,e5,?_⟩⟩
   ·have⟨o,e,hb,S,hn⟩:=q (by simpa[c] using h);refine⟨o,e,hb,by simpa[c] using aE S,λ_=>?_⟩;have:=(Nz.1 S).1;rw[e];intro e;simp at e;try omega
   ·rw[show(l.setIfInBounds 5 NB)[7]?.getD NC=NC by simp[c,Q]];exact NL V (aT λ_=>0)
  ·have b:=bX G rfl;simp[Pe] at b;have O:l[0]?.getD NC=NB:=by(repeat(first | exact b | exact b.1 | replace b:=b.2))
   have d1:l[1]?.getD NC=NB:=by(repeat(first | exact b | exact b.1 | replace b:=b.2))
   have d3:l[3]?.getD NC=NB:=by(repeat(first | exact b | exact b.1 | replace b:=b.2))
   have d4:l[4]?.getD NC=NB:=by(repeat(first | exact b | exact b.1 | replace b:=b.2))
   have U:l[5]?.getD NC=NB:=by(repeat(first | exact b | exact b.1 | replace b:=b.2))
   have D:=Np (NY O (NY d1 (NY d3 (NY d4 U))));obtain⟨o,rfl,a6,g,N⟩:=q d4;obtain⟨k,rfl,Z,f⟩:=p U;obtain rfl:=s d1;obtain rfl:=r d3;obtain rfl:=A O;have N:k≠o:=λe=>N U (by rw[e]);have Q:l[7]?.getD NC=NC:=by
    cases h:l[7]?.getD NC with
    | false=>rfl
    | true=>rw[B h] at d;cases d
   rw[d] at g;rw[Q] at f;have N7:=Np Q;clear Q;simp only[OJ,if_true,if_false,reduceIte] at g f;have⟨d8,d7⟩:=aQ g f;have a0:=aB g (show 0<5 by omega);have a1:=aB g (show 1<5 by omega);have a2:=aB g (show 2<5 by omega);have a3:=aB g (show 3<5 by omega);have a4:=aB g (show 4<5 by omega);have fz:=dG g;have p4:=(Nz.1 g).1;refine cm rfl ?_;have⟨W,K2,n⟩:=bC d v c;clear g f b O d1 d3 d4 U A s v r q p C B G d c I L;unfold wts;go_wp2;have c:=n.out;have hW:(((((V.setCell ⟨o,0,Ns⟩ (.int .i64 (T 0))).setCell ⟨o,1,Ns⟩ (.int .i64 (T 1))).setCell ⟨o,2,Ns⟩ (.int .i64 (T 2))).setCell ⟨o,3,Ns⟩ (.int .i64 (T 3))).setCell ⟨o,4,Ns⟩ (.int .i64 (T 4))).heap[o]?=Nq (aT T):=by
    rw[ar (ar (ar (ar (ar d8))))];rfl
   have hG:V.gb (((((V.setCell ⟨o,0,Ns⟩ (.int .i64 (T 0))).setCell ⟨o,1,Ns⟩ (.int .i64 (T 1))).setCell ⟨o,2,Ns⟩ (.int .i64 (T 2))).setCell ⟨o,3,Ns⟩ (.int .i64 (T 3))).setCell ⟨o,4,Ns⟩ (.int .i64 (T 4))) (Nq o) :=
    ((((an _ _ _ _).t (an _ _ _ _)).t (an _ _ _ _)).t (an _ _ _ _)).t (an _ _ _ _)
   refine⟨HG.andThen (row':=Nq o) hG (by rintro j e;cases e;exact .inl (by omega)),?_,?_,_,_,_,_,_,_,rfl,λ_=>rfl,λ_=>rfl,?_,λ_=>rfl,λ_=>⟨o,rfl,a6,?_,λ_=>by intro e;simp at e;try omega⟩,λ_=>⟨k,rfl,Z,?_⟩⟩
   ·intro _;have⟨O,d1,d3,d4,U⟩:=D.out;simp[c,O,d1,d3,d4,U]
   ·intro h;rw[c 6 7 (by omega)] at h;simp[N7.out] at h
   ·simpa[c] using K2.out
   ·rw[show(l.setIfInBounds 6 NB)[6]?.getD NC=NB by simp[c]];exact hW
   ·rw[show(l.setIfInBounds 6 NB)[7]?.getD NC=NC by simp[c,N7.out]];exact blk hG (by simp;omega) d7
  ·have b:=bX G rfl;simp[Pe] at b;have O:l[0]?.getD NC=NB:=by(repeat(first | exact b | exact b.1 | replace b:=b.2))
   have d1:l[1]?.getD NC=NB:=by(repeat(first | exact b | exact b.1 | replace b:=b.2))
   have d3:l[3]?.getD NC=NB:=by(repeat(first | exact b | exact b.1 | replace b:=b.2))
   have d4:l[4]?.getD NC=NB:=by(repeat(first | exact b | exact b.1 | replace b:=b.2))
   have U:l[5]?.getD NC=NB:=by(repeat(first | exact b | exact b.1 | replace b:=b.2))
   have D:=Np (NY O (NY d1 (NY d3 (NY d4 U))));have d6:l[6]?.getD NC=NB:=by(repeat(first | exact b | exact b.1 | replace b:=b.2))
   have D6:=Np d6;obtain⟨o,rfl,a6,g,N⟩:=q d4;obtain⟨k,rfl,Z,f⟩:=p U;obtain rfl:=s d1;obtain rfl:=r d3;obtain rfl:=A O;have N:k≠o:=λe=>N U (by rw[e]);rw[d6] at g;rw[d] at f;clear d6;simp only[OJ,if_true,if_false,reduceIte] at g f;have⟨d8,d7⟩:=aQ g f;have a0:=aB f (show 0<5 by omega);have a1:=aB f (show 1<5 by omega);have a2:=aB f (show 2<5 by omega);have a3:=aB f (show 3<5 by omega);have a4:=aB f (show 4<5 by omega);have fz:=dG f;have p3:=(Nz.1 f).1;refine cm rfl ?_;have⟨W,K2,n⟩:=bC d v c;clear g f b O d1 d3 d4 U A s v r q p C B G d c I L;unfold wts;go_wp2;have c:=n.out;have hW:(((((V.setCell ⟨k,0,Ns⟩ (.int .i64 (gx 0))).setCell ⟨k,1,Ns⟩ (.int .i64 (gx 1))).setCell ⟨k,2,Ns⟩ (.int .i64 (gx 2))).setCell ⟨k,3,Ns⟩ (.int .i64 (gx 3))).setCell ⟨k,4,Ns⟩ (.int .i64 (gx 4))).heap[k]?=Nq (aT gx):=by
    rw[ar (ar (ar (ar (ar d7))))];rfl
   have hG:V.gb (((((V.setCell ⟨k,0,Ns⟩ (.int .i64 (gx 0))).setCell ⟨k,1,Ns⟩ (.int .i64 (gx 1))).setCell ⟨k,2,Ns⟩ (.int .i64 (gx 2))).setCell ⟨k,3,Ns⟩ (.int .i64 (gx 3))).setCell ⟨k,4,Ns⟩ (.int .i64 (gx 4))) (Nq k) :=
    ((((an _ _ _ _).t (an _ _ _ _)).t (an _ _ _ _)).t (an _ _ _ _)).t (an _ _ _ _)
   refine⟨HG.andThen (row':=Nq k) hG (by rintro j e;cases e;exact .inl (by omega)),?_,?_,_,_,_,_,_,_,rfl,λ_=>rfl,λ_=>rfl,?_,λ_=>rfl,λ_=>⟨o,rfl,a6,?_,λ_=>by intro e;simp at e;try omega⟩,λ_=>⟨k,rfl,Z,?_⟩⟩
   ·intro _;have⟨O,d1,d3,d4,U⟩:=D.out;simp[c,O,d1,d3,d4,U]
   ·intro _;simp[c,D6.out]
   ·simpa[c] using K2.out
   ·rw[show(l.setIfInBounds 7 NB)[6]?.getD NC=NB by simp[c,D6.out]];exact blk hG (by simp;omega) d8
   ·rw[show(l.setIfInBounds 7 NB)[7]?.getD NC=NB by simp[c]];exact hW
 ·intro l a V I hI hr;obtain⟨hg,C,B,T8,T9,x,y,z,u,rfl,A,s,v,r,q,p⟩:=hI;have q0:=cT hr I (i:=0) rfl (by simp[Pe]);have q1:=cT hr I (i:=1) rfl (by simp[Pe,q0]);have q2:=cT hr I (i:=2) rfl (by simp[Pe]);have q3:=cT hr I (i:=3) rfl (by simp[Pe,q1,q2]);have q4:=cT hr I (i:=4) rfl (by simp[Pe]);have q5:=cT hr I (i:=5) rfl (by simp[Pe]);have q6:=cT hr I (i:=6) rfl (by simp[Pe,q0,q1,q2,q3,q4,q5]);have q7:=cT hr I (i:=7) rfl (by simp[Pe,q0,q1,q2,q3,q4,q5,q6]);obtain⟨o,rfl,a6,g,N⟩:=q q4;obtain⟨k,rfl,Z,f⟩:=p q5;rw[q6] at g;rw[q7] at f;exact HR o k V x y z u hg (by simpa using g) (by simpa using f) (λe=>N q5 (by rw[e])) a6 Z
end
section
open Go Go.RowKit Go.Co
noncomputable def cB0:Qs:=inn (inn (sqB (sqA (sqB (sqB (Tryz.f137.body.getD .skip))))))
noncomputable def cB1:Qs:=inn (sqA (sqB (sqB cB0)))
noncomputable def cL2:Qs:=sqB (sqA (sqB (sqB (sqB cB1))))
noncomputable def cB3:Qs:=inn (sqA (sqB (sqB (inn (inn cL2)))))
noncomputable def cIn:Qs:=sqB (sqB cB3)
def qZ(g:NA->NH)(n:NA)(v:NH):NA->NH:=λd=>if d=n then v else g d
def nF(g:NA->NH):Nu Ny:=[.int .i64 (g 0),.int .i64 (g 1),.int .i64 (g 2),.int .i64 (g 3),.int .i64 (g 4)]
def db(L:Nu (NA->NH)):Nu Ny:=L.flatMap nF
def iD(g:NA->NH)(n:NA)(a:NH)(k:NA):Nu (NA->NH):=(Oo k).map λm:NA=>qZ g n (a+(m:NH))
def Az(g:NA->NH)(n:NA)(a:NH)(k:NA):iD g n a (k+1)=iD g n a k++[qZ g n (a+k)]:=by
 simp[iD,RF]
def Dv(g:NA->NH)(n:NA)(a:NH)(k:NA):(iD g n a k).length=k:=by simp[iD]
def AP(L:Nu (NA->NH))(g:NA->NH):db (L++[g])=db L++nF g:=by simp[db]
def FO(g:NA->NH):bS (nF g):=by
 intro v a;simp only[nF,ON,PY,or_false] at a;rcases a with rfl | rfl | rfl | rfl | rfl<;>exact⟨_,_,rfl⟩
def Tp.und152:Ya.underlying 152=Nq (.slice 101):=by rw[Tp.und];exact Tryz.underlying152
def Tp.info101p:(Ya.info? 101).map (λi=>(i.zero,i.size,i.bytes))=Nq (Nq (.agg #[.int .i64 0,.int .i64 0,.int .i64 0,.int .i64 0,.int .i64 0]),5,40):=by kernel_rfl
def Dc(g:NA->NH)(n:NA)(a b:NH):(λd=>if d=n then b else qZ g n a d)=qZ g n b:=by
 funext d
 unfold qZ;split<;>rfl
def gAt(g:NA->NH)(n:NA)(a:NH)(m:NA):NA->NH:=if m=0 then g else qZ g n (a+(m - 1:NH))
def Jy(g:NA->NH)(n:NA)(a:NH)(m:NA):(λd=>if d=n then a+(m:NH) else gAt g n a m d)=qZ g n (a+m):=by
 unfold gAt;split
 ·rfl
 ·exact Dc _ _ _ _
def GN(g:NA->NH)(n:NA)(a:NH)(m:NA):gAt g n a (m+1)=qZ g n (a+m):=by
 unfold gAt;simp
def GF(t:NA->Ny)(c w:Nt)(R:QF->Nt->Prop)(n S a k:NA)(h mx:NH)(g:NA->NH)(L:Nu (NA->NH))(nv:Ny)(h7:t 7=.int .i64 n)(hn:n<5)(h8:t 8=nv)(h9:t 9=.pointer (Nq S))(s:c.heap[S]?=Nq (.cells #[h,mx] 26 (0,0)))(G:t 11=.pointer (Nq a))(hW:w.heap[a]?=Nq (aT g))(e8:c.heap.size<=a)(F:t 39=.int .i64 k)(D:t 40=.int .i64 0)(hg:c.gb w Ns)(q:w.ownsRow c.heap.size 101 5 nv L.length (db L))(hI:∀b,nv.ownBlock=Nq b->bT w b/\b≠a)(p5:0<=h/\h<=1000)(hk:k<=2000)(hL:L.length+k<=900000)(hR:∀(T b9 b8 b7 b6 b0 a9 a8 a7 a6 Z Y X W V U:Ny) w',c.gb w' Ns->w'.ownsRow c.heap.size 101 5 T (L.length+k) (db (L++iD g n h k))->(∀b,T.ownBlock=Nq b->bT w' b) ->R ⟨#[t 0,t 1,t 2,t 3,t 4,t 5,t 6,.int .i64 n,T,.pointer (Nq S),t 10,.pointer (Nq a),b9,t 13,t 14,t 15,t 16,t 17,t 18,t 19,t 20,t 21,t 22,t 23,t 24,t 25,t 26,t 27,t 28,t 29,t 30,t 31,t 32,t 33,t 34,t 35,t 36,t 37,t 38,.int .i64 k,b8,b7,b6,b0,a9,a8,a7,a6,Z,Y,X,W,V,U,t 54,t 55,t 56,t 57],[]⟩ w') :(inn cIn).wp Ya (Tc 4 (eT R)) ⟨#[t 0,t 1,t 2,t 3,t 4,t 5,t 6,t 7,t 8,t 9,t 10,t 11,t 12,t 13,t 14,t 15,t 16,t 17,t 18,t 19,t 20,t 21,t 22,t 23,t 24,t 25,t 26,t 27,t 28,t 29,t 30,t 31,t 32,t 33,t 34,t 35,t 36,t 37,t 38,t 39,t 40,t 41,t 42,t 43,t 44,t 45,t 46,t 47,t 48,t 49,t 50,t 51,t 52,t 53,t 54,t 55,t 56,t 57],[]⟩ w:=by
 have⟨i0,e6,e4,d9,d8⟩:=PM Tp.info101p;have⟨HR,HO,HW,HG,HN,HI⟩:=rS hR s hW hg q hI;have p9:S<c.heap.size:=(Nz.1 s).1;clear hR s hW hg q hI;rw[h7,h8,h9,G,F,D];clear h7 h8 h9 G F D;simp only[cIn,cB3,cL2,cB1,cB0,Xm,NK,sqA,sqB,inn];go_wp2;go_loopw [8,40] (λov iv wr=>∃m:NA,iv=.int .i64 m/\m<=k/\c.gb wr Ns/\wr.heap[a]?=Nq (aT (gAt g n h m))/\wr.ownsRow c.heap.size 101 5 ov (L.length+m) (db (L++iD g n h m))/\∀b,ov.ownBlock=Nq b->bT wr b/\b≠a) (λ_ iv _=>(k - OP iv).toNat)
 case atStart=>exact⟨0,rfl,by omega,HG,HW,by simpa[iD] using HN.out,HI⟩
 case round=>
  obtain⟨m,rfl,hm,P,A,s,hN⟩:=hrel;obtain⟨oa,om,oc,rfl⟩:=cd s;have⟨N,k0,M,z⟩:=cJ P A s hN;have o0:=P.cl (aa HO (o:=0) rfl);have p8:a<wr.heap.size:=(Nz.1 A).1;by_cases p6:m<k
  ·have d1:=aB A hn;have f1:=dG A;have l6:(m:NH)<(k:NH):=by omega
   have p3:(n:NH)<5:=by omega
   clear P A s hN;have k9:IntKind.i64.wrap (h+(m:NH))=h+m:=Ov _ (by omega);go_upto_region 14 with(fail);obtain⟨d,i⟩:∃d,d=wr.setCell ⟨a,n,Ns⟩ (.int .i64 (h+m)):=⟨_,rfl⟩;have u:d.heap[a]?=Nq (aT (qZ g n (h+m))):=by
    rw[i,<- Jy];exact kT k0 hn
   have Q:wr.gb d (Nq a):=by rw[i];exact an _ _ _ _
   have q2:c.gb d Ns:=N.out.andThen Q (by rintro j e;cases e;exact .inl e8);have q3:d.ownsRow c.heap.size 101 5 (.slice oa om oc) (L.length+m) (db (L++iD g n h m)):=M.out.kept Q (.inr λe=>by
    have:=(z _ e).2;exact this rfl)
   have q4:∀b,(OS oa om oc).ownBlock=Nq b->bT d b/\b≠a:=λb x=>by
    have⟨⟨cs,e,f,h1,h2⟩,h3⟩:=z.out b x;exact⟨⟨cs,e,f,blk Q (by intro e;cases e;exact h3 rfl) h1,h2⟩,h3⟩
   have e5:d.heap.size=wr.heap.size:=by rw[i];simp
   have r0:=aB u (show 0<5 by omega);have r1:=aB u (show 1<5 by omega);have r2:=aB u (show 2<5 by omega);have r3:=aB u (show 3<5 by omega);have r4:=aB u (show 4<5 by omega);rw[<- i];have⟨I,g7,H,y⟩:=cJ u q2 q3 q4;have l8:a<d.heap.size:=by omega
   have p4:c.heap.size<=d.heap.size:=q2.size;clear u q2 q3 q4 Q i d1 f1 o0 e5;generalize B:qZ g n (h+(m:NH))=gg at r0 r1 r2 r3 r4 I;go_wp2_with (at_builtin;(refine mw (by rfl) _ _ _ (by rfl) c.heap.size 101 i0 _ 5 40 Tp.und152 e6 e4 d9 d8 rfl (by omega) (.slice oa om oc) (L.length+m) (db (L++iD g n h m)) (by rfl) (by exact H.alloc _) ⟨d.heap.size,0,Ns⟩ 1 1 (nF gg) (by rfl) (by rfl) (Pt (cs:=(nF gg).toArray) (t:=101) (fr:=(0,0)) (NL d _)) (by simp[nF,PT]) (by omega) (by unfold Rh;omega) (by omega) (by simp;omega) (d.heap.size+1) (by simp) (λb x=>by have⟨⟨cs,e,f,h1,h2⟩,_⟩:=y.out b x;exact⟨cs,e,f,aE h1,h2⟩) (FO gg) (by intro v hv;simp[Vr] at hv;exact⟨_,_,hv⟩) ?_);intro gi q5 w5 l p C p7 r;have O:=Np p;have g8:=Np l;have k5:=Np C;have g9:=Np r;clear p l C r);refine⟨⟨m+1,by simp,by omega,?_,?_,?_,?_⟩,by simp[OP];omega⟩
   ·exact(g7.t (Nr _ _ Ns)).andThen O λj e=>.inl (H.lt j e).1
   ·rw[GN,B];exact blk O (λe=>(y a e.symm).2 rfl) (aE I)
   ·rw[Az,<- Qv,AP,B];exact g8
   ·intro b x;have e7:gi=b:=by simpa[OG] using x
    subst e7;refine⟨g9,?_⟩;rcases k5 with e | e
    ·exact(y gi e).2
    ·omega
  ·obtain rfl:m=k:=by omega
   clear P A s hN;go_wp2;exact HR _ _ _ _ _ _ _ _ _ _ _ _ _ _ _ _ wr N M λb x=>(z b x).1
def Ca(x:NJ Ny)(h:x.size=58):∃y0 y1 y2 y3 y4 y5 y6 y7 y8 y9 a9 a8 a7 a6 Z Y X W V U T S R Q P O N M L I H G F D C B A z y w v u s r q p o n l k j i g f d c b a,x=#[y0,y1,y2,y3,y4,y5,y6,y7,y8,y9,a9,a8,a7,a6,Z,Y,X,W,V,U,T,S,R,Q,P,O,N,M,L,I,H,G,F,D,C,B,A,z,y,w,v,u,s,r,q,p,o,n,l,k,j,i,g,f,d,c,b,a]:=by
 have e:=lR x;rw[h] at e;exact⟨_,_,_,_,_,_,_,_,_,_,_,_,_,_,_,_,_,_,_,_,_,_,_,_,_,_,_,_,_,_,_,_,_,_,_,_,_,_,_,_,_,_,_,_,_,_,_,_,_,_,_,_,_,_,_,_,_,_,e.t rfl⟩
def MC(z:NJ Ny)(h:z.size=58):z=#[z[0]?.getD NG,z[1]?.getD NG,z[2]?.getD NG,z[3]?.getD NG,z[4]?.getD NG,z[5]?.getD NG,z[6]?.getD NG,z[7]?.getD NG,z[8]?.getD NG,z[9]?.getD NG,z[10]?.getD NG,z[11]?.getD NG,z[12]?.getD NG,z[13]?.getD NG,z[14]?.getD NG,z[15]?.getD NG,z[16]?.getD NG,z[17]?.getD NG,z[18]?.getD NG,z[19]?.getD NG,z[20]?.getD NG,z[21]?.getD NG,z[22]?.getD NG,z[23]?.getD NG,z[24]?.getD NG,z[25]?.getD NG,z[26]?.getD NG,z[27]?.getD NG,z[28]?.getD NG,z[29]?.getD NG,z[30]?.getD NG,z[31]?.getD NG,z[32]?.getD NG,z[33]?.getD NG,z[34]?.getD NG,z[35]?.getD NG,z[36]?.getD NG,z[37]?.getD NG,z[38]?.getD NG,z[39]?.getD NG,z[40]?.getD NG,z[41]?.getD NG,z[42]?.getD NG,z[43]?.getD NG,z[44]?.getD NG,z[45]?.getD NG,z[46]?.getD NG,z[47]?.getD NG,z[48]?.getD NG,z[49]?.getD NG,z[50]?.getD NG,z[51]?.getD NG,z[52]?.getD NG,z[53]?.getD NG,z[54]?.getD NG,z[55]?.getD NG,z[56]?.getD NG,z[57]?.getD NG]:=by
 obtain⟨y0,y1,y2,y3,y4,y5,y6,y7,y8,y9,a7,a6,Z,Y,X,W,V,U,T,S,R,Q,P,O,N,M,L,I,H,G,F,D,C,B,A,y,x,w,v,u,t,s,r,q,p,o,n,l,k,j,i,g,f,e,d,c,b,a,rfl⟩:=Ca z h;rfl
def dm:Nu NA:=[8,12,40,41,42,43,44,45,46,47,48,49,50,51,52,53]
def Gz(z:NJ Ny)(hz:z.size=58)(a w:Nt)(R:QF->Nt->Prop)(n u e k:NA)(i D:NH)(g:NA->NH)(L:Nu (NA->NH))(h:Ny)(h7:z[7]?=Nq (.int .i64 n))(s:n<5)(h8:z[8]?=Nq h)(h9:z[9]?=Nq (.pointer (Nq u)))(hO:a.heap[u]?=Nq (.cells #[i,D] 26 (0,0)))(B:z[11]?=Nq (.pointer (Nq e)))(hW:w.heap[e]?=Nq (aT g))(x:a.heap.size<=e)(A:z[39]?=Nq (.int .i64 k))(y:z[40]?=Nq (.int .i64 0))(hg:a.gb w Ns)(o:w.ownsRow a.heap.size 101 5 h L.length (db L))(hI:∀b,h.ownBlock=Nq b->bT w b/\b≠e)(v:0<=i/\i<=1000)(hk:k<=2000)(hL:L.length+k<=900000)(hR:∀(r:NJ Ny) (f:Ny) d,r.size=58->r[8]?=Nq f->(∀j,j<58->j∉dm->r[j]?=z[j]?)->a.gb d Ns->d.ownsRow a.heap.size 101 5 f (L.length+k) (db (L++iD g n i k))->(∀b,f.ownBlock=Nq b->bT d b)->R ⟨r,[]⟩ d) :(inn cIn).wp Ya (Tc 4 (eT R)) ⟨z,[]⟩ w:=by
 generalize c:(λk:NA=>z[k]?.getD NG)=t;have l:z=#[t 0,t 1,t 2,t 3,t 4,t 5,t 6,t 7,t 8,t 9,t 10,t 11,t 12,t 13,t 14,t 15,t 16,t 17,t 18,t 19,t 20,t 21,t 22,t 23,t 24,t 25,t 26,t 27,t 28,t 29,t 30,t 31,t 32,t 33,t 34,t 35,t 36,t 37,t 38,t 39,t 40,t 41,t 42,t 43,t 44,t 45,t 46,t 47,t 48,t 49,t 50,t 51,t 52,t 53,t 54,t 55,t 56,t 57]:=by subst c;exact MC z hz
 have G:t 7=.int .i64 n:=by subst c;show z[7]?.getD NG=_;rw[h7];rfl
 have e8:t 8=h:=by subst c;show z[8]?.getD NG=_;rw[h8];rfl
 have F:t 9=.pointer (Nq u):=by subst c;show z[9]?.getD NG=_;rw[h9];rfl
 have q:t 11=.pointer (Nq e):=by subst c;show z[11]?.getD NG=_;rw[B];rfl
 have p:t 39=.int .i64 k:=by subst c;show z[39]?.getD NG=_;rw[A];rfl
 have C:t 40=.int .i64 0:=by subst c;show z[40]?.getD NG=_;rw[y];rfl
 rw[l];refine GF t a w R n u e k i D g L h G s e8 F hO q hW x p C hg o hI v hk hL ?_;intro f Z Y X W V U T S Q P O N M I H d a1 a2 a3;refine hR _ f d rfl rfl (λj hj s=>?_) a1 a2 a3;rw[l,<- G,<- F,<- q,<- p];unfold dm at s;obtain rfl | rfl | rfl | rfl | rfl | rfl | rfl | rfl | rfl | rfl | rfl | rfl | rfl | rfl | rfl | rfl | rfl | rfl | rfl | rfl | rfl | rfl | rfl | rfl | rfl | rfl | rfl | rfl | rfl | rfl | rfl | rfl | rfl | rfl | rfl | rfl | rfl | rfl | rfl | rfl | rfl | rfl | rfl | rfl | rfl | rfl | rfl | rfl | rfl | rfl | rfl | rfl | rfl | rfl | rfl | rfl | rfl | rfl:j=0\/j=1\/j=2\/j=3\/j=4\/j=5\/j=6\/j=7\/j=8\/j=9\/j=10\/j=11\/j=12\/j=13\/j=14\/j=15\/j=16\/j=17\/j=18\/j=19\/j=20\/j=21\/j=22\/j=23\/j=24\/j=25\/j=26\/j=27\/j=28\/j=29\/j=30\/j=31\/j=32\/j=33\/j=34\/j=35\/j=36\/j=37\/j=38\/j=39\/j=40\/j=41\/j=42\/j=43\/j=44\/j=45\/j=46\/j=47\/j=48\/j=49\/j=50\/j=51\/j=52\/j=53\/j=54\/j=55\/j=56\/j=57:=by omega
 all_goals first | rfl | (exact absurd (by simp) s)
def gz(L:Nu (NA->NH))(n:NA)(a:NH)(k:NA):Nu (NA->NH):=L.flatMap λg=>iD g n a k
def iX(L:Nu (NA->NH))(n:NA)(a:NH)(k:NA):(gz L n a k).length=L.length*k:=by
 unfold gz;induction L with
 | nil=>simp
 | cons g L b=>simp only[Qx,Pi,Dv,b,NQ];rw[TY];omega
def zU(L:Nu (NA->NH))(n:NA)(a:NH)(k:NA)(i:NA)(g:NA->NH)(h:L[i]?=Nq g):gz (L.take (i+1)) n a k=gz (L.take i) n a k++iD g n a k:=by
 rw[OR,h];simp[gz]
def uR(L:Nu (NA->NH))(i:NA)(g:NA->NH)(h:L[i]?=Nq g)(d:NA)(c:d<5):(db L)[i*5+d]?=Nq (.int .i64 (g d)):=by
 unfold db;induction L generalizing i with
 | nil=>simp at h
 | cons b L a=>
  cases i with
  | zero=>
   simp at h;subst h;rw[Qx,Ot (by simp[nF];omega)];obtain rfl | rfl | rfl | rfl | rfl:d=0\/d=1\/d=2\/d=3\/d=4:=by omega
   all_goals simp[nF]
  | succ i=>
   simp at h;rw[Qx,Pq (by simp[nF];omega)];rw[show(i+1)*5+d - (nF b).length=i*5+d from by simp[nF];omega];exact a i h
def eM{R:QF->Nt->Prop}{Q:Ux->QF->Nt->Prop}{id:NA}(h:∀a w,R a w->Q .normal a w):∀e a w,Tc id (eT R) e a w->Tc id Q e a w:=by
 intro e a w b;cases e with
 | normal=>exact h a w b
 | exit i=>
  unfold Tc at b ⊢;by_cases d:i=id
  ·simp only[d,if_true] at b ⊢;exact h a w b
  ·simp only[d,if_false] at b;exact b.elim
 | goto l=>exact b.elim
 | ret=>exact b.elim
 | panic c=>exact b.elim
 | outgrown=>exact b.elim
def kg{c c':Qs}{P:NR}{Q:Ux->QF->Nt->Prop}{a:QF}{w:Nt}(e:c=c')(h:c'.wp P Q a w):c.wp P Q a w:=e ▸ h
def Lc(z:NJ Ny)(hz:z.size=58)(w:Nt)(R:QF->Nt->Prop)(n OB A oc base k:NA)(p x:NH)(L:Nu (NA->NH))(h7:z[7]?=Nq (.int .i64 n))(hn:n<5)(h8:z[8]?=Nq (.slice Ns 0 0))(h9:z[9]?=Nq (.pointer (Nq OB)))(D:w.heap[OB]?=Nq (.cells #[p,x] 26 (0,0)))(d9:z[28]?=Nq (.slice (Nq A) L.length oc))(d8:z[29]?=Nq (.int .i64 L.length))(y:z[30]?=Nq (.int .i64 0))(C:w.ownsRow base 101 5 (.slice (Nq A) L.length oc) L.length (db L))(p3:0<=p/\p<=x/\x<=1000)(hk:(k:NH)=x - p+1)(hL:L.length*k<=900000)(hR:∀(l:NJ Ny) (s:Ny) N,l.size=58->l[8]?=Nq s->(∀j,j<58->j<8\/(8<j/\j<11)\/(12<j/\j<30)\/54<j->l[j]?=z[j]?)->w.gb N Ns->N.ownsRow w.heap.size 101 5 s (L.length*k) (db (gz L n p k))->(∀b,s.ownBlock=Nq b->bT N b)->R ⟨l,[]⟩ N) :(inn cL2).wp Ya (Tc 2 (eT R)) ⟨z,[]⟩ w:=by
 obtain⟨y0,y1,y2,y3,y4,y5,y6,y7,y8,y9,n7,B4,B3,n6,n4,n3,n2,m9,m8,m7,m6,m5,m4,m3,l9,l8,l7,l6,A8,A7,A4,A3,A0,z9,z8,z7,z6,z5,z4,z3,z1,z0,x9,x7,x6,x5,x4,x3,x2,x1,w9,w8,w6,u9,u8,l5,l4,k8,rfl⟩:=Ca z hz;simp at h7 h8 h9 d9 d8 y;subst h7 h8 h9 d9 d8 y;have⟨HR,HO,HL⟩:=bC hR D C;have H5:OB<w.heap.size:=(Nz.1 D).1;have H6:L.length<=900000:=NM (Nat.le_mul_of_pos_right _ (by omega)) hL;clear hR D C hz;simp only[cL2,cB1,cB0,Xm,NK,sqA,sqB,inn];go_wp2;go_loopw [8,30] (λov iv wr=>∃i:NA,iv=.int .i64 i/\i<=L.length/\w.gb wr Ns/\wr.ownsRow w.heap.size 101 5 ov (i*k) (db (gz (L.take i) n p k))/\∀b,ov.ownBlock=Nq b->bT wr b) (λ_ iv _=>(L.length - OP iv).toNat)
 case atStart=>exact⟨0,rfl,by omega,NN _ _,by simpa[gz,db] using PX w w.heap.size 101 5,λb hb=>by simp[OG] at hb⟩
 case round=>
  obtain⟨i,rfl,hi,G,D,hN⟩:=hrel;obtain⟨P,O,q,rfl⟩:=cd D;have⟨g5,I,e9⟩:=bC G D hN;have H2:=G.size;by_cases d7:i<L.length
  ·obtain⟨g,hg⟩:∃g,L[i]?=Nq g:=⟨_,ND d7⟩;have hA:=(HL.lt A rfl).2;have M:∀d,d<5->wr.cell? ⟨A,i*5+d,Ns⟩=Nq (.int .i64 (g d)):=λd hd=>by
    have B:=HL.out.cellAt (i*5+d) (by omega);rw[uR L i g hg d hd] at B;exact G.cl B
   have c0:wr.cell? ⟨A,i*5,Ns⟩=Nq (.int .i64 (g 0)):=M 0 (by omega);have c1:=M 1 (by omega);have c2:=M 2 (by omega);have c3:=M 3 (by omega);have c4:=M 4 (by omega);have o0:=G.cl (aa HO (o:=0) rfl);have o1:=G.cl (aa HO (o:=1) rfl);have t3:(i:NH)<(L.length:NH):=by omega
   have H1:IntKind.i64.wrap (x - p)=x - p:=Ov _ (by omega);have H0:IntKind.i64.wrap (x - p+1)=x - p+1:=Ov _ (by omega);have q7:=Np hg;clear G D hN M hg;go_upto_region 10 with(fail);obtain⟨H,F⟩:∃H,H=wr.heap.size:=⟨_,rfl⟩;obtain⟨v,h⟩:∃v,v=wr.alloc (aT g):=⟨_,rfl⟩;have q1:v.heap[H]?=Nq (aT g):=by rw[h,F];exact NL wr _
   have g1:wr.gb v Ns:=by rw[h];exact Nr _ _ Ns
   have q2:w.gb v Ns:=g5.out.t g1;have q3:v.ownsRow w.heap.size 101 5 (.slice P O q) (i*k) (db (gz (L.take i) n p k)):=by rw[h];exact I.alloc _
   have q4:∀b,(OS P O q).ownBlock=Nq b->bT v b/\b≠H:=λb hb=>by
    have⟨cs,e,f,B,h2⟩:=e9.out b hb;exact⟨⟨cs,e,f,by rw[h];exact aE B,h2⟩,by have:=(I.lt b hb).2;omega⟩
   have p0:=g1.cl o0;have p1:=g1.cl o1;rw[<- F];rw[show wr.alloc (.cells #[.int .i64 (g 0),.int .i64 (g 1),.int .i64 (g 2),.int .i64 (g 3),.int .i64 (g 4)] 101)=v from h.symm];have⟨q5,q0,p9,p8⟩:=cJ q1 q2 q3 q4;have p6:w.heap.size<=H:=by omega
   clear q1 q2 q3 q4 g1 h F c0 c1 c2 c3 c4 o0 o1;go_wp2;refine UR (eM (R:=λa u=>∃(l:NJ Ny) (s:Ny),a=⟨l,[]⟩/\l.size=58/\l[8]?=Nq s/\(∀j,j<58->j∉dm->l[j]?=(#[y0,y1,y2,y3,y4,y5,y6,.int .i64 n,.slice P O q,.pointer (Nq OB),n7,.pointer (Nq H),NG,n6,n4,n3,n2,m9,m8,m7,m6,m5,m4,m3,l9,l8,l7,l6,.slice (Nq A) L.length oc,.int .i64 L.length,.int .i64 i]:NJ Ny)[j]?\/30<j)/\(l[55]?=Nq l5/\l[56]?=Nq l4/\l[57]?=Nq k8)/\w.gb u Ns/\u.ownsRow w.heap.size 101 5 s ((i+1)*k) (db (gz (L.take (i+1)) n p k))/\∀b,s.ownBlock=Nq b->bT u b) ?_) ?_;rotate_left
   ·refine kg (c':=inn cIn) (by simp only[cIn,cB3,cL2,cB1,cB0,Xm,NK,sqA,sqB,inn]) ?_;have r:(gz (L.take i) n p k).length=i*k:=by rw[iX,Qt,WQ (by omega)]
    have p4:i*k+k<=900000:=by
     have B:(i+1)*k<=L.length*k:=Nat.mul_le_mul_right _ d7;rw[TY] at B;omega
    refine Gz _ rfl w v _ n OB H k p x g (gz (L.take i) n p k) (.slice P O q) rfl hn rfl rfl HO rfl q5 p6 (by rw[hk];rfl) rfl q0 (by rw[r];exact p9) p8 ⟨p3.1,by omega⟩ (by omega) (by rw[r];exact p4) ?_;intro l s N b1 b2 b3 b4 b5 b6;refine⟨l,s,rfl,b1,b2,λj hj hn=>?_,⟨(b3 55 (by omega) (by simp[dm])).t rfl,(b3 56 (by omega) (by simp[dm])).t rfl,(b3 57 (by omega) (by simp[dm])).t rfl⟩,b4,?_,b6⟩
    ·by_cases y:30<j
     ·exact .inr y
     ·left;rw[b3 j hj hn];have H9:j≠12:=λe=>hn (by subst e;simp[dm]);obtain rfl | rfl | rfl | rfl | rfl | rfl | rfl | rfl | rfl | rfl | rfl | rfl | rfl | rfl | rfl | rfl | rfl | rfl | rfl | rfl | rfl | rfl | rfl | rfl | rfl | rfl | rfl | rfl | rfl | rfl:j=0\/j=1\/j=2\/j=3\/j=4\/j=5\/j=6\/j=7\/j=8\/j=9\/j=10\/j=11\/j=13\/j=14\/j=15\/j=16\/j=17\/j=18\/j=19\/j=20\/j=21\/j=22\/j=23\/j=24\/j=25\/j=26\/j=27\/j=28\/j=29\/j=30:=by omega
      all_goals rfl
    ·rw[r] at b5;rw[zU L n p k i g q7,TY,Nat.one_mul];exact b5
   ·rintro a u ⟨l,s,rfl,d6,e8,c,⟨e6,e5,e4⟩,f1,f2,f3⟩;obtain⟨v0,v1,v2,v3,v4,v5,v6,v7,v8,v9,G6,G5,G4,G3,G2,G1,F9,F8,F7,F6,F5,F4,F3,F2,F1,E9,E8,E7,E6,E5,E4,E3,E2,E1,E0,D9,D8,D7,D6,D5,D4,D3,D2,D1,D0,C9,C8,C7,C6,C5,C4,C3,C2,C1,C0,B9,B8,B7,rfl⟩:=Ca l d6;simp at e8 e6 e5 e4;subst e8 e6 e5 e4;have k0:=(c 0 (by omega) (by simp[dm])).resolve_right (by omega);have k1:=(c 1 (by omega) (by simp[dm])).resolve_right (by omega);have k2:=(c 2 (by omega) (by simp[dm])).resolve_right (by omega);have k3:=(c 3 (by omega) (by simp[dm])).resolve_right (by omega);have k4:=(c 4 (by omega) (by simp[dm])).resolve_right (by omega);have k5:=(c 5 (by omega) (by simp[dm])).resolve_right (by omega);have k6:=(c 6 (by omega) (by simp[dm])).resolve_right (by omega);have k7:=(c 7 (by omega) (by simp[dm])).resolve_right (by omega);have k9:=(c 9 (by omega) (by simp[dm])).resolve_right (by omega);have d5:=(c 10 (by omega) (by simp[dm])).resolve_right (by omega);have c9:=(c 11 (by omega) (by simp[dm])).resolve_right (by omega);have c8:=(c 13 (by omega) (by simp[dm])).resolve_right (by omega);have b9:=(c 14 (by omega) (by simp[dm])).resolve_right (by omega);have b8:=(c 15 (by omega) (by simp[dm])).resolve_right (by omega);have b7:=(c 16 (by omega) (by simp[dm])).resolve_right (by omega);have b0:=(c 17 (by omega) (by simp[dm])).resolve_right (by omega);have a9:=(c 18 (by omega) (by simp[dm])).resolve_right (by omega);have a8:=(c 19 (by omega) (by simp[dm])).resolve_right (by omega);have a7:=(c 20 (by omega) (by simp[dm])).resolve_right (by omega);have a6:=(c 21 (by omega) (by simp[dm])).resolve_right (by omega);have Z:=(c 22 (by omega) (by simp[dm])).resolve_right (by omega);have Y:=(c 23 (by omega) (by simp[dm])).resolve_right (by omega);have X:=(c 24 (by omega) (by simp[dm])).resolve_right (by omega);have W:=(c 25 (by omega) (by simp[dm])).resolve_right (by omega);have V:=(c 26 (by omega) (by simp[dm])).resolve_right (by omega);have U:=(c 27 (by omega) (by simp[dm])).resolve_right (by omega);have T:=(c 28 (by omega) (by simp[dm])).resolve_right (by omega);have S:=(c 29 (by omega) (by simp[dm])).resolve_right (by omega);have Q:=(c 30 (by omega) (by simp[dm])).resolve_right (by omega);clear c d6;simp at k0 k1 k2 k3 k4 k5 k6 k7 k9 d5 c9 c8 b9 b8 b7 b0 a9 a8 a7 a6 Z Y X W V U T S Q;subst k0 k1 k2 k3 k4 k5 k6 k7 k9 d5 c9 c8 b9 b8 b7 b0 a9 a8 a7 a6 Z Y X W V U T S Q;have⟨r3,q9,q8⟩:=bC f1 f2 f3;clear f1 f2 f3 p0 p1;have G9:IntKind.i64.wrap ((i:NH)+1)=i+1:=Ov _ (by omega);dsimp only;go_wp2;go_roundw
    case rel=>exact⟨i+1,by simp,by omega,r3,q9,q8⟩
    case measure=>simp[OP];omega
  ·obtain rfl:i=L.length:=by omega
   clear G D hN;go_wp2;refine HR _ (.slice P O q) wr rfl rfl (λj hj hc=>?_) g5 ?_ e9
   ·obtain rfl | rfl | rfl | rfl | rfl | rfl | rfl | rfl | rfl | rfl | rfl | rfl | rfl | rfl | rfl | rfl | rfl | rfl | rfl | rfl | rfl | rfl | rfl | rfl | rfl | rfl | rfl | rfl | rfl | rfl:j=0\/j=1\/j=2\/j=3\/j=4\/j=5\/j=6\/j=7\/j=9\/j=10\/j=13\/j=14\/j=15\/j=16\/j=17\/j=18\/j=19\/j=20\/j=21\/j=22\/j=23\/j=24\/j=25\/j=26\/j=27\/j=28\/j=29\/j=55\/j=56\/j=57:=by omega
    all_goals rfl
   ·have B:=I.out;rw[Ps] at B;exact B
def kOf(p:Par):NA:=(p.mx - p.mn+1).toNat
def iF(a:Nu Par)(L:Nu (NA->NH))(x:NH):Nu (NA->NH):=match a[x.toNat]? with | some p=>gz L x.toNat p.mn (kOf p) | none=>L
def fT(b:Nu Par)(a:Nu NH):Nu (NA->NH):=a.foldl (iF b) [λ_=>0]
def Eo(b:Nu Par)(a:Nu NH)(i:NA)(x:NH)(p:Par)(h:a[i]?=Nq x)(c:b[x.toNat]?=Nq p):fT b (a.take (i+1))=gz (fT b (a.take i)) x.toNat p.mn (kOf p):=by
 rw[OR,h];simp[fT,US,iF,c]
def En(lo hi:NA)(yv vv:Ny)(d:Nu Par)(g:NH)(c:Nu NH)(w:Nt)(hY:dh lo hi w yv d g)(hI:aj lo hi w vv c)(C1:hi<=w.heap.size)(h5:d.length<=5)(hx:∀x∈c,0<=x/\x<d.length)(hp:∀p∈d,0<=p.mn/\p.mn<=p.mx/\p.mx<=1000)(Q:∀j,j<=c.length->(fT d (c.take j)).length<=900000) :Oz Ya 137 #[yv,vv] w λe w'=>∃v,e=.returned v/\w.gb w' Ns/\w'.ownsRow w.heap.size 101 5 v (fT d c).length (db (fT d c))/\∀b,v.ownBlock=Nq b->bT w' b:=by
 obtain⟨qv,rfl,hP⟩:=hY;obtain⟨yb,S,rfl,B4,-⟩:=hP.cell;obtain⟨base,b7,rfl,C0,-⟩:=hI.cell;obtain⟨A,X⟩:∃A,A=w.heap.size:=⟨_,rfl⟩;obtain⟨k,h⟩:∃k,k=(w.alloc (.cells #[.slice yb d.length S,g] 91)).alloc (aT λ_=>0):=⟨_,rfl⟩;have z:w.gb k Ns:=by rw[h];exact(Nr _ _ Ns).t (Nr _ _ Ns)
 have W:k.heap[A]?=Nq (.cells #[.slice yb d.length S,g] 91 (0,0)):=by rw[h,X];exact aE (NL w _)
 have B8:k.heap.size=A+2:=by rw[h,NW,NW,X]
 have M:k.heap[A+1]?=Nq (aT λ_=>0):=by
  rw[h];have:=NL (w.alloc (.cells #[.slice yb d.length S,g] 91)) (aT λ_=>0);rw[NW,<- X] at this;exact this
 have U:k.ownsRow A 101 5 (.slice (Nq (A+1:NA)) 1 1) 1 (db [λ_=>0]):=⟨by simp[db,nF],.inr ⟨A+1,1,_,rfl,by omega,M,by omega,by unfold Rh;omega,by simp,by simp[db,nF]⟩⟩;have V:bT k (A+1):=nU M (by intro v hv;simp at hv;exact⟨_,_,hv⟩);have m4:=Np (hI.kept z);have l7:=Np (hP.kept z);have⟨HX,l6,HN,b8,HA,m5,m9,l8⟩:=GI hx hp Q h X z W U;have m3:=Np V;have C2:hi<=A:=by omega
 clear hI hP hx hp Q h X z W M U V;go_enter Tp.x137,Tryz.ntmps137;go_upto_region 2 with(fail);rw[<- HA];rw[show(w.alloc (.cells #[.slice yb d.length S,g] 91)).alloc (.cells #[.int .i64 0,.int .i64 0,.int .i64 0,.int .i64 0,.int .i64 0] 101)=k from b8.symm];clear b8;go_wp2;go_loopw [5,17] (λov iv wr=>∃j:NA,iv=.int .i64 j/\j<=c.length/\k.gb wr Ns/\wr.ownsRow A 101 5 ov (fT d (c.take j)).length (db (fT d (c.take j)))/\(∀b,ov.ownBlock=Nq b->bT wr b)/\0<(fT d (c.take j)).length) (λ_ iv _=>(c.length - OP iv).toNat)
 case atStart=>exact⟨0,rfl,by omega,NN _ _,by simpa[fT] using l8.out,λb hb=>(by simp[OG] at hb;subst hb;exact m3),by simp[fT]⟩
 case round=>
  obtain⟨j,rfl,hj,O,hO,Q,q⟩:=hrel;obtain⟨RA,rc,rfl,C7,p9⟩:=hO.form q;have⟨c9,c3,l9⟩:=bC O hO Q;have B7:=O.size;by_cases r:j<c.length
  ·have c8:=m4.out.kept O;have b9:=l7.out.kept O;obtain⟨b1,c1,he,-,hc⟩:=c8.cell;cases he;obtain⟨VB,vo,rfl,q5,q4,q0,C⟩:=hc (by intro e;rw[e] at r;simp at r);have x0:=C j r;obtain⟨x,s⟩:∃x,c[j]?=Nq x:=⟨_,ND r⟩;have⟨B5,D⟩:=HX.out x (Od s);rw[s] at x0;simp only[NK] at x0;obtain⟨n,rfl⟩:∃n:NA,x=n:=⟨x.toNat,by omega⟩;obtain⟨b2,c2,he,-,hc⟩:=b9.cell;cases he;obtain⟨YB,yo,rfl,C5,C4,C3,T⟩:=hc (by intro e;rw[e] at D;simp at D;omega);obtain⟨p,F,p0,p1,-,-⟩:=T n (by omega);have H:=l6.out p (Od F);have a0:=O.cl (aa m9 (o:=0) rfl);have p7:(j:NH)<(c.length:NH):=by omega
   have B9:(n:NH)<(d.length:NH):=D;have⟨k7,l5⟩:=aQ s F;clear O hO Q hc C T s F c8 b9;go_upto_region 7 with(fail);obtain⟨L,y⟩:∃L,L=fT d (c.take j):=⟨_,rfl⟩;obtain⟨OB,N⟩:∃OB,OB=wr.heap.size:=⟨_,rfl⟩;obtain⟨B,l⟩:∃B,B=wr.alloc (.cells #[p.mn,p.mx] 26):=⟨_,rfl⟩;have g9:n<5:=by omega
   have h8:((kOf p:NA):NH)=p.mx - p.mn+1:=by unfold kOf;omega
   have I:fT d (c.take (j+1))=gz L n p.mn (kOf p):=by rw[Eo d c j n p k7 (by simpa using l5.out),<- y];simp
   have k5:L.length*kOf p<=900000:=by have:=HN.out (j+1) r;rw[I,iX] at this;exact this
   have q1:B.heap[OB]?=Nq (.cells #[p.mn,p.mx] 26 (0,0)):=by rw[l,N];exact NL wr _
   have q2:wr.gb B Ns:=by rw[l];exact Nr _ _ Ns
   have q3:B.ownsRow A 101 5 (.slice (Nq RA) L.length rc) L.length (db L):=by rw[l,y];exact c3.alloc _
   have g8:A<=B.heap.size:=by have:=q2.size;omega
   rw[<- y] at q ⊢;rw[<- N];rw[show wr.alloc (.cells #[p.mn,p.mx] 26)=B from l.symm];have⟨l4,k9,k8,d5⟩:=cJ q1 q2 q3 I;clear q1 q2 q3 I l N y x0 p0 p1 a0;go_wp2;refine UR (eM (R:=λa u=>∃(f:NJ Ny) (P:Ny),a=⟨f,[]⟩/\f.size=58/\f[8]?=Nq P/\(f[0]?=Nq (.agg #[.slice (Nq ⟨YB,yo,Ns⟩) d.length S,g])/\f[1]?=Nq (.slice (Nq ⟨VB,vo,Ns⟩) c.length b7)/\f[2]?=Nq (.pointer (Nq A))/\f[3]?=Nq (NG)/\f[4]?=Nq (.slice Ns 0 0)/\f[6]?=Nq (NG)/\f[10]?=Nq (NG)/\f[13]?=Nq (.agg #[.int .i64 0,.int .i64 0,.int .i64 0,.int .i64 0,.int .i64 0])/\f[14]?=Nq (.slice (Nq (A+1:NA)) 1 1)/\f[15]?=Nq (.slice (Nq ⟨VB,vo,Ns⟩) c.length b7)/\f[16]?=Nq (.int .i64 c.length)/\f[17]?=Nq (.int .i64 j)/\f[57]?=Nq (NG))/\k.gb u Ns/\u.ownsRow A 101 5 P (fT d (c.take (j+1))).length (db (fT d (c.take (j+1))))/\∀b,P.ownBlock=Nq b->bT u b) ?_) ?_;rotate_left
   ·refine kg (c':=inn cL2) (by simp only[cL2,cB1,cB0,Xm,NK,sqA,sqB,inn]) ?_;refine Lc _ rfl B _ n OB RA rc A (kOf p) p.mn p.mx L rfl g9 rfl rfl l4 rfl rfl rfl k8 ⟨H.1,H.2.1,H.2.2⟩ h8 k5 ?_;intro f P w' b1 b2 i b4 b5 b6;refine⟨f,P,rfl,b1,b2,⟨(i 0 (by omega) (by omega)).t rfl,(i 1 (by omega) (by omega)).t rfl,(i 2 (by omega) (by omega)).t rfl,(i 3 (by omega) (by omega)).t rfl,(i 4 (by omega) (by omega)).t rfl,(i 6 (by omega) (by omega)).t rfl,(i 10 (by omega) (by omega)).t rfl,(i 13 (by omega) (by omega)).t rfl,(i 14 (by omega) (by omega)).t rfl,(i 15 (by omega) (by omega)).t rfl,(i 16 (by omega) (by omega)).t rfl,(i 17 (by omega) (by omega)).t rfl,(i 57 (by omega) (by omega)).t rfl⟩,(c9.t k9).t b4,?_,b6⟩;rw[d5,iX];exact rq b5 g8
   ·rintro a u ⟨f,P,rfl,g7,e8,⟨e0,e1,e2,e3,e4,e6,b0,a9,a8,a7,a6,Z,Y⟩,f1,f2,f3⟩;have G:0<(fT d (c.take (j+1))).length:=by
     rw[d5,iX];exact Nat.mul_pos q (by omega)
    obtain⟨v0,v1,v2,v3,v4,v5,v6,v7,v8,v9,A8,A7,A6,A4,A3,A0,z9,z8,z7,z6,z5,z4,z3,z2,z1,z0,x9,x7,x6,x5,x4,x3,x2,x1,w9,w8,w6,u9,u8,u7,u6,u5,u0,t9,t8,t7,t6,t5,t4,t3,t2,t1,s9,s8,s7,s6,s5,s4,rfl⟩:=Ca f g7;simp at e8 e0 e1 e2 e3 e4 e6 b0 a9 a8 a7 a6 Z Y;subst e8 e0 e1 e2 e3 e4 e6 b0 a9 a8 a7 a6 Z Y;have⟨m8,m7,m6⟩:=bC f1 f2 f3;clear f1 f2 f3;have B6:IntKind.i64.wrap ((j:NH)+1)=j+1:=Ov _ (by omega);dsimp only;go_wp2;go_roundw
    case rel=>exact⟨j+1,by simp,by omega,m8,m7,m6,G⟩
    case measure=>simp[OP];omega
  ·obtain rfl:j=c.length:=by omega
   clear O hO Q;go_wp2;go_ret;refine⟨_,rfl,m5.t c9,?_,l9⟩;have h1:=c3.out;rw[<- HA];simpa[Ps] using h1
end
section
open Go Go.RowKit Go.Co
def Tp.info3p:(Ya.info? 3).map (λi=>(i.zero,i.size,i.bytes))=Nq (Nq (.int .i64 0),1,8):=by kernel_rfl
def Tp.und29':Ya.underlying 29=Nq (.slice 3):=by rw[Tp.und];exact Ta
def rQ{w:Nt}{base n a:NA}{v:Ny}{l:Nu NH}(h:w.ownsRow base 3 1 v n (l.map (Og .i64)))(s:l.length<=1000000)(o:w.heap.size<=a):aj base a w v l:=by
 have j:n=l.length:=by have:=h.1;simpa using this.symm
 subst j;rcases h.2 with⟨rfl,r⟩ | ⟨g,d,c,rfl,q,e,_,_,p,f⟩
 ·have:l=[]:=OZ r;subst this;exact .nil _ _ _
 ·have k:=(Nz.1 e).1;refine⟨_,d,rfl,by omega,λ_=>⟨g,0,c,_,rfl,q,by omega,e,λi a=>?_⟩⟩;have b:(l.map (Og .i64))[i]?=Nq (.int .i64 (l[i]?.getD 0)):=by simp[ND a]
  rw[<- f,Ty] at b;split at b
  ·rw[Oc];simpa using b
  ·cases b
def dU{w:Nt}{B o j:NA}{u:Ny}(h:w.cell? ⟨B,o+j,Ns⟩=Nq u):w.cell? ((⟨B,o,Ns⟩:OX).add j)=Nq u:=by
 have e:(⟨B,o,Ns⟩:OX).add j=⟨B,o+j,Ns⟩:=by unfold Addr.add;split<;>simp_all
 rw[e];exact h
def AV(w:Nt):(binOp .eql 29 (.slice Ns 0 0) (.slice Ns 0 0)).run Ya w=.ok (.bool NB) w:=by kernel_rfl
def wK(w:Nt)(B o n c:NA):(binOp .eql 29 (.slice (Nq ⟨B,o,Ns⟩) n c) (.slice Ns 0 0)).run Ya w=.ok (.bool NC) w:=by kernel_rfl
attribute [local simp] AV wK
attribute [local go_sem] AV wK
def oX(G z:NA)(v:Ny)(l:Nu NH)(w:Nt)(P:aj G z w v l)(M:z<=w.heap.size)(p:l≠[]\/v=.slice Ns 0 0)(W:l.length<=1000) :Oz Ya 84 #[v] w λe f=>∃y,e=.returned y/\w.gb f Ns/\aj w.heap.size f.heap.size f y l:=by
 have⟨H,r,k,i,g⟩:=PM Tp.info3p;by_cases s:l=[]
 ·subst s;have I:v=.slice Ns 0 0:=p.resolve_left (λh=>h rfl);subst I;go_enter Tp.x84,WH;go_wp2;go_ret;exact⟨_,rfl,NN _ _,.nil _ _ _⟩
 ·obtain⟨base,t,rfl,L,A⟩:=P;obtain⟨B,o,Q,fr,rfl,Y,X,D,C⟩:=A s;have d:0<l.length:=Ru.2 s;have S:=Np (show ∀j u,(l.map (Og .i64))[j]?=Nq u->Q[o+j]?=Nq u from λj u c=>by
   rw[Pa] at c;cases hj:l[j]? with
   | none=>rw[hj] at c;cases c
   | some x=>
    rw[hj] at c;cases c;have q:=(NT.1 hj).1;have:=C j q;rw[hj] at this;exact this)
  have U:=Np D;clear A C D;go_enter Tp.x84,WH;go_wp2_with (at_builtin;(refine VO _ (by rfl) _ _ _ (by rfl) w.heap.size 3 H _ 1 8 Tp.und29' r k i g rfl (by omega) (.slice (Nq w.heap.size) 0 0) 0 [] (by rfl) ⟨by simp,.inr ⟨w.heap.size,0,#[],rfl,by omega,NL w _,by omega,by unfold Rh;omega,by simp,by simp⟩⟩ ⟨B,o,Ns⟩ l.length t (l.map (Og .i64)) (by rfl) (by simp) (λj u c=>dU (aa (aE U) (S j u c))) (by intro u c;simp at c;obtain⟨x,_,rfl⟩:=c;rfl) d (by unfold Rh;omega) (by omega) (by simp) (w.heap.size+1) (by simp) ?_);intro Z F V a b O N;have T:=Np b;have R:=Np a;clear b a);go_ret;refine⟨_,rfl,(Nr _ _ Ns).andThen T (λj e=>.inl ?_),rQ (n:=0+l.length) (by simpa using R.out) (by omega) (Nv _)⟩;simp[OG] at e;omega
end
section
open Go.RowKit Go.Co
def rp{w c:Nt}{base a n:NA}{e:NZ}{v:Ny}{b:Nu Ny}(h:w.ownsRow base e a v n b)(d:w.gb c Ns):c.ownsRow base e a v n b:=h.kept d (Tx (v.ownBlock=Ns))
def nH{w:Nt}{base a n k c:NA}{e:NZ}{b:NO OX}{d:Nu Ny}(h:w.ownsRow base e a (.slice b k c) n d):k<=c:=by
 rcases h.2 with⟨h,-⟩ | ⟨g,j,i,h,-,-,f,-⟩
 ·cases h;exact Nv _
 ·cases h;exact f
def mA(a:Nu Par)(l:Nu NH)(x:NH):aN a (l++[x])=aN a l+dq a x:=by simp[aN]
structure HpI(b g Q B0 n i:NA)(ps:Nu Par)(lim:NH)(pv:Ny)(ord l:Nu NH)(ov:Ny)(w0 w wr:Nt):Prop where
 sub:l.Sublist (ord.take i)
 tall:aN ps l<=lim
 t0:0<=aN ps l
 own:wr.ownsRow B0 3 1 ov l.length (l.map (Og .i64))
 tin:bg wr b (g+i)
 gr:w.grownBy wr (Nq b)
 gr0:w0.grownBy wr (Nq b)
 ints:∀j,ov.ownBlock=Nq j->bT wr j
def FV{d:Nu Par}{c:NH}{a l:Nu NH}{i:NA}(e:Ew d.length a)(j:d.length<=5)(h:l.Sublist (a.take i))(g:aN d l<=c):POk d c l:=by
 have b:l.Sublist a:=h.t (Yn _ _);exact⟨λx f=>e.all x (b.subset f),e.nd.sublist b,g,by have:=b.length_le;have:=e.len;omega⟩
def CL{a:Nu Par}{m:NA}{p:Par}(h:a[m]?=Nq p):dq a (m:NH)=p.tall:=by simp[dq,h]
def Ff{a l:Nu NH}{i:NA}(h:l.Sublist (a.take i)):l.Sublist (a.take (i+1)):=h.t (by rw[OR];exact List.sublist_append_left _ _)
def Fe{a l:Nu NH}{i:NA}{x:NH}(h:l.Sublist (a.take i))(b:a[i]?=Nq x):(l++[x]).Sublist (a.take (i+1)):=by
 rw[OR,b];exact h.append (List.Sublist.refl _)
def AI(b g:NA)(lo:NA)(pv:Ny)(a:Nu Par)(q:NH)(w:Nt)(ht:bg w b g)(hg:g<90000)(hP:aD lo w.heap.size w pv a)(b0:b<lo)(h5:a.length<=5)(k9:0<=q)(u8:q<=1000)(a6:∀p∈a,0<=p.tall/\p.tall<=100) :Oz Ya 34 #[.pointer (Nq ⟨b,0,Ns⟩),.agg #[pv,q]] w λe w'=>∃l v,POk a q l/\e=.returned v/\Tn b (g+11) w w'/\aj w.heap.size w'.heap.size w' v l/\(∀b n c,v=.slice b n c->n<=c)/\∀ad m c,v=.slice (Nq ad) m c->bT w' ad.block:=by
 have⟨i0,l4,h9,h8,g9⟩:=PM Tp.info3p;obtain⟨yb,yc,rfl,t7,-⟩:=hP.cell;obtain⟨Q,hQ⟩:∃Q,Q=w.heap.size:=⟨_,rfl⟩;have v0:b<Q:=by rw[hQ];exact ht.lt
 have⟨HT,HQ,HP,m7⟩:=cJ ht hQ hP a6;clear ht hQ hP a6;go_enter Tp.x34,Tryz.ntmps34;go_upto_region 1 with(fail);rw[<- HQ];refine qg (λu=>w.gb u (Nq b)/\bg u b g/\u.heap[Q]?=Nq (.cells #[.slice yb a.length yc,q] 24 (0,0))) ⟨Nr _ _ _,HT.alloc _,by rw[HQ];exact NL _ _⟩ (λw1 hF=>?_);obtain⟨g1,t1,q1⟩:=hF;have c0:=aa q1 (o:=0) rfl;have c1:=aa q1 (o:=1) rfl;have⟨G1,T1,Q1⟩:=bC g1 t1 q1;clear g1 t1 q1;go_wp2_with (go_at_call 72;refine(Dw b g a.length _ T1 (by omega) (by omega)).mono ?_;rintro e I ⟨N,ov,C,rfl,a8,P⟩;have N2:=Np a8;have I2:=Np P;have s:=Np C;obtain⟨ob,oc,eo,-,-⟩:=P.cell;rw[C.len] at eo;subst eo;clear a8 P C);have q2:=blk N2.1 (by simp;omega) Q1;have Q2:=Np q2;have W:=Np (G1.t N2.1);have T2:=Np N2.2;have q0:w.heap.size<=w1.heap.size:=G1.out.size;have q4:=oR Q1;have m6:=Np (I2.mono (show Q+1<=w1.heap.size by omega) (Nv _));have P2:=Np (HP.kept W (λR e=>by cases e;exact .inl b0));clear q2 c0 c1 Q1 G1 T1 N2 I2;go_loopw [5,6,8] (λov tv iv wr=>∃(i:NA) (l:Nu NH),iv=.int .i64 i/\tv=.int .i64 (aN a l)/\i<=a.length/\HpI b (g+a.length) Q I.heap.size a.length i a q (.slice yb a.length yc) N l ov I w wr) (λ_ _ iv _=>(a.length - OP iv).toNat)
 case atStart=>exact⟨0,[],rfl,rfl,by omega,⟨by simp,by simpa[aN] using k9,by simp[aN],PX _ _ _ _,T2,W,NN _ _,λj e=>by cases e⟩⟩
 case round=>
  obtain⟨i,l,rfl,rfl,hi,V⟩:=hrel;obtain⟨z,y,d,rfl⟩:=cd V.own;have f:=Np V;have O:=V.tall;have k6:=V.t0;have u7:l.length<=5:=by have:=V.sub.length_le;rw[Qt] at this;omega
  clear V;by_cases a9:i<a.length
  ·have q3:(i:NH)<(a.length:NH):=by omega
   have u0:IntKind.i64.wrap ((i:NH)+1)=(i:NH)+1:=Ov _ (by omega);obtain⟨x,hx⟩:∃x,N[i]?=Nq x:=⟨_,ND (by rw[s.len];exact a9)⟩;have Y:=s.out.all x (Od hx);obtain⟨m,rfl⟩:=Int.eq_ofNat_of_zero_le Y.1;have hm:m<a.length:=by omega
   have u6:(m:NH)<(a.length:NH):=by omega
   have HX:=Np hx;clear hx Y;go_wp2_with (fail);refine(xy b (g+a.length+i) 5 _ f.tin (by omega) (by omega) (by omega)).mono ?_;rintro e w5 ⟨⟨tr,rfl⟩,D,-⟩;have g5:I.gb w5 (Nq b):=f.out.gr0.t D.1;have⟨T,G5⟩:=aQ D g5;have I5:=Np (λ(j:NA) (e:(OS z y d).ownBlock=Nq j)=>(f.ints j e).kept D.1 (λe2=>by have h1:=(f.own.lt j e).1;have h2:=T2.out.lt;cases e2;omega));have O5:=Np (f.own.kept D.1 (by
    by_cases e:(OS z y d).ownBlock=Nq b
    ·have h1:=(f.own.lt b e).1;have h2:=T2.out.lt;omega
    ·exact .inr e))
   clear D g5;cases tr with
   | true=>
    go_wp2;go_ret;exact⟨l,_,FV s h5 f.sub O,rfl,⟨f.gr.t T.1,T.2.mono (by omega)⟩,(aj.own O5 (by have:=f.out.sub.length_le;rw[Qt] at this;omega)).mono (by have:=W.out.size;omega) (Nv _),λ_ _ _ e=>(by cases(show OS z y d=_ from e);exact nH O5),λad m2 c2 e=>by cases(show OS z y d=_ from e);exact(f.ints _ rfl).kept T.1 (λe2=>by have h1:=(f.own.lt _ rfl).1;have h2:=T2.out.lt;cases e2;omega)⟩
   | false=>
    have b6:=m6.out.kept G5 (λR e=>by cases e;exact .inl (by omega));obtain⟨t4,t3,eo,-,a7⟩:=b6.cell;injection eo with eo1 eo2 eo3;subst eo1 eo3;clear eo2;obtain⟨OB,oo,rfl,-,-,v6,F⟩:=a7 (by intro e;have:=s.out.len;rw[e] at this;simp at this;omega);have x1:=F i (by rw[s.len];exact a9);rw[HX] at x1;simp only[NK] at x1;have q5:=blk G5 (by simp;omega) Q2;have p5:=P2.out.kept G5 (λR e=>by cases e;exact .inl b0);obtain⟨s5,s4,ey,-,X⟩:=p5.cell;cases ey;obtain⟨YB,yo,rfl,-,v2,v3,r⟩:=X (by intro e;rw[e] at hm;simp at hm);have⟨p,hp,p0,p1,p2,p3⟩:=r m hm;have u5:=m7.out p (Od hp);have Z:=CL hp;have d0:=aa q5 (o:=0) rfl;have d1:=aa q5 (o:=1) rfl;have⟨U,Q5⟩:=aQ Z q5;have k5:IntKind.i64.wrap (aN a l+p.tall)=aN a l+p.tall:=Ov _ (by omega);clear b6 F a7 p5 X r q5 hp Z p0 p1 p2;obtain⟨tl,A⟩:∃tl,tl=aN a l:=⟨_,rfl⟩;rw[<- A] at O k5 k6 ⊢;have H:=Np A;clear A;by_cases b7:tl+p.tall<=q
    ·go_wp2_with (fail);go_quiet (fail);go_wp2_with (fail);have h:w5.gb (w5.drewN nq) Ns:=ax _ _ _;generalize w5.drewN nq=w7 at h ⊢;have g7:=G5.out.andThen h (by simp);have e0:=aa (bk h Q5) (o:=0) rfl;have e1:=h.cl p3;have q7:=bk h Q5;have Q7:=Np q7;have v5:Q<w7.heap.size:=oR q7;have v4:YB<w7.heap.size:=by have:=h.size;omega
     have I7:=Np (λ(j:NA) (e:(OS z y d).ownBlock=Nq j)=>(I5 j e).kept h);have O7:=Np (rp O5 h);have T7:=Np (T.2.kept h);have G7:=Np g7;have GW:=Np ((f.gr.t T.1).andThen h (by simp));clear h g7 d0 d1 x1 p3 Q5;have I8:=Np (λ(j:NA) (e:(OS z y d).ownBlock=Nq j)=>(I7 j e).kept (Nr w7 (.cells #[.int .i64 m] 3) Ns));have N8:=Np (show bS [Og .i64 m] from λv hv=>⟨_,_,Pk.1 hv⟩);have Z8:=Np (show bS (Og .i64 0).cells.toList from λv hv=>by simp[Vr] at hv;exact⟨_,_,hv⟩);have l5:Nq Q≠(OS z y d).ownBlock:=λe=>by have:=(O7.lt Q e.symm).1;have:=oR Q2;omega
     go_region_law
      (first
       | (refine iW (by rfl) _ _ _ (by rfl) I.heap.size 3 i0 _ 1 8 Tp.und29' l4 h9 h8 g9 rfl (by omega) (.slice z y d) l.length (l.map (Og .i64)) (by rfl) (by exact O7.alloc _) ⟨w7.heap.size,0,Ns⟩ 1 1 [.int .i64 m] (by rfl) (by rfl) (Pt (cs:=#[.int .i64 m]) (t:=3) (fr:=(0,0)) (NL w7 _)) (by simp[PT]) (by omega) (by unfold Rh;omega) (by omega) (by simp;have:=G7.out.size;omega) (w7.heap.size+1) (by simp) I8 N8 Z8 ?_;intro gg m3 w8 B k v1 u9 L;have m8:=Np L;clear L;have B8:=blk k l5 (aE Q7);have x0:=aa B8 (o:=0) rfl;have w9:=k.cell ((Nr w7 (.cells #[.int .i64 m] 3) Ns).cl e1) (λe=>by have h1:I.heap.size<=YB:=(O7.lt _ e.symm).1;have:=W.out.size;omega);have t9:Q<w8.heap.size:=oR B8;have t8:YB<w8.heap.size:=(by have:=k.size;simp at this;omega);have HG:=Np k;have HO:=Np B;clear B8 B))
     all_goals
      have G:∀j,(OS z y d).ownBlock=Nq j->I.heap.size<=j:=λj e=>(O7.lt j e).1;have v7:=W.out.size;have HH:(w7.alloc (.cells #[.int .i64 m] 3)).gb w8 (OS z y d).ownBlock:=⟨HG.os,HG.tape,HG.output,HG.size,HG.block⟩;have S:=Nr w7 (.cells #[.int .i64 m] 3) Ns;have M:HpI b (g+a.length) Q I.heap.size a.length (i+1) a q (.slice (Nq ⟨YB,yo,Ns⟩) a.length yc) N (l++[(m:NH)]) (.slice (Nq gg) (l.length+1) m3) I w w8 :=
       ⟨Fe f.sub HX,by rw[mA,U,<- H];exact b7,by rw[mA,U,<- H];omega,by rw[Pi,Qm];exact HO,(T7.alloc _).kept HH (λj e=>by have:=G j e;have:=T2.out.lt;omega),AL (GW.andThen S (by simp)) HH (λj e=>by have:=G j e;omega),AL (G7.andThen S (by simp)) HH (λj e=>G j e),λj e=>by simp[OG] at e;subst e;exact m8⟩
      have FF:=Np M;have FT:=Np (show tl+p.tall=aN a (l++[(m:NH)]) by rw[mA,U,<- H]);clear M G S;go_wp2;go_roundw
      case rel=>exact⟨i+1,l++[(m:NH)],by simp,by rw[FT],by omega,FF⟩
      case measure=>simp[OP];omega
    ·go_wp2_with (fail);go_quiet (fail);go_wp2_with (fail);go_roundw
     case rel=>
      exact⟨i+1,l,by simp,by rw[H],by omega,Ff f.sub,f.tall,f.t0,rp O5 (ax _ _ Ns),T.2.kept (ax _ _ Ns),(f.gr.t T.1).t (ax _ _ _),G5.t (ax _ _ _),λj e=>(I5 j e).kept (ax _ _ Ns)⟩
     case measure=>simp[OP];omega
  ·obtain rfl:i=a.length:=by omega
   go_wp2;go_ret;exact⟨l,_,FV s h5 f.sub O,rfl,⟨f.gr,f.tin.mono (by omega)⟩,(aj.own f.own (by have:=f.out.sub.length_le;rw[Qt] at this;omega)).mono (by have:=W.out.size;omega) (Nv _),λ_ _ _ e=>(by cases(show OS z y d=_ from e);exact nH f.own),λad m2 c2 e=>by cases(show OS z y d=_ from e);exact f.ints _ rfl⟩
def AJ(b g:NA)(i:NA)(h:Ny)(d:Nu Par)(a:NH)(w:Nt)(s:bg w b g)(t:g<90000)(u:aD i w.heap.size w h d)(k:b<i)(r:d.length<=5)(q:0<=a)(o:a<=1000)(j:∀p∈d,0<=p.tall/\p.tall<=100) :Oz Ya 34 #[.pointer (Nq ⟨b,0,Ns⟩),.agg #[h,a]] w λe f=>∃l v,POk d a l/\e=.returned v/\Tn b (g+11) w f/\aj w.heap.size f.heap.size f v l/\∀b n c,v=.slice b n c->n<=c :=
 (AI b g i h d a w s t u k r q o j).mono λ_ _ ⟨l,v,A,z,y,x,r,_⟩=>⟨l,v,A,z,y,x,r⟩
end
section
open Go.RowKit
def lX(x y:NH):NH:=if x<y then -1 else if y<x then 1 else 0
def cU:Nu NH->Nu NH->NH
 | [],[]=>0
 | [],_::_=>-1
 | _::_,[]=>1
 | x::a,y::b=>if lX x y≠0 then lX x y else cU a b
def JL(x y:NH)(w:Nt):Oz Ya 157 #[x,y] w λe d=>e=.returned (.int .i64 (lX x y))/\w=d:=by
 unfold lX;by_cases c:x<y
 ·rw[if_pos c];go_enter Tp.x157,XH;go_wp2_with (go_at_call 198;refine(lP _ _).mono ?_;rintro e a ⟨rfl,rfl⟩);go_ret;exact⟨rfl,rfl⟩
 ·rw[if_neg c];by_cases b:y<x
  ·rw[if_pos b];go_enter Tp.x157,XH;go_wp2_with (go_at_call 198;refine(lP _ _).mono ?_;rintro e a ⟨rfl,rfl⟩);go_ret;exact⟨rfl,rfl⟩
  ·rw[if_neg b];go_enter Tp.x157,XH;go_wp2_with (go_at_call 198;refine(lP _ _).mono ?_;rintro e a ⟨rfl,rfl⟩);go_ret;exact⟨rfl,rfl⟩
def Em(a b:Nu NH)(k:NA)(x y:NH)(d:a[k]?=Nq x)(c:b[k]?=Nq y):cU (a.drop k) (b.drop k)=if lX x y≠0 then lX x y else cU (a.drop (k+1)) (b.drop (k+1)):=by
 have⟨f,h⟩:=NT.1 d;have⟨e,g⟩:=NT.1 c;rw[QA f,QA e,h,g];rfl
def pQ(P Y O X:NA)(D C:Ny)(a b:Nu NH)(w:Nt)(H:aj P Y w D a)(G:aj O X w C b) :Oz Ya 122 #[D,C] w λe N=>e=.returned (.int .i64 (cU a b))/\w=N:=by
 obtain⟨ba,ca,rfl,T,L⟩:=H.cell;obtain⟨bb,cb,rfl,S,I⟩:=G.cell;have⟨H1,H2⟩:=aQ L I;clear L I H G;go_enter Tp.x122,Tryz.ntmps122;go_wp2;go_loopw [11] (λr wr=>∃k:NA,r=.int .i64 k/\k<=a.length/\k<=b.length/\cU a b=cU (a.drop k) (b.drop k)/\w=wr) (λr _=>(a.length - OP r).toNat)
 case atStart=>exact⟨0,rfl,by omega,by omega,rfl,rfl⟩
 case round=>
  obtain⟨k,rfl,hk,U,F,rfl⟩:=hrel;have p:=Np F;clear F;by_cases d:k<a.length
  ·obtain⟨x,v⟩:∃x,a[k]?=Nq x:=⟨_,ND d⟩;obtain⟨A1,o1,rfl,b0,a9,a8,l⟩:=H1.out (by intro e;rw[e] at d;simp at d);have B:=l k d;rw[v] at B;simp only[NK] at B;have W:(k:NH)<(a.length:NH):=by omega
   have E1:=Np v;clear l v;by_cases c:k<b.length
   ·obtain⟨y,u⟩:∃y,b[k]?=Nq y:=⟨_,ND c⟩;obtain⟨B1,o2,rfl,a7,a6,Z,j⟩:=H2.out (by intro e;rw[e] at c;simp at c);have A:=j k c;rw[u] at A;simp only[NK] at A;have V:(k:NH)<(b.length:NH):=by omega
    have i:=Em a b k x y E1.out u;have h:=Np i;have g:=JL x y w;clear j u i;generalize lX x y=z at g h;have o:=Np g;clear g;by_cases q:z=0
    ·subst q;go_wp2_with (go_at_call 157;refine(o.out).mono ?_;rintro e M ⟨rfl,rfl⟩);go_roundw
     case rel=>exact⟨k+1,by simp,by omega,by omega,by rw[p.out,h.out];simp,by first | trivial | rfl⟩
     case measure=>simp[OP];omega
    ·have Q:(z != 0)=NB:=by simpa using q
     have HZ:=Np q;clear q;go_wp2_with (go_at_call 157;refine(o.out).mono ?_;rintro e M ⟨rfl,rfl⟩);go_ret;exact⟨by rw[p.out,h.out,if_pos HZ.out];rfl,rfl⟩
   ·have R:(b.length:NH)<=(k:NH):=by omega
    have f:cU a b=1:=by
     rw[p.out,Rp (show b.length<=k by omega),QA d];rfl
    have n:=Np f;clear f;go_wp2;go_ret;exact⟨by rw[n.out];rfl,rfl⟩
  ·obtain rfl:k=a.length:=by omega
   by_cases t:a.length<b.length
   ·have s:(a.length:NH)<(b.length:NH):=by omega
    have f:cU a b=-1:=by
     rw[p.out,Rp (Nv _),QA t];rfl
    have n:=Np f;clear f;go_wp2;go_ret;exact⟨by rw[n.out];rfl,rfl⟩
   ·have s:¬ (a.length:NH)<(b.length:NH):=by omega
    have f:cU a b=0:=by
     rw[p.out,Rp (Nv _),Rp (show b.length<=a.length by omega)];rfl
    have n:=Np f;clear f;go_wp2;go_ret;exact⟨by rw[n.out];rfl,rfl⟩
def pO(j l i k:NA)(d c:Ny)(a b:Nu NH)(w:Nt)(h:aj j l w d a)(g:aj i k w c b) :Oz Ya 99 #[d,c] w λe n=>e=.returned (.bool (decide (cU a b<0)))/\w=n:=by
 have f:=pQ j l i k d c a b w h g;obtain⟨y,v,rfl,p,r⟩:=h.cell;obtain⟨x,u,rfl,o,q⟩:=g.cell;clear r q h g;generalize cU a b=z at f ⊢;have s:=Np f;clear f;go_enter Tp.x99,Tryz.ntmps99;go_wp2_with (go_at_call 122;refine(s).mono ?_;rintro e t ⟨rfl,rfl⟩);go_ret;exact⟨rfl,rfl⟩
def nQ(a b:Nu NH):OI:=decide (b.length<a.length) || (decide (a.length=b.length) && decide (cU a b<0))
def uL(s u r t:NA)(i h:Ny)(a b:Nu NH)(w:Nt)(o:aj s u w i a)(n:aj r t w h b) :Oz Ya 98 #[i,h] w λe v=>e=.returned (.bool (nQ a b))/\w=v:=by
 have l:=pO s u r t i h a b w o n;obtain⟨G,D,rfl,y,B⟩:=o.cell;obtain⟨F,C,rfl,x,A⟩:=n.cell;unfold nQ;generalize decide (cU a b<0)=z at l ⊢;have p:=Np l;clear l B A o n;by_cases d:b.length<a.length
 ·have j:(b.length:NH)<(a.length:NH):=by omega
  have f:(decide (b.length<a.length) || (decide (a.length=b.length) && z))=NB:=by simp[d]
  have g:=Np f;clear f d;go_enter Tp.x98,Yo;go_wp2_with (go_at_call 99;refine(p).mono ?_;rintro e q ⟨rfl,rfl⟩);go_ret;exact⟨by rw[g];rfl,rfl⟩
 ·have j:¬ (b.length:NH)<(a.length:NH):=by omega
  by_cases c:a.length=b.length
  ·have k:((a.length:NH) == (b.length:NH))=NB:=by simp[c]
   have f:(decide (b.length<a.length) || (decide (a.length=b.length) && z))=z:=by simp[c]
   have g:=Np f;clear f d c;go_enter Tp.x98,Yo;go_wp2_with (go_at_call 99;refine(p).mono ?_;rintro e q ⟨rfl,rfl⟩);go_ret;exact⟨by rw[g];rfl,rfl⟩
  ·have k:((a.length:NH) == (b.length:NH))=NC:=by rw[beq_eq_false_iff_ne];omega
   have f:(decide (b.length<a.length) || (decide (a.length=b.length) && z))=NC:=by simp[c];omega
   have g:=Np f;clear f d c;go_enter Tp.x98,Yo;go_wp2_with (go_at_call 99;refine(p).mono ?_;rintro e q ⟨rfl,rfl⟩);go_ret;exact⟨by rw[g];rfl,rfl⟩
def bn(n:NA):Nu NH:=(Oo n).map λ(i:NA)=>(i:NH)
def bN(n:NA):(bn n).length=n:=by simp[bn]
def Dt(n:NA):bn (n+1)=bn n++[(n:NH)]:=by simp[bn,RF]
def kY(q:NO OX)(n p:NA)(f:NH)(w:Nt)(X:n<=1000) :Oz Ya 100 #[.agg #[.slice q n p,f]] w λe r=>∃v,e=.returned v/\w.gb r Ns/\aj w.heap.size r.heap.size r v (bn n):=by
 have⟨P,z,y,x,u⟩:=PM Tp.info3p;have⟨Y,d,G,g,c,h⟩:=bI w (.cells #[.slice q n p,f] 91);have W:d.cell? Y=Nq (.slice q n p):=aa h rfl;have S:Y<=d.heap.size:=by have:=c.size;omega
 have⟨A,T,i⟩:=bC g G c;clear g G c h;go_enter Tp.x100,Tryz.ntmps100;go_upto_region 1 with(fail);rw[<- T,<- A];go_wp2;go_loopw [3,9] (λL s wr=>∃k:NA,s=.int .i64 k/\k<=n/\d.gb wr Ns/\wr.ownsRow d.heap.size 3 1 L k ((bn k).map (Og .i64))) (λ_ s _=>(n - OP s).toNat)
 case atStart=>exact⟨0,rfl,by omega,NN _ _,PX _ _ _ _⟩
 case round=>
  obtain⟨k,rfl,Z,o,l⟩:=hrel;obtain⟨O,M,N,rfl⟩:=cd l;have⟨I,C⟩:=aQ o l;have Q:=o.size;by_cases R:k<n
  ·have F:(k:NH)<(n:NH):=by omega
   clear o l;go_wp2_with (at_builtin;(refine Rv _ rfl _ _ 29 rfl d.heap.size 3 P _ 1 8 Tp.und29' z y x u rfl (by decide) (.slice O M N) k _ rfl (C.alloc _) ⟨wr.heap.size,0,Ns⟩ 1 1 [.int .i64 k] rfl rfl (Pt (cs:=#[k]) (t:=3) (fr:=(0,0)) (NL wr _)) (by simp[PT]) (by unfold Rh;omega) (by omega) (by simp;omega) ?_);intro V U a b _;obtain⟨g',H,rfl⟩:=ownsRow_succ a;have B:=Np a;have D:=Np b;clear a b);go_roundw
   case rel=>
    refine⟨k+1,by simp,by omega,(I.t (Nr _ _ Ns)).andThen D (λj e=>.inl (C.lt j e).1),?_⟩;rw[Dt,Qm];exact B
   case measure=>simp[OP];omega
  ·obtain rfl:k=n:=by omega
   clear o l;go_wp2;go_ret;exact⟨_,rfl,i.t I,(aj.own C (by rw[bN];omega)).mono i.size (Nv _)⟩
def MF(L:NA)(s:OI)(d c:Ny)(a x:Nu NH)(w b:Nt):Prop :=
 w.gb b (Nq L)/\b.heap[L]?=Nq (.cells #[.func (.func 98) #[] #[],if s=NB/\nQ x a=NC then d else c,.bool NB] 108 (0,0))
def EW(L:NA)(s:OI)(k g:Ny)(a x:Nu NH)(w:Nt)(c:w.heap[L]?=Nq (.cells #[.func (.func 98) #[] #[],k,.bool s] 108 (0,0)))(j:aj 0 w.heap.size w k a)(i:aj 0 w.heap.size w g x) :Oz Ya 103 #[.pointer (Nq L),g] w λe q=>e=.returned (.tuple #[])/\MF L s k g a x w q:=by
 obtain⟨z,y,rfl,-,-⟩:=j.cell;obtain⟨f,d,rfl,-,-⟩:=i.cell;have v:w.cell? L=Nq (.func (.func 98) #[] #[]):=aa c rfl;have u:w.cell? ⟨L,1,Ns⟩=Nq (.slice z a.length y):=aa c rfl;have r:w.cell? ⟨L,2,Ns⟩=Nq (.bool s):=aa c rfl;have B:w.frozen? ⟨L,1,Ns⟩=NC:=aA c;have A:w.frozen? ⟨L,2,Ns⟩=NC:=aA c;have⟨l,o,n⟩:=bC c j i;have C:=Np (NY v (NY u r));clear c j i;go_enter Tp.x103,Zr;cases s with
 | false=>
  go_wp2_with (fail);go_quiet (fail);go_wp2;go_end0;refine⟨rfl,((ax _ _ _).t (an _ _ _ _)).t (an _ _ _ _),?_⟩;rw[if_neg (by simp ),ar (show((w.drewN nq).setCell ⟨L,1,Ns⟩ (.slice f x.length d)).heap[L]?=Nq (.cells #[.func (.func 98) #[] #[],.slice f x.length d,.bool NC] 108 (0,0)) by rw[ar (show(w.drewN nq).heap[L]?=_ from l)];rfl)];rfl
 | true=>
  cases hl:nQ x a with
  | true=>
   have b:=Np hl;clear hl;go_wp2_with (fail);go_quiet (first | (go_at_call 98;refine Qc ((uL 0 w.heap.size 0 w.heap.size _ _ x a _ (n.kept (ax _ _ Ns)) (o.kept (ax _ _ Ns))).mono (λe p h=>⟨by rw[h.1,b],h.2.symm⟩))));go_wp2;go_end0;refine⟨rfl,((ax _ _ _).t (an _ _ _ _)).t (an _ _ _ _),?_⟩;rw[if_neg (by simp[b.out]),ar (show((w.drewN nq).setCell ⟨L,1,Ns⟩ (.slice f x.length d)).heap[L]?=Nq (.cells #[.func (.func 98) #[] #[],.slice f x.length d,.bool NB] 108 (0,0)) by rw[ar (show(w.drewN nq).heap[L]?=_ from l)];rfl)];rfl
  | false=>
   have b:=Np hl;clear hl;go_wp2_with (fail);go_quiet (first | (go_at_call 98;refine Qc ((uL 0 w.heap.size 0 w.heap.size _ _ x a _ (n.kept (ax _ _ Ns)) (o.kept (ax _ _ Ns))).mono (λe p h=>⟨by rw[h.1,b],h.2.symm⟩))));go_wp2;go_end0;refine⟨rfl,(ax _ _ _),?_⟩;rw[if_pos ⟨rfl,b⟩];exact l
end
section
open Go Go.RowKit
def A5(l:Nu NH):Ny:=.agg (l.map (Og .i64)).toArray
def Tp.und118:Ya.underlying 118=Nq (.array 5 3):=by rw[Tp.und];exact Tryz.underlying118
def Tp.und120:Ya.underlying 120=Nq (.map 118 3):=by rw[Tp.und];exact Tryz.underlying120
def Tp.und3q:Ya.underlying 3=Nq (.int .i64):=by rw[Tp.und];exact SI
def Kd(l:Nu NH)(i:NA)(x:NH)(h:l[i]?=Nq x)(w:Nt):(part 3 (l.map (Og .i64)).toArray i).run Ya w=.ok (.int .i64 x) w :=
 run_part_plain w (by kernel_rfl) (by simp[h])
def Hs(x y:NH)(s t:Nu NH):decide (x::s=y::t)=((x == y) && decide (s=t)):=by
 by_cases e:x=y<;>simp[e]
def zl(a b:Nu NH)(d:a.length=b.length)(w:Nt):∀(m k:NA),k+m=a.length->(Op.eqItems 9999 3 1 (a.map (Og .i64)).toArray (b.map (Og .i64)).toArray (Vq k m)).run Ya w=.ok (decide (a.drop k=b.drop k)) w
 | 0,k,h=>by
  rw[Rp (by omega),Rp (by omega)];simp[Op.eqItems]
 | m+1,k,h=>by
  have c:=zl a b d w m (k+1) (by omega);have g:a[k]?=Nq a[k]:=ND (by omega);have f:b[k]?=Nq b[k]:=ND (by omega);rw[List.range'_succ];simp only[Op.eqItems,Nat.mul_one,PF,Kd a k _ g,Kd b k _ f,PC,run_equalIn_int w 9998 3 .i64 .i64 _ _ Tp.und3q];have e:decide (a.drop k=b.drop k)=((a[k] == b[k]) && decide (a.drop (k+1)=b.drop (k+1))):=by
   rw[QA (show k<a.length by omega),QA (show k<b.length by omega)];exact Hs _ _ _ _
  rw[e];cases(a[k] == b[k])
  ·simp
  ·simpa using c
def Nj(a b:Nu NH)(f:a.length=5)(e:b.length=5)(w:Nt):(Op.equalIn 10000 118 (A5 a) (A5 b)).run Ya w=.ok (decide (a=b)) w:=by
 obtain⟨i,c⟩:∃i,Ya.info? 3=Nq i:=⟨_,(PM Tp.info3p).choose_spec.1⟩;have d:Ya.cellsOf 3=1:=by kernel_rfl
 unfold A5;rw[show(10000:NA)=9999+1 from rfl,run_equalIn_array w 9999 _ _ Tp.und118 c,d,List.range_eq_range',zl a b (by omega) w 5 0 (by omega)];rfl
def GR(a:Nu NH)(o:a.length=5)(w:Nt):∀(b:Nu Rz) (K:Nu (Nu NH)) (i:NA),b.map (·.key)=K.map A5->(∀k∈K,k.length=5)->(∀e∈b,∃v:NH,e.val=.int .i64 v) ->∃r,(SD 118 (A5 a) b i).run Ya w=.ok r w/\(a∈K->∃j v,r=Nq (j,.int .i64 v))/\(a∉K->r=Ns)
 | [],K,i,h,_,_=>by
  have:K=[]:=by simpa using h.symm
  subst this;exact⟨Ns,by simp[SD],by simp,by simp⟩
 | e::b,[],i,h,_,_=>by simp at h
 | e::b,k::K,i,h,p,l=>by
  simp only[Qj,QT] at h;have q:=Nj a k o (p k (by simp)) w;have n:(Op.equal 118 (A5 a) e.key).run Ya w=.ok (decide (a=k)) w:=by rw[h.1];exact q
  by_cases f:a=k
  ·subst f;have⟨v,g⟩:=l e (by simp);refine⟨Nq (i,e.val),?_,λ_=>⟨i,v,by rw[g]⟩,λd=>absurd (by simp) d⟩;simp only[SD,PF,n,PC,decide_true,if_true,SZ]
  ·have⟨r,u,t,s⟩:=GR a o w b K (i+1) h.2 (λx c=>p x (by simp[c])) (λx c=>l x (by simp[c]));refine⟨r,?_,λhm=>t ((ON.1 hm).resolve_left f),λd=>s λhm=>d (by simp[hm])⟩;simp only[SD,PF,n,PC];simpa[f] using u
def Mw(a b:NJ Ny)(v:Ny)(n:NA)(c:Nu Rz)(w:Nt):(Td 118 (.agg a) (⟨.agg b,v,n⟩::c)).run Ya w=(SD 118 (.agg a) (⟨.agg b,v,n⟩::c)).run Ya w:=by kernel_rfl
def zc(a:Nu NH)(g:a.length=5)(w:Nt)(b:Nu Rz)(K:Nu (Nu NH))(h:b.map (·.key)=K.map A5)(i:∀k∈K,k.length=5)(d:∀e∈b,∃v:NH,e.val=.int .i64 v) :∃r,(Td 118 (A5 a) b).run Ya w=.ok r w/\(a∈K->∃j v,r=Nq (j,.int .i64 v))/\(a∉K->r=Ns):=by
 cases b with
 | nil=>
  have:K=[]:=by simpa using h.symm
  subst this;exact⟨Ns,by unfold A5;kernel_rfl,by simp,by simp⟩
 | cons e b=>
  obtain⟨k,c,rfl⟩:∃k c,K=k::c:=by
   cases K with
   | nil=>simp at h
   | cons k c=>exact⟨k,c,rfl⟩
  have⟨r,n,l⟩:=GR a g w (e::b) (k::c) 0 h i d;refine⟨r,?_,l⟩;obtain⟨p,o,q⟩:=e;have f:p=A5 k:=by simpa using(List.cons.inj h).1
  subst f;exact(Mw _ _ o q b w).t n
def Ba(b:OI)(a:Nu NH)(h:a.length=5)(w:Nt):(Sf b 10000 118 (A5 a)).run Ya w=.ok () w:=by
 obtain⟨g,f,e,d,c,rfl⟩:∃g f e d c,a=[g,f,e,d,c]:=by
  rcases a with _ | ⟨g,_ | ⟨f,_ | ⟨e,_ | ⟨d,_ | ⟨c,_ | ⟨i,t⟩⟩⟩⟩⟩⟩<;>simp at h;exact⟨g,f,e,d,c,rfl⟩
 show(Sf b 10000 118 (.agg #[.int .i64 g,.int .i64 f,.int .i64 e,.int .i64 d,.int .i64 c])).run Ya w=.ok () w;kernel_rfl
def cP(w:Nt)(r:NA)(K:Nu (Nu NH)):Prop :=
 ∃b a,w.heap[r]?=Nq (.map b a)/\b.toList.map (·.key)=K.map A5/\(∀k∈K,k.length=5)/\∀e∈b.toList,∃v:NH,e.val=.int .i64 v
def cP.look{w:Nt}{r:NA}{K:Nu (Nu NH)}(h:cP w r K)(a:Nu NH)(b:a.length=5):∃v:NH,(Ue 120 (.map (Nq r)) (A5 a) NB).run Ya w=.ok (.tuple #[v,.bool (decide (a∈K))]) w:=by
 obtain⟨o,c,e,n,l,k⟩:=h;have⟨q,d,g,f⟩:=zc a b w o.toList K n l k;have i:∀w,(Tk 3).run Ya w=.ok (.int .i64 0) w:=λw=>by kernel_rfl
 by_cases hm:a∈K
 ·obtain⟨j,v,rfl⟩:=g hm;refine⟨v,?_⟩;simp[Ue,PF,TZ Tp.und120,getObj,Pr,e,TX,Ba _ a b,d,hm]
 ·obtain rfl:=f hm;refine⟨0,?_⟩;simp[Ue,PF,TZ Tp.und120,getObj,Pr,e,TX,Ba _ a b,d,hm,i]
def cP.add{w:Nt}{r:NA}{K:Nu (Nu NH)}(h:cP w r K)(a:Nu NH)(d:a.length=5)(u:a∉K)(v:NH):∃o,(∀m t,o≠.cells m t (0,0))/\(PO 120 (.map (Nq r)) (A5 a) (.int .i64 v)).run Ya w=.ok () (w.putObj r o)/\∀c,c.heap[r]?=Nq o->cP c r (K++[a]):=by
 obtain⟨l,b,y,j,i,g⟩:=h;have⟨q,p,z,n⟩:=zc a d w l.toList K j i g;obtain rfl:=n u;refine⟨.map (l.push ⟨A5 a,.int .i64 v,b⟩) (b+1),(λm t e=>(by cases e)),?_,λc s=>⟨_,_,s,by simp[j],λk x=>?_,λe f=>?_⟩⟩
 ·simp[PO,PF,TZ Tp.und120,getObj,setObj,Pr,y,TX,Ba _ a d,p,ZO]
 ·rcases Qb.1 x with h | h
  ·exact i k h
  ·rw[Pk.1 h];exact d
 ·rw[Array.toList_push] at f;rcases Qb.1 f with h | h
  ·exact g e h
  ·rw[Pk.1 h];exact⟨v,rfl⟩
def cP.nil{w:Nt}{r:NA}(h:w.heap[r]?=Nq (.map #[] 0)):cP w r []:=⟨_,_,h,rfl,by simp,by simp⟩
def cP.kept{w w':Nt}{r:NA}{K:Nu (Nu NH)}(h:cP w r K)(e:w'.heap[r]?=w.heap[r]?):cP w' r K:=by
 obtain⟨g,a,f,d⟩:=h;exact⟨g,a,e.t f,d⟩
end
section
open Go.RowKit
def ow(n1:NA)(G:NA->Prop)(W:Nt)(v:Ny)(l:Nu NH):Prop:=aj n1 W.heap.size W v l/\∀B o n c,v=.slice (Nq ⟨B,o,Ns⟩) n c->l≠[]->¬ G B
def ow.bod{n1:NA}{G G':NA->Prop}{A C:Nt}{v:Ny}{l:Nu NH}(h:ow n1 G A v l)(d:Bod n1 n1 G G' A C):ow n1 G' C v l:=by
 obtain⟨⟨base,i,rfl,u,j⟩,k⟩:=h;refine⟨⟨base,i,rfl,u,λa=>?_⟩,λB o n c e a w=>?_⟩
 ·have⟨B,o,s,p,b,g,f,r,q⟩:=j a;exact⟨B,o,s,p,b,g,NX f d.size,(d.keep B f (.inl g) (k B o _ _ (by rw[b]) a)).t r,q⟩
 ·have⟨y,x,s,p,b,g,f,r,q⟩:=j a;rw[b] at e;cases e;exact(d.fp _ w).elim (k _ _ _ _ (by rw[b]) a) (by omega)
def eB{n1 B:NA}{G:NA->Prop}{A C:Nt}(a:A.gb C Ns):Bod n1 B G G A C:=⟨a.tape,a.size,λk b _ _=>a.block k b (by simp),λ_ h=>.inl h⟩
structure pT(n1 E Lv Gp:NA)(lb:NO OX)(lc:NA)(ws:Nu NH)(fE:Pl)(dO:NJ Ny)(G:NA->Prop)(W:Nt):Prop where
 en:W.heap[E]?=Nq (.cells #[.func (.func fE) #[] dO] 51 (0,0))
 ls:W.heap[Lv]?=Nq (.cells #[.slice lb ws.length lc] 29 (0,0))
 li:ow n1 G W (.slice lb ws.length lc) ws
 gr:W.heap[Gp]?=Nq (.cells #[.func (.func 136) #[] #[.pointer (Nq E),.pointer (Nq Lv),.pointer (Nq Gp)]] 151 (0,0))
 ge:n1<=E/\n1<=Lv/\n1<=Gp
 nf:¬ G E/\¬ G Lv/\¬ G Gp
section
variable{n1 E Lv Gp:NA}{lb:NO OX}{lc:NA}{ws:Nu NH}{fE:Pl}{dO:NJ Ny}{G G':NA->Prop}{A C:Nt}
def pT.bod(h:pT n1 E Lv Gp lb lc ws fE dO G A)(a:Bod n1 n1 G G' A C):pT n1 E Lv Gp lb lc ws fE dO G' C:=by
 have d:=(Nz.1 h.en).1;have c:=(Nz.1 h.ls).1;have b:=(Nz.1 h.gr).1;exact⟨(a.keep E d (.inl h.ge.1) h.nf.1).t h.en,(a.keep Lv c (.inl h.ge.2.1) h.nf.2.1).t h.ls,h.li.bod a,(a.keep Gp b (.inl h.ge.2.2) h.nf.2.2).t h.gr,h.ge,
  λe=>(a.fp _ e).elim h.nf.1 (by omega),λe=>(a.fp _ e).elim h.nf.2.1 (by omega),λe=>(a.fp _ e).elim h.nf.2.2 (by omega)⟩
end
def It(ws:Nu NH)(done L:Nu (Nu NH)):Prop:=∃t,eZ ws 0=done++(L++t)
structure Cb(n1:NA)(ws:Nu NH)(fE:Pl)(dO:NJ Ny)(I:Nu (Nu NH)->(NA->Prop)->Nt->Prop):Prop where
 hI:∀s G A C,I s G A->A.grownBy C Ns->I s G C
 hlt:∀s G A,I s G A->∀k,G k->k<A.heap.size
 en:∀a w,(callFunc fE a).run Ya w=.ok (.enter fE a) w
 cb:∀done G W v c,I done G W->aj 0 W.heap.size W v c->(c≠[]\/v=.slice Ns 0 0)->c.Sublist ws->It ws done [c] ->
  Oz Ya fE (#[v]++dO) W λe W'=>e=.returned (.bool NC)/\∃G',I (done++[c]) G' W'/\Bod n1 n1 G G' W W'
def GrA(n1:NA)(I:Nu (Nu NH)->(NA->Prop)->Nt->Prop)(L:Nu (Nu NH))(done:Nu (Nu NH))(G:NA->Prop)(W:Nt)(e:Ending)(a:Nt):Prop :=
 e=.returned (.bool NC)/\∃G',I (done++L) G' a/\Bod n1 n1 G G' W a
def Mt{n1 E Lv Gp:NA}{lb:NO OX}{lc:NA}{ws:Nu NH}{fE:Pl}{dO:NJ Ny}{I:Nu (Nu NH)->(NA->Prop)->Nt->Prop}(p:Cb n1 ws fE dO I){a:Nu NH}{b:NA}{i:NO OX}{g:NA}{W:Nt}{G:NA->Prop}{done:Nu (Nu NH)}(c:a.Sublist (ws.take b))(n:pT n1 E Lv Gp lb lc ws fE dO G W)(o:ow n1 G W (.slice i a.length g) a)(f:a≠[]\/OS i a.length g=.slice Ns 0 0)(d:It ws done (cM ws 0 a b))(h:I done G W) :Oz Ya 136 #[.slice i a.length g,b,.int .i64 (0:NA),.pointer (Nq E),.pointer (Nq Lv),.pointer (Nq Gp)] W (GrA n1 I (cM ws 0 a b) done G W):=by
 have u:W.cell? E=Nq (.func (.func fE) #[] dO):=aa n.en rfl;have q:=p.en;have l:=p.cb done G W _ a h (o.1.mono (OE _) (Nv _)) f (c.trans (Yn _ _)) d;have r:=Np l;clear l n o h f d;go_enter Tp.x136,Zs;go_wp2_with (refine(r).mono ?_;rintro e t ⟨rfl,s,k,j⟩);go_ret;exact⟨rfl,s,k,j⟩
def lk(w:Nt)(a b:NA)(e:NZ):a<=Sm w a b e:=by
 unfold Sm;simp only[Question.cut];omega
def uB{w:Nt}{l:Nu NH}{zs:NJ Ny}(d:l.length<=1000000)(a:NA) :aj w.heap.size (w.drew.alloc (.cells ((l.map (Og .i64)).toArray++zs) 3)).heap.size (w.drew.alloc (.cells ((l.map (Og .i64)).toArray++zs) 3)) (.slice (Nq w.heap.size) l.length a) l:=by
 have c:(w.drew.alloc (.cells ((l.map (Og .i64)).toArray++zs) 3)).heap[w.heap.size]?=Nq (.cells ((l.map (Og .i64)).toArray++zs) 3 (0,0)):=NL w.drew _;refine⟨_,a,rfl,by omega,λ_=>⟨w.heap.size,0,_,_,rfl,Nv _,?_,c,λi b=>?_⟩⟩
 ·exact(Nz.1 c).1
 ·rw[Oc,Ua (by simpa using b)];simp[ND b]
def De{w:Nt}{z:NO OX}{M B:NA}{a:Nu NH}{x:NH}(y:NZ)(I:aj 0 w.heap.size w (.slice z a.length M) a)(N:w.cell? B=Nq (.int .i64 x))(S:a.length<=1000) :∃g d u,(Rj #[29,29] y #[.slice z a.length a.length,.slice (Nq B) 1 1]).run Ya w=.ok (.slice (Nq ⟨g,0,Ns⟩) (a.length+1) d) u/\w.heap.size<=g/\w.gb u Ns /\aj w.heap.size u.heap.size u (.slice (Nq ⟨g,0,Ns⟩) (a.length+1) d) (a++[x])/\a.length+1<=d:=by
 have⟨H,s,r,h,q⟩:=PM Tp.info3p;have f:∀j v,([Og .i64 x]:Nu Ny)[j]?=Nq v->w.cell? ((⟨B,0,Ns⟩:OX).add j)=Nq v:=λj v k=>by
  have:j=0:=by have:=(NT.1 k).1;simp at this;omega
  subst this;simp at k;subst k;simpa[Addr.add] using N
 have p:(a++[x]).length=a.length+1:=by simp
 cases z with
 | none=>
  have R:a=[]:=by
   refine OK λD=>?_;obtain⟨base,d,e,_,n⟩:=I;cases e;have⟨B,o,U,T,F,_⟩:=n D;cases F
  subst R;have n:=run_append_nil (P:=Ya) w 29 y 3 H _ Tp.und29' s r ⟨B,0,Ns⟩ 1 1 [Og .i64 x] (by rw[h];rfl) f (by omega) (by omega) (by rw[q];omega);have:=uB (w:=w) (l:=[x]) (zs:=Qu (Og .i64 0).cells (Sm w 1 0 3 - 1)) (by simp) (Sm w 1 0 3);exact⟨_,_,_,n,Nv _,(ai w Ns).t (Nr _ _ Ns),this,lk _ _ _ _⟩
 | some b=>
  have i:∀j v,(a.map (Og .i64))[j]?=Nq v->w.cell? (b.add j)=Nq v:=λj v k=>by
   have c:j<a.length:=by simpa using(NT.1 k).1
   have⟨base,d,e,_,O⟩:=I.cell;cases e;have⟨V,o,F,_,_,_,Q⟩:=O (by intro e;rw[e] at c;simp at c);cases F;have L:=Q j c;rw[Pa,ND c] at k;rw[ND c] at L;cases k;exact dU L
  have n:=run_append_grow (P:=Ya) w 29 y 3 H _ Tp.und29' s r b a.length a.length (a.map (Og .i64)) (by rw[h];simp) i ⟨B,0,Ns⟩ 1 1 [Og .i64 x] (by rw[h];rfl) f (by omega) (by omega) (growslice_fits (by omega) (by rw[q];omega));have:=uB (w:=w) (l:=a++[x]) (zs:=Qu (Og .i64 0).cells (Sm w (a.length+1) a.length 3 - (a.length+1))) (by simp;omega) (Sm w (a.length+1) a.length 3);have e:(a.map (Og .i64)).toArray++[Og .i64 x].toArray=((a++[x]).map (Og .i64)).toArray:=by simp
  rw[e] at n;rw[p] at this;exact⟨_,_,_,n,Nv _,(ai w Ns).t (Nr _ _ Ns),this,lk _ _ _ _⟩
def zT{d:NJ PE}{o:PE}{a:QF}{w:Nt}{K:QF->Nt->Prop}{Q:Ux->QF->Nt->Prop}{E:Prop}(f:Oy o (PH d a.tmps)=NB)(s x:OQ)(e:o.op=.call { callee:=.builtin .append,args:=#[s,x],argTypes:=#[29,29] }){nb:NO OX}{nc B:NA}{now:Nu NH}{y:NH}(hs:a.eval s=.slice nb now.length now.length)(hx:a.eval x=.slice (Nq B) 1 1)(hN:aj 0 w.heap.size w (.slice nb now.length nc) now)(hy:w.cell? B=Nq (.int .i64 y))(hl:now.length<=1000)(h:∀g b c,w.heap.size<=g->w.gb c Ns->aj w.heap.size c.heap.size c (.slice (Nq ⟨g,0,Ns⟩) (now.length+1) b) (now++[y])->now.length+1<=b->K (a.put o.dst (.slice (Nq ⟨g,0,Ns⟩) (now.length+1) b)) c) :if Oy o (PH d a.tmps)=NB then Oper.wp Ya o a w K Q else E:=by
 rw[if_pos f];have⟨g,b,c,i,n,l,k,j⟩:=De o.type hN hy hl;unfold Oper.wp QN;simp only[e,resolve,invoke,builtin,PF,SZ,PC,SH,Qj,Sx,hs,hx,i];exact h g b c n l k j
def Ms{n1 E Lv Gp:NA}{lb:NO OX}{lc:NA}{ws:Nu NH}{fE:Pl}{dO:NJ Ny}{I:Nu (Nu NH)->(NA->Prop)->Nt->Prop}(cb:Cb n1 ws fE dO I)(k0:ws.length<=1000)(m:NA)(ih:∀(b:Nu NH) (a:NA) (p:NO OX) (nc:NA) (W:Nt) (G:NA->Prop) (done:Nu (Nu NH)),m+b.length<=ws.length->a<=1001->b.Sublist (ws.take a)->pT n1 E Lv Gp lb lc ws fE dO G W->ow n1 G W (.slice p b.length nc) b->(b≠[]\/OS p b.length nc=.slice Ns 0 0)->b.length<=nc->It ws done (cM ws m b a)->I done G W ->Oz Ya 136 #[.slice p b.length nc,a,m,.pointer (Nq E),.pointer (Nq Lv),.pointer (Nq Gp)] W (GrA n1 I (cM ws m b a) done G W))(b:Nu NH)(a:NA)(p:NO OX)(nc:NA)(W:Nt)(G:NA->Prop)(done:Nu (Nu NH))(k9:m+1+b.length<=ws.length)(a8:a<=1001)(l:b.Sublist (ws.take a))(hS:pT n1 E Lv Gp lb lc ws fE dO G W)(hN:ow n1 G W (.slice p b.length nc) b)(a7:b≠[]\/OS p b.length nc=.slice Ns 0 0)(k8:b.length<=nc)(z:It ws done (cM ws (m+1) b a))(h:I done G W) :Oz Ya 136 #[.slice p b.length nc,a,.int .i64 ((m:NH)+1),.pointer (Nq E),.pointer (Nq Lv),.pointer (Nq Gp)] W (GrA n1 I (cM ws (m+1) b a) done G W):=by
 have l4:((m:NH)+1 == 0)=NC:=by
  rw[beq_eq_false_iff_ne];omega
 have⟨d5,HS,HN,HH,R,c3⟩:=rS ih hS hN h l z;clear z;have k5:IntKind.i64.wrap (m:NH)=(m:NH):=Ov _ (by omega);clear ih hS hN h a7 l;go_enter Tp.x136,Zs;go_wp2;go_loopw [10] (λX wr=>∃i:NA,X=.int .i64 i/\a<=i/\i<=1001/\∃w L,cM ws (m+1) b a=L++cM ws (m+1) b i/\I (done++L) w wr/\Bod n1 n1 G w W wr) (λX _=>(1002 - OP X).toNat)
 case atStart=>exact⟨a,rfl,Nv _,a8,G,[],rfl,by simpa using HH.out,eB (NN _ _)⟩
 case round=>
  obtain⟨i,rfl,a9,l5,w,L,hL,O,k⟩:=hrel;have f:=Np (HS.bod k);have c8:=Np (HN.bod k);have⟨HL,u,T⟩:=bC hL O k;clear hL O k;have c1:wr.cell? Lv=Nq (.slice lb ws.length lc):=aa f.ls rfl;by_cases d:i<ws.length
  ·have e7:(i:NH)<(ws.length:NH):=by omega
   obtain⟨x,q⟩:∃x,ws[i]?=Nq x:=⟨_,ND d⟩;obtain⟨b1,m4,he,-,hc⟩:=f.out.li.1.cell;cases he;obtain⟨LB,lo,rfl,m3,l9,l8,P⟩:=hc (by intro e;rw[e] at d;simp at d);have U:=P i d;rw[q] at U;simp only[NK] at U;have d0:wr.cell? Gp=Nq (.func (.func 136) #[] #[.pointer (Nq E),.pointer (Nq Lv),.pointer (Nq Gp)]):=aa f.gr rfl;have d1:=c1;have d2:=U;have k6:IntKind.i64.wrap ((i:NH)+1)=((i+1:NA):NH):=by rw[Ov _ (by omega)];rfl
   have a6:0<=(i:NH):=by omega
   have k7:(b.length:NH)<=(nc:NH):=by omega
   have s:=Np q;clear hc P U q;go_upto_region 6 with(fail);refine aI 17 (λv=>v.cell? Gp=Nq (.func (.func 136) #[] #[.pointer (Nq E),.pointer (Nq Lv),.pointer (Nq Gp)])/\v.cell? Lv=Nq (.slice (Nq ⟨LB,lo,Ns⟩) ws.length lc)/\v.cell? ⟨LB,lo+i,Ns⟩=Nq (.int .i64 x)) (by kernel_rfl) (by kernel_rfl) ⟨d0,d1,d2⟩ (λhHeld=>?_);simp only[NQ,NU,Oh,OV,Oc,Oj,Ol,Ow,On,Oa];refine tk 0 (h:=tk 1 (h:=tk 2 (h:=tk 3 (h:=tk 4 (h:=tk 5 (h:=tk 6 (h:=tk 7 (h:=tk 8 (h:=tk 9 (h:=tk 10 (h:=tk 13 (h:=tk 14 (h:=tk 15 (h:=tk 16 (h:=?_)))))))))))))));try go_frame
   refine rdc 11 λK M=>?_;go_simp;refine M.out _ _ (by first | exact V | exact hHeld | exact⟨(Nr _ _ Ns).cl hHeld.1,(Nr _ _ Ns).cl hHeld.2.1,(Nr _ _ Ns).cl hHeld.2.2⟩) (λhHeld=>?_);clear M K;try go_frame
   refine rdc 12 λK M=>?_;refine zT rfl (.tmp 29) (.tmp 34) rfl (nc:=nc) (B:=wr.heap.size) (y:=x) (by rfl) (by rfl) (((c8.1.kept ((ai wr Ns).trans (Nr wr.drew (.cells #[.int .i64 x] 3) Ns))).mono (OE _) ((ai wr Ns).trans (Nr wr.drew (.cells #[.int .i64 x] 3) Ns)).size)) (il wr.drew _ _ _) (by omega) (λg Q v q1 q2 q3 q5=>?_);have j:=Np (((ai wr Ns).trans (Nr wr.drew (.cells #[.int .i64 x] 3) Ns)).trans q2);have⟨b8,b9,b7⟩:=bC q3 q1 q5;have V:=NY (j.cl d0) (NY (j.cl d1) (j.cl d2));clear q1 q2 q3 q5;refine M.out _ _ (by first | exact V | exact hHeld | exact⟨(Nr _ _ Ns).cl hHeld.1,(Nr _ _ Ns).cl hHeld.2.1,(Nr _ _ Ns).cl hHeld.2.2⟩) (λhHeld=>?_);clear M K;try go_frame
   refine⟨by kernel_rfl,?_⟩;simp only[Oi,OH];clear hHeld V;have Z:n1<=wr.heap.size:=Yp (Nat.lt_of_le_of_lt f.ge.1 (Nz.1 f.en).1);have D:(wr.drew.alloc (.cells #[.int .i64 x] 3)).heap.size=wr.heap.size+1:=by rw[NW];rfl
   have Y:wr.heap.size<=g:=by have h1:=b9.out;have h2:((wr.alloc (.cells #[.int .i64 x] 3)).drew).heap.size=wr.heap.size+1:=(by rw[World.size_drew,NW]);omega
   have F:=f.out.bod (eB j);have N:=cb.hI _ _ _ _ u j;have H:ow n1 w v (.slice (Nq ⟨g,0,Ns⟩) (b.length+1) Q) (b++[x]):=by
    refine⟨b8.mono (NM Z (Yp (by rw[<- Nat.add_one_le_iff];exact Sv D.symm))) (Nv _),λB o n c e _ hg=>?_⟩;cases e;have:=cb.hlt _ _ _ u _ hg;omega
   have r:=d5.out (b++[x]) (i+1) (Nq ⟨g,0,Ns⟩) Q v w (done++L) (by simp;omega) (by omega) (by
    rw[OR,s];exact List.Sublist.append (R.trans (List.take_sublist_take_left a9)) (by simp)) F (by simpa using H) (.inl (by simp)) (by simpa using b7.out) (by
    have⟨t,ht⟩:=c3.out;rw[HL,mP d,s] at ht;exact⟨_,by rw[ht];simp only[Qv];rfl⟩) N
   rw[Pi,UZ] at r;have S:=Np r;clear r H N F D Y;go_wp2_with (go_at_call 136;refine(S).mono ?_;rintro e w6 ⟨rfl,G6,b6,b0⟩);go_roundw
   case rel=>
    refine⟨i+1,by simp,by omega,by omega,G6,L++cM ws m (b++[x]) (i+1),?_,by rw[<- Qv];exact b6,T.trans ((eB j).trans b0)⟩;rw[HL,mP d,s,Qv];rfl
   case measure=>simp[OP];omega
  ·have a6:¬ (i:NH)<(ws.length:NH):=by omega
   go_wp2;go_ret;exact⟨rfl,w,by rw[HL,uP (by omega),SV];exact u,T⟩
def Kk{n1 E Lv Gp:NA}{lb:NO OX}{lc:NA}{ws:Nu NH}{fE:Pl}{dO:NJ Ny}{I:Nu (Nu NH)->(NA->Prop)->Nt->Prop}(l:Cb n1 ws fE dO I)(e:ws.length<=1000) :∀(m:NA) (b:Nu NH) (a:NA) (d:NO OX) (c:NA) (W:Nt) (G:NA->Prop) (done:Nu (Nu NH)),m+b.length<=ws.length->a<=1001->b.Sublist (ws.take a)->pT n1 E Lv Gp lb lc ws fE dO G W->ow n1 G W (.slice d b.length c) b->(b≠[]\/OS d b.length c=.slice Ns 0 0)->b.length<=c->It ws done (cM ws m b a)->I done G W ->Oz Ya 136 #[.slice d b.length c,a,m,.pointer (Nq E),.pointer (Nq Lv),.pointer (Nq Gp)] W (GrA n1 I (cM ws m b a) done G W)
 | 0,b,a,d,c,W,G,done,_,_,k,j,i,h,_,f,g=>Mt l k j i h f g
 | m+1,b,a,d,c,W,G,done,p,n,k,j,i,h,f,o,g=>by
  have:=Ms l e m (Kk l e m) b a d c W G done p n k j i h f o g
  rwa [show((m:NH)+1)=((m+1:NA):NH) by omega] at this
end
section
open Go.RowKit Go.Shelf
attribute [local go_sem] Oper.semAt_some
def mz{Y:Type}(f:NA->Y)(k:NA):Nu Y:=(Oo k).map f
def tK{Y:Type}(f:NA->Y)(k:NA):mz f (k+1)=mz f k++[f k]:=by simp[mz,RF]
def xm{Y:Type}(f:NA->Y)(k:NA):(mz f k).length=k:=by simp[mz]
def EF(a:Nu NH):mz (λj=>a[j]?.getD 0) a.length=a:=by
 apply Wm
 ·simp[mz]
 ·intro i c b;simp[mz,b]
def CK(a:Nu NH){k:NA}(b:k<=a.length):mz (λj=>a[j]?.getD 0) k=a.take k:=by
 apply Wm
 ·simp[mz,b]
 ·intro i c d;have:i<a.length:=by simp[mz] at c;omega
  simp[mz,this]
def zO(F:Fence)(n:NA)(P:F.fn 165)(u:F.round=Ns)(S:1<=n)(l Bs n₀ b c a A:NA)(d:Nu NH)(s:a*8<=140737488351232)(L:b<n₀)(J H:Nu NH->Nt->Prop)(M:∀pre x W,J pre W->pre.length<a->YieldAt F (n - 1) Ya l #[.int .i64 x] W λe f =>(e=.returned (.bool NB)/\J (pre++[x]) f/\Below n₀ W f)\/(e=.returned (.bool NC)/\H (pre++[x]) f))(W:Nt)(O:W.cell? Bs=Nq (.slice (Nq ⟨b,c,Ns⟩) a A))(I:∀j,j<a->W.cell? ⟨b,c+j,Ns⟩=Nq (.int .i64 (d[j]?.getD 0)))(Q:J [] W) :CallsIn F n Ya 165 #[.func (.yield l) #[] #[],.pointer (Nq Bs)] W λe f=>(∃v,e=.returned v) /\((∃B,B=mz (λj=>d[j]?.getD 0) a/\J B f)\/(∃pre,(∃k,k<=a/\pre=mz (λj=>d[j]?.getD 0) k)/\H pre f)):=by
 refine Wf Tp.x165 rfl P ?_ u;simp only[Zt,Ox,NQ,NU,Oh,OV,Oj,Ol,Ow,Rt,On,Oa]
 gi_wp2
 gi_loopw [7] (λi wr=>∃k:NA,k<=a/\i=.int .i64 k/\J (mz (λj=>d[j]?.getD 0) k) wr/\Below n₀ W wr)
  (λi _=>a - (OP i).toNat)
 case atStart=>exact⟨0,OE _,rfl,Q,UA _ _⟩
 case round=>
  obtain⟨k,T,rfl,r,g⟩:=hrel;have y:k<a->wr.cell? ⟨b,c+k,Ns⟩=Nq (.int .i64 (d[k]?.getD 0)):=λh=>(g.cell (p:=⟨b,c+k,Ns⟩) L).trans (I k h);by_cases o:k<a
  ·have⟨U,C,t,G,R,N⟩:=M _ (d[k]?.getD 0) wr r (by rw[xm];exact o);have D:=y o
   gi_wp2
   refine N.mono ?_;rintro e V (⟨rfl,z,w⟩ | ⟨rfl,q⟩)
   ·gi_wp2
    go_roundw
    case rel=>exact⟨k+1,by omega,by simp,by rw[tK];exact z,g.trans w⟩
    case measure=>simp[OP];omega
   ·gi_wp2
    refine Qi (results_none rfl _ _ _) rfl ?_;exact⟨⟨_,rfl⟩,.inr ⟨_,⟨k+1,by omega,(tK _ _).symm⟩,q⟩⟩
  ·obtain rfl:k=a:=by omega
   gi_wp2
   go_end0;exact⟨⟨_,rfl⟩,.inl ⟨_,rfl,r⟩⟩
def vu(F:Fence)(n:NA)(f:F.fn 165)(a:F.round=Ns)(l Bs:NA)(J:Nu NH->Nt->Prop)(W:Nt)(c:NO OX)(k:NA)(d:W.cell? Bs=Nq (.slice c 0 k))(g:J [] W) :CallsIn F n Ya 165 #[.func (.yield l) #[] #[],.pointer (Nq Bs)] W λe h=>(∃v,e=.returned v)/\J [] h:=by
 refine Wf Tp.x165 rfl f ?_ a;simp only[Zt,Ox,NQ,NU,Oh,OV,Oj,Ol,Ow,Rt,On,Oa]
 gi_wp2
 gi_loopw [7] (λi wr=>i=.int .i64 0/\J [] wr) (λ_ _=>0)
 case atStart=>exact⟨rfl,g⟩
 case round=>
  obtain⟨rfl,b⟩:=hrel
  gi_wp2
  go_end0;exact⟨⟨_,rfl⟩,b⟩
def vp(F:Fence)(n:NA)(A:F.fn 165)(f:F.round=Ns)(D:1<=n)(Bs n₀:NA)(v:Ny)(a:Nu NH)(w:Nt)(s:Bs<w.heap.size)(hn₀:n₀<=w.heap.size)(I:w.cell? Bs=Nq v)(M:aj 0 n₀ w v a) :SeqStopsK F n Ya 165 #[.pointer (Nq Bs)] (λx:NH=>#[Og .i64 x]) (Below n₀) (λu=>u=a) (λpre=>pre <+: a) a.length w:=λl J P W z _ _ L C=>by
 have g:=(z.cell (p:=⟨Bs,0,Ns⟩) s).t I;obtain⟨base,i,rfl,G,r⟩:=M.cell;by_cases y:a=[]
 ·subst y;exact(vu F n A f l Bs J W base i g C).mono λe O ⟨q,c⟩=>⟨q,.inl ⟨_,rfl,c⟩⟩
 ·obtain⟨B,o,rfl,-,N,h,d⟩:=r y;have b:∀j,j<a.length->W.cell? ⟨B,o+j,Ns⟩=Nq (.int .i64 (a[j]?.getD 0)):=λj c=>(z.cell (p:=⟨B,o+j,Ns⟩) h).t (d j c);refine(zO F n A f D l Bs n₀ B o a.length i a (by omega) N J P L W g b C).mono ?_;rintro e O ⟨q,⟨u,rfl,c⟩ | ⟨pre,⟨k,H,rfl⟩,c⟩⟩
  ·exact⟨q,.inl ⟨_,EF a,c⟩⟩
  ·exact⟨q,.inr ⟨_,by rw[CK a H];exact List.take_prefix _ _,c⟩⟩
def wZ(F:Fence)(n:NA)(X:F.fn 199)(L:F.fn 165)(f:F.round=Ns)(hn:3<=n)(Bs:NA)(t:Ny)(i:Nu NH)(w:Nt)(H:Bs<w.heap.size)(G:w.cell? Bs=Nq t)(I:aj 0 w.heap.size w t i) :CallsIn F n Ya 199 #[.slice Ns 0 0,.func (.func 165) #[] #[.pointer (Nq Bs)]] w λe N=>∃v,e=.returned v/\N.ownsRow w.heap.size 3 1 v i.length (i.map (Og .i64))/\(v=.slice Ns 0 0↔i=[])/\Below w.heap.size w N:=by
 have Y:1<=n:=by omega
 have R:(i.length:NH)<=1000000:=by obtain⟨_,_,_,h,_⟩:=I;exact h
 have⟨O,S,z,y,u⟩:=PM Tp.info3p;refine Vz Tp.x199 rfl X ?_ f;simp only[Tryz.ntmps199,Ox,NQ,NU,Oh,OV,Oj,Ol,Ow,Rt,On,Oa]
 gi_wp2
 have Z:=Boxed.new w 29 (.slice Ns 0 0);have q:Below w.heap.size w (w.alloc (.cells #[.slice Ns 0 0] 29)):=(UA _ w).alloc (Nv _) _;refine wpIn_rangeFunc_ownG f Y (gf:=165) (lb:=#[.pointer (Nq Bs)]) rfl L (enters_of Tp.x165 (by kernel_rfl) rfl)
  (vp F (n - 1) L f (by omega) Bs w.heap.size t i _ (by simp;omega) (by simp) ((q.cell (p:=⟨Bs,0,Ns⟩) H).trans G) (I.alloc _)) belowK_t (belowK_b (by simp)) (UA _ _) (λ_=>rfl)
  (λpre W=>(∃v,Boxed W w.heap.size 29 v/\W.ownsRow w.heap.size 3 1 v pre.length (pre.map (Og .i64))/\(v=.slice Ns 0 0↔pre=[]))/\Below w.heap.size w W)
  (λ_ _ _=>RI)
  (OwnFrom.and (Own.from (holdsRow_own w.heap.size w.heap.size 29 3 1 (λpre=>pre.length) (λpre=>pre.map (Og .i64)) (λpre v=>v=.slice Ns 0 0↔pre=[])) _) (ownFrom_below (Nv _) (by simp)))
  (λ_ _ _ _ _ P _ _=>P)
  ⟨⟨_,Z,PX _ _ _ _,by simp⟩,q⟩
  (λx=>{ tmps:=#[.slice Ns 0 0,.func (.func 165) #[] #[.pointer (Nq Bs)],.pointer (Nq w.heap.size),NG,.slice Ns 0 0,.int .i64 x,.func (.func 165) #[] #[.pointer (Nq Bs)],.int .i64 x,NG,NG,NG,NG,NG],defers:=[] }) ?assign ?body ?done ?stop
 case assign=>
  intro l x W K o
  gi_wp2
  exact o
 case body=>
  rintro l pre x W ⟨⟨v,s,a,d⟩,r⟩ Q;have G:=s.cell
  gi_wp2_with (gi_at_builtin;refine wpListIn_append_own _ rfl _ _ 29 rfl w.heap.size 3 O (.int .i64 0) 1 8 Tp.und29' S z y u rfl (by decide) _ _ _ rfl (a.alloc _) ⟨W.heap.size,0,Ns⟩ 1 1 [.int .i64 x] rfl rfl (cell_one_new _ _ _) (by simp[PT]) (by simp[Rh];omega) (by omega) (by have:=r.size;simp;omega) ?_;intro v' w1 b g _;obtain⟨g',M,rfl⟩:=ownsRow_succ b;have⟨j,A,B,C,k⟩:=s.appended (by decide) a r.size (Nv _) b g;have U:=j.cell;have T:=j.frozen)
  exact⟨C.from _,k,⟨_,A,by simpa using B,by simp⟩,r.trans k⟩
 case done=>
  rintro D ys W V rfl ⟨⟨v,s,a,d⟩,r⟩ o;have G:=s.cell
  gi_wp2
  refine⟨by simp,.inl ⟨_,_,rfl,Vg o,?_⟩⟩;exact⟨_,UE rfl _ _ _,v,rfl,ownsRow_putObj a _ o rfl,d,r.trans (belowK_b (w:=w) (Nv _) W D _ _ (by simp at V;omega) o rfl rfl)⟩
 case stop=>
  rintro D c pre W _ _ h _;exact h.elim
def tI(Bs:NA)(b:Ny)(a:Nu NH)(w:Nt)(c:Bs<w.heap.size)(f:w.cell? Bs=Nq b)(g:aj 0 w.heap.size w b a) :Oz Ya 199 #[.slice Ns 0 0,.func (.func 165) #[] #[.pointer (Nq Bs)]] w λe d=>∃v,e=.returned v/\d.ownsRow w.heap.size 3 1 v a.length (a.map (Og .i64))/\(v=.slice Ns 0 0↔a=[])/\Below w.heap.size w d :=
 (QH (n:=3)).1 (wZ Fence.wide 3 trivial trivial rfl (by omega) Bs b a w c f g)
def jo{w a:Nt}(h:Below w.heap.size w a):w.gb a Ns:=⟨h.os,h.tape,h.output,h.size,λk b _=>h.block k b⟩
def FY{n:NA}{w:Nt}{v:Ny}{l:Nu NH}(h:w.ownsRow n 3 1 v l.length (l.map (Og .i64)))(q:(l.length:NH)<=1000000):∃base B c,v=.slice base l.length c/\n<=B/\mq base B w l/\(v=.slice Ns 0 0\/base≠Ns):=by
 obtain⟨s,⟨rfl,f⟩ | ⟨g,b,a,rfl,o,k,r,hm,p,j⟩⟩:=h
 ·exact⟨Ns,n,0,by rw[f],Nv _,.inr (OZ f),.inl rfl⟩
 ·refine⟨_,g,b,rfl,o,.inl ⟨rfl,a,k,λi d=>?_⟩,.inr (by simp)⟩;have e:(a.toList.take (l.length*1))[i]?=Nq (.int .i64 (l[i]?.getD 0)):=by
   rw[j];simp[ND d]
  rw[Ty] at e;simpa[d] using e
def mq.ints{base:NO OX}{B c n:NA}{w:Nt}{L:Nu NH}(h:mq base B w L)(d:n<=B)(a:(L.length:NH)<=1000000):aj n w.heap.size w (.slice base L.length c) L:=by
 rcases h with⟨rfl,g,b,f⟩ | rfl
 ·exact⟨_,c,rfl,a,λ_=>⟨B,0,g,(0,0),rfl,d,(Nz.1 b).1,b,λi e=>by rw[Oc];exact f i e⟩⟩
 ·exact⟨base,c,rfl,a,λh=>absurd rfl h⟩
def zv(Bs:NA)(d:Ny)(a:Nu NH)(w:Nt)(f:Bs<w.heap.size)(h:w.cell? Bs=Nq d)(j:aj 0 w.heap.size w d a) :Oz Ya 163 #[.func (.func 165) #[] #[.pointer (Nq Bs)]] w λe g=>∃v,e=.returned v/\g.ownsRow w.heap.size 3 1 v a.length (a.map (Og .i64))/\(v=.slice Ns 0 0↔a=[])/\w.gb g Ns:=by
 go_enter Tp.x163,Tryz.ntmps163;go_wp2_with (go_at_call 199;refine(tI Bs d a w f h j).mono ?_;rintro e k ⟨v,rfl,b,c,i⟩);go_ret;exact⟨_,rfl,b,c,jo i⟩
def Am(Bs:NA)(k:Ny)(a:Nu NH)(w:Nt)(n:Bs<w.heap.size)(x:w.cell? Bs=Nq k)(y:aj 0 w.heap.size w k a)(o:a.length<=12) :Oz Ya 134 #[.func (.func 165) #[] #[.pointer (Nq Bs)]] w λe p=>∃v,e=.returned v/\aj w.heap.size p.heap.size p v (cS a.length a)/\(v=.slice Ns 0 0↔cS a.length a=[])/\w.gb p Ns:=by
 have l:(a.length:NH)<=1000000:=by omega
 go_enter Tp.x134,Tryz.ntmps134;go_wp2_with (first
  | (go_at_call 163;refine(zv Bs k a w n x y).mono ?_;rintro e D ⟨v,rfl,b,d,t⟩;obtain⟨base,B,c,rfl,u,f,-⟩:=FY b l;have q:=Np f;have z:=Np d;have A:=Np t;clear b f d t)
  | (go_at_call 164;refine(Mb base B c a _ q o).mono ?_;rintro e C ⟨rfl,i,g⟩;have s:=Np i;have r:=Np g;clear i g))
 go_ret;have h:=mq.ints (c:=c) r u (by rw[jY];omega);rw[jY] at h;refine⟨_,rfl,h,z.trans ⟨λe=>by rw[e];rfl,λe=>?_⟩,A.andThen s (λj e=>by cases e;exact .inl u)⟩;have:=jY a.length a;rw[e] at this;exact OZ this.symm
def lF(l b:Nu NH):Prop:=∀(Bs:NA) (sv:Ny) (w:Nt),Bs<w.heap.size->w.cell? Bs=Nq sv->aj 0 w.heap.size w sv l ->
 Oz Ya 134 #[.func (.func 165) #[] #[.pointer (Nq Bs)]] w λe a=>∃v,e=.returned v/\aj w.heap.size a.heap.size a v b/\(v=.slice Ns 0 0↔b=[])/\w.gb a Ns
def ui{l:Nu NH}(a:l.length<=12):lF l (cS l.length l):=λBs b w e d c=>Am Bs b l w e d c a
def Da{l:Nu NH}(a:l.length<=12)(b:∀i,i+1<l.length->l[i]?.getD 0<=l[i+1]?.getD 0):lF l l:=by
 have:=ui a
 rwa [rP b _ (Nv _)] at this
end
section
open Go.RowKit
def kA{A C E:Nt}{r:NA}(h:A.gb C Ns)(k:C.gb E (Nq r))(a:A.heap.size<=r):A.gb E Ns:=h.andThen k (λj e=>by cases e;exact .inl a)
def LZ{ll f:Nu NH}{b:NO OX}{c:NA}{Q:Pl}{dO:NJ Ny}{I:Nu (Nu NH)->(NA->Prop)->Nt->Prop}{W:Nt}(cb:Cb W.heap.size f Q dO I)(d5:f.length<=1000)(hS:lF ll f)(hI:aj 0 W.heap.size W (.slice b ll.length c) ll){G:NA->Prop}(h0:I [] G W) :Oz Ya 82 #[.slice b ll.length c,.func (.func Q) #[] dO] W λe W'=>e=.returned (.bool NC)/\∃G',I (eZ f 0) G' W':=by
 obtain⟨d,g⟩:∃d,d=W.heap.size:=⟨_,rfl⟩;obtain⟨p,l⟩:∃p,p=(W.alloc (.cells #[.slice b ll.length c] 29)).alloc (.cells #[.func (.func Q) #[] dO] 51):=⟨_,rfl⟩;have s:W.gb p Ns:=by rw[l];exact(Nr _ _ Ns).trans (Nr _ _ Ns)
 have l1:p.heap[d]?=Nq (.cells #[.slice b ll.length c] 29 (0,0)):=by rw[l,g];exact aE (NL W _)
 have e1:p.heap[d+1]?=Nq (.cells #[.func (.func Q) #[] dO] 51 (0,0)):=by
  rw[l];have:=NL (W.alloc (.cells #[.slice b ll.length c] 29)) (.cells #[.func (.func Q) #[] dO] 51);rw[NW,<- g] at this;exact this
 have U:p.heap.size=d+2:=by rw[l,NW,NW,g]
 have c1:p.cell? d=Nq (.slice b ll.length c):=aa l1 rfl;have z1:=aA (o:=0) l1;have V:d<p.heap.size:=by omega
 have h9:=Np ((hI.kept s).mono (Nv _) s.size);have⟨e9,A,p8,k5,g7,k7,HH⟩:=AH l g U s l1 e1 h0;clear l g U s l1 e1 hI h0;go_enter Tp.x82,Tryz.ntmps82;go_upto_region 1 with(fail);rw[<- A,<- e9];go_upto_region 2 with(first
  | (go_at_call 135;refine(my _ _ _ _).mono ?_;rintro e w2 ⟨rfl,rfl⟩)
  | (go_at_call 134;refine(hS p.heap.size (.slice b ll.length c) _ (by simp) (by rw[il];rfl) ((h9.alloc _).mono (Nv _) (by simp))).mono ?_;rintro e w2 ⟨v,rfl,M,D,r⟩;obtain⟨T,S,rfl,-,-⟩:=M.cell;have c2:=(((Nr p (.cells #[.slice b ll.length c] 29) Ns).trans r).cl c1);have z2:=(((Nr p (.cells #[.slice b ll.length c] 29) Ns).trans r).frozen_far _ V (by simp)).trans z1;have h8:=Np M;have P:=Np ((Nr p (.cells #[.slice b ll.length c] 29) Ns).trans r);have p9:=Np D;clear M D r))
 obtain⟨O,u⟩:∃O,O=w2.setCell d (.slice T f.length S):=⟨_,rfl⟩;rw[<- u];have i:=an w2 d 0 (.slice T f.length S);rw[<- u] at i;have l4:O.heap[d]?=Nq (.cells #[.slice T f.length S] 29 (0,0)):=by rw[u,ar (bk P g7)];rfl
 have e4:=blk (X:=d+1) i (by simp) (bk P k7);have i4:=(h8.kept i (λR e=>by cases e;left;rw[NW];omega)).mono (show W.heap.size<=_ by rw[NW];have:=A.out;omega) i.size;have g4:W.gb O Ns:=kA (k5.trans P) i (by rw[A];exact Nv _);have⟨g6,k6,b6,b7⟩:=cJ l4 e4 i4 g4;clear u i l4 e4 i4 g4 c1 z1 c2 z2;have n2:∀(a:OX) (fn:Fn) (x y:NJ Ny) (m:Mode) (w:Nt),(store a (.func fn x y) m).run Ya w=stored Ya w a (.func fn x y) m:=λa fn x y m w=>run_store _ w a _ m rfl;go_upto_region 4 with(fail);obtain⟨C,z⟩:∃C,C=O.heap.size:=⟨_,rfl⟩;obtain⟨N,t⟩:∃N,N=O.alloc (.cells #[.func (.func 136) #[] #[.pointer (Nq (d+1:NA)),.pointer (Nq d),.pointer (Nq C)]] 151):=⟨_,rfl⟩;rw[<- z,<- t];have j:O.gb N Ns:=by rw[t];exact Nr _ _ Ns
 have p5:N.heap[C]?=Nq (.cells #[.func (.func 136) #[] #[.pointer (Nq (d+1:NA)),.pointer (Nq d),.pointer (Nq C)]] 151 (0,0)):=by rw[t,z];exact NL _ _
 have q:∀k,W.heap.size<=k->¬ G k:=λk hk h=>by have:=cb.hlt _ _ _ HH k h;omega
 have g:=A.out;have a8:W.heap.size<=C:=by rw[z];exact b7.size
 have H:pT W.heap.size (d+1) d C T S f Q dO G N:=by
  refine⟨bk j k6,bk j g6,⟨(b6.kept j).mono (Nv _) j.size,λB o n c' e d6 hg=>?_⟩,p5,⟨by omega,by omega,a8⟩,q _ (by omega),q _ (by omega),q _ a8⟩;have⟨base,p3,e',hl,hr⟩:=b6.out;cases e';have⟨B',o',cs,fr,e1,e2,e3,e4,e5⟩:=hr d6;cases e;cases e1;exact q _ e2 hg
 have a7:=cb.hI _ _ _ _ HH (b7.trans j);have⟨g5,g9⟩:=aQ H a7;have m8:IntKind.i64.wrap ((f.length:NH)+1)=((f.length+1:NA):NH):=by rw[Ov _ (by omega)];rfl
 have cL:N.cell? d=Nq (.slice T f.length S):=aa H.ls rfl;clear H a7 p5 j t z q g;go_wp2;go_loopw [14] (λiv wr=>∃k:NA,iv=.int .i64 k/\k<=f.length+1/\∃Gk L,eZ f 0=L++eZ f k/\I L Gk wr/\Bod W.heap.size W.heap.size G Gk N wr) (λiv _=>(f.length+1 - OP iv).toNat)
 case atStart=>exact⟨0,rfl,by omega,G,[],rfl,g9,eB (NN _ _)⟩
 case round=>
  obtain⟨k,rfl,hk,Gk,L,hL,a6,F⟩:=hrel;have a9:=Np (g5.bod F);have⟨HL,b0,k8⟩:=bC hL a6 F;clear hL a6 F cL;have c1:wr.cell? C=Nq (.func (.func 136) #[] #[.pointer (Nq (d+1:NA)),.pointer (Nq d),.pointer (Nq C)]):=aa a9.gr rfl;by_cases Y:k<f.length+1
  ·have l8:(k:NH)<(f.length:NH)+1:=by omega
   have m9:IntKind.i64.wrap ((k:NH)+1)=((k+1:NA):NH):=by rw[Ov _ (by omega)];rfl
   have Z:=Kk cb d5 k [] 0 Ns 0 wr Gk L (by simp;omega) (by omega) (by simp) a9 ⟨aj.nil _ _ _,λB o n c e=>by cases e⟩ (.inr rfl) (by simp) ⟨_,by rw[HL,oC Y]⟩ b0;have k0:=Np Z;clear Z;go_wp2_with (go_at_call 136;refine(k0).mono ?_;rintro e w6 ⟨rfl,G6,d8,d7⟩);go_roundw
   case rel=>exact⟨k+1,by simp,by omega,G6,L++cM f k [] 0,by rw[HL,oC Y,Qv],d8,k8.trans d7⟩
   case measure=>simp[OP];omega
  ·obtain rfl:k=f.length+1:=by omega
   go_wp2;go_ret;exact⟨rfl,Gk,by rw[HL,xK (Nv _),SV];exact b0⟩
end
section
open Go.RowKit
def ez(x b:Nu NH):OI:=decide (cU x b<0)
def uW(g i f h:NA)(d c:Ny)(a b:Nu NH)(w:Nt)(l:aj g i w d a)(k:aj f h w c b) :Oz Ya 99 #[d,c] w λe j=>e=.returned (.bool (ez a b))/\w=j:=pO g i f h d c a b w l k
def MG(L:NA)(s:OI)(d c:Ny)(a x:Nu NH)(w b:Nt):Prop :=
 w.gb b (Nq L)/\b.heap[L]?=Nq (.cells #[.func (.func 99) #[] #[],if s=NB/\ez x a=NC then d else c,.bool NB] 108 (0,0))
def CM(L:NA)(s:OI)(k g:Ny)(a x:Nu NH)(w:Nt)(c:w.heap[L]?=Nq (.cells #[.func (.func 99) #[] #[],k,.bool s] 108 (0,0)))(j:aj 0 w.heap.size w k a)(i:aj 0 w.heap.size w g x) :Oz Ya 103 #[.pointer (Nq L),g] w λe q=>e=.returned (.tuple #[])/\MG L s k g a x w q:=by
 obtain⟨z,y,rfl,-,-⟩:=j.cell;obtain⟨f,d,rfl,-,-⟩:=i.cell;have v:w.cell? L=Nq (.func (.func 99) #[] #[]):=aa c rfl;have u:w.cell? ⟨L,1,Ns⟩=Nq (.slice z a.length y):=aa c rfl;have r:w.cell? ⟨L,2,Ns⟩=Nq (.bool s):=aa c rfl;have B:w.frozen? ⟨L,1,Ns⟩=NC:=aA c;have A:w.frozen? ⟨L,2,Ns⟩=NC:=aA c;have⟨l,o,n⟩:=bC c j i;have C:=Np (NY v (NY u r));clear c j i;go_enter Tp.x103,Zr;cases s with
 | false=>
  go_wp2_with (fail);go_quiet (fail);go_wp2;go_end0;refine⟨rfl,((ax _ _ _).t (an _ _ _ _)).t (an _ _ _ _),?_⟩;rw[if_neg (by simp ),ar (show((w.drewN nq).setCell ⟨L,1,Ns⟩ (.slice f x.length d)).heap[L]?=Nq (.cells #[.func (.func 99) #[] #[],.slice f x.length d,.bool NC] 108 (0,0)) by rw[ar (show(w.drewN nq).heap[L]?=_ from l)];rfl)];rfl
 | true=>
  cases hl:ez x a with
  | true=>
   have b:=Np hl;clear hl;go_wp2_with (fail);go_quiet (first | (go_at_call 99;refine Qc ((uW 0 w.heap.size 0 w.heap.size _ _ x a _ (n.kept (ax _ _ Ns)) (o.kept (ax _ _ Ns))).mono (λe p h=>⟨by rw[h.1,b],h.2.symm⟩))));go_wp2;go_end0;refine⟨rfl,((ax _ _ _).t (an _ _ _ _)).t (an _ _ _ _),?_⟩;rw[if_neg (by simp[b.out]),ar (show((w.drewN nq).setCell ⟨L,1,Ns⟩ (.slice f x.length d)).heap[L]?=Nq (.cells #[.func (.func 99) #[] #[],.slice f x.length d,.bool NB] 108 (0,0)) by rw[ar (show(w.drewN nq).heap[L]?=_ from l)];rfl)];rfl
  | false=>
   have b:=Np hl;clear hl;go_wp2_with (fail);go_quiet (first | (go_at_call 99;refine Qc ((uW 0 w.heap.size 0 w.heap.size _ _ x a _ (n.kept (ax _ _ Ns)) (o.kept (ax _ _ Ns))).mono (λe p h=>⟨by rw[h.1,b],h.2.symm⟩))));go_wp2;go_end0;refine⟨rfl,(ax _ _ _),?_⟩;rw[if_pos ⟨rfl,b⟩];exact l
def rR(l:Nu NH)(x:NH):NH:=if x∈l then((l.takeWhile λy=>y != x).length:NH) else -1
def LX{l:Nu NH}{x:NH}{k:NA}(h:l[k]?=Nq x)(b:∀i,i<k->l[i]?≠Nq x):(l.takeWhile λy=>y != x).length=k:=by
 induction l generalizing k with
 | nil=>simp at h
 | cons a t c=>
  cases k with
  | zero=>simp at h;subst h;simp
  | succ k=>
   have d:a≠x:=λe=>b 0 (by omega) (by simp[e]);rw[Ub (by simpa using d),NQ,c (by simpa using h) (λi f e=>b (i+1) (by omega) (by simpa using e))]
def GG(b:NO OX)(c:NA)(l:Nu NH)(x:NH)(w:Nt)(F:(l.length:NH)<=1000000)(A:l≠[]->∃B o,b=Nq ⟨B,o,Ns⟩/\∀i,i<l.length->w.cell? ⟨B,o+i,Ns⟩=Nq (.int .i64 (l[i]?.getD 0))):Oz Ya 147 #[.slice b l.length c,x] w λe C=>e=.returned (.int .i64 (rR l x))/\w=C:=by
 have G:=Np A;clear A;go_enter Tp.x147,Tryz.ntmps147;go_wp2;go_loopw [8] (λq wr=>∃k:NA,q=.int .i64 k/\k<=l.length/\(∀i,i<k->l[i]?≠Nq x)/\w=wr) (λq _=>(l.length - OP q).toNat)
 case atStart=>exact⟨0,rfl,by omega,λi p=>by omega,rfl⟩
 case round=>
  obtain⟨k,rfl,H,j,rfl⟩:=hrel;have f:=Np j;clear j;by_cases d:k<l.length
  ·obtain⟨B,o,rfl,n⟩:=G.out (by intro e;rw[e] at d;simp at d);obtain⟨y,r⟩:∃y,l[k]?=Nq y:=⟨_,ND d⟩;have v:=n k d;rw[r] at v;simp only[NK] at v;have z:(k:NH)<(l.length:NH):=by omega
   have s:=Np r;clear n r;by_cases a:x=y
   ·subst a;have g:rR l x=(k:NH):=by
     unfold rR;rw[if_pos (Od s),LX s f]
    have u:=Np g;clear g;go_wp2;go_ret;exact⟨by rw[u];rfl,by first | rfl | trivial⟩
   ·have D:(x == y)=NC:=by simpa using a
    have t:=Np a;clear a;go_wp2;go_roundw
    case rel=>
     refine⟨k+1,by simp,by omega,λi p e=>?_,by first | rfl | trivial⟩;by_cases h:i=k
     ·subst h;rw[s] at e;cases e;exact t rfl
     ·exact f i (by omega) e
    case measure=>simp[OP];omega
  ·obtain rfl:k=l.length:=by omega
   have g:rR l x=-1:=by
    unfold rR;rw[if_neg];intro hm;have⟨i,p⟩:=Vs hm;exact f i (NT.1 p).1 p
   have u:=Np g;clear g;go_wp2;go_ret;exact⟨by rw[u];rfl,by first | rfl | trivial⟩
attribute [local go_sem] AV wK
def Hv(B o f:NA)(H:NZ)(z:NJ Ny)(N:NA × NA)(l:Nu NH)(w:Nt)(y:w.heap[B]?=Nq (.cells z H N))(v:∀i,i<l.length->z[o+i]?=Nq (.int .i64 (l[i]?.getD 0)))(I:l.length<=1000) :Oz Ya 84 #[.slice (Nq ⟨B,o,Ns⟩) l.length f] w λe r=>∃s,e=.returned s/\w.gb r Ns/\aj w.heap.size r.heap.size r s l:=by
 have⟨D,q,k,h,g⟩:=PM Tp.info3p;by_cases F:l=[]
 ·subst F;show Oz Ya 84 #[.slice (Nq ⟨B,o,Ns⟩) 0 f] w _;clear y v I;go_enter Tp.x84,WH;go_wp2_with (at_builtin;(refine Rv _ rfl _ _ 29 rfl w.heap.size 3 D _ 1 8 Tp.und29' q k h g rfl (by decide) (.slice (Nq w.heap.size) 0 0) 0 [] rfl ⟨rfl,.inr ⟨_,0,#[],rfl,Nv _,NL _ _,Nv _,by decide,rfl,rfl⟩⟩ ⟨B,o,Ns⟩ 0 f [] rfl rfl (by intro j u b;simp at b) (by intro u b;simp at b) (by decide) (by omega) (by simp) ?_);intro s Q d a _;have A:=Np d;have C:=Np a;clear d a);go_ret;refine⟨_,rfl,(Nr _ _ Ns).andThen C (λj e=>.inl ?_),rQ (n:=0) (by simpa using A.out) (by simp) (Nv _)⟩;simp[OG] at e;omega
 have p:0<l.length:=Ru.2 F;have O:=Np (show ∀j u,(l.map (Og .i64))[j]?=Nq u->z[o+j]?=Nq u from λj u b=>by
  rw[Pa] at b;cases hj:l[j]? with
  | none=>rw[hj] at b;cases b
  | some x=>
   rw[hj] at b;cases b;have t:=(NT.1 hj).1;have:=v j t;rw[hj] at this;exact this)
 have P:=Np y;clear v y;go_enter Tp.x84,WH;go_wp2_with (at_builtin;(refine VO _ (by rfl) _ _ _ (by rfl) w.heap.size 3 D _ 1 8 Tp.und29' q k h g rfl (by omega) (.slice (Nq w.heap.size) 0 0) 0 [] (by rfl) ⟨by simp,.inr ⟨w.heap.size,0,#[],rfl,by omega,NL w _,by omega,by unfold Rh;omega,by simp,by simp⟩⟩ ⟨B,o,Ns⟩ l.length f (l.map (Og .i64)) (by rfl) (by simp) (λj u b=>dU (aa (aE P) (O j u b))) (by intro u b;simp at b;obtain⟨x,_,rfl⟩:=b;rfl) p (by unfold Rh;omega) (by omega) (by simp) (w.heap.size+1) (by simp) ?_);intro S G R c a M L;have C:=Np a;have A:=Np c;clear a c);go_ret;refine⟨_,rfl,(Nr _ _ Ns).andThen C (λj e=>.inl ?_),rQ (n:=0+l.length) (by simpa using A.out) (by omega) (Nv _)⟩;simp[OG] at e;omega
def bB(s:Nu NH):Nu NH:=s.takeWhile λy=>y != -1
def DJ{s:Nu NH}(h:s.length=5):∃a b c d e,s=[a,b,c,d,e]:=by
 rcases s with _ | ⟨k,_ | ⟨j,_ | ⟨i,_ | ⟨g,_ | ⟨f,_ | ⟨l,t⟩⟩⟩⟩⟩⟩<;>simp at h;exact⟨k,j,i,g,f,rfl⟩
def Bv(s:Nu NH)(p:NH->OI):s.take (s.takeWhile p).length=s.takeWhile p:=by
 induction s with
 | nil=>rfl
 | cons a t b=>
  by_cases h:p a=NB
  ·rw[Ub h,NQ,List.take_succ_cons,b]
  ·rw[List.takeWhile_cons_of_neg h];rfl
def tM(s:Nu NH)(p:NH->OI):(s.takeWhile p).length<=s.length:=by
 rw[<- Bv s p,Qt];omega
def Kz{s:Nu NH}{x:NH}(h:x∉s):s.takeWhile (λy=>y != x)=s:=by
 induction s with
 | nil=>rfl
 | cons a t b=>
  rw[Ub (by simp at h ⊢;exact λe=>h.1 e.symm),b (by simp at h;exact h.2)]
def Gt(s:Nu NH)(G:s.length=5)(w:Nt):Oz Ya 113 #[A5 s] w λe b=>∃v,e=.returned v/\w.gb b Ns/\aj w.heap.size b.heap.size b v (bB s):=by
 obtain⟨j,q⟩:∃j,j=w.heap.size:=⟨_,rfl⟩;obtain⟨f,c⟩:∃f,f=w.alloc (.cells (s.map (Og .i64)).toArray 118):=⟨_,rfl⟩;have A:w.gb f Ns:=by rw[c];exact Nr _ _ Ns
 have o:f.heap[j]?=Nq (.cells (s.map (Og .i64)).toArray 118 (0,0)):=by rw[c,q];exact NL _ _
 have l:∀i,i<s.length->(s.map (Og .i64)).toArray[i]?=Nq (.int .i64 (s[i]?.getD 0)):=λi u=>by simp[u]
 have z:∀a,f.gb a Ns->Oz Ya 147 #[.slice (Nq j) 5 5,.int .i64 (-1)] a λe b=>e=.returned (.int .i64 (rR s (-1)))/\a=b:=λa h=>by
  have:=GG (Nq ⟨j,0,Ns⟩) 5 s (-1) a (by omega) (λ_=>⟨j,0,rfl,λi u=>aa (bk h o) (by rw[Oc];exact l i u)⟩)
  rwa [G] at this
 obtain⟨n,x⟩:∃n,n=(bB s).length:=⟨_,rfl⟩;have S:n<=5:=by rw[x];have:=tM s (λy=>y != -1);unfold bB;omega
 have B:∀a,f.gb a Ns->Oz Ya 84 #[.slice (Nq j) n 5] a λe b=>∃H,e=.returned H/\a.gb b Ns/\aj a.heap.size b.heap.size b H (bB s):=λa h=>by
  rw[x];refine Hv j 0 5 118 _ (0,0) (bB s) a (bk h o) (λi u=>?_) (by omega);rw[Oc,l i (by omega)];unfold bB;rw[<- Bv s (λy=>y != -1),PI (by unfold bB at u;exact u)]
 have g:(rR s (-1)=(n:NH)/\(-1:NH)∈s)\/(rR s (-1)=-1/\n=5):=by
  by_cases hm:(-1:NH)∈s
  ·left;refine⟨?_,hm⟩;unfold rR;rw[if_pos hm,x];rfl
  ·right;refine⟨by unfold rR;rw[if_neg hm],?_⟩;rw[x];unfold bB;rw[Kz hm,G]
 have⟨r,D,d,C,F⟩:=nW z B A c q;clear z B A o c q l x;generalize rR s (-1)=ix at g r;have L:A5 s=.agg (s.map (Og .i64)).toArray:=rfl;rw[L];clear L;obtain⟨Q,P,O,N,M,rfl⟩:=DJ G;rcases g with⟨rfl,-⟩ | ⟨rfl,rfl⟩
 ·go_enter Tp.x113,Zu;go_upto_region 1 with(fail);rw[<- F,show w.alloc (.cells #[Q,P,O,N,M] 118)=f from C.symm];have T:(0:NH)<=(n:NH):=by omega
  have I:(n:NH)<=5:=by omega
  go_wp2_with (first
   | (go_at_call 147;refine(r _ (NN _ _)).mono ?_;rintro e a ⟨rfl,rfl⟩)
   | (go_at_call 84;refine(D _ (NN _ _)).mono ?_;rintro e R ⟨v,rfl,k,p⟩))
  go_ret;exact⟨_,rfl,d.t k,p.mono d.size (Nv _)⟩
 ·go_enter Tp.x113,Zu;go_upto_region 1 with(fail);rw[<- F,show w.alloc (.cells #[Q,P,O,N,M] 118)=f from C.symm];go_wp2_with (first
   | (go_at_call 147;refine(r _ (NN _ _)).mono ?_;rintro e a ⟨rfl,rfl⟩)
   | (go_at_call 84;refine(D _ (NN _ _)).mono ?_;rintro e R ⟨v,rfl,k,p⟩))
  go_ret;exact⟨_,rfl,d.t k,p.mono d.size (Nv _)⟩
def bp(l:Nu NH):Nu NH:=l++Zf (5 - l.length) (-1)
def jH{l:Nu NH}(h:l.length<=5):(bp l).length=5:=by simp[bp];omega
def po(lo hi:NA)(v:Ny)(l:Nu NH)(w:Nt)(hI:aj lo hi w v l)(hl:l.length<=5):Oz Ya 112 #[v] w λe w'=>e=.returned (A5 (bp l))/\w.gb w' Ns:=by
 obtain⟨b,c,rfl,d8,hc⟩:=hI.cell;have HC:=Np hc;have F:(Ya.info? 3).map (·.size)=Nq 1:=by kernel_rfl
 obtain⟨R,O⟩:∃R,R=w.heap.size:=⟨_,rfl⟩;clear hc hI;go_enter Tp.x112,Tryz.ntmps112;go_upto_region 2 with(fail);obtain⟨r,n⟩:∃r,r=w.alloc (.cells #[.int .i64 0,.int .i64 0,.int .i64 0,.int .i64 0,.int .i64 0] 118):=⟨_,rfl⟩;obtain⟨g,i⟩:∃g,g=r.alloc (.cells #[.int .i64 (-1),.int .i64 (-1),.int .i64 (-1),.int .i64 (-1),.int .i64 (-1)] 118):=⟨_,rfl⟩;rw[<- O,show(w.alloc (.cells #[.int .i64 0,.int .i64 0,.int .i64 0,.int .i64 0,.int .i64 0] 118)).alloc (.cells #[.int .i64 (-1),.int .i64 (-1),.int .i64 (-1),.int .i64 (-1),.int .i64 (-1)] 118)=g by rw[i,n]];have y:r.heap.size=R+1:=by rw[n,NW,O]
 have G:g.heap.size=R+2:=by rw[i,NW,y]
 have M:w.gb r Ns:=by rw[n];exact Nr _ _ Ns
 have z:r.gb g Ns:=by rw[i];exact Nr _ _ Ns
 have I:r.heap[R]?=Nq (.cells #[.int .i64 0,.int .i64 0,.int .i64 0,.int .i64 0,.int .i64 0] 118 (0,0)):=by rw[n,O];exact NL _ _
 have N:g.heap[R+1]?=Nq (.cells ([.int .i64 (-1),.int .i64 (-1),.int .i64 (-1),.int .i64 (-1),.int .i64 (-1)]:Nu Ny).toArray 118 (0,0)):=by rw[i,<- y];exact NL _ _
 have H:=bk z I;have⟨C,Q⟩:=aQ N H;have f:=Np (M.t z);have⟨e8,HR⟩:=aQ G O;clear n i y M z I N H G O;have T:=Q.out;obtain⟨D,e6,d,p⟩:∃D,(VY #[29,29] 3 #[.slice (Nq (R+1:NA)) 5 5,.slice b l.length c]).run Ya g=.ok (goInt l.length) D/\D.heap[R+1]?=Nq (.cells ((bp l).map (Og .i64)).toArray 118 (0,0))/\Below (R+1) g D:=by
  by_cases h0:l=[]
  ·subst h0;exact⟨g,run_copy_none (P:=Ya) g 29 29 3 3 _ _ 5 5 0 c Tp.und29' F rfl,by rw[C];rfl,UA _ _⟩
  ·obtain⟨B,o,rfl,-,e7,-,A⟩:=HC.out h0;have Z:=run_copy_row (P:=Ya) g 29 29 3 3 (R+1) 0 5 5 ⟨B,o,Ns⟩ l.length c _ 118 (l.map (Og .i64)) Tp.und29' F C (by rw[Ql];show l.length=min l.length 5;omega) (λj v L=>by
    rw[Pa] at L;cases hx:l[j]? with
    | none=>rw[hx] at L;cases L
    | some x=>
     rw[hx] at L;cases L;have h1:=A j (NT.1 hx).1;rw[hx] at h1;exact dU (f.cl h1)) (by simp;omega) (by intro u Y;simp at Y;obtain⟨x,_,rfl⟩:=Y;rfl)
   rw[Ql] at Z;refine⟨_,Z,?_,below_setRow (UA _ _) (Nv _) _⟩;rw[setRow_heap g (R+1) _ _ 118 _ C];unfold bp;have:∀k,k<=5->([.int .i64 (-1),.int .i64 (-1),.int .i64 (-1),.int .i64 (-1),.int .i64 (-1)]:Nu Ny).drop k=(Zf (5 - k) (-1)).map (Og .i64):=by
    intro k hk;obtain rfl | rfl | rfl | rfl | rfl | rfl:k=0\/k=1\/k=2\/k=3\/k=4\/k=5:=by omega
    all_goals rfl
   simp[this _ hl]
 have⟨a0,a1,a2,a3,a4,W⟩:=DJ (jH hl);rw[W] at d;have E5:=Np W;have a:=(p.block R (by omega)).t Q;have c0:=aa d (o:=0) rfl;have c1:=aa d (o:=1) rfl;have c2:=aa d (o:=2) rfl;have c3:=aa d (o:=3) rfl;have c4:=aa d (o:=4) rfl;have d0:=aa a (o:=0) rfl;have d1:=aa a (o:=1) rfl;have d2:=aa a (o:=2) rfl;have d3:=aa a (o:=3) rfl;have d4:=aa a (o:=4) rfl;have z0:=aA a (o:=0);have z1:=aA a (o:=1);have z2:=aA a (o:=2);have z3:=aA a (o:=3);have z4:=aA a (o:=4);have⟨X,q⟩:=aQ a p;clear a p W T;go_wp2;obtain⟨S,s⟩:∃S,S=((((D.setCell R (.int .i64 a0)).setCell ⟨R,1,Ns⟩ (.int .i64 a1)).setCell ⟨R,2,Ns⟩ (.int .i64 a2)).setCell ⟨R,3,Ns⟩ (.int .i64 a3)).setCell ⟨R,4,Ns⟩ (.int .i64 a4):=⟨_,rfl⟩;rw[<- s];have hrf:S.heap[R]?=Nq (.cells #[a0,a1,a2,a3,a4] 118 (0,0)):=by
  rw[s,ar (ar (ar (ar (ar X))))];rfl
 have V:w.gb D Ns:=⟨q.os.trans f.os,q.tape.trans f.tape,q.output.trans f.output,NM f.size q.size,λk hk _=>(q.block k (by have:=HR.out;omega)).t (f.block k hk (by simp))⟩;have U:w.gb S Ns:=by
  rw[s];have h:=HR.out;exact kA (kA (kA (kA (kA V (an _ _ _ _) (by omega)) (an _ _ _ _) (by omega)) (an _ _ _ _) (by omega)) (an _ _ _ _) (by omega)) (an _ _ _ _) (by omega)
 have e0:=aa hrf (o:=0) rfl;have e1:=aa hrf (o:=1) rfl;have e2:=aa hrf (o:=2) rfl;have e3:=aa hrf (o:=3) rfl;have e4:=aa hrf (o:=4) rfl;refine Qi (v:=A5 (bp l)) ?_ rfl ⟨rfl,U⟩;rw[E5];simp[Qo,Tryz.results112,go_sem,OA,hrf,A5]
end
section
open Go.RowKit
structure jB where
 Bl:NA
 By:NA
 Bn:NA
 Bu:NA
 Bg:NA
 Bp:NA
 n1:NA
 l:NA
 ws:Nu NH
 lb:NO OX
 lc:NA
 J:Nu (Nu NH × Ny)->(NA->Prop)->Nt->Prop
 Jx:Nu (Nu NH × Ny)->(NA->Prop)->Nt->Prop
 T:Nu (Nu NH)
def Pfx(X:jB)(pre:Nu (Nu NH × Ny))(L:Nu (Nu NH)):Prop:=∃t,X.T=pre.map Su++(L++t)
def xpI(x:Nu NH × Ny)(A:Nt):Prop:=aj 0 A.heap.size A x.2 x.1
def xpO(a:Nu NH)(x:Nu NH × Ny)(A:Nt):Prop:=xpI x A/\x.1.length=a.length/\x.1.Nodup/\(∀y∈x.1,y∈a)/\(x.1≠[]\/x.2=.slice Ns 0 0)
structure pU(X:jB):Prop where
 hlt:∀s G A,X.J s G A->∀k,G k->k<A.heap.size
 bl:X.Bl<X.n1
 b1:X.n1<=X.By
 b2:X.By<X.Bn
 b3:X.Bn<X.Bu
 b4:X.Bu<X.Bg
 b5:X.Bg<X.Bp
 hJ:∀s G A C,X.J s G A->Stp X.n1 X.Bl G A C->X.J s G C
 hJx:∀s G A C,X.Jx s G A->Stp X.n1 X.Bl G A C->X.Jx s G C
 five:∀x∈X.ws,0<=x/\x<5
 nd:X.ws.Nodup
 len:X.ws.length<=5
 hY:∀m pre G x A,X.J pre G A->xpO X.ws x A->Pfx X pre [x.1]->YieldAt Fence.wide m Ya X.l #[x.2] A λe C=>
   ∃G',(e=.returned (.bool NB)/\X.J (pre++[x]) G' C/\Bod X.n1 X.Bl G G' A C)\/(e=.returned (.bool NC)/\X.Jx (pre++[x]) G' C/\Bod X.n1 X.Bl G G' A C)
def ptA(b:NA):Ny:=.pointer (Nq b)
structure It3(X:jB)(p:Nu NH)(G:NA->Prop)(W:Nt)(lb:NO OX)(lc:NA)(nv:Ny):Prop where
 ls:W.heap[X.Bl]?=Nq (.cells #[.slice lb X.ws.length lc] 29 (0,0))
 li:aj X.n1 W.heap.size W (.slice lb X.ws.length lc) X.ws
 lf:∀B o,lb=Nq ⟨B,o,Ns⟩->X.ws≠[]->¬ G B
 yl:W.heap[X.By]?=Nq (.cells #[.func (.yield X.l) #[] #[]] 51 (0,0))
 us:W.heap[X.Bu]?=Nq (.cells #[.int .u8 (bL p:NA)] 130 (0,0))
 gr:W.heap[X.Bg]?=Nq (.cells #[.func (.func 154) #[] #[ptA X.Bn,ptA X.Bl,ptA X.By,ptA X.Bu,ptA X.Bp]] 31 (0,0))
 pu:W.heap[X.Bp]?=Nq (.cells #[.func (.func 150) #[] #[ptA X.Bn,ptA X.Bu,ptA X.Bg]] 82 (0,0))
 nw:W.heap[X.Bn]?=Nq (.cells #[nv] 29 (0,0))
 no:W.ownsRow X.n1 3 1 nv p.length (p.map (Og .i64))
 nr:∀g,nv.ownBlock=Nq g->¬ G g/\∀B o,lb=Nq ⟨B,o,Ns⟩->X.ws≠[]->B≠g
 nn:p=[]->X.ws=[]->nv=.slice Ns 0 0
 nf:¬ G X.Bl/\¬ G X.By/\¬ G X.Bn/\¬ G X.Bu/\¬ G X.Bg/\¬ G X.Bp
def xd(X:jB)(p:Nu NH)(G:NA->Prop)(W:Nt):Prop:=∃a,It3 X p G W X.lb X.lc a
def aX(a:Nu NH):NA->Nu NH->Nu (Nu NH)
 | 0,p=>[p]
 | m+1,p=>a.flatMap λn=>if n∈p then[] else aX a m (p++[n])
def Is(X:jB)(W:Nt)(k:NA):Prop:=∃v a b,W.heap[X.Bn]?=Nq (.cells #[v] a b)/\v.ownBlock=Nq k
structure ItR(X:jB)(G G':NA->Prop)(A C:Nt):Prop where
 tape:C.tape=A.tape
 size:A.heap.size<=C.heap.size
 keep:∀k,k<A.heap.size->(X.n1<=k\/k=X.Bl)->¬ G k->k≠X.Bn->k≠X.Bu->¬ Is X A k->C.heap[k]?=A.heap[k]?
 fp:∀k,G' k->G k\/A.heap.size<=k
 row:∀k,Is X C k->Is X A k\/A.heap.size<=k
def ItR.refl(X:jB)(G:NA->Prop)(A:Nt):ItR X G G A A:=⟨rfl,Nv _,λ_ _ _ _ _ _ _=>rfl,λ_ h=>.inl h,λ_ h=>.inl h⟩
def ItR.trans{X:jB}{G n c:NA->Prop}{A C E:Nt}(h:ItR X G n A C)(k:ItR X n c C E):ItR X G c A E :=
 ⟨k.tape.trans h.tape,NM h.size k.size,λj a d f l i g=>(k.keep j (NX a h.size) d (λe=>(h.fp j e).elim f (by omega)) l i (λe=>(h.row j e).elim g (by omega))).t (h.keep j a d f l i g),
  λj a=>(k.fp j a).elim (h.fp j) (λe=>.inr (NM h.size e)),λj a=>(k.row j a).elim (h.row j) (λe=>.inr (NM h.size e))⟩
def RgB(X:jB)(p:Nu NH)(L:Nu (Nu NH))(pre:Nu (Nu NH × Ny))(G:NA->Prop)(W:Nt)(b:OI)(c:Nt):Prop :=
 ∃d,xd X p d c/\ItR X G d W c/\(if b=NB then ∃a,a.map Su=L/\X.J (pre++a) d c else ∃a t,L=a.map Su++t/\X.Jx (pre++a) d c)
def Rg(X:jB)(p:Nu NH)(L:Nu (Nu NH))(pre:Nu (Nu NH × Ny))(G:NA->Prop)(W:Nt)(e:Ending)(a:Nt):Prop:=∃b,e=.returned (.bool b)/\RgB X p L pre G W b a
def aJ{w:Nt}{k:NA}{o:Obj}(h:w.heap[k]?=Nq o):k<w.heap.size:=(Nz.1 h).1
def gG{w:Nt}{b n:NA}{v:Ny}{d:Nu Ny}(h:w.ownsRow b 3 1 v n d){g:NA}(c:v.ownBlock=Nq g):b<=g/\∃j,w.heap[g]?=Nq (.cells j 3 (0,0)):=by
 rcases h.2 with⟨rfl,_⟩ | ⟨f,k,i,rfl,e,a,_⟩
 ·simp[OG] at c
 ·obtain rfl:f=g:=by simpa[OG] using c
  exact⟨e,_,a⟩
def oS{d:NA}{A C:Nt}{b:NO OX}{n f:NA}{l:Nu NH}(h:aj d A.heap.size A (.slice b n f) l)(v:A.heap.size<=C.heap.size)(k:∀B o,b=Nq ⟨B,o,Ns⟩->l≠[]->C.heap[B]?=A.heap[B]?):aj d C.heap.size C (.slice b n f) l:=by
 obtain⟨base,c,e,j,i⟩:=h;refine⟨base,c,e,j,λa=>?_⟩;have⟨B,o,u,p,g,s,w,r,q⟩:=i a;cases e;exact⟨B,o,u,p,g,s,by omega,(k B o g a).t r,q⟩
def rn{e:NA}{A C:Nt}{v:Ny}{n:NA}{d:Nu Ny}(h:A.ownsRow e 3 1 v n d)(i:∀g,v.ownBlock=Nq g->C.heap[g]?=A.heap[g]?):C.ownsRow e 3 1 v n d:=by
 obtain⟨l,a⟩:=h;refine⟨l,?_⟩;rcases a with a | ⟨g,c,b,rfl,k,j,f⟩
 ·exact .inl a
 ·exact .inr ⟨g,c,b,rfl,k,(i g (by simp[OG])).t j,f⟩
def rI{X:jB}{p:Nu NH}{G:NA->Prop}{W:Nt}{d:NO OX}{i:NA}{g:Ny}(h:It3 X p G W d i g){B o:NA}(e:d=Nq ⟨B,o,Ns⟩)(a:X.ws≠[]):X.n1<=B/\B<W.heap.size/\∃c b,W.heap[B]?=Nq (.cells c 3 b):=by
 have⟨base,r,q,t,j⟩:=h.li;cases q;have⟨v,s,c,b,f,n,l,k,u⟩:=j a;rw[e] at f;cases f;exact⟨n,l,c,b,k⟩
def It3.body{X:jB}(O:pU X){p:Nu NH}{G j:NA->Prop}{A C:Nt}{s:NO OX}{r:NA}{q:Ny}(h:It3 X p G A s r q)(b:Bod X.n1 X.Bl G j A C):It3 X p j C s r q/\ItR X G j A C:=by
 have I:=O.b1;have S:=O.b2;have R:=O.b3;have Q:=O.b4;have P:=O.b5;have a:∀k,k<A.heap.size->¬ G k->¬ j k:=λk i l e=>(b.fp k e).elim l (by omega);have D:=b.keep _ (aJ h.ls) (.inr rfl) h.nf.1;have x:=b.keep _ (aJ h.yl) (.inl I) h.nf.2.1;have n:=b.keep _ (aJ h.nw) (.inl (by omega)) h.nf.2.2.1;have y:=b.keep _ (aJ h.us) (.inl (by omega)) h.nf.2.2.2.1;have F:=b.keep _ (aJ h.gr) (.inl (by omega)) h.nf.2.2.2.2.1;have z:=b.keep _ (aJ h.pu) (.inl (by omega)) h.nf.2.2.2.2.2;refine⟨⟨D.trans h.ls,oS h.li b.size λB o e c=>?_,λB o e c=>?_,x.t h.yl,y.t h.us,F.t h.gr,z.t h.pu,n.t h.nw,rn h.no λg e=>?_,λg e=>⟨?_,(h.nr g e).2⟩,h.nn,
  a _ (aJ h.ls) h.nf.1,a _ (aJ h.yl) h.nf.2.1,a _ (aJ h.nw) h.nf.2.2.1,a _ (aJ h.us) h.nf.2.2.2.1,a _ (aJ h.gr) h.nf.2.2.2.2.1,a _ (aJ h.pu) h.nf.2.2.2.2.2⟩,
  b.tape,b.size,λk i H l _ _ _=>b.keep k i H l,b.fp,λk i=>?_⟩
 ·have⟨f,d,_⟩:=rI h e c;exact b.keep B d (.inl f) (h.lf B o e c)
 ·have⟨f,d,_⟩:=rI h e c;exact a B d (h.lf B o e c)
 ·have⟨f,N,d⟩:=gG h.no e;exact b.keep g (aJ d) (.inl f) (h.nr g e).1
 ·have⟨f,N,d⟩:=gG h.no e;exact a g (aJ d) (h.nr g e).1
 ·obtain⟨v,w,L,u,M⟩:=i;rw[n] at u;exact .inl ⟨v,w,L,u,M⟩
def It3.push{X:jB}(O:pU X){p:Nu NH}{G:NA->Prop}{A E C:Nt}{W:NO OX}{V:NA}{r:Ny}(h:It3 X p G A W V r)(F:∀k,G k->k<A.heap.size){n:NH}{g' cap:NA}(b:A.gb E r.ownBlock)(j:E.ownsRow X.n1 3 1 (.slice (Nq g') (p.length+1) cap) (p.length+1) (p.map (Og .i64)++[.int .i64 n]))(f:r.ownBlock=Nq g'\/A.heap.size<=g')(Q:C.os=E.os)(y:C.tape=E.tape)(z:C.output=E.output)(M:C.heap=((E.setCell X.Bn (.slice (Nq g') (p.length+1) cap)).setCell X.Bu (.int .u8 (bL (p++[n]):NA))).heap) :It3 X (p++[n]) G C W V (.slice (Nq g') (p.length+1) cap)/\Stp X.n1 X.Bl G A C/\ItR X G G A C/\∀k,k≠X.Bn->k≠X.Bu->C.heap[k]?=E.heap[k]?:=by
 have h1:=O.b1;have h2:=O.b2;have h3:=O.b3;have h4:=O.b4;have h5:=O.b5;have h0:=O.bl;have d:∀{k:NA} {o:Obj},A.heap[k]?=Nq o->(∀c,o≠.cells c 3 (0,0))->Nq k≠r.ownBlock:=λ{k o} i R e=>by
  have⟨_,c,s⟩:=gG h.no e.symm;rw[i] at s;exact R c (QQ s)
 have el:=(b.block _ (aJ h.ls) (d h.ls (λc e=>by cases e))).t h.ls;have ey:=(b.block _ (aJ h.yl) (d h.yl (λc e=>by cases e))).t h.yl;have en:=(b.block _ (aJ h.nw) (d h.nw (λc e=>by cases e))).t h.nw;have Z:=(b.block _ (aJ h.us) (d h.us (λc e=>by cases e))).t h.us;have eg:=(b.block _ (aJ h.gr) (d h.gr (λc e=>by cases e))).t h.gr;have ep:=(b.block _ (aJ h.pu) (d h.pu (λc e=>by cases e))).t h.pu;have a:∀k,k≠X.Bn->k≠X.Bu->C.heap[k]?=E.heap[k]?:=λk w u=>by
  rw[M];exact(Pn _ _ _ k (λe=>u e)).t (Pn _ _ _ k (λe=>w e))
 have cn:C.heap[X.Bn]?=Nq (.cells #[.slice (Nq g') (p.length+1) cap] 29 (0,0)):=by
  rw[M,Pn _ _ _ X.Bn (λe=>by have U:X.Bn=X.Bu:=e;omega),ar en];rfl
 have T:(E.setCell X.Bn (.slice (Nq g') (p.length+1) cap)).heap[X.Bu]?=Nq (.cells #[.int .u8 (bL p:NA)] 130 (0,0)):=(Pn _ _ _ X.Bu (λe=>by have U:X.Bu=X.Bn:=e;omega)).t Z;have cu:C.heap[X.Bu]?=Nq (.cells #[.int .u8 (bL (p++[n]):NA)] 130 (0,0)):=by
  rw[M,ar T];rfl
 have q:C.heap.size=E.heap.size:=by rw[M];simp[Qq]
 have P:Stp X.n1 X.Bl G A C:=⟨Q.trans b.os,y.t b.tape,z.t b.output,by rw[q];exact b.size,λk i l=>by
  have w:k≠X.Bn:=by rintro rfl;exact l.elim (λl=>by omega) h.nf.2.2.1
  have u:k≠X.Bu:=by rintro rfl;exact l.elim (λl=>by omega) h.nf.2.2.2.1
  rw[a k w u];refine b.block k i λe=>?_;have⟨b1,_⟩:=gG h.no e.symm;rcases l with l | l
  ·omega
  ·exact(h.nr k e.symm).1 l⟩
 have I:X.n1<=g'/\∃c,E.heap[g']?=Nq (.cells c 3 (0,0)):=gG j (by simp[OG]);obtain⟨Y,b9,H⟩:=I;have D:∀{k:NA} {c:NJ Ny} {L:NZ},E.heap[k]?=Nq (.cells c L (0,0))->L≠3->g'≠k:=λ{k c L} i ht e=>by
  rw[<- e,H] at i;cases i;exact ht rfl
 have gn:=D en (by decide);have gu:=D Z (by decide);refine⟨⟨(a _ (by omega) (by omega)).t el,oS h.li (by rw[q];exact b.size) λB o e x=>?_,h.lf,(a _ (by omega) (by omega)).t ey,cu,(a _ (by omega) (by omega)).t eg,(a _ (by omega) (by omega)).t ep,cn,?_,λg e=>?_,λe=>by simp at e,
  h.nf⟩,P,
  ⟨y.t b.tape,by rw[q];exact b.size,λk i hn S w u k3=>?_,λk i=>.inl i,λk i=>?_⟩,a⟩
 ·have⟨b1,b2,c,fr,N⟩:=rI h e x;rw[a B (λe=>?_) (λe=>?_)]
  ·exact b.block B b2 λU=>(h.nr B U.symm).2 B o e x rfl
  ·subst e;rw[h.nw] at N;cases N
  ·subst e;rw[h.us] at N;cases N
 ·rw[Pi,Qm];exact rn j λg e=>a g (by
   obtain rfl:g'=g:=by simpa[OG] using e
   exact gn) (by
   obtain rfl:g'=g:=by simpa[OG] using e
   exact gu)
 ·obtain rfl:g'=g:=by simpa[OG] using e
  refine⟨λS=>?_,λB o e x s=>?_⟩
  ·rcases f with f | f
   ·exact(h.nr _ f).1 S
   ·exact absurd (F _ S) (by omega)
  ·have⟨b1,b2,_⟩:=rI h e x;rcases f with f | f
   ·exact(h.nr _ f).2 B o e x s
   ·omega
 ·rw[a k w u];exact b.block k i λe=>k3 ⟨r,_,_,h.nw,e.symm⟩
 ·obtain⟨v,L,fr,e1,s⟩:=i;rw[cn] at e1;cases e1;obtain rfl:g'=k:=by simpa[OG] using s
  rcases f with f | f
  ·exact .inl ⟨r,_,_,h.nw,f⟩
  ·exact .inr f
def yj{w:Nt}{b k:NA}{v:Ny}{c:Nu Ny}{y:Ny}(h:w.ownsRow b 3 1 v (k+1) (c++[y])):∃g a,v=.slice (Nq ⟨g,0,Ns⟩) (k+1) a/\k+1<=a/\w.ownsRow b 3 1 (.slice (Nq ⟨g,0,Ns⟩) k a) k c:=by
 obtain⟨p,o⟩:=h;rcases o with⟨_,q⟩ | ⟨g,a,d,rfl,n,j,l,hm,f,e⟩
 ·omega
 ·have i:c.length=k:=by simp at p;omega
  refine⟨g,a,rfl,l,by simpa using i,.inr ⟨g,a,d,rfl,n,j,by omega,hm,f,?_⟩⟩;have:=congrArg (List.take (k*1)) e;rw[List.take_take,WQ (by omega)] at this;rw[this,List.take_left' (by omega)]
def It3.pop{X:jB}(O:pU X)(D:X.ws≠[]){p:Nu NH}{G:NA->Prop}{A C:Nt}{Q:NO OX}{P:NA}{g b:NA}{n:NH}(h:It3 X (p++[n]) G A Q P (.slice (Nq g) (p.length+1) b))(Z:Popped X.Bn X.Bu (Nq ⟨g,0,Ns⟩) p.length b (bL p) A C) :It3 X p G C Q P (.slice (Nq g) p.length b)/\Stp X.n1 X.Bl G A C/\ItR X G G A C:=by
 obtain⟨H,j,l,s⟩:=Z;have h1:=O.b1;have h2:=O.b2;have h3:=O.b3;have h4:=O.b4;have h5:=O.b5;have h0:=O.bl;have a:∀k,k≠X.Bn->k≠X.Bu->C.heap[k]?=A.heap[k]?:=λk z x=>by
  rw[s];exact(Pn _ _ _ k (λe=>x e)).t (Pn _ _ _ k (λe=>z e))
 have S:C.heap[X.Bn]?=Nq (.cells #[.slice (Nq g) p.length b] 29 (0,0)):=by
  rw[s,Pn _ _ _ X.Bn (λe=>by have e':X.Bn=X.Bu:=e;omega),ar h.nw];rfl
 have M:(A.setCell X.Bn (.slice (Nq g) p.length b)).heap[X.Bu]?=Nq (.cells #[.int .u8 (bL (p++[n]):NA)] 130 (0,0)):=(Pn _ _ _ X.Bu (λe=>by have e':X.Bu=X.Bn:=e;omega)).t h.us;have cu:C.heap[X.Bu]?=Nq (.cells #[.int .u8 (bL p:NA)] 130 (0,0)):=by
  rw[s,ar M];rfl
 have i:C.heap.size=A.heap.size:=by rw[s];simp[Qq]
 have F:Stp X.n1 X.Bl G A C:=⟨H,j,l,by rw[i];exact Nv _,λk d f=>a k (λe=>by
  subst e;rcases f with f | f
  ·omega
  ·exact h.nf.2.2.1 f) (λe=>by
  subst e;rcases f with f | f
  ·omega
  ·exact h.nf.2.2.2.1 f)⟩
 have c:A.ownsRow X.n1 3 1 (.slice (Nq g) p.length b) p.length (p.map (Og .i64)):=by
  have I:=h.no;rw[Pi,Qm] at I;have⟨u,T,e,_,Y⟩:=yj (y:=.int .i64 n) I;cases e;exact Y
 have⟨_,a6,L⟩:=gG c (g:=g) (by simp[OG]);have q:∀{k:NA} {N:NJ Ny} {r:NZ},A.heap[k]?=Nq (.cells N r (0,0))->r≠3->g≠k:=λ{k N r} d V e=>by
  rw[<- e,L] at d;cases d;exact V rfl
 have W:=h.nr g (by simp[OG]);refine⟨⟨(a _ (by omega) (by omega)).t h.ls,oS h.li (by rw[i];exact Nv _) λB o e U=>?_,h.lf,(a _ (by omega) (by omega)).t h.yl,cu,(a _ (by omega) (by omega)).t h.gr,(a _ (by omega) (by omega)).t h.pu,S,rn c λu e=>?_,λu e=>?_,λ_ e=>absurd e D,
  h.nf⟩,F,
  ⟨j,by rw[i];exact Nv _,λk d I hf z x k3=>a k z x,λk d=>.inl d,λk d=>?_⟩⟩
 ·have⟨b1,b2,N,fr,w⟩:=rI h e U;exact a B (λe=>by subst e;rw[h.nw] at w;cases w) (λe=>by subst e;rw[h.us] at w;cases w)
 ·obtain rfl:g=u:=by simpa[OG] using e
  exact a g (q h.nw (by decide)) (q h.us (by decide))
 ·obtain rfl:g=u:=by simpa[OG] using e
  exact W
 ·obtain⟨v,r,fr,R,e2⟩:=d;rw[S] at R;cases R;exact .inl ⟨_,_,_,h.nw,e2⟩
def uE(p:Nu NH)(x:NH):bL (p++[x])=bL p ||| 2 ^ x.toNat:=by simp[bL]
def KR(X:jB)(O:pU X)(L:Nu (Nu NH))(p:Nu NH)(n:NA)(hn:(n:NH)∈X.ws)(m9:(n:NH)∉p)(hp:∀x∈p,x∈X.ws)(s2:p.length+1<=5)(V:∀pre G A,X.J pre G A->Pfx X pre L->xd X (p++[(n:NH)]) G A->Oz Ya 154 #[ptA X.Bn,ptA X.Bl,ptA X.By,ptA X.Bu,ptA X.Bp] A (Rg X (p++[(n:NH)]) L pre G A)) :∀pre G A,X.J pre G A->Pfx X pre L->xd X p G A->Oz Ya 150 #[n,ptA X.Bn,ptA X.Bu,ptA X.Bg] A (Rg X p L pre G A):=by
 intro pre G A hJ n7 n8;obtain⟨nv,i⟩:=n8;have⟨i0,n4,m8,m7,m6⟩:=PM Tp.info3p;have d6:n<5:=by have:=O.five _ hn;omega
 have N:bL p<32:=jR p 5 λx hx=>by have:=O.five x (hp x hx);omega
 have e8:(bL p).testBit n=NC:=by
  rw[So];intro h;have⟨y,hy,r7⟩:=(nM p n).1 h;have:=O.five y (hp y hy);obtain rfl:y=(n:NH):=by omega
  exact m9 hy
 obtain⟨D,z,B,rfl⟩:=cd i.no;have t4:=O.b1;have t3:=O.b2;have t2:=O.b3;have t1:=O.b4;have s9:=O.b5;have⟨q,d,g7,Y,g,S⟩:=bI A (.cells #[n] 3);have b9:d.heap.size=A.heap.size+1:=by rw[Y,NW]
 have u:=bk g i.nw;have s:=bk g i.us;have c8:=bk g i.gr;have s4:X.n1<=A.heap.size:=by have:=aJ i.nw;omega
 have U:∀{k:NA} {o:Obj},A.heap[k]?=Nq o->(∀cs,o≠.cells cs 3 (0,0))->Nq k≠(OS D z B).ownBlock:=λ{k o} hk n2 e=>by
  have⟨_,cs,r⟩:=gG i.no e.symm;rw[hk] at r;exact n2 cs (QQ r)
 have k6:=Np (U i.nw (λcs e=>by cases e));have k5:=Np (U i.us (λcs e=>by cases e));have k0:=Np (show Nq q≠(OS D z B).ownBlock from λe=>by
  have⟨_,cs,r⟩:=gG i.no e.symm;have:=aJ r;omega)
 have c1:d.cell? X.Bn=Nq (.slice D z B):=aa u rfl;have g8:d.cell? X.Bu=Nq (.int .u8 (bL p:NA)):=aa s rfl;have c3:d.cell? q=Nq (.int .i64 n):=aa S rfl;have c4:d.cell? X.Bg=Nq (.func (.func 154) #[] #[ptA X.Bn,ptA X.Bl,ptA X.By,ptA X.Bu,ptA X.Bp]):=aa c8 rfl;have z1:=aA (o:=0) u;have z2:=aA (o:=0) s;have d8:X.Bn<d.heap.size:=aJ u;have d7:X.Bu<d.heap.size:=aJ s;have p9:=Np (i.no.kept g (by cases(OS D z B).ownBlock<;>simp));have⟨HI,h8,q3,p7,a8⟩:=nW i S g Y g7;obtain⟨M,hM⟩:∃M:NH,M=(bL p:NA):=⟨_,rfl⟩;obtain⟨M2,Z⟩:∃M2:NH,(bL p ||| 2 ^ n:NA)=M2:=⟨_,rfl⟩;have c2:d.cell? X.Bu=Nq (.int .u8 M):=by rw[hM];exact g8
 have⟨HM,q0⟩:=aQ hM Z;have j:∀w,Oz Ya 151 #[.int .u8 M,n] w λe w'=>e=.returned (.int .u8 M2)/\w=w':=λw=>by
  rw[hM,<- Z];exact ng _ n w N d6
 have⟨p6,h9⟩:=aQ j b9;have s3:X.n1<=d.heap.size:=by omega
 clear i U S g Y g7 u s c8 g8 hM Z j b9;unfold ptA at *
 go_enter_defers Tp.x150,Tryz.ntmps150;go_upto_region 1 with(fail);rw[<- a8.out,<- p7.out];refine wp_region_noPanic ?_;refine aI 7 (λw'=>w'.cell? X.Bn=Nq (.slice D z B)/\w'.cell? X.Bu=Nq (.int .u8 M)/\w'.cell? q=Nq (.int .i64 n)) (by kernel_rfl) (by kernel_rfl) ⟨c1,c2,c3⟩ (λhHeld=>?_);simp only[NQ,NU,Oh,OV,Oc,Oj,Ol,Ow,On,Oa];refine tk 0 (h:=tk 1 (h:=tk 4 (h:=tk 5 (h:=?_))));try go_frame
 refine rdc 2 λK hK=>?_;go_simp;refine hK.out _ _ (by first | exact s5 | exact hHeld | exact⟨(Nr _ _ Ns).cl hHeld.1,(Nr _ _ Ns).cl hHeld.2.1,(Nr _ _ Ns).cl hHeld.2.2⟩) (λhHeld=>?_);refine rdc 3 λK hK=>?_;refine step_append_lies _ (by rfl) _ _ _ (by rfl) X.n1 3 i0 _ 1 8 Tp.und29' n4 m8 m7 m6 rfl (by omega) (.slice D z B) p.length (p.map (Og .i64)) (by rfl) (by exact p9.out.alloc _) ⟨d.heap.size,0,Ns⟩ 1 1 [.int .i64 n] (by rfl) (by rfl) (Pt (cs:=#[n]) (t:=3) (fr:=(0,0)) (NL d _)) (by simp[PT]) (by omega) (by unfold Rh;omega) (by omega) (by simp;omega) (d.heap.size+1) (by simp) ?_;intro g' cap w5 l a Q r3;have c:d.gb w5 (OS D z B).ownBlock:=((Nr d (.cells #[n] 3) Ns).but _).trans ⟨a.os,a.tape,a.output,a.size,a.block⟩;have s5:w5.cell? X.Bn=Nq (.slice D z B)/\w5.cell? X.Bu=Nq (.int .u8 M)/\w5.cell? q=Nq (.int .i64 n):=⟨c.cell c1 k6.out,c.cell c2 k5.out,c.cell c3 k0.out⟩;have l8:=(c.frozen_far _ d8 k6.out).trans z1;have l7:=(c.frozen_far _ d7 k5.out).trans z2;have⟨p8,k8,k9⟩:=bC l c Q;clear l c Q a;refine hK.out _ _ (by first | exact s5 | exact hHeld | exact⟨(Nr _ _ Ns).cl hHeld.1,(Nr _ _ Ns).cl hHeld.2.1,(Nr _ _ Ns).cl hHeld.2.2⟩) (λhHeld=>?_);refine rdc 6 λK hK=>?_;go_simp;go_at_call 151;refine(p6.out _).mono ?_;rintro e w2 ⟨rfl,rfl⟩;refine hK.out _ _ (by first | exact s5 | exact hHeld | exact⟨(Nr _ _ Ns).cl hHeld.1,(Nr _ _ Ns).cl hHeld.2.1,(Nr _ _ Ns).cl hHeld.2.2⟩) (λhHeld=>?_);try go_frame
 refine⟨by kernel_rfl,?_⟩;simp only[Oi,OH];have d5:X.Bn≠X.Bu:=by omega
 have q9:X.Bu≠X.Bn:=by omega
 have m4:=s5.1;have m3:=s5.2.1;go_wp2;refine NoPanic.normal ?_;obtain⟨C,hC⟩:∃C,C=(w5.setCell X.Bn (.slice (Nq g') (p.length+1) cap)).setCell X.Bu (.int .u8 M2):=⟨_,rfl⟩;rw[<- hC];have⟨a6,T,e4,W⟩:=HI.out.push O (O.hlt _ _ _ hJ) (n:=(n:NH)) (g':=g') (cap:=cap) (A:=A) (E:=w5) (C:=C) ((q3.out.but _).trans k8.out) p8.out (by rcases k9.out with h | h;exact .inl h;right;have:=h9.out;omega) (by rw[hC];rfl) (by rw[hC];rfl) (by rw[hC];rfl) (by rw[hC,uE,Int.toNat_natCast,q0.out]);have g5:=O.hJ _ _ _ _ hJ T;have e7:C.heap[q]?=Nq (.cells #[n] 3 (0,0)):=by
  have h1:=aJ HI.out.nw;have h2:=aJ HI.out.us;have h3:=a8.out;rw[W q (by omega) (by omega)];exact(k8.out.block _ (aJ h8.out) k0.out).trans h8.out
 have t9:C.cell? X.Bg=Nq (.func (.func 154) #[] #[.pointer (Nq X.Bn),.pointer (Nq X.Bl),.pointer (Nq X.By),.pointer (Nq X.Bu),.pointer (Nq X.Bp)]):=aa (o:=0) a6.gr rfl;have⟨HC,u6,k7,u5,q2,q1,g9⟩:=AH hC W a6 T e4 g5 e7;clear hC W a6 T e4 g5 e7 m4 m3 s5 l8 l7 c1 c2 c3 c4 z1 z2 d8 d7 hHeld;go_wp2_with (go_at_call 154;refine(V pre G C q1.out n7 ⟨_,k7.out⟩).mono ?_;rintro e w6 ⟨b,rfl,hR⟩);obtain⟨G6,⟨m5,h6⟩,P,H⟩:=hR;have I:=h6.no;rw[Pi,Qm] at I;obtain⟨g6,R,e6,n6,-⟩:=yj (y:=.int .i64 n) I;have n9:m5=.slice (Nq g6) (p.length+1) R:=e6;subst n9;have t6:=a8.out;have s6:=aJ HI.out.nw;have r9:=aJ HI.out.us;have e5:w6.heap[q]?=Nq (.cells #[n] 3 (0,0)):=by
  rw[P.keep q (aJ g9.out) (.inl (by omega)) (λhf=>?_) (by omega) (by omega) (λhr=>?_)]
  ·exact g9.out
  ·have:=O.hlt _ _ _ hJ _ hf;omega
  ·obtain⟨v,ty,fr,e1,r⟩:=hr;rw[k7.out.nw] at e1;cases e1;obtain rfl:g'=q:=by simpa[OG] using r
   rcases k9.out with h | h
   ·have⟨_,cs,h2⟩:=gG HI.out.no h;have:=aJ h2;omega
   ·have:=h9.out;omega
 refine UF (f:=152) (args:=#[.pointer (Nq X.Bn),.pointer (Nq X.Bu),.pointer (Nq q)]) (by simp) (by simp[go_sem]) ?_;refine(Jd X.Bn X.Bu q (Nq ⟨g6,0,Ns⟩) p.length R (bL p) n w6 d6 N e8 (by omega) n6 d5 (by omega) h6.nw (by rw[h6.us,uE,Int.toNat_natCast]) e5 _).mono ?_;rintro e u' w7 ⟨rfl,rfl,c9⟩;have⟨h7,F,d9⟩:=h6.pop O (λe=>by rw[e] at hn;cases hn) c9;refine⟨.bool b,by rw[UE (t:=5) rfl];rfl,b,rfl,G6,⟨_,h7⟩,(q2.out.trans P).trans d9,?_⟩;cases b with
 | true=>
  obtain⟨xs,e1,r⟩:=H;exact⟨xs,e1,O.hJ _ _ _ _ r F⟩
 | false=>
  obtain⟨xs,t,e1,r⟩:=H;exact⟨xs,t,e1,O.hJx _ _ _ _ r F⟩
end
section
open Go.RowKit Go.Shelf
attribute [local go_sem] Oper.semAt_some
def BI{w:Nt}{b n:NA}{v:Ny}{d:Nu Ny}(h:w.ownsRow b 3 1 v n d):∃a c,v=.slice a n c:=by
 rcases h.2 with⟨rfl,e⟩ | ⟨g,i,f,rfl,_⟩
 ·exact⟨Ns,0,by rw[e]⟩
 ·exact⟨_,_,rfl⟩
def It3.xp{X:jB}{p:Nu NH}{G:NA->Prop}{W:Nt}{c:NO OX}{b:NA}{a:Ny}(h:It3 X p G W c b a)(d:p.length<=5):xpI (p,a) W:=(aj.own h.no (by omega)).mono (OE _) (Nv _)
def DU(X:jB)(O:pU X)(p:Nu NH)(i:p.length=X.ws.length)(r:p.Nodup)(q:∀x∈p,x∈X.ws):∀pre G A,X.J pre G A->Pfx X pre (aX X.ws 0 p)->xd X p G A->Oz Ya 154 #[ptA X.Bn,ptA X.Bl,ptA X.By,ptA X.Bu,ptA X.Bp] A (Rg X p (aX X.ws 0 p) pre G A):=by
 intro pre G A hJ s t;obtain⟨H,a⟩:=t;have d:=a.xp (by have:=O.len;omega);obtain⟨g,f,rfl⟩:=BI a.no;have N:A.cell? X.Bn=Nq (.slice g p.length f):=aa a.nw rfl;have M:A.cell? X.Bl=Nq (.slice X.lb X.ws.length X.lc):=aa a.ls rfl;have L:A.cell? X.By=Nq (.func (.yield X.l) #[] #[]):=aa a.yl rfl;have⟨I,v,j,w,B,F⟩:=O.hY 2 pre G (p,.slice g p.length f) A hJ ⟨d,i,r,q,(Tx (p=[])).elim (λh=>.inr (a.nn h (OZ (by rw[<- i,h];rfl)))) .inl⟩ s;have C:((p.length:NH) == (X.ws.length:NH))=NB:=by rw[i];simp
 have y:=Np a;dsimp only at B;clear d a i;refine(QH (n:=3)).1 ?_;refine Wf Tp.x154 rfl trivial ?_ rfl;have D:∀k:NA,(Fence.wide.depth.isSome=NB->1<=k):=λk h=>by cases h
 unfold ptA;simp only[Zv,Ox,NQ,NU,Oh,OV,Oj,Ol,Ow,Rt,On,Oa]
 gi_wp2
 refine F.mono ?_;rintro e P ⟨z,⟨rfl,c,b⟩ | ⟨rfl,c,b⟩⟩
 ·gi_wp2
  go_ret;have⟨u,o⟩:=y.out.body O b;exact⟨NB,rfl,z,⟨_,u⟩,o,[(p,.slice g p.length f)],rfl,c⟩
 ·gi_wp2
  go_ret;have⟨u,o⟩:=y.out.body O b;exact⟨NC,rfl,z,⟨_,u⟩,o,[(p,.slice g p.length f)],[],rfl,c⟩
def jN(a p:Nu NH)(m k:NA)(x:NH)(h:a[k]?=Nq x):((a.take (k+1)).flatMap λn=>if n∈p then[] else aX a m (p++[n]))=((a.take k).flatMap λn=>if n∈p then[] else aX a m (p++[n]))++(if x∈p then[] else aX a m (p++[x])):=by
 rw[OR,h];simp
def kV(a p:Nu NH)(m k:NA):aX a (m+1) p=((a.take k).flatMap λn=>if n∈p then[] else aX a m (p++[n]))++((a.drop k).flatMap λn=>if n∈p then[] else aX a m (p++[n])):=by
 rw[<- Xv,List.take_append_drop];rfl
def DV(X:jB)(O:pU X)(m:NA)(p:Nu NH)(hp:p.length+(m+1)=X.ws.length)(b0:p.Nodup)(r:∀x∈p,x∈X.ws)(ih:∀q,q.length+m=X.ws.length->q.Nodup->(∀x∈q,x∈X.ws)->∀pre G A,X.J pre G A->Pfx X pre (aX X.ws m q)->xd X q G A->Oz Ya 154 #[ptA X.Bn,ptA X.Bl,ptA X.By,ptA X.Bu,ptA X.Bp] A (Rg X q (aX X.ws m q) pre G A)) :∀pre G A,X.J pre G A->Pfx X pre (aX X.ws (m+1) p)->xd X p G A->Oz Ya 154 #[ptA X.Bn,ptA X.Bl,ptA X.By,ptA X.Bu,ptA X.Bp] A (Rg X p (aX X.ws (m+1) p) pre G A):=by
 intro pre G A hJ W c8;obtain⟨nv,Q⟩:=c8;have b7:=O.len;obtain⟨na,nc,rfl⟩:=BI Q.no;have c1:A.cell? X.Bn=Nq (.slice na p.length nc):=aa Q.nw rfl;have c2:A.cell? X.Bl=Nq (.slice X.lb X.ws.length X.lc):=aa Q.ls rfl;have k7:((p.length:NH) == (X.ws.length:NH))=NC:=by rw[beq_eq_false_iff_ne];omega
 have z:∀n:NA,(n:NH)∈X.ws->¬ (n:NH)∈p->∀pre G A,X.J pre G A->Pfx X pre (aX X.ws m (p++[(n:NH)]))->xd X p G A->Oz Ya 150 #[.int .i64 n,ptA X.Bn,ptA X.Bu,ptA X.Bg] A (Rg X p (aX X.ws m (p++[(n:NH)])) pre G A):=λn hn S=>
  KR X O _ p n hn S r (by omega) (ih _ (by simp;omega) (List.nodup_append.2 ⟨b0,by simp,λa ha b hb e=>S (by rw[Pk.1 hb] at e;exact e ▸ ha)⟩) (λx P=>by rcases Qb.1 P with h | h;exact r x h;rw[Pk.1 h];exact hn))
 have a7:=Np z;have c9:=Q;have⟨HI,HJ,HP,d9⟩:=cJ Q hJ hp W;clear W;clear Q hp ih hJ z c9;refine(QH (n:=3)).1 ?_;refine Wf Tp.x154 rfl trivial ?_ rfl;have k9:∀k:NA,(Fence.wide.depth.isSome=NB->1<=k):=λk h=>by cases h
 unfold ptA at *
 simp only[Zv,Ox,NQ,NU,Oh,OV,Oj,Ol,Ow,Rt,On,Oa]
 gi_wp2
 gi_loopw [18] (λiv wr=>∃k:NA,iv=.int .i64 k/\k<=X.ws.length/\∃N,xd X p N wr/\ItR X G N A wr/\∃j,j.map Su=((X.ws.take k).flatMap λn=>if n∈p then[] else aX X.ws m (p++[n]))/\X.J (pre++j) N wr) (λiv _=>(X.ws.length - OP iv).toNat)
 case atStart=>exact⟨0,rfl,by omega,G,⟨_,HI.out⟩,ItR.refl _ _ _,[],by simp,by simpa using HJ.out⟩
 case round=>
  obtain⟨k,rfl,hk,N,⟨h8,Z⟩,V,j,R,Y⟩:=hrel;have⟨g,v,i,L⟩:=cJ Z V R Y;clear Z V R Y c1 c2;by_cases s:k<X.ws.length
  ·obtain⟨x,l⟩:∃x,X.ws[k]?=Nq x:=⟨_,ND s⟩;have F:=Od l;have k6:=O.five x F;obtain⟨b1,l9,he,-,hc⟩:=g.out.li.cell;cases he;have⟨B,o,b8,l8,l7,l6,a6⟩:=hc (by intro e;rw[e] at s;simp at s);have P:=a6 k s;rw[l] at P;simp only[NK] at P;obtain⟨n,rfl⟩:∃n:NA,x=n:=⟨x.toNat,by omega⟩;have c3:wr.cell? X.Bu=Nq (.int .u8 (bL p:NA)):=aa g.out.us rfl;have c4:wr.cell? X.Bp=Nq (.func (.func 150) #[] #[.pointer (Nq X.Bn),.pointer (Nq X.Bu),.pointer (Nq X.Bg)]):=aa g.out.pu rfl;have b6:n<5:=by omega
   have T:bL p<32:=jR p 5 λx P=>by have:=O.five x (r x P);omega
   have g5:(k:NH)<(X.ws.length:NH):=by omega
   have⟨u,d7⟩:=aQ l F;obtain⟨M,hM⟩:∃M:NH,M=(bL p:NA):=⟨_,rfl⟩;rw[<- hM] at c3;have D:(bL p).testBit n=decide ((n:NH)∈p):=by
    rw[Bool.eq_iff_iff,nM,decide_eq_true_eq];constructor
    ·rintro⟨y,hy,k5⟩;have:=O.five y (r y hy);obtain rfl:y=(n:NH):=by omega
     exact hy
    ·exact λh=>⟨n,h,by omega⟩
   have C:∀w,Oz Ya 129 #[.int .u8 M,.int .i64 n] w λe w'=>e=.returned (.bool (decide ((n:NH)∈p)))/\w=w':=λw=>by
    rw[hM,<- D];exact qz _ n w T b6
   have c:=Np C;clear l F hc a6 hM D C;rw[b8];by_cases d:(n:NH)∈p
   ·have U:decide ((n:NH)∈p)=NB:=by simpa using d
    have f:=Np d;clear d;rw[U] at c;clear U
    gi_wp2_with (refine⟨trivial,?_⟩;gi_at_call 129;refine(QH.2 (c.out _)).mono ?_;rintro e w2 ⟨rfl,rfl⟩)
    refine⟨λ_ h=>(by cases h),?_⟩
    gi_wp2
    go_roundw
    case rel=>exact⟨k+1,by simp,by omega,N,⟨_,g.out⟩,v.out,j,by rw[jN _ _ _ _ _ u.out,if_pos f.out,SV];exact i.out,L.out⟩
    case measure=>simp[OP];omega
   ·have U:decide ((n:NH)∈p)=NC:=by simpa using d
    have f:=Np d;clear d;rw[U] at c;clear U;have d8:=Np (show Pfx X (pre++j) (aX X.ws m (p++[(n:NH)])) by
     have⟨t,ht⟩:=d9.out;rw[kV X.ws p m (k+1),jN _ _ _ _ _ u.out,if_neg f.out,<- i.out] at ht;exact⟨_,by rw[ht,Qm];simp only[Qv];rfl⟩)
    gi_wp2_with (first
     | (refine⟨trivial,?_⟩;gi_at_call 129;refine(QH.2 (c.out _)).mono ?_;rintro e w2 ⟨rfl,rfl⟩)
     | (refine⟨trivial,?_⟩;gi_at_call 150;refine(QH.2 (a7.out n d7.out f.out (pre++j) N _ L.out d8.out ⟨_,g.out⟩)).mono ?_;rintro e w3 ⟨b,rfl,hR⟩;cases b))
    ·obtain⟨G3,I,H,ys,t,e1,e2⟩:=hR;go_ret;refine⟨NC,rfl,G3,I,v.out.trans H,j++ys,t++((X.ws.drop (k+1)).flatMap λn=>if n∈p then[] else aX X.ws m (p++[n])),?_,by simpa using e2⟩;rw[kV X.ws p m (k+1),jN _ _ _ _ _ u.out,if_neg f.out,e1,Qm,i.out];simp
    ·obtain⟨G3,I,H,ys,e1,e2⟩:=hR;go_roundw
     case rel=>exact⟨k+1,by simp,by omega,G3,I,v.out.trans H,j++ys,by rw[jN _ _ _ _ _ u.out,if_neg f.out,Qm,i.out,e1],by simpa using e2⟩
     case measure=>simp[OP];omega
  ·obtain rfl:k=X.ws.length:=by omega
   gi_wp2
   go_ret;exact⟨NB,rfl,N,⟨_,g.out⟩,v.out,j,by rw[i.out,kV X.ws p m X.ws.length];simp,L.out⟩
def yV(X:jB)(O:pU X):∀(m:NA) (q:Nu NH),q.length+m=X.ws.length->q.Nodup->(∀x∈q,x∈X.ws)->∀pre G A,X.J pre G A->Pfx X pre (aX X.ws m q)->xd X q G A->Oz Ya 154 #[ptA X.Bn,ptA X.Bl,ptA X.By,ptA X.Bu,ptA X.Bp] A (Rg X q (aX X.ws m q) pre G A)
 | 0,q,h,b,a=>DU X O q (by omega) b a
 | m+1,q,h,b,a=>DV X O m q h b a (yV X O m)
end
section
open Go.RowKit Go.Shelf
def vH{F:Fence}(a:F.depth=Ns)(k:NA):F.room k:=λd h=>by rw[a] at h;cases h
def FQ{F:Fence}(g:F.depth=Ns){m e:NA}{P:NR}{l:NA}{f:Pl}{b:NJ Ny}{a d:Qs}{w:Nt}{R:Ending->Nt->Prop}(h:RoundIn F m P l f b a d w R):RoundIn F e P l f b a d w R:=⟨h.1,λc i _=>h.2 c i (vH g _)⟩
def Ez{F:Fence}(g:F.depth=Ns){m:NA}(e:NA){P:NR}{l:NA}{b:NJ Ny}{W:Nt}{R:Ending->Nt->Prop}(h:YieldAt F m P l b W R):YieldAt F e P l b W R:=by
 obtain⟨j,c,a,d,f,i⟩:=h;exact⟨j,c,a,d,f,FQ g i⟩
def Au(n:NA)(Bl:NA)(b:NO OX)(c:NA)(M ws:Nu NH)(hS:lF M ws)(h5:∀x∈ws,0<=x/\x<5)(m6:ws.Nodup)(g6:ws.length<=5)(l:NA)(J Jx:Nu (Nu NH × Ny)->(NA->Prop)->Nt->Prop)(G0:NA->Prop)(W:Nt)(k0:W.heap[Bl]?=Nq (.cells #[.slice b M.length c] 29 (0,0)))(hI:aj 0 W.heap.size W (.slice b M.length c) M)(hB:¬ G0 Bl)(hF:∀s G A,J s G A->∀k,G k->k<A.heap.size)(hJ:∀s G A C,J s G A->Stp W.heap.size Bl G A C->J s G C)(n4:∀s G A C,Jx s G A->Stp W.heap.size Bl G A C->Jx s G C)(hY:∀pre G x D,J pre G D->xpO ws x D->(∃t,aX ws ws.length []=(pre++[x]).map Su++t)->YieldAt Fence.wide n Ya l #[x.2] D λe W'=>∃G',(e=.returned (.bool NB)/\J (pre++[x]) G' W'/\Bod W.heap.size Bl G G' D W')\/(e=.returned (.bool NC)/\Jx (pre++[x]) G' W'/\Bod W.heap.size Bl G G' D W'))(h0:J [] G0 W) :Oz Ya 149 #[.func (.yield l) #[] #[],.pointer (Nq Bl)] W λe W'=>(∃v,e=.returned v)/\((∃xs G,xs.map Su=aX ws ws.length []/\J xs G W')\/(∃pre G,(∃t,aX ws ws.length []=pre.map Su++t)/\Jx pre G W')):=by
 have h9:=aJ k0;have⟨By,D,b8,b0,I,e7⟩:=bI W (.cells #[.func (.yield l) #[] #[]] 51);have N:D.heap.size=By+1:=by rw[b0,NW,b8]
 have F:=bk I k0;have c1:D.cell? Bl=Nq (.slice b M.length c):=aa F rfl;have z1:=aA (o:=0) F;have g5:Bl<D.heap.size:=aJ F;have q0:=Np ((hI.kept I).mono (Nv _) I.size);have⟨p5,c8,p6,q2,p4,l4⟩:=rS b0 b8 N I e7 F;clear b0 b8 N I e7 F hI;go_enter Tp.x149,Tryz.ntmps149;go_upto_region 1 with(fail);rw[<- c8,<- p5];go_upto_region 2 with(first
  | (go_at_call 135;refine(my _ _ _ _).mono ?_;rintro e w2 ⟨rfl,rfl⟩)
  | (go_at_call 134;refine(hS D.heap.size (.slice b M.length c) _ (by simp) (by rw[il];rfl) ((q0.alloc _).mono (Nv _) (by simp))).mono ?_;rintro e w2 ⟨v,rfl,b7,Q,f⟩;obtain⟨lb,lc,rfl,-,-⟩:=b7.cell;have c2:=(((Nr D (.cells #[.slice b M.length c] 29) Ns).t f).cl c1);have z2:=(((Nr D (.cells #[.slice b M.length c] 29) Ns).t f).frozen_far _ g5 (by simp)).t z1;have p9:=Np b7;have L:=Np ((Nr D (.cells #[.slice b M.length c] 29) Ns).t f);have t9:=Np Q;clear b7 Q f))
 have s4:=aJ ((bk L l4));obtain⟨d,a9⟩:∃d,d=w2.setCell Bl (.slice lb ws.length lc):=⟨_,rfl⟩;rw[<- a9];have q:=Np a9;clear a9 c1 c2 z1 z2;have s6:∀(a:OX) (fn:Fn) (x y:NJ Ny) (m:Mode) (w:Nt),(store a (.func fn x y) m).run Ya w=stored Ya w a (.func fn x y) m:=λa fn x y m w=>run_store _ w a _ m rfl;go_upto_region 6 with(fail);obtain⟨u,i⟩:∃u,u=(((d.alloc (.cells #[.slice Ns 0 0] 29)).alloc (.cells #[.int .u8 0] 130)).alloc (.cells #[.nilFunc] 31)).alloc (.cells #[.func (.func 150) #[] #[.pointer (Nq d.heap.size),.pointer (Nq (d.heap.size+1:NA)),.pointer (Nq (d.heap.size+1+1:NA))]] 82):=⟨_,rfl⟩;have e8:(((d.alloc (.cells #[.slice Ns 0 0] 29)).alloc (.cells #[.int .u8 0] 130)).alloc (.cells #[.nilFunc] 31)).alloc (.cells #[.func (.func 150) #[] #[.pointer (Nq d.heap.size),.pointer (Nq (d.heap.size+1:NA)),.pointer (Nq (d.heap.size+1+1:NA))]] 82)=u:=i.symm;rw[e8];clear e8;obtain⟨S,j⟩:∃S,S=d.heap.size:=⟨_,rfl⟩;rw[<- j] at i ⊢;have O:d.heap.size=w2.heap.size:=by rw[q];simp[Qq]
 have q6:=L.out.size;have g7:d.heap[Bl]?=Nq (.cells #[.slice lb ws.length lc] 29 (0,0)):=by rw[q,ar (bk L l4)];rfl
 have e6:d.heap[By]?=Nq (.cells #[.func (.yield l) #[] #[]] 51 (0,0)):=by
  rw[q,Pn _ _ _ By (λe=>by have e':By=Bl:=e;have:=c8.out;omega)];exact bk L p4
 have ha:∀(w:Nt) (o:Obj) (k:NA) (p:Obj),w.heap[k]?=Nq p->(w.alloc o).heap[k]?=Nq p:=λw o k p h=>aE h;have k5:=j;have Y:∀(w:Nt) (o:Obj),(w.alloc o).heap.size=w.heap.size+1:=λw o=>NW w o;have n8:u.heap[S]?=Nq (.cells #[.slice Ns 0 0] 29 (0,0)):=by rw[i,j];exact ha _ _ _ _ (ha _ _ _ _ (ha _ _ _ _ (NL d _)))
 have u8:u.heap[S+1]?=Nq (.cells #[.int .u8 0] 130 (0,0)):=by
  rw[i];refine ha _ _ _ _ (ha _ _ _ _ ?_);have:=NL (d.alloc (.cells #[.slice Ns 0 0] 29)) (.cells #[.int .u8 0] 130)
  rwa [Y,<- j] at this
 have g8:u.heap[S+2]?=Nq (.cells #[.nilFunc] 31 (0,0)):=by
  rw[i];refine ha _ _ _ _ ?_;have:=NL ((d.alloc (.cells #[.slice Ns 0 0] 29)).alloc (.cells #[.int .u8 0] 130)) (.cells #[.nilFunc] 31)
  rwa [Y,Y,<- j] at this
 have p8:u.heap[S+3]?=Nq (.cells #[.func (.func 150) #[] #[.pointer (Nq S),.pointer (Nq (S+1:NA)),.pointer (Nq (S+2:NA))]] 82 (0,0)):=by
  rw[i];have:=NL (((d.alloc (.cells #[.slice Ns 0 0] 29)).alloc (.cells #[.int .u8 0] 130)).alloc (.cells #[.nilFunc] 31)) (.cells #[.func (.func 150) #[] #[.pointer (Nq S),.pointer (Nq (S+1:NA)),.pointer (Nq (S+1+1:NA))]] 82)
  rwa [Y,Y,Y,<- j] at this
 have g9:d.gb u Ns:=by
  rw[i];exact(((Nr _ _ Ns).t (Nr _ _ Ns)).t (Nr _ _ Ns)).t (Nr _ _ Ns)
 have cg:u.cell? (S+1+1:NA)=Nq .nilFunc:=aa g8 rfl;have zg:u.frozen? ⟨S+1+1,0,Ns⟩=NC:=aA g8;have⟨n3,m8,n6,n2,z,k9,p7,p3⟩:=GI n8 u8 g8 p8 g9 j g7 e6;have k7:=Np O;clear n8 u8 g8 p8 g9 j g7 e6 O i ha Y k5;go_upto_region 7 with(fail);obtain⟨C,V⟩:∃C,C=u.setCell (S+2:NA) (.func (.func 154) #[] #[.pointer (Nq S),.pointer (Nq Bl),.pointer (Nq By),.pointer (Nq (S+1:NA)),.pointer (Nq (S+3:NA))]):=⟨_,rfl⟩;have eC:u.setCell (S+1+1:NA) (.func (.func 154) #[] #[.pointer (Nq S),.pointer (Nq Bl),.pointer (Nq By),.pointer (Nq (S+1:NA)),.pointer (Nq (S+1+1+1:NA))])=C:=V.symm;rw[eC];clear eC cg zg;have H:=an u (S+2) 0 (.func (.func 154) #[] #[.pointer (Nq S),.pointer (Nq Bl),.pointer (Nq By),.pointer (Nq (S+1:NA)),.pointer (Nq (S+3:NA))]);rw[<- V] at H;have f:C.heap[S+2]?=Nq (.cells #[.func (.func 154) #[] #[.pointer (Nq S),.pointer (Nq Bl),.pointer (Nq By),.pointer (Nq (S+1:NA)),.pointer (Nq (S+3:NA))]] 31 (0,0)):=by rw[V,ar n6];rfl
 have k8:∀k o,k≠S+2->u.heap[k]?=Nq o->C.heap[k]?=Nq o:=λk o hk h=>blk H (by simpa using hk) h;have k4:∀k o,d.heap[k]?=Nq o->C.heap[k]?=Nq o:=λk o h=>k8 k o (by have:=aJ h;have:=k9.out;omega) (bk z h);have k6:=c8.out;have N:=p6.out;have hS:=k9.out;have m3:=k7.out;have n7:C.heap.size=u.heap.size:=by rw[V];simp[Qq]
 have m4:=z.out.size;have e9:Stp W.heap.size Bl G0 W C:=by
  have h2:=q2.out.t L;refine⟨?_,?_,?_,?_,λk hk hc=>?_⟩
  ·rw[V];exact z.os.trans (by rw[q];exact h2.os)
  ·rw[V];exact z.tape.trans (by rw[q];exact h2.tape)
  ·rw[V];exact z.output.trans (by rw[q];exact h2.output)
  ·omega
  ·have m7:k≠Bl:=by
    rintro rfl;rcases hc with hc | hc
    ·exact hc.2 rfl
    ·exact hB hc
   have e2:=h2.block k hk (by simp);have e4:d.heap[k]?=w2.heap[k]?:=by rw[q];exact Pn _ _ _ k (λe=>m7 e)
   have e8:=z.out.block k (by omega) (by simp);rw[H.block k (by omega) (by simp;omega),e8,e4,e2]
 have r:∀k,W.heap.size<=k->¬ G0 k:=λk hk h=>by have:=hF _ _ _ h0 k h;omega
 obtain⟨X,U⟩:∃X:jB,X={ Bl,By,Bn:=S,Bu:=S+1,Bg:=S+2,Bp:=S+3,n1:=W.heap.size,l,ws,lb,lc,J,Jx,T:=aX ws ws.length [] }:=⟨_,rfl⟩;have hO:pU X:=by
  rw[U];exact⟨hF,h9,by show W.heap.size<=By;omega,by show By<S;omega,by show S<S+1;omega,by show S+1<S+2;omega,by show S+2<S+3;omega,hJ,n4,h5,m6,g6,λm pre G x A h1 h2 h3=>Ez rfl m (hY pre G x A h1 h2 (by obtain⟨t,ht⟩:=h3;exact⟨t,by rw[Qm,Qv];exact ht⟩))⟩
 have Z:aj W.heap.size C.heap.size C (.slice lb ws.length lc) ws:=by
  have h:=p9.out;rw[NW] at h;have h4:=h.kept (an w2 Bl 0 (.slice lb ws.length lc)) (λR e=>by cases e;left;omega);rw[<- q] at h4;have h8:=h4.kept z;have hc:=h8.kept H (λR e=>by cases e;right;omega);exact hc.mono (by omega) (by omega)
 have b6:It3 X [] G0 C lb lc (.slice Ns 0 0):=by
  rw[U];refine⟨k4 _ _ p7,Z,λB o e m5=>?_,k4 _ _ p3,k8 (S+1) _ (by omega) m8,f,k8 (S+3) _ (by omega) n2,k8 S _ (by omega) n3,PX _ _ _ _,λg e=>by simp[OG] at e,λ_ _=>rfl,hB,r _ (by show W.heap.size<=By;omega),r _ (by show W.heap.size<=S;omega),r _ (by show W.heap.size<=S+1;omega),r _ (by show W.heap.size<=S+2;omega),r _ (by show W.heap.size<=S+3;omega)⟩;obtain⟨base,t6,e',hl,hr⟩:=Z;cases e';have⟨B',o',cs,fr,e1,e2,e3,e4,e5⟩:=hr m5;rw[e] at e1;cases e1;exact r _ e2
 have a6:=yV X hO ws.length [] (by rw[U];simp) (by simp) (by simp) [] G0 C (by rw[U];exact hJ _ _ _ _ h0 e9) (by rw[U];exact⟨[],by simp⟩) ⟨_,by rw[U] at b6 ⊢;exact b6⟩;rw[U] at a6;have cG:C.cell? (S+1+1:NA)=Nq (.func (.func 154) #[] #[.pointer (Nq S),.pointer (Nq Bl),.pointer (Nq By),.pointer (Nq (S+1:NA)),.pointer (Nq (S+3:NA))]):=aa f rfl;have q1:=Np a6;clear a6 b6 hO U Z r e9 n7 m4 V H f k8 k4 k6 N hS m3;go_wp2_with (go_at_call 154;refine(q1).mono ?_;rintro e w9 ⟨b',rfl,hR⟩);go_end0;refine⟨⟨_,rfl⟩,?_⟩;obtain⟨G9,-,-,P⟩:=hR;cases b' with
 | true=>
  obtain⟨xs,e1,e2⟩:=P;exact .inl ⟨xs,G9,e1,by simpa using e2⟩
 | false=>
  obtain⟨xs,t,e1,e2⟩:=P;exact .inr ⟨xs,G9,⟨t,e1⟩,by simpa using e2⟩
def ru(b:NO OX)(n c:NA)(w:Nt):Oz Ya 117 #[.slice b n c] w λe a=>e=.returned (.func (.func 149) #[] #[.pointer (Nq w.heap.size)])/\a=w.alloc (.cells #[.slice b n c] 29):=by
 go_enter Tp.x117,Tryz.ntmps117;go_wp2;go_ret;exact⟨rfl,rfl⟩
def nI(n:NA)(g:NA)(b:NO OX)(c:NA)(d a:Nu NH)(p:lF d a)(u:∀x∈a,0<=x/\x<5)(h:a.Nodup)(e:a.length<=5)(w0:Nt)(f:w0.heap[g]?=Nq (.cells #[.slice b d.length c] 29 (0,0)))(q:aj 0 w0.heap.size w0 (.slice b d.length c) d) :MI Fence.wide n Ya 149 #[.pointer (Nq g)] (λx:Nu NH × Ny=>#[x.2]) (xpO a) (λk=>k.map Su=aX a a.length []) (λpre=>∃t,aX a a.length []=pre.map Su++t) g w0:=λl J w y W i s r hJ j o v=>
 QH.2 (Au (n - 1) g b c d a p u h e l J w y W ((i.block g (aJ f)).t f) ((q.kept (jo i)).mono (Nv _) i.size) s r hJ j o v)
def yX(u r:NA)(yv qv:Ny)(c:Nu Par)(a:NH)(l:Nu NH)(w:Nt)(X:dh u r w yv c a)(hI:aj u r w qv l)(V:r<=w.heap.size)(L:YOk c a)(C:PIn c l) :Oz Ya 114 #[yv,qv] w λe v=>e=.returned (.bool (decide (aN c l<=a) && aC c (pre Par.mx c c.length) l))/\w.gb v Ns:=by
 obtain⟨pv,rfl,Z⟩:=X;obtain⟨F,D,rfl,c9,-⟩:=Z.cell;obtain⟨base,a7,rfl,d5,-⟩:=hI.cell;have⟨Y,q,O,H,k,P⟩:=bI w (.cells #[.slice F c.length D,a] 91);have⟨U,T⟩:=aQ P k;have b6:=Np (hI.kept k);have b0:=Np (Z.kept k);have⟨a9,a8,y,f⟩:=cJ H O L C;have g:r<=q.heap.size:=NM V k.size;clear k P H O hI Z L C;go_enter Tp.x114,Tryz.ntmps114;go_upto_region 1 with(fail);rw[<- a8,<- a9];have b:=Np (NN q Ns);have G:∀W,q.gb W Ns->dh u r W (.agg #[.slice F c.length D,a]) c a:=λW h=>⟨_,rfl,b0.kept h⟩;have M:∀W,q.gb W Ns->aj u r W (.slice base l.length a7) l:=λW h=>b6.kept h;have I:∀W,q.gb W Ns->W.cell? Y=Nq (.slice F c.length D)/\W.cell? ⟨Y,1,Ns⟩=Nq (.int .i64 a):=λW h=>
  ⟨aa (bk h U) rfl,aa (bk h U) rfl⟩
 have⟨s,A,n⟩:=bC G M I;clear G M I;have Q:=Np (n q (NN q Ns));obtain⟨gx,x⟩:∃gx,gx=pre Par.mx c c.length:=⟨_,rfl⟩;have N:∀i,0<=gx i/\gx i<=1000:=by rw[x];exact y.mx
 have⟨S,b8⟩:=aQ x N;clear x N;have HC:=Np (show ss c a l=if aN c l<=a then 0 else 10 from rfl);by_cases d:aN c l<=a
 ·have HD:=Np (show decide (aN c l<=a)=NB by simpa using d);have B:=Np (HC.t (if_pos d));clear d;go_region_held3 (λv=>v.cell? Y=Nq (.slice F c.length D)/\v.cell? ⟨Y,1,Ns⟩=Nq (.int .i64 a))
   (first | exact Q)
   (first
    | (go_at_call 133;refine(iK u r _ _ c a l _ (s _ (by first | exact b | exact b.t (ai _ _))) (A _ (by first | exact b | exact b.t (ai _ _))) (NM g (by first | exact b.size | exact(b.t (ai _ Ns)).size)) y.len f.ok f.nd (λp C=>by have:=y.out.each p C;omega) f.len).mono ?_;rintro e o ⟨rfl,j⟩;rw[B];replace b:=Np (show q.gb o Ns by first | exact b.t j | exact(b.t (ai _ _)).t j);replace Q:=Np (n o b);clear j)
    | (go_at_call 92;refine(kZ u r _ c a _ (s _ (by first | exact b | exact b.t (ai _ _))) (NM g (by first | exact b.size | exact(b.t (ai _ Ns)).size)) y.len).mono ?_;rintro e o ⟨rfl,j⟩;rw[<- S];replace b:=Np (show q.gb o Ns by first | exact b.t j | exact(b.t (ai _ _)).t j);replace Q:=Np (n o b);clear j)
    | (go_at_call 96;refine(gT u r _ _ c a l _ _ (s _ (by first | exact b | exact b.t (ai _ _))) (A _ (by first | exact b | exact b.t (ai _ _))) (NM g (by first | exact b.size | exact(b.t (ai _ Ns)).size)) y.len f.ok (by have:=f.out.len;omega) b8).mono ?_;rintro e o ⟨rfl,j⟩;replace b:=Np (show q.gb o Ns by first | exact b.t j | exact(b.t (ai _ _)).t j);replace Q:=Np (n o b);clear j))
  all_goals
   have HV:=Np (show aC c (pre Par.mx c c.length) l=aC c gx l by rw[S]);generalize aC c gx l=z at HV ⊢;go_wp2;go_ret;exact⟨by rw[HV,HD];rfl,T.t b⟩
 ·have HD:=Np (show decide (aN c l<=a)=NC by simpa using d);have B:=Np (HC.t (if_neg d));clear d;refine aI 11 (λv=>v.cell? Y=Nq (.slice F c.length D)/\v.cell? ⟨Y,1,Ns⟩=Nq (.int .i64 a)) (by kernel_rfl) (by kernel_rfl) Q (λhHeld=>?_);simp only[NQ,NU,Oh,OV,Oc,Oj,Ol,Ow,On,Oa];refine tk 0 (h:=tk 1 (h:=?_));try go_frame
  refine rdc 2 λK hK=>?_;go_simp;go_at_call 133;refine(iK u r _ _ c a l _ (s _ (b.t (ai _ _))) (A _ (b.t (ai _ _))) (NM g (b.t (ai _ Ns)).size) y.len f.ok f.nd (λp C=>by have:=y.out.each p C;omega) f.len).mono ?_;rintro e o ⟨rfl,j⟩;rw[B];have R:=Np ((b.t (ai _ _)).t j);clear j;refine hK.out _ _ (n o R) (λhHeld=>?_);refine tk 3 (h:=tk 4 (h:=tku 5 (h:=tku 6 (h:=tku 7 (h:=tku 8 (h:=tku 9 (h:=tk 10 (h:=?_))))))));try go_frame
  refine⟨by kernel_rfl,?_⟩;simp only[Oi,OH];go_wp2;go_ret;exact⟨by rw[HD];rfl,T.t R⟩
def bK(a:Nu Par)(b:NH)(l:Nu NH):OI:=decide (aN a l<=b) && aC a (pre Par.mx a a.length) l
def wG(f c:NA)(d qv:Ny)(b:Nu Par)(a:NH)(l:Nu NH)(w:Nt)(j:dh f c w d b a)(o:aj f c w qv l)(i:c<=w.heap.size)(g:YOk b a)(k:POk b a l) :Oz Ya 114 #[d,qv] w λe n=>e=.returned (.bool (aC b (pre Par.mx b b.length) l))/\w.gb n Ns:=by
 have h:=yX f c d qv b a l w j o i g k.pin
 rwa [show decide (aN b l<=a)=NB by simpa using k.tall,TK] at h
end
section
open Go.RowKit Go.Shelf
attribute [local go_sem] Oper.semAt_some
structure Frm(w3:Nt)(Bl:NA)(W:Nt):Prop where
 os:W.os=w3.os
 tape:W.tape=w3.tape
 output:W.output=w3.output
 size:w3.heap.size<=W.heap.size
 keep:∀k,k<w3.heap.size->k≠Bl->W.heap[k]?=w3.heap[k]?
def Frm.refl(a:Nt)(b:NA):Frm a b a:=⟨rfl,rfl,rfl,Nv _,λ_ _ _=>rfl⟩
def Frm.stp{b:Nt}{d:NA}{G:NA->Prop}{A C:Nt}(h:Frm b d A)(a:Stp b.heap.size d G A C):Frm b d C :=
 ⟨a.os.trans h.os,a.tape.trans h.tape,a.output.trans h.output,NM h.size a.size,λk c e=>(a.keep k (NX c h.size) (.inl ⟨c,e⟩)).t (h.keep k c e)⟩
def Frm.grown{b:Nt}{d:NA}{A C:Nt}(h:Frm b d A)(a:A.gb C Ns):Frm b d C :=
 ⟨a.os.trans h.os,a.tape.trans h.tape,a.output.trans h.output,NM h.size a.size,λk c e=>(a.block k (NX c h.size) (by simp)).t (h.keep k c e)⟩
def uV{w b C E:Nt}{D:NA}(a:w.gb b Ns)(o:C.os=b.os/\C.tape=b.tape/\C.output=b.output/\b.heap.size<=C.heap.size/\∀k,k<w.heap.size->C.heap[k]?=b.heap[k]?)(c:C.gb E (Nq D))(f:w.heap.size<=D):w.gb E Ns :=
 ⟨c.os.trans (o.1.t a.os),c.tape.trans (o.2.1.t a.tape),c.output.trans (o.2.2.1.t a.output),NM a.size (NM o.2.2.2.1 c.size),λk d _=>
  (c.block k (NX d (NM a.size o.2.2.2.1)) (by intro e;cases e;omega)).t ((o.2.2.2.2 k d).t (a.block k d (by simp)))⟩
def th:NA->Prop:=λ_=>RI
def Bq{d:Nu NH}(x:Nu NH × Ny)(A:Nt)(l:NA)(o f:Obj)(h:A.heap[l]?=Nq o)(q:o.isCells=NC)(k:xpO d x A):xpO d x (A.putObj l f):=by
 obtain⟨⟨base,c,e,p,n⟩,r⟩:=k;refine⟨⟨base,c,e,p,λa=>?_⟩,r⟩;have⟨B,j,y,s,w,v,i,b,u⟩:=n a;have g:=RH A l f;exact⟨B,j,y,s,w,v,NX i g.size,(g.block B i (λe=>by cases e;rw[h] at b;cases b;cases q)).t b,u⟩
def uS(yv qv:Ny)(g:Nu Par)(a:NH)(ll R:Nu NH)(w:Nt)(q6:dh 0 w.heap.size w yv g a)(hI:aj 0 w.heap.size w qv ll)(q4:YOk g a)(hS:lF ll R)(h5:∀x∈R,0<=x/\x<5)(q5:R.Nodup)(m6:R.length<=5)(q3:∀x:Nu NH,x.length=R.length->x.Nodup->(∀y∈x,y∈R)->PIn g x) :Oz Ya 102 #[yv,qv] w λe w'=>w.gb w' Ns/\((∃x v,(aX R R.length []).find? (bK g a)=Nq x/\e=.returned (.tuple #[v,.bool NB])/\aj w.heap.size w'.heap.size w' v x) \/((aX R R.length []).find? (bK g a)=Ns/\e=.returned (.tuple #[.slice Ns 0 0,.bool NC]))):=by
 obtain⟨pv,rfl,hP⟩:=q6;obtain⟨yb,Z,rfl,v9,-⟩:=hP.cell;obtain⟨base,N,rfl,x0,-⟩:=hI.cell;obtain⟨Y,u⟩:∃Y,Y=w.heap.size:=⟨_,rfl⟩;refine(QH (n:=6)).1 ?_;refine Vz Tp.x102 rfl trivial ?_ rfl;simp only[Tryz.ntmps102,Ox,NQ,NU,Oh,OV,Oj,Ol,Ow,Rt,On,Oa]
 gi_wp2_with (refine⟨trivial,?_⟩;gi_at_call 117;refine(QH.2 (ru _ _ _ _)).mono ?_;rintro e w2 ⟨rfl,rfl⟩)
 obtain⟨F,r⟩:∃F,F=(((w.alloc (.cells #[.slice yb g.length Z,a] 91)).alloc (.cells #[.slice Ns 0 0] 29)).alloc (.cells #[.bool NC] 4)).alloc (.cells #[.slice base ll.length N] 29):=⟨_,rfl⟩;have e3:(((w.alloc (.cells #[.slice yb g.length Z,a] 91)).alloc (.cells #[.slice Ns 0 0] 29)).alloc (.cells #[.bool NC] 4)).alloc (.cells #[.slice base ll.length N] 29)=F:=r.symm;rw[e3];clear e3;rw[<- u];have S:∀(w:Nt) (o:Obj),(w.alloc o).heap.size=w.heap.size+1:=λw o=>NW w o;have ha:∀(w:Nt) (o:Obj) (k:NA) (p:Obj),w.heap[k]?=Nq p->(w.alloc o).heap[k]?=Nq p:=λw o k p h=>aE h;have X:w.gb F Ns:=by
  rw[r];exact(((Nr _ _ Ns).t (Nr _ _ Ns)).t (Nr _ _ Ns)).t (Nr _ _ Ns)
 have q2:F.heap.size=Y+4:=by rw[r,S,S,S,S,u]
 have y3:F.heap[Y]?=Nq (.cells #[.slice yb g.length Z,a] 91 (0,0)):=by rw[r,u];exact ha _ _ _ _ (ha _ _ _ _ (ha _ _ _ _ (NL w _)))
 have r3:F.heap[Y+1]?=Nq (.cells #[.slice Ns 0 0] 29 (0,0)):=by
  rw[r];refine ha _ _ _ _ (ha _ _ _ _ ?_);have:=NL (w.alloc (.cells #[.slice yb g.length Z,a] 91)) (.cells #[.slice Ns 0 0] 29)
  rwa [S,<- u] at this
 have b3:F.heap[Y+2]?=Nq (.cells #[.bool NC] 4 (0,0)):=by
  rw[r];refine ha _ _ _ _ ?_;have:=NL ((w.alloc (.cells #[.slice yb g.length Z,a] 91)).alloc (.cells #[.slice Ns 0 0] 29)) (.cells #[.bool NC] 4)
  rwa [S,S,<- u] at this
 have l3:F.heap[Y+3]?=Nq (.cells #[.slice base ll.length N] 29 (0,0)):=by
  rw[r];have:=NL (((w.alloc (.cells #[.slice yb g.length Z,a] 91)).alloc (.cells #[.slice Ns 0 0] 29)).alloc (.cells #[.bool NC] 4)) (.cells #[.slice base ll.length N] 29)
  rwa [S,S,S,<- u] at this
 have q9:=(hI.kept X).mono (Nv _) X.size;have t1:=Np ((hP.kept X));have⟨n6,n9,s5,z1,n7,b9⟩:=rS r3 b3 y3 q2 X u;clear S ha r hI hP r3 b3 y3 X u;refine iQ rfl (by omega) (gf:=149) (lb:=#[.pointer (Nq (Y+3:NA))]) rfl trivial (enters_of Tp.x149 (by kernel_rfl) rfl)
  (nI 5 (Y+3) base N ll R hS h5 q5 m6 F l3 q9) (UA _ _) (λ_=>rfl) (G0:=th) (λh=>h) (by omega) (Bq)
  (λpr G W=>(∀x∈pr.map Su,bK g a x=NC)/\G=th/\Frm F (Y+3) W)
  (λc pr G W=>c=.ret/\∃q x v lo hi,pr.map Su=q++[x]/\(∀y∈q,bK g a y=NC)/\bK g a x=NB/\(W.os=F.os/\W.tape=F.tape/\W.output=F.output/\F.heap.size<=W.heap.size/\∀k,k<Y->W.heap[k]?=F.heap[k]?) /\
   W.heap[Y+1]?=Nq (.cells #[v] 29 (0,0))/\W.heap[Y+2]?=Nq (.cells #[.bool NB] 4 (0,0))/\aj lo hi W v x/\(∀k,lo<=k->k<hi->G k)/\hi<=W.heap.size/\Y<=lo)
  (λs G A h k H=>by rw[h.2.1] at H;exact H.elim)
  (λs G A C h f=>⟨h.1,h.2.1,h.2.2.stp f⟩)
  (λc s G A C h f=>by
   obtain⟨hc,q,x,v,lo,hi,h1,h2,h3,⟨o1,o2,o3,o4,o5⟩,h4,h5,h6,h7,h8,h9⟩:=h;refine⟨hc,q,x,v,lo,hi,h1,h2,h3,⟨f.os.trans o1,f.tape.trans o2,f.output.trans o3,NM o4 f.size,λk H=>(f.keep k (by omega) (.inl ⟨by omega,by omega⟩)).t (o5 k H)⟩,(f.keep _ (aJ h4) (.inl ⟨by omega,by omega⟩)).t h4,(f.keep _ (aJ h5) (.inl ⟨by omega,by omega⟩)).t h5,?_,h7,NM h8 f.size,h9⟩;obtain⟨b',c',e,hl,hr⟩:=h6;refine⟨b',c',e,hl,λL=>?_⟩;have⟨B,o,cs,fr,e1,e2,e3,e4,e5⟩:=hr L;exact⟨B,o,cs,fr,e1,e2,e3,(f.keep B (by omega) (.inr (h7 B e2 e3))).t e4,e5⟩)
  ⟨by simp,rfl,Frm.refl _ _⟩
  (λx=>{ tmps:=#[.agg #[.slice yb g.length Z,a],.slice base ll.length N,.pointer (Nq Y),NG,.pointer (Nq (Y+1:NA)),.pointer (Nq (Y+1+1:NA)),x.2,.slice base ll.length N,.func (.func 149) #[] #[.pointer (Nq (Y+1+1+1:NA))],x.2,NG,NG,NG,NG,NG],defers:=[] }) ?assign ?body ?done ?stop
 case assign=>
  intro l x W K hK
  gi_wp2
  exact hK
 case body=>
  rintro l pr G x W ⟨U,rfl,b⟩ hx -
  have d6:=(b.keep Y (by omega) (by omega)).t s5;have m5:=(b.keep (Y+1) (by omega) (by omega)).t n6;have m9:=(b.keep (Y+2) (by omega) (by omega)).t n9;have n2:aD 0 W.heap.size W (.slice yb g.length Z) g:=by
   have⟨b',c',e,hl,hr⟩:=t1.out;refine⟨b',c',e,hl,λL=>?_⟩;have⟨B,o,cs,fr,e1,e2,e3,e4,e5⟩:=hr L;have:=b9.out;have:=b.size;exact⟨B,o,cs,fr,e1,e2,by omega,(b.keep B (by omega) (by omega)).t e4,e5⟩
  obtain⟨a9,I⟩:=hx;have T:=q3 x.1 I.1 I.2.1 I.2.2.1;have q1:x.1.length<=5:=by have:=I.1;omega
  obtain⟨Q,x2⟩:=x;obtain⟨xb,xc,m4,-,-⟩:=a9.cell;dsimp only at m4 T q1 I;subst m4;have c1:W.cell? Y=Nq (.slice yb g.length Z):=aa d6 rfl;have c2:W.cell? ⟨Y,1,Ns⟩=Nq (.int .i64 a):=aa d6 rfl;obtain⟨z,hz⟩:∃z,z=bK g a Q:=⟨_,rfl⟩;have m8:Oz Ya 114 #[.agg #[.slice yb g.length Z,a],.slice xb Q.length xc] W λe w'=>e=.returned (.bool z)/\W.gb w' Ns:=by
   rw[hz];exact yX 0 W.heap.size _ _ g a Q W ⟨_,rfl,n2⟩ a9 (Nv _) q4 T
  have⟨n8,HZ⟩:=aQ m8 hz;have s6:=Np (show aj 0 W.heap.size W (.slice xb Q.length xc) Q from a9);have⟨s7,d,c3,s8,t5⟩:=nW I b U m5 m9;clear m8 hz a9 I b U m5 m9 d6 n2 T;cases z with
  | false=>
   gi_wp2_with (refine⟨trivial,?_⟩;gi_at_call 114;refine(CallsIn.inRound l (QH.2 n8)).mono ?_;rintro e w5 ⟨rfl,M⟩)
   refine⟨th,⟨M.tape,M.size,λk H _ _=>M.block k H (by simp),λk H=>H.elim⟩,?_,rfl,d.grown M⟩;intro y hy;rw[Qm] at hy;rcases Qb.1 hy with h | h
   ·exact c3 y h
   ·have e:y=Q:=by simpa using h
    rw[e,<- HZ]
  | true=>
   have w9:=d.out.size
   gi_wp2_with (first
    | (refine⟨trivial,?_⟩;gi_at_call 114;refine(CallsIn.inRound l (QH.2 n8)).mono ?_;rintro e w5 ⟨rfl,M⟩;have i:=Np M;clear M)
    | (refine⟨trivial,?_⟩;gi_at_call 84;refine(CallsIn.inRound l (QH.2 (oX 0 w5.heap.size _ Q w5 ((s6.kept i).mono (Nv _) i.size) (Nv _) s7.2.2.2 (by omega)))).mono ?_;rintro e w6 ⟨v',rfl,b0,e7⟩;obtain⟨vb,vc,rfl,-,-⟩:=e7.cell;have r6:=bk (i.t b0) s8;have b6:=bk (i.t b0) t5;have s4:=aa (o:=0) r6 rfl;have p6:=aA (o:=0) r6;have s3:=aa (o:=0) b6 rfl;have p5:=aA (o:=0) b6;have P:=Np b0;have t3:=Np e7;have s9:=Np r6;have t6:=Np b6;clear b0 e7 r6 b6))
   have x9:=i.out.size;have x7:=P.out.size;have e6:=b9.out;obtain⟨C,j⟩:∃C,C=(w6.setCell (Y+1:NA) (.slice vb Q.length vc)).setCell (Y+2:NA) (.bool NB):=⟨_,rfl⟩;have eC:(w6.setCell (Y+1:NA) (.slice vb Q.length vc)).setCell (Y+1+1:NA) (.bool NB)=C:=j.symm;rw[eC];have O:∀k,k≠Y+1->k≠Y+2->C.heap[k]?=w6.heap[k]?:=λk k1 k2=>by
    rw[j];exact(Pn _ _ _ k (λe=>k2 e)).t (Pn _ _ _ k (λe=>k1 e))
   have cr:C.heap[Y+1]?=Nq (.cells #[.slice vb Q.length vc] 29 (0,0)):=by
    rw[j,Pn _ _ _ (Y+1) (λe=>by have e':Y+1=Y+2:=e;omega),ar s9];rfl
   have cb:C.heap[Y+2]?=Nq (.cells #[.bool NB] 4 (0,0)):=by
    rw[j,ar ((Pn _ _ _ (Y+2) (λe=>by have e':Y+2=Y+1:=e;omega)).t t6)];rfl
   have cs:C.heap.size=w6.heap.size:=by rw[j];simp[Qq]
   have n3:∀k,k<W.heap.size->w6.heap[k]?=W.heap[k]?:=λk H=>(P.block k (by omega) (by simp)).t (i.block k H (by simp));refine⟨λk=>w5.heap.size<=k/\k<w6.heap.size,⟨?_,by omega,λk H hn _=>?_,λk H=>.inr (by have:=H.1;omega)⟩,rfl,pr.map Su,Q,.slice vb Q.length vc,w5.heap.size,w6.heap.size,by simp,c3,HZ.symm,⟨?_,?_,?_,by omega,λk H=>?_⟩,cr,cb,?_,λk h1 h2=>⟨h1,h2⟩,by omega,by omega⟩
   ·rw[j];exact P.tape.trans i.tape
   ·rw[O k (by omega) (by omega)];exact n3 k H
   ·rw[j];exact(P.os.trans i.os).t d.os
   ·rw[j];exact(P.tape.trans i.tape).t d.tape
   ·rw[j];exact(P.output.trans i.output).t d.output
   ·rw[O k (by omega) (by omega),n3 k (by omega)];exact d.keep k (by omega) (by omega)
   ·have⟨b',c',e,hl,hr⟩:=t3.out;refine⟨b',c',e,hl,λL=>?_⟩;have⟨B,o,g7,fr,e1,e2,e3,e4,e5⟩:=hr L;exact⟨B,o,g7,fr,e1,e2,e3,(O B (by omega) (by omega)).t e4,e5⟩
 case done=>
  rintro D ys G W hD q0 ⟨U,rfl,b⟩ hK r5;have r6:=(b.keep (Y+1) (by omega) (by omega)).t n6;have b6:=(b.keep (Y+2) (by omega) (by omega)).t n9;have s4:=aa (o:=0) r6 rfl;have p6:=aA (o:=0) r6;have s3:=aa (o:=0) b6 rfl;have p5:=aA (o:=0) b6;have⟨d,c3⟩:=aQ b U;clear b U
  gi_wp2
  have e6:=b9.out;obtain⟨C,j⟩:∃C,C=(W.setCell (Y+1:NA) (.slice Ns 0 0)).setCell (Y+2:NA) (.bool NC):=⟨_,rfl⟩;have eC:(W.setCell (Y+1:NA) (.slice Ns 0 0)).setCell (Y+1+1:NA) (.bool NC)=C:=j.symm;rw[eC];have O:∀k,k≠Y+1->k≠Y+2->C.heap[k]?=W.heap[k]?:=λk k1 k2=>by
   rw[j];exact(Pn _ _ _ k (λe=>k2 e)).t (Pn _ _ _ k (λe=>k1 e))
  have cr:C.heap[Y+1]?=Nq (.cells #[.slice Ns 0 0] 29 (0,0)):=by
   rw[j,Pn _ _ _ (Y+1) (λe=>by have e':Y+1=Y+2:=e;omega),ar r6];rfl
  have cb:C.heap[Y+2]?=Nq (.cells #[.bool NC] 4 (0,0)):=by
   rw[j,ar ((Pn _ _ _ (Y+2) (λe=>by have e':Y+2=Y+1:=e;omega)).t b6)];rfl
  have q8:C.heap[D]?=Nq (.deferred (Nq [])):=(O D (by omega) (by omega)).t hK;have hg:=RH C D (.deferred Ns);have er:=(hg.block (Y+1) (aJ cr) (by simp;omega)).t cr;have eb:=(hg.block (Y+2) (aJ cb) (by simp;omega)).t cb;have cs:C.heap.size=W.heap.size:=by rw[j];simp[Qq]
  have x3:=d.out.size;refine⟨by simp,.inl ⟨_,_,rfl,Vg q8,?_⟩⟩;refine⟨.tuple #[.slice Ns 0 0,.bool NC],by simp[Qo,YQ,go_sem,OA,er,eb],?_,.inr ⟨?_,rfl⟩⟩
  ·refine uV n7 ⟨by rw[j];exact d.os,by rw[j];exact d.tape,by rw[j];exact d.output,by omega,λk H=>?_⟩ hg (by omega);rw[O k (by omega) (by omega)];exact d.keep k (by omega) (by omega)
  ·rw[<- q0];exact Sa.2 λy hy=>by rw[c3 y hy];simp
 case stop=>
  rintro D c pr G W hD ⟨t,ht⟩ ⟨rfl,h⟩ hK r5;obtain⟨q,x,v,lo,hi,h1,h2,h3,ho,cr,cb,m7,-,h8,h9⟩:=h;have e6:=b9.out;have hg:=RH W D (.deferred Ns);have er:=(hg.block (Y+1) (aJ cr) (by simp;omega)).t cr;have eb:=(hg.block (Y+2) (aJ cb) (by simp;omega)).t cb;have V:aj w.heap.size (W.putObj D (.deferred Ns)).heap.size (W.putObj D (.deferred Ns)) v x:=by
   obtain⟨b',c',e,hl,hr⟩:=m7;refine⟨b',c',e,hl,λL=>?_⟩;have⟨B,o,g7,fr,e1,e2,e3,e4,e5⟩:=hr L;exact⟨B,o,g7,fr,e1,by omega,NX e3 (NM h8 hg.size),(hg.block B (by omega) (λe=>by cases e;rw[hK] at e4;cases e4)).t e4,e5⟩
  obtain⟨vb,vc,rfl,-,-⟩:=V.cell;have⟨t2,HO⟩:=aQ V ho;have HH:=Np (NY h1 (NY h2 h3));have HT:=Np ht;clear m7 V ho h1 h2 h3 ht
  gi_wp2
  refine⟨by simp,.inl ⟨_,_,rfl,Vg hK,?_⟩⟩;refine⟨.tuple #[.slice vb x.length vc,.bool NB],by simp[Qo,YQ,go_sem,OA,er,eb],?_,.inl ⟨x,_,?_,rfl,t2⟩⟩
  ·exact uV n7 (by rw[<- e6];exact HO) hg (by omega)
  ·rw[HT,HH.1,Qv];rw[List.find?_append,Sa.2 (λy hy=>by rw[HH.2.1 y hy];simp)];simp[HH.out.2.2]
end
section
open Go.RowKit
def yx{n:NA}{x:NH}(h:x∈bn n):0<=x/\x<n:=by
 simp only[bn,Qp,Py] at h;obtain⟨i,a,rfl⟩:=h;omega
def nJ(n:NA):(bn n).Pairwise (·<·):=by
 unfold bn;rw[List.pairwise_map];exact List.pairwise_lt_range.imp λh=>by omega
def ri{l:Nu NH}(h:l.Pairwise (·<·)):l.Nodup:=h.imp λh=>by omega
def kS{l:Nu NH}(a:l.length<=12)(h:l.Pairwise (·<·)):lF l l:=Da a λi b=>by
 rw[ND (by omega),ND b];exact Int.le_of_lt (Rq.1 h i (i+1) (by omega) b (by omega))
def fK(c:Nu NH):Nu (Nu NH):=aX c c.length []
def tW(d:Nu Par)(a:NH)(b:OI × Nu NH)(c:Nu NH):OI × Nu NH :=
 match (fK c).find? (bK d a) with
 | some p=>(NB,if b.1=NB/\nQ p b.2=NC then b.2 else p)
 | none=>b
def eL(b:Nu Par)(a:NH)(L:Nu (Nu NH)):OI × Nu NH:=L.foldl (tW b a) (NC,[])
def jQ(b:Nu Par)(a:NH)(L:Nu (Nu NH))(c:Nu NH):eL b a (L++[c])=tW b a (eL b a L) c:=by simp[eL]
def CB(b:Nu Par)(a:NH)(B:NA)(w0:Nt)(done:Nu (Nu NH))(G:NA->Prop)(W:Nt):Prop :=
 G=th/\w0.gb W (Nq B)/\∃c,W.heap[B]?=Nq (.cells #[.func (.func 98) #[] #[],c,.bool (eL b a done).1] 108 (0,0))/\aj 0 W.heap.size W c (eL b a done).2
def aj.keptT{f g O:NA}{w d:Nt}{v:Ny}{l:Nu NH}(h:aj f g w v l)(r:w.gb d (Nq O)){b:NJ Ny}{k:NZ}{t:NA × NA}(i:w.heap[O]?=Nq (.cells b k t))(a:k≠3):aj f g d v l:=by
 obtain⟨base,c,rfl,q,n⟩:=h;refine⟨base,c,rfl,q,λp=>?_⟩;have⟨B,o,A,s,z,y,x,j,u⟩:=n p;refine⟨B,o,A,s,z,y,x,blk r (λe=>?_) j,u⟩;cases e;rw[j] at i;cases i;exact a rfl
def Du(b:Nu Par)(a:NH)(Y B:NA)(w0:Nt)(w:NO OX)(u:NA)(G:w0.heap[Y]?=Nq (.cells #[.slice w b.length u,a] 91 (0,0)))(a7:aD 0 w0.heap.size w0 (.slice w b.length u) b){a8:NJ Ny}{f0:NA × NA}(M:w0.heap[B]?=Nq (.cells a8 108 f0))(C:YOk b a)(c:Nu NH)(A:c.Pairwise (·<·))(D:∀x∈c,0<=x/\x<b.length)(Z:c.length<=5)(a6:Y≠B)(done:Nu (Nu NH))(W:Nt)(hI:CB b a B w0 done th W)(v:Ny)(U:aj 0 W.heap.size W v c) :Oz Ya 101 #[v,.pointer (Nq Y),.pointer (Nq B)] W λe W'=>e=.returned (.bool NC)/\CB b a B w0 (done++[c]) th W'/\W.gb W' (Nq B):=by
 obtain⟨-,h,R,hB,F⟩:=hI;obtain⟨vb,vc,rfl,-,-⟩:=U.cell;have n:W.heap[Y]?=Nq (.cells #[.slice w b.length u,a] 91 (0,0)):=(h.block Y (aJ G) (λe=>a6 (by cases e;rfl))).t G;have H:aD 0 W.heap.size W (.slice w b.length u) b:=by
  obtain⟨b',c',e,hl,hr⟩:=a7;refine⟨b',c',e,hl,λX=>?_⟩;have⟨B',o,cs,fr,e1,e2,e3,e4,e5⟩:=hr X;cases e;exact⟨B',o,cs,fr,e1,e2,NX e3 h.size,(h.block B' e3 (λe'=>by cases e';rw[e4] at M;cases M)).t e4,e5⟩
 have c0:W.cell? Y=Nq (.slice w b.length u):=aa n rfl;have c1:W.cell? ⟨Y,1,Ns⟩=Nq (.int .i64 a):=aa n rfl;have k:=uS (.agg #[.slice w b.length u,a]) (.slice vb c.length vc) b a c c W ⟨_,rfl,H⟩ U C (kS (by omega) A) (λx i=>by have:=D x i;have:=C.len;omega) (ri A) Z (λx hl hn i=>⟨λy hy=>D y (i y hy),hn,by omega⟩);have⟨S,T,r,O⟩:=cJ k hB F h;clear k hB F h n H U;cases hfd:(aX c c.length []).find? (bK b a) with
 | none=>
  rw[hfd] at S;have q:=Np hfd;clear hfd;go_enter Tp.x101,Zw;go_wp2_with (go_at_call 102;refine(S).mono ?_;rintro e w2 ⟨d,⟨x,P,i,-⟩ | ⟨-,rfl⟩⟩;cases i);go_ret;have g:tW b a (eL b a done) c=eL b a done:=by unfold tW;rw[show(fK c).find? _=Ns from q]
  exact⟨rfl,⟨rfl,O.andThen d (by simp),R,by rw[jQ,g];exact bk d T,by rw[jQ,g];exact(r.kept d).mono (Nv _) d.size⟩,(NN _ _).andThen d (by simp)⟩
 | some p=>
  rw[hfd] at S;have q:=Np hfd;clear hfd;obtain⟨s,V⟩:∃s,s=(eL b a done).1:=⟨_,rfl⟩;rw[<- V] at T;have HS:=Np V;clear V;go_enter Tp.x101,Zw;go_wp2_with (first
   | (go_at_call 102;refine(S).mono ?_;rintro e w2 ⟨d,⟨x,P,i,rfl,I⟩ | ⟨i,-⟩⟩<;>cases i;have f:=Np d;have N:=Np I;clear d I)
   | (go_at_call 103;refine(EW B s R P (eL b a done).2 p w2 (bk f T) ((r.kept f).mono (Nv _) f.size) (N.mono (OE _) (Nv _))).mono ?_;rintro e l ⟨rfl,hT⟩;have z:=Np hT;clear hT))
  go_ret;have g:tW b a (eL b a done) c=(NB,if s=NB/\nQ p (eL b a done).2=NC then(eL b a done).2 else p):=by unfold tW;rw[show(fK c).find? _=Nq p from q,HS]
  have L:=bk f T;have i:=r.out.kept f;have gW:W.gb l (Nq B):=(((NN W (Nq B)).andThen f (by simp))).andThen z.1 (λj e=>.inr e);have h3:aj 0 l.heap.size l (if s=NB/\nQ p (eL b a done).2=NC then R else P) (if s=NB/\nQ p (eL b a done).2=NC then(eL b a done).2 else p):=by
   have t1:aj 0 l.heap.size l R (eL b a done).2:=(i.keptT z.1 L (by decide)).mono (Nv _) (NM f.size z.1.size);have t2:aj 0 l.heap.size l P p:=(N.keptT z.1 L (by decide)).mono (OE _) z.1.size;by_cases Q:s=NB/\nQ p (eL b a done).2=NC
   ·rw[if_pos Q,if_pos Q];exact t1
   ·rw[if_neg Q,if_neg Q];exact t2
  exact⟨rfl,⟨rfl,O.andThen gW (λj e=>.inr e),_,by rw[jQ,g];exact z.2,by rw[jQ,g];exact h3⟩,gW⟩
def POk.nil(b:Nu Par){a:NH}(h:1<=a):POk b a []:=⟨by simp,List.nodup_nil,by simp[aN];omega,by simp⟩
def Bz{n:NA}{c:Nu NH}(h:c.Sublist (bn n)):c.Pairwise (·<·)/\(∀x∈c,0<=x/\x<n)/\c.length<=n :=
 ⟨(nJ n).sublist h,λx a=>yx (h.subset a),by have:=h.length_le;rwa [bN] at this⟩
def Jl{d:Nu Par}{a:NH}{Y B:NA}{w0:Nt}{l:NO OX}{j:NA}(o:w0.heap[Y]?=Nq (.cells #[.slice l d.length j,a] 91 (0,0)))(p:aD 0 w0.heap.size w0 (.slice l d.length j) d){u:NJ Ny}{D:NA × NA}(i:w0.heap[B]?=Nq (.cells u 108 D))(g:YOk d a)(n:Y≠B) :Cb w0.heap.size (bn d.length) 101 #[.pointer (Nq Y),.pointer (Nq B)] (CB d a B w0):=by
 refine⟨?_,?_,enters_of Tp.x101 (by kernel_rfl) rfl,?_⟩
 ·rintro s G A C ⟨rfl,t,F,r,x⟩ b;exact⟨rfl,t.andThen b (by simp),F,bk b r,(x.kept b).mono (Nv _) b.size⟩
 ·rintro s G A ⟨rfl,-⟩ k h;exact h.elim
 ·rintro done G W v c w y - f -
  have⟨t,r,x⟩:=Bz f;obtain rfl:=w.1;refine(Du d a Y B w0 l j o p i g c t r (by have:=g.len;omega) n done W w v y).mono ?_;rintro e I ⟨rfl,q,b⟩;have z:=aJ i;exact⟨rfl,th,q,b.tape,b.size,λk h H _=>b.block k h (λe=>by cases e;omega),λk h=>h.elim⟩
def Gc{a:Nu Par}{d:NH}{Y B:NA}{w0:Nt}{n:NO OX}{l:NA}(i:w0.heap[Y]?=Nq (.cells #[.slice n a.length l,d] 91 (0,0)))(j:aD 0 w0.heap.size w0 (.slice n a.length l) a)(f:YOk a d)(g:Y≠B)(o:w0.heap[B]?=Nq (.cells #[.func (.func 98) #[] #[],.slice Ns 0 0,.bool NC] 108 (0,0))){b:NO OX}{k:NA}(r:aj 0 w0.heap.size w0 (.slice b a.length k) (bn a.length)) :Oz Ya 82 #[.slice b a.length k,.func (.func 101) #[] #[.pointer (Nq Y),.pointer (Nq B)]] w0 λe p=>e=.returned (.bool NC)/\CB a d B w0 (eZ (bn a.length) 0) th p:=by
 have s:a.length<=5:=f.len;have h:=LZ (b:=b) (c:=k) (ll:=bn a.length) (Jl i j o f g) (by rw[bN];omega) (kS (by rw[bN];omega) (nJ _)) (by rw[bN];exact r) (G:=th) ⟨rfl,NN _ _,_,o,aj.nil _ _ _⟩;rw[bN] at h;refine h.mono ?_;rintro e p ⟨q,t,h⟩;obtain rfl:=h.1;exact⟨q,h⟩
def Gd(pv:Ny)(c:Nu Par)(b:NH)(w:Nt)(Q:aD 0 w.heap.size w pv c)(z:YOk c b) :Oz Ya 44 #[.agg #[pv,b]] w λe O=>∃v,e=.returned (.tuple #[v,.int .i64 0])/\w.gb O Ns/\aj 0 O.heap.size O v (eL c b (eZ (bn c.length) 0)).2:=by
 obtain⟨N,M,rfl,b0,-⟩:=Q.cell;have⟨HP,i⟩:=aQ Q z;clear Q z;go_enter Tp.x44,Tryz.ntmps44;go_upto_region 4 with(go_at_call 81;refine(jO 0 w.heap.size _ _ c b [] _ (HP.kept (Nr _ _ Ns)) (aj.nil _ _ _) (by simp) i (POk.nil c i.l1)).mono ?_;rintro e w2 ⟨rfl,G⟩;have X:=Np ((Nr w (.cells #[.slice N c.length M,b] 24) Ns).t G);clear G);obtain⟨Y,k⟩:∃Y,Y=w2.heap.size:=⟨_,rfl⟩;obtain⟨j,g⟩:∃j,j=w2.alloc (.cells #[.slice N c.length M,b] 91):=⟨_,rfl⟩;rw[<- k,<- g];have C:j.heap[Y]?=Nq (.cells #[.slice N c.length M,b] 91 (0,0)):=by rw[g,k];exact NL _ _
 have F:w.gb j Ns:=X.out.t (by rw[g];exact Nr _ _ Ns);have⟨r,L⟩:=aQ C F;clear k g C F;have b7:∀(a:OX) (R:Fn) (x y:NJ Ny) (m:Mode) (w:Nt),(store a (.func R x y) m).run Ya w=stored Ya w a (.func R x y) m:=λa R x y m w=>run_store _ w a _ m rfl;go_upto_region 5 with(fail);obtain⟨B,q⟩:∃B,B=j.heap.size:=⟨_,rfl⟩;obtain⟨u,f⟩:∃u,u=j.alloc (.cells #[.func (.func 98) #[] #[],.slice Ns 0 0,.bool NC] 108):=⟨_,rfl⟩;rw[<- q,<- f];have I:u.heap[B]?=Nq (.cells #[.func (.func 98) #[] #[],.slice Ns 0 0,.bool NC] 108 (0,0)):=by rw[f,q];exact NL _ _
 have p:j.gb u Ns:=by rw[f];exact Nr _ _ Ns
 have h:=bk p r;have P:w.heap.size<=B:=by have:=L.out.size;omega
 have⟨Z,T⟩:=aQ I h;have s:=Np (L.t p);have S:=Np (show Y≠B by have:=aJ r;omega);have c0:=aa h (o:=0) rfl;have c1:=aa h (o:=1) rfl;clear q f I p h r;have hn:c.length<=1000:=by have:=i.out.len;omega
 go_upto_region 6 with(first
  | (go_at_call 100;refine(kY N c.length M b u hn).mono ?_;rintro e w5 ⟨v5,rfl,D,n⟩;obtain⟨b5,k5,e5,-,-⟩:=n.cell;rw[bN] at e5;subst e5;have d:=Np D;have V:=Np n;clear D n)
  | (go_at_call 82;refine(Gc (bk d T) ((HP.kept (s.t d)).mono (Nv _) (s.t d).size) i S (bk d Z) (V.mono (OE _) (Nv _))).mono ?_;rintro e w6 ⟨rfl,-,A,bv,H,l⟩;obtain⟨b6,k6,rfl,-,-⟩:=l.cell;have c6:=aa H (o:=1) rfl;have U:=Np l;have W:=Np A;clear l A H))
 go_wp2;go_ret2;exact⟨_,rfl,kA (s.t d) W P,U⟩
end
section
open Go.RowKit
def bQ(lo hi B o:NA)(w:Nt)(L:Nu (Nu NH)):Prop :=
 ∃a,w.heap[B]?=Nq (.cells a 29 (0,0))/\∀i,i<L.length->∃l x,L[i]?=Nq l/\a[o+i]?=Nq x/\aj lo hi w x l
def te:NA->Nu (Nu NH)->Nu (Nu NH)
 | 0,L=>L
 | j+1,L=>match L[j+1]?,L[j]? with
  | some a,Nq b=>if cU a b<0 then te j ((L.set (j+1) b).set j a) else L
  | _,_=>L
def cC(k:NA)(L:Nu (Nu NH)):Nu (Nu NH):=(Oo k).foldl (λL i=>te i L) L
def jX(k:NA)(L:Nu (Nu NH)):cC (k+1) L=te k (cC k L):=by simp[cC,RF]
def FI(j:NA)(L:Nu (Nu NH)):(te j L).length=L.length:=by
 induction j generalizing L with
 | zero=>rfl
 | succ j a=>
  unfold te;split
  ·split
   ·rw[a];simp
   ·rfl
  ·rfl
def pK(k:NA)(L:Nu (Nu NH)):(cC k L).length=L.length:=by
 induction k with
 | zero=>rfl
 | succ k a=>rw[jX,FI,a]
section
variable{lo hi B o:NA}{w w':Nt}{L:Nu (Nu NH)}
def bQ.kept{r:NO NA}(h:bQ lo hi B o w L)(f:w.gb w' r)(d:∀R,r=Nq R->R≠B/\(R<lo\/hi<=R):=by simp):bQ lo hi B o w' L:=by
 obtain⟨k,j,g⟩:=h;refine⟨k,blk f (λe=>(d B e.symm).1 rfl) j,λi hi=>?_⟩;have⟨l,x,a,b,c⟩:=g i hi;exact⟨l,x,a,b,c.kept f λR e=>(d R e).2⟩
def bQ.at{k:NA}(h:bQ lo hi B o w L)(f:k<L.length):∃l e d,L[k]?=Nq l/\w.cell? ⟨B,o+k,Ns⟩=Nq (.slice e l.length d)/\aj lo hi w (.slice e l.length d) l:=by
 obtain⟨j,i,g⟩:=h;have⟨l,x,a,b,c⟩:=g k f;obtain⟨e,d,rfl,-,-⟩:=c.cell;exact⟨l,e,d,a,by simp[OA,i,b],c⟩
def bQ.thaw{k:NA}(h:bQ lo hi B o w L):w.frozen? ⟨B,o+k,Ns⟩=NC:=by
 obtain⟨c,a,b⟩:=h;exact aA a
def aj.setT{v x:Ny}{l:Nu NH}{k:NA}{s:NJ Ny}(h:aj lo hi w v l)(c:w.heap[B]?=Nq (.cells s 29 (0,0))):aj lo hi (w.setCell ⟨B,k,Ns⟩ x) v l:=by
 obtain⟨base,b,rfl,i,f⟩:=h;refine⟨base,b,rfl,i,λg=>?_⟩;have⟨C,o,a,j,r,q,p,d,n⟩:=f g;refine⟨C,o,a,j,r,q,p,(Pn _ _ _ C (λe=>?_)).t d,n⟩;have e:C=B:=e;subst e;rw[d] at c;cases c
def bQ.step{j:NA}{y v:Ny}(h:bQ lo hi B o w L)(d:w.cell? ⟨B,o+j,Ns⟩=Nq y):(w.setCell ⟨B,o+(j+1),Ns⟩ v).cell? ⟨B,o+j,Ns⟩=Nq y/\(w.setCell ⟨B,o+(j+1),Ns⟩ v).frozen? ⟨B,o+j,Ns⟩=NC:=by
 obtain⟨c,a,-⟩:=h;have b:(w.setCell ⟨B,o+(j+1),Ns⟩ v).heap[B]?=Nq (.cells (c.setIfInBounds (o+(j+1)) v) 29 (0,0)):=by rw[ar a]
 have e:c[o+j]?=Nq y:=by simpa[OA,a] using d
 exact⟨aa b (by rw[Po (by omega)];exact e),aA b⟩
def bQ.swap{j:NA}{a b:Nu NH}{x y:Ny}(h:bQ lo hi B o w L)(u:L[j+1]?=Nq a)(I:L[j]?=Nq b)(s:w.cell? ⟨B,o+(j+1),Ns⟩=Nq x)(r:w.cell? ⟨B,o+j,Ns⟩=Nq y)(k:aj lo hi w x a)(g:aj lo hi w y b) :bQ lo hi B o ((w.setCell ⟨B,o+(j+1),Ns⟩ y).setCell ⟨B,o+j,Ns⟩ x) ((L.set (j+1) b).set j a):=by
 obtain⟨f,c,v⟩:=h;have d:(w.setCell ⟨B,o+(j+1),Ns⟩ y).heap[B]?=Nq (.cells (f.setIfInBounds (o+(j+1)) y) 29 (0,0)):=by rw[ar c]
 have A:((w.setCell ⟨B,o+(j+1),Ns⟩ y).setCell ⟨B,o+j,Ns⟩ x).heap[B]?=Nq (.cells ((f.setIfInBounds (o+(j+1)) y).setIfInBounds (o+j) x) 29 (0,0)):=by rw[ar d]
 obtain⟨t,-⟩:=NT.1 u;have F:f[o+(j+1)]?=Nq x:=by simpa[OA,c] using s
 have D:f[o+j]?=Nq y:=by simpa[OA,c] using r
 have H:=(Nz.1 F).1;have G:=(Nz.1 D).1;refine⟨_,A,λi hi=>?_⟩;simp only[Ur] at hi;by_cases e:i=j
 ·subst e;refine⟨a,x,Sz (by rw[Ur];omega),Rd (by rw[Array.size_setIfInBounds];omega),(k.setT c).setT d⟩
 ·by_cases C:i=j+1
  ·subst C;refine⟨b,y,by rw[Ri (by omega)];exact Sz (by omega),by rw[Po (by omega)];exact Rd (by omega),(g.setT c).setT d⟩
  ·have⟨l,z,q,p,n⟩:=v i hi;refine⟨l,z,by rw[Ri (by omega),Ri (by omega)];exact q,by rw[Po (by omega),Po (by omega)];exact p,(n.setT c).setT d⟩
end
def tu(lo hi B o:NA)(c:NA)(L:Nu (Nu NH))(w:Nt)(hI:bQ lo hi B o w L)(k5:hi<=w.heap.size)(k8:L.length<=1000) :Oz Ya 188 #[.slice (Nq ⟨B,o,Ns⟩) L.length c,.int .i64 (0:NA),L.length,.func (.func 122) #[] #[]] w λe w'=>e=.returned (.tuple #[])/\w.gb w' (Nq B)/\bQ lo hi B o w' (cC L.length L):=by
 have HI:=Np hI;have g9:(L.length:NH)<=1000:=by omega
 clear hI;go_enter Tp.x188,Tryz.ntmps188;go_wp2;go_loopw [8] (λV wr=>∃k:NA,V=.int .i64 (k+1:NA)/\k<=1000/\w.gb wr (Nq B)/\bQ lo hi B o wr (cC (min (k+1) L.length) L)) (λV _=>(L.length - OP V).toNat)
 case atStart=>exact⟨0,rfl,by omega,NN _ _,by
  by_cases h:L.length=0
  ·rw[h];exact HI
  ·rw[show min (0+1) L.length=0+1 by omega,jX];exact HI⟩
 case round=>
  obtain⟨k,rfl,hk,hG,hR⟩:=hrel;have⟨HG,HR⟩:=aQ hG hR;clear hG hR;by_cases g8:k+1<L.length
  ·have b9:(k:NH)+1<(L.length:NH):=by omega
   have b7:IntKind.i64.wrap ((k:NH)+1+1)=(k:NH)+1+1:=Ov _ (by omega);have e9:IntKind.i64.wrap ((k:NH)+1)=(k:NH)+1:=Ov _ (by omega);go_wp2;go_loopw [9] (λU w2=>∃(j:NA) (i:Nu (Nu NH)),U=.int .i64 j/\j<=k+1/\te (k+1) (cC (min (k+1) L.length) L)=te j i/\i.length=L.length/\w.gb w2 (Nq B)/\bQ lo hi B o w2 i) (λU _=>(OP U).toNat)
   case atStart=>exact⟨k+1,_,rfl,Nv _,rfl,pK _ _,HG,HR⟩
   case round=>
    obtain⟨j0,i,rfl,hj,hs,F,H,G⟩:=hrel;have⟨x,y,A,g⟩:=cJ hs F H G;clear hs F H G;have l:te (k+1) (cC (min (k+1) L.length) L)=i->∀p,w.gb p (Nq B)->bQ lo hi B o p i->∃T,Og .i64 ((k:NH)+1+1)=.int .i64 ((T+1:NA):NH)/\T<=1000/\w.gb p (Nq B)/\bQ lo hi B o p (cC (min (T+1) L.length) L):=λe p h1 h2=>
     ⟨k+1,by simp,by omega,h1,by rw[show min (k+1+1) L.length=(k+1)+1 by omega,jX,<- show min (k+1) L.length=k+1 by omega,show min (k+1) L.length=k+1 by omega];rw[show min (k+1) L.length=k+1 by omega] at e;rw[e];exact h2⟩
    have n:=Np l;clear l;cases j0 with
    | zero=>
     go_wp2_with (fail);go_quiet (fail);go_wp2;go_roundw
     case rel=>exact n x _ (A.andThen (ax _ _ Ns) (by simp)) (g.kept (ax _ _ Ns))
     case measure=>simp[OP];omega
    | succ j=>
     have⟨a,xb,xc,X,x1,S⟩:=g.out.at (k:=j+1) (by have:=y.out;omega);have⟨b,R,Q,W,y1,P⟩:=g.out.at (k:=j) (by have:=y.out;omega);have z1:=g.out.thaw (k:=j+1);have z0:=g.out.thaw (k:=j);have d:te (j+1) i=if cU a b<0 then te j ((i.set (j+1) b).set j a) else i:=by
      show(match i[j+1]?,i[j]? with | some a,Nq b=>_ | _,_=>_)=_;rw[X,W]
     have r:=λC (h:World.gb _ C Ns)=>pQ lo hi lo hi _ _ a b C (S.kept h) (P.kept h);generalize cU a b=z at d r;have N:=Np r;have g5:IntKind.i64.wrap (j:NH)=(j:NH):=Ov _ (by omega);have g7:((j:NH)+1).toNat=j+1:=by omega
     have h9:(j:NH)+1<(L.length:NH):=by omega
     have c3:(j:NH)<(L.length:NH):=by omega
     have k0:(0:NH)<=(j:NH)+1:=by omega
     have h8:(0:NH)<(j:NH)+1:=by omega
     have g6:(j:NH)+1 - 1=(j:NH):=by omega
     have XI:=Np (NY S P);have E:=Np (NY X W);clear r S P X W;by_cases hz:z<0
     ·rw[if_pos hz] at d;have u:=Np d;clear d;go_wp2_with (fail);go_quiet (first | (go_at_call 122;refine Qc ((N _ (ax _ _ Ns)).mono (λe p h=>⟨h.1,h.2.symm⟩))));go_upto_region 6 with(fail);have q:=ax wr nq Ns;generalize wr.drewN nq=wa at q ⊢;have f:wr.gb wa.drew Ns:=q.t (ai wa Ns);have M:=g.out.kept f;have x2:=f.cl x1;have D:=f.cl y1;have Z:=Np (M.swap E.1 E.2 x2 D (XI.1.kept f) (XI.2.kept f));have a6:=Np (((A.andThen f (by simp)).andThen (an _ B (o+(j+1)) (.slice R b.length Q)) (λj e=>.inr e)).andThen (an _ B (o+j) (.slice xb a.length xc)) (λj e=>.inr e));have z2:=M.thaw (k:=j+1);have O:=M.thaw (k:=j);have s:=M.step (v:=.slice R b.length Q) D;have I:=Np s;have z4:=s.2;clear M s x1 y1 z1 z0 q f;refine aI 16 (λw'=>w'.cell? ⟨B,o+j,Ns⟩=Nq (.slice R b.length Q)/\w'.frozen? ⟨B,o+j,Ns⟩=NC) (by kernel_rfl) (by kernel_rfl) ⟨D,O⟩ (λhHeld=>?_);simp only[NQ,NU,Oh,OV,Oc,Oj,Ol,Ow,On,Oa];refine tk 0 (h:=tk 1 (h:=tk 2 (h:=tk 3 (h:=tk 4 (h:=tk 5 (h:=tk 6 (h:=tk 7 (h:=tk 8 (h:=tk 9 (h:=tk 10 (h:=tk 11 (h:=tk 12 (h:=?_)))))))))))));try go_frame
      refine rdc 13 λK Y=>?_;go_simp;refine Y.out _ _ (by first | exact hHeld | exact⟨D,O⟩ | exact I) (λhHeld=>?_);refine tk 14 (h:=?_);try go_frame
      refine rdc 15 λK Y=>?_;go_simp;refine Y.out _ _ (by first | exact hHeld | exact⟨D,O⟩ | exact I) (λhHeld=>?_);try go_frame
      refine⟨by kernel_rfl,?_⟩;simp only[Oi,OH];go_wp2;refine⟨?_,?measure⟩
      repeat apply Exists.intro
      refine⟨?rel,rfl⟩
      case rel=>exact⟨j,_,rfl,by omega,x.t u,by simp[y.out],a6,Z⟩
      case measure=>simp[OP]
     ·rw[if_neg hz] at d;have u:=Np d;clear d;go_wp2_with (fail);go_quiet (first | (go_at_call 122;refine Qc ((N _ (ax _ _ Ns)).mono (λe p h=>⟨h.1,h.2.symm⟩))));go_wp2;refine⟨?_,?measure⟩
      repeat apply Exists.intro
      refine⟨?rel,rfl⟩
      case rel=>exact n (x.t u) _ (A.andThen (ax _ _ Ns) (by simp)) (g.kept (ax _ _ Ns))
      case measure=>simp[OP];omega
  ·have he:min (k+1) L.length=L.length:=by omega
   rw[he] at HR;go_wp2;go_end0;exact⟨rfl,HG,HR⟩
end
section
open Go.RowKit
def Jg(g f B o c:NA)(L:Nu (Nu NH))(d:NH)(w:Nt)(j:bQ g f B o w L)(h:f<=w.heap.size)(n:L.length<=12) :Oz Ya 155 #[.slice (Nq ⟨B,o,Ns⟩) L.length c,.int .i64 (0:NA),L.length,d,.func (.func 122) #[] #[]] w λe i=>e=.returned (.tuple #[])/\w.gb i (Nq B)/\bQ g f B o i (cC L.length L):=by
 have p:=Np j;clear j;go_enter Tp.x155,Tryz.ntmps155;go_wp2;go_loopw [1,2,3] (λa b c wr=>a=.int .i64 (0:NA)/\b=.int .i64 L.length/\c=.int .i64 d/\w=wr) (λ_ _ _ _=>0)
 case atStart=>exact⟨rfl,rfl,rfl,rfl⟩
 case round=>
  obtain⟨rfl,rfl,rfl,rfl⟩:=hrel;have s:IntKind.i64.wrap (L.length:NH)=(L.length:NH):=Ov _ (by omega);have r:(L.length:NH)<=12:=by omega
  go_wp2_with (go_at_call 188;refine(tu g f B o c L _ p h (by omega)).mono ?_;rintro e q ⟨rfl,l,k⟩);refine Qi (results_none rfl _ _ _) rfl ?_;exact⟨rfl,l,k⟩
def FD(d b B o c:NA)(L:Nu (Nu NH))(w:Nt)(h:bQ d b B o w L)(f:b<=w.heap.size)(a:L.length<=12) :Oz Ya 121 #[.slice (Nq ⟨B,o,Ns⟩) L.length c,.func (.func 122) #[] #[]] w λe g=>e=.returned (.tuple #[])/\w.gb g (Nq B)/\bQ d b B o g (cC L.length L):=by
 have l:=Np h;have n:IntKind.u64.wrap (L.length:NH)=(L.length:NH):=by simp[IntKind.wrap,IntKind.signed,IntKind.bits];omega
 clear h;go_enter Tp.x121,Tryz.ntmps121;go_wp2_with (first
  | (go_at_call 156;refine(pS L.length a _).mono ?_;rintro e i ⟨v,rfl,rfl⟩)
  | (go_at_call 155;refine(Jg d b B o c L _ _ l f a).mono ?_;rintro e i ⟨rfl,k,j⟩))
 go_end0;exact⟨rfl,k,j⟩
def um(z G:NA)(v:Ny)(l:Nu NH)(w:Nt)(q:aj z G w v l)(r:∀x∈l,0<=x/\x<5) :Oz Ya 123 #[v] w λe t=>e=.returned (.int .u8 (bL l:NA))/\w=t:=by
 obtain⟨b,c,rfl,F,p⟩:=q.cell;have⟨N,s⟩:=aQ p r;clear p r q;go_enter Tp.x123,Tryz.ntmps123;go_wp2;go_loopw [3,9] (λu g wr=>∃k:NA,g=.int .i64 k/\u=.int .u8 (bL (l.take k):NA)/\k<=l.length/\w=wr) (λ_ g _=>(l.length - OP g).toNat)
 case atStart=>exact⟨0,rfl,rfl,by omega,rfl⟩
 case round=>
  obtain⟨k,rfl,rfl,P,rfl⟩:=hrel;by_cases a:k<l.length
  ·obtain⟨B,o,rfl,L,I,H,d⟩:=N.out (by intro e;rw[e] at a;simp at a);obtain⟨x,f⟩:∃x,l[k]?=Nq x:=⟨_,ND a⟩;have i:=d k a;rw[f] at i;simp only[NK] at i;have⟨D,C⟩:=s.out x (Od f);obtain⟨n,rfl⟩:∃n:NA,x=(n:NH):=⟨x.toNat,by omega⟩;have hm:bL (l.take k)<32:=jR _ 5 λy A=>by have:=s.out y (Tb A);omega
   have h:=oP l k n f;have j:(k:NH)<(l.length:NH):=by omega
   generalize bL (l.take k)=m at hm h ⊢;have M:=Np h;clear h d f;go_wp2_with (go_at_call 151;refine(ng m n _ hm (by omega)).mono ?_;rintro e O ⟨rfl,rfl⟩);go_roundw
   case rel=>exact⟨k+1,by simp,by rw[M,Int.toNat_natCast],by omega,by first | rfl | trivial⟩
   case measure=>simp[OP];omega
  ·obtain rfl:k=l.length:=by omega
   go_wp2;go_ret;exact⟨by rw[Ps];rfl,by first | rfl | trivial⟩
end
section
open Go.RowKit Go.Shelf
attribute [local go_sem] Oper.semAt_some
def xV(a:Nu Par)(c:Nu NH):Nu (Nu NH):=(fK c).filter λo=>!o.isEmpty && aC a (pre Par.mx a a.length) o
def jd(a:Nu Par)(L:Nu (Nu NH)):Nu (Nu NH):=L.flatMap (xV a)
def An(a:Nu Par)(L:Nu (Nu NH))(c:Nu NH):jd a (L++[c])=jd a L++xV a c:=by simp[jd]
def Kw(b:NA)(L:Nu (Nu NH))(a:Nu Ny)(G:NA->Prop)(W:Nt):Prop :=
 ∀i,i<L.length->∃l x,L[i]?=Nq l/\a[i]?=Nq x/\aj b W.heap.size W x l/\∀B o n c,x=.slice (Nq ⟨B,o,Ns⟩) n c->l≠[]->G B
structure ox(Sg:NA)(w0:Nt)(L:Nu (Nu NH))(G:NA->Prop)(W:Nt):Prop where
 os:W.os=w0.os
 tape:W.tape=w0.tape
 output:W.output=w0.output
 size:w0.heap.size<=W.heap.size
 keep:∀k,k<w0.heap.size->k≠Sg->W.heap[k]?=w0.heap[k]?
 lt:∀k,G k->w0.heap.size<=k/\k<W.heap.size
 sl:Sg<w0.heap.size
 sg:∃sv vals,W.heap[Sg]?=Nq (.cells #[sv] 36 (0,0))/\W.ownsRow w0.heap.size 29 1 sv L.length vals/\(∀g,sv.ownBlock=Nq g->G g)/\Kw w0.heap.size L vals G W
def uN{d:NA}{A C:Nt}{x:Ny}{l:Nu NH}(h:aj d A.heap.size A x l)(s:A.heap.size<=C.heap.size)(i:∀B o n c,x=.slice (Nq ⟨B,o,Ns⟩) n c->l≠[]->C.heap[B]?=A.heap[B]?):aj d C.heap.size C x l:=by
 obtain⟨base,b,rfl,g,f⟩:=h;refine⟨base,b,rfl,g,λa=>?_⟩;have⟨B,o,r,j,e,q,u,p,k⟩:=f a;exact⟨B,o,r,j,e,q,by omega,(i B o _ _ (by rw[e]) a).t p,k⟩
def ee{i e f:NA}{A C:Nt}{v:Ny}{n:NA}{d:Nu Ny}(h:A.ownsRow i e f v n d)(k:∀g,v.ownBlock=Nq g->C.heap[g]?=A.heap[g]?):C.ownsRow i e f v n d:=by
 obtain⟨p,a⟩:=h;refine⟨p,?_⟩;rcases a with a | ⟨g,c,b,rfl,o,l,j⟩
 ·exact .inl a
 ·exact .inr ⟨g,c,b,rfl,o,(k g (by simp[OG])).t l,j⟩
def oD{n1 B:NA}{G:NA->Prop}{A C:Nt}(a:A.gb C Ns):Stp n1 B G A C:=⟨a.os,a.tape,a.output,a.size,λk b _=>a.block k b (by simp)⟩
def ox.stp{u:NA}{w0:Nt}{L:Nu (Nu NH)}{G:NA->Prop}{A C:Nt}{v B:NA}(h:ox u w0 L G A)(b:Stp v B G A C)(P:w0.heap.size<=v)(Q:w0.heap.size<=B):ox u w0 L G C:=by
 have f:=h.sl;have z:=h.size;have p:=b.size;have q:∀k,k<w0.heap.size->C.heap[k]?=A.heap[k]?:=λk q=>b.keep k (by omega) (.inl ⟨by omega,by omega⟩);have⟨y,d,I,H,r,F⟩:=h.sg;refine⟨b.os.trans h.os,b.tape.trans h.tape,b.output.trans h.output,by omega,λk j a=>(q k j).t (h.keep k j a),λk w=>⟨(h.lt k w).1,by have:=(h.lt k w).2;omega⟩,f,y,d,(q u f).t I,ee H λg e=>b.keep g (h.lt g (r g e)).2 (.inr (r g e)),r,λi D=>?_⟩;have⟨l,x,O,N,M,s⟩:=F i D;exact⟨l,x,O,N,uN M p λB o n c e a=>b.keep B (h.lt B (s B o n c e a)).2 (.inr (s B o n c e a)),s⟩
def ox.push{j:NA}{w0:Nt}{L:Nu (Nu NH)}{G:NA->Prop}{W E C:Nt}{q r:Ny}{b:Nu Ny}{x:Ny}{l:Nu NH}(h:ox j w0 L G W)(h1:W.heap[j]?=Nq (.cells #[q] 36 (0,0)))(h2:W.ownsRow w0.heap.size 29 1 q L.length b)(M:∀g,q.ownBlock=Nq g->G g)(h4:Kw w0.heap.size L b G W)(v:W.gb E q.ownBlock)(F:E.ownsRow w0.heap.size 29 1 r (L.length+1) (b++[x]))(hv:∀g,r.ownBlock=Nq g->q.ownBlock=Nq g\/W.heap.size<=g)(z:∀g,r.ownBlock=Nq g->g<E.heap.size)(hx:aj W.heap.size E.heap.size E x l)(X:C=E.setCell j r) :ox j w0 (L++[l]) (λk=>G k\/(W.heap.size<=k/\k<C.heap.size)) C/\∀n B,j<n->j≠B->Bod n B G (λk=>G k\/(W.heap.size<=k/\k<C.heap.size)) W C:=by
 have h5:b.length=L.length:=by have:=h2.1;omega
 have s:∀y m g,q.ownBlock=Nq g->aj w0.heap.size W.heap.size W y m->∀B o n c,y=.slice (Nq ⟨B,o,Ns⟩) n c->m≠[]->B≠g:=by
  rintro y m g f ⟨base,cap,rfl,R,D⟩ B o n c e a rfl;have⟨B',o',cs,Y,w,O,N,p,Z⟩:=D a;cases e;cases w;rcases h2.2 with⟨rfl,_⟩ | ⟨g',b0,d7,rfl,hb,T,_⟩
  ·simp[OG] at f
  ·obtain rfl:g'=B:=by simpa[OG] using f
   rw[T] at p;cases p
 have Q:=h.sl;have b7:=h.size;have b9:=v.size;have d:=an E j 0 r;rw[<- X] at d;have c3:C.heap.size=E.heap.size:=by rw[X];simp[Qq]
 have V:E.heap[j]?=Nq (.cells #[q] 36 (0,0)):=(v.block j (by omega) (λe=>by have:=(h.lt _ (M _ e.symm)).1;omega)).t h1;have U:C.heap[j]?=Nq (.cells #[r] 36 (0,0)):=by rw[X,ar V];rfl
 have H:∀k,k<W.heap.size->k≠j->q.ownBlock≠Nq k->C.heap[k]?=W.heap[k]?:=λk H a s=>(d.block k (by omega) (by intro e;cases e;exact a rfl)).t (v.block k H (λe=>s e.symm));refine⟨⟨d.os.trans (v.os.trans h.os),d.tape.trans (v.tape.trans h.tape),d.output.trans (v.output.trans h.output),by omega,λk u a=>?_,λk f=>?_,Q,r,b++[x],U,?_,λg e=>?_,λi hi=>?_⟩,λn B hn hB=>⟨d.tape.trans v.tape,by omega,λk u hc f=>?_,λk f=>f.imp id λe=>e.1⟩⟩
 ·rw[H k (by omega) a (λe=>by have:=(h.lt _ (M _ e)).1;omega)];exact h.keep k u a
 ·rcases f with f | f
  ·exact⟨(h.lt k f).1,by have:=(h.lt k f).2;omega⟩
  ·omega
 ·rw[Pi,UZ];exact ee F λg e=>d.block g (z g e) (by
   intro P;cases P;rcases hv _ e with h' | h'
   ·have:=(h.lt _ (M _ h')).1;omega
   ·omega)
 ·rcases hv g e with h' | h'
  ·exact .inl (M g h')
  ·exact .inr ⟨h',by have:=z g e;omega⟩
 ·by_cases I:i<L.length
  ·have⟨m,y,w,O,N,p⟩:=h4 i I;refine⟨m,y,by rw[Ot I];exact w,by rw[Ot (by omega)];exact O,uN N (by omega) λB o n c e a=>H B (h.lt B (p B o n c e a)).2 (λP=>by have:=(h.lt B (p B o n c e a)).1;omega) (λP=>s y m _ P N B o n c e a rfl),λB o n c e a=>.inl (p B o n c e a)⟩
  ·have S:i=L.length:=by simp at hi;omega
   subst S;refine⟨l,x,by simp,by rw[<- h5];simp,?_,λB o n c e a=>.inr ?_⟩
   ·obtain⟨base,cap,rfl,R,D⟩:=hx;refine⟨base,cap,rfl,R,λa=>?_⟩;have⟨B,o,cs,Y,w,O,N,p,Z⟩:=D a;exact⟨B,o,cs,Y,w,by omega,by omega,(d.block B (by omega) (by intro e;cases e;omega)).t p,Z⟩
   ·obtain⟨base,cap,rfl,R,D⟩:=hx;have⟨B',o',cs,Y,w,O,N,p,Z⟩:=D a;cases e;cases w;omega
 ·refine H k u (λe=>by rcases hc with h' | h'<;>omega) (λe=>f (M k e))
end
section
open Go.RowKit Go.Shelf
attribute [local go_sem] Oper.semAt_some
def Tp.info29p:(Ya.info? 29).map (λi=>(i.zero,i.size,i.bytes))=Nq (Nq (.slice Ns 0 0),1,24):=by kernel_rfl
def Tp.und36:Ya.underlying 36=Nq (.slice 29):=by rw[Tp.und];exact Tryz.underlying36
def Ha(b:Nu Par)(q:NH)(Y j:NA)(w0:Nt)(yb:NO OX)(yc:NA)(X:w0.heap[Y]?=Nq (.cells #[.slice yb b.length yc,q] 91 (0,0)))(r8:aD 0 w0.heap.size w0 (.slice yb b.length yc) b){s3:NJ Ny}{f0:NA × NA}(d6:w0.heap[j]?=Nq (.cells s3 36 f0))(k7:YOk b q)(c:Nu NH)(k5:c.Pairwise (·<·))(r4:∀x∈c,0<=x/\x<b.length)(r5:c.length<=5)(q5:∀x:Nu NH,x.length=c.length->x.Nodup->(∀y∈x,y∈c)->POk b q x)(L0:Nu (Nu NH))(hL:L0.length+(fK c).length<=1000)(G0:NA->Prop)(S:Nt)(hI:ox j w0 L0 G0 S)(v:Ny)(hv:aj 0 S.heap.size S v c) :Oz Ya 120 #[v,.pointer (Nq Y),.pointer (Nq j)] S λe W'=>e=.returned (.bool NC)/\∃G',ox j w0 (L0++xV b c) G' W'/\Bod w0.heap.size w0.heap.size G0 G' S W':=by
 have⟨i0,q9,p3,n9,n8⟩:=PM Tp.info29p;obtain⟨base,Q,rfl,x5,-⟩:=hv.cell;have r7:Y≠j:=λe=>by rw[e,d6] at X;cases X
 obtain⟨gx,c8⟩:∃gx,gx=pre Par.mx b b.length:=⟨_,rfl⟩;obtain⟨F,P⟩:∃F,F=S.heap.size:=⟨_,rfl⟩;have q0:xV b c=(fK c).filter λo=>!o.isEmpty && aC b gx o:=by rw[c8];rfl
 rw[q0];have w8:=hI.size;refine(QH (n:=6)).1 ?_;refine Vz Tp.x120 rfl trivial ?_ rfl;simp only[Tryz.ntmps120,Ox,NQ,NU,Oh,OV,Oj,Ol,Ow,Rt,On,Oa]
 gi_wp2_with (refine⟨trivial,?_⟩;gi_at_call 117;refine(QH.2 (ru _ _ _ _)).mono ?_;rintro e w2 ⟨rfl,rfl⟩)
 obtain⟨U,H⟩:∃U,U=S.alloc (.cells #[.slice base c.length Q] 29):=⟨_,rfl⟩;rw[<- H,<- P];have N:S.gb U Ns:=by rw[H];exact Nr _ _ Ns
 have x0:U.heap.size=F+1:=by rw[H,NW,P]
 have l3:U.heap[F]?=Nq (.cells #[.slice base c.length Q] 29 (0,0)):=by rw[H,P];exact NL _ _
 have r9:=(hv.kept N).mono (Nv _) N.size;have v0:=hI.sl;have s1:ox j w0 L0 G0 U:=hI.stp (oD (n1:=w0.heap.size) (B:=w0.heap.size) N) (Nv _) (Nv _);have q8:¬ G0 F:=λh=>by have:=(hI.lt _ h).2;omega
 have u9:w0.heap.size<=F:=by omega
 have u8:S.heap.size<=F:=by omega
 have⟨t6,a6,HI,t8,HL⟩:=nW c8 P hI N hL;clear c8 P H hv N hL;refine iQ rfl (by omega) (gf:=149) (lb:=#[.pointer (Nq F)]) rfl trivial (enters_of Tp.x149 (by kernel_rfl) rfl)
  (nI 5 F base Q c c (kS (by omega) k5) (λx hx=>by have:=r4 x hx;have:=k7.len;omega) (ri k5) r5 U l3 r9) (UA _ _) (λ_=>rfl) (G0:=G0) q8 (by omega) (Bq)
  (λpr G W=>ox j w0 (L0++(pr.map Su).filter λo=>!o.isEmpty && aC b gx o) G W/\Bod w0.heap.size w0.heap.size G0 G S W)
  (λ_ _ _ _=>RI)
  (λs G A h k hk=>(h.1.lt k hk).2)
  (λs G A C h d=>⟨h.1.stp d (by omega) (by omega),d.tape.trans h.2.tape,NM h.2.size d.size,λk hk hc hg=>(d.keep k (NX hk h.2.size) (.inl ⟨by have:=a6.out;omega,by have:=a6.out;omega⟩)).trans (h.2.keep k hk hc hg),h.2.fp⟩)
  (λ_ _ _ _ _ h _=>h)
  ⟨by simpa using s1,eB t8⟩
  (λx=>{ tmps:=#[.slice base c.length Q,.pointer (Nq Y),.pointer (Nq j),NG,.bool NC,x.2,.slice base c.length Q,.func (.func 149) #[] #[.pointer (Nq F)],x.2,NG,NG,NG,NG,NG,NG,NG,NG,NG,NG,NG,NG,NG],defers:=[] }) ?assign ?body ?done ?stop
 case assign=>
  intro l x W K w
  gi_wp2
  exact w
 case body=>
  rintro l pr G x W ⟨O,hb⟩ hx ⟨t,ht⟩;have M:(L0++(pr.map Su).filter λo=>!o.isEmpty && aC b gx o).length<=1000:=by
   have h1:=PS (λo=>!o.isEmpty && aC b gx o) (pr.map Su);have h2:=congrArg List.length ht;have h3:=HL.out;unfold fK at h3;simp only[Pi,Ql,UZ] at h1 h2 ⊢;omega
  have w9:=O.size;have b9:=(O.keep Y (aJ X) r7).trans X;have l6:aD 0 W.heap.size W (.slice yb b.length yc) b:=by
   obtain⟨b',c',e,hl,hr⟩:=r8;refine⟨b',c',e,hl,λr=>?_⟩;have⟨B,o,cs,fr,e1,e2,e3,e4,e5⟩:=hr r;exact⟨B,o,cs,fr,e1,e2,by omega,(O.keep B e3 (λe=>by cases e;rw[e4] at d6;cases d6)).trans e4,e5⟩
  obtain⟨V,p⟩:=hx;have I:=q5 x.1 p.1 p.2.1 p.2.2.1;have p5:x.1.length<=5:=by have:=p.1;omega
  obtain⟨f,x2⟩:=x;obtain⟨xb,xc,h9,-,-⟩:=V.cell;dsimp only at h9 I p5 p;subst h9;have c1:W.cell? Y=Nq (.slice yb b.length yc):=aa b9 rfl;have c2:W.cell? ⟨Y,1,Ns⟩=Nq (.int .i64 q):=aa b9 rfl;obtain⟨z,hz⟩:∃z,z=aC b gx f:=⟨_,rfl⟩;have k9:Oz Ya 114 #[.agg #[.slice yb b.length yc,q],.slice xb f.length xc] W λe w'=>e=.returned (.bool z)/\W.gb w' Ns:=by
   rw[hz,t6];exact wG 0 W.heap.size _ _ b q f W ⟨_,rfl,l6⟩ V (Nv _) k7 I
  have⟨m6,HZ⟩:=aQ k9 hz;have s5:=Np (show aj 0 W.heap.size W (.slice xb f.length xc) f from V);have⟨z8,T,HB,m5⟩:=cJ p O hb M;clear k9 hz V p O hb b9 l6 I ht M;by_cases r:f=[]
  ·subst r
   gi_wp2
   refine⟨trivial,?_⟩
   gi_wp2
   refine⟨G,eB (NN _ _),?_,HB⟩;rw[Qm,SP];simpa using T.out
  ·have u7:0<f.length:=Ru.2 r;have k8:f.isEmpty=NC:=by cases f<;>simp_all
   have t2:=Np r;clear r;cases z with
   | false=>
    gi_wp2_with (refine⟨trivial,?_⟩;gi_at_call 114;refine(CallsIn.inRound l (QH.2 m6)).mono ?_;rintro e w5 ⟨rfl,u⟩)
    refine⟨G,eB u,?_,HB.trans (eB u)⟩;rw[Qm,SP];simpa[k8,<- HZ.out] using T.out.stp (oD (n1:=w0.heap.size) (B:=w0.heap.size) u) (Nv _) (Nv _)
   | true=>
    have⟨sv,g9,q1,q2,q3,q4⟩:=T.out.sg;generalize d7:(L0++(pr.map Su).filter λo=>!o.isEmpty && aC b gx o)=LL at q2 q4;rw[d7] at T m5;have t3:=Np d7;clear d7;obtain⟨sa,sn,sc,rfl⟩:=cd q2;have x4:=m5.out;have l5:j<W.heap.size:=by omega
    have q7:(OS sa sn sc).ownBlock≠Nq j:=λe=>by have:=(T.lt _ (q3 _ e)).1;omega
    gi_wp2_with (refine⟨trivial,?_⟩;gi_at_call 114;refine(CallsIn.inRound l (QH.2 m6)).mono ?_;rintro e w5 ⟨rfl,u⟩;have i:=Np (u.trans (ai w5 Ns));clear u)
    have s0:w5.drew.cell? j=Nq (.slice sa sn sc):=aa (bk i q1) rfl;have⟨m4,m3,e6,s9⟩:=cJ q1 q2 q3 q4;clear q1 q2 q3 q4;refine sR (by rintro⟨_,_,h⟩;exact h) (by kernel_rfl) 5 (λw'=>w'.cell? j=Nq (.slice sa sn sc)) (by kernel_rfl) (by kernel_rfl) s0 (λhHeld=>?_);simp only[NQ,NU,Oh,OV,Oc,Oj,Ol,Ow,On,Oa];refine tk 0 (h:=tk 1 (h:=?_));try go_frame
    refine rdc 2 λK w=>?_;go_simp;go_at_call 84;refine(oX 0 w5.drew.heap.size _ f _ ((s5.kept i).mono (Nv _) i.size) (Nv _) (.inl t2) (by omega)).mono ?_;rintro e w6 ⟨v',rfl,d5,d8⟩;obtain⟨vb,vc,rfl,-,-⟩:=d8.cell;have s6:=d5.cl s0;have⟨Z,t5⟩:=aQ d5 d8;clear d5 d8;refine w.out _ _ (by first | exact hHeld | exact s7 | exact s6 | exact(Nr _ _ Ns).cl hHeld) (λhHeld=>?_);clear w K;try go_frame
    refine rdc 3 λK w=>?_;go_simp;refine w.out _ _ (by first | exact hHeld | exact s7 | exact s6 | exact(Nr _ _ Ns).cl hHeld) (λhHeld=>?_);clear w K;try go_frame
    refine rdc 4 λK w=>?_;have l7:=ee (C:=w6) m3 (λg e=>(i.trans Z).block g (T.lt g (e6 g e)).2 (by simp));refine step_append_lies _ (by rfl) _ _ _ (by rfl) w0.heap.size 29 i0 _ 1 24 Tp.und36 q9 p3 n9 n8 rfl (by omega) (.slice sa sn sc) LL.length g9 (by rfl) (by exact l7.alloc _) ⟨w6.heap.size,0,Ns⟩ 1 1 [.slice vb f.length vc] (by rfl) (by rfl) (Pt (cs:=#[.slice vb f.length vc]) (t:=29) (fr:=(0,0)) (NL w6 _)) (by simp[PT]) (by omega) (by unfold Rh;omega) (by omega) (by have:=i.out.size;have:=Z.out.size;simp;omega) (w6.heap.size+1) (by simp) ?_;intro g' cp w7 L a b6 b0;have c9:W.gb w7 (OS sa sn sc).ownBlock:=(((i.trans Z).trans (Nr w6 (.cells #[.slice vb f.length vc] 29) Ns)).but _).trans ⟨a.os,a.tape,a.output,a.size,a.block⟩;have c3:w7.heap[j]?=Nq (.cells #[.slice sa sn sc] 36 (0,0)):=(c9.block j l5 (λe=>q7 e.symm)).trans m4;have s7:w7.cell? j=Nq (.slice sa sn sc):=aa c3 rfl;have z7:w7.frozen? ⟨j,0,Ns⟩=NC:=aA c3;have h6:(w6.alloc (.cells #[.slice vb f.length vc] 29)).gb w7 (OS sa sn sc).ownBlock:=a;have k0:aj W.heap.size w7.heap.size w7 (.slice vb f.length vc) f:=(((t5.alloc (.cells #[.slice vb f.length vc] 29)).mono i.size (Nv _)).kept h6 (λR e=>.inl (T.lt R (e6 R e.symm.symm)).2)).mono (Nv _) (by have:=h6.size;rw[NW] at this;omega);have⟨s8,t1,t7,t9,t4⟩:=nW k0 L c9 b6 b0;clear L a b6 b0 h6 k0 c3 c9 l7;refine w.out _ _ (by first | exact hHeld | exact s7 | exact s6 | exact(Nr _ _ Ns).cl hHeld) (λhHeld=>?_);clear w K;try go_frame
    refine⟨by kernel_rfl,?_⟩;simp only[Oi,OH];go_wp2;have⟨q6,k6⟩:=T.out.push m4 m3 e6 s9 t7 t1 (λg e=>by
     obtain rfl:g'=g:=by simpa[OG] using e
     rcases t9 with h | h
     ·exact .inl h
     ·right;have:=i.out.size;have:=Z.out.size;omega) (λg e=>by
     obtain rfl:g'=g:=by simpa[OG] using e
     exact t4) s8 rfl
    refine⟨_,k6 U.heap.size F (by omega) (by omega),?_,HB.trans (k6 _ _ (by omega) (by omega))⟩;rw[Qm,SP,<- Qv,t3];simpa[k8,<- HZ.out] using q6
 case done=>
  rintro D ys G W hD h8 ⟨O,hb⟩ w l9;have⟨T,HB,s4⟩:=bC O hb h8;clear O hb h8
  gi_wp2
  have d:Stp U.heap.size F G W (W.putObj D (.deferred Ns)):=gS _ hD l9;have p9:=HB.out.size;have O:=T.out.stp d (by omega) (by omega);rw[s4] at O;refine⟨by simp,.inl ⟨_,_,rfl,Vg w,?_⟩⟩;refine⟨.bool NC,by simp[Qo,Tryz.results120,go_sem],rfl,G,O,d.tape.trans HB.tape,NM p9 d.size,λk hk hc hg=>(d.keep k (by omega) (.inl ⟨by have:=a6.out;omega,by have:=a6.out;omega⟩)).trans (HB.keep k hk hc hg),HB.fp⟩
 case stop=>
  rintro D c pr G W hD ⟨t,ht⟩ h w l9;exact h.elim
end
section
open Go.RowKit
abbrev Rec:=Nu (Nu NH) × NA
def pM(l:Nu NH):NH:=l[0]?.getD 0
def Cd(L:Nu (Nu NH)):Nu NH:=L[L.length - 1]?.getD []
def okF(p:Rec)(s:Nu NH):OI:=!(decide (0<p.1.length) && decide (pM s<=pM (Cd p.1))) && decide (p.2 &&& bL s=0)
def lW(p:Rec)(s:Nu NH):Rec:=(p.1++[s],p.2 ||| bL s)
def dI(S:Nu (Nu NH))(a:Nu Rec):Nu Rec:=a.flatMap λp=>(S.filter (okF p)).map (lW p)
def GX:NA->Nu (Nu NH)->NA->Nu Rec->NO (NO (Nu (Nu NH)))
 | 0,_,_,_=>Ns
 | n+1,S,all,a=>match a.find? λp=>p.2 == all with
  | some p=>Nq (Nq p.1)
  | none=>if(dI S a).length<=1000 then(if dI S a=[] then Nq Ns else GX n S all (dI S a)) else Ns
def jA(w:Nt)(b d:Ny)(p:Rec):Prop:=RowsIn 0 w.heap.size w b p.1/\d=.int .u8 (p.2:NA)/\∀a n c,b=.slice a n c->n<=c
def lG(w:Nt)(v:Ny)(R:Nu Rec):Prop :=
 ∃base b,v=.slice base R.length b /\
  (R≠[]->∃B o a e,base=Nq ⟨B,o,Ns⟩/\B<w.heap.size/\w.heap[B]?=Nq (.cells a 133 e) /\
   ∀i,i<R.length->∃p d c,R[i]?=Nq p/\a[o+i*2]?=Nq d/\a[o+(i*2+1)]?=Nq c/\jA w d c p)
def jA.kept{w w':Nt}{e d:Ny}{p:Rec}(h:jA w e d p)(a:w.gb w' Ns):jA w' e d p:=⟨(h.1.kept a).mono (Nv _) a.size,h.2⟩
def lG.at{w:Nt}{base:NO OX}{d k:NA}{R:Nu Rec}(h:lG w (.slice base R.length d) R)(b:k<R.length):∃B o p a n c,base=Nq ⟨B,o,Ns⟩/\R[k]?=Nq p/\n=p.1.length/\w.cell? ⟨B,o+k*2,Ns⟩=Nq (.slice a n c)/\w.cell? ⟨B,o+k*2+1,Ns⟩=Nq (.int .u8 (p.2:NA))/\RowsIn 0 w.heap.size w (.slice a n c) p.1/\n<=c:=by
 obtain⟨f,j,e,l⟩:=h;cases e;have⟨B,o,z,x,v,y,i,u⟩:=l (by intro e;rw[e] at b;simp at b);obtain⟨p,C,A,t,s,r,g,rfl,q⟩:=u k b;obtain⟨a,c,rfl,-,-⟩:=g.cell;exact⟨B,o,p,a,_,c,v,t,rfl,by simp[OA,i,s],by rw[TF];simp[OA,i,r],g,q _ _ _ rfl⟩
def oI(R:Nu (Ny × Ny)):Nu Ny:=R.flatMap λx=>[x.1,x.2]
def BG(R:Nu (Ny × Ny))(i:NA)(h:i<R.length):(oI R)[i*2]?=(R[i]?).map Su/\(oI R)[i*2+1]?=(R[i]?).map Prod.snd:=by
 induction R generalizing i with
 | nil=>simp at h
 | cons a t b=>
  cases i with
  | zero=>simp[oI]
  | succ i=>
   have:=b i (by simpa using h);rw[show(i+1)*2=i*2+2 by omega];simpa[oI] using this
def lG.own{k:NA}{w:Nt}{v:Ny}{R:Nu Rec}{C:Nu (Ny × Ny)}(h:w.ownsRow k 133 2 v R.length (oI C))(z:C.length=R.length)(r:∀(i:NA) (p:Rec) (x:Ny × Ny),R[i]?=Nq p->C[i]?=Nq x->jA w x.1 x.2 p):lG w v R:=by
 obtain⟨B,s⟩:=h;rcases s with⟨rfl,t⟩ | ⟨g,d,c,rfl,A,j,y,hm,u,o⟩
 ·have:R=[]:=OZ t;subst this;exact⟨Ns,0,rfl,λh=>absurd rfl h⟩
 ·refine⟨_,d,rfl,λ_=>⟨g,0,c,_,rfl,(Nz.1 j).1,j,λi q=>?_⟩⟩;have b:=(BG C i (by omega)).1;have a:=(BG C i (by omega)).2;have e:C[i]?=Nq C[i]:=ND (by omega);have f:R[i]?=Nq R[i]:=ND q;rw[e] at b a;rw[<- o,PI (by omega)] at b a;refine⟨R[i],_,_,f,by simpa using b,by simpa using a,r i _ _ f e⟩
def Dd{w:Nt}{W:NO OX}{nc B:NA}{L:Nu (Nu NH)}{x:Ny}{l:Nu NH}(S:NZ)(hN:RowsIn 0 w.heap.size w (.slice W L.length nc) L)(hx:w.cell? B=Nq x)(p:aj 0 w.heap.size w x l)(hl:L.length<=1000) :∃g c R,(Rj #[36,36] S #[.slice W L.length L.length,.slice (Nq B) 1 1]).run Ya w=.ok (.slice (Nq ⟨g,0,Ns⟩) (L.length+1) c) R/\w.gb R Ns /\RowsIn 0 R.heap.size R (.slice (Nq ⟨g,0,Ns⟩) (L.length+1) c) (L++[l])/\L.length+1<=c:=by
 have⟨X,D,z,n,u⟩:=PM Tp.info29p;obtain⟨k,h,rfl,-,-⟩:=p.cell;have d:∀j v,([.slice k l.length h]:Nu Ny)[j]?=Nq v->w.cell? ((⟨B,0,Ns⟩:OX).add j)=Nq v:=λj v r=>by
  have:j=0:=by have:=(NT.1 r).1;simp at this;omega
  subst this;simp at r;subst r;simpa[Addr.add] using hx
 have s:∀(a:Nu Ny) (F:NJ Ny) (c:NA),a.length=L.length+1->(∀i,i<L.length+1->∃m y,(L++[l])[i]?=Nq m/\a[i]?=Nq y/\aj 0 w.heap.size w y m) ->
   RowsIn 0 (w.drew.alloc (.cells (a.toArray++F) 29)).heap.size (w.drew.alloc (.cells (a.toArray++F) 29)) (.slice (Nq w.heap.size) (L.length+1) c) (L++[l]):=by
  intro a F c I hv;have hh:(w.drew.alloc (.cells (a.toArray++F) 29)).heap[w.heap.size]?=Nq (.cells (a.toArray++F) 29 (0,0)):=NL w.drew _;have hg:w.gb (w.drew.alloc (.cells (a.toArray++F) 29)) Ns:=(ai w Ns).t (Nr _ _ Ns);refine⟨_,c,by simp,by simp;omega,λ_=>⟨w.heap.size,0,_,_,rfl,OE _,(Nz.1 hh).1,hh,λi f=>?_⟩⟩;have⟨m,y,O,e2,e3⟩:=hv i (by simpa using f);refine⟨m,y,O,?_,(e3.kept hg).mono (Nv _) hg.size⟩;rw[Oc,Ua (by simp at f ⊢;omega)];simpa using e2
 obtain⟨base,a9,e,-,hc⟩:=hN.cell;cases e;cases W with
 | none=>
  have h0:L=[]:=by
   refine OK λq=>?_;have⟨B,o,O,_⟩:=hc q;cases O
  subst h0;have A:=run_append_nil (P:=Ya) w 36 S 29 X _ Tp.und36 D z ⟨B,0,Ns⟩ 1 1 [.slice k l.length h] (by rw[n];rfl) d (by omega) (by omega) (by rw[u];omega);have:=s [.slice k l.length h] (Qu (OS Ns 0 0).cells (Sm w 1 0 29 - 1)) (Sm w 1 0 29) (by simp) (λi f=>by
   have:i=0:=by simp at f;omega
   subst this;exact⟨l,_,by simp,by simp,p⟩)
  exact⟨_,_,_,A,(ai w Ns).t (Nr _ _ Ns),this,lk _ _ _ _⟩
 | some b=>
  by_cases q:L=[]
  ·subst q;have A:=run_append_grow (P:=Ya) w 36 S 29 X _ Tp.und36 D z b 0 0 [] (by simp) (λj v r=>by simp at r) ⟨B,0,Ns⟩ 1 1 [.slice k l.length h] (by rw[n];rfl) d (by omega) (by omega) (growslice_fits (by omega) (by rw[u];omega));have:=s [.slice k l.length h] (Qu (OS Ns 0 0).cells (Sm w 1 0 29 - 1)) (Sm w 1 0 29) (by simp) (λi f=>by
    have:i=0:=by simp at f;omega
    subst this;exact⟨l,_,by simp,by simp,p⟩)
   simp only[On,Oc] at A;exact⟨_,_,_,by simpa using A,(ai w Ns).t (Nr _ _ Ns),by simpa using this,lk _ _ _ _⟩
  ·obtain⟨V,o,O,-,-,-,h4⟩:=hc q;cases O;obtain⟨a,I,M⟩:∃a:Nu Ny,a.length=L.length/\∀i,i<L.length->∃m y,L[i]?=Nq m/\a[i]?=Nq y/\w.cell? ⟨V,o+i,Ns⟩=Nq y/\aj 0 w.heap.size w y m:=by
    refine⟨(Oo L.length).map λi=>(w.cell? ⟨V,o+i,Ns⟩).getD NG,by simp,λi f=>?_⟩;have⟨m,y,U,G,T⟩:=h4 i f;exact⟨m,y,U,by simp[f,G],G,T⟩
   have C:∀j v,a[j]?=Nq v->w.cell? ((⟨V,o,Ns⟩:OX).add j)=Nq v:=λj v r=>by
    have Y:j<L.length:=by have:=(NT.1 r).1;omega
    have⟨m,y,U,G,T,Z⟩:=M j Y;rw[G] at r;cases r;exact dU T
   have A:=run_append_grow (P:=Ya) w 36 S 29 X _ Tp.und36 D z ⟨V,o,Ns⟩ L.length L.length a (by rw[n];omega) C ⟨B,0,Ns⟩ 1 1 [.slice k l.length h] (by rw[n];rfl) d (by omega) (by omega) (growslice_fits (by omega) (by rw[u];omega));obtain⟨Q,H⟩:∃Q,Q=OS k l.length h:=⟨_,rfl⟩;have:=s (a++[Q]) (Qu (OS Ns 0 0).cells (Sm w (L.length+1) L.length 29 - (L.length+1))) (Sm w (L.length+1) L.length 29) (by simp;omega) (λi f=>by
    by_cases N:i<L.length
    ·have⟨m,y,U,G,T,Z⟩:=M i N;exact⟨m,y,by rw[Ot N];exact U,by rw[Ot (by omega)];exact G,Z⟩
    ·have:i=L.length:=by omega
     subst this;exact⟨l,Q,by simp,by rw[<- I];simp,by rw[H];exact p⟩)
   rw[H] at this;have e:a.toArray++[OS k l.length h].toArray=(a++[OS k l.length h]).toArray:=by simp
   rw[e] at A;exact⟨_,_,_,A,(ai w Ns).t (Nr _ _ Ns),this,lk _ _ _ _⟩
def qP{d:NJ PE}{o:PE}{a:QF}{w:Nt}{K:QF->Nt->Prop}{Q:Ux->QF->Nt->Prop}{E:Prop}(f:o.guard=Ns)(s x:OQ)(e:o.op=.call { callee:=.builtin .append,args:=#[s,x],argTypes:=#[36,36] }){nb:NO OX}{nc B:NA}{L:Nu (Nu NH)}{y:Ny}{l:Nu NH}(hs:a.eval s=.slice nb L.length L.length)(hx:a.eval x=.slice (Nq B) 1 1)(hN:RowsIn 0 w.heap.size w (.slice nb L.length nc) L)(hy:w.cell? B=Nq y)(hyi:aj 0 w.heap.size w y l)(hl:L.length<=1000)(h:∀g b c,w.gb c Ns->RowsIn 0 c.heap.size c (.slice (Nq ⟨g,0,Ns⟩) (L.length+1) b) (L++[l])->L.length+1<=b->K (a.put o.dst (.slice (Nq ⟨g,0,Ns⟩) (L.length+1) b)) c) :if Oy o (PH d a.tmps)=NB then Oper.wp Ya o a w K Q else E:=by
 rw[if_pos (by simp[Oy,f])];have⟨g,b,c,i,n,k,j⟩:=Dd o.type hN hy hyi hl;unfold Oper.wp QN;simp only[e,resolve,invoke,builtin,PF,SZ,PC,SH,Qj,Sx,hs,hx,i];exact h g b c n k j
def Lq{b:Nu Par}{d:NH}{Y j:NA}{w0:Nt}{n:NO OX}{l:NA}(q:w0.heap[Y]?=Nq (.cells #[.slice n b.length l,d] 91 (0,0)))(u:aD 0 w0.heap.size w0 (.slice n b.length l) b){w:NJ Ny}{Z:NA × NA}(r:w0.heap[j]?=Nq (.cells w 36 Z))(g:YOk b d)(p:∀x:Nu NH,x.Nodup->(∀y∈x,0<=y/\y<b.length)->POk b d x)(z:((eZ (bn b.length) 0).flatMap fK).length<=1000) :Cb w0.heap.size (bn b.length) 120 #[.pointer (Nq Y),.pointer (Nq j)] (λdone G W=>ox j w0 (jd b done) G W):=by
 refine⟨?_,?_,enters_of Tp.x120 (by kernel_rfl) rfl,?_⟩
 ·intro s G A C h Q;exact h.stp (oD (n1:=w0.heap.size) (B:=w0.heap.size) Q) (Nv _) (Nv _)
 ·exact λs G A h k P=>(h.lt k P).2
 ·rintro done G W v c T M - f ⟨t,N⟩;have⟨X,D,h3⟩:=Bz f;have i:(jd b done).length+(fK c).length<=1000:=by
   have V:∀L:Nu (Nu NH),(jd b L).length<=(L.flatMap fK).length:=by
    intro L;induction L with
    | nil=>simp[jd]
    | cons a L F=>
     have:=PS (λo:Nu NH=>!o.isEmpty && aC b (pre Par.mx b b.length) o) (fK a);simp only[jd,Qx,Pi,xV] at F ⊢;omega
   rw[N] at z;have h5:=V done;simp only[Xv,Qx,List.flatMap_nil,Pi] at z;omega
  refine(Ha b d Y j w0 n l q u r g c X D (by have:=g.len;omega) (λx _ O I=>p x O λy H=>D y (I y H)) (jd b done) i G W T v M).mono ?_;rintro e W' ⟨R,G',U,S⟩;exact⟨R,G',by rw[An];exact U,S⟩
def JA{a:Nu Par}{d:NH}{Y p:NA}{w0:Nt}{r:NO OX}{q:NA}(n:w0.heap[Y]?=Nq (.cells #[.slice r a.length q,d] 91 (0,0)))(o:aD 0 w0.heap.size w0 (.slice r a.length q) a)(f:w0.heap[p]?=Nq (.cells #[.slice Ns 0 0] 36 (0,0)))(j:YOk a d)(l:∀x:Nu NH,x.Nodup->(∀y∈x,0<=y/\y<a.length)->POk a d x)(t:((eZ (bn a.length) 0).flatMap fK).length<=1000){b:NO OX}{k:NA}(u:aj 0 w0.heap.size w0 (.slice b a.length k) (bn a.length)) :Oz Ya 82 #[.slice b a.length k,.func (.func 120) #[] #[.pointer (Nq Y),.pointer (Nq p)]] w0 λe v=>e=.returned (.bool NC)/\∃w,ox p w0 (jd a (eZ (bn a.length) 0)) w v:=by
 have z:a.length<=5:=j.len;have h:=LZ (b:=b) (c:=k) (ll:=bn a.length) (Lq n o f j l t) (by rw[bN];omega) (kS (by rw[bN];omega) (nJ _)) (by rw[bN];exact u) (G:=th) ⟨rfl,rfl,rfl,Nv _,λ_ _ _=>rfl,λk h=>h.elim,aJ f,_,[],f,PX _ _ _ _,λg e=>by simp[OG] at e,λi s=>by simp[jd] at s⟩;rw[bN] at h;exact h
def ox.rows{k:NA}{w0:Nt}{L:Nu (Nu NH)}{G:NA->Prop}{W:Nt}(h:ox k w0 L G W)(a:L≠[])(C:L.length<=1000):∃B c,W.heap[k]?=Nq (.cells #[.slice (Nq ⟨B,0,Ns⟩) L.length c] 36 (0,0))/\w0.heap.size<=B/\bQ w0.heap.size W.heap.size B 0 W L:=by
 have⟨w,f,s,b,D,r⟩:=h.sg;obtain⟨A,b⟩:=b;rcases b with⟨rfl,t⟩ | ⟨g,e,d,rfl,q,p,z,hm,y,n⟩
 ·exact absurd (OZ t) a
 ·refine⟨g,e,s,q,d,p,λi o=>?_⟩;obtain⟨l,x,v,j,u,-⟩:=r i o;refine⟨l,x,v,?_,u⟩;rw[<- n,PI (by omega)] at j;simpa using j
def bQ.rows{a d B o:NA}{w:Nt}{L:Nu (Nu NH)}(h:bQ a d B o w L)(e:B<d)(b:a<=B)(j:L.length<=1000)(c:NA):RowsIn a d w (.slice (Nq ⟨B,o,Ns⟩) L.length c) L:=by
 obtain⟨i,g,f⟩:=h;exact⟨_,c,rfl,by omega,λ_=>⟨B,o,i,_,rfl,b,e,g,f⟩⟩
def Er:∀m n:Fin 32,Wy .and .u8 (m.1:NH) (n.1:NH)=((m.1 &&& n.1:NA):NH):=by decide
def Hz:∀m n:Fin 32,Wy .or .u8 (m.1:NH) (n.1:NH)=((m.1 ||| n.1:NA):NH):=by decide
def Tp.info133p:(Ya.info? 133).map (λi=>(i.zero,i.size,i.bytes))=Nq (Nq (.agg #[.slice Ns 0 0,.int .u8 0]),2,32):=by kernel_rfl
def Tp.und134:Ya.underlying 134=Nq (.slice 133):=by rw[Tp.und];exact Tryz.underlying134
def RowsIn.keptT{k a O:NA}{w j:Nt}{v:Ny}{L:Nu (Nu NH)}(h:RowsIn k a w v L)(n:w.gb j (Nq O)){f:NJ Ny}{d:NZ}{C:NA × NA}(b:w.heap[O]?=Nq (.cells f d C))(z:d≠3)(c:d≠29):RowsIn k a j v L:=by
 obtain⟨base,g,rfl,y,t⟩:=h;refine⟨base,g,rfl,y,λu=>?_⟩;have⟨B,o,I,A,H,G,F,p,D⟩:=t u;refine⟨B,o,I,A,H,G,F,blk n (λe=>?_) p,λi a=>?_⟩
 ·cases e;rw[p] at b;cases b;exact c rfl
 ·have⟨l,x,s,r,q⟩:=D i a;exact⟨l,x,s,r,q.keptT n b z⟩
def dY(a:NA)(w:Nt)(v:Ny)(R:Nu Rec):Prop :=
 ∃C:Nu (Ny × Ny),w.ownsRow a 133 2 v R.length (oI C)/\C.length=R.length/\∀(i:NA) (p:Rec) (x:Ny × Ny),R[i]?=Nq p->C[i]?=Nq x->jA w x.1 x.2 p
def dY.nil(a:NA)(w:Nt):dY a w (.slice Ns 0 0) []:=⟨[],PX _ _ _ _,rfl,λi p x h=>by simp at h⟩
def dY.recs{a:NA}{w:Nt}{v:Ny}{R:Nu Rec}(h:dY a w v R):lG w v R:=by
 obtain⟨C,d,c,b⟩:=h;exact lG.own d c b
def dY.kept{a:NA}{w w':Nt}{v:Ny}{R:Nu Rec}(h:dY a w v R)(d:w.gb w' Ns):dY a w' v R:=by
 obtain⟨C,f,k,j⟩:=h;exact⟨C,ee f λg e=>d.block g (f.lt g e).2 (by simp),k,λi p x o l=>(j i p x o l).kept d⟩
def Dg(C:Nu (Ny × Ny))(x:Ny × Ny):oI (C++[x])=oI C++[x.1,x.2]:=by simp[oI]
def jA.app{i n:NA}{w d:Nt}{v f e:Ny}{h:Nu Ny}{p:Rec}(b:jA w f e p)(j:w.ownsRow i 133 2 v n h)(a:w.gb d v.ownBlock):jA d f e p:=by
 refine⟨?_,b.2⟩;rcases j.2 with⟨rfl,_⟩ | ⟨g,l,k,rfl,o,c,_⟩
 ·exact(RowsIn.kept b.1 a (by simp[OG])).mono (Nv _) a.size
 ·exact(RowsIn.keptT b.1 (O:=g) a c (by decide) (by decide)).mono (Nv _) a.size
def uA(S:Nu (Nu NH))(b:Nu Rec):(dI S b).length<=b.length*S.length:=by
 unfold dI;induction b with
 | nil=>simp
 | cons a t c=>
  have:=PS (okF a) S;simp only[Qx,Pi,Ql,NQ];rw[TY];omega
def dY.push{e:NA}{w d:Nt}{v j:Ny}{R:Nu Rec}{C:Nu (Ny × Ny)}{h g:Ny}{p:Rec}(t:w.ownsRow e 133 2 v R.length (oI C))(k:C.length=R.length)(s:∀(i:NA) (p:Rec) (x:Ny × Ny),R[i]?=Nq p->C[i]?=Nq x->jA w x.1 x.2 p)(r:w.gb d v.ownBlock)(b:d.ownsRow e 133 2 j (R.length+1) (oI C++[h,g]))(l:jA d h g p):dY e d j (R++[p]):=by
 refine⟨C++[(h,g)],by rw[Dg,Pi];exact b,by simp[k],λi q x a c=>?_⟩;by_cases o:i<R.length
 ·rw[Ot o] at a;rw[Ot (by omega)] at c;exact(s i q x a c).app t r
 ·have f:i=R.length:=by
   have:=(NT.1 a).1;simp at this;omega
  subst f;rw[Pq (Nv _)] at a;rw[Pq (by omega)] at c;simp[k] at a c;subst a c;exact l
def MM(S:Nu (Nu NH))(a:Nu Rec):Prop:=a.length<=1000/\∀p∈a,(∀r∈p.1,r∈S)/\p.2<32/\p.1.length<=100
def Bj(S:Nu (Nu NH))(b:NA)(R:Nu (Nu NH))(v:Ny)(w:Nt)(m:NA):Prop:=∃a,lG w v a/\MM S a/\(∀p∈a,p.1.length+m<=100)/\GX m S b a=Nq (Nq R)
open Classical in
noncomputable def pI(P:NA->Prop):NA->NA
 | 0=>0
 | n+1=>if P (pI P n) then pI P n else n+1
def yL(P:NA->Prop):∀n,pI P n<=n
 | 0=>Nv _
 | n+1=>by
  have:=yL P n;unfold pI;split<;>omega
def jV(P:NA->Prop):∀n m,m<=n->P m->P (pI P n)/\pI P n<=m
 | 0,m,h,a=>by
  obtain rfl:m=0:=by omega
  exact⟨a,Nv _⟩
 | n+1,m,h,a=>by
  unfold pI;split
  ·rename_i b
   refine⟨b,?_⟩;by_cases hm:m<=n
   ·exact(jV P n m hm a).2
   ·have:=yL P n;omega
  ·rename_i b
   have:¬ m<=n:=λhm=>b (jV P n m hm a).1;obtain rfl:m=n+1:=by omega
   exact⟨a,Nv _⟩
noncomputable def BH(S:Nu (Nu NH))(a:NA)(R:Nu (Nu NH))(v:Ny)(w:Nt):NA:=pI (Bj S a R v w) 100
def Ar{S:Nu (Nu NH)}{a:NA}{R:Nu (Nu NH)}{v:Ny}{w:Nt}{m:NA}(hm:m<=100)(h:Bj S a R v w m):Bj S a R v w (BH S a R v w):=(jV _ 100 m hm h).1
def yg{S:Nu (Nu NH)}{a:NA}{R:Nu (Nu NH)}{v:Ny}{w:Nt}{m:NA}(hm:m<=100)(h:Bj S a R v w m):BH S a R v w<=m:=(jV _ 100 m hm h).2
def Ax{S:Nu (Nu NH)}{a:Nu Rec}{k:NA}{p:Rec}(h:a[k]?=Nq p):dI S (a.take (k+1))=dI S (a.take k)++(S.filter (okF p)).map (lW p):=by
 rw[OR,h];simp[dI]
def uG{S:Nu (Nu NH)}{a:Nu Rec}{q:Rec}(h:q∈dI S a):∃p∈a,∃s∈S,q=lW p s:=by
 simp only[dI,Sc,Qp,RS] at h;obtain⟨p,c,s,⟨b,-⟩,rfl⟩:=h;exact⟨p,c,s,b,rfl⟩
def mT(z:NJ Ny)(h:z.size=123):∃t:NA->Ny,(∀(j:NA) (v:Ny),z[j]?=Nq v->t j=v)/\z=#[t 0,t 1,t 2,t 3,t 4,t 5,t 6,t 7,t 8,t 9,t 10,t 11,t 12,t 13,t 14,t 15,t 16,t 17,t 18,t 19,t 20,t 21,t 22,t 23,t 24,t 25,t 26,t 27,t 28,t 29,t 30,t 31,t 32,t 33,t 34,t 35,t 36,t 37,t 38,t 39,t 40,t 41,t 42,t 43,t 44,t 45,t 46,t 47,t 48,t 49,t 50,t 51,t 52,t 53,t 54,t 55,t 56,t 57,t 58,t 59,t 60,t 61,t 62,t 63,t 64,t 65,t 66,t 67,t 68,t 69,t 70,t 71,t 72,t 73,t 74,t 75,t 76,t 77,t 78,t 79,t 80,t 81,t 82,t 83,t 84,t 85,t 86,t 87,t 88,t 89,t 90,t 91,t 92,t 93,t 94,t 95,t 96,t 97,t 98,t 99,t 100,t 101,t 102,t 103,t 104,t 105,t 106,t 107,t 108,t 109,t 110,t 111,t 112,t 113,t 114,t 115,t 116,t 117,t 118,t 119,t 120,t 121,t 122]:=by
 have a:=lR z;rw[h] at a;exact⟨λj=>z[j]?.getD NG,λj v e=>by show z[j]?.getD NG=v;rw[e];rfl,a.t rfl⟩
def swp(s:Nu NH)(i:NA):Nu NH:=(s.set i (s[i+1]?.getD 0)).set (i+1) (s[i]?.getD 0)
def vA(s:Nu NH)(i:NA):(swp s i).length=s.length:=by simp[swp]
def gP(a:Nu (Nu NH) × Nu (Nu NH))(m:Nu NH):Nu (Nu NH) × Nu (Nu NH):=if m∈a.1 then a else(a.1++[m],a.2++[m])
def AS(n:NA)(a:Nu (Nu NH) × Nu (Nu NH))(s:Nu NH):Nu (Nu NH) × Nu (Nu NH):=(Oo (n - 1)).foldl (λa i=>gP a (swp s i)) a
def jZ(n:NA)(K a:Nu (Nu NH)):Nu (Nu NH) × Nu (Nu NH):=a.foldl (AS n) (K,[])
def dK(a:Nu Par)(c:Nu (Nu NH)):OI × Nu NH:=c.foldl (λb s=>if aC a (pre Par.mx a a.length) (bB s)=NB then(NB,if b.1=NB/\ez (bB s) b.2=NC then b.2 else bB s) else b) (NC,[])
def okS(b:Nu Par)(a:NH)(s:Nu NH):OI:=decide (s.length=5) && (decide (bB s).Nodup && ((bB s).all (λx=>decide (0<=x/\x<b.length)) && decide (aN b (bB s)<=a)))
def kX{b:Nu Par}{a:NH}{s:Nu NH}(h:okS b a s=NB):s.length=5/\POk b a (bB s):=by
 simp only[okS,Of,decide_eq_true_eq,OF] at h;obtain⟨f,e,d,c⟩:=h;exact⟨f,d,e,c,by have:=tM s (λy=>y != -1);unfold bB;omega⟩
def nN(c:Nu Par)(b:NH)(n:NA):NA->Nu (Nu NH)->Nu (Nu NH)->NH->NO (NO (NH × Nu NH))
 | 0,_,_,_=>Ns
 | f+1,K,a,d=>if a.all (okS c b)=NB/\a.length<=1000 then
   (if(dK c a).1=NB then Nq (Nq (d,(dK c a).2))
    else if(jZ n K a).2.length<=1000 then(if(jZ n K a).2=[] then Nq Ns else nN c b n f (jZ n K a).1 (jZ n K a).2 (d+1)) else Ns)
  else Ns
def ij(L:Nu (Nu NH)):Nu Ny:=L.flatMap λs=>s.map (Og .i64)
def DW{L:Nu (Nu NH)}(h:∀s∈L,s.length=5)(i:NA)(s:Nu NH)(a:L[i]?=Nq s)(d:NA)(g:d<5):(ij L)[i*5+d]?=Nq (.int .i64 (s[d]?.getD 0)):=by
 induction L generalizing i with
 | nil=>simp at a
 | cons b L c=>
  have f:=h b (by simp);unfold ij;rw[Qx];cases i with
  | zero=>
   simp at a;subst a;rw[Ot (by simp;omega),Nat.zero_mul,Oc,Pa,ND (by omega)];rfl
  | succ i=>
   rw[Pq (by simp;omega),Ql,f,show(i+1)*5+d - 5=i*5+d by omega];exact c (λt e=>h t (by simp[e])) i (by simpa using a)
def AQ(L:Nu (Nu NH))(s:Nu NH):ij (L++[s])=ij L++s.map (Og .i64):=by simp[ij]
def dE(w:Nt)(v:Ny)(L:Nu (Nu NH)):Prop :=
 ∃base a,v=.slice base L.length a /\
  (L≠[]->∃B o b c,base=Nq ⟨B,o,Ns⟩/\w.heap[B]?=Nq (.cells b 118 c)/\∀i s,L[i]?=Nq s->∀d,d<5->b[o+i*5+d]?=Nq (.int .i64 (s[d]?.getD 0)))
def dE.kept{w w':Nt}{v:Ny}{L:Nu (Nu NH)}(h:dE w v L)(i:∀(k:NA) (d:NJ Ny) (a:NA × NA),w.heap[k]?=Nq (Obj.cells d 118 a)->w'.heap[k]?=Nq (Obj.cells d 118 a)):dE w' v L:=by
 obtain⟨base,f,rfl,g⟩:=h;refine⟨base,f,rfl,λe=>?_⟩;have⟨B,o,d,a,p,l,j⟩:=g e;exact⟨B,o,d,a,p,i B _ _ l,j⟩
def dE.keptM{w c:Nt}{v:Ny}{L:Nu (Nu NH)}{M:NA}(h:dE w v L)(d:w.gb c (Nq M))(hm:∀b a,w.heap[M]?≠Nq (Obj.cells b 118 a)):dE c v L:=h.kept λk b a e=>(d.block k (aJ e) (λh=>hm b a (by cases h;exact e))).t e
def cP.not{w:Nt}{M:NA}{K:Nu (Nu NH)}(h:cP w M K)(d:NJ Ny)(t:NZ)(c:NA × NA):w.heap[M]?≠Nq (Obj.cells d t c):=by
 obtain⟨f,a,b,-⟩:=h;rw[b];intro e;cases e
def dE.own{e:NA}{w:Nt}{v:Ny}{L:Nu (Nu NH)}(h:w.ownsRow e 118 5 v L.length (ij L))(p:∀s∈L,s.length=5):dE w v L:=by
 obtain⟨y,q⟩:=h;rcases q with⟨rfl,r⟩ | ⟨g,b,a,rfl,x,k,u,hm,t,f⟩
 ·have:L=[]:=OZ r;subst this;exact⟨Ns,0,rfl,λh=>absurd rfl h⟩
 ·refine⟨_,b,rfl,λ_=>⟨g,0,a,_,rfl,k,λi s c d o=>?_⟩⟩;have j:=(NT.1 c).1;have:=DW p i s c d o;rw[<- f,PI (by omega)] at this;simpa using this
def dE.at{w:Nt}{base:NO OX}{n d k:NA}{L:Nu (Nu NH)}(h:dE w (.slice base n d) L){s:Nu NH}(b:L[k]?=Nq s):∃B o,base=Nq ⟨B,o,Ns⟩/\B<w.heap.size/\w.cell? ⟨B,o+k*5,Ns⟩=Nq (.int .i64 (s[0]?.getD 0))/\w.cell? ⟨B,o+k*5+1,Ns⟩=Nq (.int .i64 (s[1]?.getD 0))/\w.cell? ⟨B,o+k*5+2,Ns⟩=Nq (.int .i64 (s[2]?.getD 0))/\w.cell? ⟨B,o+k*5+3,Ns⟩=Nq (.int .i64 (s[3]?.getD 0))/\w.cell? ⟨B,o+k*5+4,Ns⟩=Nq (.int .i64 (s[4]?.getD 0)):=by
 obtain⟨f,g,e,i⟩:=h;cases e;have⟨B,o,q,p,l,a,j⟩:=i (by intro e;rw[e] at b;simp at b);have c:=j k s b;exact⟨B,o,l,aJ a,aa a (c 0 (by omega)),aa a (c 1 (by omega)),aa a (c 2 (by omega)),aa a (c 3 (by omega)),aa a (c 4 (by omega))⟩
def Tp.info118p:(Ya.info? 118).map (λi=>(i.zero,i.size,i.bytes))=Nq (Nq (.agg #[.int .i64 0,.int .i64 0,.int .i64 0,.int .i64 0,.int .i64 0]),5,40):=by kernel_rfl
def Tp.und121:Ya.underlying 121=Nq (.slice 118):=by rw[Tp.und];exact Tryz.underlying121
end
section
open Go Go.RowKit Go.Co
noncomputable def mX8:Qs:=sqB (sqB (sqB (sqB (sqB (sqB (sqB (inn (sqB (Tryz.f54.body.getD .skip)))))))))
noncomputable def yE:Qs:=sqB (sqB mX8)
noncomputable def mLA:Qs:=inn (sqB (sqA yE))
noncomputable def Gi:Qs:=sqB (sqB yE)
noncomputable def mLB:Qs:=inn (sqB (sqA Gi))
noncomputable def mB3:Qs:=inn (sqA (sqB (sqB (inn mLB))))
noncomputable def mLC:Qs:=inn (sqB (sqB mB3))
def Kp(b:Nu NA)(z a:NJ Ny):Prop:=∀j∈b,a[j]?=z[j]?
def Gw(b:Nu NA)(z a:NJ Ny)(d:a.size=123)(e:Kp b z a):a=((Oo 123).map λj=>bif b.elem j then z[j]?.getD NG else a[j]?.getD NG).toArray:=by
 have c:=lR a;rw[d] at c;refine c.t (congrArg List.toArray (List.map_congr_left λj f=>?_));cases hc:b.elem j with
 | false=>rfl
 | true=>
  show a[j]?.getD NG=z[j]?.getD NG;rw[e j (List.elem_iff.1 hc)]
def fR(k:NA)(a:Nu (Nu NH) × Nu (Nu NH))(s:Nu NH):Nu (Nu NH) × Nu (Nu NH):=(Oo k).foldl (λa i=>gP a (swp s i)) a
def gO(k:NA)(a:Nu (Nu NH) × Nu (Nu NH))(s:Nu NH):fR (k+1) a s=gP (fR k a s) (swp s k):=by simp[fR,RF]
def Ck(n:NA)(a:Nu (Nu NH) × Nu (Nu NH))(s:Nu NH):AS n a s=fR (n - 1) a s:=rfl
def CJ(a:Nu (Nu NH) × Nu (Nu NH))(m:Nu NH):(gP a m).2.length<=a.2.length+1:=by
 unfold gP;split<;>simp
def zi(k:NA)(a:Nu (Nu NH) × Nu (Nu NH))(s:Nu NH):(fR k a s).2.length<=a.2.length+k:=by
 induction k with
 | zero=>simp[fR]
 | succ k b=>rw[gO];have:=CJ (fR k a s) (swp s k);omega
def zN{b:Nu (Nu NH) × Nu (Nu NH)}{m:Nu NH}(h:∀s∈b.2,s.length=5)(hm:m.length=5):∀s∈(gP b m).2,s.length=5:=by
 unfold gP;split
 ·exact h
 ·intro s c;rcases Qb.1 c with a | a
  ·exact h s a
  ·rw[Pk.1 a];exact hm
def Ec{k:NA}{a:Nu (Nu NH) × Nu (Nu NH)}{s:Nu NH}(h:∀s∈a.2,s.length=5)(c:s.length=5):∀t∈(fR k a s).2,t.length=5:=by
 induction k with
 | zero=>simpa[fR] using h
 | succ k b=>rw[gO];exact zN b (by rw[vA];exact c)
def eE{P:NR}{c:Qs}{Q:Ux->QF->Nt->Prop}{a:QF}{w:Nt}(F:Nt->Prop)(b:F w)(h:∀u,F u->c.wp P Q a u):c.wp P Q a w:=h w b
structure MH(Sb i:NA)(s:Nu NH)(a b:NH)(w:Nt):Prop where
 fst:w.cell? ⟨Sb,i,Ns⟩=Nq (.int .i64 a)
 snd:w.cell? ⟨Sb,i+1,Ns⟩=Nq (.int .i64 b)
 mid:∀W:Nt,W.heap=w.heap->(W.setCell ⟨Sb,i,Ns⟩ (.int .i64 b)).cell? ⟨Sb,i+1,Ns⟩=Nq (.int .i64 b)/\(W.setCell ⟨Sb,i,Ns⟩ (.int .i64 b)).frozen? ⟨Sb,i+1,Ns⟩=NC
 fin:∀W:Nt,W.heap=w.heap->((W.setCell ⟨Sb,i,Ns⟩ (.int .i64 b)).setCell ⟨Sb,i+1,Ns⟩ (.int .i64 a)).heap[Sb]?=Nq (.cells ((swp s i).map (Og .i64)).toArray 118 (0,0))
def cv{w:Nt}{d i:NA}{s:Nu NH}{a b:NH}(h:w.heap[d]?=Nq (.cells (s.map (Og .i64)).toArray 118 (0,0)))(g:s[i]?=Nq a)(f:s[i+1]?=Nq b):MH d i s a b w where
 fst:=aa h (by simp[g])
 snd:=aa h (by simp[f])
 mid W e:=by
  have c:=ar (o:=i) (v:=.int .i64 b) (show W.heap[d]?=_ by rw[e];exact h);refine⟨aa c ?_,aA c⟩;rw[Po (by omega)];simp[f]
 fin W e:=by
  have c:=ar (o:=i+1) (v:=.int .i64 a) (ar (o:=i) (v:=.int .i64 b) (show W.heap[d]?=_ by rw[e];exact h));rw[c];unfold swp;rw[g,f];simp[List.map_set]
def IE{s:Nu NH}{i:NA}{a b:NH}(d:s[i]?=Nq a)(c:s[i+1]?=Nq b):swp (swp s i) i=s:=by
 apply RO;intro j;simp only[swp,d,c,List.getElem?_set,Ur];have f:=(NT.1 d).1;have e:=(NT.1 c).1;by_cases h:i+1=j
 ·subst h;rw[c];simp[f,e]
 ·by_cases g:i=j
  ·subst g;rw[d];simp[f,e]
  ·simp[h,g]
def EY{s:Nu NH}{i:NA}{a b:NH}(d:s[i]?=Nq a)(c:s[i+1]?=Nq b):(swp s i)[i]?=Nq b/\(swp s i)[i+1]?=Nq a:=by
 have f:=(NT.1 d).1;have e:=(NT.1 c).1;unfold swp;rw[d,c];constructor
 ·rw[Ri (by omega)];simp[f]
 ·simp[e]
structure McI(w1 u:Nt)(M Sb:NA)(kn:Nu (Nu NH) × Nu (Nu NH))(nv:Ny)(s:Nu NH):Prop where
 g:w1.grownBy u (Nq M)
 m:cP u M kn.1
 o:u.ownsRow w1.heap.size 118 5 nv kn.2.length (ij kn.2)
 n:∀b,nv.ownBlock=Nq b->b≠Sb
 s:u.heap[Sb]?=Nq (.cells (s.map (Og .i64)).toArray 118 (0,0))
def McI.kept{d u f:Nt}{M a:NA}{q:Nu (Nu NH) × Nu (Nu NH)}{p:Ny}{s l:Nu NH}(h:McI d u M a q p s)(t:M<d.heap.size)(k:d.heap.size<=a)(i:u.gb f (Nq a))(r:f.heap[a]?=Nq (.cells (l.map (Og .i64)).toArray 118 (0,0))):McI d f M a q p l where
 g:=h.g.andThen i (λj e=>.inl (by cases e;exact k))
 m:=h.m.kept (i.block M (NX t h.g.size) (λe=>by cases e;omega))
 o:=h.o.kept i (.inr λe=>h.n _ e rfl)
 n:=h.n
 s:=r
def McI.swap{d u:Nt}{M c i:NA}{g:Nu (Nu NH) × Nu (Nu NH)}{f:Ny}{s:Nu NH}{a b:NH}(h:McI d u M c g f s)(l:M<d.heap.size)(e:d.heap.size<=c)(k:s[i]?=Nq a)(j:s[i+1]?=Nq b) :McI d (((u.setCell ⟨c,i,Ns⟩ (.int .i64 b)).setCell ⟨c,i+1,Ns⟩ (.int .i64 a)).drew) M c g f (swp s i) :=
 h.kept l e (((an _ _ _ _).t (an _ _ _ _)).t (ai _ _)) ((cv h.s k j).fin u rfl)
def McI.put{b u a:Nt}{M d:NA}{K f:Nu (Nu NH)}{i:Ny}{s m:Nu NH}(h:McI b u M d (K,f) i s)(l:M<b.heap.size){o:Obj}(j:a=u.putObj M o)(hm:cP a M (K++[m])):McI b a M d (K++[m],f) i s:=by
 have k:=h.g.size;have c:u.gb a (Nq M):=by rw[j];exact RH u M o
 refine⟨h.g.t c,hm,h.o.kept c (.inr λe=>?_),h.n,(c.block d (aJ h.s) (λe=>?_)).t h.s⟩
 ·have:=(h.o.lt M e).1;omega
 ·cases e;exact h.m.not _ _ _ h.s
def McI.push{f u k:Nt}{M i:NA}{K a:Nu (Nu NH)}{q:NO OX}{l p:NA}{s m:Nu NH}(h:McI f u M i (K,a) (.slice q l p) s)(F:M<f.heap.size){x:Obj}{d cap:NA}(r:(u.alloc x).gb k (OS q l p).ownBlock)(y:k.ownsRow f.heap.size 118 5 (.slice (Nq d) (a.length+1) cap) (a.length+1) (ij a++m.map (Og .i64)))(v:(OS q l p).ownBlock=Nq d\/d=u.heap.size+1) :McI f k M i (K,a++[m]) (.slice (Nq d) (a.length+1) cap) s:=by
 have D:=h.g.size;have B:=aJ h.s;have c:=Nr u x Ns;refine⟨(h.g.andThen c (by simp)).andThen r (λj e=>.inl (h.o.lt j e).1),h.m.kept ((r.block M (by rw[NW];omega) (λe=>?_)).t (c.block M (by omega) (by simp))),?_,λb e=>?_,(r.block i (by rw[NW];omega) (λe=>h.n i e.symm rfl)).t (aE h.s)⟩
 ·have:=(h.o.lt M e.symm).1;omega
 ·rw[AQ,Pi];exact y
 ·have z:d=b:=by simpa[OG] using e
  subst z;rcases v with w | w
  ·exact h.n _ w
  ·omega
def CG{kn:Nu (Nu NH) × Nu (Nu NH)}{m:Nu NH}(h:m∈kn.1):gP kn m=kn:=if_pos h
def CH{kn:Nu (Nu NH) × Nu (Nu NH)}{m:Nu NH}(h:m∉kn.1):gP kn m=(kn.1++[m],kn.2++[m]):=if_neg h
def cCh:Nu NA:=[0,1,2,3,4,5,6,7,8,9,10,12,13,14,15,16,17,18,19,23,24,25,26,27,28,29,30,31,32,33,34,35,36,37,38,39,40,41,42,43,44,45,46,47,48,49,50,51,52,53,54,55,56,57,58,59,60,61,62,63,64,65,66,67,68,69,70,115,116,117,118,119,120,121,122]
def Mk(z:NJ Ny)(hz:z.size=123)(P w:Nt)(R:QF->Nt->Prop)(F M B:NA)(T:NH)(s:Nu NH)(K D:Nu (Nu NH))(nv:Ny)(h9:z[9]?=Nq (.map (Nq M)))(g6:z[11]?=Nq nv)(g5:z[12]?=Nq (.int .i64 T))(e8:z[19]?=Nq (.pointer (Nq B)))(e7:z[70]?=Nq (.int .i64 F))(e6:z[71]?=Nq (.int .i64 0))(hn:F<=4)(hs:s.length=5)(hM:M<P.heap.size)(a9:P.heap.size<=B)(hS:w.heap[B]?=Nq (.cells (s.map (Og .i64)).toArray 118 (0,0)))(hg:P.gb w (Nq M))(n:cP w M K)(ho:w.ownsRow P.heap.size 118 5 nv D.length (ij D))(d9:∀b,nv.ownBlock=Nq b->b≠B)(q3:D.length+F<=100000)(r7:0<=T/\T<=100000)(h5:∀s∈D,s.length=5)(hR:∀(z':NJ Ny) (c3:Ny) y,z'.size=123->z'[11]?=Nq c3->Kp cCh z z'->P.gb y (Nq M)->cP y M (fR F (K,D) s).1->y.ownsRow P.heap.size 118 5 c3 (fR F (K,D) s).2.length (ij (fR F (K,D) s).2)->R ⟨z',[]⟩ y) :mLC.wp Ya (Tc 4 (eT R)) ⟨z,[]⟩ w:=by
 have⟨i0,n6,n4,n3,n2⟩:=PM Tp.info118p;obtain⟨t,ht,rfl⟩:=mT z hz;have e9:=ht 9 _ h9;have g8:=ht 11 _ g6;have b8:=ht 12 _ g5;have b7:=ht 19 _ e8;have b6:=ht 70 _ e7;have g7:=ht 71 _ e6;clear ht h9 g6 g5 e8 e7 e6;rw[e9,g8,b8,b7,b6,g7];have HE:=Np (NY e9 (NY b8 (NY b7 b6)));clear e9 g8 b8 b7 b6 g7;have⟨HR,HG,HS,HK,HO,p3,H5⟩:=AH hR hg hS n ho d9 h5;clear hR hg hS n ho d9 hz h5;simp only[mLC,mB3,mLB,Gi,yE,mX8,Ul,NK,sqA,sqB,inn];go_wp2;go_loopw [11,71] (λnv iv wr=>∃i:NA,iv=.int .i64 i/\i<=F/\McI P wr M B (fR i (K,D) s) nv s) (λ_ iv _=>(F - OP iv).toNat)
 case atStart=>exact⟨0,rfl,by omega,HG,HK.out,HO,p3,HS⟩
 case round=>
  obtain⟨i,rfl,hi,Q⟩:=hrel;obtain⟨oa,om,oc,rfl⟩:=cd Q.o;have HI:=Np Q;have I:=zi i (K,D) s;by_cases s4:i<F
  ·obtain⟨a,j⟩:∃a,s[i]?=Nq a:=⟨_,ND (by omega)⟩;obtain⟨b,f⟩:∃b,s[i+1]?=Nq b:=⟨_,ND (by omega)⟩;obtain⟨q,hq⟩:∃q,q=swp s i:=⟨_,rfl⟩;have d7:q[i]?=Nq b:=by rw[hq];exact(EY j f).1
   have d6:q[i+1]?=Nq a:=by rw[hq];exact(EY j f).2
   have d5:swp q i=s:=by rw[hq];exact IE j f
   have a7:q.length=5:=by rw[hq,vA];exact hs
   have q2:(i:NH)<(F:NH):=by omega
   have r6:IntKind.i64.wrap (i:NH)=(i:NH):=Ov _ (by omega);have r5:IntKind.i64.wrap ((i:NH)+1)=(i:NH)+1:=Ov _ (by omega);have q0:IntKind.i64.wrap (T+1)=T+1:=Ov _ (by omega);have s3:((i:NH)+1).toNat=i+1:=by omega
   have s6:(i:NH)<5:=by omega
   have s5:(i:NH)+1<5:=by omega
   have s1:(0:NH)<=(i:NH)+1:=by omega
   have hu:(0:NH)<=(i:NH):=by omega
   have ca:=(cv Q.s j f).fst;have A:=(cv Q.s j f).snd;have za:=aA Q.s (o:=i);have x:=aA Q.s (o:=i+1);have l:=Np (cv Q.s j f).mid;have S:=Np (Q.swap hM a9 j f);have AB:=Np (NY j f);have HQ:=Np (NY d7 d6);have N:=Np (NY d5 hq);clear Q j f d7 d6 d5;go_wp2_with (fail);refine aI 12 (λy=>y.cell? ⟨B,i+1,Ns⟩=Nq (.int .i64 b)/\y.frozen? ⟨B,i+1,Ns⟩=NC) (by kernel_rfl) (by kernel_rfl) ⟨A,x⟩ (λhHeld=>?_);simp only[NQ,NU,Oh,OV,Oc,Oj,Ol,Ow,On,Oa];refine tk 0 (h:=tk 1 (h:=tk 2 (h:=tk 3 (h:=tk 4 (h:=tk 5 (h:=tk 6 (h:=tk 7 (h:=tk 8 (h:=?_)))))))));try go_frame
   refine rdc 9 λK n=>?_;go_simp;refine n.out _ _ (by first | exact hHeld | exact⟨A,x⟩ | exact l _ rfl) (λhHeld=>?_);clear n K;try go_frame
   refine tk 10 (h:=?_);try go_frame
   refine rdc 11 λK n=>?_;go_simp;refine n.out _ _ (by first | exact hHeld | exact⟨A,x⟩ | exact l _ rfl) (λhHeld=>?_);clear n K;try go_frame
   refine⟨by kernel_rfl,?_⟩;simp only[Oi,OH];go_upto_region 26 with(fail);refine eE (λu=>McI P u M B (fR i (K,D) s) (.slice oa om oc) q) (by rw[N.2];exact S) (λu p=>?_);have O:=Np p;have⟨Y,X,W,V,U,k⟩:=DJ a7;have c:=p.s;rw[k] at c;have b0:=aa c (o:=0) (v:=.int .i64 Y) rfl;have b1:=aa c (o:=1) (v:=.int .i64 X) rfl;have b2:=aa c (o:=2) (v:=.int .i64 W) rfl;have b3:=aa c (o:=3) (v:=.int .i64 V) rfl;have b4:=aa c (o:=4) (v:=.int .i64 U) rfl;have⟨vl,r⟩:=p.m.look q a7;obtain⟨kn,a8⟩:∃kn,kn=fR i (K,D) s:=⟨_,rfl⟩;rw[<- a8] at r O HI I;have⟨h8,g9⟩:=aQ a8 k;clear p c a8 hHeld;obtain⟨K1,C⟩:=kn;dsimp only at r I;by_cases e:q∈K1
   ·rw[decide_eq_true e,k] at r;have H:(Ue 120 (.map (Nq M)) (.agg #[Y,X,W,V,U]) NB).run Ya u=.ok (.tuple #[vl,.bool NB]) u:=r;clear r k;have HV:=Np (CG (kn:=(K1,C)) e);clear e;go_upto_region 30 with(fail);clear b0 b1 b2 b3 b4 H;clear ca A za x l S AB;have d:=O.out;have⟨j,f⟩:=HQ.out;have ca:=(cv d.s j f).fst;have A:=(cv d.s j f).snd;have za:=aA d.s (o:=i);have x:=aA d.s (o:=i+1);have l:=Np (cv d.s j f).mid;have S:=Np (d.swap hM a9 j f);have AB:=Np (NY j f);clear d j f;go_wp2_with (fail);refine aI 12 (λy=>y.cell? ⟨B,i+1,Ns⟩=Nq (.int .i64 a)/\y.frozen? ⟨B,i+1,Ns⟩=NC) (by kernel_rfl) (by kernel_rfl) ⟨A,x⟩ (λhHeld=>?_);simp only[NQ,NU,Oh,OV,Oc,Oj,Ol,Ow,On,Oa];refine tk 0 (h:=tk 1 (h:=tk 2 (h:=tk 3 (h:=tk 4 (h:=tk 5 (h:=tk 6 (h:=tk 7 (h:=tk 8 (h:=?_)))))))));try go_frame
    refine rdc 9 λK n=>?_;go_simp;refine n.out _ _ (by first | exact hHeld | exact⟨A,x⟩ | exact l _ rfl) (λhHeld=>?_);clear n K;try go_frame
    refine tk 10 (h:=?_);try go_frame
    refine rdc 11 λK n=>?_;go_simp;refine n.out _ _ (by first | exact hHeld | exact⟨A,x⟩ | exact l _ rfl) (λhHeld=>?_);clear n K;try go_frame
    refine⟨by kernel_rfl,?_⟩;simp only[Oi,OH];go_wp2;go_roundw
    case rel=>exact⟨i+1,by simp,by omega,by rw[gO,<- N.2,<- h8,HV];rw[N.1] at S;exact S⟩
    case measure=>simp[OP];omega
   ·rw[decide_eq_false e,k] at r;have H:(Ue 120 (.map (Nq M)) (.agg #[Y,X,W,V,U]) NB).run Ya u=.ok (.tuple #[vl,.bool NC]) u:=r;clear r;have⟨ob,s2,Z,e5⟩:=O.out.m.add q a7 e (T+1);rw[k] at Z;have c9:(PO 120 (.map (Nq M)) (.agg #[Y,X,W,V,U]) (.int .i64 (T+1))).run Ya u=.ok () (u.putObj M ob):=Z;have HV:=Np (CH (kn:=(K1,C)) e);have p4:=Np e5;clear Z k e e5;go_upto_region 29 with(fail);clear b0 b1 b2 b3 b4 H c9;refine eE (λu=>McI P u M B (K1++[q],C) (.slice oa om oc) q) (O.put hM rfl (p4 _ (Tz (NX hM O.g.size)))) (λu5 p=>?_);have k0:=Np p;have k:=g9.out;have c:=p.s;rw[k] at c;have b0:=aa c (o:=0) (v:=.int .i64 Y) rfl;have b1:=aa c (o:=1) (v:=.int .i64 X) rfl;have b2:=aa c (o:=2) (v:=.int .i64 W) rfl;have b3:=aa c (o:=3) (v:=.int .i64 V) rfl;have b4:=aa c (o:=4) (v:=.int .i64 U) rfl;have r8:=p.g.size;clear p c k;go_upto_region 30 with(at_builtin;(refine VO _ (by rfl) _ _ _ (by rfl) P.heap.size 118 i0 _ 5 40 Tp.und121 n6 n4 n3 n2 rfl (by omega) (.slice oa om oc) C.length (ij C) (by rfl) (by exact k0.o.alloc _) ⟨u5.heap.size,0,Ns⟩ 1 1 [.int .i64 Y,.int .i64 X,.int .i64 W,.int .i64 V,.int .i64 U] (by rfl) (by rfl) (Pt (cs:=#[Y,X,W,V,U]) (t:=118) (fr:=(0,0)) (NL u5 _)) (by simp[PT]) (by omega) (by unfold Rh;omega) (by omega) (by simp;omega) (u5.heap.size+1) (by simp) ?_);intro gi s8 u6 G L e4 s7;have p6:=Np L;have n9:=Np G;have p7:=Np e4;clear L G e4);clear b0 b1 b2 b3 b4;have p5:=Np (McI.push (m:=q) k0 hM p6 (by rw[g9];exact n9) p7);clear ca A za x l S AB;have d:=p5.out;have⟨j,f⟩:=HQ.out;have ca:=(cv d.s j f).fst;have A:=(cv d.s j f).snd;have za:=aA d.s (o:=i);have x:=aA d.s (o:=i+1);have l:=Np (cv d.s j f).mid;have S:=Np (d.swap hM a9 j f);have AB:=Np (NY j f);clear d j f;go_wp2_with (fail);refine aI 12 (λy=>y.cell? ⟨B,i+1,Ns⟩=Nq (.int .i64 a)/\y.frozen? ⟨B,i+1,Ns⟩=NC) (by kernel_rfl) (by kernel_rfl) ⟨A,x⟩ (λhHeld=>?_);simp only[NQ,NU,Oh,OV,Oc,Oj,Ol,Ow,On,Oa];refine tk 0 (h:=tk 1 (h:=tk 2 (h:=tk 3 (h:=tk 4 (h:=tk 5 (h:=tk 6 (h:=tk 7 (h:=tk 8 (h:=?_)))))))));try go_frame
    refine rdc 9 λK n=>?_;go_simp;refine n.out _ _ (by first | exact hHeld | exact⟨A,x⟩ | exact l _ rfl) (λhHeld=>?_);clear n K;try go_frame
    refine tk 10 (h:=?_);try go_frame
    refine rdc 11 λK n=>?_;go_simp;refine n.out _ _ (by first | exact hHeld | exact⟨A,x⟩ | exact l _ rfl) (λhHeld=>?_);clear n K;try go_frame
    refine⟨by kernel_rfl,?_⟩;simp only[Oi,OH];go_wp2;go_roundw
    case rel=>exact⟨i+1,by simp,by omega,by rw[gO,<- N.2,<- h8,HV];rw[N.1] at S;exact S⟩
    case measure=>simp[OP];omega
  ·obtain rfl:i=F:=by omega
   clear Q;go_wp2;refine HR _ _ wr rfl rfl ?_ HI.g HI.m HI.o;rw[<- HE.1,<- HE.2.1,<- HE.2.2.1,<- HE.2.2.2]
   repeat(refine Vu.2 ⟨rfl,?_⟩)
   exact VA _
def fx(a:NA)(K:Nu (Nu NH))(L:Nu (Nu NH)):Nu (Nu NH) × Nu (Nu NH):=L.foldl (fR a) (K,[])
def Eb(a:NA)(K L:Nu (Nu NH))(s:Nu NH):fx a K (L++[s])=fR a (fx a K L) s:=by simp[fx]
def JC(n:NA)(K L:Nu (Nu NH)):jZ n K L=fx (n - 1) K L:=rfl
def He(a:NA)(K:Nu (Nu NH))(L:Nu (Nu NH)):(fx a K L).2.length<=L.length*a:=by
 have c:∀(L:Nu (Nu NH)) (b:Nu (Nu NH) × Nu (Nu NH)),(L.foldl (fR a) b).2.length<=b.2.length+L.length*a:=by
  intro L;induction L with
  | nil=>intro b;simp
  | cons s L d=>
   intro b;have f:=d (fR a b s);have e:=zi a b s;simp only[PN,NQ,TY];omega
 have:=c L (K,[]);rw[NU,Oc] at this;exact this
def oT{c:NA}{K L:Nu (Nu NH)}(h:∀s∈L,s.length=5):∀s∈(fx c K L).2,s.length=5:=by
 have b:∀(L:Nu (Nu NH)) (a:Nu (Nu NH) × Nu (Nu NH)),(∀s∈L,s.length=5)->(∀s∈a.2,s.length=5)->∀s∈(L.foldl (fR c) a).2,s.length=5:=by
  intro L;induction L with
  | nil=>intro a _ h;simpa using h
  | cons s L e=>intro a d g;exact e _ (λt f=>d t (by simp[f])) (Ec g (d s (by simp)))
 exact b L (K,[]) h (by simp)
def bCh:Nu NA:=[0,1,2,3,4,5,6,7,8,9,10,12,13,14,15,16,17,18,23,24,25,26,27,28,29,30,31,32,33,34,35,36,37,38,39,40,41,42,43,44,45,46,47,48,49,50,51,52,53,54,55,56,57,58,59,60,61,62,116,117,118,119,120,121,122]
def KF:∀j∈(63::bCh),j∈cCh:=by decide
def Ml(z:NJ Ny)(hz:z.size=123)(d:Nt)(R:QF->Nt->Prop)(n c M:NA)(A:NH)(L K:Nu (Nu NH))(pb nb:NO OX)(pc Z:NA)(P:z[1]?=Nq (.slice pb n pc))(h9:z[9]?=Nq (.map (Nq M)))(O:z[11]?=Nq (.slice Ns 0 0))(N:z[12]?=Nq (.int .i64 A))(I:z[61]?=Nq (.slice nb L.length Z))(H:z[62]?=Nq (.int .i64 L.length))(G:z[63]?=Nq (.int .i64 0))(hn:n<=5)(l8:c=n - 1)(hM:M<d.heap.size)(hL:dE d (.slice nb L.length Z) L)(h5:∀s∈L,s.length=5)(hl:L.length<=1000)(hK:cP d M K)(a7:0<=A/\A<=100000)(hR:∀(f:NJ Ny) (i:Ny) w,f.size=123->f[11]?=Nq i->Kp bCh z f->d.gb w (Nq M)->cP w M (fx c K L).1->w.ownsRow d.heap.size 118 5 i (fx c K L).2.length (ij (fx c K L).2)->R ⟨f,[]⟩ w) :mLB.wp Ya (Tc 2 (eT R)) ⟨z,[]⟩ d:=by
 obtain⟨t,h,rfl⟩:=mT z hz;have e1:=h 1 _ P;have e9:=h 9 _ h9;have S:=h 11 _ O;have v:=h 12 _ N;have r:=h 61 _ I;have q:=h 62 _ H;have Q:=h 63 _ G;clear h P h9 O N I H G;rw[e1,e9,S,v,r,q,Q];have W:=Np (NY e1 (NY e9 (NY v (NY r q))));clear e1 e9 S v r q Q hz;have⟨HR,HL,HK,H5⟩:=cJ hR hL hK h5;clear hR hL hK h5;simp only[mLB,Gi,yE,mX8,Ul,NK,sqA,sqB,inn];go_wp2;go_loopw [11,63] (λnv iv wr=>∃k:NA,iv=.int .i64 k/\k<=L.length/\d.gb wr (Nq M)/\cP wr M (fx c K (L.take k)).1/\wr.ownsRow d.heap.size 118 5 nv (fx c K (L.take k)).2.length (ij (fx c K (L.take k)).2)) (λ_ iv _=>(L.length - OP iv).toNat)
 case atStart=>exact⟨0,rfl,by omega,NN _ _,HK.out,PX _ _ _ _⟩
 case round=>
  obtain⟨k,rfl,hk,X,p,hO⟩:=hrel;have⟨Y,U,HO⟩:=bC X p hO;by_cases a9:k<L.length
  ·obtain⟨s,y⟩:∃s,L[k]?=Nq s:=⟨_,ND a9⟩;have a8:=H5.out s (Od y);have D:=HL.out.keptM X (λcs fr=>HK.out.not _ _ _);obtain⟨B,o,rfl,b7,c0,c1,c2,c3,c4⟩:=D.at y;have e8:(k:NH)<(L.length:NH):=by omega
   have l7:IntKind.i64.wrap ((k:NH)+1)=(k:NH)+1:=Ov _ (by omega);have l6:IntKind.i64.wrap ((n:NH) - 1)=(n:NH) - 1:=Ov _ (by omega);have C:=He c K (L.take k);rw[Qt,WQ hk] at C;have HS:=Np y;obtain⟨a0,a1,a2,a3,a4,rfl⟩:=DJ a8;clear X p hO D y;go_upto_region 22 with(fail);obtain⟨T,l⟩:∃T,T=wr.heap.size:=⟨_,rfl⟩;rw[<- l];refine eE (λu=>McI d u M T (fx c K (L.take k)) u11 [a0,a1,a2,a3,a4]) ⟨Y.andThen (Nr _ _ Ns) (by simp),U.kept ((Nr wr _ Ns).block M (by have:=Y.out.size;omega) (by simp)),HO.alloc _,λb e=>by have:=(HO.lt b e).2;omega,by rw[l];exact NL _ _⟩ (λu hI=>?_);have V:=Np hI;have F:d.heap.size<=T:=by have:=Y.out.size;omega
   clear hI l c0 c1 c2 c3 c4 b7;go_wp2;all_goals
    refine UR (eM (R:=λa u=>∃x:NA->Ny,a=⟨#[t 0,.slice pb n pc,t 2,t 3,t 4,t 5,t 6,t 7,t 8,.map (Nq M),t 10,x 11,.int .i64 A,t 13,t 14,t 15,t 16,t 17,t 18,x 19,x 20,x 21,x 22,t 23,t 24,t 25,t 26,t 27,t 28,t 29,t 30,t 31,t 32,t 33,t 34,t 35,t 36,t 37,t 38,t 39,t 40,t 41,t 42,t 43,t 44,t 45,t 46,t 47,t 48,t 49,t 50,t 51,t 52,t 53,t 54,t 55,t 56,t 57,t 58,t 59,t 60,.slice (Nq ⟨B,o,Ns⟩) L.length Z,.int .i64 L.length,.int .i64 k,x 64,x 65,x 66,x 67,x 68,x 69,x 70,x 71,x 72,x 73,x 74,x 75,x 76,x 77,x 78,x 79,x 80,x 81,x 82,x 83,x 84,x 85,x 86,x 87,x 88,x 89,x 90,x 91,x 92,x 93,x 94,x 95,x 96,x 97,x 98,x 99,x 100,x 101,x 102,x 103,x 104,x 105,x 106,x 107,x 108,x 109,x 110,x 111,x 112,x 113,x 114,x 115,t 116,t 117,t 118,t 119,t 120,t 121,t 122],[]⟩/\d.gb u (Nq M)/\cP u M (fx c K (L.take (k+1))).1/\u.ownsRow d.heap.size 118 5 (x 11) (fx c K (L.take (k+1))).2.length (ij (fx c K (L.take (k+1))).2)) ?_) ?_;rotate_left
    ·refine kg (c':=mLC) (by simp only[mLC,mB3,mLB,Gi,yE,mX8,Ul,NK,sqA,sqB,inn]) ?_;refine Mk _ rfl d u _ c M T A [a0,a1,a2,a3,a4] (fx c K (L.take k)).1 (fx c K (L.take k)).2 u11 rfl rfl rfl rfl (congrArg Nq (congrArg (Og .i64) (by omega))) rfl (by omega) rfl hM F V.s V.g V.m V.o V.n (by have:k*c<=1000*4:=UT (by omega) (by omega);omega) a7 (oT λs y=>H5 s (Tb y)) ?_;intro f i w b1 b2 b3 b4 b5 b6;rw[show(fx c K (L.take k)).1=(fx c K (L.take k)).1 from rfl] at b5;have hT:fR c ((fx c K (L.take k)).1,(fx c K (L.take k)).2) [a0,a1,a2,a3,a4]=fx c K (L.take (k+1)):=by rw[OR,HS];exact(Eb _ _ _ _).symm
     rw[hT] at b5 b6;refine⟨λj=>f[j]?.getD NG,congrArg (λz=>(⟨z,[]⟩:QF)) ((Gw (63::bCh) _ f b1 (λj hj=>b3 j (KF j hj))).trans ?_),b4,b5,?_⟩
     ·rfl
     ·show w.ownsRow _ _ _ (f[11]?.getD NG) _ _;rw[b2];exact b6
    ·rintro a u2 ⟨x,rfl,g1,g2,g3⟩;have⟨G1,G2,G3⟩:=bC g1 g2 g3;clear g1 g2 g3;go_wp2;go_roundw
     case rel=>exact⟨k+1,by simp,by omega,G1,G2,G3⟩
     case measure=>simp[OP];omega
  ·obtain rfl:k=L.length:=by omega
   clear X p hO;go_wp2;have P:=U.out;have h2:=HO.out;rw[Ps] at P h2;refine HR _ _ wr rfl rfl ?_ Y P h2;rw[<- W.1,<- W.2.1,<- W.2.2.1,<- W.2.2.2.1,<- W.2.2.2.2]
   repeat(refine Vu.2 ⟨rfl,?_⟩)
   exact VA _
def Ma(a:Nu Par)(b:OI × Nu NH)(s:Nu NH):OI × Nu NH:=if aC a (pre Par.mx a a.length) (bB s)=NB then(NB,if b.1=NB/\ez (bB s) b.2=NC then b.2 else bB s) else b
def Bf(a:Nu Par)(L:Nu (Nu NH))(s:Nu NH):dK a (L++[s])=Ma a (dK a L) s:=by rw[dK,US];rfl
def aKl:Nu NA:=[0,1,2,3,4,5,6,7,8,9,10,11,12,13,14,15,18,19,20,21,22,23,24,25,26,27,28,29,30,31,32,33,34,35,36,37,38,39,40,41,42,56,57,58,59,60,61,62,63,64,65,66,67,68,69,70,71,72,73,74,75,76,77,78,79,80,81,82,83,84,85,86,87,88,89,90,91,92,93,94,95,96,97,98,99,100,101,102,103,104,105,106,107,108,109,110,111,112,113,114,115,116,117,118,119,120,121,122]
def Mm(z:NJ Ny)(hz:z.size=123)(H:Nt)(R:QF->Nt->Prop)(Yb r:NA)(a:Nu Par)(p:NH)(pv:Ny)(L:Nu (Nu NH))(nb:NO OX)(nc:NA)(h7:z[7]?=Nq (.pointer (Nq Yb)))(d6:z[13]?=Nq (.pointer (Nq r)))(d5:z[14]?=Nq (.func (.func 103) #[.pointer (Nq r)] #[]))(c9:z[41]?=Nq (.slice nb L.length nc))(c8:z[42]?=Nq (.int .i64 L.length))(b9:z[43]?=Nq (.int .i64 0))(hY:H.heap[Yb]?=Nq (.cells #[pv,p] 91 (0,0)))(hP:aD 0 r H pv a)(b8:H.heap[r]?=Nq (.cells #[.func (.func 99) #[] #[],.slice Ns 0 0,.bool NC] 108 (0,0)))(a6:YOk a p)(hL:dE H (.slice nb L.length nc) L)(N:L.all (okS a p)=NB)(hl:L.length<=1000)(hR:∀(z':NJ Ny) (C:Ny) D,z'.size=123->Kp aKl z z'->H.gb D (Nq r)->D.heap[r]?=Nq (.cells #[.func (.func 99) #[] #[],C,.bool (dK a L).1] 108 (0,0))->aj 0 D.heap.size D C (dK a L).2->R ⟨z',[]⟩ D) :mLA.wp Ya (Tc 0 (eT R)) ⟨z,[]⟩ H:=by
 obtain⟨t,P,rfl⟩:=mT z hz;have e7:=P 7 _ h7;have U:=P 13 _ d6;have T:=P 14 _ d5;have S:=P 41 _ c9;have Q:=P 42 _ c8;have d8:=P 43 _ b9;clear P h7 d6 d5 c9 c8 b9;obtain⟨yb,yc,rfl,p4,-⟩:=hP.cell;rw[e7,U,T,S,Q,d8];have HE:=Np (NY e7 (NY U (NY T (NY S Q))));clear e7 U T S Q d8 hz;have⟨HR,HY,HP,G,e5,HL⟩:=rS hR hY hP b8 a6 hL;have HA:=Np (OF.1 N);clear hR hY hP b8 a6 hL N;simp only[mLA,yE,mX8,Ul,NK,sqA,sqB,inn];go_wp2;go_loopw [43] (λiv wr=>∃(k:NA) (C:Ny),iv=.int .i64 k/\k<=L.length/\H.gb wr (Nq r)/\wr.heap[r]?=Nq (.cells #[.func (.func 99) #[] #[],C,.bool (dK a (L.take k)).1] 108 (0,0))/\aj 0 wr.heap.size wr C (dK a (L.take k)).2) (λiv _=>(L.length - OP iv).toNat)
 case atStart=>exact⟨0,_,rfl,by omega,NN _ _,G,aj.nil _ _ _⟩
 case round=>
  obtain⟨k,C,rfl,hk,hG,hB,hI⟩:=hrel;have⟨HG,HB,HI⟩:=bC hG hB hI;by_cases g9:k<L.length
  ·obtain⟨s,hs⟩:∃s,L[k]?=Nq s:=⟨_,ND g9⟩;have I:=HA.out s (Od hs);have⟨g8,Z⟩:=kX I;have b7:=HL.out.keptM hG (λcs fr e=>by rw[G] at e;injection e with e;injection e with _ e _;exact absurd e (by decide));obtain⟨B,o,rfl,k5,c0,c1,c2,c3,c4⟩:=b7.at hs;have m5:(k:NH)<(L.length:NH):=by omega
   have p5:IntKind.i64.wrap ((k:NH)+1)=(k:NH)+1:=Ov _ (by omega);have⟨HS,V⟩:=aQ hs Z;obtain⟨n,j,i,g,f,rfl⟩:=DJ g8;clear hG hB hI b7 hs I Z;go_upto_region 13 with(fail);obtain⟨X,hX⟩:∃X,X=wr.heap.size:=⟨_,rfl⟩;rw[<- hX];refine eE (λu=>(H.gb u (Nq r)/\u.heap[r]?=Nq (.cells #[.func (.func 99) #[] #[],C,.bool (dK a (L.take k)).1] 108 (0,0))/\aj 0 u.heap.size u C (dK a (L.take k)).2)/\u.heap[X]?=Nq (.cells #[n,j,i,g,f] 118 (0,0))) ⟨⟨HG.andThen (Nr _ _ Ns) (by simp),aE HB,(HI.alloc _).mono (Nv _) (by rw[NW];omega)⟩,by rw[hX];exact NL _ _⟩ (λu hF=>?_);obtain⟨⟨f1,f2,f3⟩,W⟩:=hF;have⟨F1,F2,F3⟩:=bC f1 f2 f3;have b0:=aa W (o:=0) (v:=.int .i64 n) rfl;have b1:=aa W (o:=1) (v:=.int .i64 j) rfl;have b2:=aa W (o:=2) (v:=.int .i64 i) rfl;have b3:=aa W (o:=3) (v:=.int .i64 g) rfl;have b4:=aa W (o:=4) (v:=.int .i64 f) rfl;have M:=Gt [n,j,i,g,f] rfl;have O:=Np (show ∀w,Oz Ya 113 #[.agg #[n,j,i,g,f]] w λe D=>∃v,e=.returned v/\w.gb D Ns/\aj w.heap.size D.heap.size D v (bB [n,j,i,g,f]) from M);have b:=Np (show dK a (L.take k++[[n,j,i,g,f]])=if aC a (pre Par.mx a a.length) (bB [n,j,i,g,f])=NB then(NB,if(dK a (L.take k)).1=NB/\ez (bB [n,j,i,g,f]) (dK a (L.take k)).2=NC then(dK a (L.take k)).2 else bB [n,j,i,g,f]) else dK a (L.take k) from Bf a (L.take k) [n,j,i,g,f]);have d9:=Np (show L.take k++[[n,j,i,g,f]]=L.take (k+1) by rw[OR,HS];rfl);generalize bB [n,j,i,g,f]=l at V O b;clear f1 f2 f3 W c0 c1 c2 c3 c4 k5 M hX;go_upto_region 14 with(go_at_call 113;refine(O _).mono ?_;rintro e w2 ⟨v,rfl,a9,a7⟩;have d:=Np a9;have y:=Np (a7.mono (OE _) (Nv _));clear a9 a7);clear b0 b1 b2 b3 b4;obtain⟨vb,vc,rfl,-,-⟩:=y.out.cell;have gY:=F1.out.andThen d (by simp);have y2:=blk gY (λe=>by cases e;have h:=HY.out;rw[G] at h;injection h with h;injection h with _ h _;exact absurd h (by decide)) HY;have y0:=aa y2 (o:=0) rfl;have y1:=aa y2 (o:=1) rfl;have e4:=Np ((HP.kept gY (λR e=>by cases e;exact .inr (Nv _))).mono (Nv _) (Yp (NX (aJ G) gY.size)));have GY:=Np gY;clear gY y2;cases hst:aC a (pre Par.mx a a.length) l with
   | false=>
    have x:=Np hst;clear hst;go_wp2_with (go_at_call 114;refine(wG 0 _ _ _ a p l w2 ⟨_,rfl,e4⟩ y (Nv _) e5 V).mono ?_;rintro e w3 ⟨rfl,q⟩;rw[x];have c:=Np q;clear q);go_roundw
    case rel=>
     rw[d9,if_neg (by rw[x];simp)] at b;have F:=d.out.t c;refine⟨k+1,C,by simp,by omega,F1.andThen F (by simp),?_,?_⟩
     ·rw[b];exact bk F F2
     ·rw[b];exact(F3.kept F).mono (Nv _) F.size
    case measure=>simp[OP];omega
   | true=>
    have x:=Np hst;clear hst;go_wp2_with (first
     | (go_at_call 114;refine(wG 0 _ _ _ a p l w2 ⟨_,rfl,e4⟩ y (Nv _) e5 V).mono ?_;rintro e w3 ⟨rfl,q⟩;rw[x];have c:=Np q;clear q)
     | (go_at_call 103;refine(CM r (dK a (L.take k)).1 C _ (dK a (L.take k)).2 l w3 (bk (d.t c) F2) ((F3.kept (d.t c)).mono (Nv _) (d.t c).size) ((y.kept c).mono (Nv _) c.size)).mono ?_;rintro e w4 ⟨rfl,a8,Y⟩;have A:=Np a8;have k8:=Np Y;clear a8 Y))
    go_roundw
    case rel=>
     rw[d9,if_pos x.out] at b;have F:=d.out.t c;have b6:=bk F F2;refine⟨k+1,_,by simp,by omega,(F1.andThen F (by simp)).t A,by rw[b];exact k8,?_⟩;rw[b];dsimp only;split
     ·exact(((F3.kept F).mono (Nv _) F.size).keptT A b6 (by decide)).mono (Nv _) A.size
     ·exact(((y.kept c).mono (Nv _) c.size).keptT A b6 (by decide)).mono (Nv _) A.size
    case measure=>simp[OP];omega
  ·obtain rfl:k=L.length:=by omega
   clear hG hB hI;go_wp2;have h1:=HB.out;have h2:=HI.out;rw[Ps] at h1 h2;refine HR _ _ wr rfl ?_ HG h1 h2;rw[<- HE.1,<- HE.2.2.1,<- HE.2.1,<- HE.2.2.2.1,<- HE.2.2.2.2]
   repeat(refine Vu.2 ⟨rfl,?_⟩)
   exact VA _
def GJ{w a:Nt}(h:w.gb a Ns)(r:NO NA):w.gb a r:=⟨h.os,h.tape,h.output,h.size,λk b _=>h.block k b (by simp)⟩
def MJ(d:Nu Par)(b:NH)(w0:Nt)(g:NO OX)(n e h:NA)(c:Ny)(o:NO (NH × Nu NH))(a:QF)(w:Nt):Prop :=
 ∃(z:NJ Ny) (Yb M st f:NA) (K now:Nu (Nu NH)) (nb:NO OX) (nc:NA),a=⟨z,[]⟩/\z.size=123/\z[1]?=Nq (.slice g n e)/\z[7]?=Nq (.pointer (Nq Yb))/\z[9]?=Nq (.map (Nq M))/\z[10]?=Nq (.slice nb now.length nc)/\z[11]?=Nq (.slice Ns 0 0)/\z[12]?=Nq (.int .i64 st) /\
  st+f=h/\nN d b n f K now st=Nq o/\cP w M K/\w0.heap.size<=M/\dE w (.slice nb now.length nc) now/\w0.gb w Ns/\w.heap[Yb]?=Nq (.cells #[c,b] 91 (0,0))/\aD 0 w0.heap.size w c d
def Ks(o:NO (NH × Nu NH))(z:NJ Ny)(w:Nt):Prop :=
 match o with
 | some (a,r)=>∃v,z[4]?=Nq (.int .i64 a)/\z[5]?=Nq v/\z[6]?=Nq (.int .i64 0)/\aj 0 w.heap.size w v r
 | none=>z[4]?=Nq (.int .i64 0)/\z[5]?=Nq (.slice Ns 0 0)/\z[6]?=Nq (.int .i64 11)
def tf{w:Nt}{M:NA}{c:NJ Rz}{a:NA}(b:NZ)(h:w.heap[M]?=Nq (.map c a)):(UJ #[120] b #[.map (Nq M)]).run Ya w=.ok (.tuple #[]) (w.putObj M (.map #[] a)):=by
 simp[UJ,PF,TZ Tp.und120,getObj,setObj,Pr,h,TX,ZO]
def IN(a:QF):NH:=OP (a.tmps.getD 12 NG)
def Kg(H:Nu Par)(B:NH)(w0 w:Nt)(V:NO OX)(n U f0:NA)(pv:Ny)(o:NO (NH × Nu NH))(a:QF)(Q:Ux->QF->Nt->Prop)(hJ:MJ H B w0 V n U f0 pv o a w)(l5:YOk H B)(hn:n<=5)(hf:f0<=1000)(hQ:∀(b:NJ Ny) L,b.size=123->Ks o b L->w0.gb L Ns->Q .ret ⟨b,[]⟩ L) :mX8.wp Ya (Xn 0 (λa' L=>MJ H B w0 V n U f0 pv o a' L/\(f0 - IN a').toNat<(f0 - IN a).toNat) Q) a w:=by
 obtain⟨z,Yb,M,P,f,K,c,nb,nc,rfl,hz,h1,h7,h9,e5,e4,d9,s3,hm,hM,h,hN,hG,hY,hP⟩:=hJ;obtain⟨t,N,rfl⟩:=mT z hz;have e1:=N 1 _ h1;have e7:=N 7 _ h7;have e9:=N 9 _ h9;have g6:=N 10 _ e5;have g5:=N 11 _ e4;have e8:=N 12 _ d9;clear N h1 h7 h9 e5 e4 d9 hz;obtain⟨yb,yc,rfl,s1,-⟩:=hP.cell;rw[e1,e7,e9,g6,g5,e8];clear e1 e7 e9 g6 g5 e8;cases f with
 | zero=>cases hm
 | succ f=>
  unfold nN at hm;split at hm
  ·rename_i g
   obtain⟨g,hl⟩:=g;have⟨i,HQ,G,HM,HN,HG,HY,HP⟩:=GI g hQ hm hM hN hG hY hP;have l9:M<w.heap.size:=by obtain⟨es,cl,e,-⟩:=hM;exact aJ e
   clear hQ hm hM hN hG hY hP g;simp only[mX8,Ul,NK,sqA,sqB,inn];have s4:∀(a:OX) (fn:Fn) (x y:NJ Ny) (m:Mode) (w:Nt),(store a (.func fn x y) m).run Ya w=stored Ya w a (.func fn x y) m:=λa fn x y m w=>run_store _ w a _ m rfl;go_upto_region 10 with(fail);obtain⟨F,C⟩:∃F,F=w.heap.size:=⟨_,rfl⟩;rw[<- C];have O:=Nr w (.cells #[.func (.func 99) #[] #[],.slice Ns 0 0,.bool NC] 108) Ns;have u7:=Np O;refine eE (λu=>(w.gb u Ns/\u.heap[F]?=Nq (.cells #[.func (.func 99) #[] #[],.slice Ns 0 0,.bool NC] 108 (0,0)))) ⟨O,by rw[C];exact NL _ _⟩ (λu hF=>?_);obtain⟨g1,T⟩:=hF;have⟨G1,B1,n3⟩:=bC g1 T C;have t1:M<F:=by omega
   have b9:w0.heap.size<=F:=by have:=HG.out.size;omega
   clear g1 T O C;go_upto_region 17 with(fail);refine UR (eM (R:=λa u2=>∃(b:NJ Ny) (bv:Ny),a=⟨b,[]⟩/\b.size=123/\b[1]?=Nq (.slice V n U)/\b[7]?=Nq (.pointer (Nq Yb))/\b[9]?=Nq (.map (Nq M))/\b[10]?=Nq (.slice nb c.length nc)/\b[11]?=Nq (.slice Ns 0 0)/\b[12]?=Nq (.int .i64 P)/\b[13]?=Nq (.pointer (Nq F)) /\
    u.gb u2 (Nq F)/\u2.heap[F]?=Nq (.cells #[.func (.func 99) #[] #[],bv,.bool (dK H c).1] 108 (0,0))/\aj 0 u2.heap.size u2 bv (dK H c).2) ?_) ?_
   rotate_left
   ·refine kg (c':=mLA) (by simp only[mLA,yE,mX8,Ul,NK,sqA,sqB,inn]) ?_;refine Mm _ rfl u _ Yb F H B (.slice yb H.length yc) c nb nc rfl rfl rfl rfl rfl rfl (bk G1 HY) ((HP.kept G1).mono (Nv _) b9) B1 l5 (HN.keptM (M:=M) (GJ G1 _) (λcs fr=>HM.not _ _ _)) i hl ?_;intro b bv L T D S b4 b5;exact⟨b,bv,rfl,T,D 1 (by decide),D 7 (by decide),D 9 (by decide),D 10 (by decide),D 11 (by decide),D 12 (by decide),D 13 (by decide),S,b4,b5⟩
   ·rintro a u2 ⟨b,bv,rfl,r,k1,Y,X,a6,l,k,Z,f1,f2,I⟩;obtain⟨t2,d,rfl⟩:=mT b r;have j1:=d 1 _ k1;have j7:=d 7 _ Y;have j9:=d 9 _ X;have b7:=d 10 _ a6;have q:=d 11 _ l;have p:=d 12 _ k;have b0:=d 13 _ Z;clear d k1 Y X a6 l k Z;rw[j1,j7,j9,b7,q,p,b0];clear j1 j7 j9 b7 q p b0 r;obtain⟨bb,bc,rfl,-,-⟩:=I.cell;have c9:w.gb u2 Ns:=kA G1 f1 (by rw[n3];exact Nv _);have c1:=aa f2 (o:=1) rfl;have c2:=aa f2 (o:=2) rfl;have⟨F3,A⟩:=aQ I c9;have l8:M<u2.heap.size:=by have:=c9.size;omega
    have s9:=aJ f2;clear f1 f2 I;cases hb:(dK H c).1 with
    | true=>
     rw[if_pos hb] at G;rw[hb] at c2;clear hb;go_wp2_with (fail);go_quiet (fail);go_wp2;simp only[Xn];have hm:=G.out;cases hm;exact HQ _ _ rfl ⟨_,rfl,rfl,rfl,(F3.kept (ax _ _ Ns)).mono (Nv _) (Nv _)⟩ ((HG.t A).t (ax _ _ Ns))
    | false=>
     rw[if_neg (by rw[hb];simp)] at G;rw[hb] at c2;clear hb;have d8:cP u2 M K:=HM.out.kept (A.block M l9 (by simp));have d7:dE u2 (.slice nb c.length nc) c:=HN.out.keptM (M:=M) (GJ A _) (λcs fr=>HM.not _ _ _);have⟨m4,l7⟩:=aQ d8 d7;clear d8 d7;go_upto_region 33 with(fail);refine UR (eM (R:=λa u3=>∃(b:NJ Ny) (W:Ny),a=⟨b,[]⟩/\b.size=123/\b[1]?=Nq (.slice V n U)/\b[7]?=Nq (.pointer (Nq Yb))/\b[9]?=Nq (.map (Nq M))/\b[11]?=Nq W/\b[12]?=Nq (.int .i64 P) /\
      u2.gb u3 (Nq M)/\cP u3 M (fx (n - 1) K c).1/\u3.ownsRow u2.heap.size 118 5 W (fx (n - 1) K c).2.length (ij (fx (n - 1) K c).2)) ?_) ?_
     rotate_left
     ·refine kg (c':=mLB) (by simp only[mLB,Gi,yE,mX8,Ul,NK,sqA,sqB,inn]) ?_;refine Ml _ rfl u2 _ n (n - 1) M P c K V nb U nc rfl rfl rfl rfl rfl rfl rfl hn rfl l8 l7 (λs hs=>(kX (OF.1 i s hs)).1) hl m4 (by omega) ?_;intro b W L T D S b4 b5 b6;exact⟨b,W,rfl,T,S 1 (by decide),S 7 (by decide),S 9 (by decide),D,S 12 (by decide),b4,b5,b6⟩
     ·rintro a u3 ⟨b,W,rfl,r,k1,Y,X,l,k,f1,f2,I⟩;obtain⟨t3,j,rfl⟩:=mT b r;have j1:=j 1 _ k1;have j7:=j 7 _ Y;have j9:=j 9 _ X;have q:=j 11 _ l;have p:=j 12 _ k;clear j k1 Y X l k;rw[j1,j7,j9,q,p];clear j1 j7 j9 q p r c1 c2;obtain⟨r9,r5,r7,rfl⟩:=cd I;have⟨F1,F2⟩:=aQ f1 f2;have hS:=dE.own I (oT λs hs=>(kX (OF.1 i s hs)).1);obtain⟨r8,r6,e3,-⟩:=hS;cases e3;have HS:=Np (dE.own I (oT λs hs=>(kX (OF.1 i s hs)).1));have hm:=G.out;rw[JC] at hm;have s2:IntKind.i64.wrap ((P:NH)+1)=(P:NH)+1:=Ov _ (by omega);have d5:w0.gb u3 Ns:=kA (HG.t A) F1 h;have d6:w.gb u3 (Nq M):=(GJ A _).t F1;have⟨g9,h8⟩:=aQ d5 d6;clear f1 f2 I d5 d6;split at hm
      ·rename_i s6
       split at hm
       ·rename_i v
        cases hm;rw[v];obtain⟨es,cl,c8,-⟩:=F2.out;have s7:=tf 0 c8;clear c8;go_wp2;simp only[Xn];exact HQ _ _ rfl ⟨rfl,rfl,rfl⟩ (kA g9 (RH _ _ _) h)
       ·rename_i v
        have n8:(0:NH)<((fx (n - 1) K c).2.length:NH):=by
         have:=Ru.2 v;omega
        have n2:=Np hm;clear hm;go_wp2;go_step3;have m3:Yb≠M:=λe=>by rw[e] at HY;exact HM.not _ _ _ HY
        refine⟨rfl,⟨_,Yb,M,P+1,f,_,_,_,_,rfl,rfl,rfl,rfl,rfl,rfl,rfl,by simp,by omega,by simpa using n2.out,F2,h,HS,g9,blk h8 (by simpa using m3) HY,HP.kept h8 (λR e=>by cases e;exact .inr h)⟩,?_⟩;simp[IN,OP];omega
      ·cases hm
  ·cases hm
def Kt(w0:Nt)(o:NO (NH × Nu NH))(e:Ending)(a:Nt):Prop :=
 w0.gb a Ns/\match o with
 | some (b,r)=>∃v,e=.returned (.tuple #[b,v,.int .i64 0])/\aj 0 a.heap.size a v r
 | none=>e=.returned (.tuple #[.int .i64 0,.slice Ns 0 0,.int .i64 11])
def DQ{l:NA}{J c:QF->Nt->Prop}{Q:Ux->QF->Nt->Prop}(h:∀a w,J a w->c a w):∀e a w,Xn l J Q e a w->Xn l c Q e a w:=by
 intro e a w b;cases e with
 | goto d=>exact⟨b.1,h _ _ b.2⟩
 | _=>exact b
def yC{w b:Nt}{o:NO (NH × Nu NH)}{z:NJ Ny}(n:z.size=123)(k:Ks o z b)(j:w.gb b Ns):bodyPost Ya Ul (λe b=>Kt w o e b) .ret ⟨z,[]⟩ b:=by
 obtain⟨t,a,rfl⟩:=mT z n;cases o with
 | none=>
  obtain⟨f,d,c⟩:=k;have i:=a 4 _ f;have h:=a 5 _ d;have g:=a 6 _ c;rw[i,h,g];exact Qi (v:=.tuple #[.int .i64 0,.slice Ns 0 0,.int .i64 11]) (by simp[Qo,Zg,go_sem]) rfl ⟨j,rfl⟩
 | some p=>
  obtain⟨l,r⟩:=p;obtain⟨v,f,d,c,q⟩:=k;have i:=a 4 _ f;have h:=a 5 _ d;have g:=a 6 _ c;rw[i,h,g];exact Qi (v:=.tuple #[l,v,.int .i64 0]) (by simp[Qo,Zg,go_sem]) rfl ⟨j,v,rfl,q⟩
def BO(pv qv:Ny)(g:Nu Par)(b:NH)(l:Nu NH)(w:Nt)(hP:aD 0 w.heap.size w pv g)(hI:aj 0 w.heap.size w qv l)(T:YOk g b)(hp:POk g b l)(q:NA)(hf:q<=1000)(o:NO (NH × Nu NH))(hm:nN g b l.length q [bp l] [bp l] 0=Nq o) :Oz Ya 54 #[.agg #[pv,b],qv] w λe w'=>Kt w o e w':=by
 obtain⟨O,N,rfl,n2,-⟩:=hP.cell;obtain⟨pb,pc,rfl,-,-⟩:=hI.cell;have n6:=hp.len;have⟨HP,HI,H,e8,HM⟩:=nW hP hI T hp hm;clear hP hI T hp hm;go_enter Tp.x54,Tryz.ntmps54;have c:l.length<=5:=by
  cases q with
  | zero=>cases HM
  | succ f=>
   have h:=HM.out;unfold nN at h;split at h
   ·rename_i h1
    have:=(kX (OF.1 h1.1 (bp l) (by simp))).1;unfold bp at this;rw[Pi] at this;omega
   ·cases h
 go_wp2;refine wp_scope_jumps 0 (MJ g b w pb l.length pc q (.slice O g.length N) o) (λa _=>(q - IN a).toNat) rfl ?_ ?_
 ·go_upto_region 4 with(go_at_call 81;refine(jO 0 w.heap.size _ _ g b l _ (HP.kept (Nr _ _ Ns)) (HI.kept (Nr _ _ Ns)) (by simp) H e8).mono ?_;rintro e w2 ⟨rfl,Y⟩;have a6:=Np ((Nr w (.cells #[.slice O g.length N,b] 24) Ns).t Y);clear Y);obtain⟨L,C⟩:∃L,L=w2.heap.size:=⟨_,rfl⟩;rw[<- C];refine eE (λu=>w.gb u Ns/\u.heap[L]?=Nq (.cells #[.slice O g.length N,b] 91 (0,0))) ⟨a6.t (Nr _ _ Ns),by rw[C];exact NL _ _⟩ (λu Z=>?_);obtain⟨g3,y3⟩:=Z;have⟨G3,Y3⟩:=aQ g3 y3;clear g3 y3 C a6;obtain⟨M,k⟩:∃M,M=u.heap.size:=⟨_,rfl⟩;have p:cP (u.alloc (.map #[] 0)) M []:=cP.nil (by rw[k];exact NL u (.map #[] 0));have r:=Np p;have j:u.gb (u.alloc (.map #[] 0)) Ns:=Nr _ _ Ns;have g9:=Np j;have D:M<(u.alloc (.map #[] 0)).heap.size:=by rw[k,NW];omega
  have h5:=jH c;have⟨x0,x1,x2,x3,x4,Q⟩:=DJ h5;have G:=Np Q;have d6:(VZ 120 Ns).run Ya u=.ok (.map (Nq M)) (u.alloc (.map #[] 0)):=by rw[k];rfl
  clear p h5 Q;go_upto_region 5 with(go_at_call 112;refine(po 0 _ _ l _ ((HI.kept (G3.t j)).mono (Nv _) (G3.t j).size) c).mono ?_;rintro e w5 ⟨rfl,A⟩;have I:=Np A;have U:=r.out.kept (A.block M D (by simp));have⟨ob,n4,y,W⟩:=U.add (bp l) (jH c) (by simp) 0;have e9:=Np W;clear W A U;rw[G] at y ⊢;have S:(PO 120 (.map (Nq u.heap.size)) (.agg #[x0,x1,x2,x3,x4]) (.int .i64 0)).run Ya w5=.ok () (w5.putObj M ob):=k ▸ y;clear y;unfold A5);rw[<- k];have X:M<w5.heap.size:=NX D I.size;have R:w.heap.size<=M:=by have:=G3.out.size;omega
  refine eE (λv=>w.gb v Ns/\v.heap[L]?=Nq (.cells #[.slice O g.length N,b] 91 (0,0))/\cP v M [bp l]) ⟨kA (G3.t (j.t I)) (RH _ _ _) R,blk (RH _ _ _) (λe=>by cases e;have:=aJ Y3;omega) (bk (j.t I) Y3),e9 _ (Tz X)⟩ (λu6 Z=>?_);obtain⟨g6,y6,m6⟩:=Z;have⟨G6,Y6,M6⟩:=bC g6 y6 m6;have n3:=g6.size;clear g6 y6 m6 S d6 r j g9 D X k;go_upto_region 6 with(go_at_call 112;refine(po 0 _ _ l _ ((HI.kept G6).mono (Nv _) G6.size) c).mono ?_;rintro e P ⟨rfl,V⟩;have h8:=Np V;clear V;rw[G];unfold A5);have z:=M6.out;have B:(P.alloc (.cells #[x0,x1,x2,x3,x4] 118)).heap[P.heap.size]?=Nq (.cells #[x0,x1,x2,x3,x4] 118 (0,0)):=NL P _;have n:=h8.out.t (Nr P (.cells #[x0,x1,x2,x3,x4] 118) Ns);have e5:M<u6.heap.size:=by obtain⟨es,cl,e,-⟩:=z;exact aJ e
  obtain⟨B7,F⟩:∃B7,B7=P.heap.size:=⟨_,rfl⟩;rw[<- F] at B;rw[<- F];refine eE (λv=>w.gb v Ns/\v.heap[L]?=Nq (.cells #[.slice O g.length N,b] 91 (0,0))/\cP v M [bp l]/\dE v (.slice (Nq B7) [bp l].length 1) [bp l]) ⟨G6.t n,bk n Y6,z.kept (n.block M e5 (by simp)),_,_,rfl,λ_=>⟨B7,0,_,_,rfl,B,λi s hi d hd=>by
   rcases i with _ | i
   ·simp at hi;subst hi;rw[G];obtain rfl | rfl | rfl | rfl | rfl:d=0\/d=1\/d=2\/d=3\/d=4:=by omega
    all_goals rfl
   ·simp at hi⟩⟩ (λu8 Z=>?_)
  obtain⟨g8,y8,m8,s8⟩:=Z;have⟨G8,Y8,M8,S8⟩:=cJ g8 y8 m8 s8;clear g8 y8 m8 s8 z B n F;go_wp2;refine wp_label ?_
  rename_i K hK
  refine hK _ _ ?_;refine kg (c':=mX8) (by simp only[mX8,Ul,NK,sqB,inn]) ?_;refine UR (DQ λa u h=>h.1) (Kg g b w u8 pb l.length pc q _ o _ _ ⟨_,L,M,0,q,[bp l],[bp l],_,_,rfl,rfl,rfl,rfl,rfl,rfl,rfl,rfl,by omega,HM,M8,R,S8,G8,Y8,HP.kept G8⟩ H c hf ?_);exact λz' w' x hR hg=>yC x hR hg
 ·rintro a u hJ;refine wp_seq ?_;refine wp_skip ?_;refine kg (c':=mX8) (by simp only[mX8,Ul,NK,sqB,inn]) ?_;refine Kg g b w u pb l.length pc q _ o a _ hJ H c hf ?_;exact λz' w' x hR hg=>yC x hR hg
end
section
open Go.RowKit Go.Co
def iH(f g:NA)(w:Nt)(v:Ny)(n:NA)(c:NA->NA->NH):Prop :=
 ∃base a,v=.slice base n a/\(n:NH)<=1000000/\(0<n->∃B o b e h,base=Nq ⟨B,o,Ns⟩/\f<=B/\B<g/\w.heap[B]?=Nq (.cells b e h)/\∀i,i<n->∀d,d<5->b[o+i*5+d]?=Nq (.int .i64 (c i d)))
def ovr(c g:NA->NH)(l:Nu NH)(k:NA):NA->NH:=λd=>if(d:NH)∈l.take k then c d else g d
def yk(c g:NA->NH)(l:Nu NH)(k n:NA)(h:l[k]?=Nq (n:NH))(d:NA):ovr c g l (k+1) d=if d=n then c d else ovr c g l k d:=by
 unfold ovr;rw[OR,h];by_cases e:d=n
 ·subst e;simp
 ·have:¬ ((d:NH)=n):=by omega
  simp[e,this]
def KW(lo hi:NA)(t:NA->Ny)(w0 w:Nt)(R:QF->Nt->Prop)(A V:NA)(av vv:Ny)(N i:NA)(c:NA->NA->NH)(f:Nu NH)(o l:NA)(g h:NA->NH)(h2:t 2=.pointer (Nq A))(hA:w0.cell? A=Nq av)(hC:iH lo hi w0 av N c)(h5:t 5=.pointer (Nq V))(I:w0.cell? V=Nq vv)(hI:aj lo hi w0 vv f)(h7:t 7=.int .i64 i)(d9:i<N)(h8:t 8=.pointer (Nq o))(h9:t 9=.pointer (Nq l))(hg:w0.gb w Ns)(b:w.heap[o]?=Nq (aT g))(a:w.heap[l]?=Nq (aT h))(d8:o≠l)(p4:w0.heap.size<=o)(p3:w0.heap.size<=l)(n9:hi<=w0.heap.size)(hx:∀x∈f,0<=x/\x<5)(hR:∀(c9 c8 c3 b9 b8 b7 b6 b0 a9 a8 a7 a6 Z Y X W U T S Q P O M L:Ny) w',w0.gb w' Ns->w'.heap[o]?=Nq (aT (ovr (c i) g f f.length))->w'.heap[l]?=Nq (aT (ovr (c i) h f f.length)) ->R ⟨#[t 0,t 1,.pointer (Nq A),t 3,t 4,.pointer (Nq V),t 6,.int .i64 i,.pointer (Nq o),.pointer (Nq l),t 10,c9,t 12,t 13,t 14,t 15,t 16,t 17,t 18,t 19,t 20,t 21,t 22,t 23,t 24,c8,c3,b9,b8,b7,b6,b0,a9,a8,a7,a6,Z,Y,X,W,U,T,S,Q,P,O,M,L,t 48,t 49,t 50,t 51,t 52,t 53,t 54,t 55,t 56,t 57,t 58,t 59],[]⟩ w') :wR4.wp Ya (eT R) ⟨#[t 0,t 1,t 2,t 3,t 4,t 5,t 6,t 7,t 8,t 9,t 10,t 11,t 12,t 13,t 14,t 15,t 16,t 17,t 18,t 19,t 20,t 21,t 22,t 23,t 24,t 25,t 26,t 27,t 28,t 29,t 30,t 31,t 32,t 33,t 34,t 35,t 36,t 37,t 38,t 39,t 40,t 41,t 42,t 43,t 44,t 45,t 46,t 47,t 48,t 49,t 50,t 51,t 52,t 53,t 54,t 55,t 56,t 57,t 58,t 59],[]⟩ w:=by
 obtain⟨ab,ac,rfl,hN,F⟩:=hC;obtain⟨vb,vc,rfl,hq,D⟩:=hI.cell;obtain⟨AB,ao,q4,q1,q3,rfl,l5,l4,y,v⟩:=F (by omega);have⟨HR,HI,HX,HA,HV⟩:=nW hR D hx hA I;have HC:=Np (NY y v);have⟨g6,g5,HG⟩:=bC b a hg;have p7:A<w0.heap.size:=Xw hA;have p5:V<w0.heap.size:=Xw I;clear hR hI D F hx b a y v;rw[h2,h5,h7,h8,h9];clear h2 h5 h7 h8 h9;simp only[wR4,dZ,SJ,NK,sqA,sqB,inn];have v0:=hg.cl I;clear hA I hg;go_wp2;clear v0;go_loopw [27] (λiv wr=>∃k:NA,iv=.int .i64 k/\k<=f.length/\w0.gb wr Ns/\wr.heap[o]?=Nq (aT (ovr (c i) g f k))/\wr.heap[l]?=Nq (aT (ovr (c i) h f k))) (λiv _=>(f.length - OP iv).toNat)
 case atStart=>exact⟨0,rfl,by omega,HG,by rw[g6];first | (congr 1;done) | (congr 1;exact fj λd _=>by simp[ovr]),by rw[g5];first | (congr 1;done) | (congr 1;exact fj λd _=>by simp[ovr])⟩
 case round=>
  obtain⟨k,rfl,hk,s,b,a⟩:=hrel;have⟨H,B,z⟩:=bC s b a;have a0:=s.cl HA;have v0:=s.cl HV;have n7:=(Nz.1 b).1;have n6:=(Nz.1 a).1;have n4:=s.size;by_cases r:k<f.length
  ·obtain⟨VB,vo,rfl,k9,k8,k7,u⟩:=HI.out (by intro e;rw[e] at r;simp at r);have x0:=s.cl (u k r);obtain⟨x,q⟩:∃x,f[k]?=Nq x:=⟨_,ND r⟩;have⟨n3,n2⟩:=HX.out x (Od q);rw[q] at x0;simp only[NK] at x0;obtain⟨n,rfl⟩:∃n:NA,x=n:=⟨x.toNat,by omega⟩;have p:n<5:=by omega
   have C:w0.cell? ⟨AB,ao+i*5+n,Ns⟩=Nq (.int .i64 (c i n)):=aa HC.1 (HC.2 i d9 n p);have c0:=s.cl C;have d1:=aB b p;have d2:=aB a p;have f1:=dG b;have f2:=dG a;have G:=Np q;clear u q s b a C;go_upto_region 7 with(fail);have n8:(i:NH)<(N:NH):=by omega
   have k0:(n:NH)<5:=by omega
   have R1:((wr.setCell ⟨o,n,Ns⟩ (.int .i64 (c i n))).setCell ⟨l,n,Ns⟩ (.int .i64 (c i n))).heap[o]?=Nq (aT (ovr (c i) g f (k+1))):=by
    refine(blk (an _ l _ _) (by simp;exact d8) (kT B p)).trans ?_
    congr 1
    exact fj λd _=>by rw[yk _ _ _ _ n G];split<;>simp_all
   have R2:((wr.setCell ⟨o,n,Ns⟩ (.int .i64 (c i n))).setCell ⟨l,n,Ns⟩ (.int .i64 (c i n))).heap[l]?=Nq (aT (ovr (c i) h f (k+1))):=by
    refine(kT (blk (an _ o _ _) (by simp;omega) z) p).trans ?_
    congr 1
    exact fj λd _=>by rw[yk _ _ _ _ n G];split<;>simp_all
   have RG:w0.gb ((wr.setCell ⟨o,n,Ns⟩ (.int .i64 (c i n))).setCell ⟨l,n,Ns⟩ (.int .i64 (c i n))).drew Ns :=
    ((H.andThen (row':=Nq o) (an _ _ _ _) (by rintro j e;cases e;exact .inl (by omega))).andThen (row':=Nq l) (an _ _ _ _) (by rintro j e;cases e;exact .inl (by omega))).t (ai _ _)
   have⟨e9,e8,e7⟩:=bC R1 R2 RG;clear R1 R2 RG;go_region_law (fail);all_goals
    clear a0 x0 c0 d1 d2 f1 f2;go_wp2;go_roundw
    case rel=>exact⟨k+1,by simp,by omega,e7,e9,e8⟩
    case measure=>simp[OP];omega
  ·obtain rfl:k=f.length:=by omega
   clear s b a a0 v0;go_wp2;exact HR _ _ _ _ _ _ _ _ _ _ _ _ _ _ _ _ _ _ _ _ _ _ _ _ wr H B z
def KU(r q:NA)(t:NA->Ny)(w0 w:Nt)(R:QF->Nt->Prop)(Y V:NA)(yb:NO OX)(yc:NA)(vv:Ny)(c:Nu Par)(f:NH)(l:Nu NH)(B1 B2:NA)(g h:NA->NH)(h4:t 4=.pointer (Nq Y))(z:w0.cell? Y=Nq (.slice yb c.length yc))(y:w0.cell? ⟨Y,1,Ns⟩=Nq (.int .i64 f))(hP:aD r q w0 (.slice yb c.length yc) c)(h6:t 6=.pointer (Nq V))(hV:w0.cell? V=Nq vv)(hI:aj r q w0 vv l)(h8:t 8=.pointer (Nq B1))(h9:t 9=.pointer (Nq B2))(p:w0.gb w Ns)(b:w.heap[B1]?=Nq (aT g))(A:w.heap[B2]?=Nq (aT h))(l4:q<=w0.heap.size)(o:c.length<=5)(hx:∀x∈l,0<=x/\x<c.length)(hl:l.length<=1000)(u:∀i,0<=g i/\g i<=1000)(s:∀i,0<=h i/\h i<=1000)(hR:∀(U T S Q P O N M L I:Ny) w',w.gb w' Ns->R ⟨#[t 0,t 1,t 2,t 3,.pointer (Nq Y),t 5,.pointer (Nq V),t 7,.pointer (Nq B1),.pointer (Nq B2),t 10,t 11,t 12,t 13,t 14,t 15,t 16,t 17,t 18,t 19,t 20,t 21,t 22,t 23,t 24,t 25,t 26,t 27,t 28,t 29,t 30,t 31,t 32,t 33,t 34,t 35,t 36,t 37,t 38,t 39,t 40,t 41,t 42,t 43,t 44,t 45,t 46,t 47,U,T,S,Q,P,O,N,M,L,I,.bool (aC c g l && !aC c h l),t 59],[]⟩ w') :wR9.wp Ya (eT R) ⟨#[t 0,t 1,t 2,t 3,t 4,t 5,t 6,t 7,t 8,t 9,t 10,t 11,t 12,t 13,t 14,t 15,t 16,t 17,t 18,t 19,t 20,t 21,t 22,t 23,t 24,t 25,t 26,t 27,t 28,t 29,t 30,t 31,t 32,t 33,t 34,t 35,t 36,t 37,t 38,t 39,t 40,t 41,t 42,t 43,t 44,t 45,t 46,t 47,t 48,t 49,t 50,t 51,t 52,t 53,t 54,t 55,t 56,t 57,t 58,t 59],[]⟩ w:=by
 obtain⟨vb,vc,rfl,hq,-⟩:=hI.cell;have F:=Np hR;have HI:=Np (hI.kept p);have HP:=Np (hP.kept p);have⟨HX,C,c8,d⟩:=cJ hx u s A;have H:=p.cl z;have G:=p.cl y;have W:=p.cl hV;have k9:=p.size;have a0:=aB b (show 0<5 by omega);have a1:=aB b (show 1<5 by omega);have a2:=aB b (show 2<5 by omega);have a3:=aB b (show 3<5 by omega);have a4:=aB b (show 4<5 by omega);rw[h4,h6,h8,h9];have SC:=Np (NY H (NY G W));clear hR hI hP hx u s A z y hV p h4 h6 h8 h9 b;simp only[wR9,dZ,SJ,NK,sqA,sqB,inn];obtain⟨Z,n⟩:∃Z,aC c g l=Z:=⟨_,rfl⟩;obtain⟨X,k⟩:∃X,aC c h l=X:=⟨_,rfl⟩;rw[n,k] at F;have⟨B,b6⟩:=aQ n k;clear n k;cases Z
 ·go_wp2_with fail;refine(gT r q _ _ c f l g _ ⟨_,rfl,HP⟩ HI (by omega) o HX hl C).mono ?_;rintro e w5 ⟨rfl,a⟩;rw[B];have j:=Np a;clear a H G W a0 a1 a2 a3 a4;go_wp2;exact F _ _ _ _ _ _ _ _ _ _ _ j
 ·go_wp2_with fail;refine(gT r q _ _ c f l g _ ⟨_,rfl,HP⟩ HI (by omega) o HX hl C).mono ?_;rintro e w5 ⟨rfl,a⟩;rw[B];have b0:=aB (bk a d) (show 0<5 by omega);have b1:=aB (bk a d) (show 1<5 by omega);have b2:=aB (bk a d) (show 2<5 by omega);have b3:=aB (bk a d) (show 3<5 by omega);have b4:=aB (bk a d) (show 4<5 by omega);have z0:=a.cl SC.1;have z1:=a.cl SC.2.1;have z2:=a.cl SC.2.2;have hz:=a.size;have b7:=Np (HP.kept a);have b9:=Np (HI.kept a);have j:=Np a;clear a H G W a0 a1 a2 a3 a4;go_wp2_with fail;refine(gT r q _ _ c f l h _ ⟨_,rfl,b7⟩ b9 (by omega) o HX hl c8).mono ?_;rintro e w6 ⟨rfl,v⟩;rw[b6];have D:=Np v;clear v b0 b1 b2 b3 b4 z0 z1 z2;cases X
  ·go_wp2;exact F _ _ _ _ _ _ _ _ _ _ _ (j.t D)
  ·go_wp2;exact F _ _ _ _ _ _ _ _ _ _ _ (j.t D)
end
section
open Go Go.RowKit Go.Conc Go.ConcN Go.ConcN.Gen Go.Conc.Lib Go.ConcR.Gen Go.Co Go.Sim
def aY:Qs->NJ PE | .region _ ops _=>ops | _=>#[]
noncomputable def wLB:Qs:=inn (inn (sqB (Tryz.f139.body.getD .skip)))
noncomputable def Jj:NJ PE:=aY (sqA dZ)
noncomputable def FW:NJ PE:=aY (sqA (sqA (sqB dZ)))
noncomputable def mM:NJ PE:=aY (sqA (sqB (Tryz.f141.body.getD .skip)))
noncomputable def mK:NJ PE:=aY (sqA (sqB (Tryz.f142.body.getD .skip)))
noncomputable def qa:NJ PE:=aY (Tryz.f143.body.getD .skip)
noncomputable def dJ:Nu Si:=[.inLoop wLB,.inBlock 0]
def pt(b:NA):Ny:=.pointer (Nq b)
noncomputable def f1(a:NJ Ny)(D:Nu Qa):NS:=(PD 139).at ⟨a,D⟩ (.inRegion Jj [0,1,2]::.code (sqB dZ)::.inBlock 1::dJ)
def rG(x:NJ Ny)(h:x.size=60):∃y0 y1 y2 y3 y4 y5 y6 y7 y8 y9 b7 b6 b0 a9 a8 a7 a6 Z Y X W V U T R Q P O N M L I H G F D C B A z y w v u s r q p o n l k j i g f d c b a,x=#[y0,y1,y2,y3,y4,y5,y6,y7,y8,y9,b7,b6,b0,a9,a8,a7,a6,Z,Y,X,W,V,U,T,R,Q,P,O,N,M,L,I,H,G,F,D,C,B,A,z,y,w,v,u,s,r,q,p,o,n,l,k,j,i,g,f,d,c,b,a]:=by
 have e:=lR x;rw[h] at e;exact⟨_,_,_,_,_,_,_,_,_,_,_,_,_,_,_,_,_,_,_,_,_,_,_,_,_,_,_,_,_,_,_,_,_,_,_,_,_,_,_,_,_,_,_,_,_,_,_,_,_,_,_,_,_,_,_,_,_,_,_,_,e.t rfl⟩
def zk{Fz S:Bs}{A o a:NA}(h:Fz A)(g:A<a):EvC Fz S a ⟨.cell ⟨A,o,Ns⟩,NC,Mode.plain == Mode.atomic⟩:=by
 refine⟨⟨by simp,by simp,by simp⟩,λm hm=>by simp at hm,λx d b f=>?_⟩;have c:x=⟨.cell ⟨A,o,Ns⟩,NC,.plain⟩:=by
  have e:(Mode.plain == Mode.atomic)=NC:=by decide
  rw[e] at d;simp[PG,Qr] at d;exact d.symm
 subst c;simp only[Go.Co.blk,OM] at f;subst f;exact⟨g,rfl,.inr ⟨h,rfl⟩⟩
noncomputable def c20:Qs:=sqB (sqA (sqB dZ))
noncomputable def wX:Qs:=sqB (sqB dZ)
noncomputable def f2(a:NJ Ny)(D:Nu Qa):NS:=(PD 139).at ⟨a,D⟩ (.inRegion FW [5,6]::.code c20::.code wX::.inBlock 1::dJ)
section
variable{Fz:Bs}{K:Nt->Nt->Prop}{Stop:Bs->NF->Nt->Prop}{S:Bs}(hK:∀a b c,K a b->K b c->K a c)
include hK
theorem IZ{d:NJ Ny}{D:Nu Qa}{b:Nu NS}{c:NA}{w:Nt}(e:d[1]?.getD NG=pt c)(a:∀w₁,RC Fz K S w w₁->Stop S (G ((Oq 141).at ⟨#[pt c,.int .i64 1,NG,NG,.int .i64 0,pt c,pt c,pt c,.int .i64 1,NG],[]⟩ [.inRegion mM [4,5],.code .ret]) (f1 d D::b)) w₁) :az NV Fz K Stop S (G ((PD 139).at ⟨d,D⟩ (.code wLB::dJ)) b) w:=by
 simp only[f1,Jj,mM,wLB,dZ,dJ,SJ,Vh,NK,sqA,sqB,inn,aY] at a ⊢;refine az.block hK ?_;refine az.seq hK ?_;refine az.region hK ?_;simp only[Ox,NQ,NU,Oh,Oc,Oo,Pf];refine az.enter hK rfl rfl (by k_ne) rfl Tryz.func141 (by kernel_rfl) rfl ?_
 walk_nrmf Vh
 rw[e];simp only[pt] at a ⊢;refine az.seq hK ?_;refine az.region hK ?_;simp only[Ox,NQ,NU,Oh,Oc,Oo,Pf];refine az.value hK (.int .i64 0) rfl rfl (by k_ne) (λ_=>by go_simp) (λ_=>by simp[go_sem]) ?_;walk_nrm;refine az.region_end hK ?_;refine az.seq hK ?_;refine az.region hK ?_;simp only[Ox,NQ,NU,Oh,Oc,Oo,Pf];refine az.value hK (.pointer (Nq c)) rfl rfl (by k_ne) (λ_=>by go_simp) (λ_=>by simp[go_sem]) ?_;walk_nrm;refine az.value hK (.pointer (Nq c)) rfl rfl (by k_ne) (λ_=>by go_simp) (λ_=>by simp[go_sem]) ?_;walk_nrm;refine az.value hK (.pointer (Nq c)) rfl rfl (by k_ne) (λ_=>by go_simp) (λ_=>by simp[go_sem]) ?_;walk_nrm;refine az.value hK (.int .i64 1) rfl rfl (by k_ne) (λ_=>by go_simp) (λ_=>by simp[go_sem]) ?_;walk_nrm;exact az.stop a
theorem IY[JunkSet]{d:NJ Ny}(g:d.size=60){D:Nu Qa}{b:Nu NS}{f c A i N:NA}{av:Ny}{l:NO OX}{k:NA}{w:Nt}(p:d[2]?.getD NG=pt A)(o:d[3]?.getD NG=pt c)(hA:∀w₁,RC Fz K S w w₁->w₁.cell? A=Nq (.slice l N k))(j:Fz A)(h:A<w.heap.size)(hi:i<N)(hN:N<=1000000)(a:∀w₁,RC Fz K S w w₁->Stop S (G ((Oq 142).at ⟨#[pt c,NG,.bool NC,pt c,pt c,pt c,NG,NG],[]⟩ [.inRegion mK [3,4,5],.code .ret]) (f2 ((((((((d.setIfInBounds 12 (.int .i64 (i+1))).setIfInBounds 13 (.int .i64 i)).setIfInBounds 7 (.int .i64 i)).setIfInBounds 14 (.int .i64 i)).setIfInBounds 15 (.slice l N k)).setIfInBounds 16 (.int .i64 N)).setIfInBounds 17 (.bool NC)).setIfInBounds 18 (.bool NC)) D::b)) w₁) :az NV Fz K Stop S (G ((Oq 141).at ⟨#[pt f,.int .i64 1,NG,NG,.int .i64 0,pt f,pt f,pt f,.int .i64 1,.int .i64 (i+1)],[]⟩ [.inRegion mM [5],.code .ret]) (f1 d D::b)) w:=by
 obtain⟨y0,y1,y2,y3,y4,y5,y6,y7,y8,y9,e9,e8,e7,e6,e5,e4,d9,d8,d7,d6,d5,c9,c8,c3,b9,b8,b7,b6,b0,a9,a8,a7,a6,Z,Y,X,W,V,U,T,R,Q,P,O,M,L,I,H,F,C,B,z,y,x,v,u,t,s,r,q,rfl⟩:=rG d g;simp only[f1,f2,c20,wX,Jj,FW,mM,mK,wLB,dZ,dJ,SJ,Vh,UG,NK,sqA,sqB,inn,aY] at a ⊢;simp at p o;subst p o;simp only[List.setIfInBounds_toArray,List.set_cons_succ,List.set_cons_zero] at a;simp only[pt] at a ⊢;have g5:IntKind.i64.wrap (i:NH)=i:=Ov _ (by omega);refine az.value hK (.int .i64 (i+1)) rfl rfl (by k_ne) (λ_=>by go_simp) (λ_=>by simp[go_sem]) ?_;walk_nrm;refine az.region_end hK ?_;refine az.retS hK ?_;refine az.leave1 hK rfl rfl Tryz.func141 rfl ?_;walk_nrm;refine az.value hK (.int .i64 i) rfl rfl (by k_ne) (λ_=>by go_simp) (λ_=>by simp[go_sem]) ?_;walk_nrm;refine az.value hK (.int .i64 i) rfl rfl (by k_ne) (λ_=>by go_simp) (λ_=>by simp[go_sem]) ?_;walk_nrm;refine az.region_end hK ?_;refine az.seq hK ?_;refine az.seq hK ?_;refine az.region hK ?_;simp only[Ox,NQ,NU,Oh,Oc,Oo,Pf];refine az.value hK (.int .i64 i) rfl rfl (by k_ne) (λ_=>by go_simp) (λ_=>by simp[go_sem]) ?_;walk_nrm;refine az.load hK (.slice l N k) rfl rfl (by k_ne) (λw₁ h₁=>?_) ?_
 ·have hc:=hA w₁ h₁;refine⟨by go_simp,λe n=>?_⟩;simp[go_sem,hc] at n;rw[n];exact zk j (NX h h₁.size)
 walk_nrm;refine az.value hK (.int .i64 N) rfl rfl (by k_ne) (λ_=>by go_simp) (λ_=>by simp[go_sem]) ?_;walk_nrm;refine az.value hK (.bool NC) rfl rfl (by k_ne) (λ_=>by go_simp) (λ_=>by simp[go_sem]) ?_;walk_nrm;refine az.value hK (.bool NC) rfl rfl (by k_ne) (λ_=>by go_simp) (λ_=>by simp[go_sem]) ?_;walk_nrm;refine az.enter hK rfl rfl (by k_ne) rfl UU (by kernel_rfl) rfl ?_
 walk_nrmf UG
 refine az.seq hK ?_;refine az.region hK ?_;simp only[Ox,NQ,NU,Oh,Oc,Oo,Pf];refine az.value hK (.bool NC) rfl rfl (by k_ne) (λ_=>by go_simp) (λ_=>by simp[go_sem]) ?_;walk_nrm;refine az.region_end hK ?_;refine az.seq hK ?_;refine az.region hK ?_;simp only[Ox,NQ,NU,Oh,Oc,Oo,Pf];refine az.value hK (.pointer (Nq c)) rfl rfl (by k_ne) (λ_=>by go_simp) (λ_=>by simp[go_sem]) ?_;walk_nrm;refine az.value hK (.pointer (Nq c)) rfl rfl (by k_ne) (λ_=>by go_simp) (λ_=>by simp[go_sem]) ?_;walk_nrm;refine az.value hK (.pointer (Nq c)) rfl rfl (by k_ne) (λ_=>by go_simp) (λ_=>by simp[go_sem]) ?_;walk_nrm;exact az.stop a
end
end
end Go.Proofs.YtidgnkmjgioapaaGreat
